/- Words and contracts, part 25. -/
import Derived.Test.YtmgaloopddiekaaGreatDoorClaimFargsp24
set_option maxRecDepth 100000
set_option maxHeartbeats 0
namespace Go.Proofs.YtmgaloopddiekaaGreatDoor
open Go.Lib (hid)
open Go.RowKit
theorem Aa7 {xs ys:List Nat}(hl:xs.length=ys.length)(h:∀ i,i<xs.length→nth xs i=nth ys i):xs=ys:=by
 apply List.ext_getElem hl;intro i h1 h2;have:=h i h1;unfold nth at this;rw [List.getD_eq_getElem?_getD,List.getD_eq_getElem?_getD,List.getElem?_eq_getElem h1,List.getElem?_eq_getElem h2] at this;exact this
theorem Afe {w:World}{v u:Value}{xs ys:List Nat}(hv:Lim w v xs)(hu:Lim w u ys)(hl:xs.length≤17592186044416) :
 Calls Tryz.prog 194 #[v,u] w (RetK (.bool (xs==ys)) w):=by
 obtain ⟨hs,A,c,rfl,hc,hA⟩:=hv;obtain ⟨hs',A',c',rfl,hc',hA'⟩:=hu;by_cases hne:xs.length=ys.length
 ·have hlb:((xs.length:Int)==(ys.length:Int))=true:=by rw [beq_iff_eq];omega
  have HE:=hid hne;obtain ⟨n,hn⟩:∃ n,n=xs.length:=⟨_,rfl⟩;have hn2:n=ys.length:=by omega
  rw [←hn] at hl hc hA ⊢;rw [←hn2] at hc' hA' ⊢;rw [←hn,←hn2] at hlb;have HA:=hid hA;have HA':=hid hA';have HS:=hid hs;have HS':=hid hs';have HN:=hid hn;clear hA hA' hs hs' hn hn2 hne hlb;have hlb:((n:Int)==(n:Int))=true:=by rw [beq_iff_eq]
  go_enter Tryz.func194,Tryz.ntmps194;go_wp2_with fail
  go_loopw [13] (fun t wr=>∃ k:Nat,k≤n∧t=.int .i64 k∧(∀ i,i<k→nth xs i=nth ys i)∧Kept w wr) (fun t _=>(n-intOf t).toNat)
  case atStart=>exact ⟨0,Nat.zero_le _,rfl,fun i hi=>absurd hi (Nat.not_lt_zero _),Below.refl _ _⟩
  case round =>
   obtain ⟨k,hk,rfl,heq,hK⟩:=hrel;have K:=hid hK;clear hK;have HQ:=hid heq;clear heq;by_cases hlt:k<n
   ·obtain ⟨b,off,rfl,hb,hcell⟩:=HA.out (by omega);obtain ⟨b',off',rfl,hb',hcell'⟩:=HA'.out (by omega);have h1:=fun w1 (q:Kept wr w1)=>((K.out.trans q).cell (p:=⟨b,off+k,none⟩) hb).trans (hcell k hlt)
    have h2:=fun w1 (q:Kept wr w1)=>((K.out.trans q).cell (p:=⟨b',off'+k,none⟩) hb').trans (hcell' k hlt)
    have H1:=hid h1;have H2:=hid h2;have hx0:(0:Int)≤(k:Int):=by omega
    have hx1:(k:Int)<(n:Int):=by omega
    clear hcell hcell' h1 h2;by_cases hxy:nth xs k=nth ys k
    ·have hb1:(((nth xs k:Nat):Int) != ((nth ys k:Nat):Int))=false:=by simp [hxy]
     have HXY:=hid hxy;clear hxy;generalize hgx:nth xs k=x at *;generalize hgy:nth ys k=y at *;have GX:=hid hgx;have GY:=hid hgy;clear hgx hgy;go_wp2_with fail
     refine rgL 9 ([(vE (.slice (some ⟨b,off,none⟩) n c)),(vE (.int .i64 k)),(vE (.pointer (some ⟨b,off+k,none⟩))),(vE (.int .u64 x)),(vE (.slice (some ⟨b',off',none⟩) n c')),(vE (.int .i64 k)),(vE (.pointer (some ⟨b',off'+k,none⟩))),(vE (.int .u64 y)),(vE (.bool false))])
      ⟨
       (gq 0),(gq 5),(gvv 0 16 1 17),(fun aF wF F=>by have s18:=F.v 2 18;exact sw (by have h:=H1.out _ F.kept;go_simp) rfl),(gq 1),(gq 5),(gvv 4 20 5 21),(fun aF wF F=>by have s22:=F.v 6 22;exact sw (by have h:=H2.out _ F.kept;go_simp) rfl),(gvv 3 19 7 23),
       trivial⟩ ?_
     intro u w1 k1 hu;simp only [Bl,Au,if_true,Act.put,zlA,zlB,zlC,zlD,zlE,zlF,zlG,hv hu 0,hv hu 1,hv hu 2,hv hu 3,hv hu 4,hv hu 5,hv hu 6,hv hu 7,hv hu 8];clear hu;go_wp2_with fail;go_roundw
     case rel =>
      refine ⟨k+1,by omega,by go_num,fun i hi=>?_,K.out.trans k1⟩;by_cases hik:i=k
      ·rw [hik,GX.out,GY.out];exact HXY.out
      ·exact HQ.out i (by omega)
     case measure=>simp [intOf];omega
    ·have hb1:(((nth xs k:Nat):Int) != ((nth ys k:Nat):Int))=true:=by simp;omega
     have hres:(xs==ys)=false:=by
      rw [beq_eq_false_iff_ne];intro h;exact hxy (by rw [h])
     rw [hres];clear hres;have HXY:=hid hxy;clear hxy;generalize hgx:nth xs k=x at *;generalize hgy:nth ys k=y at *;have GX:=hid hgx;have GY:=hid hgy;clear hgx hgy;go_wp2_with fail
     refine rgL 9 ([(vE (.slice (some ⟨b,off,none⟩) n c)),(vE (.int .i64 k)),(vE (.pointer (some ⟨b,off+k,none⟩))),(vE (.int .u64 x)),(vE (.slice (some ⟨b',off',none⟩) n c')),(vE (.int .i64 k)),(vE (.pointer (some ⟨b',off'+k,none⟩))),(vE (.int .u64 y)),(vE (.bool true))])
      ⟨
       (gq 0),(gq 5),(gvv 0 16 1 17),(fun aF wF F=>by have s18:=F.v 2 18;exact sw (by have h:=H1.out _ F.kept;go_simp) rfl),(gq 1),(gq 5),(gvv 4 20 5 21),(fun aF wF F=>by have s22:=F.v 6 22;exact sw (by have h:=H2.out _ F.kept;go_simp) rfl),(gvv 3 19 7 23),
       trivial⟩ ?_
     intro u w1 k1 hu;simp only [Bl,Au,if_true,Act.put,zlA,zlB,zlC,zlD,zlE,zlF,zlG,hv hu 0,hv hu 1,hv hu 2,hv hu 3,hv hu 4,hv hu 5,hv hu 6,hv hu 7,hv hu 8];clear hu;go_wp2_with fail;go_ret;exact ⟨rfl,K.out.trans k1⟩
   ·obtain rfl:k=n:=by omega
    have hres:(xs==ys)=true:=by
     rw [beq_iff_eq];exact Aa7 HE.out (fun i hi=>HQ.out i (by have:=HN.out;omega))
    go_wp2_with fail;go_ret;exact ⟨by rw [hres];rfl,K.out⟩
 ·have hres:(xs==ys)=false:=by
   rw [beq_eq_false_iff_ne];intro h;exact hne (by rw [h])
  rw [hres];have hlb:((xs.length:Int)==(ys.length:Int))=false:=by rw [beq_eq_false_iff_ne];omega
  clear hA hA' hs hs' hne hres;generalize xs.length=n at *;generalize ys.length=n' at *;go_enter Tryz.func194,Tryz.ntmps194;go_wp2_with fail;go_ret;exact ⟨rfl,Below.refl _ _⟩
def Ka (a b:Raw):Bool:=(a.neg==b.neg)&&(a.e==b.e)&&(a.m==b.m)
theorem Yf {w:World}{v u:Value}{a b:Raw}(ha:DyR w v a)(hb:DyR w u b)(hl:a.m.length≤17592186044416) :
 Calls Tryz.prog 165 #[v,u] w (RetK (.bool (Ka a b)) w):=by
 obtain ⟨A,l,c,rfl,-,la,-,-⟩:=ha.shape;obtain ⟨A2,l2,c2,rfl,-,lb,-,-⟩:=hb.shape;have he:=fun w1 (k:Kept w w1)=>Afe (la.kept k) (lb.kept k) hl
 unfold Ka;have HE:=hid he;clear he la lb ha hb hl;generalize (a.m==b.m)=r3 at *;generalize a.neg=n1 at *;generalize a.e=e1 at *;generalize b.neg=n2 at *;generalize b.e=e2 at *;obtain ⟨W,hW,kW,B0,B1⟩:=Pc w (.bool n1) (.slice A l c) (.int .i64 e1) (.bool n2) (.slice A2 l2 c2) (.int .i64 e2);have HW:=hid hW;have K:=hid kW;clear hW kW B0 B1;have hr1:(n1==n2)=true∨(n1==n2)=false:=Ay _;have hr2:(e1==e2)=true∨(e1==e2)=false:=Ay _;rcases hr1 with hr1 | hr1
 ·rw [hr1,Bool.true_and];rcases hr2 with hr2 | hr2
  ·rw [hr2,Bool.true_and];go_enter Tryz.func165,Tryz.ntmps165;go_wp2_with fail;rw [←HW.out];refine (HE.out _ K.out).mono ?_;rintro e w1 ⟨rfl,q⟩;simp only [];go_wp2_with fail;go_ret;exact ⟨rfl,K.out.trans q⟩
  ·rw [hr2,Bool.false_and];go_enter Tryz.func165,Tryz.ntmps165;go_wp2_with fail;go_ret;exact ⟨rfl,by have:=K.out;rwa [HW.out] at this⟩
 ·rw [hr1,Bool.false_and,Bool.false_and];clear hr2;go_enter Tryz.func165,Tryz.ntmps165;go_wp2_with fail;go_ret;exact ⟨rfl,by have:=K.out;rwa [HW.out] at this⟩
theorem Ac4 (k:Int)(w:World):Calls Tryz.prog 196 #[.bool true,.int .i64 k] w fun e w'=>e=.returned (.tuple #[])∧w=w':=by
 go_enter Tryz.func196,Tryz.ntmps196;go_wp2
 go_end0
 exact ⟨rfl,rfl⟩
theorem Zx (k:Int)(w:World):Calls Tryz.prog 196 #[.bool false,.int .i64 k] w fun e w'=>e=.panicked (Ch 189 k)∧w=w':=by
 go_enter Tryz.func196,Tryz.ntmps196;go_wp2;exact ⟨rfl,rfl,rfl⟩
theorem Lg (b:Bool)(k:Int)(w:World):Calls Tryz.prog 196 #[.bool b,.int .i64 k] w fun e w'=>e=Rl 189 b k∧w=w':=by
 cases b
 ·exact Zx k w
 ·exact Ac4 k w
theorem J3 (k:Int)(w:World):Calls Tryz.prog 196 #[.bool true,.int .i64 k] w (RetK (.tuple #[]) w):=(Lg true k w).mono fun _ _ ⟨he,hw⟩=>⟨he,hw▸Below.refl _ _⟩
theorem Nt (k:Int)(w:World):(Instr.typeAssert (.iface 189 (.agg #[.int .i64 k])) 20 189 true).run Tryz.prog w=.ok (.tuple #[.agg #[.int .i64 k],.bool true]) w:=by
 kernel_rfl
theorem Oi (w:World):(Instr.typeAssert .nilIface 20 189 true).run Tryz.prog w=.ok (.tuple #[.agg #[.int .i64 0],.bool false]) w:=by
 kernel_rfl
theorem Gk {w:World}{v:Value}{d:Dy}{k:Int}(hv:DyR w v d.raw) :
 Calls Tryz.prog 171 #[v,.int .i64 k] w (Goes 189 (Outc.raw ⟨d,k⟩) w):=by
 obtain ⟨A,l,c,rfl,-,la,xa,xb⟩:=hv.shape;obtain ⟨W,hW,kW,B0,BR⟩:=Sf w (.bool d.neg) (.slice A l c) (.int .i64 d.e);have HW:=hid hW;have K:=hid kW;have HB:=hid B0;have HR:=hid BR;have LA:=hid la;have BX:=hid (And.intro xa xb);clear hW kW B0 BR la xa xb hv;simp only [Dy.raw] at *;generalize hgn:d.neg=n1 at *;generalize hge:d.e=e1 at *;have GN:=hid hgn;have GE:=hid hge;clear hgn hge;by_cases hk:k=0
 ·subst hk;go_enter Tryz.func171,Tryz.ntmps171
  go_wp2_with (go_at_call 196;rw [←HW.out];refine (J3 0 _).mono ?_;rintro e w1 ⟨rfl,q⟩;replace K:=hid (K.out.trans q);have hb:=HB.out.kept q;have hr:=HR.out.kept q;obtain ⟨-,a0,a1,a2,-⟩:=hb.facts;obtain ⟨_,c0,c1,c2,f0,f1,f2⟩:=hr.facts;have HR2:=hid hr;clear hb hr q)
  exact Co (HR2.out.laid _ _ _) rfl rfl rfl ⟨Bj K.out (by omega),.inl ⟨rfl,_,rfl,by
   have:=((LA.out.kept K.out).dyW (x':=.bool n1) (y':=.slice A l c) (z':=.int .i64 e1) HR2.out (An _) (Ak _ _ _) (Aq _)).dyR (r:=⟨n1,limbs d.m,e1⟩) BX.out.1 BX.out.2
   show DyR _ _ ⟨d.neg,limbs d.m,d.e⟩
   rw [GN.out,GE.out];exact this⟩⟩
 ·have hkb:(k==0)=false:=by rw [beq_eq_false_iff_ne];exact hk
  have HKK:=hid hk;clear hk;go_enter Tryz.func171,Tryz.ntmps171
  go_wp2_with (go_at_call 196;rw [←HW.out];refine (Lg _ _ _).mono ?_;rintro e w3 ⟨he,rfl⟩;obtain rfl:e=.panicked (Ch 189 _):=he)
  exact ⟨rfl,K.out,.inr ⟨HKK.out,rfl⟩⟩
theorem Yh {w:World}{x s z:Value}{r:Raw}(h:DyR w (.agg #[x,s,z]) r):Lim w s r.m∧-9223372036854775808≤r.e∧r.e≤9223372036854775807:=by
 obtain ⟨s',he,hs,h1,h2⟩:=h;injection he with he;injection he with he
 simp only [List.cons.injEq,and_true] at he;rw [he.2.1];exact ⟨hs,h1,h2⟩
theorem Ur (l:List Dy)(x:Dy):∀ d,Cs d (l++[x])=if Ce x.q (Cs d l).q<0 then x else Cs d l:=by
 induction l with
 | nil=>intro d;rfl
 | cons y l ih=>intro d;simp only [List.cons_append,Cs];exact ih _
theorem Pp (l:List Dy)(x:Dy):∀ d,Bw d (l++[x])=if 0<Ce x.q (Bw d l).q then x else Bw d l:=by
 induction l with
 | nil=>intro d;rfl
 | cons y l ih=>intro d;simp only [List.cons_append,Bw];exact ih _
theorem Yr {w:World}{v:Value}{d0:Dy}{l:List Dy}(hv:DyS w v (d0::l))(hl:okL (d0::l))(hn:(d0::l).length≤1000) :
 Calls Tryz.prog 173 #[v] w (RetD (Cs d0 (d0::l)).raw w):=by
 obtain ⟨A,c,rfl,hc,hA⟩:=hv;obtain ⟨b,off,rfl,hd⟩:=hA (by simp);have hat:=hd 0 d0 rfl;rw [Nat.zero_mul,Nat.add_zero] at hat;obtain ⟨s,h0,h1,h2,hR⟩:=hat;have hok0:=hl d0 (List.mem_cons_self ..);obtain ⟨L,hL⟩:∃ L,L=d0::l:=⟨_,rfl⟩;rw [←hL] at hd hl hn hc ⊢;obtain ⟨n,hn'⟩:∃ n,n=L.length:=⟨_,rfl⟩;rw [←hn'] at hn hc ⊢;have hn0:0<n:=by rw [hn',hL];simp
 have lb:=Bg h0;simp only at lb;obtain ⟨A1,l1,c1,es,-,-,-,-⟩:=hR.shape;injection es with es;injection es with es
 simp only [List.cons.injEq,and_true] at es;obtain rfl:=es.2.1;clear es hA;have HD:=hid hd;have HL:=hid hl;have HN:=hid hn';have HR:=hid hR;have HO:=hid hok0;have HLL:=hid hL;clear hd hl hn' hR hok0 hL;obtain ⟨n0,hg1⟩:∃ x,x=d0.neg:=⟨_,rfl⟩;obtain ⟨e0,hg2⟩:∃ x,x=d0.e:=⟨_,rfl⟩;rw [←hg1] at h0;rw [←hg2] at h2;have G1:=hid hg1;have G2:=hid hg2;clear hg1 hg2;go_enter Tryz.func173,Tryz.ntmps173;go_wp2_with fail
 go_loopw [11] (fun t wr=>∃ (k:Nat) (cur:Dy) (Ac:Option Addr) (lc cc:Nat),k≤n∧t=.int .i64 k∧cur=Cs d0 (L.take k)∧cur.Ok∧DyR w (.agg #[.bool cur.neg,.slice Ac lc cc,.int .i64 cur.e]) cur.raw ∧
  Blk wr (w.heap.size+1) (.bool cur.neg) (.slice Ac lc cc) (.int .i64 cur.e)∧Blk wr w.heap.size (.bool false) (.slice none 0 0) (.int .i64 0)∧Kept w wr) (fun t _=>(n-intOf t).toNat)
 case atStart =>
  refine ⟨0,d0,A1,l1,c1,Nat.zero_le _,rfl,rfl,HO.out,HR.out,?_,Bn (Gg w) _,(Ad _ _).trans (Ad _ _)⟩;rw [←G1.out,←G2.out];exact C8 _ _ _ _ _
 case round =>
  obtain ⟨k,cur,Ac,lc,cc,hk,rfl,hcur,hok,hRc,hB1,hB0,hK⟩:=hrel;have K:=hid hK;have HB1:=hid hB1;have HB0:=hid hB0;have HC:=hid hcur;have HRC:=hid hRc;have HOK:=hid hok;clear hK hcur hRc hok;by_cases hlt:k<n
  ·obtain ⟨d,hdk⟩:∃ d,L[k]?=some d:=⟨_,List.getElem?_eq_getElem (by have:=HN.out;omega)⟩;obtain ⟨s',p0,p1,p2,hRd⟩:=(HD.out k d hdk);obtain ⟨A3,l3,c3,es,-,-,-,-⟩:=hRd.shape;injection es with es;injection es with es
   simp only [List.cons.injEq,and_true] at es;obtain rfl:=es.2.1;clear es;have hokd:=HL.out d (List.mem_of_getElem? hdk);have hnext:Cs d0 (L.take (k+1))=if Ce d.q cur.q<0 then d else cur:=by
    rw [List.take_succ_eq_append_getElem (by have:=HN.out;omega)];have:L[k]'(by have:=HN.out;omega)=d:=by
     rw [List.getElem?_eq_getElem (by have:=HN.out;omega)] at hdk;exact Option.some.inj hdk
    rw [this,Ur,←HC.out]
   have hcmp:=fun w1 (q:Kept w w1)=>Hp (hRd.kept q) (HRC.out.kept q) hokd HOK.out
   have q0:=(K.out.cell (p:=⟨b,off+k*3,none⟩) lb).trans p0;have q1:=(K.out.cell (p:=⟨b,off+k*3+1,none⟩) lb).trans p1;have q2:=(K.out.cell (p:=⟨b,off+k*3+2,none⟩) lb).trans p2;have HCM:=hid hcmp;have HRD:=hid hRd;have HOD:=hid hokd;have HNX:=hid hnext;clear hnext hcmp hRd hokd hdk p0 p1 p2 h0 h1 h2;obtain ⟨lb1,r0,r1,r2,g0,g1,g2⟩:=hB1.facts;clear hB1 hB0;generalize hcc:Ce d.q cur.q=cmp at *;clear hcc;obtain ⟨nd,hnd⟩:∃ x,x=d.neg:=⟨_,rfl⟩;obtain ⟨ed,hed⟩:∃ x,x=d.e:=⟨_,rfl⟩;obtain ⟨nc,hnc⟩:∃ x,x=cur.neg:=⟨_,rfl⟩;obtain ⟨ec,hec⟩:∃ x,x=cur.e:=⟨_,rfl⟩;rw [←hnd] at q0 HCM HRD;rw [←hed] at q2 HCM HRD;rw [←hnc] at r0 HCM HRC HB1
   rw [←hec] at r2 HCM HRC HB1;have X1:=hid hnd;have X2:=hid hed;have X3:=hid hnc;have X4:=hid hec;clear hnd hed hnc hec;by_cases hc:cmp<0
   ·have hd':decide (cmp<0)=true:=by simp [hc]
    have hnx:=HNX.out;rw [if_pos hc] at hnx;clear hc HNX;have HNX:=hid hnx;clear hnx;go_wp2_with fail;refine (HCM.out _ (K.out.trans (Ad _ _))).mono ?_;rintro e w2 ⟨rfl,q⟩;have hx:=(blk_new wr (.bool nd) (.slice A3 l3 c3) (.int .i64 ed)).kept q;have hb1:=HB1.out.kept ((Ad _ _).trans q);have hb0:=HB0.out.kept ((Ad _ _).trans q);replace K:=hid (K.out.trans ((Ad _ _).trans q));clear q lb1 r0 r1 r2 g0 g1 g2;obtain ⟨_,t0,t1,t2,-⟩:=hx.facts;obtain ⟨lb1,r0,r1,r2,g0,g1,g2⟩:=hb1.facts;have HX1:=hid hb1;have HX0:=hid hb0;clear hx hb1 hb0;simp only [];go_wp2_with fail;go_roundw
    case rel =>
     refine ⟨k+1,d,A3,l3,c3,by omega,by go_num,HNX.out.symm,HOD.out,?_,?_,HX0.out.laid_other (by omega) _ _ _,Bj K.out (by omega)⟩
     ·rw [←X1.out,←X2.out];exact HRD.out
     ·rw [←X1.out,←X2.out];exact HX1.out.laid _ _ _
    case measure=>simp [intOf];omega
   ·have hd':decide (cmp<0)=false:=by simp [hc]
    have hnx:=HNX.out;rw [if_neg hc] at hnx;clear hc HNX;have HNX:=hid hnx;clear hnx;go_wp2_with fail;refine (HCM.out _ (K.out.trans (Ad _ _))).mono ?_;rintro e w2 ⟨rfl,q⟩;have hx:=(blk_new wr (.bool nd) (.slice A3 l3 c3) (.int .i64 ed)).kept q;have hb1:=HB1.out.kept ((Ad _ _).trans q);have hb0:=HB0.out.kept ((Ad _ _).trans q);replace K:=hid (K.out.trans ((Ad _ _).trans q));clear q lb1 r0 r1 r2 g0 g1 g2;obtain ⟨_,t0,t1,t2,-⟩:=hx.facts;obtain ⟨lb1,r0,r1,r2,g0,g1,g2⟩:=hb1.facts;have HX1:=hid hb1;have HX0:=hid hb0;clear hx hb1 hb0;simp only [];go_wp2_with fail;go_roundw
    case rel =>
     refine ⟨k+1,cur,Ac,lc,cc,by omega,by go_num,HNX.out.symm,HOK.out,?_,?_,HX0.out,K.out⟩
     ·rw [←X3.out,←X4.out];exact HRC.out
     ·rw [←X3.out,←X4.out];exact HX1.out
    case measure=>simp [intOf];omega
  ·obtain rfl:k=n:=by omega
   have hfin:Cs d0 L=cur:=by rw [HC.out,List.take_of_length_le (by have:=HN.out;omega)]
   obtain ⟨_,r0,r1,r2,-⟩:=hB1.facts;obtain ⟨_,c0,c1',c2,f0,f1,f2⟩:=hB0.facts;have HF:=hid hfin;obtain ⟨lim,xa,xb⟩:=Yh HRC.out;have LIM:=hid lim;have BX:=hid (And.intro xa xb);clear hfin hB1 hB0 lim xa xb;go_wp2_with fail;refine Co (HB0.out.laid _ _ _) rfl rfl rfl ⟨Bj K.out (Nat.le_refl _),_,rfl,?_⟩;rw [HF.out];exact ((LIM.out.kept K.out).dyW HB0.out (An _) (Ak _ _ _) (Aq _)).dyR (r:=cur.raw) BX.out.1 BX.out.2
theorem Pq {w:World}{v:Value}{d0:Dy}{l:List Dy}(hv:DyS w v (d0::l))(hl:okL (d0::l))(hn:(d0::l).length≤1000) :
 Calls Tryz.prog 175 #[v] w (RetD (Bw d0 (d0::l)).raw w):=by
 obtain ⟨A,c,rfl,hc,hA⟩:=hv;obtain ⟨b,off,rfl,hd⟩:=hA (by simp);have hat:=hd 0 d0 rfl;rw [Nat.zero_mul,Nat.add_zero] at hat;obtain ⟨s,h0,h1,h2,hR⟩:=hat;have hok0:=hl d0 (List.mem_cons_self ..);obtain ⟨L,hL⟩:∃ L,L=d0::l:=⟨_,rfl⟩;rw [←hL] at hd hl hn hc ⊢;obtain ⟨n,hn'⟩:∃ n,n=L.length:=⟨_,rfl⟩;rw [←hn'] at hn hc ⊢;have hn0:0<n:=by rw [hn',hL];simp
 have lb:=Bg h0;simp only at lb;obtain ⟨A1,l1,c1,es,-,-,-,-⟩:=hR.shape;injection es with es;injection es with es
 simp only [List.cons.injEq,and_true] at es;obtain rfl:=es.2.1;clear es hA;have HD:=hid hd;have HL:=hid hl;have HN:=hid hn';have HR:=hid hR;have HO:=hid hok0;have HLL:=hid hL;clear hd hl hn' hR hok0 hL;obtain ⟨n0,hg1⟩:∃ x,x=d0.neg:=⟨_,rfl⟩;obtain ⟨e0,hg2⟩:∃ x,x=d0.e:=⟨_,rfl⟩;rw [←hg1] at h0;rw [←hg2] at h2;have G1:=hid hg1;have G2:=hid hg2;clear hg1 hg2;go_enter Tryz.func175,Tryz.ntmps175;go_wp2_with fail
 go_loopw [11] (fun t wr=>∃ (k:Nat) (cur:Dy) (Ac:Option Addr) (lc cc:Nat),k≤n∧t=.int .i64 k∧cur=Bw d0 (L.take k)∧cur.Ok∧DyR w (.agg #[.bool cur.neg,.slice Ac lc cc,.int .i64 cur.e]) cur.raw ∧
  Blk wr (w.heap.size+1) (.bool cur.neg) (.slice Ac lc cc) (.int .i64 cur.e)∧Blk wr w.heap.size (.bool false) (.slice none 0 0) (.int .i64 0)∧Kept w wr) (fun t _=>(n-intOf t).toNat)
 case atStart =>
  refine ⟨0,d0,A1,l1,c1,Nat.zero_le _,rfl,rfl,HO.out,HR.out,?_,Bn (Gg w) _,(Ad _ _).trans (Ad _ _)⟩;rw [←G1.out,←G2.out];exact C8 _ _ _ _ _
 case round =>
  obtain ⟨k,cur,Ac,lc,cc,hk,rfl,hcur,hok,hRc,hB1,hB0,hK⟩:=hrel;have K:=hid hK;have HB1:=hid hB1;have HB0:=hid hB0;have HC:=hid hcur;have HRC:=hid hRc;have HOK:=hid hok;clear hK hcur hRc hok;by_cases hlt:k<n
  ·obtain ⟨d,hdk⟩:∃ d,L[k]?=some d:=⟨_,List.getElem?_eq_getElem (by have:=HN.out;omega)⟩;obtain ⟨s',p0,p1,p2,hRd⟩:=(HD.out k d hdk);obtain ⟨A3,l3,c3,es,-,-,-,-⟩:=hRd.shape;injection es with es;injection es with es
   simp only [List.cons.injEq,and_true] at es;obtain rfl:=es.2.1;clear es;have hokd:=HL.out d (List.mem_of_getElem? hdk);have hnext:Bw d0 (L.take (k+1))=if 0<Ce d.q cur.q then d else cur:=by
    rw [List.take_succ_eq_append_getElem (by have:=HN.out;omega)];have:L[k]'(by have:=HN.out;omega)=d:=by
     rw [List.getElem?_eq_getElem (by have:=HN.out;omega)] at hdk;exact Option.some.inj hdk
    rw [this,Pp,←HC.out]
   have hcmp:=fun w1 (q:Kept w w1)=>Hp (hRd.kept q) (HRC.out.kept q) hokd HOK.out
   have q0:=(K.out.cell (p:=⟨b,off+k*3,none⟩) lb).trans p0;have q1:=(K.out.cell (p:=⟨b,off+k*3+1,none⟩) lb).trans p1;have q2:=(K.out.cell (p:=⟨b,off+k*3+2,none⟩) lb).trans p2;have HCM:=hid hcmp;have HRD:=hid hRd;have HOD:=hid hokd;have HNX:=hid hnext;clear hnext hcmp hRd hokd hdk p0 p1 p2 h0 h1 h2;obtain ⟨lb1,r0,r1,r2,g0,g1,g2⟩:=hB1.facts;clear hB1 hB0;generalize hcc:Ce d.q cur.q=cmp at *;clear hcc;obtain ⟨nd,hnd⟩:∃ x,x=d.neg:=⟨_,rfl⟩;obtain ⟨ed,hed⟩:∃ x,x=d.e:=⟨_,rfl⟩;obtain ⟨nc,hnc⟩:∃ x,x=cur.neg:=⟨_,rfl⟩;obtain ⟨ec,hec⟩:∃ x,x=cur.e:=⟨_,rfl⟩;rw [←hnd] at q0 HCM HRD;rw [←hed] at q2 HCM HRD;rw [←hnc] at r0 HCM HRC HB1
   rw [←hec] at r2 HCM HRC HB1;have X1:=hid hnd;have X2:=hid hed;have X3:=hid hnc;have X4:=hid hec;clear hnd hed hnc hec;by_cases hc:0<cmp
   ·have hd':decide (0<cmp)=true:=by simp [hc]
    have hnx:=HNX.out;rw [if_pos hc] at hnx;clear hc HNX;have HNX:=hid hnx;clear hnx;go_wp2_with fail;refine (HCM.out _ (K.out.trans (Ad _ _))).mono ?_;rintro e w2 ⟨rfl,q⟩;have hx:=(blk_new wr (.bool nd) (.slice A3 l3 c3) (.int .i64 ed)).kept q;have hb1:=HB1.out.kept ((Ad _ _).trans q);have hb0:=HB0.out.kept ((Ad _ _).trans q);replace K:=hid (K.out.trans ((Ad _ _).trans q));clear q lb1 r0 r1 r2 g0 g1 g2;obtain ⟨_,t0,t1,t2,-⟩:=hx.facts;obtain ⟨lb1,r0,r1,r2,g0,g1,g2⟩:=hb1.facts;have HX1:=hid hb1;have HX0:=hid hb0;clear hx hb1 hb0;simp only [];go_wp2_with fail;go_roundw
    case rel =>
     refine ⟨k+1,d,A3,l3,c3,by omega,by go_num,HNX.out.symm,HOD.out,?_,?_,HX0.out.laid_other (by omega) _ _ _,Bj K.out (by omega)⟩
     ·rw [←X1.out,←X2.out];exact HRD.out
     ·rw [←X1.out,←X2.out];exact HX1.out.laid _ _ _
    case measure=>simp [intOf];omega
   ·have hd':decide (0<cmp)=false:=by simp [hc]
    have hnx:=HNX.out;rw [if_neg hc] at hnx;clear hc HNX;have HNX:=hid hnx;clear hnx;go_wp2_with fail;refine (HCM.out _ (K.out.trans (Ad _ _))).mono ?_;rintro e w2 ⟨rfl,q⟩;have hx:=(blk_new wr (.bool nd) (.slice A3 l3 c3) (.int .i64 ed)).kept q;have hb1:=HB1.out.kept ((Ad _ _).trans q);have hb0:=HB0.out.kept ((Ad _ _).trans q);replace K:=hid (K.out.trans ((Ad _ _).trans q));clear q lb1 r0 r1 r2 g0 g1 g2;obtain ⟨_,t0,t1,t2,-⟩:=hx.facts;obtain ⟨lb1,r0,r1,r2,g0,g1,g2⟩:=hb1.facts;have HX1:=hid hb1;have HX0:=hid hb0;clear hx hb1 hb0;simp only [];go_wp2_with fail;go_roundw
    case rel =>
     refine ⟨k+1,cur,Ac,lc,cc,by omega,by go_num,HNX.out.symm,HOK.out,?_,?_,HX0.out,K.out⟩
     ·rw [←X3.out,←X4.out];exact HRC.out
     ·rw [←X3.out,←X4.out];exact HX1.out
    case measure=>simp [intOf];omega
  ·obtain rfl:k=n:=by omega
   have hfin:Bw d0 L=cur:=by rw [HC.out,List.take_of_length_le (by have:=HN.out;omega)]
   obtain ⟨_,r0,r1,r2,-⟩:=hB1.facts;obtain ⟨_,c0,c1',c2,f0,f1,f2⟩:=hB0.facts;have HF:=hid hfin;obtain ⟨lim,xa,xb⟩:=Yh HRC.out;have LIM:=hid lim;have BX:=hid (And.intro xa xb);clear hfin hB1 hB0 lim xa xb;go_wp2_with fail;refine Co (HB0.out.laid _ _ _) rfl rfl rfl ⟨Bj K.out (Nat.le_refl _),_,rfl,?_⟩;rw [HF.out];exact ((LIM.out.kept K.out).dyW HB0.out (An _) (Ak _ _ _) (Aq _)).dyR (r:=cur.raw) BX.out.1 BX.out.2
def laidI (w:World) (b2 b3:Nat) (x y z x' y' z' q:Value) (o:Obj):World:=((ivW w b2 x y z x' y' z').setCell ⟨b3,0,none⟩ q).alloc o
theorem Hi {w:World}{b2 b3:Nat}{a b c a' b' c' q0 x y z x' y' z' q:Value}{T':TypeId}{o:Obj}(h0:BlkI w b2 a b c a' b' c')(h1:w.heap[b3]?=some (.cells #[q0] T' (0,0)))(hne:¬b2=b3) :
 BlkI (laidI w b2 b3 x y z x' y' z' q o) b2 x y z x' y' z'∧(laidI w b2 b3 x y z x' y' z' q o).cell? ⟨b3,0,none⟩=some q:=by
 have l2:b2<w.heap.size:=(Array.getElem?_eq_some_iff.1 h0).1;have l3:b3<w.heap.size:=(Array.getElem?_eq_some_iff.1 h1).1;constructor
 ·unfold BlkI laidI;rw [Below.heap_alloc _ _ _ (by simp [World.setCell,ivW,l2])];exact Aw (h0.laid _ _ _ _ _ _) hne _
 ·have g1:(laidI w b2 b3 x y z x' y' z' q o).heap[b3]?=some (.cells #[q] T' (0,0)):=by
   unfold laidI;rw [Below.heap_alloc _ _ _ (by simp [World.setCell,ivW,l3])];have h2:(ivW w b2 x y z x' y' z').heap[b3]?=some (.cells #[q0] T' (0,0)):=by rw [Jk _ _ _ _ _ _ _ _ _ (fun h=>hne h.symm)];exact h1
   exact Av h2 _
  exact Ag g1 0 _ rfl
theorem Ij {w0 w:World}{b2 b3:Nat}{x y z x' y' z' q:Value}{o:Obj}(h:Kept w0 w)(h2:w0.heap.size≤b2)(h3:w0.heap.size≤b3):Kept w0 (laidI w b2 b3 x y z x' y' z' q o) :=
 ((B8 h h2).setCell (p:=⟨b3,0,none⟩) h3 q).alloc (by simpa [World.setCell,ivW] using h.size) o
theorem DyR.laidI {w:World}{v:Value}{r:Raw}{b2 b3:Nat}{n n':Bool}{A A':Option Addr}{l c l' c':Nat}{e e' q0:Int}{T':TypeId}(h:DyR w v r)(hb:BlkI w b2 (.bool n) (.slice A l c) (.int .i64 e) (.bool n') (.slice A' l' c') (.int .i64 e'))
 (h1:w.heap[b3]?=some (.cells #[.int .i64 q0] T' (0,0))) (hne:¬b2=b3) (x y z x' y' z' q:Value) (o:Obj):DyR (Go.Proofs.YtmgaloopddiekaaGreatDoor.laidI w b2 b3 x y z x' y' z' q o) v r:=by
 obtain ⟨s,rfl,hs,e1,e2⟩:=h;have hs2:=hs.ivW hb x y z x' y' z';have h2:(Go.Proofs.YtmgaloopddiekaaGreatDoor.ivW w b2 x y z x' y' z').cell? ⟨b3,0,none⟩=some (.int .i64 q0):=by
  have h2:(Go.Proofs.YtmgaloopddiekaaGreatDoor.ivW w b2 x y z x' y' z').heap[b3]?=some (.cells #[.int .i64 q0] T' (0,0)):=by rw [Jk _ _ _ _ _ _ _ _ _ (fun h=>hne h.symm)];exact h1
  exact Ag h2 0 _ rfl
 have hs3:=hs2.setCell h2 (Aq _) q;exact ⟨s,rfl,hs3.kept (Ad _ _),e1,e2⟩
theorem Iz (b2 b3:Nat)(w:World)(k:Int)(x y z x' y' z' q:Value)
 (h0:BlkI w b2 x y z x' y' z') (h1:w.heap[b3]?=some (.cells #[q] 3 (0,0))) (hne:¬b2=b3) :
 CallsD Tryz.prog 195 #[.pointer (some ⟨b2,0,none⟩),.pointer (some ⟨b3,0,none⟩)] (.panicking (Ch 189 k)) w fun e u' w' =>
  e = .returned (.tuple #[]) ∧ u' = .panicking [{ v := .iface 189 (.agg #[.int .i64 k]), recovered := true }] ∧
    w'=(laidI w b2 b3 (.bool false) (.slice none 0 0) (.int .i64 0) (.bool false) (.slice none 0 0) (.int .i64 0) (.int .i64 k) (.cells #[.int .i64 k] 189)).drew:=by
 have ha:=Nt k;have l2:b2<w.heap.size:=(Array.getElem?_eq_some_iff.1 h0).1;have l3:b3<w.heap.size:=(Array.getElem?_eq_some_iff.1 h1).1;have n2:¬b2=w.heap.size:=by omega
 have n3:¬b3=w.heap.size:=by omega
 have n2':¬w.heap.size=b2:=by omega
 have n3':¬w.heap.size=b3:=by omega
 have hne':¬b3=b2:=fun h=>hne h.symm
 obtain ⟨-,c0,c1,c2,c3,c4,c5⟩:=h0.facts;obtain ⟨f0,f1,f2,f3,f4,f5⟩:=h0.free;have c30:=Ag h1 0 q rfl;have f30:=Am h1 0;refine callsD_of_wpS Tryz.func195 rfl fun c₀ cs hu=>?_
 simp only [Tryz.ntmps195,List.size_toArray,List.length_cons,List.length_nil,Nat.reduceAdd,Nat.reduceSub,Array.replicate_succ,
  Array.replicate_zero,List.push_toArray,List.append_toArray,List.nil_append,List.cons_append]
 refine Ct (v:=.iface 189 (.agg #[.int .i64 k])) (cs':={ c₀ with mode:=.panicking [{ v:=.iface 189 (.agg #[.int .i64 k]),recovered:=true }] }::cs) (w':=w) rfl ?_ ?_ ?_
 ·simp [go_sem]
 ·rw [recoverD,hu];exact ⟨rfl,rfl⟩
 go_wp2_with fail;go_region
 all_goals exact ⟨rfl,_,rfl,_,results_none rfl _ _ _,rfl,rfl,rfl⟩
theorem Tp (b2 b3:Nat)(w:World) :
 CallsD Tryz.prog 195 #[.pointer (some ⟨b2,0,none⟩),.pointer (some ⟨b3,0,none⟩)] .returning w fun e u' w' =>
  e=.returned (.tuple #[])∧u'=.returning∧w'=w.alloc (.cells #[.int .i64 0] 189):=by
 have ha:=Oi;refine callsD_of_wpS Tryz.func195 rfl fun c₀ cs hu=>?_
 simp only [Tryz.ntmps195,List.size_toArray,List.length_cons,List.length_nil,Nat.reduceAdd,Nat.reduceSub,Array.replicate_succ,
  Array.replicate_zero,List.push_toArray,List.append_toArray,List.nil_append,List.cons_append]
 refine Ct (v:=.nilIface) (cs':=c₀::cs) (w':=w) rfl ?_ ?_ ?_
 ·simp [go_sem]
 ·rw [recoverD,hu];exact ⟨rfl,rfl⟩
 go_wp2_with fail;exact ⟨rfl,.returning,by rw [←hu],_,results_none rfl _ _ _,rfl,rfl,rfl⟩
def Mf (T:TypeId) (o:Outc RawI) (w:World) (e:Ending) (w':World):Prop :=
 Kept w w'∧((o.k=0∧∃ v1 v2,e=.returned (.tuple #[v1,v2])∧DyR w' v1 o.v.lo∧DyR w' v2 o.v.hi)∨(o.k≠0∧e=.panicked (Ch T o.k)))
def IvAt (w:World) (b o:Nat) (a:RawI):Prop:=∃ x y z x' y' z',w.cell? ⟨b,o,none⟩=some x∧w.cell? ⟨b,o+1,none⟩=some y∧w.cell? ⟨b,o+2,none⟩=some z ∧
 w.cell? ⟨b,o+3,none⟩=some x'∧w.cell? ⟨b,o+4,none⟩=some y'∧w.cell? ⟨b,o+5,none⟩=some z'∧IvR w (.agg #[x,y,z,x',y',z']) a
def IvS (w:World) (v:Value) (l:List RawI):Prop:=∃ A c,v=.slice A l.length c∧l.length≤c∧(0<l.length→∃ b off,A=some ⟨b,off,none⟩∧∀ i a,l[i]?=some a→IvAt w b (off+i*6) a)
theorem IvAt.kept {w w':World}{b o:Nat}{a:RawI}(h:IvAt w b o a)(k:Kept w w'):IvAt w' b o a:=by
 obtain ⟨x,y,z,x',y',z',h0,h1,h2,h3,h4,h5,hd⟩:=h;have hb:=Bg h0
 exact ⟨x,y,z,x',y',z',(k.cell (p:=⟨b,o,none⟩) hb).trans h0,(k.cell (p:=⟨b,o+1,none⟩) hb).trans h1,(k.cell (p:=⟨b,o+2,none⟩) hb).trans h2,
  (k.cell (p:=⟨b,o+3,none⟩) hb).trans h3,(k.cell (p:=⟨b,o+4,none⟩) hb).trans h4,(k.cell (p:=⟨b,o+5,none⟩) hb).trans h5,hd.kept k⟩
theorem IvS.kept {w w':World}{v:Value}{l:List RawI}(h:IvS w v l)(k:Kept w w'):IvS w' v l:=by
 obtain ⟨A,c,rfl,hc,hA⟩:=h;refine ⟨A,c,rfl,hc,fun h0=>?_⟩;obtain ⟨b,off,rfl,hd⟩:=hA h0;exact ⟨b,off,rfl,fun i d hi=>(hd i d hi).kept k⟩
theorem Hg (w:World):DyR w (.agg #[.bool false,.slice none 0 0,.int .i64 0]) rz:=⟨_,rfl,Lim.nil _ _ _,by decide,by decide⟩
def rzI:RawI:=⟨rz,rz⟩
theorem Ft (w:World):IvR w (.agg #[.bool false,.slice none 0 0,.int .i64 0,.bool false,.slice none 0 0,.int .i64 0]) rzI:=⟨_,_,_,_,_,_,rfl,Hg w,Hg w⟩
def Gr (p:Int) (l:List RawI) (o:Outc RawI):Outc RawI:=if 1≤p∧p≤2000∧l.all Ck=true then o else ⟨rzI,1⟩
theorem S7 {tmps:Array Value}{w:World}{b b':Nat}{x y z x' y' z' q:Value}(h:BlkI w b x y z x' y' z')(h':w.cell? ⟨b',0,none⟩=some q)
 (ht:tmps.getD 6 undef=.pointer (some ⟨b,0,none⟩)) (ht':tmps.getD 7 undef=.pointer (some ⟨b',0,none⟩)) :
 (results Tryz.f169 tmps).run Tryz.prog w=.ok (.tuple #[.agg #[x,y,z,x',y',z'],q]) w:=by
 obtain ⟨_,c0,c1,c2,c3,c4,c5⟩:=h.facts;have t1:tmps[6]?.getD undef=.pointer (some ⟨b,0,none⟩):=by simpa using ht
 have t2:tmps[7]?.getD undef=.pointer (some ⟨b',0,none⟩):=by simpa using ht'
 simp [results,Tryz.results169,t1,t2,go_sem,c0,c1,c2,c3,c4,c5,h']
theorem Sn {w:World}{K:Nat}{cap:Array Value}{v:Value}{p:Int}{l:List RawI}{o:Outc RawI}(hv:IvS w v l)(hl:∀ a∈l,a.lens 17592186044416)(hn:l.length≤1000)
 (h:1≤p→p≤2000→l.all Ck=true→∀ w1,Kept w w1→Calls Tryz.prog K cap w1 (Mf 189 o w1)) (hz:o.k≠0→o.v=rzI)
 (hk:∀ w,(callFunc K cap).run Tryz.prog w=.ok (.enter K cap) w) :
 Calls Tryz.prog 169 #[.int .i64 p,.func (.func K) #[] cap,v] w (RetIE (Gr p l o) w):=by
 have hmf:=Es;obtain ⟨A,c,rfl,hc,hA⟩:=hv;have HH:=hid h;have HA:=hid hA;have HL:=hid hl;have HZ:=hid hz;have HK:=hid hk;clear h hA hl hz hk;obtain ⟨n,hn'⟩:∃ n,n=l.length:=⟨_,rfl⟩;rw [←hn'] at hn hc HA ⊢;have HN:=hid hn';clear hn';obtain ⟨W,hW⟩:∃ W,W=(w.alloc (.cells #[.bool false,.slice none 0 0,.int .i64 0,.bool false,.slice none 0 0,.int .i64 0] 51)).alloc (.cells #[.int .i64 0] 3):=⟨_,rfl⟩;have kW:Kept w W:=by rw [hW];exact (Ad _ _).trans (Ad _ _)
 have b0:BlkI W w.heap.size (.bool false) (.slice none 0 0) (.int .i64 0) (.bool false) (.slice none 0 0) (.int .i64 0):=by rw [hW];exact (Dv w).kept (Ad _ _)
 have b1:W.heap[w.heap.size+1]?=some (.cells #[.int .i64 0] 3 (0,0)):=by
  rw [hW];have:=heap_alloc_new (w.alloc (.cells #[.bool false,.slice none 0 0,.int .i64 0,.bool false,.slice none 0 0,.int .i64 0] 51)) (.cells #[.int .i64 0] 3);simpa using this
 have HW:=hid hW;have KW:=hid kW;have B0:=hid b0;have B1:=hid b1;clear hW kW b0 b1;by_cases hp:1≤p∧p≤2000
 ·have hd1:decide (1≤p)=true:=by simp [hp.1]
  have hd2:decide (p≤2000)=true:=by simp [hp.2]
  have HP:=hid hp;clear hp
  go_enter_defers Tryz.func169,Tryz.ntmps169
  go_wp2_with fail;rw [←HW.out];refine (J3 1 _).mono ?_;rintro e w1 ⟨rfl,q⟩;have K1:=hid q;clear q;simp only [];go_wp2_with fail
  go_loopw [22] (fun t wr=>∃ k:Nat,k≤n∧t=.int .i64 k∧(∀ i a,i<k→l[i]?=some a→Ck a=true)∧Kept W wr) (fun t _=>(n-intOf t).toNat)
  case atStart=>exact ⟨0,Nat.zero_le _,rfl,fun i a hi=>absurd hi (Nat.not_lt_zero _),K1.out⟩
  case round =>
   obtain ⟨k,hk,rfl,hall,hKr⟩:=hrel;have KR:=hid hKr;have AL:=hid hall;clear hKr hall;by_cases hlt:k<n
   ·obtain ⟨b,off,rfl,hd⟩:=HA.out (by omega);obtain ⟨a,hak⟩:∃ a,l[k]?=some a:=⟨_,List.getElem?_eq_getElem (by have:=HN.out;omega)⟩;obtain ⟨x,y,z,x',y',z',h0,h1,h2,h3,h4,h5,hI⟩:=(hd k a hak).kept (KW.out.trans KR.out);obtain ⟨A1,l1,c1,A2,l2,c2,ei,-,-⟩:=Ar hI;injection ei with ei;injection ei with ei
    simp only [List.cons.injEq,and_true] at ei;obtain ⟨rfl,rfl,rfl,rfl,rfl,rfl⟩:=ei;have hm:=fun w2 (q:Kept wr w2)=>Nl (hI.kept q) (HL.out a (List.mem_of_getElem? hak))
    have AK:=hid hak;clear hd hak hI;obtain ⟨mb,hmb⟩:∃ mb,mb=Ck a:=⟨_,rfl⟩;rw [←hmb] at hm;have HMB:=hid hmb;have HM:=hid hm;clear hmb hm;generalize a.lo.neg=n1 at *;generalize a.lo.e=e1 at *;generalize a.hi.neg=n2 at *;generalize a.hi.e=e2 at *;go_wp2_with fail;refine (HM.out _ (Ad _ _)).mono ?_;rintro e w2 ⟨rfl,q⟩;have K2:=hid (KR.out.trans ((Ad _ _).trans q));clear q h0 h1 h2 h3 h4 h5;simp only [];go_wp2_with fail;cases mb
    ·refine (Lg false 1 _).mono ?_;rintro e w3 ⟨he,rfl⟩;obtain rfl:e=.panicked (Ch 189 1):=he;have hpost:Gr p l o=⟨rzI,1⟩:=by
      unfold Gr;rw [if_neg];rintro ⟨-,-,h3⟩;rw [List.all_eq_true] at h3;have:=h3 a (List.mem_of_getElem? AK.out);rw [←HMB.out] at this;cases this
     change bodyPostD _ _ (RetIE (Gr p l o) w) (Exit.panic _) _ _;rw [hpost];refine leaves_cons (f:=195) (args:=#[.pointer (some ⟨w.heap.size,0,none⟩),.pointer (some ⟨w.heap.size+1,0,none⟩)]) (by simp) (by simp [go_sem]) ?_;have y0:=B0.out.kept K2.out;have y1:=((Below.block K2.out) (w.heap.size+1) (Array.getElem?_eq_some_iff.1 B1.out).1).trans B1.out;refine (Iz _ _ _ _ _ _ _ _ _ _ _ y0 y1 (by omega)).mono ?_;rintro e u' w4 ⟨rfl,rfl,rfl⟩;obtain ⟨d0,d1⟩:=Hi (x:=.bool false) (y:=.slice none 0 0) (z:=.int .i64 0) (x':=.bool false) (y':=.slice none 0 0) (z':=.int .i64 0) (q:=.int .i64 (1:Int)) (o:=.cells #[.int .i64 (1:Int)] 189) y0 y1 (by omega)
     have hkept:=Ij (x:=.bool false) (y:=.slice none 0 0) (z:=.int .i64 0) (x':=.bool false) (y':=.slice none 0 0) (z':=.int .i64 0) (q:=.int .i64 (1:Int)) (o:=.cells #[.int .i64 (1:Int)] 189) (KW.out.trans K2.out) (Nat.le_refl w.heap.size) (Nat.le_succ w.heap.size);have HKE:=hid hkept;clear hkept y0 y1;refine ⟨.tuple #[.agg #[.bool false,.slice none 0 0,.int .i64 0,.bool false,.slice none 0 0,.int .i64 0],.int .i64 (1:Int)],?_,?_⟩
     ·obtain ⟨-,c0,c1,c2,c3,c4,c5⟩:=d0.facts;generalize laidI _ _ _ _ _ _ _ _ _ _ _=WW at *;simp [results,Tryz.results169,go_sem,c0,c1,c2,c3,c4,c5,d1]
     ·exact ⟨HKE.out.drew,_,rfl,Ft _⟩
    ·refine (J3 1 _).mono ?_;rintro e w3 ⟨rfl,q⟩;replace K2:=hid (K2.out.trans q);simp only [];go_wp2_with fail;go_roundw
     case rel =>
      refine ⟨k+1,by omega,by go_num,fun i a' hi ha'=>?_,K2.out⟩;by_cases hik:i=k
      ·subst hik;rw [AK.out] at ha';injection ha' with ha'
       rw [←ha',←HMB.out]
      ·exact AL.out i a' (by omega) ha'
     case measure=>simp [intOf];omega
   ·obtain rfl:k=n:=by omega
    have hcall:=HH.out HP.out.1 HP.out.2 (by
     rw [List.all_eq_true];intro a ha;obtain ⟨i,hi,rfl⟩:=List.getElem_of_mem ha;exact AL.out i _ (by have:=HN.out;omega) (List.getElem?_eq_getElem hi))
    have HC:=hid hcall;clear hcall;have hk:=HK.out;go_wp2_with fail;have hpost:Gr p l o=o:=by
     unfold Gr;rw [if_pos];refine ⟨HP.out.1,HP.out.2,?_⟩;rw [List.all_eq_true];intro a ha;obtain ⟨i,hi,rfl⟩:=List.getElem_of_mem ha;exact AL.out i _ (by have:=HN.out;omega) (List.getElem?_eq_getElem hi)
    refine (HC.out _ (KW.out.trans KR.out)).mono ?_;rintro e w2 ⟨q,⟨h0,v1,v2,rfl,z1,z2⟩ | ⟨h0,rfl⟩⟩
    ·obtain ⟨A1,l1,c1,rfl,z1⟩:=By z1;obtain ⟨A2,l2,c2,rfl,z2⟩:=By z2;have y0:=B0.out.kept (KR.out.trans q);have y1:=(q.block (w.heap.size+1) (by have:=(Array.getElem?_eq_some_iff.1 B1.out).1;have:=KR.out.size;omega)).trans (((KR.out).block (w.heap.size+1) (Array.getElem?_eq_some_iff.1 B1.out).1).trans B1.out);obtain ⟨lb,r0,r1,r2,r3,r4,r5⟩:=y0.facts;obtain ⟨f0,f1,f2,f3,f4,f5⟩:=y0.free;have lb1:w.heap.size+1<w2.heap.size:=(Array.getElem?_eq_some_iff.1 y1).1;have s0:=Ag y1 0 _ rfl;have g0:=Am y1 0;have m1:¬w.heap.size=w2.heap.size:=by omega
     have m2:¬w.heap.size+1=w2.heap.size:=by omega
     have m3:¬w.heap.size=w2.heap.size+1:=by omega
     have m4:¬w.heap.size+1=w2.heap.size+1:=by omega
     have m5:¬w.heap.size=w.heap.size+1:=by omega
     have Z1:=hid z1;have Z2:=hid z2;have Y0:=hid y0;have Y1:=hid y1;have H0:=hid h0;have K2:=hid (KW.out.trans (KR.out.trans q));have HPOST:=hid hpost;clear z1 z2 y0 y1 h0 q hpost hk;simp only [];go_wp2_with fail;refine leaves_cons (f:=195) (args:=#[.pointer (some ⟨w.heap.size,0,none⟩),.pointer (some ⟨w.heap.size+1,0,none⟩)]) (by simp) (by simp [go_sem]) ?_;refine (Tp _ _ _).mono ?_;rintro e u' w4 ⟨rfl,rfl,rfl⟩;obtain ⟨x0,x1⟩:=Hi (x:=.bool o.v.lo.neg) (y:=.slice A1 l1 c1) (z:=.int .i64 o.v.lo.e) (x':=.bool o.v.hi.neg) (y':=.slice A2 l2 c2) (z':=.int .i64 o.v.hi.e) (q:=.int .i64 0) (o:=.cells #[.bool o.v.lo.neg,.slice A1 l1 c1,.int .i64 o.v.lo.e] 30) Y0.out Y1.out m5
     refine ⟨_,S7 ((x0.kept (Ad _ _)).kept (Ad _ _)) (Bc (Ad _ _) (Bc (Ad _ _) x1)) rfl rfl,?_⟩;rw [HPOST.out];refine ⟨((Ij K2.out (Nat.le_refl _) (Nat.le_succ _)).trans (Ad _ _)).trans (Ad _ _),_,by rw [H0.out],_,_,_,_,_,_,rfl,?_,?_⟩
     ·exact ((Z1.out.laidI Y0.out Y1.out m5 _ _ _ _ _ _ _ _).kept (Ad _ _)).kept (Ad _ _)
     ·exact ((Z2.out.laidI Y0.out Y1.out m5 _ _ _ _ _ _ _ _).kept (Ad _ _)).kept (Ad _ _)
    ·have K2:=hid (KR.out.trans q);have hpost2:Gr p l o=⟨rzI,o.k⟩:=by rw [hpost,←HZ.out h0]
     change bodyPostD _ _ (RetIE (Gr p l o) w) (Exit.panic _) _ _;rw [hpost2];refine leaves_cons (f:=195) (args:=#[.pointer (some ⟨w.heap.size,0,none⟩),.pointer (some ⟨w.heap.size+1,0,none⟩)]) (by simp) (by simp [go_sem]) ?_;have y0:=B0.out.kept K2.out;have y1:=((Below.block K2.out) (w.heap.size+1) (Array.getElem?_eq_some_iff.1 B1.out).1).trans B1.out;refine (Iz _ _ _ _ _ _ _ _ _ _ _ y0 y1 (by omega)).mono ?_;rintro e u' w4 ⟨rfl,rfl,rfl⟩;obtain ⟨d0,d1⟩:=Hi (x:=.bool false) (y:=.slice none 0 0) (z:=.int .i64 0) (x':=.bool false) (y':=.slice none 0 0) (z':=.int .i64 0) (q:=.int .i64 o.k) (o:=.cells #[.int .i64 o.k] 189) y0 y1 (by omega)
     have hkept:=Ij (x:=.bool false) (y:=.slice none 0 0) (z:=.int .i64 0) (x':=.bool false) (y':=.slice none 0 0) (z':=.int .i64 0) (q:=.int .i64 o.k) (o:=.cells #[.int .i64 o.k] 189) (KW.out.trans K2.out) (Nat.le_refl w.heap.size) (Nat.le_succ w.heap.size);have HKE:=hid hkept;clear hkept y0 y1;refine ⟨.tuple #[.agg #[.bool false,.slice none 0 0,.int .i64 0,.bool false,.slice none 0 0,.int .i64 0],.int .i64 o.k],?_,?_⟩
     ·obtain ⟨-,c0,c1,c2,c3,c4,c5⟩:=d0.facts;generalize laidI _ _ _ _ _ _ _ _ _ _ _=WW at *;simp [results,Tryz.results169,go_sem,c0,c1,c2,c3,c4,c5,d1]
     ·exact ⟨HKE.out.drew,_,rfl,Ft _⟩
 ·have hpost:Gr p l o=⟨rzI,1⟩:=by
   unfold Gr;rw [if_neg];rintro ⟨h1,h2,-⟩;exact hp ⟨h1,h2⟩
  rw [hpost];have K2:=hid (Below.refl W.heap.size W);by_cases h1:1≤p
  ·have hd1:decide (1≤p)=true:=by simp [h1]
   have hd2:decide (p≤2000)=false:=by simp;omega
   clear hp h1
   go_enter_defers Tryz.func169,Tryz.ntmps169
   go_wp2_with fail;rw [←HW.out];refine (Lg false 1 _).mono ?_;rintro e w3 ⟨he,rfl⟩;obtain rfl:e=.panicked (Ch 189 1):=he;change bodyPostD _ _ _ (Exit.panic _) _ _;refine leaves_cons (f:=195) (args:=#[.pointer (some ⟨w.heap.size,0,none⟩),.pointer (some ⟨w.heap.size+1,0,none⟩)]) (by simp) (by simp [go_sem]) ?_;have y0:=B0.out.kept K2.out;have y1:=((Below.block K2.out) (w.heap.size+1) (Array.getElem?_eq_some_iff.1 B1.out).1).trans B1.out;refine (Iz _ _ _ _ _ _ _ _ _ _ _ y0 y1 (by omega)).mono ?_;rintro e u' w4 ⟨rfl,rfl,rfl⟩;obtain ⟨d0,d1⟩:=Hi (x:=.bool false) (y:=.slice none 0 0) (z:=.int .i64 0) (x':=.bool false) (y':=.slice none 0 0) (z':=.int .i64 0) (q:=.int .i64 (1:Int)) (o:=.cells #[.int .i64 (1:Int)] 189) y0 y1 (by omega)
   have hkept:=Ij (x:=.bool false) (y:=.slice none 0 0) (z:=.int .i64 0) (x':=.bool false) (y':=.slice none 0 0) (z':=.int .i64 0) (q:=.int .i64 (1:Int)) (o:=.cells #[.int .i64 (1:Int)] 189) (KW.out.trans K2.out) (Nat.le_refl w.heap.size) (Nat.le_succ w.heap.size);have HKE:=hid hkept;clear hkept y0 y1;refine ⟨.tuple #[.agg #[.bool false,.slice none 0 0,.int .i64 0,.bool false,.slice none 0 0,.int .i64 0],.int .i64 (1:Int)],?_,?_⟩
   ·obtain ⟨-,c0,c1,c2,c3,c4,c5⟩:=d0.facts;generalize laidI _ _ _ _ _ _ _ _ _ _ _=WW at *;simp [results,Tryz.results169,go_sem,c0,c1,c2,c3,c4,c5,d1]
   ·exact ⟨HKE.out.drew,_,rfl,Ft _⟩
  ·have hd1:decide (1≤p)=false:=by simp;omega
   clear hp h1
   go_enter_defers Tryz.func169,Tryz.ntmps169
   go_wp2_with fail;rw [←HW.out];refine (Lg false 1 _).mono ?_;rintro e w3 ⟨he,rfl⟩;obtain rfl:e=.panicked (Ch 189 1):=he;change bodyPostD _ _ _ (Exit.panic _) _ _;refine leaves_cons (f:=195) (args:=#[.pointer (some ⟨w.heap.size,0,none⟩),.pointer (some ⟨w.heap.size+1,0,none⟩)]) (by simp) (by simp [go_sem]) ?_;have y0:=B0.out.kept K2.out;have y1:=((Below.block K2.out) (w.heap.size+1) (Array.getElem?_eq_some_iff.1 B1.out).1).trans B1.out;refine (Iz _ _ _ _ _ _ _ _ _ _ _ y0 y1 (by omega)).mono ?_;rintro e u' w4 ⟨rfl,rfl,rfl⟩;obtain ⟨d0,d1⟩:=Hi (x:=.bool false) (y:=.slice none 0 0) (z:=.int .i64 0) (x':=.bool false) (y':=.slice none 0 0) (z':=.int .i64 0) (q:=.int .i64 (1:Int)) (o:=.cells #[.int .i64 (1:Int)] 189) y0 y1 (by omega)
   have hkept:=Ij (x:=.bool false) (y:=.slice none 0 0) (z:=.int .i64 0) (x':=.bool false) (y':=.slice none 0 0) (z':=.int .i64 0) (q:=.int .i64 (1:Int)) (o:=.cells #[.int .i64 (1:Int)] 189) (KW.out.trans K2.out) (Nat.le_refl w.heap.size) (Nat.le_succ w.heap.size);have HKE:=hid hkept;clear hkept y0 y1;refine ⟨.tuple #[.agg #[.bool false,.slice none 0 0,.int .i64 0,.bool false,.slice none 0 0,.int .i64 0],.int .i64 (1:Int)],?_,?_⟩
   ·obtain ⟨-,c0,c1,c2,c3,c4,c5⟩:=d0.facts;generalize laidI _ _ _ _ _ _ _ _ _ _ _=WW at *;simp [results,Tryz.results169,go_sem,c0,c1,c2,c3,c4,c5,d1]
   ·exact ⟨HKE.out.drew,_,rfl,Ft _⟩
instance iIS {l:List RawI}:Nonempty (I6 fun v w=>IvS w v l):=⟨fun _ _ _ k h=>h.kept k⟩
def Ek (v:Iv):List Int→Outc Iv
 | []=>⟨v,0⟩
 | k::l=>if k≠0 then ⟨iz,k⟩ else Ek v l
theorem Wm (o1 o3:Outc Dy)(f g:Dy→Outc Dy):Gp (o1.bind dz f) (o3.bind dz g)=Ek ⟨(f o1.v).v,(g o3.v).v⟩ [o1.k,(f o1.v).k,o3.k,(g o3.v).k]:=by
 unfold Gp Outc.bind;simp only [Ek];by_cases h1:o1.k=0
 ·simp only [h1,if_true,ne_eq,not_true_eq_false,if_false];by_cases h2:(f o1.v).k=0
  ·simp only [h2,if_true,not_true_eq_false,if_false];by_cases h3:o3.k=0
   ·simp only [h3,if_true,not_true_eq_false,if_false];by_cases h4:(g o3.v).k=0
    ·simp only [h4,if_true,not_true_eq_false,if_false]
    ·simp only [h4,if_false,not_false_eq_true,if_true]
   ·simp only [h3,if_false,not_false_eq_true,if_true]
  ·simp only [h2,if_false,not_false_eq_true,if_true]
 ·simp only [h1,if_false,ne_eq,not_false_eq_true,if_true]
def Cu (o:Outc Iv):Outc RawI:=⟨o.v.raw,o.k⟩
theorem W4:iz.raw=rzI:=by show RawI.mk dz.raw dz.raw=⟨rz,rz⟩;rw [Hq]
theorem Jq {fn:Func}{R:Ending→World→Prop}{a:Act}{w:World}{b b' t t':Nat}{x y z x' y' z':Value}(h:Blk w b x y z)(h':Blk w b' x' y' z')
 (hres:fn.results=#[.cell t 30,.cell t' 30]) (ht:a.tmps.getD t undef=.pointer (some ⟨b,0,none⟩)) (ht':a.tmps.getD t' undef=.pointer (some ⟨b',0,none⟩)) (hd:a.defers=[])
 (hR:R (.returned (.tuple #[.agg #[x,y,z],.agg #[x',y',z']])) w):bodyPost Tryz.prog fn R .ret a w:=by
 obtain ⟨_,c0,c1,c2,_⟩:=h.facts;obtain ⟨_,d0,d1,d2,_⟩:=h'.facts;refine bodyPost_ret (v:=.tuple #[.agg #[x,y,z],.agg #[x',y',z']]) ?_ hd hR;have ht2:a.tmps[t]?.getD undef=.pointer (some ⟨b,0,none⟩):=by simpa using ht
 have ht3:a.tmps[t']?.getD undef=.pointer (some ⟨b',0,none⟩):=by simpa using ht'
 simp [results,hres,ht2,ht3,go_sem,c0,c1,c2,d0,d1,d2]
theorem DyR.dyW {w:World}{v:Value}{r:Raw}{b:Nat}{x y z:Value}(h:DyR w v r)(h0:Blk w b x y z)(hx:Bv x)(hy:Bv y)(hz:Bv z)(x' y' z':Value):DyR (Go.Proofs.YtmgaloopddiekaaGreatDoor.dyW w b x' y' z') v r:=by
 obtain ⟨s,rfl,hs,h1,h2⟩:=h;exact ⟨s,rfl,hs.dyW h0 hx hy hz,h1,h2⟩
theorem Ql {w w1:World}{b3 b4:Nat}{r1 r2:Raw}{A A':Option Addr}{l c l' c':Nat}{T:TypeId}{res:Outc RawI}(hk:Kept w w1)(h3:w.heap.size≤b3)(h4:w.heap.size≤b4)(hne:¬b3=b4)
 (R3:Blk w1 b3 (.bool false) (.slice none 0 0) (.int .i64 0)) (R4:Blk w1 b4 (.bool false) (.slice none 0 0) (.int .i64 0))
 (d1:DyR w1 (.agg #[.bool r1.neg,.slice A l c,.int .i64 r1.e]) r1) (d2:DyR w1 (.agg #[.bool r2.neg,.slice A' l' c',.int .i64 r2.e]) r2) (hr:res=⟨⟨r1,r2⟩,0⟩) :
 Blk (dyW (dyW w1 b3 (.bool r1.neg) (.slice A l c) (.int .i64 r1.e)) b4 (.bool r2.neg) (.slice A' l' c') (.int .i64 r2.e)) b3 (.bool r1.neg) (.slice A l c) (.int .i64 r1.e) ∧
 Blk (dyW (dyW w1 b3 (.bool r1.neg) (.slice A l c) (.int .i64 r1.e)) b4 (.bool r2.neg) (.slice A' l' c') (.int .i64 r2.e)) b4 (.bool r2.neg) (.slice A' l' c') (.int .i64 r2.e) ∧
 Mf T res w (.returned (.tuple #[.agg #[.bool r1.neg,.slice A l c,.int .i64 r1.e],.agg #[.bool r2.neg,.slice A' l' c',.int .i64 r2.e]])) (dyW (dyW w1 b3 (.bool r1.neg) (.slice A l c) (.int .i64 r1.e)) b4 (.bool r2.neg) (.slice A' l' c') (.int .i64 r2.e)):=by
 have R4':=R4.laid_other (b':=b3) (fun h=>hne h.symm) (.bool r1.neg) (.slice A l c) (.int .i64 r1.e);refine ⟨(R3.laid _ _ _).laid_other hne _ _ _,R4'.laid _ _ _,Bj (Bj hk h3) h4,.inl ?_⟩;subst hr
 exact ⟨rfl,_,_,rfl,(d1.dyW R3 (An _) (Ak _ _ _) (Aq _) _ _ _).dyW R4' (An _) (Ak _ _ _) (Aq _) _ _ _,
  (d2.dyW R3 (An _) (Ak _ _ _) (Aq _) _ _ _).dyW R4' (An _) (Ak _ _ _) (Aq _) _ _ _⟩
theorem Pk (w:World){b b':Nat}(hne:¬b=b')(x y z x' y' z':Value):dyW (dyW w b x y z) b' x' y' z'=dyW (dyW w b' x' y' z') b x y z:=by
 have hs:∀ (w:World) (i j:Nat) (u v:Value),(w.setCell ⟨b,i,none⟩ u).setCell ⟨b',j,none⟩ v=(w.setCell ⟨b',j,none⟩ v).setCell ⟨b,i,none⟩ u:=by
  intro w i j u v;simp only [World.setCell]
  congr 1
  apply Array.ext_getElem?;intro k;simp only [Array.getElem?_modify];by_cases h1:b=k
  ·have h2:¬b'=k:=fun h=>hne (h1.trans h.symm)
   simp [h1,h2]
  ·by_cases h2:b'=k
   ·simp [h1,h2]
   ·simp [h1,h2]
 unfold dyW;simp only [hs]
def O7 (res:Outc RawI) (v:RawI):List Int→Prop
 | []=>res=⟨v,0⟩
 | k::l=>(k≠0→res=⟨rzI,k⟩)∧(k=0→O7 res v l)
theorem I4 (v:Iv):∀ l:List Int,O7 (Cu (Ek v l)) v.raw l
 | []=>rfl
 | k :: l => by
   refine ⟨fun h=>?_,fun h=>?_⟩
   ·unfold Ek;rw [if_pos h];unfold Cu;rw [W4]
   ·unfold Ek;rw [if_neg (fun hh=>hh h)];exact I4 v l
def BlkIv (w:World) (b:Nat) (a:Iv):Prop:=∃ A l c A' l' c',BlkI w b (.bool a.lo.neg) (.slice A l c) (.int .i64 a.lo.e) (.bool a.hi.neg) (.slice A' l' c') (.int .i64 a.hi.e) ∧
 DyR w (.agg #[.bool a.lo.neg,.slice A l c,.int .i64 a.lo.e]) a.lo.raw∧DyR w (.agg #[.bool a.hi.neg,.slice A' l' c',.int .i64 a.hi.e]) a.hi.raw
theorem BlkIv.kept {w w':World}{b:Nat}{a:Iv}(h:BlkIv w b a)(k:Kept w w'):BlkIv w' b a:=by
 obtain ⟨A,l,c,A',l',c',h1,h2,h3⟩:=h;exact ⟨A,l,c,A',l',c',h1.kept k,h2.kept k,h3.kept k⟩
theorem Ya (w:World):∃ W,W=(w.alloc (.cells #[.bool false,.slice none 0 0,.int .i64 0] 30)).alloc (.cells #[.bool false,.slice none 0 0,.int .i64 0] 30)∧Kept w W ∧
 Blk W w.heap.size (.bool false) (.slice none 0 0) (.int .i64 0)∧Blk W (w.heap.size+1) (.bool false) (.slice none 0 0) (.int .i64 0) :=
 ⟨_,rfl,(Ad _ _).trans (Ad _ _),Bn (Gg w) _,C8 _ _ _ _ _⟩
theorem Ahg {w:World}{a b:Iv}{p ba bb bp:Nat}(ha:a.Ok)(hb:b.Ok)(hT:Tab w)(p1:1≤p)(p2:p≤2000)(ca:BlkIv w ba a)(cb:BlkIv w bb b)(cp:w.cell? ⟨bp,0,none⟩=some (.int .i64 p)) :
 Calls Tryz.prog 198 #[.pointer (some ⟨ba,0,none⟩),.pointer (some ⟨bb,0,none⟩),.pointer (some ⟨bp,0,none⟩)] w (Mf 189 (Cu (Gf a b p)) w):=by
 obtain ⟨A,l,c,A',l',c',hba,x1,x2⟩:=ca;obtain ⟨B,j,e,B',j',e',hbb,y1,y2⟩:=cb;obtain ⟨o1,ho1⟩:∃ o,o=Du a.lo b.lo:=⟨_,rfl⟩;obtain ⟨o2,ho2⟩:∃ o,o=Eh o1.v p false:=⟨_,rfl⟩;obtain ⟨o3,ho3⟩:∃ o,o=Du a.hi b.hi:=⟨_,rfl⟩;obtain ⟨o4,ho4⟩:∃ o,o=Eh o3.v p true:=⟨_,rfl⟩;have hres:Gf a b p=Ek ⟨o2.v,o4.v⟩ [o1.k,o2.k,o3.k,o4.k]:=by unfold Gf Ta;rw [Wm,←ho1,←ho3,←ho2,←ho4]
 rw [hres];have ok1:o1.Ok:=by rw [ho1];exact Nf ha.lo hb.lo
 have ok3:o3.Ok:=by rw [ho3];exact Nf ha.hi hb.hi
 have C1:=hid (fun w1 (k:Kept w w1)=>Th (x1.kept k) (y1.kept k) ha.lo hb.lo (hT.kept k));have C3:=hid (fun w1 (k:Kept w w1)=>Th (x2.kept k) (y2.kept k) ha.hi hb.hi (hT.kept k));have C2:=hid (fun w1 (k:Kept w w1) v (hv:DyR w1 v o1.v.raw)=>Vw hv ok1.1 (hT.kept k) p1 p2);have C4:=hid (fun w1 (k:Kept w w1) v (hv:DyR w1 v o3.v.raw)=>Ahf hv ok3.1 (hT.kept k) p1 p2);rw [←ho1] at C1;rw [←ho2] at C2;rw [←ho3] at C3;rw [←ho4] at C4;obtain ⟨W,hW,kW,B3,B4⟩:=Ya w;have HW:=hid hW;have K:=hid kW;have R3:=hid B3;have R4:=hid B4;have HA:=hid hba;have HB:=hid hbb;have CP:=hid cp;have lp:=Bg cp
 obtain ⟨la,-⟩:=hba.facts;obtain ⟨lb,-⟩:=hbb.facts;simp only at lp;clear hW kW B3 B4 hba hbb cp x1 x2 y1 y2 ha hb hT p1 p2 ho1 ho2 ho3 ho4 hres ok1 ok3;generalize a.lo.neg=n1 at *;generalize a.lo.e=e1 at *;generalize a.hi.neg=n2 at *;generalize a.hi.e=e2 at *;generalize b.lo.neg=n3 at *;generalize b.lo.e=e3 at *;generalize b.hi.neg=n4 at *;generalize b.hi.e=e4 at *;have hst:=I4 ⟨o2.v,o4.v⟩ [o1.raw.k,o2.raw.k,o3.raw.k,o4.raw.k];obtain ⟨res,hres⟩:∃ r,r=Cu (Ek ⟨o2.v,o4.v⟩ [o1.k,o2.k,o3.k,o4.k]):=⟨_,rfl⟩;have ST:=hid (show O7 res ⟨o2.raw.v,o4.raw.v⟩ [o1.raw.k,o2.raw.k,o3.raw.k,o4.raw.k] by rw [hres];exact hst)
 rw [←hres];clear hres hst;have BAD:Hid (∀ (k:Int) (w1:World),Kept w w1→k≠0→res=⟨rzI,k⟩→Mf 189 res w (.panicked (Ch 189 k)) w1):=fun k w1 kk hk he=>by subst he;exact ⟨kk,.inr ⟨hk,rfl⟩⟩
 go_enter Tryz.func198,Tryz.ntmps198;go_wp2_with fail;rw [←HW.out]
 refine Nb 14 ([(vP ba 0),(vE (.agg #[.bool n1,.slice A l c,.int .i64 e1])),(vP bb 0),(vE (.agg #[.bool n3,.slice B j e,.int .i64 e3])),(fun v wv=>(∃ d,v=.tuple #[d,.int .i64 o1.raw.k]∧DyR wv d o1.raw.v)∧(True)),(fun v wv=>DyR wv v o1.raw.v∧(True)),(vE (.int .i64 o1.raw.k)),(fun v wv=>(o1.raw.k=0∧(True))∧DyR wv v o1.raw.v),(vE (.int .i64 p)),(fun v wv=>(∃ d,v=.tuple #[d,.int .i64 o2.raw.k]∧DyR wv d o2.raw.v)∧(o1.raw.k=0)),(fun v wv=>DyR wv v o2.raw.v∧(o1.raw.k=0)),(vE (.int .i64 o2.raw.k)),(fun v wv=>(o2.raw.k=0∧(o1.raw.k=0))∧DyR wv v o2.raw.v),(fun v wv=>∃ b,v=.pointer (some ⟨b,0,none⟩)∧W.heap.size≤b∧Blk wv b (.bool false) (.slice none 0 0) (.int .i64 0))])
  ⟨
   (gq 0),(fun aF wF F=>by have s6:=F.v 0 6;have c0:=Ai (HA.out.kept K.out) F.kept 0 _ rfl;have c1:=Ai (HA.out.kept K.out) F.kept 1 _ rfl;have c2:=Ai (HA.out.kept K.out) F.kept 2 _ rfl;exact sv rfl),(gq 1),(fun aF wF F=>by have s8:=F.v 2 8;have c0:=Ai (HB.out.kept K.out) F.kept 0 _ rfl;have c1:=Ai (HB.out.kept K.out) F.kept 1 _ rfl;have c2:=Ai (HB.out.kept K.out) F.kept 2 _ rfl;exact sv rfl),(fun aF wF F=>by have s7:=F.v 1 7;have s9:=F.v 3 9;have hC:True:=trivial;exact Bi (by simp [Region.wanted]) (by go_simp) (C1.out _ (K.out.trans F.kept)) (fun _ _ h=>RetE.good h) (fun _ _ h=>⟨h,hC⟩)),(fun aF wF F=>by have s10:=F.p 4 10;obtain ⟨⟨dd,ee,hh⟩,hC⟩:=s10;exact sv ⟨hh,hC⟩),(fun aF wF F=>by have s10:=F.p 4 10;exact sw (by obtain ⟨⟨dd,ee,hh⟩,-⟩:=s10;go_simp) rfl),(fun aF wF F=>by have s11:=F.p 5 11;have s12:=F.v 6 12;have hC:=s11.2;exact sG (Gk (d:=o1.v) (k:=o1.raw.k) s11.1) (fun _ _ _ h0 h=>⟨⟨h0,hC⟩,h⟩) (fun w2 k2 h0=>⟨F.defers,BAD.out _ _ (K.out.trans (F.kept.trans k2)) h0 (ST.out.1 h0)⟩)),(fun aF wF F=>by have s2:=F.q 2 (.pointer (some ⟨bp,0,none⟩));exact sw (by have cq:=Bc (K.out.trans F.kept) CP.out;go_simp) rfl),(fun aF wF F=>by have s13:=F.p 7 13;have s14:=F.v 8 14;have hC:o1.raw.k=0:=s13.1.1;exact Bi (by simp [Region.wanted]) (by go_simp) (C2.out _ (K.out.trans F.kept) _ s13.2) (fun _ _ h=>RetE.good h) (fun _ _ h=>⟨h,hC⟩)),(fun aF wF F=>by have s15:=F.p 9 15;obtain ⟨⟨dd,ee,hh⟩,hC⟩:=s15;exact sv ⟨hh,hC⟩),(fun aF wF F=>by have s15:=F.p 9 15;exact sw (by obtain ⟨⟨dd,ee,hh⟩,-⟩:=s15;go_simp) rfl),(fun aF wF F=>by have s16:=F.p 10 16;have s17:=F.v 11 17;have hC:=s16.2;exact sG (Gk (d:=o2.v) (k:=o2.raw.k) s16.1) (fun _ _ _ h0 h=>⟨⟨h0,hC⟩,h⟩) (fun w2 k2 h0=>⟨F.defers,BAD.out _ _ (K.out.trans (F.kept.trans k2)) h0 ((ST.out.2 hC).1 h0)⟩)),(fun aF wF F=>by exact sN ⟨_,rfl,F.kept.size,Gg _⟩),
   trivial⟩ ?_
 intro u w1 k1 hu;have p10:=hp hu 4;have p11:=hp hu 5;have p13:=hp hu 7;have p15:=hp hu 9;have p16:=hp hu 10;have p18:=hp hu 12;have p5:=hp hu 13;simp only [Bl,Au,if_true,Act.put,zlA,zlB,zlC,zlD,zlE,zlF,zlG,hv hu 0,hv hu 1,hv hu 2,hv hu 3,hv hu 6,hv hu 8,hv hu 11];clear hu;generalize u 4=v10,u 5=v11,u 7=v13,u 9=v15,u 10=v16,u 12=v18,u 13=v5 at *;obtain ⟨bl,rfl,hbl,hB5⟩:=p5;obtain ⟨⟨z2,z1⟩,hd2⟩:=p18;obtain ⟨A5,l5,c5,rfl,hd2⟩:=By hd2;obtain ⟨lb5,c0,c1,c2,f0,f1,f2⟩:=hB5.facts;have hsW:w.heap.size+1<W.heap.size:=(Array.getElem?_eq_some_iff.1 R4.out).1;have Z:=hid (And.intro z1 z2);have KX:=hid (Bj (x:=.bool o2.raw.v.neg) (y:=.slice A5 l5 c5) (z:=.int .i64 o2.raw.v.e) (K.out.trans k1) (show w.heap.size≤bl by omega))
 have R3X:=hid ((R3.out.kept k1).laid_other (b':=bl) (by omega) (.bool o2.raw.v.neg) (.slice A5 l5 c5) (.int .i64 o2.raw.v.e));have R4X:=hid ((R4.out.kept k1).laid_other (b':=bl) (by omega) (.bool o2.raw.v.neg) (.slice A5 l5 c5) (.int .i64 o2.raw.v.e));have B5X:=hid (hB5.laid (.bool o2.raw.v.neg) (.slice A5 l5 c5) (.int .i64 o2.raw.v.e));have D5X:=hid (hd2.dyW hB5 (An _) (Ak _ _ _) (Aq _) (.bool o2.raw.v.neg) (.slice A5 l5 c5) (.int .i64 o2.raw.v.e));clear z1 z2 hd2 hB5 hsW p10 p11 p13 p15 p16 k1;go_simp;go_wp2_with fail;change Code.wp _ _ _ _ (dyW w1 bl _ _ _);generalize dyW w1 bl (.bool o2.raw.v.neg) (.slice A5 l5 c5) (.int .i64 o2.raw.v.e)=X at *
 clear c0 c1 c2 f0 f1 f2 lb5
 refine Aac 14 ([(vE (.agg #[.bool o2.raw.v.neg,.slice A5 l5 c5,.int .i64 o2.raw.v.e])),(vP ba 3),(vE (.agg #[.bool n2,.slice A' l' c',.int .i64 e2])),(vP bb 3),(vE (.agg #[.bool n4,.slice B' j' e',.int .i64 e4])),(fun v wv=>(∃ d,v=.tuple #[d,.int .i64 o3.raw.k]∧DyR wv d o3.raw.v)∧(True)),(fun v wv=>DyR wv v o3.raw.v∧(True)),(vE (.int .i64 o3.raw.k)),(fun v wv=>(o3.raw.k=0∧(True))∧DyR wv v o3.raw.v),(vE (.int .i64 p)),(fun v wv=>(∃ d,v=.tuple #[d,.int .i64 o4.raw.k]∧DyR wv d o4.raw.v)∧(o3.raw.k=0)),(fun v wv=>DyR wv v o4.raw.v∧(o3.raw.k=0)),(vE (.int .i64 o4.raw.k)),(fun v wv=>(o4.raw.k=0∧(o3.raw.k=0))∧DyR wv v o4.raw.v)])
  ⟨
   (gql 5 fun _ k=>c3 B5X.out k),(gq 0),(fun aF wF F=>by have s20:=F.v 1 20;have c0:=Ai (HA.out.kept KX.out) F.kept 3 _ rfl;have c1:=Ai (HA.out.kept KX.out) F.kept 4 _ rfl;have c2:=Ai (HA.out.kept KX.out) F.kept 5 _ rfl;exact sv rfl),(gq 1),(fun aF wF F=>by have s22:=F.v 3 22;have c0:=Ai (HB.out.kept KX.out) F.kept 3 _ rfl;have c1:=Ai (HB.out.kept KX.out) F.kept 4 _ rfl;have c2:=Ai (HB.out.kept KX.out) F.kept 5 _ rfl;exact sv rfl),(fun aF wF F=>by have s21:=F.v 2 21;have s23:=F.v 4 23;have hC:True:=trivial;exact Bi (by simp [Region.wanted]) (by go_simp) (C3.out _ (KX.out.trans F.kept)) (fun _ _ h=>RetE.good h) (fun _ _ h=>⟨h,hC⟩)),(fun aF wF F=>by have s24:=F.p 5 24;obtain ⟨⟨dd,ee,hh⟩,hC⟩:=s24;exact sv ⟨hh,hC⟩),(fun aF wF F=>by have s24:=F.p 5 24;exact sw (by obtain ⟨⟨dd,ee,hh⟩,-⟩:=s24;go_simp) rfl),(fun aF wF F=>by have s25:=F.p 6 25;have s26:=F.v 7 26;have hC:=s25.2;exact sG (Gk (d:=o3.v) (k:=o3.raw.k) s25.1) (fun _ _ _ h0 h=>⟨⟨h0,hC⟩,h⟩) (fun w2 k2 h0=>⟨F.defers,BAD.out _ _ (KX.out.trans (F.kept.trans k2)) h0 (((ST.out.2 Z.out.1).2 Z.out.2).1 h0)⟩)),(fun aF wF F=>by have s2:=F.q 2 (.pointer (some ⟨bp,0,none⟩));exact sw (by have cq:=Bc (KX.out.trans F.kept) CP.out;go_simp) rfl),(fun aF wF F=>by have s27:=F.p 8 27;have s28:=F.v 9 28;have hC:o3.raw.k=0:=s27.1.1;exact Bi (by simp [Region.wanted]) (by go_simp) (C4.out _ (KX.out.trans F.kept) _ s27.2) (fun _ _ h=>RetE.good h) (fun _ _ h=>⟨h,hC⟩)),(fun aF wF F=>by have s29:=F.p 10 29;obtain ⟨⟨dd,ee,hh⟩,hC⟩:=s29;exact sv ⟨hh,hC⟩),(fun aF wF F=>by have s29:=F.p 10 29;exact sw (by obtain ⟨⟨dd,ee,hh⟩,-⟩:=s29;go_simp) rfl),(fun aF wF F=>by have s30:=F.p 11 30;have s31:=F.v 12 31;have hC:=s30.2;exact sG (Gk (d:=o4.v) (k:=o4.raw.k) s30.1) (fun _ _ _ h0 h=>⟨⟨h0,hC⟩,h⟩) (fun w2 k2 h0=>⟨F.defers,BAD.out _ _ (KX.out.trans (F.kept.trans k2)) h0 ((((ST.out.2 Z.out.1).2 Z.out.2).2 hC).1 h0)⟩)),
   trivial⟩ ?_
 intro u w1 k1 hu;have p24:=hp hu 5;have p25:=hp hu 6;have p27:=hp hu 8;have p29:=hp hu 10;have p30:=hp hu 11;have p32:=hp hu 13;simp only [Bl,Au,if_true,Act.put,zlA,zlB,zlC,zlD,zlE,zlF,zlG,hv hu 0,hv hu 1,hv hu 2,hv hu 3,hv hu 4,hv hu 7,hv hu 9,hv hu 12];clear hu;generalize u 5=v24,u 6=v25,u 8=v27,u 10=v29,u 11=v30,u 13=v32 at *;obtain ⟨⟨z4,z3⟩,hd4⟩:=p32;obtain ⟨A6,l6,c6,rfl,hd4⟩:=By hd4;have hres:=(((ST.out.2 Z.out.1).2 Z.out.2).2 z3).2 z4;have r3:=R3X.out.kept k1;have r4:=R4X.out.kept k1;have hk:=KX.out.trans k1;have hd5:=D5X.out.kept k1;obtain ⟨-,c0,c1,c2,f0,f1,f2⟩:=r3.facts;obtain ⟨-,d0,d1,d2,g0,g1,g2⟩:=r4.facts
 obtain ⟨t1,t2,t3⟩:=Ql (T:=189) hk (Nat.le_refl _) (Nat.le_succ _) (by omega) r3 r4 hd5 hd4 hres;have T1:=hid t1;have T2:=hid t2;have T3:=hid t3;clear t1 t2 t3 r3 r4 hk hd5 hd4 hres z3 z4 p24 p25 p27 p29 p30 k1;refine ⟨?_,?_⟩
 ·go_simp;go_wp2_with fail;exact Jq T1.out T2.out rfl rfl rfl rfl T3.out
 ·first
   | exact .inl (by kernel_rfl)
   | (right
      rw [Pk _ (by omega)] at T1 T2 T3;go_simp;go_wp2_with fail;exact Jq T1.out T2.out rfl rfl rfl rfl T3.out)
theorem Uj (o2 o4:Outc Dy):Gp o2 o4=Ek ⟨o2.v,o4.v⟩ [o2.k,o4.k]:=by
 unfold Gp Outc.bind;simp only [Ek];by_cases h1:o2.k=0
 ·simp only [h1,if_true,ne_eq,not_true_eq_false,if_false];by_cases h2:o4.k=0
  ·simp only [h2,if_true,not_true_eq_false,if_false]
  ·simp only [h2,if_false,not_false_eq_true,if_true]
 ·simp only [h1,if_false,ne_eq,not_false_eq_true,if_true]
def BoxD (w:World) (b:Nat) (r:Raw):Prop:=∃ A l c,Blk w b (.bool r.neg) (.slice A l c) (.int .i64 r.e)∧DyR w (.agg #[.bool r.neg,.slice A l c,.int .i64 r.e]) r
theorem BoxD.kept {w w':World}{b:Nat}{r:Raw}(h:BoxD w b r)(k:Kept w w'):BoxD w' b r:=by
 obtain ⟨A,l,c,h1,h2⟩:=h;exact ⟨A,l,c,h1.kept k,h2.kept k⟩
theorem BoxD.other {w:World}{b b':Nat}{r:Raw}{x y z:Value}(h:BoxD w b r)(hne:¬b=b')(h0:Blk w b' x y z)(hx:Bv x)(hy:Bv y)(hz:Bv z)(x' y' z':Value):BoxD (dyW w b' x' y' z') b r:=by
 obtain ⟨A,l,c,h1,h2⟩:=h;exact ⟨A,l,c,h1.laid_other hne _ _ _,h2.dyW h0 hx hy hz _ _ _⟩
theorem BoxD.made {w:World}{b:Nat}{r:Raw}{A:Option Addr}{l c:Nat}{x y z:Value}(h0:Blk w b x y z)(hx:Bv x)(hy:Bv y)(hz:Bv z)(h:DyR w (.agg #[.bool r.neg,.slice A l c,.int .i64 r.e]) r) :
 BoxD (dyW w b (.bool r.neg) (.slice A l c) (.int .i64 r.e)) b r:=⟨A,l,c,h0.laid _ _ _,h.dyW h0 hx hy hz _ _ _⟩
theorem Afq {w:World}{v u:Value}{a b:RawI}(hv:IvR w v a)(hu:IvR w u b)(hl:a.lens 17592186044416) :
 Calls Tryz.prog 130 #[v,u] w (RetK (.bool (Ka a.lo b.lo&&Ka a.hi b.hi)) w):=by
 obtain ⟨A,l,c,A',l',c',rfl,h1,h2⟩:=Ar hv;obtain ⟨B,j,e,B',j',e',rfl,g1,g2⟩:=Ar hu;have q1:=fun w1 (k:Kept w w1)=>Yf (h1.kept k) (g1.kept k) hl.1
 have q2:=fun w1 (k:Kept w w1)=>Yf (h2.kept k) (g2.kept k) hl.2
 have Q1:=hid q1;have Q2:=hid q2;clear q1 q2 h1 h2 g1 g2 hv hu hl;generalize Ka a.lo b.lo=r1 at *;generalize Ka a.hi b.hi=r2 at *;generalize a.lo.neg=n1 at *;generalize a.lo.e=e1 at *;generalize a.hi.neg=n2 at *;generalize a.hi.e=e2 at *;generalize b.lo.neg=n3 at *;generalize b.lo.e=e3 at *;generalize b.hi.neg=n4 at *;generalize b.hi.e=e4 at *;obtain ⟨W,hW,kW,BI,BJ⟩:=L5 w (.bool n1) (.slice A l c) (.int .i64 e1) (.bool n2) (.slice A' l' c') (.int .i64 e2) (.bool n3) (.slice B j e) (.int .i64 e3) (.bool n4) (.slice B' j' e') (.int .i64 e4);have HW:=hid hW;have K:=hid kW;have HB:=hid BI
 have HD:=hid BJ;clear hW kW BI BJ;cases r1
 ·rw [Bool.false_and];go_enter Tryz.func130,Tryz.ntmps130;go_wp2_with fail;rw [←HW.out];refine (Q1.out _ K.out).mono ?_;rintro e w1 ⟨rfl,q⟩;replace K:=hid (K.out.trans q);replace HB:=hid (HB.out.kept q);replace HD:=hid (HD.out.kept q);clear q;obtain ⟨-,c0,c1,c2,c3,c4,c5⟩:=HB.out.facts;obtain ⟨-,d0,d1,d2,d3,d4,d5⟩:=HD.out.facts;simp only [];go_wp2_with fail;go_ret;exact ⟨rfl,K.out⟩
 ·rw [Bool.true_and];go_enter Tryz.func130,Tryz.ntmps130;go_wp2_with fail;rw [←HW.out];refine (Q1.out _ K.out).mono ?_;rintro e w1 ⟨rfl,q⟩;replace K:=hid (K.out.trans q);replace HB:=hid (HB.out.kept q);replace HD:=hid (HD.out.kept q);clear q;obtain ⟨-,c0,c1,c2,c3,c4,c5⟩:=HB.out.facts;obtain ⟨-,d0,d1,d2,d3,d4,d5⟩:=HD.out.facts;simp only [];go_wp2_with fail;refine (Q2.out _ K.out).mono ?_;clear c0 c1 c2 c3 c4 c5 d0 d1 d2 d3 d4 d5;rintro e w1 ⟨rfl,q⟩;replace K:=hid (K.out.trans q);replace HB:=hid (HB.out.kept q);replace HD:=hid (HD.out.kept q);clear q;obtain ⟨-,c0,c1,c2,c3,c4,c5⟩:=HB.out.facts;obtain ⟨-,d0,d1,d2,d3,d4,d5⟩:=HD.out.facts
  simp only [];go_wp2_with fail;go_ret;exact ⟨rfl,K.out⟩
theorem Kg (w:World)(x y z:Value):∃ V,V=w.alloc (.cells #[x,y,z] 30)∧Kept w V∧Blk V w.heap.size x y z∧w.heap.size<V.heap.size :=
 ⟨_,rfl,Ad _ _,blk_new _ _ _ _,by simp⟩
def d1:Dy:=⟨false,1,0⟩
end Go.Proofs.YtmgaloopddiekaaGreatDoor
