/- Words and contracts, part 22. -/
import Derived.Test.YtabjjdicffcolaaGreatDoorClaimSevalp19
set_option maxRecDepth 100000
set_option maxHeartbeats 0
namespace Go.Proofs.YtabjjdicffcolaaGreatDoor
open Go.Lib (hid)
open Go.RowKit
theorem Ql {w:World}{b:Nat}{cs:Array Value}{t:TypeId}(h:w.heap[b]?=some (.cells cs t (0,0)))(i:Nat):w.cell? ⟨b,i,none⟩=cs[i]?:=by
 simp [World.cell?,h]
theorem Lim.setBlock {w w':World}{s:Value}{xs:List Nat}{b:Nat}{cs:Array Value}{t:TypeId}(h:Lim w s xs)(hb:w.heap[b]?=some (.cells cs t (0,0)))(hn:∀ (i:Nat) (v:Value),cs[i]?=some v→Bf v)
 (hs:w.heap.size≤w'.heap.size) (ho:∀ k,k<w.heap.size→k≠b→w'.heap[k]?=w.heap[k]?):Lim w' s xs:=by
 obtain ⟨hsm,A,c,rfl,hc,hA⟩:=h;refine ⟨hsm,A,c,rfl,hc,fun hp=>?_⟩;obtain ⟨b1,off,rfl,hb1,hcell⟩:=hA hp;have hne:b1≠b:=by
  rintro rfl;have h5:=hcell 0 hp;rw [Ql hb] at h5;exact hn _ _ h5 _ rfl
 refine ⟨b1,off,rfl,Nat.lt_of_lt_of_le hb1 hs,fun i hi=>?_⟩;rw [←hcell i hi];exact World.cell?_of_block (ho b1 hb1 hne)
def ivW (w:World) (b:Nat) (x y z x' y' z':Value):World :=
 (((((w.setCell ⟨b,0,none⟩ x).setCell ⟨b,1,none⟩ y).setCell ⟨b,2,none⟩ z).setCell ⟨b,3,none⟩ x').setCell ⟨b,4,none⟩ y').setCell ⟨b,5,none⟩ z'
theorem BlkI.laid {w:World}{b:Nat}{p q r p' q' r':Value}(h:BlkI w b p q r p' q' r')(x y z x' y' z':Value):BlkI (ivW w b x y z x' y' z') b x y z x' y' z' :=
 Az (Az (Az (Az (Az (Az h _) _) _) _) _) _
theorem Bm {w0 w:World}{b:Nat}{x y z x' y' z':Value}(h:Kept w0 w)(h2:w0.heap.size≤b):Kept w0 (ivW w b x y z x' y' z') :=
 (((((h.setCell (p:=⟨b,0,none⟩) h2 x).setCell (p:=⟨b,1,none⟩) h2 y).setCell (p:=⟨b,2,none⟩) h2 z).setCell (p:=⟨b,3,none⟩) h2 x').setCell (p:=⟨b,4,none⟩) h2 y').setCell (p:=⟨b,5,none⟩) h2 z'
theorem Cb (w:World)(b k:Nat)(x y z x' y' z':Value)(h:k≠b):(ivW w b x y z x' y' z').heap[k]?=w.heap[k]?:=by
 unfold ivW;rw [Below.heap_setCell _ _ _ _ h,Below.heap_setCell _ _ _ _ h,Below.heap_setCell _ _ _ _ h,Below.heap_setCell _ _ _ _ h,Below.heap_setCell _ _ _ _ h,Below.heap_setCell _ _ _ _ h]
theorem BlkI.noLimb {w:World}{b:Nat}{n n':Bool}{A A':Option Addr}{l c l' c':Nat}{e e':Int}(_h:BlkI w b (.bool n) (.slice A l c) (.int .i64 e) (.bool n') (.slice A' l' c') (.int .i64 e')) :
 ∀ (i:Nat) (v:Value),(#[Value.bool n,.slice A l c,.int .i64 e,.bool n',.slice A' l' c',.int .i64 e']:Array Value)[i]?=some v→Bf v:=by
 intro i v hv;rcases i with _ | _ | _ | _ | _ | _ | i
 ·simp at hv;subst hv;exact Ah _
 ·simp at hv;subst hv;exact Ag _ _ _
 ·simp at hv;subst hv;exact Af _
 ·simp at hv;subst hv;exact Ah _
 ·simp at hv;subst hv;exact Ag _ _ _
 ·simp at hv;subst hv;exact Af _
 ·simp at hv
theorem Lim.ivW {w:World}{s:Value}{xs:List Nat}{b:Nat}{n n':Bool}{A A':Option Addr}{l c l' c':Nat}{e e':Int}(h:Lim w s xs)(hb:BlkI w b (.bool n) (.slice A l c) (.int .i64 e) (.bool n') (.slice A' l' c') (.int .i64 e'))(x y z x' y' z':Value) :
 Lim (Go.Proofs.YtabjjdicffcolaaGreatDoor.ivW w b x y z x' y' z') s xs :=
 h.setBlock hb hb.noLimb (by simp [Go.Proofs.YtabjjdicffcolaaGreatDoor.ivW,World.setCell]) (fun k _ hne=>Cb _ _ _ _ _ _ _ _ _ hne)
theorem DyR.ivW {w:World}{v:Value}{r:Raw}{b:Nat}{n n':Bool}{A A':Option Addr}{l c l' c':Nat}{e e':Int}(h:DyR w v r)(hb:BlkI w b (.bool n) (.slice A l c) (.int .i64 e) (.bool n') (.slice A' l' c') (.int .i64 e'))(x y z x' y' z':Value) :
 DyR (Go.Proofs.YtabjjdicffcolaaGreatDoor.ivW w b x y z x' y' z') v r:=by
 obtain ⟨s,rfl,hs,h1,h2⟩:=h;exact ⟨s,rfl,hs.ivW hb _ _ _ _ _ _,h1,h2⟩
theorem BlkI.free {w:World}{b:Nat}{x y z x' y' z':Value}(h:BlkI w b x y z x' y' z'):w.frozen? ⟨b,0,none⟩=false∧w.frozen? ⟨b,1,none⟩=false∧w.frozen? ⟨b,2,none⟩=false∧w.frozen? ⟨b,3,none⟩=false∧w.frozen? ⟨b,4,none⟩=false∧w.frozen? ⟨b,5,none⟩=false :=
 ⟨Au h 0,Au h 1,Au h 2,Au h 3,Au h 4,Au h 5⟩
theorem Fc {fn:Func}{R:Ending→World→Prop}{a:Act}{w:World}{b t:Nat}{x y z x' y' z':Value}(h:BlkI w b x y z x' y' z')
 (hres:fn.results=#[.cell t 30]) (ht:a.tmps.getD t undef=.pointer (some ⟨b,0,none⟩)) (hd:a.defers=[]) (hR:R (.returned (.agg #[x,y,z,x',y',z'])) w) :
 bodyPost Tryz.prog fn R .ret a w:=by
 obtain ⟨_,c0,c1,c2,c3,c4,c5⟩:=h.facts;refine bodyPost_ret (v:=.agg #[x,y,z,x',y',z']) ?_ hd hR;have ht2:a.tmps[t]?.getD undef=.pointer (some ⟨b,0,none⟩):=by simpa using ht
 simp [results,hres,ht2,go_sem,c0,c1,c2,c3,c4,c5]
theorem Cd {fn:Func}{R:Ending→World→Prop}{a:Act}{w:World}{b t u:Nat}{x y z x' y' z':Value}(h:BlkI w b x y z x' y' z')
 (hres:fn.results=#[.cell t 30,.tmp u]) (ht:a.tmps.getD t undef=.pointer (some ⟨b,0,none⟩)) (hd:a.defers=[])
 (hR:R (.returned (.tuple #[.agg #[x,y,z,x',y',z'],a.tmps.getD u undef])) w):bodyPost Tryz.prog fn R .ret a w:=by
 obtain ⟨_,c0,c1,c2,c3,c4,c5⟩:=h.facts;refine bodyPost_ret (v:=.tuple #[.agg #[x,y,z,x',y',z'],a.tmps.getD u undef]) ?_ hd hR;have ht2:a.tmps[t]?.getD undef=.pointer (some ⟨b,0,none⟩):=by simpa using ht
 simp [results,hres,ht2,go_sem,c0,c1,c2,c3,c4,c5]
def RetI (a:RawI) (w:World) (e:Ending) (w':World):Prop:=Kept w w'∧∃ v,e=.returned v∧IvR w' v a
def RetIE (o:Outc RawI) (w:World) (e:Ending) (w':World):Prop:=Kept w w'∧∃ v,e=.returned (.tuple #[v,.int .i64 o.k])∧IvR w' v o.v
theorem Gt (w:World):BlkI (w.alloc (.cells #[.bool false,.slice none 0 0,.int .i64 0,.bool false,.slice none 0 0,.int .i64 0] 30)) w.heap.size (.bool false) (.slice none 0 0) (.int .i64 0) (.bool false) (.slice none 0 0) (.int .i64 0):=heap_alloc_new _ _
theorem Ah7 {w:World}{v:Value}{r:Raw}(hv:DyR w v r):Calls Tryz.prog 21 #[v] w (RetI ⟨r,r⟩ w):=by
 have hv':=hv;obtain ⟨A,l,c,rfl,hv⟩:=Ax hv;have HV:=hid hv;clear hv hv';have hb1:=Et (w.alloc (.cells #[.bool r.neg,.slice A l c,.int .i64 r.e] 28)) (.bool r.neg) (.slice A l c) (.int .i64 r.e) (.bool r.neg) (.slice A l c) (.int .i64 r.e);simp only [World.size_alloc] at hb1;have HB:=hid hb1;clear hb1;go_enter Tryz.func21,Tryz.ntmps21;go_wp2_with fail;exact Fc HB.out rfl rfl rfl ⟨(Ad _ _).trans (Ad _ _),_,rfl,_,_,_,_,_,_,rfl,HV.out.kept ((Ad _ _).trans (Ad _ _)),HV.out.kept ((Ad _ _).trans (Ad _ _))⟩
theorem Acp {xs ys:List Nat}(hl:xs.length=ys.length)(h:∀ i,i<xs.length→nth xs i=nth ys i):xs=ys:=by
 apply List.ext_getElem hl;intro i h1 h2;have:=h i h1;unfold nth at this;rw [List.getD_eq_getElem?_getD,List.getD_eq_getElem?_getD,List.getElem?_eq_getElem h1,List.getElem?_eq_getElem h2] at this;exact this
theorem Agi {w:World}{v u:Value}{xs ys:List Nat}(hv:Lim w v xs)(hu:Lim w u ys)(hl:xs.length≤17592186044416) :
 Calls Tryz.prog 72 #[v,u] w (RetK (.bool (xs==ys)) w):=by
 obtain ⟨hs,A,c,rfl,hc,hA⟩:=hv;obtain ⟨hs',A',c',rfl,hc',hA'⟩:=hu;by_cases hne:xs.length=ys.length
 ·have hlb:((xs.length:Int)==(ys.length:Int))=true:=by rw [beq_iff_eq];omega
  have HE:=hid hne;obtain ⟨n,hn⟩:∃ n,n=xs.length:=⟨_,rfl⟩;have hn2:n=ys.length:=by omega
  rw [←hn] at hl hc hA ⊢;rw [←hn2] at hc' hA' ⊢;rw [←hn,←hn2] at hlb;have HA:=hid hA;have HA':=hid hA';have HS:=hid hs;have HS':=hid hs';have HN:=hid hn;clear hA hA' hs hs' hn hn2 hne hlb;have hlb:((n:Int)==(n:Int))=true:=by rw [beq_iff_eq]
  go_enter Tryz.func72,Tryz.ntmps72;go_wp2_with fail
  go_loopw [13] (fun t wr=>∃ k:Nat,k≤n∧t=.int .i64 k∧(∀ i,i<k→nth xs i=nth ys i)∧Kept w wr) (fun t _=>(n-intOf t).toNat)
  case atStart=>exact ⟨0,Nat.zero_le _,rfl,fun i hi=>absurd hi (Nat.not_lt_zero _),Below.refl _ _⟩
  case round =>
   obtain ⟨k,hk,rfl,heq,hK⟩:=hrel;have K:=hid hK;clear hK;have HQ:=hid heq;clear heq;by_cases hlt:k<n
   ·obtain ⟨b,off,rfl,hb,hcell⟩:=HA.out (by omega);obtain ⟨b',off',rfl,hb',hcell'⟩:=HA'.out (by omega);have h1:=fun w1 (q:Kept wr w1)=>((K.out.trans q).cell (p:=⟨b,off+k,none⟩) hb).trans (hcell k hlt)
    have h2:=fun w1 (q:Kept wr w1)=>((K.out.trans q).cell (p:=⟨b',off'+k,none⟩) hb').trans (hcell' k hlt)
    have H1:=hid h1;have H2:=hid h2;have hx0:(0:Int)≤(k:Int):=by omega
    have hx1:(k:Int)<(n:Int):=by omega
    clear hcell hcell' h1 h2;by_cases hxy:nth xs k=nth ys k
    ·have hb1:(((nth xs k:Nat):Int) != ((nth ys k:Nat):Int))=false:=by simp [hxy]
     have HXY:=hid hxy;clear hxy;generalize hgx:nth xs k=x at *;generalize hgy:nth ys k=y at *;have GX:=hid hgx;have GY:=hid hgy;clear hgx hgy;go_wp2_with fail
     refine rgL 9 ([(vE (.slice (some ⟨b,off,none⟩) n c)),(vE (.int .i64 k)),(vE (.pointer (some ⟨b,off+k,none⟩))),(vE (.int .u64 x)),(vE (.slice (some ⟨b',off',none⟩) n c')),(vE (.int .i64 k)),(vE (.pointer (some ⟨b',off'+k,none⟩))),(vE (.int .u64 y)),(vE (.bool false))])
      ⟨
       (gq 0),(gq 5),(gvv 0 16 1 17),(fun aF wF F=>by have s18:=F.v 2 18;exact sw (by have h:=H1.out _ F.kept;go_simp) rfl),(gq 1),(gq 5),(gvv 4 20 5 21),(fun aF wF F=>by have s22:=F.v 6 22;exact sw (by have h:=H2.out _ F.kept;go_simp) rfl),(gvv 3 19 7 23),
       trivial⟩ ?_
     intro u w1 k1 hu;simp only [Ay,An,if_true,Act.put,zlA,zlB,zlC,zlD,zlE,zlF,zlG,hv hu 0,hv hu 1,hv hu 2,hv hu 3,hv hu 4,hv hu 5,hv hu 6,hv hu 7,hv hu 8];clear hu;go_wp2_with fail;go_roundw
     case rel =>
      refine ⟨k+1,by omega,by go_num,fun i hi=>?_,K.out.trans k1⟩;by_cases hik:i=k
      ·rw [hik,GX.out,GY.out];exact HXY.out
      ·exact HQ.out i (by omega)
     case measure=>simp [intOf];omega
    ·have hb1:(((nth xs k:Nat):Int) != ((nth ys k:Nat):Int))=true:=by simp;omega
     have hres:(xs==ys)=false:=by
      rw [beq_eq_false_iff_ne];intro h;exact hxy (by rw [h])
     rw [hres];clear hres;have HXY:=hid hxy;clear hxy;generalize hgx:nth xs k=x at *;generalize hgy:nth ys k=y at *;have GX:=hid hgx;have GY:=hid hgy;clear hgx hgy;go_wp2_with fail
     refine rgL 9 ([(vE (.slice (some ⟨b,off,none⟩) n c)),(vE (.int .i64 k)),(vE (.pointer (some ⟨b,off+k,none⟩))),(vE (.int .u64 x)),(vE (.slice (some ⟨b',off',none⟩) n c')),(vE (.int .i64 k)),(vE (.pointer (some ⟨b',off'+k,none⟩))),(vE (.int .u64 y)),(vE (.bool true))])
      ⟨
       (gq 0),(gq 5),(gvv 0 16 1 17),(fun aF wF F=>by have s18:=F.v 2 18;exact sw (by have h:=H1.out _ F.kept;go_simp) rfl),(gq 1),(gq 5),(gvv 4 20 5 21),(fun aF wF F=>by have s22:=F.v 6 22;exact sw (by have h:=H2.out _ F.kept;go_simp) rfl),(gvv 3 19 7 23),
       trivial⟩ ?_
     intro u w1 k1 hu;simp only [Ay,An,if_true,Act.put,zlA,zlB,zlC,zlD,zlE,zlF,zlG,hv hu 0,hv hu 1,hv hu 2,hv hu 3,hv hu 4,hv hu 5,hv hu 6,hv hu 7,hv hu 8];clear hu;go_wp2_with fail;go_ret;exact ⟨rfl,K.out.trans k1⟩
   ·obtain rfl:k=n:=by omega
    have hres:(xs==ys)=true:=by
     rw [beq_iff_eq];exact Acp HE.out (fun i hi=>HQ.out i (by have:=HN.out;omega))
    go_wp2_with fail;go_ret;exact ⟨by rw [hres];rfl,K.out⟩
 ·have hres:(xs==ys)=false:=by
   rw [beq_eq_false_iff_ne];intro h;exact hne (by rw [h])
  rw [hres];have hlb:((xs.length:Int)==(ys.length:Int))=false:=by rw [beq_eq_false_iff_ne];omega
  clear hA hA' hs hs' hne hres;generalize xs.length=n at *;generalize ys.length=n' at *;go_enter Tryz.func72,Tryz.ntmps72;go_wp2_with fail;go_ret;exact ⟨rfl,Below.refl _ _⟩
def J1 (a b:Raw):Bool:=(a.neg==b.neg)&&(a.e==b.e)&&(a.m==b.m)
theorem Nx {w:World}{v u:Value}{a b:Raw}(ha:DyR w v a)(hb:DyR w u b)(hl:a.m.length≤17592186044416) :
 Calls Tryz.prog 35 #[v,u] w (RetK (.bool (J1 a b)) w):=by
 obtain ⟨A,l,c,rfl,-,la,-,-⟩:=ha.shape;obtain ⟨A2,l2,c2,rfl,-,lb,-,-⟩:=hb.shape;have he:=fun w1 (k:Kept w w1)=>Agi (la.kept k) (lb.kept k) hl
 unfold J1;have HE:=hid he;clear he la lb ha hb hl;generalize (a.m==b.m)=r3 at *;generalize a.neg=n1 at *;generalize a.e=e1 at *;generalize b.neg=n2 at *;generalize b.e=e2 at *;obtain ⟨W,hW,kW,B0,B1⟩:=Qi w (.bool n1) (.slice A l c) (.int .i64 e1) (.bool n2) (.slice A2 l2 c2) (.int .i64 e2);have HW:=hid hW;have K:=hid kW;clear hW kW B0 B1;have hr1:(n1==n2)=true∨(n1==n2)=false:=Bs _;have hr2:(e1==e2)=true∨(e1==e2)=false:=Bs _;rcases hr1 with hr1 | hr1
 ·rw [hr1,Bool.true_and];rcases hr2 with hr2 | hr2
  ·rw [hr2,Bool.true_and];go_enter Tryz.func35,Tryz.ntmps35;go_wp2_with fail;rw [←HW.out];refine (HE.out _ K.out).mono ?_;rintro e w1 ⟨rfl,q⟩;simp only [];go_wp2_with fail;go_ret;exact ⟨rfl,K.out.trans q⟩
  ·rw [hr2,Bool.false_and];go_enter Tryz.func35,Tryz.ntmps35;go_wp2_with fail;go_ret;exact ⟨rfl,by have:=K.out;rwa [HW.out] at this⟩
 ·rw [hr1,Bool.false_and,Bool.false_and];clear hr2;go_enter Tryz.func35,Tryz.ntmps35;go_wp2_with fail;go_ret;exact ⟨rfl,by have:=K.out;rwa [HW.out] at this⟩
theorem Agl {w:World}{v u:Value}{a b:RawI}(hv:IvR w v a)(hu:IvR w u b)(hl:a.lens 17592186044416) :
 Calls Tryz.prog 119 #[v,u] w (RetK (.bool (J1 a.lo b.lo&&J1 a.hi b.hi)) w):=by
 obtain ⟨A,l,c,A',l',c',rfl,h1,h2⟩:=Aq hv;obtain ⟨B,j,e,B',j',e',rfl,g1,g2⟩:=Aq hu;have q1:=fun w1 (k:Kept w w1)=>Nx (h1.kept k) (g1.kept k) hl.1
 have q2:=fun w1 (k:Kept w w1)=>Nx (h2.kept k) (g2.kept k) hl.2
 have Q1:=hid q1;have Q2:=hid q2;clear q1 q2 h1 h2 g1 g2 hv hu hl;generalize J1 a.lo b.lo=r1 at *;generalize J1 a.hi b.hi=r2 at *;generalize a.lo.neg=n1 at *;generalize a.lo.e=e1 at *;generalize a.hi.neg=n2 at *;generalize a.hi.e=e2 at *;generalize b.lo.neg=n3 at *;generalize b.lo.e=e3 at *;generalize b.hi.neg=n4 at *;generalize b.hi.e=e4 at *;obtain ⟨W,hW,kW,BI,BJ⟩:=Tz w (.bool n1) (.slice A l c) (.int .i64 e1) (.bool n2) (.slice A' l' c') (.int .i64 e2) (.bool n3) (.slice B j e) (.int .i64 e3) (.bool n4) (.slice B' j' e') (.int .i64 e4);have HW:=hid hW;have K:=hid kW;have HB:=hid BI
 have HD:=hid BJ;clear hW kW BI BJ;cases r1
 ·rw [Bool.false_and];go_enter Tryz.func119,Tryz.ntmps119;go_wp2_with fail;rw [←HW.out];refine (Q1.out _ K.out).mono ?_;rintro e w1 ⟨rfl,q⟩;replace K:=hid (K.out.trans q);replace HB:=hid (HB.out.kept q);replace HD:=hid (HD.out.kept q);clear q;obtain ⟨-,c0,c1,c2,c3,c4,c5⟩:=HB.out.facts;obtain ⟨-,d0,d1,d2,d3,d4,d5⟩:=HD.out.facts;simp only [];go_wp2_with fail;go_ret;exact ⟨rfl,K.out⟩
 ·rw [Bool.true_and];go_enter Tryz.func119,Tryz.ntmps119;go_wp2_with fail;rw [←HW.out];refine (Q1.out _ K.out).mono ?_;rintro e w1 ⟨rfl,q⟩;replace K:=hid (K.out.trans q);replace HB:=hid (HB.out.kept q);replace HD:=hid (HD.out.kept q);clear q;obtain ⟨-,c0,c1,c2,c3,c4,c5⟩:=HB.out.facts;obtain ⟨-,d0,d1,d2,d3,d4,d5⟩:=HD.out.facts;simp only [];go_wp2_with fail;refine (Q2.out _ K.out).mono ?_;clear c0 c1 c2 c3 c4 c5 d0 d1 d2 d3 d4 d5;rintro e w1 ⟨rfl,q⟩;replace K:=hid (K.out.trans q);replace HB:=hid (HB.out.kept q);replace HD:=hid (HD.out.kept q);clear q;obtain ⟨-,c0,c1,c2,c3,c4,c5⟩:=HB.out.facts;obtain ⟨-,d0,d1,d2,d3,d4,d5⟩:=HD.out.facts
  simp only [];go_wp2_with fail;go_ret;exact ⟨rfl,K.out⟩
theorem Ad7 (k:Int)(w:World):Calls Tryz.prog 126 #[.bool true,.int .i64 k] w fun e w'=>e=.returned (.tuple #[])∧w=w':=by
 go_enter Tryz.func126,Tryz.ntmps126;go_wp2
 go_end0
 exact ⟨rfl,rfl⟩
theorem Abo (k:Int)(w:World):Calls Tryz.prog 126 #[.bool false,.int .i64 k] w fun e w'=>e=.panicked (Cw 166 k)∧w=w':=by
 go_enter Tryz.func126,Tryz.ntmps126;go_wp2;exact ⟨rfl,rfl,rfl⟩
theorem Kr (b:Bool)(k:Int)(w:World):Calls Tryz.prog 126 #[.bool b,.int .i64 k] w fun e w'=>e=Aaa 166 b k∧w=w':=by
 cases b
 ·exact Abo k w
 ·exact Ad7 k w
theorem Iw (k:Int)(w:World):Calls Tryz.prog 126 #[.bool true,.int .i64 k] w (RetK (.tuple #[]) w):=(Kr true k w).mono fun _ _ ⟨he,hw⟩=>⟨he,hw▸Below.refl _ _⟩
theorem O9 (k:Int)(w:World):(Instr.typeAssert (.iface 166 (.agg #[.int .i64 k])) 20 166 true).run Tryz.prog w=.ok (.tuple #[.agg #[.int .i64 k],.bool true]) w:=by
 kernel_rfl
theorem Pv (w:World):(Instr.typeAssert .nilIface 20 166 true).run Tryz.prog w=.ok (.tuple #[.agg #[.int .i64 0],.bool false]) w:=by
 kernel_rfl
theorem Dd {w:World}{v:Value}{d:Dy}{k:Int}(hv:DyR w v d.raw) :
 Calls Tryz.prog 128 #[v,.int .i64 k] w (Goes 166 (Outc.raw ⟨d,k⟩) w):=by
 obtain ⟨A,l,c,rfl,-,la,xa,xb⟩:=hv.shape;obtain ⟨W,hW,kW,B0,BR⟩:=Kc w (.bool d.neg) (.slice A l c) (.int .i64 d.e);have HW:=hid hW;have K:=hid kW;have HB:=hid B0;have HR:=hid BR;have LA:=hid la;have BX:=hid (And.intro xa xb);clear hW kW B0 BR la xa xb hv;simp only [Dy.raw] at *;generalize hgn:d.neg=n1 at *;generalize hge:d.e=e1 at *;have GN:=hid hgn;have GE:=hid hge;clear hgn hge;by_cases hk:k=0
 ·subst hk;go_enter Tryz.func128,Tryz.ntmps128
  go_wp2_with (go_at_call 126;rw [←HW.out];refine (Iw 0 _).mono ?_;rintro e w1 ⟨rfl,q⟩;replace K:=hid (K.out.trans q);have hb:=HB.out.kept q;have hr:=HR.out.kept q;obtain ⟨-,a0,a1,a2,-⟩:=hb.facts;obtain ⟨_,c0,c1,c2,f0,f1,f2⟩:=hr.facts;have HR2:=hid hr;clear hb hr q)
  exact Ca (HR2.out.laid _ _ _) rfl rfl rfl ⟨Am K.out (by omega),.inl ⟨rfl,_,rfl,by
   have:=((LA.out.kept K.out).dyW (x':=.bool n1) (y':=.slice A l c) (z':=.int .i64 e1) HR2.out (Ah _) (Ag _ _ _) (Af _)).dyR (r:=⟨n1,Ai d.m,e1⟩) BX.out.1 BX.out.2
   show DyR _ _ ⟨d.neg,Ai d.m,d.e⟩
   rw [GN.out,GE.out];exact this⟩⟩
 ·have hkb:(k==0)=false:=by rw [beq_eq_false_iff_ne];exact hk
  have HKK:=hid hk;clear hk;go_enter Tryz.func128,Tryz.ntmps128
  go_wp2_with (go_at_call 126;rw [←HW.out];refine (Kr _ _ _).mono ?_;rintro e w3 ⟨he,rfl⟩;obtain rfl:e=.panicked (Cw 166 _):=he)
  exact ⟨rfl,K.out,.inr ⟨HKK.out,rfl⟩⟩
theorem Zm {w:World}{x s z:Value}{r:Raw}(h:DyR w (.agg #[x,s,z]) r):Lim w s r.m∧-9223372036854775808≤r.e∧r.e≤9223372036854775807:=by
 obtain ⟨s',he,hs,h1,h2⟩:=h;injection he with he;injection he with he
 simp only [List.cons.injEq,and_true] at he;rw [he.2.1];exact ⟨hs,h1,h2⟩
theorem V6 (l:List Dy)(x:Dy):∀ d,Ce d (l++[x])=if Co x.q (Ce d l).q<0 then x else Ce d l:=by
 induction l with
 | nil=>intro d;rfl
 | cons y l ih=>intro d;simp only [List.cons_append,Ce];exact ih _
theorem Qz (l:List Dy)(x:Dy):∀ d,Bh d (l++[x])=if 0<Co x.q (Bh d l).q then x else Bh d l:=by
 induction l with
 | nil=>intro d;rfl
 | cons y l ih=>intro d;simp only [List.cons_append,Bh];exact ih _
theorem Ul {w:World}{v:Value}{d0:Dy}{l:List Dy}(hv:DyS w v (d0::l))(hl:okL (d0::l))(hn:(d0::l).length≤1000) :
 Calls Tryz.prog 130 #[v] w (RetD (Ce d0 (d0::l)).raw w):=by
 obtain ⟨A,c,rfl,hc,hA⟩:=hv;obtain ⟨b,off,rfl,hd⟩:=hA (by simp);have hat:=hd 0 d0 rfl;rw [Nat.zero_mul,Nat.add_zero] at hat;obtain ⟨s,h0,h1,h2,hR⟩:=hat;have hok0:=hl d0 (List.mem_cons_self ..);obtain ⟨L,hL⟩:∃ L,L=d0::l:=⟨_,rfl⟩;rw [←hL] at hd hl hn hc ⊢;obtain ⟨n,hn'⟩:∃ n,n=L.length:=⟨_,rfl⟩;rw [←hn'] at hn hc ⊢;have hn0:0<n:=by rw [hn',hL];simp
 have lb:=Ap h0;simp only at lb;obtain ⟨A1,l1,c1,es,-,-,-,-⟩:=hR.shape;injection es with es;injection es with es
 simp only [List.cons.injEq,and_true] at es;obtain rfl:=es.2.1;clear es hA;have HD:=hid hd;have HL:=hid hl;have HN:=hid hn';have HR:=hid hR;have HO:=hid hok0;have HLL:=hid hL;clear hd hl hn' hR hok0 hL;obtain ⟨n0,hg1⟩:∃ x,x=d0.neg:=⟨_,rfl⟩;obtain ⟨e0,hg2⟩:∃ x,x=d0.e:=⟨_,rfl⟩;rw [←hg1] at h0;rw [←hg2] at h2;have G1:=hid hg1;have G2:=hid hg2;clear hg1 hg2;go_enter Tryz.func130,Tryz.ntmps130;go_wp2_with fail
 go_loopw [11] (fun t wr=>∃ (k:Nat) (cur:Dy) (Ac:Option Addr) (lc cc:Nat),k≤n∧t=.int .i64 k∧cur=Ce d0 (L.take k)∧cur.Ok∧DyR w (.agg #[.bool cur.neg,.slice Ac lc cc,.int .i64 cur.e]) cur.raw ∧
  Blk wr (w.heap.size+1) (.bool cur.neg) (.slice Ac lc cc) (.int .i64 cur.e)∧Blk wr w.heap.size (.bool false) (.slice none 0 0) (.int .i64 0)∧Kept w wr) (fun t _=>(n-intOf t).toNat)
 case atStart =>
  refine ⟨0,d0,A1,l1,c1,Nat.zero_le _,rfl,rfl,HO.out,HR.out,?_,Bb (Dn w) _,(Ad _ _).trans (Ad _ _)⟩;rw [←G1.out,←G2.out];exact Dp _ _ _ _ _
 case round =>
  obtain ⟨k,cur,Ac,lc,cc,hk,rfl,hcur,hok,hRc,hB1,hB0,hK⟩:=hrel;have K:=hid hK;have HB1:=hid hB1;have HB0:=hid hB0;have HC:=hid hcur;have HRC:=hid hRc;have HOK:=hid hok;clear hK hcur hRc hok;by_cases hlt:k<n
  ·obtain ⟨d,hdk⟩:∃ d,L[k]?=some d:=⟨_,List.getElem?_eq_getElem (by have:=HN.out;omega)⟩;obtain ⟨s',p0,p1,p2,hRd⟩:=(HD.out k d hdk);obtain ⟨A3,l3,c3,es,-,-,-,-⟩:=hRd.shape;injection es with es;injection es with es
   simp only [List.cons.injEq,and_true] at es;obtain rfl:=es.2.1;clear es;have hokd:=HL.out d (List.mem_of_getElem? hdk);have hnext:Ce d0 (L.take (k+1))=if Co d.q cur.q<0 then d else cur:=by
    rw [List.take_succ_eq_append_getElem (by have:=HN.out;omega)];have:L[k]'(by have:=HN.out;omega)=d:=by
     rw [List.getElem?_eq_getElem (by have:=HN.out;omega)] at hdk;exact Option.some.inj hdk
    rw [this,V6,←HC.out]
   have hcmp:=fun w1 (q:Kept w w1)=>M6 (hRd.kept q) (HRC.out.kept q) hokd HOK.out
   have q0:=(K.out.cell (p:=⟨b,off+k*3,none⟩) lb).trans p0;have q1:=(K.out.cell (p:=⟨b,off+k*3+1,none⟩) lb).trans p1;have q2:=(K.out.cell (p:=⟨b,off+k*3+2,none⟩) lb).trans p2;have HCM:=hid hcmp;have HRD:=hid hRd;have HOD:=hid hokd;have HNX:=hid hnext;clear hnext hcmp hRd hokd hdk p0 p1 p2 h0 h1 h2;obtain ⟨lb1,r0,r1,r2,g0,g1,g2⟩:=hB1.facts;clear hB1 hB0;generalize hcc:Co d.q cur.q=cmp at *;clear hcc;obtain ⟨nd,hnd⟩:∃ x,x=d.neg:=⟨_,rfl⟩;obtain ⟨ed,hed⟩:∃ x,x=d.e:=⟨_,rfl⟩;obtain ⟨nc,hnc⟩:∃ x,x=cur.neg:=⟨_,rfl⟩;obtain ⟨ec,hec⟩:∃ x,x=cur.e:=⟨_,rfl⟩;rw [←hnd] at q0 HCM HRD;rw [←hed] at q2 HCM HRD;rw [←hnc] at r0 HCM HRC HB1
   rw [←hec] at r2 HCM HRC HB1;have X1:=hid hnd;have X2:=hid hed;have X3:=hid hnc;have X4:=hid hec;clear hnd hed hnc hec;by_cases hc:cmp<0
   ·have hd':decide (cmp<0)=true:=by simp [hc]
    have hnx:=HNX.out;rw [if_pos hc] at hnx;clear hc HNX;have HNX:=hid hnx;clear hnx;go_wp2_with fail;refine (HCM.out _ (K.out.trans (Ad _ _))).mono ?_;rintro e w2 ⟨rfl,q⟩;have hx:=(Bk wr (.bool nd) (.slice A3 l3 c3) (.int .i64 ed)).kept q;have hb1:=HB1.out.kept ((Ad _ _).trans q);have hb0:=HB0.out.kept ((Ad _ _).trans q);replace K:=hid (K.out.trans ((Ad _ _).trans q));clear q lb1 r0 r1 r2 g0 g1 g2;obtain ⟨_,t0,t1,t2,-⟩:=hx.facts;obtain ⟨lb1,r0,r1,r2,g0,g1,g2⟩:=hb1.facts;have HX1:=hid hb1;have HX0:=hid hb0;clear hx hb1 hb0;simp only [];go_wp2_with fail;go_roundw
    case rel =>
     refine ⟨k+1,d,A3,l3,c3,by omega,by go_num,HNX.out.symm,HOD.out,?_,?_,HX0.out.laid_other (by omega) _ _ _,Am K.out (by omega)⟩
     ·rw [←X1.out,←X2.out];exact HRD.out
     ·rw [←X1.out,←X2.out];exact HX1.out.laid _ _ _
    case measure=>simp [intOf];omega
   ·have hd':decide (cmp<0)=false:=by simp [hc]
    have hnx:=HNX.out;rw [if_neg hc] at hnx;clear hc HNX;have HNX:=hid hnx;clear hnx;go_wp2_with fail;refine (HCM.out _ (K.out.trans (Ad _ _))).mono ?_;rintro e w2 ⟨rfl,q⟩;have hx:=(Bk wr (.bool nd) (.slice A3 l3 c3) (.int .i64 ed)).kept q;have hb1:=HB1.out.kept ((Ad _ _).trans q);have hb0:=HB0.out.kept ((Ad _ _).trans q);replace K:=hid (K.out.trans ((Ad _ _).trans q));clear q lb1 r0 r1 r2 g0 g1 g2;obtain ⟨_,t0,t1,t2,-⟩:=hx.facts;obtain ⟨lb1,r0,r1,r2,g0,g1,g2⟩:=hb1.facts;have HX1:=hid hb1;have HX0:=hid hb0;clear hx hb1 hb0;simp only [];go_wp2_with fail;go_roundw
    case rel =>
     refine ⟨k+1,cur,Ac,lc,cc,by omega,by go_num,HNX.out.symm,HOK.out,?_,?_,HX0.out,K.out⟩
     ·rw [←X3.out,←X4.out];exact HRC.out
     ·rw [←X3.out,←X4.out];exact HX1.out
    case measure=>simp [intOf];omega
  ·obtain rfl:k=n:=by omega
   have hfin:Ce d0 L=cur:=by rw [HC.out,List.take_of_length_le (by have:=HN.out;omega)]
   obtain ⟨_,r0,r1,r2,-⟩:=hB1.facts;obtain ⟨_,c0,c1',c2,f0,f1,f2⟩:=hB0.facts;have HF:=hid hfin;obtain ⟨lim,xa,xb⟩:=Zm HRC.out;have LIM:=hid lim;have BX:=hid (And.intro xa xb);clear hfin hB1 hB0 lim xa xb;go_wp2_with fail;refine Ca (HB0.out.laid _ _ _) rfl rfl rfl ⟨Am K.out (Nat.le_refl _),_,rfl,?_⟩;rw [HF.out];exact ((LIM.out.kept K.out).dyW HB0.out (Ah _) (Ag _ _ _) (Af _)).dyR (r:=cur.raw) BX.out.1 BX.out.2
theorem Nb {w:World}{v:Value}{d0:Dy}{l:List Dy}(hv:DyS w v (d0::l))(hl:okL (d0::l))(hn:(d0::l).length≤1000) :
 Calls Tryz.prog 131 #[v] w (RetD (Bh d0 (d0::l)).raw w):=by
 obtain ⟨A,c,rfl,hc,hA⟩:=hv;obtain ⟨b,off,rfl,hd⟩:=hA (by simp);have hat:=hd 0 d0 rfl;rw [Nat.zero_mul,Nat.add_zero] at hat;obtain ⟨s,h0,h1,h2,hR⟩:=hat;have hok0:=hl d0 (List.mem_cons_self ..);obtain ⟨L,hL⟩:∃ L,L=d0::l:=⟨_,rfl⟩;rw [←hL] at hd hl hn hc ⊢;obtain ⟨n,hn'⟩:∃ n,n=L.length:=⟨_,rfl⟩;rw [←hn'] at hn hc ⊢;have hn0:0<n:=by rw [hn',hL];simp
 have lb:=Ap h0;simp only at lb;obtain ⟨A1,l1,c1,es,-,-,-,-⟩:=hR.shape;injection es with es;injection es with es
 simp only [List.cons.injEq,and_true] at es;obtain rfl:=es.2.1;clear es hA;have HD:=hid hd;have HL:=hid hl;have HN:=hid hn';have HR:=hid hR;have HO:=hid hok0;have HLL:=hid hL;clear hd hl hn' hR hok0 hL;obtain ⟨n0,hg1⟩:∃ x,x=d0.neg:=⟨_,rfl⟩;obtain ⟨e0,hg2⟩:∃ x,x=d0.e:=⟨_,rfl⟩;rw [←hg1] at h0;rw [←hg2] at h2;have G1:=hid hg1;have G2:=hid hg2;clear hg1 hg2;go_enter Tryz.func131,Tryz.ntmps131;go_wp2_with fail
 go_loopw [11] (fun t wr=>∃ (k:Nat) (cur:Dy) (Ac:Option Addr) (lc cc:Nat),k≤n∧t=.int .i64 k∧cur=Bh d0 (L.take k)∧cur.Ok∧DyR w (.agg #[.bool cur.neg,.slice Ac lc cc,.int .i64 cur.e]) cur.raw ∧
  Blk wr (w.heap.size+1) (.bool cur.neg) (.slice Ac lc cc) (.int .i64 cur.e)∧Blk wr w.heap.size (.bool false) (.slice none 0 0) (.int .i64 0)∧Kept w wr) (fun t _=>(n-intOf t).toNat)
 case atStart =>
  refine ⟨0,d0,A1,l1,c1,Nat.zero_le _,rfl,rfl,HO.out,HR.out,?_,Bb (Dn w) _,(Ad _ _).trans (Ad _ _)⟩;rw [←G1.out,←G2.out];exact Dp _ _ _ _ _
 case round =>
  obtain ⟨k,cur,Ac,lc,cc,hk,rfl,hcur,hok,hRc,hB1,hB0,hK⟩:=hrel;have K:=hid hK;have HB1:=hid hB1;have HB0:=hid hB0;have HC:=hid hcur;have HRC:=hid hRc;have HOK:=hid hok;clear hK hcur hRc hok;by_cases hlt:k<n
  ·obtain ⟨d,hdk⟩:∃ d,L[k]?=some d:=⟨_,List.getElem?_eq_getElem (by have:=HN.out;omega)⟩;obtain ⟨s',p0,p1,p2,hRd⟩:=(HD.out k d hdk);obtain ⟨A3,l3,c3,es,-,-,-,-⟩:=hRd.shape;injection es with es;injection es with es
   simp only [List.cons.injEq,and_true] at es;obtain rfl:=es.2.1;clear es;have hokd:=HL.out d (List.mem_of_getElem? hdk);have hnext:Bh d0 (L.take (k+1))=if 0<Co d.q cur.q then d else cur:=by
    rw [List.take_succ_eq_append_getElem (by have:=HN.out;omega)];have:L[k]'(by have:=HN.out;omega)=d:=by
     rw [List.getElem?_eq_getElem (by have:=HN.out;omega)] at hdk;exact Option.some.inj hdk
    rw [this,Qz,←HC.out]
   have hcmp:=fun w1 (q:Kept w w1)=>M6 (hRd.kept q) (HRC.out.kept q) hokd HOK.out
   have q0:=(K.out.cell (p:=⟨b,off+k*3,none⟩) lb).trans p0;have q1:=(K.out.cell (p:=⟨b,off+k*3+1,none⟩) lb).trans p1;have q2:=(K.out.cell (p:=⟨b,off+k*3+2,none⟩) lb).trans p2;have HCM:=hid hcmp;have HRD:=hid hRd;have HOD:=hid hokd;have HNX:=hid hnext;clear hnext hcmp hRd hokd hdk p0 p1 p2 h0 h1 h2;obtain ⟨lb1,r0,r1,r2,g0,g1,g2⟩:=hB1.facts;clear hB1 hB0;generalize hcc:Co d.q cur.q=cmp at *;clear hcc;obtain ⟨nd,hnd⟩:∃ x,x=d.neg:=⟨_,rfl⟩;obtain ⟨ed,hed⟩:∃ x,x=d.e:=⟨_,rfl⟩;obtain ⟨nc,hnc⟩:∃ x,x=cur.neg:=⟨_,rfl⟩;obtain ⟨ec,hec⟩:∃ x,x=cur.e:=⟨_,rfl⟩;rw [←hnd] at q0 HCM HRD;rw [←hed] at q2 HCM HRD;rw [←hnc] at r0 HCM HRC HB1
   rw [←hec] at r2 HCM HRC HB1;have X1:=hid hnd;have X2:=hid hed;have X3:=hid hnc;have X4:=hid hec;clear hnd hed hnc hec;by_cases hc:0<cmp
   ·have hd':decide (0<cmp)=true:=by simp [hc]
    have hnx:=HNX.out;rw [if_pos hc] at hnx;clear hc HNX;have HNX:=hid hnx;clear hnx;go_wp2_with fail;refine (HCM.out _ (K.out.trans (Ad _ _))).mono ?_;rintro e w2 ⟨rfl,q⟩;have hx:=(Bk wr (.bool nd) (.slice A3 l3 c3) (.int .i64 ed)).kept q;have hb1:=HB1.out.kept ((Ad _ _).trans q);have hb0:=HB0.out.kept ((Ad _ _).trans q);replace K:=hid (K.out.trans ((Ad _ _).trans q));clear q lb1 r0 r1 r2 g0 g1 g2;obtain ⟨_,t0,t1,t2,-⟩:=hx.facts;obtain ⟨lb1,r0,r1,r2,g0,g1,g2⟩:=hb1.facts;have HX1:=hid hb1;have HX0:=hid hb0;clear hx hb1 hb0;simp only [];go_wp2_with fail;go_roundw
    case rel =>
     refine ⟨k+1,d,A3,l3,c3,by omega,by go_num,HNX.out.symm,HOD.out,?_,?_,HX0.out.laid_other (by omega) _ _ _,Am K.out (by omega)⟩
     ·rw [←X1.out,←X2.out];exact HRD.out
     ·rw [←X1.out,←X2.out];exact HX1.out.laid _ _ _
    case measure=>simp [intOf];omega
   ·have hd':decide (0<cmp)=false:=by simp [hc]
    have hnx:=HNX.out;rw [if_neg hc] at hnx;clear hc HNX;have HNX:=hid hnx;clear hnx;go_wp2_with fail;refine (HCM.out _ (K.out.trans (Ad _ _))).mono ?_;rintro e w2 ⟨rfl,q⟩;have hx:=(Bk wr (.bool nd) (.slice A3 l3 c3) (.int .i64 ed)).kept q;have hb1:=HB1.out.kept ((Ad _ _).trans q);have hb0:=HB0.out.kept ((Ad _ _).trans q);replace K:=hid (K.out.trans ((Ad _ _).trans q));clear q lb1 r0 r1 r2 g0 g1 g2;obtain ⟨_,t0,t1,t2,-⟩:=hx.facts;obtain ⟨lb1,r0,r1,r2,g0,g1,g2⟩:=hb1.facts;have HX1:=hid hb1;have HX0:=hid hb0;clear hx hb1 hb0;simp only [];go_wp2_with fail;go_roundw
    case rel =>
     refine ⟨k+1,cur,Ac,lc,cc,by omega,by go_num,HNX.out.symm,HOK.out,?_,?_,HX0.out,K.out⟩
     ·rw [←X3.out,←X4.out];exact HRC.out
     ·rw [←X3.out,←X4.out];exact HX1.out
    case measure=>simp [intOf];omega
  ·obtain rfl:k=n:=by omega
   have hfin:Bh d0 L=cur:=by rw [HC.out,List.take_of_length_le (by have:=HN.out;omega)]
   obtain ⟨_,r0,r1,r2,-⟩:=hB1.facts;obtain ⟨_,c0,c1',c2,f0,f1,f2⟩:=hB0.facts;have HF:=hid hfin;obtain ⟨lim,xa,xb⟩:=Zm HRC.out;have LIM:=hid lim;have BX:=hid (And.intro xa xb);clear hfin hB1 hB0 lim xa xb;go_wp2_with fail;refine Ca (HB0.out.laid _ _ _) rfl rfl rfl ⟨Am K.out (Nat.le_refl _),_,rfl,?_⟩;rw [HF.out];exact ((LIM.out.kept K.out).dyW HB0.out (Ah _) (Ag _ _ _) (Af _)).dyR (r:=cur.raw) BX.out.1 BX.out.2
def laidI (w:World) (b2 b3:Nat) (x y z x' y' z' q:Value) (o:Obj):World:=((ivW w b2 x y z x' y' z').setCell ⟨b3,0,none⟩ q).alloc o
theorem Hp {w:World}{b2 b3:Nat}{a b c a' b' c' q0 x y z x' y' z' q:Value}{T':TypeId}{o:Obj}(h0:BlkI w b2 a b c a' b' c')(h1:w.heap[b3]?=some (.cells #[q0] T' (0,0)))(hne:¬b2=b3) :
 BlkI (laidI w b2 b3 x y z x' y' z' q o) b2 x y z x' y' z'∧(laidI w b2 b3 x y z x' y' z' q o).cell? ⟨b3,0,none⟩=some q:=by
 have l2:b2<w.heap.size:=(Array.getElem?_eq_some_iff.1 h0).1;have l3:b3<w.heap.size:=(Array.getElem?_eq_some_iff.1 h1).1;constructor
 ·unfold BlkI laidI;rw [Below.heap_alloc _ _ _ (by simp [World.setCell,ivW,l2])];exact Be (h0.laid _ _ _ _ _ _) hne _
 ·have g1:(laidI w b2 b3 x y z x' y' z' q o).heap[b3]?=some (.cells #[q] T' (0,0)):=by
   unfold laidI;rw [Below.heap_alloc _ _ _ (by simp [World.setCell,ivW,l3])];have h2:(ivW w b2 x y z x' y' z').heap[b3]?=some (.cells #[q0] T' (0,0)):=by rw [Cb _ _ _ _ _ _ _ _ _ (fun h=>hne h.symm)];exact h1
   exact Az h2 _
  exact Ae g1 0 _ rfl
theorem Ir {w0 w:World}{b2 b3:Nat}{x y z x' y' z' q:Value}{o:Obj}(h:Kept w0 w)(h2:w0.heap.size≤b2)(h3:w0.heap.size≤b3):Kept w0 (laidI w b2 b3 x y z x' y' z' q o) :=
 ((Bm h h2).setCell (p:=⟨b3,0,none⟩) h3 q).alloc (by simpa [World.setCell,ivW] using h.size) o
theorem DyR.laidI {w:World}{v:Value}{r:Raw}{b2 b3:Nat}{n n':Bool}{A A':Option Addr}{l c l' c':Nat}{e e' q0:Int}{T':TypeId}(h:DyR w v r)(hb:BlkI w b2 (.bool n) (.slice A l c) (.int .i64 e) (.bool n') (.slice A' l' c') (.int .i64 e'))
 (h1:w.heap[b3]?=some (.cells #[.int .i64 q0] T' (0,0))) (hne:¬b2=b3) (x y z x' y' z' q:Value) (o:Obj):DyR (Go.Proofs.YtabjjdicffcolaaGreatDoor.laidI w b2 b3 x y z x' y' z' q o) v r:=by
 obtain ⟨s,rfl,hs,e1,e2⟩:=h;have hs2:=hs.ivW hb x y z x' y' z';have h2:(Go.Proofs.YtabjjdicffcolaaGreatDoor.ivW w b2 x y z x' y' z').cell? ⟨b3,0,none⟩=some (.int .i64 q0):=by
  have h2:(Go.Proofs.YtabjjdicffcolaaGreatDoor.ivW w b2 x y z x' y' z').heap[b3]?=some (.cells #[.int .i64 q0] T' (0,0)):=by rw [Cb _ _ _ _ _ _ _ _ _ (fun h=>hne h.symm)];exact h1
  exact Ae h2 0 _ rfl
 have hs3:=hs2.setCell h2 (Af _) q;exact ⟨s,rfl,hs3.kept (Ad _ _),e1,e2⟩
theorem I8 (b2 b3:Nat)(w:World)(k:Int)(x y z x' y' z' q:Value)
 (h0:BlkI w b2 x y z x' y' z') (h1:w.heap[b3]?=some (.cells #[q] 3 (0,0))) (hne:¬b2=b3) :
 CallsD Tryz.prog 172 #[.pointer (some ⟨b2,0,none⟩),.pointer (some ⟨b3,0,none⟩)] (.panicking (Cw 166 k)) w fun e u' w' =>
  e = .returned (.tuple #[]) ∧ u' = .panicking [{ v := .iface 166 (.agg #[.int .i64 k]), recovered := true }] ∧
    w'=(laidI w b2 b3 (.bool false) (.slice none 0 0) (.int .i64 0) (.bool false) (.slice none 0 0) (.int .i64 0) (.int .i64 k) (.cells #[.int .i64 k] 166)).drew:=by
 have ha:=O9 k;have l2:b2<w.heap.size:=(Array.getElem?_eq_some_iff.1 h0).1;have l3:b3<w.heap.size:=(Array.getElem?_eq_some_iff.1 h1).1;have n2:¬b2=w.heap.size:=by omega
 have n3:¬b3=w.heap.size:=by omega
 have n2':¬w.heap.size=b2:=by omega
 have n3':¬w.heap.size=b3:=by omega
 have hne':¬b3=b2:=fun h=>hne h.symm
 obtain ⟨-,c0,c1,c2,c3,c4,c5⟩:=h0.facts;obtain ⟨f0,f1,f2,f3,f4,f5⟩:=h0.free;have c30:=Ae h1 0 q rfl;have f30:=Au h1 0;refine callsD_of_wpS Tryz.func172 rfl fun c₀ cs hu=>?_
 simp only [Tryz.ntmps172,List.size_toArray,List.length_cons,List.length_nil,Nat.reduceAdd,Nat.reduceSub,Array.replicate_succ,
  Array.replicate_zero,List.push_toArray,List.append_toArray,List.nil_append,List.cons_append]
 refine Fk (v:=.iface 166 (.agg #[.int .i64 k])) (cs':={ c₀ with mode:=.panicking [{ v:=.iface 166 (.agg #[.int .i64 k]),recovered:=true }] }::cs) (w':=w) rfl ?_ ?_ ?_
 ·simp [go_sem]
 ·rw [recoverD,hu];exact ⟨rfl,rfl⟩
 go_wp2_with fail;go_region
 all_goals exact ⟨rfl,_,rfl,_,results_none rfl _ _ _,rfl,rfl,rfl⟩
theorem Vg (b2 b3:Nat)(w:World) :
 CallsD Tryz.prog 172 #[.pointer (some ⟨b2,0,none⟩),.pointer (some ⟨b3,0,none⟩)] .returning w fun e u' w' =>
  e=.returned (.tuple #[])∧u'=.returning∧w'=w.alloc (.cells #[.int .i64 0] 166):=by
 have ha:=Pv;refine callsD_of_wpS Tryz.func172 rfl fun c₀ cs hu=>?_
 simp only [Tryz.ntmps172,List.size_toArray,List.length_cons,List.length_nil,Nat.reduceAdd,Nat.reduceSub,Array.replicate_succ,
  Array.replicate_zero,List.push_toArray,List.append_toArray,List.nil_append,List.cons_append]
 refine Fk (v:=.nilIface) (cs':=c₀::cs) (w':=w) rfl ?_ ?_ ?_
 ·simp [go_sem]
 ·rw [recoverD,hu];exact ⟨rfl,rfl⟩
 go_wp2_with fail;exact ⟨rfl,.returning,by rw [←hu],_,results_none rfl _ _ _,rfl,rfl,rfl⟩
def Hl (T:TypeId) (o:Outc RawI) (w:World) (e:Ending) (w':World):Prop :=
 Kept w w'∧((o.k=0∧∃ v1 v2,e=.returned (.tuple #[v1,v2])∧DyR w' v1 o.v.lo∧DyR w' v2 o.v.hi)∨(o.k≠0∧e=.panicked (Cw T o.k)))
def IvAt (w:World) (b o:Nat) (a:RawI):Prop:=∃ x y z x' y' z',w.cell? ⟨b,o,none⟩=some x∧w.cell? ⟨b,o+1,none⟩=some y∧w.cell? ⟨b,o+2,none⟩=some z ∧
 w.cell? ⟨b,o+3,none⟩=some x'∧w.cell? ⟨b,o+4,none⟩=some y'∧w.cell? ⟨b,o+5,none⟩=some z'∧IvR w (.agg #[x,y,z,x',y',z']) a
def IvS (w:World) (v:Value) (l:List RawI):Prop:=∃ A c,v=.slice A l.length c∧l.length≤c∧(0<l.length→∃ b off,A=some ⟨b,off,none⟩∧∀ i a,l[i]?=some a→IvAt w b (off+i*6) a)
theorem IvAt.kept {w w':World}{b o:Nat}{a:RawI}(h:IvAt w b o a)(k:Kept w w'):IvAt w' b o a:=by
 obtain ⟨x,y,z,x',y',z',h0,h1,h2,h3,h4,h5,hd⟩:=h;have hb:=Ap h0
 exact ⟨x,y,z,x',y',z',(k.cell (p:=⟨b,o,none⟩) hb).trans h0,(k.cell (p:=⟨b,o+1,none⟩) hb).trans h1,(k.cell (p:=⟨b,o+2,none⟩) hb).trans h2,
  (k.cell (p:=⟨b,o+3,none⟩) hb).trans h3,(k.cell (p:=⟨b,o+4,none⟩) hb).trans h4,(k.cell (p:=⟨b,o+5,none⟩) hb).trans h5,hd.kept k⟩
theorem IvS.kept {w w':World}{v:Value}{l:List RawI}(h:IvS w v l)(k:Kept w w'):IvS w' v l:=by
 obtain ⟨A,c,rfl,hc,hA⟩:=h;refine ⟨A,c,rfl,hc,fun h0=>?_⟩;obtain ⟨b,off,rfl,hd⟩:=hA h0;exact ⟨b,off,rfl,fun i d hi=>(hd i d hi).kept k⟩
theorem Cc (w:World):DyR w (.agg #[.bool false,.slice none 0 0,.int .i64 0]) rz:=⟨_,rfl,Lim.nil _ _ _,by decide,by decide⟩
def rzI:RawI:=⟨rz,rz⟩
theorem Ed (w:World):IvR w (.agg #[.bool false,.slice none 0 0,.int .i64 0,.bool false,.slice none 0 0,.int .i64 0]) rzI:=⟨_,_,_,_,_,_,rfl,Cc w,Cc w⟩
def Ei (p:Int) (l:List RawI) (o:Outc RawI):Outc RawI:=if 1≤p∧p≤2000∧l.all Fh=true then o else ⟨rzI,1⟩
theorem Uy {tmps:Array Value}{w:World}{b b':Nat}{x y z x' y' z' q:Value}(h:BlkI w b x y z x' y' z')(h':w.cell? ⟨b',0,none⟩=some q)
 (ht:tmps.getD 6 undef=.pointer (some ⟨b,0,none⟩)) (ht':tmps.getD 7 undef=.pointer (some ⟨b',0,none⟩)) :
 (results Tryz.f124 tmps).run Tryz.prog w=.ok (.tuple #[.agg #[x,y,z,x',y',z'],q]) w:=by
 obtain ⟨_,c0,c1,c2,c3,c4,c5⟩:=h.facts;have t1:tmps[6]?.getD undef=.pointer (some ⟨b,0,none⟩):=by simpa using ht
 have t2:tmps[7]?.getD undef=.pointer (some ⟨b',0,none⟩):=by simpa using ht'
 simp [results,Tryz.results124,t1,t2,go_sem,c0,c1,c2,c3,c4,c5,h']
theorem Kh {w:World}{K:Nat}{cap:Array Value}{v:Value}{p:Int}{l:List RawI}{o:Outc RawI}(hv:IvS w v l)(hl:∀ a∈l,a.lens 17592186044416)(hn:l.length≤1000)
 (h:1≤p→p≤2000→l.all Fh=true→∀ w1,Kept w w1→Calls Tryz.prog K cap w1 (Hl 166 o w1)) (hz:o.k≠0→o.v=rzI)
 (hk:∀ w,(callFunc K cap).run Tryz.prog w=.ok (.enter K cap) w) :
 Calls Tryz.prog 124 #[.int .i64 p,.func (.func K) #[] cap,v] w (RetIE (Ei p l o) w):=by
 have hmf:=Gq;obtain ⟨A,c,rfl,hc,hA⟩:=hv;have HH:=hid h;have HA:=hid hA;have HL:=hid hl;have HZ:=hid hz;have HK:=hid hk;clear h hA hl hz hk;obtain ⟨n,hn'⟩:∃ n,n=l.length:=⟨_,rfl⟩;rw [←hn'] at hn hc HA ⊢;have HN:=hid hn';clear hn';obtain ⟨W,hW⟩:∃ W,W=(w.alloc (.cells #[.bool false,.slice none 0 0,.int .i64 0,.bool false,.slice none 0 0,.int .i64 0] 30)).alloc (.cells #[.int .i64 0] 3):=⟨_,rfl⟩;have kW:Kept w W:=by rw [hW];exact (Ad _ _).trans (Ad _ _)
 have b0:BlkI W w.heap.size (.bool false) (.slice none 0 0) (.int .i64 0) (.bool false) (.slice none 0 0) (.int .i64 0):=by rw [hW];exact (Gt w).kept (Ad _ _)
 have b1:W.heap[w.heap.size+1]?=some (.cells #[.int .i64 0] 3 (0,0)):=by
  rw [hW];have:=heap_alloc_new (w.alloc (.cells #[.bool false,.slice none 0 0,.int .i64 0,.bool false,.slice none 0 0,.int .i64 0] 30)) (.cells #[.int .i64 0] 3);simpa using this
 have HW:=hid hW;have KW:=hid kW;have B0:=hid b0;have B1:=hid b1;clear hW kW b0 b1;by_cases hp:1≤p∧p≤2000
 ·have hd1:decide (1≤p)=true:=by simp [hp.1]
  have hd2:decide (p≤2000)=true:=by simp [hp.2]
  have HP:=hid hp;clear hp
  go_enter_defers Tryz.func124,Tryz.ntmps124
  go_wp2_with fail;rw [←HW.out];refine (Iw 1 _).mono ?_;rintro e w1 ⟨rfl,q⟩;have K1:=hid q;clear q;simp only [];go_wp2_with fail
  go_loopw [22] (fun t wr=>∃ k:Nat,k≤n∧t=.int .i64 k∧(∀ i a,i<k→l[i]?=some a→Fh a=true)∧Kept W wr) (fun t _=>(n-intOf t).toNat)
  case atStart=>exact ⟨0,Nat.zero_le _,rfl,fun i a hi=>absurd hi (Nat.not_lt_zero _),K1.out⟩
  case round =>
   obtain ⟨k,hk,rfl,hall,hKr⟩:=hrel;have KR:=hid hKr;have AL:=hid hall;clear hKr hall;by_cases hlt:k<n
   ·obtain ⟨b,off,rfl,hd⟩:=HA.out (by omega);obtain ⟨a,hak⟩:∃ a,l[k]?=some a:=⟨_,List.getElem?_eq_getElem (by have:=HN.out;omega)⟩;obtain ⟨x,y,z,x',y',z',h0,h1,h2,h3,h4,h5,hI⟩:=(hd k a hak).kept (KW.out.trans KR.out);obtain ⟨A1,l1,c1,A2,l2,c2,ei,-,-⟩:=Aq hI;injection ei with ei;injection ei with ei
    simp only [List.cons.injEq,and_true] at ei;obtain ⟨rfl,rfl,rfl,rfl,rfl,rfl⟩:=ei;have hm:=fun w2 (q:Kept wr w2)=>Uj (hI.kept q) (HL.out a (List.mem_of_getElem? hak))
    have AK:=hid hak;clear hd hak hI;obtain ⟨mb,hmb⟩:∃ mb,mb=Fh a:=⟨_,rfl⟩;rw [←hmb] at hm;have HMB:=hid hmb;have HM:=hid hm;clear hmb hm;generalize a.lo.neg=n1 at *;generalize a.lo.e=e1 at *;generalize a.hi.neg=n2 at *;generalize a.hi.e=e2 at *;go_wp2_with fail;refine (HM.out _ (Ad _ _)).mono ?_;rintro e w2 ⟨rfl,q⟩;have K2:=hid (KR.out.trans ((Ad _ _).trans q));clear q h0 h1 h2 h3 h4 h5;simp only [];go_wp2_with fail;cases mb
    ·refine (Kr false 1 _).mono ?_;rintro e w3 ⟨he,rfl⟩;obtain rfl:e=.panicked (Cw 166 1):=he;have hpost:Ei p l o=⟨rzI,1⟩:=by
      unfold Ei;rw [if_neg];rintro ⟨-,-,h3⟩;rw [List.all_eq_true] at h3;have:=h3 a (List.mem_of_getElem? AK.out);rw [←HMB.out] at this;cases this
     change bodyPostD _ _ (RetIE (Ei p l o) w) (Exit.panic _) _ _;rw [hpost];refine leaves_cons (f:=172) (args:=#[.pointer (some ⟨w.heap.size,0,none⟩),.pointer (some ⟨w.heap.size+1,0,none⟩)]) (by simp) (by simp [go_sem]) ?_;have y0:=B0.out.kept K2.out;have y1:=((Below.block K2.out) (w.heap.size+1) (Array.getElem?_eq_some_iff.1 B1.out).1).trans B1.out;refine (I8 _ _ _ _ _ _ _ _ _ _ _ y0 y1 (by omega)).mono ?_;rintro e u' w4 ⟨rfl,rfl,rfl⟩;obtain ⟨d0,d1⟩:=Hp (x:=.bool false) (y:=.slice none 0 0) (z:=.int .i64 0) (x':=.bool false) (y':=.slice none 0 0) (z':=.int .i64 0) (q:=.int .i64 (1:Int)) (o:=.cells #[.int .i64 (1:Int)] 166) y0 y1 (by omega)
     have hkept:=Ir (x:=.bool false) (y:=.slice none 0 0) (z:=.int .i64 0) (x':=.bool false) (y':=.slice none 0 0) (z':=.int .i64 0) (q:=.int .i64 (1:Int)) (o:=.cells #[.int .i64 (1:Int)] 166) (KW.out.trans K2.out) (Nat.le_refl w.heap.size) (Nat.le_succ w.heap.size);have HKE:=hid hkept;clear hkept y0 y1;refine ⟨.tuple #[.agg #[.bool false,.slice none 0 0,.int .i64 0,.bool false,.slice none 0 0,.int .i64 0],.int .i64 (1:Int)],?_,?_⟩
     ·obtain ⟨-,c0,c1,c2,c3,c4,c5⟩:=d0.facts;generalize laidI _ _ _ _ _ _ _ _ _ _ _=WW at *;simp [results,Tryz.results124,go_sem,c0,c1,c2,c3,c4,c5,d1]
     ·exact ⟨HKE.out.drew,_,rfl,Ed _⟩
    ·refine (Iw 1 _).mono ?_;rintro e w3 ⟨rfl,q⟩;replace K2:=hid (K2.out.trans q);simp only [];go_wp2_with fail;go_roundw
     case rel =>
      refine ⟨k+1,by omega,by go_num,fun i a' hi ha'=>?_,K2.out⟩;by_cases hik:i=k
      ·subst hik;rw [AK.out] at ha';injection ha' with ha'
       rw [←ha',←HMB.out]
      ·exact AL.out i a' (by omega) ha'
     case measure=>simp [intOf];omega
   ·obtain rfl:k=n:=by omega
    have hcall:=HH.out HP.out.1 HP.out.2 (by
     rw [List.all_eq_true];intro a ha;obtain ⟨i,hi,rfl⟩:=List.getElem_of_mem ha;exact AL.out i _ (by have:=HN.out;omega) (List.getElem?_eq_getElem hi))
    have HC:=hid hcall;clear hcall;have hk:=HK.out;go_wp2_with fail;have hpost:Ei p l o=o:=by
     unfold Ei;rw [if_pos];refine ⟨HP.out.1,HP.out.2,?_⟩;rw [List.all_eq_true];intro a ha;obtain ⟨i,hi,rfl⟩:=List.getElem_of_mem ha;exact AL.out i _ (by have:=HN.out;omega) (List.getElem?_eq_getElem hi)
    refine (HC.out _ (KW.out.trans KR.out)).mono ?_;rintro e w2 ⟨q,⟨h0,v1,v2,rfl,z1,z2⟩ | ⟨h0,rfl⟩⟩
    ·obtain ⟨A1,l1,c1,rfl,z1⟩:=Ax z1;obtain ⟨A2,l2,c2,rfl,z2⟩:=Ax z2;have y0:=B0.out.kept (KR.out.trans q);have y1:=(q.block (w.heap.size+1) (by have:=(Array.getElem?_eq_some_iff.1 B1.out).1;have:=KR.out.size;omega)).trans (((KR.out).block (w.heap.size+1) (Array.getElem?_eq_some_iff.1 B1.out).1).trans B1.out);obtain ⟨lb,r0,r1,r2,r3,r4,r5⟩:=y0.facts;obtain ⟨f0,f1,f2,f3,f4,f5⟩:=y0.free;have lb1:w.heap.size+1<w2.heap.size:=(Array.getElem?_eq_some_iff.1 y1).1;have s0:=Ae y1 0 _ rfl;have g0:=Au y1 0;have m1:¬w.heap.size=w2.heap.size:=by omega
     have m2:¬w.heap.size+1=w2.heap.size:=by omega
     have m3:¬w.heap.size=w2.heap.size+1:=by omega
     have m4:¬w.heap.size+1=w2.heap.size+1:=by omega
     have m5:¬w.heap.size=w.heap.size+1:=by omega
     have Z1:=hid z1;have Z2:=hid z2;have Y0:=hid y0;have Y1:=hid y1;have H0:=hid h0;have K2:=hid (KW.out.trans (KR.out.trans q));have HPOST:=hid hpost;clear z1 z2 y0 y1 h0 q hpost hk;simp only [];go_wp2_with fail;refine leaves_cons (f:=172) (args:=#[.pointer (some ⟨w.heap.size,0,none⟩),.pointer (some ⟨w.heap.size+1,0,none⟩)]) (by simp) (by simp [go_sem]) ?_;refine (Vg _ _ _).mono ?_;rintro e u' w4 ⟨rfl,rfl,rfl⟩;obtain ⟨x0,x1⟩:=Hp (x:=.bool o.v.lo.neg) (y:=.slice A1 l1 c1) (z:=.int .i64 o.v.lo.e) (x':=.bool o.v.hi.neg) (y':=.slice A2 l2 c2) (z':=.int .i64 o.v.hi.e) (q:=.int .i64 0) (o:=.cells #[.bool o.v.lo.neg,.slice A1 l1 c1,.int .i64 o.v.lo.e] 28) Y0.out Y1.out m5
     refine ⟨_,Uy ((x0.kept (Ad _ _)).kept (Ad _ _)) (Al (Ad _ _) (Al (Ad _ _) x1)) rfl rfl,?_⟩;rw [HPOST.out];refine ⟨((Ir K2.out (Nat.le_refl _) (Nat.le_succ _)).trans (Ad _ _)).trans (Ad _ _),_,by rw [H0.out],_,_,_,_,_,_,rfl,?_,?_⟩
     ·exact ((Z1.out.laidI Y0.out Y1.out m5 _ _ _ _ _ _ _ _).kept (Ad _ _)).kept (Ad _ _)
     ·exact ((Z2.out.laidI Y0.out Y1.out m5 _ _ _ _ _ _ _ _).kept (Ad _ _)).kept (Ad _ _)
    ·have K2:=hid (KR.out.trans q);have hpost2:Ei p l o=⟨rzI,o.k⟩:=by rw [hpost,←HZ.out h0]
     change bodyPostD _ _ (RetIE (Ei p l o) w) (Exit.panic _) _ _;rw [hpost2];refine leaves_cons (f:=172) (args:=#[.pointer (some ⟨w.heap.size,0,none⟩),.pointer (some ⟨w.heap.size+1,0,none⟩)]) (by simp) (by simp [go_sem]) ?_;have y0:=B0.out.kept K2.out;have y1:=((Below.block K2.out) (w.heap.size+1) (Array.getElem?_eq_some_iff.1 B1.out).1).trans B1.out;refine (I8 _ _ _ _ _ _ _ _ _ _ _ y0 y1 (by omega)).mono ?_;rintro e u' w4 ⟨rfl,rfl,rfl⟩;obtain ⟨d0,d1⟩:=Hp (x:=.bool false) (y:=.slice none 0 0) (z:=.int .i64 0) (x':=.bool false) (y':=.slice none 0 0) (z':=.int .i64 0) (q:=.int .i64 o.k) (o:=.cells #[.int .i64 o.k] 166) y0 y1 (by omega)
     have hkept:=Ir (x:=.bool false) (y:=.slice none 0 0) (z:=.int .i64 0) (x':=.bool false) (y':=.slice none 0 0) (z':=.int .i64 0) (q:=.int .i64 o.k) (o:=.cells #[.int .i64 o.k] 166) (KW.out.trans K2.out) (Nat.le_refl w.heap.size) (Nat.le_succ w.heap.size);have HKE:=hid hkept;clear hkept y0 y1;refine ⟨.tuple #[.agg #[.bool false,.slice none 0 0,.int .i64 0,.bool false,.slice none 0 0,.int .i64 0],.int .i64 o.k],?_,?_⟩
     ·obtain ⟨-,c0,c1,c2,c3,c4,c5⟩:=d0.facts;generalize laidI _ _ _ _ _ _ _ _ _ _ _=WW at *;simp [results,Tryz.results124,go_sem,c0,c1,c2,c3,c4,c5,d1]
     ·exact ⟨HKE.out.drew,_,rfl,Ed _⟩
 ·have hpost:Ei p l o=⟨rzI,1⟩:=by
   unfold Ei;rw [if_neg];rintro ⟨h1,h2,-⟩;exact hp ⟨h1,h2⟩
  rw [hpost];have K2:=hid (Below.refl W.heap.size W);by_cases h1:1≤p
  ·have hd1:decide (1≤p)=true:=by simp [h1]
   have hd2:decide (p≤2000)=false:=by simp;omega
   clear hp h1
   go_enter_defers Tryz.func124,Tryz.ntmps124
   go_wp2_with fail;rw [←HW.out];refine (Kr false 1 _).mono ?_;rintro e w3 ⟨he,rfl⟩;obtain rfl:e=.panicked (Cw 166 1):=he;change bodyPostD _ _ _ (Exit.panic _) _ _;refine leaves_cons (f:=172) (args:=#[.pointer (some ⟨w.heap.size,0,none⟩),.pointer (some ⟨w.heap.size+1,0,none⟩)]) (by simp) (by simp [go_sem]) ?_;have y0:=B0.out.kept K2.out;have y1:=((Below.block K2.out) (w.heap.size+1) (Array.getElem?_eq_some_iff.1 B1.out).1).trans B1.out;refine (I8 _ _ _ _ _ _ _ _ _ _ _ y0 y1 (by omega)).mono ?_;rintro e u' w4 ⟨rfl,rfl,rfl⟩;obtain ⟨d0,d1⟩:=Hp (x:=.bool false) (y:=.slice none 0 0) (z:=.int .i64 0) (x':=.bool false) (y':=.slice none 0 0) (z':=.int .i64 0) (q:=.int .i64 (1:Int)) (o:=.cells #[.int .i64 (1:Int)] 166) y0 y1 (by omega)
   have hkept:=Ir (x:=.bool false) (y:=.slice none 0 0) (z:=.int .i64 0) (x':=.bool false) (y':=.slice none 0 0) (z':=.int .i64 0) (q:=.int .i64 (1:Int)) (o:=.cells #[.int .i64 (1:Int)] 166) (KW.out.trans K2.out) (Nat.le_refl w.heap.size) (Nat.le_succ w.heap.size);have HKE:=hid hkept;clear hkept y0 y1;refine ⟨.tuple #[.agg #[.bool false,.slice none 0 0,.int .i64 0,.bool false,.slice none 0 0,.int .i64 0],.int .i64 (1:Int)],?_,?_⟩
   ·obtain ⟨-,c0,c1,c2,c3,c4,c5⟩:=d0.facts;generalize laidI _ _ _ _ _ _ _ _ _ _ _=WW at *;simp [results,Tryz.results124,go_sem,c0,c1,c2,c3,c4,c5,d1]
   ·exact ⟨HKE.out.drew,_,rfl,Ed _⟩
  ·have hd1:decide (1≤p)=false:=by simp;omega
   clear hp h1
   go_enter_defers Tryz.func124,Tryz.ntmps124
   go_wp2_with fail;rw [←HW.out];refine (Kr false 1 _).mono ?_;rintro e w3 ⟨he,rfl⟩;obtain rfl:e=.panicked (Cw 166 1):=he;change bodyPostD _ _ _ (Exit.panic _) _ _;refine leaves_cons (f:=172) (args:=#[.pointer (some ⟨w.heap.size,0,none⟩),.pointer (some ⟨w.heap.size+1,0,none⟩)]) (by simp) (by simp [go_sem]) ?_;have y0:=B0.out.kept K2.out;have y1:=((Below.block K2.out) (w.heap.size+1) (Array.getElem?_eq_some_iff.1 B1.out).1).trans B1.out;refine (I8 _ _ _ _ _ _ _ _ _ _ _ y0 y1 (by omega)).mono ?_;rintro e u' w4 ⟨rfl,rfl,rfl⟩;obtain ⟨d0,d1⟩:=Hp (x:=.bool false) (y:=.slice none 0 0) (z:=.int .i64 0) (x':=.bool false) (y':=.slice none 0 0) (z':=.int .i64 0) (q:=.int .i64 (1:Int)) (o:=.cells #[.int .i64 (1:Int)] 166) y0 y1 (by omega)
   have hkept:=Ir (x:=.bool false) (y:=.slice none 0 0) (z:=.int .i64 0) (x':=.bool false) (y':=.slice none 0 0) (z':=.int .i64 0) (q:=.int .i64 (1:Int)) (o:=.cells #[.int .i64 (1:Int)] 166) (KW.out.trans K2.out) (Nat.le_refl w.heap.size) (Nat.le_succ w.heap.size);have HKE:=hid hkept;clear hkept y0 y1;refine ⟨.tuple #[.agg #[.bool false,.slice none 0 0,.int .i64 0,.bool false,.slice none 0 0,.int .i64 0],.int .i64 (1:Int)],?_,?_⟩
   ·obtain ⟨-,c0,c1,c2,c3,c4,c5⟩:=d0.facts;generalize laidI _ _ _ _ _ _ _ _ _ _ _=WW at *;simp [results,Tryz.results124,go_sem,c0,c1,c2,c3,c4,c5,d1]
   ·exact ⟨HKE.out.drew,_,rfl,Ed _⟩
instance iIS {l:List RawI}:Nonempty (Jf fun v w=>IvS w v l):=⟨fun _ _ _ k h=>h.kept k⟩
section
variable {P:Program} {ops:Array Oper} {Q:Exit→Act→World→Prop}
theorem Ab4 {m:Nat}{V:Nat→Value→World→Prop}{a0:Act}{W:World}
 (hsz:m≤ops.size) (hap:Br ops m=true) (hin:Cr ops m a0.tmps.size=true) (hbk:Di .any ops=true)
 (hmono:∀ i v w w',Kept w w'→V i v w→V i v w')
 (hstep:∀ i o,i<m→ops[i]?=some o→∀ a w,Finds .any ops m V a0 W i a w→Bd P ops Q V i o a w)
 (hend:∀ u w,Kept W w→(∀ i,i<m→V i (u i) w)→wpOps P ops Q (List.range' m (ops.size-m)) (Ay ops (fun _=>true) u m a0) w) :
 ∀ (k i:Nat) (u:Nat→Value) (w:World),i+k=m→Kept W w→(∀ j,j<i→V j (u j) w)→wpOps P ops Q (List.range' i (ops.size-i)) (Ay ops (fun j=>decide (j<i)) u m a0) w:=by
 intro k
 induction k with
 | zero =>
   intro i u w hi hk hu;obtain rfl:i=m:=by omega
   have e:Ay ops (fun j=>decide (j<i)) u i a0=Ay ops (fun _=>true) u i a0:=Gy i (fun j hj=>⟨by simp [hj],rfl⟩);rw [e];exact hend u w hk hu
 | succ k ih =>
   intro i u w hi hk hu;have him:i<m:=by omega
   have his:i<ops.size:=by omega
   obtain ⟨r,hr⟩:∃ r,ops.size-i=r+1:=⟨ops.size-i-1,by omega⟩;have hr':ops.size-(i+1)=r:=by omega
   rw [hr,List.range'_succ];have hoi:=Array.getElem?_eq_getElem his;have hback:∀ x y,Bg .any ops x y=true→y<x:=by
    intro x y hxy;unfold Bg at hxy;by_cases hx:x<ops.size
    ·have h1:=Ck hbk x hx;rw [Array.getElem?_eq_getElem hx] at h1 hxy;simp only [Option.map_some,Option.getD_some,Array.all_eq_true',Array.any_eq_true'] at h1 hxy;obtain ⟨e,he,hb⟩:=hxy;simp only [Bool.and_eq_true,beq_iff_eq] at hb;have:=h1 e he;rw [hb.1,hb.2] at this;simpa using this
    ·rw [Array.getElem?_eq_none (by omega)] at hxy;simp at hxy
   have hF:Finds .any ops m V a0 W i (Ay ops (fun j=>decide (j<i)) u m a0) w:=by
    refine ⟨hk,Jc m,fun j t hw hs=>?_,fun t hu0=>?_⟩
    ·have hji:=hback i j hw;have hjm:j<m:=by omega
     have htn:t<a0.tmps.size:=by
      have:=Ck hin j hjm;rw [hs] at this;simpa using this
     rw [Gl (i:=j) htn (by simp [hji]) hs m hjm (fun j' hj' hne=>?_)]
     ·exact hu j hji
     ·have h1:=Ck (Ck hap j hjm) j' hj';rw [hs] at h1;simp only [Bool.or_eq_true,beq_iff_eq,bne_iff_ne] at h1;rcases h1 with (h1 | h1) | h1
      ·exact absurd h1.symm hne
      ·cases h1
      ·exact fun h=>h1 h.symm
    ·refine Gk m (fun j hj hjl hs=>?_);have h1:=Ck hu0 j hj;rw [hs] at h1;simp only [bne_self_eq_false,Bool.false_or,Bool.or_eq_true,beq_iff_eq] at h1;simp only [decide_eq_true_eq] at hjl;rcases h1 with h1 | h1
     ·omega
     ·have:=hback j i h1;omega
   have hs:=hstep i ops[i] him hoi _ w hF;unfold Bd at hs;have hso:(ops[i]).dst=An ops i:=by unfold An;rw [hoi];rfl
   have hput:∀ v,(Ay ops (fun j=>decide (j<i)) u m a0).put (ops[i]).dst v=Ay ops (fun j=>decide (j<i+1)) (upd u i v) m a0:=by
    intro v;rw [hso,Rh (S:=fun j=>decide (j<i)) (by simp) m him (fun j hj hne=>?_)]
    ·refine Gy m (fun j _=>⟨?_,rfl⟩);unfold upd;by_cases hj:j=i
     ·rw [if_pos hj];simp;omega
     ·rw [if_neg hj];by_cases h2:j<i
      ·simp [h2];omega
      ·simp [h2];omega
    ·have h1:=Ck (Ck hap i him) j hj;simp only [Bool.or_eq_true,beq_iff_eq,bne_iff_ne] at h1;rcases h1 with (h1 | h1) | h1
     ·exact absurd h1.symm hne
     ·exact .inl h1
     ·exact .inr h1
   have hnext:∀ v w',Kept w w'→V i v w'→wpOps P ops Q (List.range' (i+1) r) ((Ay ops (fun j=>decide (j<i)) u m a0).put (ops[i]).dst v) w':=by
    intro v w' hk' hv;rw [hput];have:=ih (i+1) (upd u i v) w' (by omega) (hk.trans hk') (fun j hj=>by
     unfold upd;by_cases hji:j=i
     ·subst hji;rw [if_pos rfl];exact hv
     ·rw [if_neg hji];exact hmono j _ _ _ hk' (hu j (by omega)))
    rw [hr'] at this;exact this
   unfold wpOps;simp only [hoi];by_cases hw:Region.wanted ops[i] (yielded ops (Ay ops (fun j=>decide (j<i)) u m a0).tmps)=true
   ·rw [if_pos hw] at hs ⊢;refine .inl (Oper.wp_mono (fun a' w' h=>?_) hs);obtain ⟨v,rfl,hk',hv⟩:=h;exact hnext v w' hk' hv
   ·rw [if_neg hw] at hs ⊢;exact hnext undef w (Below.refl _ _) hs
theorem Pb {id m:Nat}{V:Nat→Value→World→Prop}{a0:Act}{W:World}
 (hsz:m≤ops.size) (hap:Br ops m=true) (hin:Cr ops m a0.tmps.size=true) (hbk:Di .any ops=true)
 (hmono:∀ i v w w',Kept w w'→V i v w→V i v w')
 (hstep:∀ i o,i<m→ops[i]?=some o→∀ a w,Finds .any ops m V a0 W i a w→Bd P ops Q V i o a w)
 (hend:∀ u w,Kept W w→(∀ i,i<m→V i (u i) w)→wpOps P ops Q (List.range' m (ops.size-m)) (Ay ops (fun _=>true) u m a0) w) :
 (Code.region id ops false).wp P Q a0 W:=by
 refine wp_region ?_;rw [List.range_eq_range'];have h:=Ab4 hsz hap hin hbk hmono hstep hend m 0 (fun _=>undef) W (by omega) (Below.refl _ _) (fun j hj=>absurd hj (Nat.not_lt_zero _));have e:∀ n,Ay ops (fun j=>decide (j<0)) (fun _=>undef) n a0=a0:=by
  intro n
  induction n with
  | zero=>rfl
  | succ n ih=>unfold Ay;rw [if_neg (by simp),ih]
 rw [e m,Nat.sub_zero] at h;exact h
theorem Yy {id m:Nat}{V:Nat→Value→World→Prop}{a0:Act}{W:World}
 (hsz:m=ops.size) (hap:Br ops m=true) (hin:Cr ops m a0.tmps.size=true) (hbk:Di .any ops=true)
 (hmono:∀ i v w w',Kept w w'→V i v w→V i v w')
 (hstep:∀ i o,i<m→ops[i]?=some o→∀ a w,Finds .any ops m V a0 W i a w→Bd P ops Q V i o a w)
 (hend:∀ u w,Kept W w→(∀ i,i<m→V i (u i) w)→Q .normal (Ay ops (fun _=>true) u m a0) w) :
 (Code.region id ops false).wp P Q a0 W:=by
 refine Pb (by omega) hap hin hbk hmono hstep (fun u w k hu=>?_);have:ops.size-m=0:=by omega
 rw [this];exact hend u w k hu
theorem Pg {i:Nat}{o:Oper}{a:Act}{w:World}{rest:List Nat}(ho:ops[i]?=some o)(hg:o.guard=none)(h:o.wp P a w (fun a w=>wpOps P ops Q rest a w) Q):wpOps P ops Q (i::rest) a w:=by
 unfold wpOps;simp only [ho];have:Region.wanted o (yielded ops a.tmps)=true:=by simp [Region.wanted,hg]
 rw [if_pos this];exact .inl h
theorem Wx {id m:Nat}{V:Nat→Value→World→Prop}{a0:Act}{W:World}{o:Oper}
 (hsz:m+1=ops.size) (ho:ops[m]?=some o) (hg:o.guard=none) (hap:Br ops m=true) (hin:Cr ops m a0.tmps.size=true) (hbk:Di .any ops=true)
 (hmono:∀ i v w w',Kept w w'→V i v w→V i v w')
 (hstep:∀ i o,i<m→ops[i]?=some o→∀ a w,Finds .any ops m V a0 W i a w→Bd P ops Q V i o a w)
 (hend:∀ u w,Kept W w→(∀ i,i<m→V i (u i) w)→o.wp P (Ay ops (fun _=>true) u m a0) w (Q .normal) Q) :
 (Code.region id ops false).wp P Q a0 W:=by
 refine Pb (by omega) hap hin hbk hmono hstep (fun u w k hu=>?_);have:ops.size-m=0+1:=by omega
 rw [this,List.range'_succ];exact Pg ho hg (hend u w k hu)
theorem Wy {id m:Nat}{V:Nat→Value→World→Prop}{a0:Act}{W:World}{o o':Oper}
 (hsz:m+2=ops.size) (ho:ops[m]?=some o) (hg:o.guard=none) (ho':ops[m+1]?=some o') (hg':o'.guard=none) (hap:Br ops m=true) (hin:Cr ops m a0.tmps.size=true) (hbk:Di .any ops=true)
 (hmono:∀ i v w w',Kept w w'→V i v w→V i v w')
 (hstep:∀ i o,i<m→ops[i]?=some o→∀ a w,Finds .any ops m V a0 W i a w→Bd P ops Q V i o a w)
 (hend:∀ u w,Kept W w→(∀ i,i<m→V i (u i) w)→o.wp P (Ay ops (fun _=>true) u m a0) w (fun a w=>o'.wp P a w (Q .normal) Q) Q) :
 (Code.region id ops false).wp P Q a0 W:=by
 refine Pb (by omega) hap hin hbk hmono hstep (fun u w k hu=>?_);have:ops.size-m=1+1:=by omega
 rw [this,List.range'_succ];refine Pg ho hg (Oper.wp_mono (fun a w h=>?_) (hend u w k hu));rw [List.range'_succ];exact Pg ho' hg' h
theorem rS {id:Nat}{a0:Act}{W:World}(m:Nat)(l:List (Value→World→Prop))(hs:Id P .any ops Q m (VL l) a0 W 0 m ops.toList)(he:∀ u w,Kept W w→(∀ i,i<m→VL l i (u i) w)→Q .normal (Ay ops (fun _=>true) u m a0) w)(hM:Nonempty (Im l):=by infer_instance)
 (hz:m=ops.size:=by exact rfl) (ha:Br ops m=true:=by kernel_rfl) (hi:Cr ops m a0.tmps.size=true:=by kernel_rfl) (hb:Di .any ops=true:=by kernel_rfl):(Code.region id ops false).wp P Q a0 W :=
 Yy hz ha hi hb (He l (Fi hM)) (J4 hs) he
theorem rS1 {id:Nat}{a0:Act}{W:World}{o:Oper}(m:Nat)(l:List (Value→World→Prop))(hs:Id P .any ops Q m (VL l) a0 W 0 m ops.toList)(he:∀ u w,Kept W w→(∀ i,i<m→VL l i (u i) w)→o.wp P (Ay ops (fun _=>true) u m a0) w (Q .normal) Q)(hM:Nonempty (Im l):=by infer_instance)
 (hz:m+1=ops.size:=by exact rfl) (ho:ops[m]?=some o:=by exact rfl) (hg:o.guard=none:=by exact rfl) (ha:Br ops m=true:=by kernel_rfl) (hi:Cr ops m a0.tmps.size=true:=by kernel_rfl)
 (hb:Di .any ops=true:=by kernel_rfl):(Code.region id ops false).wp P Q a0 W :=
 Wx hz ho hg ha hi hb (He l (Fi hM)) (J4 hs) he
theorem rS2 {id:Nat}{a0:Act}{W:World}{o o':Oper}(m:Nat)(l:List (Value→World→Prop))(hs:Id P .any ops Q m (VL l) a0 W 0 m ops.toList)(he:∀ u w,Kept W w→(∀ i,i<m→VL l i (u i) w)→o.wp P (Ay ops (fun _=>true) u m a0) w (fun a w=>o'.wp P a w (Q .normal) Q) Q)(hM:Nonempty (Im l):=by infer_instance)
 (hz:m+2=ops.size:=by exact rfl) (ho:ops[m]?=some o:=by exact rfl) (hg:o.guard=none:=by exact rfl) (ho':ops[m+1]?=some o':=by exact rfl) (hg':o'.guard=none:=by exact rfl) (ha:Br ops m=true:=by kernel_rfl) (hi:Cr ops m a0.tmps.size=true:=by kernel_rfl)
 (hb:Di .any ops=true:=by kernel_rfl):(Code.region id ops false).wp P Q a0 W :=
 Wy hz ho hg ho' hg' ha hi hb (He l (Fi hM)) (J4 hs) he
end
theorem RetIE.good {o:Outc RawI}{w w':World}{e:Ending}(h:RetIE o w e w'):Gf (fun u w=>∃ d,u=.tuple #[d,.int .i64 o.k]∧IvR w d o.v) w e w':=by
 obtain ⟨k,v,he,hl⟩:=h;exact ⟨_,he,k,v,rfl,hl⟩
theorem RetI.good {a:RawI}{w w':World}{e:Ending}(h:RetI a w e w'):Gf (fun u w=>IvR w u a) w e w':=by
 obtain ⟨k,v,he,hl⟩:=h;exact ⟨v,he,k,hl⟩
section
variable {P:Program} {ops:Array Oper} {Q:Exit→Act→World→Prop} {i:Nat} {a:Act} {w:World} {V:Nat→Value→World→Prop} {o:Oper} {f:FuncId} {args:Array Value}
theorem sI {x:RawI}(hc:Calls P f args w (RetI x w))(hp:∀ v w',IvR w' v x→V i v w')(hw:Region.wanted o (yielded ops a.tmps)=true:=by simp [Region.wanted])(h:(execOp a.eval o).run P w=.ok (.enter f args) w:=by go_simp):Bd P ops Q V i o a w :=
 Av hw h hc (fun _ _ h=>RetI.good h) hp
theorem sP {x:Outc RawI}(hc:Calls P f args w (RetIE x w))(hp:∀ v w',(∃ d,v=.tuple #[d,.int .i64 x.k]∧IvR w' d x.v)→V i v w')(hw:Region.wanted o (yielded ops a.tmps)=true:=by simp [Region.wanted])(h:(execOp a.eval o).run P w=.ok (.enter f args) w:=by go_simp):Bd P ops Q V i o a w :=
 Av hw h hc (fun _ _ h=>RetIE.good h) hp
end
section
variable {P:Program} {ops:Array Oper} {Q:Exit→Act→World→Prop}
theorem Ae6 {V V1:Nat→Value→World→Prop}{i:Nat}{o:Oper}{a:Act}{w:World}(h:Bd P ops Q V1 i o a w)(hi:∀ v w',V1 i v w'→V i v w'):Bd P ops Q V i o a w:=by
 unfold Bd at *;by_cases hw:Region.wanted o (yielded ops a.tmps)=true
 ·rw [if_pos hw] at h ⊢;exact Oper.wp_mono (fun a' w' ⟨v,h1,h2,h3⟩=>⟨v,h1,h2,hi v w' h3⟩) h
 ·rw [if_neg hw] at h ⊢;exact hi _ _ h
theorem sOc {V:Nat→Value→World→Prop}{i:Nat}{o:Oper}{a:Act}{w:World}{g t:Nat}{b v:Bool}(hg:o.guard=some (g,b))(hs:An ops g=some t)(sg:a.tmps.getD t undef=.bool v)(hb:(v==b)=false)(hv:V i undef w):Bd P ops Q V i o a w:=Xd ((Ak hg hs sg).trans hb) hv
theorem sVc {V:Nat→Value→World→Prop}{i:Nat}{o:Oper}{a:Act}{w:World}{x:Value}{g t:Nat}{b v:Bool}(hg:o.guard=some (g,b))(hs:An ops g=some t)(sg:a.tmps.getD t undef=.bool v)(hb:(v==b)=true)(hv:V i x w:=by exact rfl)(h:(execOp a.eval o).run P w=.ok (.value x) w:=by go_simp):Bd P ops Q V i o a w:=Ar ((Ak hg hs sg).trans hb) h hv
instance iCond {C:Bool} {p:Value→World→Prop} [h:Nonempty (Jf p)]:Nonempty (Jf fun v w=>(C=true→p v w)∧(C=false→v=undef)):=⟨fun v w w' k q=>⟨fun e=>Fi h v w w' k (q.1 e),q.2⟩⟩
theorem nW {C:Bool}{q:Prop}(h:C=false):(C=true→q)∧(C=false→undef=undef):=⟨fun e=>absurd (h.symm.trans e) (by decide),fun _=>rfl⟩
theorem sIm {V:Nat→Value→World→Prop}{i:Nat}{o:Oper}{a:Act}{w:World}{C:Bool}(hC:C=true)(p:Value→World→Prop)(h:Bd P ops Q (fun _=>p) i o a w)(e:∀ v w',((C=true→p v w')→(C=false→v=undef)→V i v w'):=by exact fun _ _ a b=>⟨a,b⟩):Bd P ops Q V i o a w :=
 Ae6 h fun v w' q=>e v w' (fun _=>q) (fun n=>absurd (hC.symm.trans n) (by decide))
end
theorem DyR.dyW {w:World}{v:Value}{r:Raw}{b:Nat}{x y z:Value}(h:DyR w v r)(h0:Blk w b x y z)(hx:Bf x)(hy:Bf y)(hz:Bf z)(x' y' z':Value):DyR (Go.Proofs.YtabjjdicffcolaaGreatDoor.dyW w b x' y' z') v r:=by
 obtain ⟨s,rfl,hs,h1,h2⟩:=h;exact ⟨s,rfl,hs.dyW h0 hx hy hz,h1,h2⟩
theorem Lb (w:World)(x y z:Value):∃ V,V=w.alloc (.cells #[x,y,z] 28)∧Kept w V∧Blk V w.heap.size x y z∧w.heap.size<V.heap.size :=
 ⟨_,rfl,Ad _ _,Bk _ _ _ _,by simp⟩
theorem Yj:Ai 1=[1]:=by rw [Df 1 (by decide)];simp [Aw]
def d1:Dy:=⟨false,1,0⟩
theorem Yq (n:Bool)(e:Int)(h1:-1048576≤e)(h2:e≤1048576):(Dy.mk n 1 e).Ok:=⟨by simp [Yj],fun h=>absurd h (by simp),fun _=>rfl,h1,h2⟩
theorem Hm:d1.Ok:=Yq _ _ (by decide) (by decide)
theorem Vu:Bt false 1 0=⟨d1,0⟩:=Ot Hm
theorem Aig {i:Nat}(h:i<1000000):wrap64 ((i:Int)+1)=((i+1:Nat):Int):=by unfold wrap64;omega
theorem Aji {i q:Nat}(h:i<q):((q:Int)-((i+1:Nat):Int)).toNat<((q:Int)-(i:Int)).toNat:=by omega
theorem T6 {w w':World}{b o:Nat}{v:Value}(h:w.cell? ⟨b,o,none⟩=some v)(k:Kept w w'):w'.cell? ⟨b,o,none⟩=some v:=(k.cell (p:=⟨b,o,none⟩) (Ap h)).trans h
theorem Aal {w:World}{v u:Value}{r:Raw}(hv:DyR w v r)(hu:DyR w u r)(hr:r.m.length≤1000000):Calls Tryz.prog 61 #[v,u] w (RetK (.bool true) w):=by
 obtain ⟨s,rfl,hl,-,-⟩:=hv;obtain ⟨s',rfl,hl',-,-⟩:=hu;obtain ⟨-,A,c,rfl,-,hA⟩:=hl;obtain ⟨-,A',c',rfl,-,hA'⟩:=hl';generalize r.neg=n1 at *;generalize r.e=e1 at *;obtain ⟨W,hW,kW,B0,B1⟩:=Qi w (.bool n1) (.slice A r.m.length c) (.int .i64 e1) (.bool n1) (.slice A' r.m.length c') (.int .i64 e1);have HA:=hid hA;have HA':=hid hA';have HW:=hid hW;have K:=hid kW;have HB:=hid B0;have HD:=hid B1;have RN:=hid hr;clear hA hA' hW kW B0 B1 hr;obtain ⟨-,c0,c1,c2,-⟩:=HB.out.facts;obtain ⟨-,d0,d1,d2,-⟩:=HD.out.facts;go_enter Tryz.func61,Tryz.ntmps61;go_upto_region 1 with fail;rw [←HW.out];go_wp2_with fail
 go_loopw [5] (fun vi wr=>∃ i:Nat,i≤r.m.length∧vi=.int .i64 i∧Kept W wr) (fun vi _=>(r.m.length-intOf vi).toNat)
 case atStart=>exact ⟨0,Nat.zero_le _,rfl,Below.refl _ _⟩
 case round =>
  obtain ⟨i,hi,rfl,hkr⟩:=hrel;have KR:=hid hkr;clear hkr c0 c1 c2 d0 d1 d2;obtain ⟨-,c0,c1,c2,-⟩:=(HB.out.kept KR.out).facts;obtain ⟨-,d0,d1,d2,-⟩:=(HD.out.kept KR.out).facts;by_cases hlt:i<r.m.length
  ·obtain ⟨b,off,rfl,-,hb⟩:=HA.out (by omega);obtain ⟨b',off',rfl,-,hb'⟩:=HA'.out (by omega);have x0:=T6 (hb i hlt) (K.out.trans KR.out);have x1:=T6 (hb' i hlt) (K.out.trans KR.out);obtain ⟨z,hz⟩:∃ z,z=nth r.m i:=⟨_,rfl⟩;rw [←hz] at x0 x1;have X0:=hid x0;have X1:=hid x1;have BB:=hid (HB.out.kept KR.out);have BD:=hid (HD.out.kept KR.out);have HLT:=hid hlt;clear x0 x1 hb hb' hz hlt;go_wp2_with fail
   refine rgL 11 ([(vP w.heap.size 1),(vE (.slice (some ⟨b,off,none⟩) r.m.length c)),(vE (.int .i64 (i:Int))),(vE (.pointer (some ⟨b,off+i,none⟩))),(vE (.int .u64 (z:Int))),(vP (w.heap.size+1) 1),(vE (.slice (some ⟨b',off',none⟩) r.m.length c')),(vE (.int .i64 (i:Int))),(vE (.pointer (some ⟨b',off'+i,none⟩))),(vE (.int .u64 (z:Int))),(vE (.bool false))])
    ⟨
     (gq 2),(gvl 0 34 fun _ k=>Aj BB.out k 1 _ rfl),(gq 5),(fun aF wF F=>by have s35:=F.v 1 35;have s36:=F.v 2 36;exact sw (by (have h9:=HLT.out;go_simp)) rfl),(fun aF wF F=>by have s37:=F.v 3 37;exact sw (by (have n0:=T6 X0.out F.kept;go_simp)) rfl),(gq 3),(gvl 5 39 fun _ k=>Aj BD.out k 1 _ rfl),(gq 5),(fun aF wF F=>by have s40:=F.v 6 40;have s41:=F.v 7 41;exact sw (by (have h9:=HLT.out;go_simp)) rfl),(fun aF wF F=>by have s42:=F.v 8 42;exact sw (by (have n0:=T6 X1.out F.kept;go_simp)) rfl),(gvv 4 38 9 43),
     trivial⟩ ?_
   intro u w6 q6 hu;simp only [Ay,An,if_true,Act.put,zlA,zlB,zlC,zlD,zlE,zlF,zlG,hv hu 0,hv hu 1,hv hu 2,hv hu 3,hv hu 4,hv hu 5,hv hu 6,hv hu 7,hv hu 8,hv hu 9,hv hu 10];clear hu;have K6:=hid (KR.out.trans q6);clear q6;go_wp2_with fail;go_roundw
   case rel=>exact ⟨i+1,HLT.out,congrArg _ (Aig (Nat.lt_of_lt_of_le HLT.out RN.out)),K6.out⟩
   case measure =>
    rw [Aig (Nat.lt_of_lt_of_le HLT.out RN.out)];simp only [intOf];exact Aji HLT.out
  ·obtain rfl:i=r.m.length:=by omega
   go_wp2_with fail;go_ret;exact ⟨rfl,K.out.trans KR.out⟩
theorem Aeu {w:World}{v u:Value}{a:RawI}(hv:IvR w v a)(hu:IvR w u a)(hl:a.lens 1000000):Calls Tryz.prog 28 #[v,u] w (RetK (.bool true) w):=by
 obtain ⟨A,l,c,A',l',c',rfl,h1,h2⟩:=Aq hv;obtain ⟨B,j,e,B',j',e',rfl,g1,g2⟩:=Aq hu;have q1:=fun w1 (k:Kept w w1)=>Aal (h1.kept k) (g1.kept k) hl.1
 have q2:=fun w1 (k:Kept w w1)=>Aal (h2.kept k) (g2.kept k) hl.2
 have Q1:=hid q1;have Q2:=hid q2;clear q1 q2 h1 h2 g1 g2 hv hu hl;generalize a.lo.neg=n1 at *;generalize a.lo.e=e1 at *;generalize a.hi.neg=n2 at *;generalize a.hi.e=e2 at *;obtain ⟨W,hW,kW,BI,BJ⟩:=Tz w (.bool n1) (.slice A l c) (.int .i64 e1) (.bool n2) (.slice A' l' c') (.int .i64 e2) (.bool n1) (.slice B j e) (.int .i64 e1) (.bool n2) (.slice B' j' e') (.int .i64 e2);have HW:=hid hW;have K:=hid kW;have HB:=hid BI;have HD:=hid BJ;clear hW kW BI BJ;go_enter Tryz.func28,Tryz.ntmps28;go_upto_region 1 with fail;rw [←HW.out]
 refine rS 13 ([(vP w.heap.size 0),(vE (.agg #[.bool n1,.slice A l c,.int .i64 e1])),(vP (w.heap.size+1) 0),(vE (.agg #[.bool n1,.slice B j e,.int .i64 e1])),(vE (.bool true)),(vE (.bool true)),(vP w.heap.size 3),(vE (.agg #[.bool n2,.slice A' l' c',.int .i64 e2])),(vP (w.heap.size+1) 3),(vE (.agg #[.bool n2,.slice B' j' e',.int .i64 e2])),(vE (.bool true)),(vE (.bool true)),(vE (.bool true))])
  ⟨
   (gq 2),(fun aF wF F=>by have s5:=F.v 0 5;have c0:=Aj HB.out F.kept 0 _ rfl;have c1:=Aj HB.out F.kept 1 _ rfl;have c2:=Aj HB.out F.kept 2 _ rfl;exact sv rfl),(gq 3),(fun aF wF F=>by have s7:=F.v 2 7;have c0:=Aj HD.out F.kept 0 _ rfl;have c1:=Aj HD.out F.kept 1 _ rfl;have c2:=Aj HD.out F.kept 2 _ rfl;exact sv rfl),(fun aF wF F=>by have s6:=F.v 1 6;have s8:=F.v 3 8;exact sK (Q1.out _ (K.out.trans F.kept)) fun _ _ h=>h),(gv 4 9),(fun aF wF F=>by have s2:=F.q 2 (.pointer (some ⟨w.heap.size,0,none⟩));have sg:=F.v 5 10;exact Ar ((Ak rfl rfl sg).trans rfl) (by go_simp) rfl),(fun aF wF F=>by have s11:=F.v 6 11;have c0:=Aj HB.out F.kept 3 _ rfl;have c1:=Aj HB.out F.kept 4 _ rfl;have c2:=Aj HB.out F.kept 5 _ rfl;have sg:=F.v 5 10;exact Ar ((Ak rfl rfl sg).trans rfl) (by go_simp) rfl),(fun aF wF F=>by have s3:=F.q 3 (.pointer (some ⟨w.heap.size+1,0,none⟩));have sg:=F.v 5 10;exact Ar ((Ak rfl rfl sg).trans rfl) (by go_simp) rfl),(fun aF wF F=>by have s13:=F.v 8 13;have c0:=Aj HD.out F.kept 3 _ rfl;have c1:=Aj HD.out F.kept 4 _ rfl;have c2:=Aj HD.out F.kept 5 _ rfl;have sg:=F.v 5 10;exact Ar ((Ak rfl rfl sg).trans rfl) (by go_simp) rfl),(fun aF wF F=>by have s12:=F.v 7 12;have s14:=F.v 9 14;have sg:=F.v 5 10;exact Av ((Ak rfl rfl sg).trans rfl) (by go_simp) (Q2.out _ (K.out.trans F.kept)) (fun _ _ h=>RetK.good h) (fun _ _ h=>h)),(gvv 5 10 10 15),(gv 11 16),
   trivial⟩ ?_
 intro u w1 k1 hu;simp only [Ay,An,if_true,Act.put,zlA,zlB,zlC,zlD,zlE,zlF,zlG,hv hu 0,hv hu 1,hv hu 2,hv hu 3,hv hu 4,hv hu 5,hv hu 6,hv hu 7,hv hu 8,hv hu 9,hv hu 10,hv hu 11,hv hu 12];clear hu;have KF:=hid (K.out.trans k1);clear k1;go_wp2_with fail;go_ret;exact ⟨rfl,KF.out⟩
theorem Aey {w:World}{b0 b1:Nat}{d:Dy}{n:Int}{A:Option Addr}{l c:Nat}(hb:Blk w b0 (.bool d.neg) (.slice A l c) (.int .i64 d.e))(hd:Lim w (.slice A l c) (Ai d.m))(c1:w.cell? ⟨b1,0,none⟩=some (.int .i64 n))
 (ok:d.Ok) (n1:-2097152≤n) (n2:n≤2097152) (hT:Tab w) :
 Calls Tryz.prog 210 #[.pointer (some ⟨b0,0,none⟩),.pointer (some ⟨b1,0,none⟩)] w (Goes 129 (F5 d n).raw w):=by
 have hlen:=hd.len;have hdy:DyR w (.agg #[.bool d.neg,.slice A l c,.int .i64 d.e]) d.raw:=hd.dyR (r:=d.raw) (by show (-9223372036854775808:Int)≤d.e;have:=ok.lo;omega) (by show d.e≤9223372036854775807;have:=ok.hi;omega);have hm:=fun w1 (k:Kept w w1)=>Adz (hdy.kept k) ok
 have M:=hid hm;have HB:=hid hb;have HC:=hid c1;have hl1:=Ap c1;simp only at hl1;have e1:=ok.lo;have e2:=ok.hi;have hf:=fun w1 (k:Kept w w1)=>Zx (neg:=d.neg) (n:=d.m) (e:=d.e+n) (hd.kept k) (by have:=Dr ok;show (Ai d.m).length≤_;have h2:(Ai d.m).length≤64:=ok.len;omega) (by omega) (by omega) (hT.kept k)
 have F:=hid hf;have hwr:IntKind.i64.wrap (d.e+n)=d.e+n:=by simp [IntKind.wrap_i64];omega
 unfold F5;by_cases h0:d.m=0
 ·rw [if_pos h0];have hl0:l=0:=by rw [hlen,h0,Aw];rfl
  subst hl0;have HD:=hid hd;clear hf hm hdy hb hd c1 hlen hT F hwr
  show Calls _ _ _ _ (Goes _ ⟨d.raw,0⟩ w)
  have RR:Hid (d.raw=⟨d.neg,Ai d.m,d.e⟩):=rfl;rw [RR.out];clear RR ok h0;generalize d.neg=n1 at *;generalize d.e=e at *;generalize Ai d.m=xs at *;obtain ⟨hlt0,a0,a1,a2,-⟩:=HB.out.facts;go_enter Tryz.func210,Tryz.ntmps210;go_wp2_with fail;refine (M.out _ (Ad _ _)).mono ?_;rintro _ w1 ⟨rfl,q⟩;simp only [];have KK:=hid ((Ad _ _).trans q);have B2:=hid ((Bk _ _ _ _).kept q);clear q a0 a1 a2;obtain ⟨-,a0,a1,a2,-⟩:=(HB.out.kept KK.out).facts;go_wp2_with fail;refine (Gx _ _ _).mono ?_;rintro ee w2 ⟨he,rfl⟩;obtain rfl:ee=.returned (.tuple #[]):=he;simp only [];obtain ⟨-,x0,x1,x2,f0,f1,f2⟩:=B2.out.facts
  go_wp2_with fail;exact Ca (B2.out.laid _ _ _) rfl rfl rfl ⟨Am KK.out (Nat.le_refl _),.inl ⟨rfl,_,rfl,((HD.out.kept KK.out).dyW B2.out (Ah _) (Ag _ _ _) (Af _)).dyR (r:=⟨n1,xs,e⟩) (by show (-9223372036854775808:Int)≤e;omega) (by show e≤9223372036854775807;omega)⟩⟩
 ·rw [if_neg h0,if_neg (by omega)];have hl0:((l:Int)==0)=false:=by
   have:=Bj d.m h0;rw [beq_eq_false_iff_ne,hlen];omega
  have d1:decide (n≤2097152)=true:=by simp;omega
  have d2:decide (-2097152≤n)=true:=by simp;omega
  clear hf hm hdy hb hd c1 hlen hT ok h0;generalize Bt d.neg d.m (d.e+n)=o at *;generalize d.neg=n1 at *;generalize d.e=e at *;obtain ⟨hlt0,a0,a1,a2,-⟩:=HB.out.facts;have hc1:=HC.out;go_enter Tryz.func210,Tryz.ntmps210;go_wp2_with fail;refine (M.out _ (Ad _ _)).mono ?_;rintro _ w1 ⟨rfl,q⟩;simp only [];have KK:=hid ((Ad _ _).trans q);have B2:=hid ((Bk _ _ _ _).kept q);clear q a0 a1 a2 hc1;obtain ⟨-,a0,a1,a2,-⟩:=(HB.out.kept KK.out).facts;have hc1:=Al KK.out HC.out;go_wp2_with fail;refine (Gx _ _ _).mono ?_;rintro ee w2 ⟨he,rfl⟩;obtain rfl:ee=.returned (.tuple #[]):=he
  simp only [];go_wp2_with fail;refine (Gx _ _ _).mono ?_;rintro ee w2 ⟨he,rfl⟩;obtain rfl:ee=.returned (.tuple #[]):=he;simp only [];go_wp2_with fail;refine (F.out _ KK.out).mono ?_;rintro ee w3 ⟨qk,⟨h0,u,rfl,hd⟩ | ⟨h0,rfl⟩⟩
  ·obtain ⟨A',l',c',rfl,-,hd,g1,g2⟩:=hd.shape;have b2:=B2.out.kept qk;obtain ⟨-,x0,x1,x2,f0,f1,f2⟩:=b2.facts;have HD:=hid hd;have HB2:=hid b2;clear hd b2 a0 a1 a2 hc1;simp only [];go_wp2_with fail;exact Ca (HB2.out.laid _ _ _) rfl rfl rfl ⟨Am (KK.out.trans qk) (Nat.le_refl _),.inl ⟨h0,_,rfl,(HD.out.dyW HB2.out (Ah _) (Ag _ _ _) (Af _)).dyR g1 g2⟩⟩
  ·exact ⟨rfl,KK.out.trans qk,.inr ⟨h0,rfl⟩⟩
theorem Sv (w:World)(o o':Obj)(x y z:Value):Blk (((w.alloc o).alloc o').alloc (.cells #[x,y,z] 28)) (w.heap.size+1+1) x y z:=by
 have:=Bk ((w.alloc o).alloc o') x y z;simp only [World.size_alloc] at this;exact this
theorem Aft {w:World}{v:Value}{d:Dy}{n:Int}(hv:DyR w v d.raw)(ok:d.Ok)(n1:-2097152≤n)(n2:n≤2097152)(hT:Tab w) :
 Calls Tryz.prog 209 #[v,.int .i64 n] w (RetE (F5 d n).raw w):=by
 have hmf:=Gq;obtain ⟨A,l,c,rfl,-,hs,-,-⟩:=hv.shape;have hf:=fun (W:World) (k:Kept w W) (H:Nat) (c0:Blk W H (.bool d.neg) (.slice A l c) (.int .i64 d.e)) (c1:W.cell? ⟨H+1,0,none⟩=some (.int .i64 n)) =>
  Yb (w:=W) (K:=210) (cap:=#[.pointer (some ⟨H,0,none⟩),.pointer (some ⟨H+1,0,none⟩)])
   (fun W1 k1=>Aey (c0.kept k1) (hs.kept (k.trans k1)) (Al k1 c1) ok n1 n2 (hT.kept (k.trans k1))) (fun h=>by have:=(Tj ok n).2 h;show ((F5 d n).v).raw=rz;rw [this,Ez]) (fun _=>rfl)
 have HF:=hid hf;clear hf hv hs hT n1 n2
 show Calls _ _ #[.agg #[.bool d.neg,.slice A l c,.int .i64 d.e],_] _ _
 generalize (F5 d n).raw=o at *;generalize d.neg=n1 at *;generalize d.e=e at *;go_enter Tryz.func209,Tryz.ntmps209;go_wp2_with fail;refine (HF.out _ ?k _ ?c0 ?c1).mono ?m
 case k=>exact ((Ad _ _).trans (Ad _ _)).trans (Ad _ _)
 case c0=>exact ((Bk _ _ _ _).kept (Ad _ _)).kept (Ad _ _)
 case c1=>exact Al (Ad _ _) (Ag6 _ _ _ _)
 case m =>
  rintro e w1 ⟨qk,u,rfl,hd⟩;obtain ⟨A',l',c',rfl,-,hd,g1,g2⟩:=hd.shape;have b0:=(Sv _ _ _ _ _ _).kept qk;obtain ⟨_,c0,c1,c2,f0,f1,f2⟩:=b0.facts;have HD:=hid hd;clear hd;simp only [];go_wp2_with fail;exact Dv (Blk.laid b0 _ _ _) rfl rfl rfl ⟨Am ((((Ad _ _).trans (Ad _ _)).trans (Ad _ _)).trans qk) (by omega),_,rfl,(HD.out.dyW b0 (Ah _) (Ag _ _ _) (Af _)).dyR g1 g2⟩
theorem Fl {w:World}{v:Value}{r:Raw}{k:Int}(hv:DyR w v r):Calls Tryz.prog 203 #[v,.int .i64 k] w (RetD r w):=by
 obtain ⟨A,l,c,rfl,-,hs,g1,g2⟩:=hv.shape;obtain ⟨W,hW,kW,B0,BR⟩:=Kc w (.bool r.neg) (.slice A l c) (.int .i64 r.e);have HW:=hid hW;have K:=hid kW;have HS:=hid hs;have HB:=hid BR;obtain ⟨-,a0,a1,a2,-⟩:=B0.facts;obtain ⟨-,x0,x1,x2,f0,f1,f2⟩:=BR.facts;clear hW kW hs hv B0 BR;go_enter Tryz.func203,Tryz.ntmps203;go_upto_region 1 with fail;rw [←HW.out];go_wp2_with fail;exact Ca (HB.out.laid _ _ _) rfl rfl rfl ⟨Am K.out (by omega),_,rfl,((HS.out.kept K.out).dyW HB.out (Ah _) (Ag _ _ _) (Af _)).dyR g1 g2⟩
def Ba (d:Dy):Int:=bl d.m+d.e
def G4 (p:Nat) (up:Bool) (d:Dy):Dy:=(Dc d p up).v
theorem Mn (p:Nat)(up:Bool)(d:Dy):(G4 p up d).Ok:=(Gi d p up).1
theorem Afo {w:World}{v:Value}{d:Dy}(hv:DyR w v d.raw)(ok:d.Ok):Calls Tryz.prog 207 #[v] w (RetK (.int .i64 (Ba d)) w):=by
 obtain ⟨A,l,c,rfl,-,hs,-,-⟩:=hv.shape;have hc:=fun w1 (k:Kept w w1)=>Kx (hs.kept k) (by have:=ok.len;omega)
 have hb:=Da d.m 64 ok.len;have e1:=ok.lo;have e2:=ok.hi;have hw:IntKind.i64.wrap ((bl d.m:Int)+d.e)=Ba d:=by unfold Ba;simp [IntKind.wrap_i64];omega
 have C:=hid hc;have HX:=hid hw;clear hc hs hv hw hb e1 e2
 show Calls _ _ #[.agg #[.bool d.neg,.slice A l c,.int .i64 d.e]] _ _
 generalize Ba d=t at *;generalize bl d.m=m at *;generalize d.neg=n1 at *;generalize d.e=e at *;go_enter Tryz.func207,Tryz.ntmps207;go_wp2_with fail
 refine rgL 7 ([(vP w.heap.size 1),(vE (.slice A l c)),(vE (.int .i64 m)),(vP w.heap.size 2),(vE (.int .i64 e)),(vE (.int .i64 t)),(vE (.int .i64 t))])
  ⟨
   (gq 1),(gvl 0 3 fun _ k=>Aj (Bk w _ _ _) k 1 _ rfl),(fun aF wF F=>by have s4:=F.v 1 4;exact sQ (C.out _ ((Ad _ _).trans F.kept)) fun _ _ h=>h),(gq 1),(gvl 3 6 fun _ k=>Aj (Bk w _ _ _) k 2 _ rfl),(fun aF wF F=>by have s5:=F.v 2 5;have s7:=F.v 4 7;exact sw (by (go_simp;exact HX.out)) rfl),(gv 5 8),
   trivial⟩ ?_
 intro u w1 k1 hu;simp only [Ay,An,if_true,Act.put,zlA,zlB,zlC,zlD,zlE,zlF,zlG,hv hu 0,hv hu 1,hv hu 2,hv hu 3,hv hu 4,hv hu 5,hv hu 6];clear hu;go_wp2_with fail;go_ret;exact ⟨rfl,(Ad _ _).trans k1⟩
def SBlk (w:World) (b:Nat) (p:Nat) (up:Bool):Prop:=w.heap[b]?=some (.cells #[.int .i64 (p:Int),.bool up] 175 (0,0))
theorem SBlk.kept {w w1:World}{b p:Nat}{up:Bool}(h:SBlk w b p up)(k:Kept w w1):SBlk w1 b p up:=(k.block b (Array.getElem?_eq_some_iff.1 h).1).trans h
theorem SBlk.facts {w:World}{b p:Nat}{up:Bool}(h:SBlk w b p up):b<w.heap.size∧w.cell? ⟨b,0,none⟩=some (.int .i64 (p:Int))∧w.cell? ⟨b,1,none⟩=some (.bool up) :=
 ⟨(Array.getElem?_eq_some_iff.1 h).1,Ae h 0 _ rfl,Ae h 1 _ rfl⟩
theorem SBlk.dyW {w:World}{b c p:Nat}{up:Bool}(h:SBlk w b p up)(hne:¬b=c)(x y z:Value):SBlk (dyW w c x y z) b p up:=by
 show (((w.setCell _ _).setCell _ _).setCell _ _).heap[b]?=_
 rw [Below.heap_setCell _ _ _ _ hne,Below.heap_setCell _ _ _ _ hne,Below.heap_setCell _ _ _ _ hne];exact h
theorem Ze (w:World)(p:Nat)(up:Bool)(x y z:Value):∃ W,W=((w.alloc (.cells #[.int .i64 (p:Int),.bool up] 175)).alloc (.cells #[x,y,z] 28)).alloc (.cells #[.bool false,.slice none 0 0,.int .i64 0] 28) ∧
 Kept w W∧SBlk W w.heap.size p up∧Blk W (w.heap.size+1) x y z∧Blk W (w.heap.size+1+1) (.bool false) (.slice none 0 0) (.int .i64 0):=by
 refine ⟨_,rfl,((Ad _ _).trans (Ad _ _)).trans (Ad _ _),?_,?_,Sv _ _ _ _ _ _⟩
 ·exact SBlk.kept (SBlk.kept (show SBlk (w.alloc _) _ _ _ from heap_alloc_new _ _) (Ad _ _)) (Ad _ _)
 ·exact (Dp _ _ _ _ _).kept (Ad _ _)
theorem Ahz {w:World}{v:Value}{p:Nat}{d:Dy}(hv:DyR w v d.raw)(ok:d.Ok)(p1:1≤p)(p2:p≤2000)(hT:Tab w) :
 Calls Tryz.prog 185 #[.agg #[.int .i64 (p:Int),.bool true],v] w (RetD (G4 p true d).raw w):=by
 have C:=hid (fun w1 v1 (k:Kept w w1) (h:DyR w1 v1 d.raw)=>Xo h ok (hT.kept k) p1 p2);obtain ⟨A,l,c,rfl,hs⟩:=Bi hv;have HS:=hid hs;clear hv hs hT ok p1 p2;have hd:G4 p true d=(Dc d p true).v:=rfl;rw [hd];obtain ⟨o,ho⟩:∃ o,o=(Dc d p true).raw:=⟨_,rfl⟩;rw [←ho] at C;have hr:(Dc d p true).v.raw=o.v:=by rw [ho];rfl
 rw [hr];clear hr ho hd;generalize d.raw=r at *;generalize d.neg=n1 at *;generalize d.e=e at *;obtain ⟨W,hW,kW,BS,BA,BR⟩:=Ze w p true (.bool n1) (.slice A l c) (.int .i64 e);have HW:=hid hW;have K:=hid kW;have HB:=hid BR;obtain ⟨-,s0,s1⟩:=BS.facts;obtain ⟨-,a0,a1,a2,-⟩:=BA.facts;clear hW kW BR;go_enter Tryz.func185,Tryz.ntmps185;go_upto_region 1 with fail;rw [←HW.out];go_wp2_with fail;refine (C.out _ _ K.out (HS.out.kept K.out)).mono ?_;rintro ee w1 ⟨q,u,rfl,hd⟩;simp only [];have KK:=hid (K.out.trans q);have HD:=hid hd;replace HB:=hid (HB.out.kept q);clear q hd a0 a1 a2 s0 s1;go_wp2_with fail
 refine (Fl HD.out).mono ?_;rintro ee w2 ⟨q,v2,rfl,hd2⟩;obtain ⟨A',l',c',rfl,-,hd,g1,g2⟩:=hd2.shape;replace KK:=hid (KK.out.trans q);replace HB:=hid (HB.out.kept q);replace HD:=hid hd;clear q hd hd2;obtain ⟨-,x0,x1,x2,f0,f1,f2⟩:=HB.out.facts;simp only [];go_wp2_with fail;exact Ca (HB.out.laid _ _ _) rfl rfl rfl ⟨Am KK.out (by omega),_,rfl,(HD.out.dyW HB.out (Ah _) (Ag _ _ _) (Af _)).dyR g1 g2⟩
theorem Ahy {w:World}{v:Value}{p:Nat}{d:Dy}(hv:DyR w v d.raw)(ok:d.Ok)(p1:1≤p)(p2:p≤2000)(hT:Tab w) :
 Calls Tryz.prog 185 #[.agg #[.int .i64 (p:Int),.bool false],v] w (RetD (G4 p false d).raw w):=by
 have C:=hid (fun w1 v1 (k:Kept w w1) (h:DyR w1 v1 d.raw)=>M0 h ok (hT.kept k) p1 p2);obtain ⟨A,l,c,rfl,hs⟩:=Bi hv;have HS:=hid hs;clear hv hs hT ok p1 p2;have hd:G4 p false d=(Dc d p false).v:=rfl;rw [hd];obtain ⟨o,ho⟩:∃ o,o=(Dc d p false).raw:=⟨_,rfl⟩;rw [←ho] at C;have hr:(Dc d p false).v.raw=o.v:=by rw [ho];rfl
 rw [hr];clear hr ho hd;generalize d.raw=r at *;generalize d.neg=n1 at *;generalize d.e=e at *;obtain ⟨W,hW,kW,BS,BA,BR⟩:=Ze w p false (.bool n1) (.slice A l c) (.int .i64 e);have HW:=hid hW;have K:=hid kW;have HB:=hid BR;obtain ⟨-,s0,s1⟩:=BS.facts;obtain ⟨-,a0,a1,a2,-⟩:=BA.facts;clear hW kW BR;go_enter Tryz.func185,Tryz.ntmps185;go_upto_region 1 with fail;rw [←HW.out];go_wp2_with fail;refine (C.out _ _ K.out (HS.out.kept K.out)).mono ?_;rintro ee w1 ⟨q,u,rfl,hd⟩;simp only [];have KK:=hid (K.out.trans q);have HD:=hid hd;replace HB:=hid (HB.out.kept q);clear q hd a0 a1 a2 s0 s1;go_wp2_with fail
 refine (Fl HD.out).mono ?_;rintro ee w2 ⟨q,v2,rfl,hd2⟩;obtain ⟨A',l',c',rfl,-,hd,g1,g2⟩:=hd2.shape;replace KK:=hid (KK.out.trans q);replace HB:=hid (HB.out.kept q);replace HD:=hid hd;clear q hd hd2;obtain ⟨-,x0,x1,x2,f0,f1,f2⟩:=HB.out.facts;simp only [];go_wp2_with fail;exact Ca (HB.out.laid _ _ _) rfl rfl rfl ⟨Am KK.out (by omega),_,rfl,(HD.out.dyW HB.out (Ah _) (Ag _ _ _) (Af _)).dyR g1 g2⟩
theorem Mb {w:World}{v:Value}{p:Nat}{up:Bool}{d:Dy}(hv:DyR w v d.raw)(ok:d.Ok)(p1:1≤p)(p2:p≤2000)(hT:Tab w) :
 Calls Tryz.prog 185 #[.agg #[.int .i64 (p:Int),.bool up],v] w (RetD (G4 p up d).raw w):=by
 cases up
 ·exact Ahy hv ok p1 p2 hT
 ·exact Ahz hv ok p1 p2 hT
end Go.Proofs.YtabjjdicffcolaaGreatDoor
