/- Words and contracts, part 33. -/
import Derived.Test.YtinbgjcooolbiaaGreatDoorClaimPartsp28
set_option maxRecDepth 100000
set_option maxHeartbeats 0
namespace Go.Proofs.YtinbgjcooolbiaaGreatDoor
open Go.Lib (hid)
open Go.RowKit
theorem El {w:World}{v:Value}{d:Dy}{k:Int}(hv:DyR w v d.raw) :
 Calls Tryz.prog 32 #[v,.int .i64 k] w (Goes 66 (Outc.raw ⟨d,k⟩) w):=by
 obtain ⟨A,l,c,rfl,-,la,xa,xb⟩:=hv.shape;obtain ⟨W,hW,kW,B0,BR⟩:=On w (.bool d.neg) (.slice A l c) (.int .i64 d.e);have HW:=hid hW;have K:=hid kW;have HB:=hid B0;have HR:=hid BR;have LA:=hid la;have BX:=hid (And.intro xa xb);clear hW kW B0 BR la xa xb hv;simp only [Dy.raw] at *;generalize hgn:d.neg=n1 at *;generalize hge:d.e=e1 at *;have GN:=hid hgn;have GE:=hid hge;clear hgn hge;by_cases hk:k=0
 ·subst hk;go_enter Tryz.func32,Tryz.ntmps32
  go_wp2_with (go_at_call 29;rw [←HW.out];refine (Gg 0 _).mono ?_;rintro e w1 ⟨rfl,q⟩;replace K:=hid (K.out.trans q);have hb:=HB.out.kept q;have hr:=HR.out.kept q;obtain ⟨-,a0,a1,a2,-⟩:=hb.facts;obtain ⟨_,c0,c1,c2,f0,f1,f2⟩:=hr.facts;have HR2:=hid hr;clear hb hr q)
  exact B9 (HR2.out.laid _ _ _) rfl rfl rfl ⟨Al K.out (by omega),.inl ⟨rfl,_,rfl,by
   have:=((LA.out.kept K.out).dyW (x':=.bool n1) (y':=.slice A l c) (z':=.int .i64 e1) HR2.out (Ah _) (Ag _ _ _) (Aj _)).dyR (r:=⟨n1,limbs d.m,e1⟩) BX.out.1 BX.out.2
   show DyR _ _ ⟨d.neg,limbs d.m,d.e⟩
   rw [GN.out,GE.out];exact this⟩⟩
 ·have hkb:(k==0)=false:=by rw [beq_eq_false_iff_ne];exact hk
  have HKK:=hid hk;clear hk;go_enter Tryz.func32,Tryz.ntmps32
  go_wp2_with (go_at_call 29;rw [←HW.out];refine (Hw _ _ _).mono ?_;rintro e w3 ⟨he,rfl⟩;obtain rfl:e=.panicked (Ck 66 _):=he)
  exact ⟨rfl,K.out,.inr ⟨HKK.out,rfl⟩⟩
theorem Tj {w:World}{x s z:Value}{r:Raw}(h:DyR w (.agg #[x,s,z]) r):Lim w s r.m∧-9223372036854775808≤r.e∧r.e≤9223372036854775807:=by
 obtain ⟨s',he,hs,h1,h2⟩:=h;injection he with he;injection he with he
 simp only [List.cons.injEq,and_true] at he;rw [he.2.1];exact ⟨hs,h1,h2⟩
theorem Qn (l:List Dy)(x:Dy):∀ d,By d (l++[x])=if Bq x.q (By d l).q<0 then x else By d l:=by
 induction l with
 | nil=>intro d;rfl
 | cons y l ih=>intro d;simp only [List.cons_append,By];exact ih _
theorem Mc (l:List Dy)(x:Dy):∀ d,Ay d (l++[x])=if 0<Bq x.q (Ay d l).q then x else Ay d l:=by
 induction l with
 | nil=>intro d;rfl
 | cons y l ih=>intro d;simp only [List.cons_append,Ay];exact ih _
theorem Tn {w:World}{v:Value}{d0:Dy}{l:List Dy}(hv:DyS w v (d0::l))(hl:okL (d0::l))(hn:(d0::l).length≤1000) :
 Calls Tryz.prog 34 #[v] w (RetD (By d0 (d0::l)).raw w):=by
 obtain ⟨A,c,rfl,hc,hA⟩:=hv;obtain ⟨b,off,rfl,hd⟩:=hA (by simp);have hat:=hd 0 d0 rfl;rw [Nat.zero_mul,Nat.add_zero] at hat;obtain ⟨s,h0,h1,h2,hR⟩:=hat;have hok0:=hl d0 (List.mem_cons_self ..);obtain ⟨L,hL⟩:∃ L,L=d0::l:=⟨_,rfl⟩;rw [←hL] at hd hl hn hc ⊢;obtain ⟨n,hn'⟩:∃ n,n=L.length:=⟨_,rfl⟩;rw [←hn'] at hn hc ⊢;have hn0:0<n:=by rw [hn',hL];simp
 have lb:=Bn h0;simp only at lb;obtain ⟨A1,l1,c1,es,-,-,-,-⟩:=hR.shape;injection es with es;injection es with es
 simp only [List.cons.injEq,and_true] at es;obtain rfl:=es.2.1;clear es hA;have HD:=hid hd;have HL:=hid hl;have HN:=hid hn';have HR:=hid hR;have HO:=hid hok0;have HLL:=hid hL;clear hd hl hn' hR hok0 hL;obtain ⟨n0,hg1⟩:∃ x,x=d0.neg:=⟨_,rfl⟩;obtain ⟨e0,hg2⟩:∃ x,x=d0.e:=⟨_,rfl⟩;rw [←hg1] at h0;rw [←hg2] at h2;have G1:=hid hg1;have G2:=hid hg2;clear hg1 hg2;go_enter Tryz.func34,Tryz.ntmps34;go_wp2_with fail
 go_loopw [11] (fun t wr=>∃ (k:Nat) (cur:Dy) (Ac:Option Addr) (lc cc:Nat),k≤n∧t=.int .i64 k∧cur=By d0 (L.take k)∧cur.Ok∧DyR w (.agg #[.bool cur.neg,.slice Ac lc cc,.int .i64 cur.e]) cur.raw ∧
  Blk wr (w.heap.size+1) (.bool cur.neg) (.slice Ac lc cc) (.int .i64 cur.e)∧Blk wr w.heap.size (.bool false) (.slice none 0 0) (.int .i64 0)∧Kept w wr) (fun t _=>(n-intOf t).toNat)
 case atStart =>
  refine ⟨0,d0,A1,l1,c1,Nat.zero_le _,rfl,rfl,HO.out,HR.out,?_,Ax (Dc w) _,(Ad _ _).trans (Ad _ _)⟩;rw [←G1.out,←G2.out];exact Du _ _ _ _ _
 case round =>
  obtain ⟨k,cur,Ac,lc,cc,hk,rfl,hcur,hok,hRc,hB1,hB0,hK⟩:=hrel;have K:=hid hK;have HB1:=hid hB1;have HB0:=hid hB0;have HC:=hid hcur;have HRC:=hid hRc;have HOK:=hid hok;clear hK hcur hRc hok;by_cases hlt:k<n
  ·obtain ⟨d,hdk⟩:∃ d,L[k]?=some d:=⟨_,List.getElem?_eq_getElem (by have:=HN.out;omega)⟩;obtain ⟨s',p0,p1,p2,hRd⟩:=(HD.out k d hdk);obtain ⟨A3,l3,c3,es,-,-,-,-⟩:=hRd.shape;injection es with es;injection es with es
   simp only [List.cons.injEq,and_true] at es;obtain rfl:=es.2.1;clear es;have hokd:=HL.out d (List.mem_of_getElem? hdk);have hnext:By d0 (L.take (k+1))=if Bq d.q cur.q<0 then d else cur:=by
    rw [List.take_succ_eq_append_getElem (by have:=HN.out;omega)];have:L[k]'(by have:=HN.out;omega)=d:=by
     rw [List.getElem?_eq_getElem (by have:=HN.out;omega)] at hdk;exact Option.some.inj hdk
    rw [this,Qn,←HC.out]
   have hcmp:=fun w1 (q:Kept w w1)=>Ki (hRd.kept q) (HRC.out.kept q) hokd HOK.out
   have q0:=(K.out.cell (p:=⟨b,off+k*3,none⟩) lb).trans p0;have q1:=(K.out.cell (p:=⟨b,off+k*3+1,none⟩) lb).trans p1;have q2:=(K.out.cell (p:=⟨b,off+k*3+2,none⟩) lb).trans p2;have HCM:=hid hcmp;have HRD:=hid hRd;have HOD:=hid hokd;have HNX:=hid hnext;clear hnext hcmp hRd hokd hdk p0 p1 p2 h0 h1 h2;obtain ⟨lb1,r0,r1,r2,g0,g1,g2⟩:=hB1.facts;clear hB1 hB0;generalize hcc:Bq d.q cur.q=cmp at *;clear hcc;obtain ⟨nd,hnd⟩:∃ x,x=d.neg:=⟨_,rfl⟩;obtain ⟨ed,hed⟩:∃ x,x=d.e:=⟨_,rfl⟩;obtain ⟨nc,hnc⟩:∃ x,x=cur.neg:=⟨_,rfl⟩;obtain ⟨ec,hec⟩:∃ x,x=cur.e:=⟨_,rfl⟩;rw [←hnd] at q0 HCM HRD;rw [←hed] at q2 HCM HRD;rw [←hnc] at r0 HCM HRC HB1
   rw [←hec] at r2 HCM HRC HB1;have X1:=hid hnd;have X2:=hid hed;have X3:=hid hnc;have X4:=hid hec;clear hnd hed hnc hec;by_cases hc:cmp<0
   ·have hd':decide (cmp<0)=true:=by simp [hc]
    have hnx:=HNX.out;rw [if_pos hc] at hnx;clear hc HNX;have HNX:=hid hnx;clear hnx;go_wp2_with fail;refine (HCM.out _ (K.out.trans (Ad _ _))).mono ?_;rintro e w2 ⟨rfl,q⟩;have hx:=(blk_new wr (.bool nd) (.slice A3 l3 c3) (.int .i64 ed)).kept q;have hb1:=HB1.out.kept ((Ad _ _).trans q);have hb0:=HB0.out.kept ((Ad _ _).trans q);replace K:=hid (K.out.trans ((Ad _ _).trans q));clear q lb1 r0 r1 r2 g0 g1 g2;obtain ⟨_,t0,t1,t2,-⟩:=hx.facts;obtain ⟨lb1,r0,r1,r2,g0,g1,g2⟩:=hb1.facts;have HX1:=hid hb1;have HX0:=hid hb0;clear hx hb1 hb0;simp only [];go_wp2_with fail;go_roundw
    case rel =>
     refine ⟨k+1,d,A3,l3,c3,by omega,by go_num,HNX.out.symm,HOD.out,?_,?_,HX0.out.laid_other (by omega) _ _ _,Al K.out (by omega)⟩
     ·rw [←X1.out,←X2.out];exact HRD.out
     ·rw [←X1.out,←X2.out];exact HX1.out.laid _ _ _
    case measure=>simp [intOf];omega
   ·have hd':decide (cmp<0)=false:=by simp [hc]
    have hnx:=HNX.out;rw [if_neg hc] at hnx;clear hc HNX;have HNX:=hid hnx;clear hnx;go_wp2_with fail;refine (HCM.out _ (K.out.trans (Ad _ _))).mono ?_;rintro e w2 ⟨rfl,q⟩;have hx:=(blk_new wr (.bool nd) (.slice A3 l3 c3) (.int .i64 ed)).kept q;have hb1:=HB1.out.kept ((Ad _ _).trans q);have hb0:=HB0.out.kept ((Ad _ _).trans q);replace K:=hid (K.out.trans ((Ad _ _).trans q));clear q lb1 r0 r1 r2 g0 g1 g2;obtain ⟨_,t0,t1,t2,-⟩:=hx.facts;obtain ⟨lb1,r0,r1,r2,g0,g1,g2⟩:=hb1.facts;have HX1:=hid hb1;have HX0:=hid hb0;clear hx hb1 hb0;simp only [];go_wp2_with fail;go_roundw
    case rel =>
     refine ⟨k+1,cur,Ac,lc,cc,by omega,by go_num,HNX.out.symm,HOK.out,?_,?_,HX0.out,K.out⟩
     ·rw [←X3.out,←X4.out];exact HRC.out
     ·rw [←X3.out,←X4.out];exact HX1.out
    case measure=>simp [intOf];omega
  ·obtain rfl:k=n:=by omega
   have hfin:By d0 L=cur:=by rw [HC.out,List.take_of_length_le (by have:=HN.out;omega)]
   obtain ⟨_,r0,r1,r2,-⟩:=hB1.facts;obtain ⟨_,c0,c1',c2,f0,f1,f2⟩:=hB0.facts;have HF:=hid hfin;obtain ⟨lim,xa,xb⟩:=Tj HRC.out;have LIM:=hid lim;have BX:=hid (And.intro xa xb);clear hfin hB1 hB0 lim xa xb;go_wp2_with fail;refine B9 (HB0.out.laid _ _ _) rfl rfl rfl ⟨Al K.out (Nat.le_refl _),_,rfl,?_⟩;rw [HF.out];exact ((LIM.out.kept K.out).dyW HB0.out (Ah _) (Ag _ _ _) (Aj _)).dyR (r:=cur.raw) BX.out.1 BX.out.2
theorem Md {w:World}{v:Value}{d0:Dy}{l:List Dy}(hv:DyS w v (d0::l))(hl:okL (d0::l))(hn:(d0::l).length≤1000) :
 Calls Tryz.prog 35 #[v] w (RetD (Ay d0 (d0::l)).raw w):=by
 obtain ⟨A,c,rfl,hc,hA⟩:=hv;obtain ⟨b,off,rfl,hd⟩:=hA (by simp);have hat:=hd 0 d0 rfl;rw [Nat.zero_mul,Nat.add_zero] at hat;obtain ⟨s,h0,h1,h2,hR⟩:=hat;have hok0:=hl d0 (List.mem_cons_self ..);obtain ⟨L,hL⟩:∃ L,L=d0::l:=⟨_,rfl⟩;rw [←hL] at hd hl hn hc ⊢;obtain ⟨n,hn'⟩:∃ n,n=L.length:=⟨_,rfl⟩;rw [←hn'] at hn hc ⊢;have hn0:0<n:=by rw [hn',hL];simp
 have lb:=Bn h0;simp only at lb;obtain ⟨A1,l1,c1,es,-,-,-,-⟩:=hR.shape;injection es with es;injection es with es
 simp only [List.cons.injEq,and_true] at es;obtain rfl:=es.2.1;clear es hA;have HD:=hid hd;have HL:=hid hl;have HN:=hid hn';have HR:=hid hR;have HO:=hid hok0;have HLL:=hid hL;clear hd hl hn' hR hok0 hL;obtain ⟨n0,hg1⟩:∃ x,x=d0.neg:=⟨_,rfl⟩;obtain ⟨e0,hg2⟩:∃ x,x=d0.e:=⟨_,rfl⟩;rw [←hg1] at h0;rw [←hg2] at h2;have G1:=hid hg1;have G2:=hid hg2;clear hg1 hg2;go_enter Tryz.func35,Tryz.ntmps35;go_wp2_with fail
 go_loopw [11] (fun t wr=>∃ (k:Nat) (cur:Dy) (Ac:Option Addr) (lc cc:Nat),k≤n∧t=.int .i64 k∧cur=Ay d0 (L.take k)∧cur.Ok∧DyR w (.agg #[.bool cur.neg,.slice Ac lc cc,.int .i64 cur.e]) cur.raw ∧
  Blk wr (w.heap.size+1) (.bool cur.neg) (.slice Ac lc cc) (.int .i64 cur.e)∧Blk wr w.heap.size (.bool false) (.slice none 0 0) (.int .i64 0)∧Kept w wr) (fun t _=>(n-intOf t).toNat)
 case atStart =>
  refine ⟨0,d0,A1,l1,c1,Nat.zero_le _,rfl,rfl,HO.out,HR.out,?_,Ax (Dc w) _,(Ad _ _).trans (Ad _ _)⟩;rw [←G1.out,←G2.out];exact Du _ _ _ _ _
 case round =>
  obtain ⟨k,cur,Ac,lc,cc,hk,rfl,hcur,hok,hRc,hB1,hB0,hK⟩:=hrel;have K:=hid hK;have HB1:=hid hB1;have HB0:=hid hB0;have HC:=hid hcur;have HRC:=hid hRc;have HOK:=hid hok;clear hK hcur hRc hok;by_cases hlt:k<n
  ·obtain ⟨d,hdk⟩:∃ d,L[k]?=some d:=⟨_,List.getElem?_eq_getElem (by have:=HN.out;omega)⟩;obtain ⟨s',p0,p1,p2,hRd⟩:=(HD.out k d hdk);obtain ⟨A3,l3,c3,es,-,-,-,-⟩:=hRd.shape;injection es with es;injection es with es
   simp only [List.cons.injEq,and_true] at es;obtain rfl:=es.2.1;clear es;have hokd:=HL.out d (List.mem_of_getElem? hdk);have hnext:Ay d0 (L.take (k+1))=if 0<Bq d.q cur.q then d else cur:=by
    rw [List.take_succ_eq_append_getElem (by have:=HN.out;omega)];have:L[k]'(by have:=HN.out;omega)=d:=by
     rw [List.getElem?_eq_getElem (by have:=HN.out;omega)] at hdk;exact Option.some.inj hdk
    rw [this,Mc,←HC.out]
   have hcmp:=fun w1 (q:Kept w w1)=>Ki (hRd.kept q) (HRC.out.kept q) hokd HOK.out
   have q0:=(K.out.cell (p:=⟨b,off+k*3,none⟩) lb).trans p0;have q1:=(K.out.cell (p:=⟨b,off+k*3+1,none⟩) lb).trans p1;have q2:=(K.out.cell (p:=⟨b,off+k*3+2,none⟩) lb).trans p2;have HCM:=hid hcmp;have HRD:=hid hRd;have HOD:=hid hokd;have HNX:=hid hnext;clear hnext hcmp hRd hokd hdk p0 p1 p2 h0 h1 h2;obtain ⟨lb1,r0,r1,r2,g0,g1,g2⟩:=hB1.facts;clear hB1 hB0;generalize hcc:Bq d.q cur.q=cmp at *;clear hcc;obtain ⟨nd,hnd⟩:∃ x,x=d.neg:=⟨_,rfl⟩;obtain ⟨ed,hed⟩:∃ x,x=d.e:=⟨_,rfl⟩;obtain ⟨nc,hnc⟩:∃ x,x=cur.neg:=⟨_,rfl⟩;obtain ⟨ec,hec⟩:∃ x,x=cur.e:=⟨_,rfl⟩;rw [←hnd] at q0 HCM HRD;rw [←hed] at q2 HCM HRD;rw [←hnc] at r0 HCM HRC HB1
   rw [←hec] at r2 HCM HRC HB1;have X1:=hid hnd;have X2:=hid hed;have X3:=hid hnc;have X4:=hid hec;clear hnd hed hnc hec;by_cases hc:0<cmp
   ·have hd':decide (0<cmp)=true:=by simp [hc]
    have hnx:=HNX.out;rw [if_pos hc] at hnx;clear hc HNX;have HNX:=hid hnx;clear hnx;go_wp2_with fail;refine (HCM.out _ (K.out.trans (Ad _ _))).mono ?_;rintro e w2 ⟨rfl,q⟩;have hx:=(blk_new wr (.bool nd) (.slice A3 l3 c3) (.int .i64 ed)).kept q;have hb1:=HB1.out.kept ((Ad _ _).trans q);have hb0:=HB0.out.kept ((Ad _ _).trans q);replace K:=hid (K.out.trans ((Ad _ _).trans q));clear q lb1 r0 r1 r2 g0 g1 g2;obtain ⟨_,t0,t1,t2,-⟩:=hx.facts;obtain ⟨lb1,r0,r1,r2,g0,g1,g2⟩:=hb1.facts;have HX1:=hid hb1;have HX0:=hid hb0;clear hx hb1 hb0;simp only [];go_wp2_with fail;go_roundw
    case rel =>
     refine ⟨k+1,d,A3,l3,c3,by omega,by go_num,HNX.out.symm,HOD.out,?_,?_,HX0.out.laid_other (by omega) _ _ _,Al K.out (by omega)⟩
     ·rw [←X1.out,←X2.out];exact HRD.out
     ·rw [←X1.out,←X2.out];exact HX1.out.laid _ _ _
    case measure=>simp [intOf];omega
   ·have hd':decide (0<cmp)=false:=by simp [hc]
    have hnx:=HNX.out;rw [if_neg hc] at hnx;clear hc HNX;have HNX:=hid hnx;clear hnx;go_wp2_with fail;refine (HCM.out _ (K.out.trans (Ad _ _))).mono ?_;rintro e w2 ⟨rfl,q⟩;have hx:=(blk_new wr (.bool nd) (.slice A3 l3 c3) (.int .i64 ed)).kept q;have hb1:=HB1.out.kept ((Ad _ _).trans q);have hb0:=HB0.out.kept ((Ad _ _).trans q);replace K:=hid (K.out.trans ((Ad _ _).trans q));clear q lb1 r0 r1 r2 g0 g1 g2;obtain ⟨_,t0,t1,t2,-⟩:=hx.facts;obtain ⟨lb1,r0,r1,r2,g0,g1,g2⟩:=hb1.facts;have HX1:=hid hb1;have HX0:=hid hb0;clear hx hb1 hb0;simp only [];go_wp2_with fail;go_roundw
    case rel =>
     refine ⟨k+1,cur,Ac,lc,cc,by omega,by go_num,HNX.out.symm,HOK.out,?_,?_,HX0.out,K.out⟩
     ·rw [←X3.out,←X4.out];exact HRC.out
     ·rw [←X3.out,←X4.out];exact HX1.out
    case measure=>simp [intOf];omega
  ·obtain rfl:k=n:=by omega
   have hfin:Ay d0 L=cur:=by rw [HC.out,List.take_of_length_le (by have:=HN.out;omega)]
   obtain ⟨_,r0,r1,r2,-⟩:=hB1.facts;obtain ⟨_,c0,c1',c2,f0,f1,f2⟩:=hB0.facts;have HF:=hid hfin;obtain ⟨lim,xa,xb⟩:=Tj HRC.out;have LIM:=hid lim;have BX:=hid (And.intro xa xb);clear hfin hB1 hB0 lim xa xb;go_wp2_with fail;refine B9 (HB0.out.laid _ _ _) rfl rfl rfl ⟨Al K.out (Nat.le_refl _),_,rfl,?_⟩;rw [HF.out];exact ((LIM.out.kept K.out).dyW HB0.out (Ah _) (Ag _ _ _) (Aj _)).dyR (r:=cur.raw) BX.out.1 BX.out.2
def laidI (w:World) (b2 b3:Nat) (x y z x' y' z' q:Value) (o:Obj):World:=((ivW w b2 x y z x' y' z').setCell ⟨b3,0,none⟩ q).alloc o
theorem Fp {w:World}{b2 b3:Nat}{a b c a' b' c' q0 x y z x' y' z' q:Value}{T':TypeId}{o:Obj}(h0:BlkI w b2 a b c a' b' c')(h1:w.heap[b3]?=some (.cells #[q0] T' (0,0)))(hne:¬b2=b3) :
 BlkI (laidI w b2 b3 x y z x' y' z' q o) b2 x y z x' y' z'∧(laidI w b2 b3 x y z x' y' z' q o).cell? ⟨b3,0,none⟩=some q:=by
 have l2:b2<w.heap.size:=(Array.getElem?_eq_some_iff.1 h0).1;have l3:b3<w.heap.size:=(Array.getElem?_eq_some_iff.1 h1).1;constructor
 ·unfold BlkI laidI;rw [Below.heap_alloc _ _ _ (by simp [World.setCell,ivW,l2])];exact Bo (h0.laid _ _ _ _ _ _) hne _
 ·have g1:(laidI w b2 b3 x y z x' y' z' q o).heap[b3]?=some (.cells #[q] T' (0,0)):=by
   unfold laidI;rw [Below.heap_alloc _ _ _ (by simp [World.setCell,ivW,l3])];have h2:(ivW w b2 x y z x' y' z').heap[b3]?=some (.cells #[q0] T' (0,0)):=by rw [G7 _ _ _ _ _ _ _ _ _ (fun h=>hne h.symm)];exact h1
   exact Aw h2 _
  exact Ae g1 0 _ rfl
theorem Ge {w0 w:World}{b2 b3:Nat}{x y z x' y' z' q:Value}{o:Obj}(h:Kept w0 w)(h2:w0.heap.size≤b2)(h3:w0.heap.size≤b3):Kept w0 (laidI w b2 b3 x y z x' y' z' q o) :=
 ((Cq h h2).setCell (p:=⟨b3,0,none⟩) h3 q).alloc (by simpa [World.setCell,ivW] using h.size) o
theorem DyR.laidI {w:World}{v:Value}{r:Raw}{b2 b3:Nat}{n n':Bool}{A A':Option Addr}{l c l' c':Nat}{e e' q0:Int}{T':TypeId}(h:DyR w v r)(hb:BlkI w b2 (.bool n) (.slice A l c) (.int .i64 e) (.bool n') (.slice A' l' c') (.int .i64 e'))
 (h1:w.heap[b3]?=some (.cells #[.int .i64 q0] T' (0,0))) (hne:¬b2=b3) (x y z x' y' z' q:Value) (o:Obj):DyR (Go.Proofs.YtinbgjcooolbiaaGreatDoor.laidI w b2 b3 x y z x' y' z' q o) v r:=by
 obtain ⟨s,rfl,hs,e1,e2⟩:=h;have hs2:=hs.ivW hb x y z x' y' z';have h2:(Go.Proofs.YtinbgjcooolbiaaGreatDoor.ivW w b2 x y z x' y' z').cell? ⟨b3,0,none⟩=some (.int .i64 q0):=by
  have h2:(Go.Proofs.YtinbgjcooolbiaaGreatDoor.ivW w b2 x y z x' y' z').heap[b3]?=some (.cells #[.int .i64 q0] T' (0,0)):=by rw [G7 _ _ _ _ _ _ _ _ _ (fun h=>hne h.symm)];exact h1
  exact Ae h2 0 _ rfl
 have hs3:=hs2.setCell h2 (Aj _) q;exact ⟨s,rfl,hs3.kept (Ad _ _),e1,e2⟩
theorem Gn (b2 b3:Nat)(w:World)(k:Int)(x y z x' y' z' q:Value)
 (h0:BlkI w b2 x y z x' y' z') (h1:w.heap[b3]?=some (.cells #[q] 3 (0,0))) (hne:¬b2=b3) :
 CallsD Tryz.prog 69 #[.pointer (some ⟨b2,0,none⟩),.pointer (some ⟨b3,0,none⟩)] (.panicking (Ck 66 k)) w fun e u' w' =>
  e = .returned (.tuple #[]) ∧ u' = .panicking [{ v := .iface 66 (.agg #[.int .i64 k]), recovered := true }] ∧
    w'=(laidI w b2 b3 (.bool false) (.slice none 0 0) (.int .i64 0) (.bool false) (.slice none 0 0) (.int .i64 0) (.int .i64 k) (.cells #[.int .i64 k] 66)).drew:=by
 have ha:=Kr k;have l2:b2<w.heap.size:=(Array.getElem?_eq_some_iff.1 h0).1;have l3:b3<w.heap.size:=(Array.getElem?_eq_some_iff.1 h1).1;have n2:¬b2=w.heap.size:=by omega
 have n3:¬b3=w.heap.size:=by omega
 have n2':¬w.heap.size=b2:=by omega
 have n3':¬w.heap.size=b3:=by omega
 have hne':¬b3=b2:=fun h=>hne h.symm
 obtain ⟨-,c0,c1,c2,c3,c4,c5⟩:=h0.facts;obtain ⟨f0,f1,f2,f3,f4,f5⟩:=h0.free;have c30:=Ae h1 0 q rfl;have f30:=An h1 0;refine callsD_of_wpS Tryz.func69 rfl fun c₀ cs hu=>?_
 simp only [Tryz.ntmps69,List.size_toArray,List.length_cons,List.length_nil,Nat.reduceAdd,Nat.reduceSub,Array.replicate_succ,
  Array.replicate_zero,List.push_toArray,List.append_toArray,List.nil_append,List.cons_append]
 refine Ej (v:=.iface 66 (.agg #[.int .i64 k])) (cs':={ c₀ with mode:=.panicking [{ v:=.iface 66 (.agg #[.int .i64 k]),recovered:=true }] }::cs) (w':=w) rfl ?_ ?_ ?_
 ·simp [go_sem]
 ·rw [recoverD,hu];exact ⟨rfl,rfl⟩
 go_wp2_with fail;go_region
 all_goals exact ⟨rfl,_,rfl,_,results_none rfl _ _ _,rfl,rfl,rfl⟩
theorem P2 (b2 b3:Nat)(w:World) :
 CallsD Tryz.prog 69 #[.pointer (some ⟨b2,0,none⟩),.pointer (some ⟨b3,0,none⟩)] .returning w fun e u' w' =>
  e=.returned (.tuple #[])∧u'=.returning∧w'=w.alloc (.cells #[.int .i64 0] 66):=by
 have ha:=Lj;refine callsD_of_wpS Tryz.func69 rfl fun c₀ cs hu=>?_
 simp only [Tryz.ntmps69,List.size_toArray,List.length_cons,List.length_nil,Nat.reduceAdd,Nat.reduceSub,Array.replicate_succ,
  Array.replicate_zero,List.push_toArray,List.append_toArray,List.nil_append,List.cons_append]
 refine Ej (v:=.nilIface) (cs':=c₀::cs) (w':=w) rfl ?_ ?_ ?_
 ·simp [go_sem]
 ·rw [recoverD,hu];exact ⟨rfl,rfl⟩
 go_wp2_with fail;exact ⟨rfl,.returning,by rw [←hu],_,results_none rfl _ _ _,rfl,rfl,rfl⟩
def Ib (T:TypeId) (o:Outc RawI) (w:World) (e:Ending) (w':World):Prop :=
 Kept w w'∧((o.k=0∧∃ v1 v2,e=.returned (.tuple #[v1,v2])∧DyR w' v1 o.v.lo∧DyR w' v2 o.v.hi)∨(o.k≠0∧e=.panicked (Ck T o.k)))
def IvAt (w:World) (b o:Nat) (a:RawI):Prop:=∃ x y z x' y' z',w.cell? ⟨b,o,none⟩=some x∧w.cell? ⟨b,o+1,none⟩=some y∧w.cell? ⟨b,o+2,none⟩=some z ∧
 w.cell? ⟨b,o+3,none⟩=some x'∧w.cell? ⟨b,o+4,none⟩=some y'∧w.cell? ⟨b,o+5,none⟩=some z'∧IvR w (.agg #[x,y,z,x',y',z']) a
def IvS (w:World) (v:Value) (l:List RawI):Prop:=∃ A c,v=.slice A l.length c∧l.length≤c∧(0<l.length→∃ b off,A=some ⟨b,off,none⟩∧∀ i a,l[i]?=some a→IvAt w b (off+i*6) a)
theorem IvAt.kept {w w':World}{b o:Nat}{a:RawI}(h:IvAt w b o a)(k:Kept w w'):IvAt w' b o a:=by
 obtain ⟨x,y,z,x',y',z',h0,h1,h2,h3,h4,h5,hd⟩:=h;have hb:=Bn h0
 exact ⟨x,y,z,x',y',z',(k.cell (p:=⟨b,o,none⟩) hb).trans h0,(k.cell (p:=⟨b,o+1,none⟩) hb).trans h1,(k.cell (p:=⟨b,o+2,none⟩) hb).trans h2,
  (k.cell (p:=⟨b,o+3,none⟩) hb).trans h3,(k.cell (p:=⟨b,o+4,none⟩) hb).trans h4,(k.cell (p:=⟨b,o+5,none⟩) hb).trans h5,hd.kept k⟩
theorem IvS.kept {w w':World}{v:Value}{l:List RawI}(h:IvS w v l)(k:Kept w w'):IvS w' v l:=by
 obtain ⟨A,c,rfl,hc,hA⟩:=h;refine ⟨A,c,rfl,hc,fun h0=>?_⟩;obtain ⟨b,off,rfl,hd⟩:=hA h0;exact ⟨b,off,rfl,fun i d hi=>(hd i d hi).kept k⟩
def rzI:RawI:=⟨rz,rz⟩
theorem D0 (w:World):IvR w (.agg #[.bool false,.slice none 0 0,.int .i64 0,.bool false,.slice none 0 0,.int .i64 0]) rzI:=⟨_,_,_,_,_,_,rfl,E4 w,E4 w⟩
def Cs (p:Int) (l:List RawI) (o:Outc RawI):Outc RawI:=if 1≤p∧p≤2000∧l.all Ex=true then o else ⟨rzI,1⟩
theorem Pj {tmps:Array Value}{w:World}{b b':Nat}{x y z x' y' z' q:Value}(h:BlkI w b x y z x' y' z')(h':w.cell? ⟨b',0,none⟩=some q)
 (ht:tmps.getD 6 undef=.pointer (some ⟨b,0,none⟩)) (ht':tmps.getD 7 undef=.pointer (some ⟨b',0,none⟩)) :
 (results Tryz.f27 tmps).run Tryz.prog w=.ok (.tuple #[.agg #[x,y,z,x',y',z'],q]) w:=by
 obtain ⟨_,c0,c1,c2,c3,c4,c5⟩:=h.facts;have t1:tmps[6]?.getD undef=.pointer (some ⟨b,0,none⟩):=by simpa using ht
 have t2:tmps[7]?.getD undef=.pointer (some ⟨b',0,none⟩):=by simpa using ht'
 simp [results,Tryz.results27,t1,t2,go_sem,c0,c1,c2,c3,c4,c5,h']
theorem Lq {w:World}{K:Nat}{cap:Array Value}{v:Value}{p:Int}{l:List RawI}{o:Outc RawI}(hv:IvS w v l)(hl:∀ a∈l,a.lens 17592186044416)(hn:l.length≤1000)
 (h:1≤p→p≤2000→l.all Ex=true→∀ w1,Kept w w1→Calls Tryz.prog K cap w1 (Ib 66 o w1)) (hz:o.k≠0→o.v=rzI)
 (hk:∀ w,(callFunc K cap).run Tryz.prog w=.ok (.enter K cap) w) :
 Calls Tryz.prog 27 #[.int .i64 p,.func (.func K) #[] cap,v] w (RetIE (Cs p l o) w):=by
 have hmf:=Ha;obtain ⟨A,c,rfl,hc,hA⟩:=hv;have HH:=hid h;have HA:=hid hA;have HL:=hid hl;have HZ:=hid hz;have HK:=hid hk;clear h hA hl hz hk;obtain ⟨n,hn'⟩:∃ n,n=l.length:=⟨_,rfl⟩;rw [←hn'] at hn hc HA ⊢;have HN:=hid hn';clear hn';obtain ⟨W,hW⟩:∃ W,W=(w.alloc (.cells #[.bool false,.slice none 0 0,.int .i64 0,.bool false,.slice none 0 0,.int .i64 0] 26)).alloc (.cells #[.int .i64 0] 3):=⟨_,rfl⟩;have kW:Kept w W:=by rw [hW];exact (Ad _ _).trans (Ad _ _)
 have b0:BlkI W w.heap.size (.bool false) (.slice none 0 0) (.int .i64 0) (.bool false) (.slice none 0 0) (.int .i64 0):=by rw [hW];exact (G0 w).kept (Ad _ _)
 have b1:W.heap[w.heap.size+1]?=some (.cells #[.int .i64 0] 3 (0,0)):=by
  rw [hW];have:=heap_alloc_new (w.alloc (.cells #[.bool false,.slice none 0 0,.int .i64 0,.bool false,.slice none 0 0,.int .i64 0] 26)) (.cells #[.int .i64 0] 3);simpa using this
 have HW:=hid hW;have KW:=hid kW;have B0:=hid b0;have B1:=hid b1;clear hW kW b0 b1;by_cases hp:1≤p∧p≤2000
 ·have hd1:decide (1≤p)=true:=by simp [hp.1]
  have hd2:decide (p≤2000)=true:=by simp [hp.2]
  have HP:=hid hp;clear hp
  go_enter_defers Tryz.func27,Tryz.ntmps27
  go_wp2_with fail;rw [←HW.out];refine (Gg 1 _).mono ?_;rintro e w1 ⟨rfl,q⟩;have K1:=hid q;clear q;simp only [];go_wp2_with fail
  go_loopw [22] (fun t wr=>∃ k:Nat,k≤n∧t=.int .i64 k∧(∀ i a,i<k→l[i]?=some a→Ex a=true)∧Kept W wr) (fun t _=>(n-intOf t).toNat)
  case atStart=>exact ⟨0,Nat.zero_le _,rfl,fun i a hi=>absurd hi (Nat.not_lt_zero _),K1.out⟩
  case round =>
   obtain ⟨k,hk,rfl,hall,hKr⟩:=hrel;have KR:=hid hKr;have AL:=hid hall;clear hKr hall;by_cases hlt:k<n
   ·obtain ⟨b,off,rfl,hd⟩:=HA.out (by omega);obtain ⟨a,hak⟩:∃ a,l[k]?=some a:=⟨_,List.getElem?_eq_getElem (by have:=HN.out;omega)⟩;obtain ⟨x,y,z,x',y',z',h0,h1,h2,h3,h4,h5,hI⟩:=(hd k a hak).kept (KW.out.trans KR.out);obtain ⟨A1,l1,c1,A2,l2,c2,ei,-,-⟩:=Be hI;injection ei with ei;injection ei with ei
    simp only [List.cons.injEq,and_true] at ei;obtain ⟨rfl,rfl,rfl,rfl,rfl,rfl⟩:=ei;have hm:=fun w2 (q:Kept wr w2)=>W8 (hI.kept q) (HL.out a (List.mem_of_getElem? hak))
    have AK:=hid hak;clear hd hak hI;obtain ⟨mb,hmb⟩:∃ mb,mb=Ex a:=⟨_,rfl⟩;rw [←hmb] at hm;have HMB:=hid hmb;have HM:=hid hm;clear hmb hm;generalize a.lo.neg=n1 at *;generalize a.lo.e=e1 at *;generalize a.hi.neg=n2 at *;generalize a.hi.e=e2 at *;go_wp2_with fail;refine (HM.out _ (Ad _ _)).mono ?_;rintro e w2 ⟨rfl,q⟩;have K2:=hid (KR.out.trans ((Ad _ _).trans q));clear q h0 h1 h2 h3 h4 h5;simp only [];go_wp2_with fail;cases mb
    ·refine (Hw false 1 _).mono ?_;rintro e w3 ⟨he,rfl⟩;obtain rfl:e=.panicked (Ck 66 1):=he;have hpost:Cs p l o=⟨rzI,1⟩:=by
      unfold Cs;rw [if_neg];rintro ⟨-,-,h3⟩;rw [List.all_eq_true] at h3;have:=h3 a (List.mem_of_getElem? AK.out);rw [←HMB.out] at this;cases this
     change bodyPostD _ _ (RetIE (Cs p l o) w) (Exit.panic _) _ _;rw [hpost];refine leaves_cons (f:=69) (args:=#[.pointer (some ⟨w.heap.size,0,none⟩),.pointer (some ⟨w.heap.size+1,0,none⟩)]) (by simp) (by simp [go_sem]) ?_;have y0:=B0.out.kept K2.out;have y1:=((Below.block K2.out) (w.heap.size+1) (Array.getElem?_eq_some_iff.1 B1.out).1).trans B1.out;refine (Gn _ _ _ _ _ _ _ _ _ _ _ y0 y1 (by omega)).mono ?_;rintro e u' w4 ⟨rfl,rfl,rfl⟩;obtain ⟨d0,d1⟩:=Fp (x:=.bool false) (y:=.slice none 0 0) (z:=.int .i64 0) (x':=.bool false) (y':=.slice none 0 0) (z':=.int .i64 0) (q:=.int .i64 (1:Int)) (o:=.cells #[.int .i64 (1:Int)] 66) y0 y1 (by omega)
     have hkept:=Ge (x:=.bool false) (y:=.slice none 0 0) (z:=.int .i64 0) (x':=.bool false) (y':=.slice none 0 0) (z':=.int .i64 0) (q:=.int .i64 (1:Int)) (o:=.cells #[.int .i64 (1:Int)] 66) (KW.out.trans K2.out) (Nat.le_refl w.heap.size) (Nat.le_succ w.heap.size);have HKE:=hid hkept;clear hkept y0 y1;refine ⟨.tuple #[.agg #[.bool false,.slice none 0 0,.int .i64 0,.bool false,.slice none 0 0,.int .i64 0],.int .i64 (1:Int)],?_,?_⟩
     ·obtain ⟨-,c0,c1,c2,c3,c4,c5⟩:=d0.facts;generalize laidI _ _ _ _ _ _ _ _ _ _ _=WW at *;simp [results,Tryz.results27,go_sem,c0,c1,c2,c3,c4,c5,d1]
     ·exact ⟨HKE.out.drew,_,rfl,D0 _⟩
    ·refine (Gg 1 _).mono ?_;rintro e w3 ⟨rfl,q⟩;replace K2:=hid (K2.out.trans q);simp only [];go_wp2_with fail;go_roundw
     case rel =>
      refine ⟨k+1,by omega,by go_num,fun i a' hi ha'=>?_,K2.out⟩;by_cases hik:i=k
      ·subst hik;rw [AK.out] at ha';injection ha' with ha'
       rw [←ha',←HMB.out]
      ·exact AL.out i a' (by omega) ha'
     case measure=>simp [intOf];omega
   ·obtain rfl:k=n:=by omega
    have hcall:=HH.out HP.out.1 HP.out.2 (by
     rw [List.all_eq_true];intro a ha;obtain ⟨i,hi,rfl⟩:=List.getElem_of_mem ha;exact AL.out i _ (by have:=HN.out;omega) (List.getElem?_eq_getElem hi))
    have HC:=hid hcall;clear hcall;have hk:=HK.out;go_wp2_with fail;have hpost:Cs p l o=o:=by
     unfold Cs;rw [if_pos];refine ⟨HP.out.1,HP.out.2,?_⟩;rw [List.all_eq_true];intro a ha;obtain ⟨i,hi,rfl⟩:=List.getElem_of_mem ha;exact AL.out i _ (by have:=HN.out;omega) (List.getElem?_eq_getElem hi)
    refine (HC.out _ (KW.out.trans KR.out)).mono ?_;rintro e w2 ⟨q,⟨h0,v1,v2,rfl,z1,z2⟩ | ⟨h0,rfl⟩⟩
    ·obtain ⟨A1,l1,c1,rfl,z1⟩:=Bj z1;obtain ⟨A2,l2,c2,rfl,z2⟩:=Bj z2;have y0:=B0.out.kept (KR.out.trans q);have y1:=(q.block (w.heap.size+1) (by have:=(Array.getElem?_eq_some_iff.1 B1.out).1;have:=KR.out.size;omega)).trans (((KR.out).block (w.heap.size+1) (Array.getElem?_eq_some_iff.1 B1.out).1).trans B1.out);obtain ⟨lb,r0,r1,r2,r3,r4,r5⟩:=y0.facts;obtain ⟨f0,f1,f2,f3,f4,f5⟩:=y0.free;have lb1:w.heap.size+1<w2.heap.size:=(Array.getElem?_eq_some_iff.1 y1).1;have s0:=Ae y1 0 _ rfl;have g0:=An y1 0;have m1:¬w.heap.size=w2.heap.size:=by omega
     have m2:¬w.heap.size+1=w2.heap.size:=by omega
     have m3:¬w.heap.size=w2.heap.size+1:=by omega
     have m4:¬w.heap.size+1=w2.heap.size+1:=by omega
     have m5:¬w.heap.size=w.heap.size+1:=by omega
     have Z1:=hid z1;have Z2:=hid z2;have Y0:=hid y0;have Y1:=hid y1;have H0:=hid h0;have K2:=hid (KW.out.trans (KR.out.trans q));have HPOST:=hid hpost;clear z1 z2 y0 y1 h0 q hpost hk;simp only [];go_wp2_with fail;refine leaves_cons (f:=69) (args:=#[.pointer (some ⟨w.heap.size,0,none⟩),.pointer (some ⟨w.heap.size+1,0,none⟩)]) (by simp) (by simp [go_sem]) ?_;refine (P2 _ _ _).mono ?_;rintro e u' w4 ⟨rfl,rfl,rfl⟩;obtain ⟨x0,x1⟩:=Fp (x:=.bool o.v.lo.neg) (y:=.slice A1 l1 c1) (z:=.int .i64 o.v.lo.e) (x':=.bool o.v.hi.neg) (y':=.slice A2 l2 c2) (z':=.int .i64 o.v.hi.e) (q:=.int .i64 0) (o:=.cells #[.bool o.v.lo.neg,.slice A1 l1 c1,.int .i64 o.v.lo.e] 24) Y0.out Y1.out m5
     refine ⟨_,Pj ((x0.kept (Ad _ _)).kept (Ad _ _)) (Ak (Ad _ _) (Ak (Ad _ _) x1)) rfl rfl,?_⟩;rw [HPOST.out];refine ⟨((Ge K2.out (Nat.le_refl _) (Nat.le_succ _)).trans (Ad _ _)).trans (Ad _ _),_,by rw [H0.out],_,_,_,_,_,_,rfl,?_,?_⟩
     ·exact ((Z1.out.laidI Y0.out Y1.out m5 _ _ _ _ _ _ _ _).kept (Ad _ _)).kept (Ad _ _)
     ·exact ((Z2.out.laidI Y0.out Y1.out m5 _ _ _ _ _ _ _ _).kept (Ad _ _)).kept (Ad _ _)
    ·have K2:=hid (KR.out.trans q);have hpost2:Cs p l o=⟨rzI,o.k⟩:=by rw [hpost,←HZ.out h0]
     change bodyPostD _ _ (RetIE (Cs p l o) w) (Exit.panic _) _ _;rw [hpost2];refine leaves_cons (f:=69) (args:=#[.pointer (some ⟨w.heap.size,0,none⟩),.pointer (some ⟨w.heap.size+1,0,none⟩)]) (by simp) (by simp [go_sem]) ?_;have y0:=B0.out.kept K2.out;have y1:=((Below.block K2.out) (w.heap.size+1) (Array.getElem?_eq_some_iff.1 B1.out).1).trans B1.out;refine (Gn _ _ _ _ _ _ _ _ _ _ _ y0 y1 (by omega)).mono ?_;rintro e u' w4 ⟨rfl,rfl,rfl⟩;obtain ⟨d0,d1⟩:=Fp (x:=.bool false) (y:=.slice none 0 0) (z:=.int .i64 0) (x':=.bool false) (y':=.slice none 0 0) (z':=.int .i64 0) (q:=.int .i64 o.k) (o:=.cells #[.int .i64 o.k] 66) y0 y1 (by omega)
     have hkept:=Ge (x:=.bool false) (y:=.slice none 0 0) (z:=.int .i64 0) (x':=.bool false) (y':=.slice none 0 0) (z':=.int .i64 0) (q:=.int .i64 o.k) (o:=.cells #[.int .i64 o.k] 66) (KW.out.trans K2.out) (Nat.le_refl w.heap.size) (Nat.le_succ w.heap.size);have HKE:=hid hkept;clear hkept y0 y1;refine ⟨.tuple #[.agg #[.bool false,.slice none 0 0,.int .i64 0,.bool false,.slice none 0 0,.int .i64 0],.int .i64 o.k],?_,?_⟩
     ·obtain ⟨-,c0,c1,c2,c3,c4,c5⟩:=d0.facts;generalize laidI _ _ _ _ _ _ _ _ _ _ _=WW at *;simp [results,Tryz.results27,go_sem,c0,c1,c2,c3,c4,c5,d1]
     ·exact ⟨HKE.out.drew,_,rfl,D0 _⟩
 ·have hpost:Cs p l o=⟨rzI,1⟩:=by
   unfold Cs;rw [if_neg];rintro ⟨h1,h2,-⟩;exact hp ⟨h1,h2⟩
  rw [hpost];have K2:=hid (Below.refl W.heap.size W);by_cases h1:1≤p
  ·have hd1:decide (1≤p)=true:=by simp [h1]
   have hd2:decide (p≤2000)=false:=by simp;omega
   clear hp h1
   go_enter_defers Tryz.func27,Tryz.ntmps27
   go_wp2_with fail;rw [←HW.out];refine (Hw false 1 _).mono ?_;rintro e w3 ⟨he,rfl⟩;obtain rfl:e=.panicked (Ck 66 1):=he;change bodyPostD _ _ _ (Exit.panic _) _ _;refine leaves_cons (f:=69) (args:=#[.pointer (some ⟨w.heap.size,0,none⟩),.pointer (some ⟨w.heap.size+1,0,none⟩)]) (by simp) (by simp [go_sem]) ?_;have y0:=B0.out.kept K2.out;have y1:=((Below.block K2.out) (w.heap.size+1) (Array.getElem?_eq_some_iff.1 B1.out).1).trans B1.out;refine (Gn _ _ _ _ _ _ _ _ _ _ _ y0 y1 (by omega)).mono ?_;rintro e u' w4 ⟨rfl,rfl,rfl⟩;obtain ⟨d0,d1⟩:=Fp (x:=.bool false) (y:=.slice none 0 0) (z:=.int .i64 0) (x':=.bool false) (y':=.slice none 0 0) (z':=.int .i64 0) (q:=.int .i64 (1:Int)) (o:=.cells #[.int .i64 (1:Int)] 66) y0 y1 (by omega)
   have hkept:=Ge (x:=.bool false) (y:=.slice none 0 0) (z:=.int .i64 0) (x':=.bool false) (y':=.slice none 0 0) (z':=.int .i64 0) (q:=.int .i64 (1:Int)) (o:=.cells #[.int .i64 (1:Int)] 66) (KW.out.trans K2.out) (Nat.le_refl w.heap.size) (Nat.le_succ w.heap.size);have HKE:=hid hkept;clear hkept y0 y1;refine ⟨.tuple #[.agg #[.bool false,.slice none 0 0,.int .i64 0,.bool false,.slice none 0 0,.int .i64 0],.int .i64 (1:Int)],?_,?_⟩
   ·obtain ⟨-,c0,c1,c2,c3,c4,c5⟩:=d0.facts;generalize laidI _ _ _ _ _ _ _ _ _ _ _=WW at *;simp [results,Tryz.results27,go_sem,c0,c1,c2,c3,c4,c5,d1]
   ·exact ⟨HKE.out.drew,_,rfl,D0 _⟩
  ·have hd1:decide (1≤p)=false:=by simp;omega
   clear hp h1
   go_enter_defers Tryz.func27,Tryz.ntmps27
   go_wp2_with fail;rw [←HW.out];refine (Hw false 1 _).mono ?_;rintro e w3 ⟨he,rfl⟩;obtain rfl:e=.panicked (Ck 66 1):=he;change bodyPostD _ _ _ (Exit.panic _) _ _;refine leaves_cons (f:=69) (args:=#[.pointer (some ⟨w.heap.size,0,none⟩),.pointer (some ⟨w.heap.size+1,0,none⟩)]) (by simp) (by simp [go_sem]) ?_;have y0:=B0.out.kept K2.out;have y1:=((Below.block K2.out) (w.heap.size+1) (Array.getElem?_eq_some_iff.1 B1.out).1).trans B1.out;refine (Gn _ _ _ _ _ _ _ _ _ _ _ y0 y1 (by omega)).mono ?_;rintro e u' w4 ⟨rfl,rfl,rfl⟩;obtain ⟨d0,d1⟩:=Fp (x:=.bool false) (y:=.slice none 0 0) (z:=.int .i64 0) (x':=.bool false) (y':=.slice none 0 0) (z':=.int .i64 0) (q:=.int .i64 (1:Int)) (o:=.cells #[.int .i64 (1:Int)] 66) y0 y1 (by omega)
   have hkept:=Ge (x:=.bool false) (y:=.slice none 0 0) (z:=.int .i64 0) (x':=.bool false) (y':=.slice none 0 0) (z':=.int .i64 0) (q:=.int .i64 (1:Int)) (o:=.cells #[.int .i64 (1:Int)] 66) (KW.out.trans K2.out) (Nat.le_refl w.heap.size) (Nat.le_succ w.heap.size);have HKE:=hid hkept;clear hkept y0 y1;refine ⟨.tuple #[.agg #[.bool false,.slice none 0 0,.int .i64 0,.bool false,.slice none 0 0,.int .i64 0],.int .i64 (1:Int)],?_,?_⟩
   ·obtain ⟨-,c0,c1,c2,c3,c4,c5⟩:=d0.facts;generalize laidI _ _ _ _ _ _ _ _ _ _ _=WW at *;simp [results,Tryz.results27,go_sem,c0,c1,c2,c3,c4,c5,d1]
   ·exact ⟨HKE.out.drew,_,rfl,D0 _⟩
instance iIS {l:List RawI}:Nonempty (Gt fun v w=>IvS w v l):=⟨fun _ _ _ k h=>h.kept k⟩
end Go.Proofs.YtinbgjcooolbiaaGreatDoor
