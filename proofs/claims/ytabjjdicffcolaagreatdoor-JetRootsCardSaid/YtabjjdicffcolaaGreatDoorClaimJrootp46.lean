/- Words and contracts, part 46. -/
import Derived.Test.YtabjjdicffcolaaGreatDoorClaimJrootp43
import Derived.Test.YtabjjdicffcolaaGreatDoorClaimJrootp44
import Derived.Test.YtabjjdicffcolaaGreatDoorClaimJrootp45
set_option maxRecDepth 100000
set_option maxHeartbeats 0
namespace Go.Proofs.YtabjjdicffcolaaGreatDoor
open Go.Lib (hid)
open Go.RowKit
theorem Ajb {z:Int}(h1:8≤z)(h2:z≤16):exA z=true:=by
 have:z=8∨z=9∨z=10∨z=11∨z=12∨z=13∨z=14∨z=15∨z=16:=by omega
 rcases this with rfl | rfl | rfl | rfl | rfl | rfl | rfl | rfl | rfl
 ·exact Ao7
 ·exact Ao8
 ·exact Aoa
 ·exact Aob
 ·exact Aoc
 ·exact Aod
 ·exact Aoe
 ·exact Aof
 ·exact Aog
theorem Afy {z:Int}{p:Nat}{up:Bool}(h1:8≤z)(h2:z≤16)(p1:20≤p)(p2:p≤60):exC z p up=true∧exC (-z) p up=true:=by
 have h:=Ajb h1 h2;unfold exA at h;have h:=List.all_eq_true.1 h (p-20) (List.mem_range.2 (by omega));rw [show 20+(p-20)=p by omega] at h;simp only [Bool.and_eq_true] at h;obtain ⟨⟨⟨a,b⟩,c⟩,d⟩:=h;cases up
 ·exact ⟨b,d⟩
 ·exact ⟨a,c⟩
theorem Yu {z:Int}{p:Nat}{up:Bool}(h:exC z p up=true):(Du (dyz z (-3)) p up).k=0∧(Du (dyz z (-3)) p up).v.m≠0∧(Du (dyz z (-3)) p up).v.neg=false∧Rg (Du (dyz z (-3)) p up).v (p+5) 4:=by
 unfold exC at h;simp only [Bool.and_eq_true,decide_eq_true_eq,Bool.not_eq_true'] at h;obtain ⟨⟨⟨⟨a,b⟩,n⟩,c⟩,d⟩:=h;exact ⟨a,b,n,(Wz _ _ _).1,fun _=>c,fun _=>d⟩
theorem Akx {z:Int}(h1:8≤z)(h2:z≤16):sqA z=true:=by
 have:z=8∨z=9∨z=10∨z=11∨z=12∨z=13∨z=14∨z=15∨z=16:=by omega
 rcases this with rfl | rfl | rfl | rfl | rfl | rfl | rfl | rfl | rfl
 ·exact Ape
 ·exact Apf
 ·exact Aos
 ·exact Aot
 ·exact Aou
 ·exact Aov
 ·exact Aow
 ·exact Aox
 ·exact Aoy
theorem Aky {z:Int}{p:Nat}(h1:8≤z)(h2:z≤16)(p1:20≤p)(p2:p≤60):(Cc (pt (dyz z (-3))) p).k=0∧(Cc (pt (dyz z (-3))) p).v.Ok∧(Cc (pt (dyz z (-3))) p).v.lo.m≠0∧(Cc (pt (dyz z (-3))) p).v.lo.neg=false∧RgI (Cc (pt (dyz z (-3))) p).v (p+5) 4:=by
 have h:=Akx h1 h2;unfold sqA at h;have h:=List.all_eq_true.1 h (p-20) (List.mem_range.2 (by omega));rw [show 20+(p-20)=p by omega] at h;unfold sqC at h;simp only [Bool.and_eq_true,decide_eq_true_eq,Bool.not_eq_true'] at h;obtain ⟨⟨⟨⟨⟨⟨a,b⟩,n⟩,c⟩,d⟩,e⟩,f⟩:=h;have ok:=(Aaa (Mb (He z (-3))) (p:=p) (by omega)).1;exact ⟨a,ok,b,n,⟨ok.lo,fun _=>c,fun _=>d⟩,⟨ok.hi,fun _=>e,fun _=>f⟩⟩
theorem Ads {z:Int}(h1:8≤z)(h2:z≤16):(dyz z (-3)).m≠0∧(dyz z (-3)).neg=false∧(dyz (-z) (-3)).m≠0∧(dyz (-z) (-3)).neg=true∧Ck (dyz (-z) (-3))=Ck (dyz z (-3)):=by
 have hab:Ck (dyz (-z) (-3))=Ck (dyz z (-3)):=by
  rw [←Aci (Ac8 (by omega))];unfold D5 Ck;split<;>rfl
 have:z=8∨z=9∨z=10∨z=11∨z=12∨z=13∨z=14∨z=15∨z=16:=by omega
 rcases this with rfl | rfl | rfl | rfl | rfl | rfl | rfl | rfl | rfl<;>exact ⟨by decide +kernel,by decide +kernel,by decide +kernel,by decide +kernel,hab⟩
theorem Am6 {d:Dy}{p:Nat}(ok:d.Ok)(a:(Du d p false).k=0)(b:(Du d p true).k=0):ovI (pt d) p=⟨⟨(Du d p false).v,(Du d p true).v⟩,0⟩:=by
 have m:=(Ki ok a).2.2.1;unfold ovI
 show (if ovE (Ff d.raw p) (Ff d.raw p)≠0 then _ else if (Du d p false).k≠0∨(Du d p true).k≠0 then _ else (⟨⟨(Du d p false).v,(Du d p true).v⟩,0⟩:Outc Iv))=_
 rw [m,if_neg (by decide),if_neg (by rw [a,b];decide)]
theorem Afz {z:Int}{p:Nat}(p2:p≤60)(a:exC z p false=true)(b:exC z p true=true):(ovI (pt (dyz z (-3))) p).v.Ok∧GoodI (ovI (pt (dyz z (-3))) p) 65 4∧0<(ovI (pt (dyz z (-3))) p).v.lo.q∧ExpS (dyz z (-3)) p false (ovI (pt (dyz z (-3))) p).v.lo∧ExpS (dyz z (-3)) p true (ovI (pt (dyz z (-3))) p).v.hi:=by
 obtain ⟨a1,a2,a3,a4⟩:=Yu a;obtain ⟨b1,-,-,b4⟩:=Yu b;have ok:=He z (-3);have e:=Am6 ok a1 b1;obtain ⟨c1,c2,-,p1,p3⟩:=Ki ok a1;obtain ⟨-,c4,-⟩:=Ki ok b1;have o:=(Ahe (pt (dyz z (-3))) p (Mb ok) p1 p3).1;rw [e] at o ⊢;exact ⟨o,⟨rfl,a4.mono (by omega) (Int.le_refl _),b4.mono (by omega) (Int.le_refl _)⟩,Uz a2 a3,c2,c4⟩
theorem Akg {z:Int}{p:Nat}(h1:8≤z)(h2:z≤16)(p1:20≤p)(p2:p≤60):((ovI (pt (dyz z (-3))) p).v.Ok∧GoodI (ovI (pt (dyz z (-3))) p) 65 4)∧((ovI (pt (dyz (-z) (-3))) p).v.Ok∧GoodI (ovI (pt (dyz (-z) (-3))) p) 65 4) ∧
 ∃ e f:Rat,In e (ovI (pt (dyz z (-3))) p).v∧In f (ovI (pt (dyz (-z) (-3))) p).v∧e*f=1:=by
 have a:=Afy (up:=false) h1 h2 p1 p2;have b:=Afy (up:=true) h1 h2 p1 p2;obtain ⟨o1,g1,q1,l1,u1⟩:=Afz p2 a.1 b.1;obtain ⟨o2,g2,q2,l2,u2⟩:=Afz p2 a.2 b.2;obtain ⟨m1,n1,m2,n2,ab⟩:=Ads h1 h2;obtain ⟨e,f,i1,i2,i3,i4,ef⟩:=Af3 m1 n1 m2 n2 ab l1 u1 l2 u2 q1 q2 o1.le o2.le;exact ⟨⟨o1,g1⟩,⟨o2,g2⟩,e,f,⟨i1,i2⟩,⟨i3,i4⟩,ef⟩
def tQ:List Ln:=[⟨3,0,0,rzI⟩,⟨12,0,0,rzI⟩,⟨11,1,0,rzI⟩,⟨13,0,0,rzI⟩,⟨10,0,0,rzI⟩,⟨13,4,0,rzI⟩,⟨8,3,5,rzI⟩]
theorem Akt {p:Nat}{a:Nat→Int}(t:List RawI)(p1:20≤p)(p2:p≤60)(ha:∀ i,(a i).natAbs≤16)(ha0:8≤a 0) :
 ∃ r2 r6,Cy ovI p tQ [0,2,6] t [Cm a] [] 3=⟨[Cm a,r2,r6],0⟩∧Cf (eR a) (fun _=>600) (fun _=>600) r2∧Cf (fun n=>if n=0 then 1 else 0) (fun _=>600) (fun _=>600) r6∧r2.length=4∧r6.length=4:=by
 have hz:=ha 0;have hz2:a 0≤16:=by omega
 have hn:∀ i,(-a i).natAbs≤16:=fun i=>by have:=ha i;omega
 obtain ⟨k0,ok,m0,n0,rg⟩:=Aky ha0 hz2 p1 p2;have rg':RgI (Cc (pt (dyz (a 0) (-3))) p).v 65 4:=rg.mono (by omega) (Int.le_refl _);obtain ⟨⟨o1,g1⟩,⟨o2,g2⟩,e,f,i1,i2,ef⟩:=Akg ha0 hz2 p1 p2;obtain ⟨r1,h1,c1,l1,z1⟩:=Am9 (ov:=ovI) (b:=Cm a) p1 p2 ha k0 ok m0 n0 rg';obtain ⟨r2,h2,c2,l2⟩:=Ana (ov:=ovI) (b:=Cm a) p1 p2 ha (Ny ha).gd k0 m0 n0 rg' c1 l1 z1;obtain ⟨r3,h3,c3,l3⟩:=Ahn (ov:=ovI) (b:=Cm a) (e:=e) p1 p2 (Ny ha) (Eu a) (by rw [Hj a (by decide)];exact o1) (by rw [Hj a (by decide)];exact g1) (by rw [Hj a (by decide)];exact i1);have h4:=Akn (ov:=ovI) (p:=p) (b:=Cm a) p1 ha
 obtain ⟨r5,h5,c5,l5⟩:=Ahn (ov:=ovI) (b:=Cm a) (e:=f) p1 p2 (Ny (f:=fun i=>-a i) hn) (Eu _) (by rw [Hj _ (by decide)];exact o2) (by rw [Hj _ (by decide)];exact g2) (by rw [Hj _ (by decide)];exact i2);obtain ⟨r6,h6,c6,l6⟩:=Ako (ov:=ovI) p1 p2 c3 c5 l3 l5 ef (fun n=>by unfold eR;rw [Rat.intCast_neg,Rat.neg_mul]);refine ⟨r2,r6,?_,c2,c6,l2,l6⟩;have e0:Ep ovI p ⟨3,0,0,rzI⟩ [] t [Cm a] [] 3=⟨Cm a,0⟩:=by
  rw [Xd _ _ _ _ _ _ _ _ rfl];exact Aax p1 ha
 have e1:Ep ovI p ⟨12,0,0,rzI⟩ [Cm a] t [Cm a] [] 3=⟨r1,0⟩:=by
  rw [Mq _ _ _ _ _ _ _ _ (by decide)];exact h1
 have e2:Ep ovI p ⟨11,1,0,rzI⟩ [Cm a,r1] t [Cm a] [] 3=⟨r2,0⟩:=by
  rw [Mq _ _ _ _ _ _ _ _ (by decide)];exact h2
 have e3:Ep ovI p ⟨13,0,0,rzI⟩ [Cm a,r1,r2] t [Cm a] [] 3=⟨r3,0⟩:=by
  rw [Mq _ _ _ _ _ _ _ _ (by decide)];exact h3
 have e4:Ep ovI p ⟨10,0,0,rzI⟩ [Cm a,r1,r2,r3] t [Cm a] [] 3=⟨Cm fun i=>-a i,0⟩:=by
  rw [Mq _ _ _ _ _ _ _ _ (by decide)];exact h4
 have e5:Ep ovI p ⟨13,4,0,rzI⟩ [Cm a,r1,r2,r3,Cm fun i=>-a i] t [Cm a] [] 3=⟨r5,0⟩:=by
  rw [Mq _ _ _ _ _ _ _ _ (by decide)];exact h5
 have e6:Ep ovI p ⟨8,3,5,rzI⟩ [Cm a,r1,r2,r3,Cm fun i=>-a i,r5] t [Cm a] [] 3=⟨r6,0⟩:=by
  rw [Mq _ _ _ _ _ _ _ _ (by decide)];exact h6
 simp only [Cy,Fk,tQ,e0,e1,e2,e3,e4,e5,e6,if_true,List.nil_append,List.cons_append,List.map_cons,List.map_nil];rfl
theorem Qc {w w':World}{b:Nat}{o:Obj}(h:w.heap[b]?=some o)(k:Kept w w'):w'.heap[b]?=some o:=(k.block b (Array.getElem?_eq_some_iff.1 h).1).trans h
theorem Ao2 (w:World)(x y z:Value):∃ V,V=w.alloc (.cells #[x,y,z] 3)∧Kept w V∧V.heap[w.heap.size]?=some (.cells #[x,y,z] 3 (0,0)) :=
 ⟨_,rfl,Ad _ _,heap_alloc_new _ _⟩
theorem Ala {w:World}{v:Value}{a:Iv}{p:Nat}(hv:IvC w v a)(ok:a.Ok)(hT:Tab w)(p1:1≤p)(p2:p≤300) :
 Calls Tryz.prog 102 #[v,.int .i64 (p:Nat)] w (RetIE (Br (ovI a p)) w):=by
 have M:=hid (fun w1 (k:Kept w w1)=>Nk (hv.kept k) ok);obtain ⟨A,l,c,A',l',c',rfl,h1,h2⟩:=Bm hv;have X0:=hid (fun w1 (k:Kept w w1)=>Ut (p:=p) (h1.kept k) (Nat.le_trans ok.lo.len (by decide)) (hT.kept k));have X1:=hid (fun w1 (k:Kept w w1)=>Ut (p:=p) (h2.kept k) (Nat.le_trans ok.hi.len (by decide)) (hT.kept k));have E0:=hid (fun w1 (k:Kept w w1)=>Adk (up:=false) (h1.kept k) ok.lo p1 p2 (hT.kept k));have E1:=hid (fun w1 (k:Kept w w1)=>Adk (up:=true) (h2.kept k) ok.hi p1 p2 (hT.kept k));have hb:∀ k,ovE (Ff a.lo.raw p) (Ff a.hi.raw p)=k→k≠0→Br (ovI a p)=⟨rzI,k⟩:=fun k hk h0=>by
  unfold ovI;rw [if_pos (by rw [hk];exact h0),hk];unfold Br;rw [Qf]
 have hg:Ff a.lo.raw p=0→Ff a.hi.raw p=0→Br (ovI a p)=if (Du a.lo p false).raw.k≠0∨(Du a.hi p true).raw.k≠0 then ⟨rzI,max (Du a.lo p false).raw.k (Du a.hi p true).raw.k⟩ else ⟨⟨(Du a.lo p false).raw.v,(Du a.hi p true).raw.v⟩,0⟩:=fun h h'=>by
  unfold ovI;rw [if_neg (by rw [h,h'];decide)]
  show _=if (Du a.lo p false).k≠0∨(Du a.hi p true).k≠0 then _ else _
  split
  ·unfold Br;rw [Qf];rfl
  ·rfl
 have c0:=Lq a.lo.raw p;have c1:=Lq a.hi.raw p;generalize Ff a.lo.raw p=m0 at *;generalize Ff a.hi.raw p=m1 at *;generalize (Du a.lo p false).raw=o0 at *;generalize (Du a.hi p true).raw=o1 at *;obtain ⟨T,hTT⟩:∃ T,Br (ovI a p)=T:=⟨_,rfl⟩;rw [hTT] at hb hg ⊢;have BAD:=hid hb;have GOOD:=hid hg;have C0:=hid c0;have C1:=hid c1;clear hTT hb hg c0 c1 hv ok hT h1 h2;generalize a.lo.neg=n1 at *;generalize a.lo.e=e1 at *;generalize a.hi.neg=n2 at *;generalize a.hi.e=e2 at *;obtain ⟨W,hW,kW,BA,BR⟩:=Wn w (.bool n1) (.slice A l c) (.int .i64 e1) (.bool n2) (.slice A' l' c') (.int .i64 e2) (.bool false) (.slice none 0 0) (.int .i64 0) (.bool false) (.slice none 0 0) (.int .i64 0)
 have HW:=hid hW;have K:=hid kW;have HB:=hid BA;have HR:=hid BR;obtain ⟨-,a0,a1,a2,a3,a4,a5⟩:=BA.facts;clear hW kW BA BR;go_enter Tryz.func102,Tryz.ntmps102;go_upto_region 1 with fail;rw [←HW.out];go_wp2_with fail;refine (M.out _ K.out).mono ?_;rintro ee w1 ⟨rfl,q⟩;simp only [];replace K:=hid (K.out.trans q);replace HB:=hid (HB.out.kept q);replace HR:=hid (HR.out.kept q);clear q a0 a1 a2 a3 a4 a5 M HW;have lR:=HR.out.facts.1;obtain ⟨V,hV,kV,hv3⟩:=Ao2 w1 (.int .i64 1) (.int .i64 4) (.int .i64 2);have HV:=hid hV;have V3:=hid hv3;replace K:=hid (K.out.trans kV);replace HB:=hid (HB.out.kept kV);replace HR:=hid (HR.out.kept kV)
 have KX:Hid (Kept V V):=hid (Below.refl _ _);obtain ⟨-,a0,a1,a2,a3,a4,a5⟩:=HB.out.facts;clear hV kV hv3;go_upto_region 4 with fail;rw [←HV.out];refine wp_loop_rounds 4 ?_
 -- a round of the loop over the errors: C the error, I its place
 rw [rounds_succ];have v9:=Ab (Qc V3.out KX.out) 0 _ rfl;go_upto_region 6 with fail;by_cases h0:m0=1
 ·have g0:(m0==1)=true:=by simp [h0]
  go_wp2_with fail;refine (X0.out _ (K.out.trans KX.out)).mono ?_;rintro ee w2 ⟨rfl,q⟩;simp only [];have KK:=hid (K.out.trans (KX.out.trans q));have HR2:=hid ((HR.out.kept KX.out).kept q);clear q a0 a1 a2 a3 a4 a5 v9;obtain ⟨-,x0,x1,x2,x3,x4,x5⟩:=HR2.out.facts;obtain ⟨f0,f1,f2,f3,f4,f5⟩:=HR2.out.free;go_wp2_with fail;have e:T=⟨rzI,1⟩:=BAD.out 1 (by unfold ovE;rw [if_pos (by omega)]) (by decide);subst e;exact Dm (HR2.out.laid _ _ _ _ _ _) rfl rfl rfl ⟨Az KK.out (by omega),_,rfl,_,_,_,_,_,_,rfl,Ca _,Ca _⟩
 have g0:(m0==1)=false:=by simp [h0]
 go_wp2_with fail;refine (X0.out _ (K.out.trans KX.out)).mono ?_;rintro ee w2 ⟨rfl,q⟩;simp only [];replace KX:=hid (KX.out.trans q);clear q a0 a1 a2 a3 a4 a5;obtain ⟨-,a0,a1,a2,a3,a4,a5⟩:=(HB.out.kept KX.out).facts;by_cases h1:m1=1
 ·have g1:(m1==1)=true:=by simp [h1]
  go_wp2_with fail;refine (X1.out _ (K.out.trans KX.out)).mono ?_;rintro ee w2 ⟨rfl,q⟩;simp only [];have KK:=hid (K.out.trans (KX.out.trans q));have HR2:=hid ((HR.out.kept KX.out).kept q);clear q a0 a1 a2 a3 a4 a5 v9;obtain ⟨-,x0,x1,x2,x3,x4,x5⟩:=HR2.out.facts;obtain ⟨f0,f1,f2,f3,f4,f5⟩:=HR2.out.free;go_wp2_with fail;have e:T=⟨rzI,1⟩:=BAD.out 1 (by unfold ovE;rw [if_pos (by omega)]) (by decide);subst e;exact Dm (HR2.out.laid _ _ _ _ _ _) rfl rfl rfl ⟨Az KK.out (by omega),_,rfl,_,_,_,_,_,_,rfl,Ca _,Ca _⟩
 have g1:(m1==1)=false:=by simp [h1]
 go_wp2_with fail;refine (X1.out _ (K.out.trans KX.out)).mono ?_;rintro ee w3 ⟨rfl,q⟩;simp only [];replace KX:=hid (KX.out.trans q);clear q a0 a1 a2 a3 a4 a5;obtain ⟨-,a0,a1,a2,a3,a4,a5⟩:=(HB.out.kept KX.out).facts;go_wp2_with fail;have H1:=hid (And.intro h0 h1);clear g0 g1 h0 h1 v9
 -- a round of the loop over the errors: C the error, I its place
 rw [rounds_succ];have v9:=Ab (Qc V3.out KX.out) 1 _ rfl;go_upto_region 6 with fail;by_cases h0:m0=4
 ·have g0:(m0==4)=true:=by simp [h0]
  go_wp2_with fail;refine (X0.out _ (K.out.trans KX.out)).mono ?_;rintro ee w2 ⟨rfl,q⟩;simp only [];have KK:=hid (K.out.trans (KX.out.trans q));have HR2:=hid ((HR.out.kept KX.out).kept q);clear q a0 a1 a2 a3 a4 a5 v9;obtain ⟨-,x0,x1,x2,x3,x4,x5⟩:=HR2.out.facts;obtain ⟨f0,f1,f2,f3,f4,f5⟩:=HR2.out.free;go_wp2_with fail;have e:T=⟨rzI,4⟩:=BAD.out 4 (by have a9:=H1.out;unfold ovE;rw [if_neg (by omega),if_pos (by omega)]) (by decide);subst e;exact Dm (HR2.out.laid _ _ _ _ _ _) rfl rfl rfl ⟨Az KK.out (by omega),_,rfl,_,_,_,_,_,_,rfl,Ca _,Ca _⟩
 have g0:(m0==4)=false:=by simp [h0]
 go_wp2_with fail;refine (X0.out _ (K.out.trans KX.out)).mono ?_;rintro ee w4 ⟨rfl,q⟩;simp only [];replace KX:=hid (KX.out.trans q);clear q a0 a1 a2 a3 a4 a5;obtain ⟨-,a0,a1,a2,a3,a4,a5⟩:=(HB.out.kept KX.out).facts;by_cases h1:m1=4
 ·have g1:(m1==4)=true:=by simp [h1]
  go_wp2_with fail;refine (X1.out _ (K.out.trans KX.out)).mono ?_;rintro ee w2 ⟨rfl,q⟩;simp only [];have KK:=hid (K.out.trans (KX.out.trans q));have HR2:=hid ((HR.out.kept KX.out).kept q);clear q a0 a1 a2 a3 a4 a5 v9;obtain ⟨-,x0,x1,x2,x3,x4,x5⟩:=HR2.out.facts;obtain ⟨f0,f1,f2,f3,f4,f5⟩:=HR2.out.free;go_wp2_with fail;have e:T=⟨rzI,4⟩:=BAD.out 4 (by have a9:=H1.out;unfold ovE;rw [if_neg (by omega),if_pos (by omega)]) (by decide);subst e;exact Dm (HR2.out.laid _ _ _ _ _ _) rfl rfl rfl ⟨Az KK.out (by omega),_,rfl,_,_,_,_,_,_,rfl,Ca _,Ca _⟩
 have g1:(m1==4)=false:=by simp [h1]
 go_wp2_with fail;refine (X1.out _ (K.out.trans KX.out)).mono ?_;rintro ee w5 ⟨rfl,q⟩;simp only [];replace KX:=hid (KX.out.trans q);clear q a0 a1 a2 a3 a4 a5;obtain ⟨-,a0,a1,a2,a3,a4,a5⟩:=(HB.out.kept KX.out).facts;go_wp2_with fail;have H4:=hid (And.intro h0 h1);clear g0 g1 h0 h1 v9
 -- a round of the loop over the errors: C the error, I its place
 rw [rounds_succ];have v9:=Ab (Qc V3.out KX.out) 2 _ rfl;go_upto_region 6 with fail;by_cases h0:m0=2
 ·have g0:(m0==2)=true:=by simp [h0]
  go_wp2_with fail;refine (X0.out _ (K.out.trans KX.out)).mono ?_;rintro ee w2 ⟨rfl,q⟩;simp only [];have KK:=hid (K.out.trans (KX.out.trans q));have HR2:=hid ((HR.out.kept KX.out).kept q);clear q a0 a1 a2 a3 a4 a5 v9;obtain ⟨-,x0,x1,x2,x3,x4,x5⟩:=HR2.out.facts;obtain ⟨f0,f1,f2,f3,f4,f5⟩:=HR2.out.free;go_wp2_with fail;have e:T=⟨rzI,2⟩:=BAD.out 2 (by have a9:=H1.out;have a8:=H4.out;unfold ovE;rw [if_neg (by omega),if_neg (by omega),if_pos (by omega)]) (by decide);subst e;exact Dm (HR2.out.laid _ _ _ _ _ _) rfl rfl rfl ⟨Az KK.out (by omega),_,rfl,_,_,_,_,_,_,rfl,Ca _,Ca _⟩
 have g0:(m0==2)=false:=by simp [h0]
 go_wp2_with fail;refine (X0.out _ (K.out.trans KX.out)).mono ?_;rintro ee w6 ⟨rfl,q⟩;simp only [];replace KX:=hid (KX.out.trans q);clear q a0 a1 a2 a3 a4 a5;obtain ⟨-,a0,a1,a2,a3,a4,a5⟩:=(HB.out.kept KX.out).facts;by_cases h1:m1=2
 ·have g1:(m1==2)=true:=by simp [h1]
  go_wp2_with fail;refine (X1.out _ (K.out.trans KX.out)).mono ?_;rintro ee w2 ⟨rfl,q⟩;simp only [];have KK:=hid (K.out.trans (KX.out.trans q));have HR2:=hid ((HR.out.kept KX.out).kept q);clear q a0 a1 a2 a3 a4 a5 v9;obtain ⟨-,x0,x1,x2,x3,x4,x5⟩:=HR2.out.facts;obtain ⟨f0,f1,f2,f3,f4,f5⟩:=HR2.out.free;go_wp2_with fail;have e:T=⟨rzI,2⟩:=BAD.out 2 (by have a9:=H1.out;have a8:=H4.out;unfold ovE;rw [if_neg (by omega),if_neg (by omega),if_pos (by omega)]) (by decide);subst e;exact Dm (HR2.out.laid _ _ _ _ _ _) rfl rfl rfl ⟨Az KK.out (by omega),_,rfl,_,_,_,_,_,_,rfl,Ca _,Ca _⟩
 have g1:(m1==2)=false:=by simp [h1]
 go_wp2_with fail;refine (X1.out _ (K.out.trans KX.out)).mono ?_;rintro ee w7 ⟨rfl,q⟩;simp only [];replace KX:=hid (KX.out.trans q);clear q a0 a1 a2 a3 a4 a5;obtain ⟨-,a0,a1,a2,a3,a4,a5⟩:=(HB.out.kept KX.out).facts;go_wp2_with fail;have H2:=hid (And.intro h0 h1);clear g0 g1 h0 h1 v9;rw [rounds_succ];have hm0:m0=0∧m1=0:=by
  have a1:=H1.out;have a2:=H4.out;have a3:=H2.out;have a4:=C0.out;have a5:=C1.out;omega
 have HT:=hid (GOOD.out hm0.1 hm0.2);clear hm0 GOOD BAD H1 H4 H2 C0 C1 X0 X1;obtain ⟨k0,hk0⟩:∃ k,k=o0.k:=⟨_,rfl⟩;obtain ⟨k1,hk1⟩:∃ k,k=o1.k:=⟨_,rfl⟩;have HK0:=hid hk0;have HK1:=hid hk1;clear hk0 hk1;go_upto_region 9 with fail;go_wp2_with fail;refine (E0.out _ (K.out.trans KX.out)).mono ?_;rintro ee w8 ⟨q,v0,rfl,hv0⟩;obtain ⟨B,j,f,rfl,d0⟩:=Aw hv0;rw [←HK0.out];simp only [];have D0:=hid d0;replace KX:=hid (KX.out.trans q);clear q a0 a1 a2 a3 a4 a5 hv0 d0 E0;obtain ⟨V9,hV9,kV9,bV9,-⟩:=Md w8 (.bool o0.v.neg) (.slice B j f) (.int .i64 o0.v.e);have HV9:=hid hV9;replace KX:=hid (KX.out.trans kV9)
 have B9:=hid bV9;replace D0:=hid (D0.out.kept kV9);obtain ⟨-,a0,a1,a2,a3,a4,a5⟩:=(HB.out.kept KX.out).facts;clear hV9 kV9 bV9;go_upto_region 10 with fail;rw [←HV9.out];go_wp2_with fail;refine (E1.out _ (K.out.trans KX.out)).mono ?_;rintro ee w10 ⟨q,v1,rfl,hv1⟩;obtain ⟨B',j',f',rfl,d1⟩:=Aw hv1;rw [←HK1.out];simp only [];have D1:=hid d1;replace KX:=hid (KX.out.trans q);replace B9:=hid (B9.out.kept q);replace D0:=hid (D0.out.kept q);clear q a0 a1 a2 a3 a4 a5 hv1 d1 E1 HV9;obtain ⟨V11,hV11,kV11,bV11,-⟩:=Md w10 (.bool o1.v.neg) (.slice B' j' f') (.int .i64 o1.v.e);have HV11:=hid hV11;replace KX:=hid (KX.out.trans kV11)
 replace B9:=hid (B9.out.kept kV11);have B11:=hid bV11;replace D0:=hid (D0.out.kept kV11);replace D1:=hid (D1.out.kept kV11);have HR2:=hid (HR.out.kept KX.out);have KK:=hid (K.out.trans KX.out);clear hV11 kV11 bV11 HR HB KX;go_upto_region 11 with fail;rw [←HV11.out];obtain ⟨-,x0,x1,x2,x3,x4,x5⟩:=HR2.out.facts;obtain ⟨f0,f1,f2,f3,f4,f5⟩:=HR2.out.free;by_cases z0:k0=0
 ·by_cases z1:k1=0
  ·have g0:(k0 != 0)=false:=by simp [z0]
   have g1:(k1 != 0)=false:=by simp [z1]
   obtain ⟨-,c0,c1,c2⟩:=B9.out.facts;obtain ⟨-,e0,e1,e2⟩:=B11.out.facts;go_wp2_with fail;have e:T=⟨⟨o0.v,o1.v⟩,0⟩:=by
    rw [HT.out,if_neg (by rw [←HK0.out,←HK1.out];omega)]
   subst e;exact Dm (HR2.out.laid _ _ _ _ _ _) rfl rfl rfl ⟨Az KK.out (by omega),_,rfl,_,_,_,_,_,_,rfl,D0.out.ivW HR2.out _ _ _ _ _ _,D1.out.ivW HR2.out _ _ _ _ _ _⟩
  ·have g0:(k0 != 0)=false:=by simp [z0]
   have g1:(k1 != 0)=true:=by simp [z1]
   go_wp2_with fail;have e:T=⟨rzI,max 0 k1⟩:=by
    rw [HT.out,if_pos (by rw [←HK0.out,←HK1.out];omega),←HK0.out,←HK1.out,z0]
   subst e;exact Dm (HR2.out.laid _ _ _ _ _ _) rfl rfl rfl ⟨Az KK.out (by omega),_,rfl,_,_,_,_,_,_,rfl,Ca _,Ca _⟩
 ·have g0:(k0 != 0)=true:=by simp [z0]
  go_wp2_with fail;have e:T=⟨rzI,max k0 k1⟩:=by
   rw [HT.out,if_pos (by rw [←HK0.out,←HK1.out];omega),←HK0.out,←HK1.out]
  subst e;exact Dm (HR2.out.laid _ _ _ _ _ _) rfl rfl rfl ⟨Az KK.out (by omega),_,rfl,_,_,_,_,_,_,rfl,Ca _,Ca _⟩
theorem Ac1:OvC ovI:=⟨fun a p ha p1 p2=>Ahe a p ha p1 p2,fun _ _ _ _ hv ok hT p1 p2=>Ala hv ok hT p1 p2⟩
structure RoS (B bx:Nat) (w0:World) (f:Nat→Int) (i:Nat) (w:World):Prop where
 box:∃ v0 xs0,w.heap[bx]?=some (.cells #[v0] 31 (0,0))∧OwnI w B v0 (Ro f i) xs0∧(i=0→v0=.slice none 0 0)
 k:Kept w0 w
theorem RoS.kept {B bx:Nat}{w0:World}{f:Nat→Int}{i:Nat}{w w':World}(h:RoS B bx w0 f i w)(k:Kept w w'):RoS B bx w0 f i w':=by
 obtain ⟨v0,xs0,h1,h2,h3⟩:=h.box;exact ⟨⟨v0,xs0,Ao h1 k,h2.kept k,h3⟩,h.k.trans k⟩
theorem An3 (w:World):∃ W,W=w.alloc (.cells #[.slice none 0 0] 31)∧Kept w W∧W.heap.size=w.heap.size+1∧W.heap[w.heap.size]?=some (.cells #[.slice none 0 0] 31 (0,0)) :=
 ⟨_,rfl,Ad _ _,by simp,heap_alloc_new _ _⟩
theorem mk1 (w:World):(Instr.makeSlice 38 (.int .i64 1) (.int .i64 1)).run Tryz.prog w=.ok (.slice (some ⟨w.heap.size,0,none⟩) 1 1) (w.alloc (.cells #[.slice none 0 0] 31)):=by
 kernel_rfl
theorem RoS.first {w W:World}(f:Nat→Int)(k:Kept w W)(hb:W.heap[w.heap.size]?=some (.cells #[.slice none 0 0] 31 (0,0))):RoS W.heap.size w.heap.size w f 0 W :=
 ⟨⟨_,[],hb,OwnI.nil _ _,fun _=>rfl⟩,k⟩
theorem RoS.rws4 {B bx:Nat}{w0 w:World}{f:Nat→Int}(h:RoS B bx w0 f 4 w):Rws w (.slice (some ⟨bx,0,none⟩) 1 1) [Cm f]:=by
 obtain ⟨v0,xs0,h1,h2,-⟩:=h.box;refine ⟨_,_,rfl,Nat.le_refl _,fun _=>⟨bx,0,rfl,fun i r hi=>?_⟩⟩;rcases i with _ | i
 ·obtain rfl:Cm f=r:=by simpa using hi
  exact ⟨v0,Ab h1 0 _ rfl,h2.ivS⟩
 ·simp at hi
def RoJ (B bx:Nat) (v0:Value) (ra:List RawI) (xs0:List Value) (l3 l7 l9:Bool) (w:World):Prop :=
 (l7=false→OwnI w B v0 ra xs0)∧∃ c0,w.heap[bx]?=some (.cells #[c0] 31 (0,0))∧SlC c0∧(l9=false→c0=v0)∧(l9=true→l3=true∧l7=true)
section
variable {B bx:Nat} {v0:Value} {ra:List RawI} {xs0:List Value} {l3 l7 l9:Bool} {w w':World}
theorem RoJ.kept (k:Kept w w')(h:RoJ B bx v0 ra xs0 l3 l7 l9 w):RoJ B bx v0 ra xs0 l3 l7 l9 w':=by
 obtain ⟨h1,c0,hb,rest⟩:=h;exact ⟨fun e=>(h1 e).kept k,c0,Ao hb k,rest⟩
theorem RoJ.seen (k:Kept w w')(h:RoJ B bx v0 ra xs0 l3 l7 l9 w):RoJ B bx v0 ra xs0 true l7 l9 w':=by
 obtain ⟨h1,c0,hb,s0,h5,h7⟩:=h.kept k;exact ⟨h1,c0,hb,s0,h5,fun e=>⟨rfl,(h7 e).2⟩⟩
theorem RoJ.at0 (h:RoJ B bx v0 ra xs0 l3 l7 l9 w)(hl:l3=false∨l7=false∨l9=false):w.cell? ⟨bx,0,none⟩=some v0:=by
 obtain ⟨-,c0,hb,-,h5,h7⟩:=h;have:c0=v0:=h5 (by
  cases l9
  ·rfl
  ·obtain ⟨e1,e2⟩:=h7 rfl;rcases hl with hl | hl | hl
   ·rw [e1] at hl;cases hl
   ·rw [e2] at hl;cases hl
   ·exact hl)
 rw [←this];exact Ab hb 0 _ rfl
theorem RoJ.app (h:RoJ B bx v0 ra xs0 l3 l7 l9 w)(hs:∀ (b:Nat) (cs:Array Value) (T:TypeId),w.heap[b]?=some (.cells cs T (0,0))→cs.size<12→w'.heap[b]?=some (.cells cs T (0,0))):RoJ B bx v0 ra xs0 l3 true l9 w':=by
 obtain ⟨h1,c0,hb,s0,h5,h7⟩:=h;exact ⟨fun e=>by (cases e),c0,hs _ _ _ hb (by simp),s0,h5,fun e=>⟨(h7 e).1,rfl⟩⟩
theorem RoJ.box (h:RoJ B bx v0 ra xs0 l3 l7 l9 w):∃ c0,w.heap[bx]?=some (.cells #[c0] 31 (0,0))∧SlC c0:=by
 obtain ⟨-,c0,hb,s0,-⟩:=h;exact ⟨c0,hb,s0⟩
theorem RoJ.no9 (h:RoJ B bx v0 ra xs0 l3 l7 l9 w)(e:l7=false):l9=false:=by
 obtain ⟨-,c0,hb,-,-,h7⟩:=h;cases l9
 ·rfl
 ·have:=(h7 rfl).2;rw [e] at this;cases this
theorem RoJ.own (h:RoJ B bx v0 ra xs0 l3 l7 l9 w)(e:l7=false):OwnI w B v0 ra xs0:=h.1 e
theorem RoJ.set {v:Value}(h:RoJ B bx v0 ra xs0 l3 l7 l9 w)(e3:l3=true)(e7:l7=true)(hv:SlC v):RoJ B bx v0 ra xs0 l3 l7 true (w.setCell ⟨bx,0,none⟩ v):=by
 obtain ⟨h1,c0,hb,s0,h5,h7⟩:=h;refine ⟨fun e=>(by rw [e7] at e;cases e),v,?_,hv,fun e=>(by cases e),fun _=>⟨e3,e7⟩⟩;have:=Bi (i:=0) hb v;simpa using this
end
theorem OwnI.set1 {w:World}{B bx:Nat}{v:Value}{l:List RawI}{xs:List Value}{T:TypeId}{c0 u:Value}(h:OwnI w B v l xs)(hlt:bx<B)(hb:w.heap[bx]?=some (.cells #[c0] T (0,0)))(hn:Bl c0):OwnI (w.setCell ⟨bx,0,none⟩ u) B v l xs:=by
 have k:KB w [bx] (w.setCell ⟨bx,0,none⟩ u):=(KB.refl w [bx]).setCell (by simp) (Ab hb 0 _ rfl) hn u;obtain ⟨h1,h2,h3,h4,h5⟩:=h;have blk:∀ g o,B≤g→w.heap[g]?=some o→(w.setCell ⟨bx,0,none⟩ u).heap[g]?=some o:=fun g o hg ho=>(Below.heap_setCell _ _ _ _ (show g≠bx by omega)).trans ho
 refine ⟨⟨h1.1,?_⟩,h2,h3,?_,?_⟩
 ·rcases h1.2 with hn | ⟨g2,cap,cr,e,hb2,hg2,rest⟩
  ·exact .inl hn
  ·exact .inr ⟨g2,cap,cr,e,hb2,blk _ _ hb2 hg2,rest⟩
 ·intro g2 hg2;obtain ⟨cr,e,q1,q2⟩:=h4 g2 hg2;refine ⟨cr,e,blk _ _ ?_ q1,q2⟩;rcases h1.2 with ⟨rfl,-⟩ | ⟨g3,cap,cr',rfl,hb2,-⟩
  ·simp [Value.ownBlock] at hg2
  ·obtain rfl:g3=g2:=by simpa [Value.ownBlock] using hg2
   exact hb2
 ·intro i a hi;obtain ⟨p0,p1,p2,p3,p4,p5,s0,s1,s2,s3,s4,s5,hI⟩:=h5 i a hi;exact ⟨p0,p1,p2,p3,p4,p5,s0,s1,s2,s3,s4,s5,hI.kb k⟩
theorem OneI.set1 {w:World}{v:Value}{r:RawI}{bx:Nat}{T:TypeId}{c0 u:Value}(h:OneI w v r)(hb:w.heap[bx]?=some (.cells #[c0] T (0,0)))(hn:Bl c0):OneI (w.setCell ⟨bx,0,none⟩ u) v r:=by
 have k:KB w [bx] (w.setCell ⟨bx,0,none⟩ u):=(KB.refl w [bx]).setCell (by simp) (Ab hb 0 _ rfl) hn u;obtain ⟨b,x',y,z,x'',y',z',e,h1,h2⟩:=h;refine ⟨b,x',y,z,x'',y',z',e,h1.kb k ?_,h2.kb k⟩;intro hm;simp only [List.mem_singleton] at hm;subst hm;unfold BlkI at h1;rw [h1] at hb;simp at hb
def RoG (bx:Nat) (L:Nat→Bool) (u:Nat→Value) (w:World):Prop:=L 9=true→w.cell? ⟨bx,0,none⟩=some (u 7)
theorem RoG.keep {bx i:Nat}{L:Nat→Bool}{u:Nat→Value}{v:Value}{w w':World}(hE:(i==7||i==9)=false)(k:Kept w w')(h:RoG bx L u w):RoG bx (upd L i true) (upd u i v) w':=by
 simp only [Bool.or_eq_false_iff,beq_eq_false_iff_ne,ne_eq] at hE;have e7:(7:Nat)≠i:=fun e=>hE.1 e.symm
 have e9:(9:Nat)≠i:=fun e=>hE.2 e.symm
 unfold RoG;simp only [upd,e7,e9,if_false];exact fun e=>(k.cell (p:=⟨bx,0,none⟩) (Aq (h e))).trans (h e)
theorem RoG.put7 {bx:Nat}{L:Nat→Bool}{u:Nat→Value}{v:Value}{w':World}(h9:L 9=false):RoG bx (upd L 7 true) (upd u 7 v) w':=fun e=>absurd (h9.symm.trans e) (by decide)
theorem RoG.put9 {bx:Nat}{L:Nat→Bool}{u:Nat→Value}{w':World}(hx:w'.cell? ⟨bx,0,none⟩=some (u 7)):RoG bx (upd L 9 true) (upd u 9 undef) w':=fun _=>hx
theorem An5 (w:World):∃ V,V=((w.alloc (.cells #[.int .i64 3,.int .i64 0,.int .i64 0,.bool false,.slice none 0 0,.int .i64 0,.bool false,.slice none 0 0,.int .i64 0,.int .i64 12,.int .i64 0,.int .i64 0,.bool false,.slice none 0 0,.int .i64 0,.bool false,.slice none 0 0,.int .i64 0,.int .i64 11,.int .i64 1,.int .i64 0,.bool false,.slice none 0 0,.int .i64 0,.bool false,.slice none 0 0,.int .i64 0,.int .i64 13,.int .i64 0,.int .i64 0,.bool false,.slice none 0 0,.int .i64 0,.bool false,.slice none 0 0,.int .i64 0,.int .i64 10,.int .i64 0,.int .i64 0,.bool false,.slice none 0 0,.int .i64 0,.bool false,.slice none 0 0,.int .i64 0,.int .i64 13,.int .i64 4,.int .i64 0,.bool false,.slice none 0 0,.int .i64 0,.bool false,.slice none 0 0,.int .i64 0,.int .i64 8,.int .i64 3,.int .i64 5,.bool false,.slice none 0 0,.int .i64 0,.bool false,.slice none 0 0,.int .i64 0] 52)).alloc (.cells #[.int .i64 0,.int .i64 2,.int .i64 6] 3)).alloc (.cells #[.slice (some ⟨w.heap.size,0,none⟩) 7 7,.slice (some ⟨w.heap.size+1,0,none⟩) 3 3] 25)∧Kept w V ∧
 V.heap[w.heap.size+1+1]?=some (.cells #[.slice (some ⟨w.heap.size,0,none⟩) 7 7,.slice (some ⟨w.heap.size+1,0,none⟩) 3 3] 25 (0,0)) ∧
 TpR V (.agg #[.slice (some ⟨w.heap.size,0,none⟩) 7 7,.slice (some ⟨w.heap.size+1,0,none⟩) 3 3]) tQ [0,2,6]:=by
 have st:∀ (v:World) (n:Nat) (c:Array Value) (T:TypeId),v.heap.size=n→(v.alloc (.cells c T)).heap[n]?=some (.cells c T (0,0))∧(v.alloc (.cells c T)).heap.size=n+1∧Kept v (v.alloc (.cells c T)):=by
  intro v n c T h;subst h;exact ⟨heap_alloc_new _ _,by simp,Ad _ _⟩
 obtain ⟨p1,q1,x1⟩:=st w _ #[.int .i64 3,.int .i64 0,.int .i64 0,.bool false,.slice none 0 0,.int .i64 0,.bool false,.slice none 0 0,.int .i64 0,.int .i64 12,.int .i64 0,.int .i64 0,.bool false,.slice none 0 0,.int .i64 0,.bool false,.slice none 0 0,.int .i64 0,.int .i64 11,.int .i64 1,.int .i64 0,.bool false,.slice none 0 0,.int .i64 0,.bool false,.slice none 0 0,.int .i64 0,.int .i64 13,.int .i64 0,.int .i64 0,.bool false,.slice none 0 0,.int .i64 0,.bool false,.slice none 0 0,.int .i64 0,.int .i64 10,.int .i64 0,.int .i64 0,.bool false,.slice none 0 0,.int .i64 0,.bool false,.slice none 0 0,.int .i64 0,.int .i64 13,.int .i64 4,.int .i64 0,.bool false,.slice none 0 0,.int .i64 0,.bool false,.slice none 0 0,.int .i64 0,.int .i64 8,.int .i64 3,.int .i64 5,.bool false,.slice none 0 0,.int .i64 0,.bool false,.slice none 0 0,.int .i64 0] 52 rfl
 obtain ⟨p2,q2,x2⟩:=st _ _ #[.int .i64 0,.int .i64 2,.int .i64 6] 3 q1;obtain ⟨p3,q3,x3⟩:=st _ _ #[.slice (some ⟨w.heap.size,0,none⟩) 7 7,.slice (some ⟨w.heap.size+1,0,none⟩) 3 3] 25 q2;refine ⟨_,rfl,(x1.trans x2).trans x3,p3,⟨_,_,rfl,⟨_,_,rfl,Nat.le_refl _,fun _=>⟨w.heap.size,0,rfl,fun i l hi=>?_⟩⟩,⟨_,_,rfl,Nat.le_refl _,fun _=>⟨w.heap.size+1,0,rfl,fun i z hi=>?_⟩⟩⟩⟩
 ·have h:=Ao p1 (x2.trans x3);rcases i with _ | _ | _ | _ | _ | _ | _ | i
  ·cases hi;exact ⟨Ab h 0 _ rfl,Ab h 1 _ rfl,Ab h 2 _ rfl,_,_,_,_,_,_,Ab h 3 _ rfl,Ab h 4 _ rfl,Ab h 5 _ rfl,Ab h 6 _ rfl,Ab h 7 _ rfl,Ab h 8 _ rfl,Cr _⟩
  ·cases hi;exact ⟨Ab h 9 _ rfl,Ab h 10 _ rfl,Ab h 11 _ rfl,_,_,_,_,_,_,Ab h 12 _ rfl,Ab h 13 _ rfl,Ab h 14 _ rfl,Ab h 15 _ rfl,Ab h 16 _ rfl,Ab h 17 _ rfl,Cr _⟩
  ·cases hi;exact ⟨Ab h 18 _ rfl,Ab h 19 _ rfl,Ab h 20 _ rfl,_,_,_,_,_,_,Ab h 21 _ rfl,Ab h 22 _ rfl,Ab h 23 _ rfl,Ab h 24 _ rfl,Ab h 25 _ rfl,Ab h 26 _ rfl,Cr _⟩
  ·cases hi;exact ⟨Ab h 27 _ rfl,Ab h 28 _ rfl,Ab h 29 _ rfl,_,_,_,_,_,_,Ab h 30 _ rfl,Ab h 31 _ rfl,Ab h 32 _ rfl,Ab h 33 _ rfl,Ab h 34 _ rfl,Ab h 35 _ rfl,Cr _⟩
  ·cases hi;exact ⟨Ab h 36 _ rfl,Ab h 37 _ rfl,Ab h 38 _ rfl,_,_,_,_,_,_,Ab h 39 _ rfl,Ab h 40 _ rfl,Ab h 41 _ rfl,Ab h 42 _ rfl,Ab h 43 _ rfl,Ab h 44 _ rfl,Cr _⟩
  ·cases hi;exact ⟨Ab h 45 _ rfl,Ab h 46 _ rfl,Ab h 47 _ rfl,_,_,_,_,_,_,Ab h 48 _ rfl,Ab h 49 _ rfl,Ab h 50 _ rfl,Ab h 51 _ rfl,Ab h 52 _ rfl,Ab h 53 _ rfl,Cr _⟩
  ·cases hi;exact ⟨Ab h 54 _ rfl,Ab h 55 _ rfl,Ab h 56 _ rfl,_,_,_,_,_,_,Ab h 57 _ rfl,Ab h 58 _ rfl,Ab h 59 _ rfl,Ab h 60 _ rfl,Ab h 61 _ rfl,Ab h 62 _ rfl,Cr _⟩
  ·simp [tQ] at hi
 ·have h:=Ao p2 x3;rcases i with _ | _ | _ | i
  ·cases hi;exact Ab h 0 _ rfl
  ·cases hi;exact Ab h 1 _ rfl
  ·cases hi;exact Ab h 2 _ rfl
  ·simp at hi
theorem mk4 (w:World):(Instr.makeSlice 31 (.int .i64 4) (.int .i64 4)).run Tryz.prog w=.ok (.slice (some ⟨w.heap.size,0,none⟩) 4 4) (w.alloc (.cells #[.bool false,.slice none 0 0,.int .i64 0,.bool false,.slice none 0 0,.int .i64 0,.bool false,.slice none 0 0,.int .i64 0,.bool false,.slice none 0 0,.int .i64 0,.bool false,.slice none 0 0,.int .i64 0,.bool false,.slice none 0 0,.int .i64 0,.bool false,.slice none 0 0,.int .i64 0,.bool false,.slice none 0 0,.int .i64 0] 30)):=by
 kernel_rfl
theorem Apb (w:World):IvS (w.alloc (.cells #[.bool false,.slice none 0 0,.int .i64 0,.bool false,.slice none 0 0,.int .i64 0,.bool false,.slice none 0 0,.int .i64 0,.bool false,.slice none 0 0,.int .i64 0,.bool false,.slice none 0 0,.int .i64 0,.bool false,.slice none 0 0,.int .i64 0,.bool false,.slice none 0 0,.int .i64 0,.bool false,.slice none 0 0,.int .i64 0] 30)) (.slice (some ⟨w.heap.size,0,none⟩) 4 4) [rzI,rzI,rzI,rzI]:=by
 have h:=heap_alloc_new w (.cells #[.bool false,.slice none 0 0,.int .i64 0,.bool false,.slice none 0 0,.int .i64 0,.bool false,.slice none 0 0,.int .i64 0,.bool false,.slice none 0 0,.int .i64 0,.bool false,.slice none 0 0,.int .i64 0,.bool false,.slice none 0 0,.int .i64 0,.bool false,.slice none 0 0,.int .i64 0,.bool false,.slice none 0 0,.int .i64 0] 30);refine ⟨_,_,rfl,Nat.le_refl _,fun _=>⟨w.heap.size,0,rfl,fun i a hi=>?_⟩⟩;rcases i with _ | _ | _ | _ | i
 ·cases hi;exact ⟨_,_,_,_,_,_,Ab h 0 _ rfl,Ab h 1 _ rfl,Ab h 2 _ rfl,Ab h 3 _ rfl,Ab h 4 _ rfl,Ab h 5 _ rfl,Cr _⟩
 ·cases hi;exact ⟨_,_,_,_,_,_,Ab h 6 _ rfl,Ab h 7 _ rfl,Ab h 8 _ rfl,Ab h 9 _ rfl,Ab h 10 _ rfl,Ab h 11 _ rfl,Cr _⟩
 ·cases hi;exact ⟨_,_,_,_,_,_,Ab h 12 _ rfl,Ab h 13 _ rfl,Ab h 14 _ rfl,Ab h 15 _ rfl,Ab h 16 _ rfl,Ab h 17 _ rfl,Cr _⟩
 ·cases hi;exact ⟨_,_,_,_,_,_,Ab h 18 _ rfl,Ab h 19 _ rfl,Ab h 20 _ rfl,Ab h 21 _ rfl,Ab h 22 _ rfl,Ab h 23 _ rfl,Cr _⟩
 ·simp at hi
theorem Am5:Hm Op6 :=
 ⟨fun _ _ _ _ _ _ _=>Anq,fun _ _ _ _ _ _ _=>An1,fun _ _ _ _ _ _ _=>Anv,fun _ _ _ _ _ _ _=>Ans,fun _ _ _ _ _=>Anx,fun _ _ _ _ _=>Anz,fun _ _ _ _ _=>Alw⟩
theorem Amm {p:Nat}{a:Nat→Int}{t:List RawI}(p1:1≤p)(p2:p≤300)(ha:∀ i,(a i).natAbs≤16):∀ i l,tQ[i]?=some l→Uu true ovI p 3 t [Cm a] [] i l:=by
 have gx:GdR 3 [Cm a]:=by
  intro r hr;simp only [List.mem_cons,List.not_mem_nil,or_false] at hr;subst hr;exact ⟨(Ny ha).gd,Eu a⟩
 have V:=Ac1.1;have N:NxC ovI Op6:=Aj7 Am5 Ac1;intro i l hl;rcases i with _ | _ | _ | _ | _ | _ | _ | i
 ·cases hl;exact All rfl (j:=0) rfl (by simp) gx (by decide) p1 p2
 ·cases hl;exact Qj V N ⟨by decide,by decide⟩ (j:=0) (m:=0) rfl rfl (by decide) (by decide) (by decide) p1 p2
 ·cases hl;exact Qj V N ⟨by decide,by decide⟩ (j:=1) (m:=0) rfl rfl (by decide) (by decide) (by decide) p1 p2
 ·cases hl;exact Qj V N ⟨by decide,by decide⟩ (j:=0) (m:=0) rfl rfl (by decide) (by decide) (by decide) p1 p2
 ·cases hl;exact Qj V N ⟨by decide,by decide⟩ (j:=0) (m:=0) rfl rfl (by decide) (by decide) (by decide) p1 p2
 ·cases hl;exact Qj V N ⟨by decide,by decide⟩ (j:=4) (m:=0) rfl rfl (by decide) (by decide) (by decide) p1 p2
 ·cases hl;exact Qj V N ⟨by decide,by decide⟩ (j:=3) (m:=5) rfl rfl (by decide) (by decide) (by decide) p1 p2
 ·simp [tQ] at hl
theorem Agi {z e:Int}:((pt (dyz z e)).raw).lens 17592186044416:=E6 (Mb (He z e))
theorem Amn:Wj tQ:=by
 intro l hl;simp only [tQ,List.mem_cons,List.not_mem_nil,or_false] at hl;rcases hl with rfl | rfl | rfl | rfl | rfl | rfl | rfl<;>exact ⟨by decide,by decide,by show (0:Nat)≤17592186044416;decide,by show (0:Nat)≤17592186044416;decide⟩
theorem Ago (z e:Int):Hr (pt (dyz z e)).raw=true:=Dv (Mb (He z e))
theorem Amr:Pp tQ [0,2,6] 1 0 0=true:=by rfl
theorem Akm {p:Nat}{a:Nat→Int}(p1:20≤p)(p2:p≤60)(ha:∀ i,(a i).natAbs≤16)(ha0:8≤a 0) :
 ∃ r2 r6, Cf (eR a) (fun _ => 600) (fun _ => 600) r2 ∧ Cf (fun n => if n = 0 then 1 else 0) (fun _ => 600) (fun _ => 600) r6 ∧ r2.length = 4 ∧ r6.length = 4 ∧
   ∀ w vv vt vx,TpR w vv tQ [0,2,6]→IvS w vt [rzI,rzI,rzI,rzI]→Rws w vx [Cm a]→Tab w→Calls Tryz.prog 22 #[vv,vt,vx,.slice none 0 0,.int .i64 3,.int .i64 (p:Int)] w (Mf ⟨[Cm a,r2,r6],0⟩ w):=by
 obtain ⟨r2,r6,hs,c2,c6,l2,l6⟩:=Akt [rzI,rzI,rzI,rzI] p1 p2 ha ha0;refine ⟨r2,r6,c2,c6,l2,l6,fun w vv vt vx h1 h2 h3 hT=>?_⟩;have hz:rzI.lens 17592186044416:=⟨by show (0:Nat)≤17592186044416;decide,by show (0:Nat)≤17592186044416;decide⟩;have hmz:Hr rzI=true:=by rw [←Po];exact Dv Q9
 have hrow:(Cm a).all Hr=true:=by
  rw [List.all_eq_true];intro x hx;unfold Cm at hx;obtain ⟨i,-,rfl⟩:=List.mem_map.1 hx;exact Ago _ _
 have hlen:∀ x∈Cm a,x.lens 17592186044416:=fun x hx=>by
  unfold Cm at hx;obtain ⟨i,-,rfl⟩:=List.mem_map.1 hx;exact Agi
 exact Z8 (ov:=ovI) (k:=3) (tm:=true) h1 h2 h3 Amn (by decide) (by decide) (by
  intro n hn;simp only [List.mem_cons,List.not_mem_nil,or_false] at hn
  show 0≤n∧n<7
  omega)
  (by unfold Gc;simp only [Bool.and_eq_true,decide_eq_true_eq];omega) Amr (by simp [I6,hmz]) (by simp [I6,Eu,hrow]) ⟨by decide,fun x hx=>by
    simp only [List.mem_cons,List.not_mem_nil,or_false,or_self] at hx;subst hx;exact hz⟩ ⟨by simp,fun r hr=>by
    simp only [List.mem_cons,List.not_mem_nil,or_false] at hr;subst hr;exact ⟨by rw [Eu];decide,hlen⟩⟩ (Amm (by omega) (by omega) ha) hT hs
def Na (i:Nat):Dy:=if i=0 then one else dz
theorem Akf:one.raw=⟨false,[1],0⟩:=by
 show (⟨false,Aj 1,0⟩:Raw)=_
 rw [G4 1 (by decide) (by decide)]
theorem Ake:one.Ok:=by
 have:=He 1 0;rw [Ai1] at this;exact this
theorem Aig (i:Nat):(Na i).Ok:=by
 unfold Na;split
 ·exact Ake
 ·exact Kg
theorem Ak5 (i:Nat):(Na i).q=if i=0 then 1 else 0:=by
 unfold Na;split
 ·exact Rc
 ·exact Wy
theorem dup {A B G:Prop}(a:G→A)(b:G→B)(g:G):A∧B:=⟨a g,b g⟩
theorem Apa {a:Iv}{i:Nat}(h:In (if i=0 then 1 else 0) a):Uv a (Na i)=true:=by
 unfold Uv;rw [Ak5,decide_eq_true (Jc.2 h.1),decide_eq_true (Jc.2 h.2)];rfl
theorem Agd {w:World}{va:Value}{a:List Int}{p:Int}(ha:InS w va a)(hT:Tab w):Calls Tryz.prog 5 #[va,.int .i64 p] w (RetK (.bool true) w):=by
 have T:=hid hT;have HA:=hid ha;obtain ⟨A,ca,rfl,-,-⟩:=ha;obtain ⟨bits,hbits,b1,b2⟩:=Aoo p 20 41 (by decide) (by decide);have hb':wrap64 (20+wrap64 ((IntKind.u64.wrap p).tmod 41))=(bits:Int):=hbits;clear hT hbits;go_enter Tryz.func5,Tryz.ntmps5;by_cases ha4:(a.length:Int)<4
 ·go_wp2_with fail;refine (Ade Am5 ⟨by decide,by decide⟩ T.out).mono ?_;rintro e w1 ⟨rfl,q⟩;simp only [];go_wp2_with fail;go_ret;exact ⟨rfl,q⟩
 go_upto_region 4 with fail;rw [hb'];clear hb';have hmk:=mk1;obtain ⟨W,hW,kW,sW,bW⟩:=An3 w;have HW:=hid hW;have S0:=hid (RoS.first (fB a) kW bW);have SW:=hid sW;clear hW kW sW bW;go_upto_region 5 with fail;rw [←HW.out];clear HW hmk;have A4:=hid (show 4≤a.length by omega);clear ha4;generalize hbx:w.heap.size=bx at *;have HBX:=hid hbx;generalize hBB:W.heap.size=BB at *;clear hbx hBB;go_wp2_with fail
 go_loopw [7] (fun vi wr=>∃ i:Nat,i≤4∧vi=.int .i64 i∧RoS BB bx w (fB a) i wr) (fun vi _=>(4-intOf vi).toNat)
 case atStart=>exact ⟨0,by decide,rfl,S0.out⟩
 case round =>
  obtain ⟨i,hi,rfl,hst⟩:=hrel;have S1:=hid hst;clear hst S0;by_cases hi4:i<4
  ·obtain ⟨A',ca',e1,-,hA⟩:=HA.out;injection e1 with e1 e2 e3
   subst e1;obtain ⟨ba,oa,rfl,ha0⟩:=hA (by have:=A4.out;omega);obtain ⟨za,hza⟩:∃ z,a[i]?=some z:=⟨_,List.getElem?_eq_getElem (by have:=A4.out;omega)⟩;have cla:=(S1.out.k.cell (p:=⟨ba,oa+i,none⟩) (Aq (ha0 i za hza))).trans (ha0 i za hza);have CLA:=hid cla;obtain ⟨hk2,hk3,hk4⟩:=Agf za (m:=33) (c:=16) (by decide) (by decide) (by decide) (by decide);have FB0:=hid (show i=0→wrap64 (8+wrap64 ((IntKind.u64.wrap za).tmod 9))=fB a i by
    intro h0;subst h0;rw [(r9 za).1];unfold fB;rw [if_pos rfl,List.getD_eq_getElem?_getD,hza];rfl)
   have FB1:=hid (show i≠0→kzJ 33 16 za=fB a i by
    intro h0;unfold fB;rw [if_neg h0,List.getD_eq_getElem?_getD,hza];rfl)
   obtain ⟨dz',hdz⟩:∃ d,d=dyz (kzJ 33 16 za) (-3):=⟨_,rfl⟩;obtain ⟨dv,hdv⟩:∃ d,d=dyz (fB a i) (-3):=⟨_,rfl⟩;have OZ:=hid (fun w1 (k:Kept w w1)=>show Calls Tryz.prog 20 #[.int .i64 (kzJ 33 16 za),.int .i64 (-3)] w1 (RetE ⟨dz'.raw,0⟩ w1) by rw [hdz];exact Afv (by omega) (by decide) (by decide) (T.out.kept k));have OV:=hid (fun w1 (k:Kept w w1)=>show Calls Tryz.prog 20 #[.int .i64 (fB a i),.int .i64 (-3)] w1 (RetE ⟨dv.raw,0⟩ w1) by rw [hdv];exact Afv (by have:=Aoh a i;omega) (by decide) (by decide) (T.out.kept k));have DV:=hid hdv;have DZ:=hid (show i≠0→dz'=dv by intro h0;rw [hdz,hdv,FB1.out h0])
   have HI4:=hid hi4;have hia:i<a.length:=by have:=A4.out;omega
   clear hA ha0 hza hk3 hk4 hdz hdv e2 e3 FB1;go_wp2_with fail;rw [hk2];refine (OZ.out _ S1.out.k).mono ?_;rintro e w1 ⟨q1,u1,rfl,hd1⟩;obtain ⟨P1,l1,d1',rfl,hd1⟩:=Bg hd1;simp only [];obtain ⟨V1,hV1,kV1,hb1,lV1⟩:=Afj w1 (.bool dz'.neg) (.slice P1 l1 d1') (.int .i64 dz'.e);have HV:=hid hV1;have Q1:=hid (q1.trans kV1);have BZ:=hid hb1;have RZ:=hid (hd1.kept kV1);have N1:=hid (show wr.heap.size≤w1.heap.size from q1.size);have cla1:=(Q1.out.cell (p:=⟨ba,oa+i,none⟩) (Aq CLA.out)).trans CLA.out;clear hV1 hb1 hd1 q1 kV1 cla hk2 lV1;go_upto_region 9 with fail;rw [←HV.out];clear HV;generalize w1.heap.size=n1 at *
   go_upto_if 44 with fail
   go_cut [9] (fun t wx=>t=.int .i64 0∧Kept wr wx∧∃ P l c,Blk wx n1 (.bool dv.neg) (.slice P l c) (.int .i64 dv.e)∧DyR wx (.agg #[.bool dv.neg,.slice P l c,.int .i64 dv.e]) dv.raw)
   case first =>
    by_cases h0:i=0
    ·have fb:=FB0.out h0;subst h0;rw [Nat.add_zero] at cla1;go_wp2_with fail;refine (OV.out _ (S1.out.k.trans Q1.out)).mono ?_;rintro e w3 ⟨q3,u3,rfl,hd3⟩;obtain ⟨P3,l3,d3,rfl,hd3⟩:=Bg hd3;simp only [];have hz3:=BZ.out.kept q3;obtain ⟨-,a0,a1,a2,f0,f1,f2⟩:=hz3.facts
     have R:=hid (show Kept wr (dyW w3 n1 (.bool dv.neg) (.slice P3 l3 d3) (.int .i64 dv.e))∧∃ P l c,Blk (dyW w3 n1 (.bool dv.neg) (.slice P3 l3 d3) (.int .i64 dv.e)) n1 (.bool dv.neg) (.slice P l c) (.int .i64 dv.e)∧DyR (dyW w3 n1 (.bool dv.neg) (.slice P3 l3 d3) (.int .i64 dv.e)) (.agg #[.bool dv.neg,.slice P l c,.int .i64 dv.e]) dv.raw from
      ⟨Am (Q1.out.trans q3) N1.out,P3,l3,d3,hz3.laid _ _ _,hd3.dyW hz3 (Ag _) (Ae _ _ _) (Ah _) _ _ _⟩)
     clear hd3 hz3 q3;go_wp2_with fail
     go_meet
     exact ⟨rfl,R.out⟩
    ·have hdd:=DZ.out h0;rw [hdd] at BZ RZ;go_wp2_with fail
     go_meet
     exact ⟨rfl,Q1.out,P1,l1,d1',BZ.out,RZ.out⟩
   obtain ⟨rfl,kc,P3,l3,d3,hbv,hrv⟩:=hcut;have S2:=hid (S1.out.kept kc);obtain ⟨v0,xs0,hboxr,ho0r,hnil⟩:=S1.out.box;have NV:n1∉bx::Oy v0:=by
    have h1:=N1.out;have h3:=(Array.getElem?_eq_some_iff.1 hboxr).1;simp only [List.mem_cons,Tl,not_or];refine ⟨by omega,fun e=>?_⟩;have:=ho0r.blt _ e;omega
   have hbox:=Ao hboxr kc;have ho0:=ho0r.kept kc;have BVc:=hid hbv;have RVc:=hid hrv;clear kc hbv hrv S1 BZ RZ Q1 cla1 OZ OV DZ FB0 CLA hia hi4 hboxr ho0r;obtain ⟨A0,n0',c0',rfl⟩:SlC v0:=by
    obtain ⟨A9,c9,e9,-⟩:=ho0.ivS;exact ⟨_,_,_,e9⟩
   have G0:=hid (fun g hg=>ho0.base g hg);have HBOX:=hid hbox;have HO0:=hid ho0;have BLT:bx<BB:=by have:=SW.out;omega
   have SZ:=hid (show BB≤wc.heap.size by have:=S2.out.k.size;have:=(Array.getElem?_eq_some_iff.1 hbox).1;have:=SW.out;omega);have LN0:=hid (show Ro (fB a) i=[]→Value.slice A0 n0' c0'=.slice none 0 0 from fun e=>hnil (by have:=Zv (fB a) i;rw [e] at this;simpa using this.symm));have L9:=hid (show (Ro (fB a) i).length≤1000 by rw [Zv];have:=HI4.out;omega);have SN1:=hid (Aej (fB a) i);rw [←DV.out] at SN1;generalize hra:Ro (fB a) (i+1)=ra' at *;have HRA:=hid hra;clear hra;generalize Ro (fB a) i=ra at *;clear hbox ho0 hnil;go_wp2_with fail
   refine Re (m:=10) (E:=fun i=>i==7||i==9) (G:=fun L u w'=>RoG bx L u w') (J:=fun L w=>KB wc (bx::Oy (.slice A0 n0' c0')) w∧(fun L w'=>RoJ BB bx (.slice A0 n0' c0') ra xs0 (L 3) (L 7) (L 9) w') L w) (l:=[(vE (.slice (some ⟨bx,0,none⟩) 1 1)),(vE (.slice (some ⟨bx,0,none⟩) 1 1)),(vP bx 0),(vE (.slice A0 n0' c0')),(vE (.agg #[.bool dv.neg,.slice P3 l3 d3,.int .i64 dv.e])),(fun v wv=>IvR wv v ((pt dv).raw)),(fun v wv=>OneI wv v (pt dv).raw),(fun v wv=>∃ xs,OwnI wv BB v ra' xs),(vP bx 0),(fun v _=>True)])
    (by kernel_rfl) (fun i hE L u v w w' k h=>by exact RoG.keep hE k h) (by exact fun e=>(by cases e)) rfl (by kernel_rfl) (by kernel_rfl) (by kernel_rfl) ⟨mE,mE,mE,mE,mE,fun v w w' k h=>by first | exact h | exact h.kept k | exact ⟨h.1,h.2.kept k⟩,fun v w w' k h=>h.kept k,fun v w w' k h=>h.imp fun _ h=>h.kept k,mE,fun v w w' k h=>by first | exact h | exact h.kept k | exact ⟨h.1,h.2.kept k⟩,trivial⟩ ⟨(KB.refl _ _).drew,(by exact ⟨fun _=>HO0.out.kept (Below.refl _ _).drew,_,HBOX.out,⟨_,_,_,rfl⟩,fun _=>rfl,fun e=>(by cases e)⟩)⟩ (⟨
      (.inl ⟨rfl,fun LF aF wF F=>by
    have FK:KB wc (bx::Oy (.slice A0 n0' c0')) wF:=F.frame.1;have fj:=F.frame.2;refine ⟨fun wq kq=>⟨FK.step kq,by first | exact RoJ.kept kq fj | exact RoJ.seen kq fj⟩,?_⟩;have s6:=F.q 6 (.slice (some ⟨bx,0,none⟩) 1 1)
    exact sv rfl⟩),
     (.inl ⟨rfl,fun LF aF wF F=>by
    have FK:KB wc (bx::Oy (.slice A0 n0' c0')) wF:=F.frame.1;have fj:=F.frame.2;refine ⟨fun wq kq=>⟨FK.step kq,by first | exact RoJ.kept kq fj | exact RoJ.seen kq fj⟩,?_⟩;have s6:=F.q 6 (.slice (some ⟨bx,0,none⟩) 1 1)
    exact sv rfl⟩),
     (.inl ⟨rfl,fun LF aF wF F=>by
    have FK:KB wc (bx::Oy (.slice A0 n0' c0')) wF:=F.frame.1;have fj:=F.frame.2;refine ⟨fun wq kq=>⟨FK.step kq,by first | exact RoJ.kept kq fj | exact RoJ.seen kq fj⟩,?_⟩;have s60:=F.v 1 60
    exact sv rfl⟩),
     (.inl ⟨rfl,fun LF aF wF F=>by
    have FK:KB wc (bx::Oy (.slice A0 n0' c0')) wF:=F.frame.1;have fj:=F.frame.2;refine ⟨fun wq kq=>⟨FK.step kq,by first | exact RoJ.kept kq fj | exact RoJ.seen kq fj⟩,?_⟩;have s61:=F.v 2 61
    exact Ak (by simp [Region.wanted]) (by (have hq:=RoJ.at0 fj (.inl F.yet);go_simp)) rfl⟩),
     (.inl ⟨rfl,fun LF aF wF F=>by
    have FK:KB wc (bx::Oy (.slice A0 n0' c0')) wF:=F.frame.1;have fj:=F.frame.2;refine ⟨fun wq kq=>⟨FK.step kq,by first | exact RoJ.kept kq fj | exact RoJ.seen kq fj⟩,?_⟩;have s8:=F.q 8 (.pointer (some ⟨n1,0,none⟩));obtain ⟨c0,c1,c2⟩:=c3X BVc.out FK NV
    exact sv rfl⟩),
     (.inl ⟨rfl,fun LF aF wF F=>by
    have FK:KB wc (bx::Oy (.slice A0 n0' c0')) wF:=F.frame.1;have fj:=F.frame.2;refine ⟨fun wq kq=>⟨FK.step kq,by first | exact RoJ.kept kq fj | exact RoJ.seen kq fj⟩,?_⟩;have s63:=F.v 4 63
    exact Ar (by simp [Region.wanted]) (by go_simp) (Agc (RVc.out.kb FK)) (fun _ _ h=>RetI.good h) (fun _ _ h=>h)⟩),
     (.inl ⟨rfl,fun LF aF wF F=>by
    have FK:KB wc (bx::Oy (.slice A0 n0' c0')) wF:=F.frame.1;have fj:=F.frame.2;refine ⟨fun wq kq=>⟨FK.step kq,by first | exact RoJ.kept kq fj | exact RoJ.seen kq fj⟩,?_⟩;have s64:=F.p 5 64
    obtain ⟨A1,a1,e1,A2,a2,e2,ee,v1',v2'⟩:=Au s64;simp only [Array.getD_eq_getD_getElem?] at ee;exact sNa (Mx (r:=(pt dv).raw) ⟨_,_,_,_,_,_,rfl,v1',v2'⟩)⟩),
     (.inr fun LF uF aF wF F FV=>by
    have FK:KB wc (bx::Oy (.slice A0 n0' c0')) wF:=F.frame.1;have fj:=F.frame.2;have s62:=F.v 3 62;have s65:=F.p 6 65
    obtain ⟨b3,y0,y1,y2,y3,y4,y5,e3,hb3,hd3⟩:=s65;have how:=RoJ.own fj F.yet;obtain ⟨v',w',g',hrr,hoo,hgg,hsm,hob,hwh,hlt⟩:=Ait 31 how LN0.out L9.out (Nat.le_trans SZ.out FK.size) hb3 hd3;rw [←SN1.out] at hoo;exact O8 (by simp [Region.wanted]) (Qe (.tmp 62) (.tmp 65) _ rfl s62 e3 hrr) ⟨FK.grown hgg (fun g hg=>.inl (List.mem_cons_of_mem _ (Tl.2 hg))) how.blk,RoJ.app fj hsm⟩ (Jf _ ⟨.inr vS,.inr vS,.inr vS,.inr vS,.inr vS,.inr (fun u h=>by first | exact h.grown hgg how.blk | exact OneI.app h hgg how.blk hsm),.inr (fun u h=>by first | exact h.grown hgg how.blk | exact OneI.app h hgg how.blk hsm),.inl rfl,.inr vS,.inr (fun u h=>h),trivial⟩) ⟨_,hoo⟩ (RoG.put7 (RoJ.no9 fj F.yet))),
     (.inl ⟨rfl,fun LF aF wF F=>by
    have FK:KB wc (bx::Oy (.slice A0 n0' c0')) wF:=F.frame.1;have fj:=F.frame.2;refine ⟨fun wq kq=>⟨FK.step kq,by first | exact RoJ.kept kq fj | exact RoJ.seen kq fj⟩,?_⟩;have s59:=F.v 0 59
    exact sv rfl⟩),
     (.inr fun LF uF aF wF F FV=>by
    have FK:KB wc (bx::Oy (.slice A0 n0' c0')) wF:=F.frame.1;have fj:=F.frame.2;have s66:=F.p 7 66;have s67:=F.v 8 67
    obtain ⟨xs',ho8⟩:=s66;obtain ⟨A8,c8,e8,-⟩:=ho8.ivS;have e8s:=e8;simp only [Array.getD_eq_getD_getElem?] at e8;obtain ⟨c0,hbq,s0⟩:=RoJ.box fj;have cb:=Ab hbq 0 _ rfl;have fb:=Ap hbq 0;exact L4 (w':=wF.setCell ⟨bx,0,none⟩ (.slice A8 ra'.length c8)) (by simp [Region.wanted]) (by go_simp) ⟨FK.setCell (by simp) cb s0.nl _,RoJ.set fj (F.wait 3 (by kernel_rfl)) (F.wait 7 (by kernel_rfl)) ⟨_,_,_,rfl⟩⟩ (Jf _ ⟨.inr vS,.inr vS,.inr vS,.inr vS,.inr vS,.inr (fun u h=>by first | exact h.kb ((KB.refl wF [bx]).setCell (by simp) cb s0.nl _) | exact OneI.set1 h hbq s0.nl | exact h.imp fun _ h=>OwnI.set1 h BLT hbq s0.nl),.inr (fun u h=>by first | exact h.kb ((KB.refl wF [bx]).setCell (by simp) cb s0.nl _) | exact OneI.set1 h hbq s0.nl | exact h.imp fun _ h=>OwnI.set1 h BLT hbq s0.nl),.inr (fun u h=>by first | exact h.kb ((KB.refl wF [bx]).setCell (by simp) cb s0.nl _) | exact OneI.set1 h hbq s0.nl | exact h.imp fun _ h=>OwnI.set1 h BLT hbq s0.nl),.inr vS,.inl rfl,trivial⟩) trivial (RoG.put9 ((Aiv hbq (by simp) _).trans (congrArg some (e8s.symm.trans (FV.eq 7 66 (by kernel_rfl) rfl)))))),
     trivial⟩) ?_
   intro u w5 L1 hL j1 hu hg;unfold RoG at hg;have hg1:=hg;obtain ⟨q5,j1⟩:=j1;have p64:=hp hu 5;have p65:=hp hu 6;have p66:=hp hu 7;simp only [Av,An,if_true,Act.put,zlA,zlB,zlC,zlD,zlE,zlF,zlG,hv hu 0,hv hu 1,hv hu 2,hv hu 3,hv hu 4,hv hu 8];clear hu;generalize u 5=v64,u 6=v65,u 7=v66 at *;obtain ⟨c0,hbq,-⟩:=RoJ.box j1;have ec0:c0=v66:=by
    have h1:=Ab hbq 0 _ rfl;rw [hg1 (hL 9 (by decide))] at h1;exact (Option.some.inj h1).symm
   rw [ec0] at hbq;have XLE:∀ x∈(bx::Oy (.slice A0 n0' c0')),w.heap.size≤x:=by
    intro x hx;simp only [List.mem_cons,Tl] at hx;have h1:=HBX.out;rcases hx with hx | hx
    ·omega
    ·have:=G0.out _ hx;omega
   obtain ⟨xs5,ho5⟩:=(show ∃ xs,OwnI w5 BB v66 ra' xs from p66);have S5:=hid (show RoS BB bx w (fB a) (i+1) w5 from ⟨⟨v66,xs5,hbq,by rw [HRA.out];exact ho5,fun h=>by omega⟩,KB.kept S2.out.k q5 XLE⟩);clear hbq ec0 XLE ho5 p64 p65 p66 hg1 j1 q5 NV;go_wp2_with fail;go_roundw
   case rel=>exact ⟨i+1,HI4.out,by go_num,S5.out⟩
   case measure=>simp [intOf];have:=HI4.out;omega
  ·obtain rfl:i=4:=by omega
   have FBb:=hid (Aoh a);obtain ⟨r2,r6,q2,q6,l2,l6,hsv⟩:=Akm (p:=bits) (by omega) (by omega) FBb.out (Ao9 a);have SV:=hid hsv;have C2:=hid q2;have C6:=hid q6;have LL:=hid (And.intro l2 l6);have RX:=hid S1.out.rws4;have KX:=hid S1.out.k;clear hsv q2 q6 l2 l6 S1 SW;obtain ⟨V2,hV2,kV2,b2',htp⟩:=An5 wr;have HV:=hid hV2;have BT:=hid b2';have TP:=hid htp;have K3:=hid kV2;clear hV2 kV2 b2' htp;go_upto_region 15 with fail;rw [←HV.out];clear HV;generalize wr.heap.size+1+1=n3 at *;generalize wr.heap.size+1=n2 at *;generalize wr.heap.size=n1 at *;have hmk:=mk4
   refine rgL 10 ([(vE (.agg #[.slice (some ⟨n1,0,none⟩) 7 7,.slice (some ⟨n2,0,none⟩) 3 3])),(fun v wv=>IvS wv v [rzI,rzI,rzI,rzI]),(vE (.slice (some ⟨bx,0,none⟩) 1 1)),(vE (.int .i64 (bits:Int))),(fun v wv=>∃ vv,v=.tuple #[vv,.int .i64 0]∧Rws wv vv [Cm (fB a),r2,r6]),(fun v wv=>∃ vv,v=.tuple #[vv,.int .i64 0]∧Rws wv vv [Cm (fB a),r2,r6]),(fun v wv=>Rws wv v [Cm (fB a),r2,r6]),(vE (.int .i64 0)),(fun v wv=>Rws wv v [Cm (fB a),r2,r6]),(vE (.int .i64 0))])
    (hM:=⟨⟨mE,fun v w w' k h=>by first | exact h | exact h.kept k | exact ⟨h.1,h.2.kept k⟩,mE,mE,fun v w w' k h=>by obtain ⟨d,h1,h2⟩:=h;exact ⟨d,h1,h2.kept k⟩,fun v w w' k h=>by obtain ⟨d,h1,h2⟩:=h;exact ⟨d,h1,h2.kept k⟩,fun v w w' k h=>by first | exact h | exact h.kept k | exact ⟨h.1,h.2.kept k⟩,mE,fun v w w' k h=>by first | exact h | exact h.kept k | exact ⟨h.1,h.2.kept k⟩,mE,trivial⟩⟩) ⟨
      (fun aF wF F=>by have s10:=F.q 10 (.pointer (some ⟨n3,0,none⟩));have c0:=Ai BT.out F.kept 0 _ rfl;have c1:=Ai BT.out F.kept 1 _ rfl;exact sv rfl),(fun aF wF F=>by exact sNa (Apb _)),(gq 6),(gq 5),(fun aF wF F=>by have s79:=F.v 0 79;have s80:=F.p 1 80;have s81:=F.v 2 81;have s82:=F.v 3 82;exact Ar (by simp [Region.wanted]) (by go_simp) (SV.out _ _ _ _ (TP.out.kept F.kept) s80 (RX.out.kept (K3.out.trans F.kept)) (T.out.kept (KX.out.trans (K3.out.trans F.kept)))) (fun _ _ h=>by obtain ⟨k9,v9,e9,r9⟩:=h;exact ⟨_,e9,k9,v9,rfl,r9⟩) (fun _ _ h=>h)),(gm 4 83),(fun aF wF F=>by have s78:=F.p 5 78;obtain ⟨d,ee,h1⟩:=s78;exact sv h1),(fun aF wF F=>by have s78:=F.p 5 78;exact sw (by obtain ⟨d,ee,h1⟩:=s78;go_simp) rfl),(gm 6 84),(gv 7 85),
      trivial⟩ ?_
   intro u w3 q3 hu;have p80:=hp hu 1;have p83:=hp hu 4;have p78:=hp hu 5;have p84:=hp hu 6;have p11:=hp hu 8;simp only [Av,An,if_true,Act.put,zlA,zlB,zlC,zlD,zlE,zlF,zlG,hv hu 0,hv hu 2,hv hu 3,hv hu 7,hv hu 9];clear hu;generalize u 1=v80,u 4=v83,u 5=v78,u 6=v84,u 8=v11 at *;clear p78 p80 p83 p84 hmk;obtain ⟨b3,o3,c3,s0,rfl,-,-,-⟩:=p11.row (i:=0) (by simp);have ROW:∀ (j:Nat) (r:List RawI),[Cm (fB a),r2,r6][j]?=some r→Gd r→r.length=4→∃ br orr cr,w3.cell? ⟨b3,o3+j,none⟩=some (.slice (some ⟨br,orr,none⟩) 4 cr)∧∀ w1,Kept w3 w1→∀ i,i<4→IvAt w1 br (orr+i*6) (gI r i).raw:=by
    intro j r hj gr lr;have hlt:=(List.getElem?_eq_some_iff.1 hj).1;obtain ⟨b4,o4,c4,s4,e4,-,cell4,hs4⟩:=p11.row hlt;injection e4 with e4 e5 e6
    injection e4 with e4
    injection e4 with e7 e8
    subst e7;subst e8;rw [List.getD_eq_getElem?_getD,hj,Option.getD_some] at hs4;obtain ⟨br,orr,cr,rfl,-,hRG⟩:=hs4.place gr (by omega);rw [lr] at cell4;exact ⟨br,orr,cr,cell4,fun w1 k i hi=>hRG w1 k i (by omega)⟩
   have L5:=LL.out;have cE:=Ny FBb.out;obtain ⟨x0,y0,z0,e0,g0⟩:=ROW 0 (Cm (fB a)) rfl cE.gd (Eu _);obtain ⟨x1,y1,z1',e1,g1⟩:=ROW 1 r2 rfl C2.out.gd L5.1;obtain ⟨x2,y2,z2',e2,g2⟩:=ROW 2 r6 rfl C6.out.gd L5.2;rw [Nat.add_zero] at e0;have E0:=hid e0;have E1:=hid e1;have E2:=hid e2;have I0:=hid g0;have I1:=hid g1;have I2:=hid g2
   have M2:=hid (fun i (hi:i<4) w1 va vb (hv:IvR w1 va (gI (Cm (fB a)) i).raw) (hu:IvR w1 vb (gI r2 i).raw)=>show Calls Tryz.prog 23 #[va,vb] w1 (RetIE ⟨(Gl (gI (Cm (fB a)) i) (gI r2 i)).raw,0⟩ w1) from
    Amt hv hu (Hg cE.gd i) (Hg C2.out.gd i) (Ajq (Hg cE.gd i) (Hg C2.out.gd i) (cE i (by rw [Eu];exact hi)).2.2 (C2.out i (by have:=LL.out;omega)).2.2))
   have M3:=hid (fun i (hi:i<4) w1 va vb (hv:IvR w1 va (gI r6 i).raw) (hu:DyR w1 vb (Na i).raw)=>show Calls Tryz.prog 24 #[va,vb] w1 (RetK (.bool true) w1) by
    have h:=Acr hv hu (Hg C6.out.gd i) (Aig i);rwa [Apa (C6.out i (by have:=LL.out;omega)).2.2] at h)
   have K4:=hid (KX.out.trans (K3.out.trans q3));clear q3 TP BT SV RX K3 KX ROW L5 cE e0 e1 e2 g0 g1 g2 p11 C2 C6 LL FBb HA A4 HBX;generalize Cm (fB a)=rE at *;go_wp2_with fail
   go_loopw [13] (fun vi wr=>∃ i:Nat,i≤4∧vi=.int .i64 i∧Kept w3 wr) (fun vi _=>(4-intOf vi).toNat)
   case atStart=>exact ⟨0,by decide,rfl,Below.refl _ _⟩
   case round =>
    obtain ⟨i,hi,rfl,hkr⟩:=hrel;have KR:=hid hkr;clear hkr;by_cases hi4:i<4
    ·have HI:=hid hi4;obtain ⟨V4,hV4,kV4,hb4,-⟩:=Afj wr (.bool false) (.slice none 0 0) (.int .i64 0);have HV:=hid hV4;have B4:=hid hb4;have K5:=hid (KR.out.trans kV4);have N4:=hid KR.out.size;clear hV4 kV4 hb4;go_upto_region 22 with fail;rw [←HV.out];clear HV;generalize wr.heap.size=n14 at *
     go_upto_if 99 with fail
     go_cut [] (fun wx=>Kept w3 wx∧∃ P l c,Blk wx n14 (.bool false) (.slice P l c) (.int .i64 0)∧DyR wx (.agg #[.bool false,.slice P l c,.int .i64 0]) (Na i).raw)
     case first =>
      by_cases h0:i=0
      ·subst h0;have hk4:Kept V4 (V4.alloc (.cells #[.int .u64 1] 55)):=Ad _ _;have hlim:Lim (V4.alloc (.cells #[.int .u64 1] 55)) (.slice (some ⟨V4.heap.size,0,none⟩) 1 1) [1]:=Y5 (n:=1) (T:=55) (by decide) (heap_alloc_new _ _);have hz3:=B4.out.kept hk4;obtain ⟨-,a0,a1,a2,f0,f1,f2⟩:=hz3.facts;have hd:DyR (V4.alloc (.cells #[.int .u64 1] 55)) (.agg #[.bool false,.slice (some ⟨V4.heap.size,0,none⟩) 1 1,.int .i64 0]) (Na 0).raw:=by
        show DyR _ _ one.raw
        rw [Akf];exact ⟨_,rfl,hlim,by decide,by decide⟩
       have R:=hid (show Kept w3 (dyW (V4.alloc (.cells #[.int .u64 1] 55)) n14 (.bool false) (.slice (some ⟨V4.heap.size,0,none⟩) 1 1) (.int .i64 0))∧∃ P l c,Blk (dyW (V4.alloc (.cells #[.int .u64 1] 55)) n14 (.bool false) (.slice (some ⟨V4.heap.size,0,none⟩) 1 1) (.int .i64 0)) n14 (.bool false) (.slice P l c) (.int .i64 0)∧DyR (dyW (V4.alloc (.cells #[.int .u64 1] 55)) n14 (.bool false) (.slice (some ⟨V4.heap.size,0,none⟩) 1 1) (.int .i64 0)) (.agg #[.bool false,.slice P l c,.int .i64 0]) (Na 0).raw from
        ⟨Am (K5.out.trans hk4) N4.out,_,_,_,hz3.laid _ _ _,hd.dyW hz3 (Ag _) (Ae _ _ _) (Ah _) _ _ _⟩)
       clear hz3 hd hlim hk4 hi4;go_wp2_with fail
       go_meet
       exact R.out
      ·have R:=hid (show DyR V4 (.agg #[.bool false,.slice none 0 0,.int .i64 0]) (Na i).raw by
        unfold Na;rw [if_neg h0,E5];exact Ca _)
       go_wp2_with fail
       go_meet
       exact ⟨K5.out,_,_,_,B4.out,R.out⟩
     obtain ⟨kc,PW,lw,cw,hbw,hdw⟩:=hcut;have KC:=hid kc;have BW:=hid hbw;have DW:=hid hdw;have N9:=hid (show n14<wc.heap.size from hbw.facts.1);clear kc hbw hdw B4 K5 KR;have ce0:=Fu E0.out KC.out;have ce1:=Fu E1.out KC.out;have ce2:=Fu E2.out KC.out;go_upto_region 26 with fail;clear ce0 ce1 ce2
     refine Xn (e:=15) (m:=17) (V:=VL [(vE (.slice (some ⟨b3,o3,none⟩) 3 c3)),(vE (.pointer (some ⟨b3,o3,none⟩))),(vE (.slice (some ⟨x0,y0,none⟩) 4 z0)),(vE (.int .i64 (i:Int))),(vE (.pointer (some ⟨x0,y0+i*6,none⟩))),(fun v wv=>IvR wv v ((gI rE i).raw)),(vE (.slice (some ⟨b3,o3,none⟩) 3 c3)),(vE (.pointer (some ⟨b3,o3+1,none⟩))),(vE (.slice (some ⟨x1,y1,none⟩) 4 z1')),(vE (.int .i64 (i:Int))),(vE (.pointer (some ⟨x1,y1+i*6,none⟩))),(fun v wv=>IvR wv v ((gI r2 i).raw)),(fun v wv=>∃ d,v=.tuple #[d,.int .i64 (⟨(Gl (gI rE i) (gI r2 i)).raw,0⟩:Outc RawI).k]∧IvR wv d (⟨(Gl (gI rE i) (gI r2 i)).raw,0⟩:Outc RawI).v),(fun v wv=>∃ d,v=.tuple #[d,.int .i64 (⟨(Gl (gI rE i) (gI r2 i)).raw,0⟩:Outc RawI).k]∧IvR wv d (⟨(Gl (gI rE i) (gI r2 i)).raw,0⟩:Outc RawI).v),(fun v wv=>IvR wv v (⟨(Gl (gI rE i) (gI r2 i)).raw,0⟩:Outc RawI).v),(vE (.int .i64 (⟨(Gl (gI rE i) (gI r2 i)).raw,0⟩:Outc RawI).k)),(fun v wv=>∃ b,v=.pointer (some ⟨b,0,none⟩)∧wc.heap.size≤b∧BlkI wv b (.bool false) (.slice none 0 0) (.int .i64 0) (.bool false) (.slice none 0 0) (.int .i64 0))])
      (by kernel_rfl) rfl rfl rfl rfl rfl rfl rfl (by decide) (by kernel_rfl) (by kernel_rfl) (by kernel_rfl) (by kernel_rfl) (by kernel_rfl) (by kernel_rfl) (H8 _ ⟨mE,mE,mE,mE,mE,fun v w w' k h=>by first | exact h | exact h.kept k | exact ⟨h.1,h.2.kept k⟩,mE,mE,mE,mE,mE,fun v w w' k h=>by first | exact h | exact h.kept k | exact ⟨h.1,h.2.kept k⟩,fun v w w' k h=>by obtain ⟨d,h1,h2⟩:=h;exact ⟨d,h1,h2.kept k⟩,fun v w w' k h=>by obtain ⟨d,h1,h2⟩:=h;exact ⟨d,h1,h2.kept k⟩,fun v w w' k h=>by first | exact h | exact h.kept k | exact ⟨h.1,h.2.kept k⟩,mE,fun v w w' k h=>by obtain ⟨b,h1,h2,h3⟩:=h;exact ⟨b,h1,h2,h3.kept k⟩,trivial⟩) (Ju ⟨
        (fun aF wF F=>by have s11:=F.q 11 (.slice (some ⟨b3,o3,none⟩) 3 c3);exact sv rfl),(fun aF wF F=>by have s122:=F.v 0 122;exact sv rfl),(fun aF wF F=>by have s123:=F.v 1 123;exact sw (by (have n0:=Fu E0.out (KC.out.trans F.kept);go_simp)) rfl),(fun aF wF F=>by have s13:=F.q 13 (.int .i64 (i:Int));exact sv rfl),(fun aF wF F=>by have s124:=F.v 2 124;have s125:=F.v 3 125;exact sw (by (have hi9:=HI.out;first | (go_simp;done) | (go_simp;omega))) rfl),(fun aF wF F=>by have s126:=F.v 4 126;obtain ⟨xx,yy,zz,xx',yy',zz',h0,h1,h2,h3,h4,h5,hI⟩:=(I0.out _ (KC.out.trans F.kept) i HI.out);exact sv hI),(fun aF wF F=>by have s11:=F.q 11 (.slice (some ⟨b3,o3,none⟩) 3 c3);exact sv rfl),(fun aF wF F=>by have s128:=F.v 6 128;exact sv rfl),(fun aF wF F=>by have s129:=F.v 7 129;exact sw (by (have n0:=Fu E1.out (KC.out.trans F.kept);go_simp)) rfl),(fun aF wF F=>by have s13:=F.q 13 (.int .i64 (i:Int));exact sv rfl),(fun aF wF F=>by have s130:=F.v 8 130;have s131:=F.v 9 131;exact sw (by (have hi9:=HI.out;first | (go_simp;done) | (go_simp;omega))) rfl),(fun aF wF F=>by have s132:=F.v 10 132;obtain ⟨xx,yy,zz,xx',yy',zz',h0,h1,h2,h3,h4,h5,hI⟩:=(I1.out _ (KC.out.trans F.kept) i HI.out);exact sv hI),(fun aF wF F=>by have s127:=F.p 5 127;have s133:=F.p 11 133;exact sP (M2.out i HI.out _ _ _ s127 s133) fun _ _ h=>h),(fun aF wF F=>by have s134:=F.p 12 134;exact sx s134),(fun aF wF F=>by have s121:=F.p 13 121;obtain ⟨dd,ee,hh⟩:=s121;exact sv hh),(fun aF wF F=>by have s121:=F.p 13 121;exact sw (by obtain ⟨dd,ee,hh⟩:=s121;go_simp) rfl),(fun aF wF F=>by exact sN ⟨_,rfl,F.kept.size,Ek _⟩),
        trivial⟩) ?_
     intro u w5 q5 hu;have e122:u 0=(.slice (some ⟨b3,o3,none⟩) 3 c3):=hu 0 (by decide) (by decide);have e123:u 1=(.pointer (some ⟨b3,o3,none⟩)):=hu 1 (by decide) (by decide);have e124:u 2=(.slice (some ⟨x0,y0,none⟩) 4 z0):=hu 2 (by decide) (by decide);have e125:u 3=(.int .i64 (i:Int)):=hu 3 (by decide) (by decide);have e126:u 4=(.pointer (some ⟨x0,y0+i*6,none⟩)):=hu 4 (by decide) (by decide);have p127:=hu 5 (by decide) (by decide);obtain ⟨v127,e127⟩:∃ v,u 5=v:=⟨_,rfl⟩;rw [e127] at p127
     try simp only [VL,List.getD_cons_zero,List.getD_cons_succ] at p127
     have e128:u 6=(.slice (some ⟨b3,o3,none⟩) 3 c3):=hu 6 (by decide) (by decide);have e129:u 7=(.pointer (some ⟨b3,o3+1,none⟩)):=hu 7 (by decide) (by decide);have e130:u 8=(.slice (some ⟨x1,y1,none⟩) 4 z1'):=hu 8 (by decide) (by decide);have e131:u 9=(.int .i64 (i:Int)):=hu 9 (by decide) (by decide);have e132:u 10=(.pointer (some ⟨x1,y1+i*6,none⟩)):=hu 10 (by decide) (by decide);have p133:=hu 11 (by decide) (by decide);obtain ⟨v133,e133⟩:∃ v,u 11=v:=⟨_,rfl⟩;rw [e133] at p133
     try simp only [VL,List.getD_cons_zero,List.getD_cons_succ] at p133
     have p134:=hu 12 (by decide) (by decide);obtain ⟨v134,e134⟩:∃ v,u 12=v:=⟨_,rfl⟩;rw [e134] at p134
     try simp only [VL,List.getD_cons_zero,List.getD_cons_succ] at p134
     have p121:=hu 13 (by decide) (by decide);obtain ⟨v121,e121⟩:∃ v,u 13=v:=⟨_,rfl⟩;rw [e121] at p121
     try simp only [VL,List.getD_cons_zero,List.getD_cons_succ] at p121
     have p135:=hu 14 (by decide) (by decide);obtain ⟨v135,e135⟩:∃ v,u 14=v:=⟨_,rfl⟩;rw [e135] at p135
     try simp only [VL,List.getD_cons_zero,List.getD_cons_succ] at p135
     have p15:=hu 16 (by decide) (by decide);obtain ⟨v15,e15⟩:∃ v,u 16=v:=⟨_,rfl⟩;rw [e15] at p15
     try simp only [VL,List.getD_cons_zero,List.getD_cons_succ] at p15
     clear hu;obtain ⟨bn,rfl,hbn,hxn⟩:=p15;obtain ⟨Pn,tn,kn,Qn,un,ln,rfl,-,-⟩:=Au p135;obtain ⟨-,u0,u1,u2,u3,u4,u5⟩:=hxn.facts;obtain ⟨f0,f1,f2,f3,f4,f5⟩:=hxn.free;clear p127 p133 p134;obtain ⟨dd,rfl,-⟩:=p121;apply dup
     ·intro G he;simp only [VL,vE,List.getD_cons_zero,List.getD_cons_succ] at he;simp only [if_true,Av,An,Act.put,List.setIfInBounds_toArray,List.set_cons_zero,List.set_cons_succ,List.getElem?_toArray,List.getElem?_cons_zero,List.getElem?_cons_succ,Option.bind_some,e122,e123,e124,e125,e126,e127,e128,e129,e130,e131,e132,e133,e134,e121,e135,e15,he];go_simp;exact G
     ·intro G;simp only [Av,An,Act.put,List.setIfInBounds_toArray,List.set_cons_zero,List.set_cons_succ,List.getElem?_toArray,List.getElem?_cons_zero,List.getElem?_cons_succ,Option.bind_some,e122,e123,e124,e125,e126,e127,e128,e129,e130,e131,e132,e133,e134,e121,e135,e15];go_simp;exact G
     clear e122 e123 e124 e125 e126 e127 e128 e129 e130 e131 e132 e133 e134 e121 e135 e15;go_upto_region 27 with fail;change Code.wp _ _ _ _ (ivW w5 bn _ _ _ _ _ _);have szz:=KC.out.size;have nbn:bn≠n14:=by have:=N9.out;omega
     have K6:=hid (Az (x:=.bool (Gl (gI rE i) (gI r2 i)).raw.lo.neg) (y:=.slice Pn tn kn) (z:=.int .i64 (Gl (gI rE i) (gI r2 i)).raw.lo.e) (x':=.bool (Gl (gI rE i) (gI r2 i)).raw.hi.neg) (y':=.slice Qn un ln) (z':=.int .i64 (Gl (gI rE i) (gI r2 i)).raw.hi.e) q5 (show wc.heap.size≤bn by omega));clear hxn hbn szz q5 u0 u1 u2 u3 u4 u5 f0 f1 f2 f3 f4 f5 nbn;generalize ivW w5 bn (.bool (Gl (gI rE i) (gI r2 i)).raw.lo.neg) (.slice Pn tn kn) (.int .i64 (Gl (gI rE i) (gI r2 i)).raw.lo.e) (.bool (Gl (gI rE i) (gI r2 i)).raw.hi.neg) (.slice Qn un ln) (.int .i64 (Gl (gI rE i) (gI r2 i)).raw.hi.e)=Y6 at *
     replace BW:=hid (BW.out.kept K6.out);replace DW:=hid (DW.out.kept K6.out);replace KC:=hid (KC.out.trans K6.out);clear K6
     refine rgL 13 ([(vE (.int .i64 0)),(vE (.bool false)),(vE (.bool false)),(vE (.slice (some ⟨b3,o3,none⟩) 3 c3)),(vE (.pointer (some ⟨b3,o3+2,none⟩))),(vE (.slice (some ⟨x2,y2,none⟩) 4 z2')),(vE (.int .i64 (i:Int))),(vE (.pointer (some ⟨x2,y2+i*6,none⟩))),(fun v wv=>IvR wv v ((gI r6 i).raw)),(vE (.agg #[.bool false,.slice PW lw cw,.int .i64 0])),(vE (.bool true)),(vE (.bool false)),(vE (.bool false))])
      ⟨
       (gq 16),(gv 0 137),(gv 1 138),(fun aF wF F=>by have s11:=F.q 11 (.slice (some ⟨b3,o3,none⟩) 3 c3);have sg:=F.v 2 139;exact Ak ((Af rfl rfl sg).trans rfl) (by go_simp) rfl),(fun aF wF F=>by have s140:=F.v 3 140;have sg:=F.v 2 139;exact Ak ((Af rfl rfl sg).trans rfl) (by go_simp) rfl),(fun aF wF F=>by have s141:=F.v 4 141;have sg:=F.v 2 139;exact Ak ((Af rfl rfl sg).trans rfl) (by (have n0:=Fu E2.out (KC.out.trans F.kept);go_simp)) rfl),(fun aF wF F=>by have s13:=F.q 13 (.int .i64 (i:Int));have sg:=F.v 2 139;exact Ak ((Af rfl rfl sg).trans rfl) (by go_simp) rfl),(fun aF wF F=>by have s142:=F.v 5 142;have s143:=F.v 6 143;have sg:=F.v 2 139;exact Ak ((Af rfl rfl sg).trans rfl) (by (have hi9:=HI.out;first | (go_simp;done) | (go_simp;omega))) rfl),(fun aF wF F=>by have s144:=F.v 7 144;have sg:=F.v 2 139;obtain ⟨xx,yy,zz,xx',yy',zz',h0,h1,h2,h3,h4,h5,hI⟩:=(I2.out _ (KC.out.trans F.kept) i HI.out);exact Ak ((Af rfl rfl sg).trans rfl) (by go_simp) hI),(fun aF wF F=>by have s14:=F.q 14 (.pointer (some ⟨n14,0,none⟩));obtain ⟨c0,c1,c2⟩:=Go.Proofs.YtabjjdicffcolaaGreatDoor.c3 BW.out F.kept;have sg:=F.v 2 139;exact Ak ((Af rfl rfl sg).trans rfl) (by go_simp) rfl),(fun aF wF F=>by have s145:=F.p 8 145;have s146:=F.v 9 146;have sg:=F.v 2 139;exact Ar ((Af rfl rfl sg).trans rfl) (by go_simp) (M3.out i HI.out _ _ _ s145 (DW.out.kept F.kept)) (fun _ _ h=>RetK.good h) (fun _ _ h=>h)),(fun aF wF F=>by have s147:=F.v 10 147;have sg:=F.v 2 139;exact Ak ((Af rfl rfl sg).trans rfl) (by go_simp) rfl),(gvv 2 139 11 148),
       trivial⟩ ?_
     intro u w7 q7 hu;have p145:=hp hu 8;simp only [Av,An,if_true,Act.put,zlA,zlB,zlC,zlD,zlE,zlF,zlG,hv hu 0,hv hu 1,hv hu 2,hv hu 3,hv hu 4,hv hu 5,hv hu 6,hv hu 7,hv hu 9,hv hu 10,hv hu 11,hv hu 12];clear hu;generalize u 8=v145 at *;clear p145;have K8:=hid (KC.out.trans q7);clear q7 KC BW DW N9;go_wp2_with fail;go_roundw
     case rel =>
      (repeat apply Exists.intro)
      refine ⟨?_,rfl⟩;exact ⟨i+1,HI.out,by go_num,K8.out⟩
     case measure=>simp [intOf];have:=HI.out;omega
    ·obtain rfl:i=4:=by omega
     go_wp2_with fail;refine (Ade Am5 ⟨by decide,by decide⟩ (T.out.kept (K4.out.trans KR.out))).mono ?_;rintro e w14 ⟨rfl,q⟩;simp only [];go_wp2_with fail;go_ret;exact ⟨rfl,K4.out.trans (KR.out.trans q)⟩
end Go.Proofs.YtabjjdicffcolaaGreatDoor
