/- Words and contracts, part 13. -/
import Derived.Test.YtabjjdicffcolaaGreatDoorClaimJfrontp12
import Derived.Maps.OwnSet
set_option maxRecDepth 100000
set_option maxHeartbeats 0
namespace Go.Proofs.YtabjjdicffcolaaGreatDoor
open Go.RowKit
variable {cs cur:Array Value} {a:Iv} {l outs:List Int} {X Y:List Nat} {xs:List Value} {b base c' g' i l':Nat} {A A':Option Addr} {row:Option Nat} {r:Raw} {T:TypeId} {u x x' x0 x1 x2 x3 x4 x5 y y' z':Value} {W c w w':World}
def RawI.iv (a:RawI):Iv:=⟨a.lo.dy,a.hi.dy⟩
theorem F6 {a:RawI}(h1:Small a.lo.m)(h2:Small a.hi.m)(h:Dl a=true):a.iv.Ok/\a.iv.raw=a:=by
 unfold Dl at h;simp only [Bool.and_eq_true,decide_eq_true_eq] at h;obtain ⟨⟨m1,m2⟩,m3⟩:=h;obtain ⟨c1,d1⟩:=Kt h1 m1;obtain ⟨c2,d2⟩:=Kt h2 m2;exact ⟨⟨d1,d2,Mv.1 m3⟩,by unfold RawI.iv Iv.raw;simp only [c1,c2]⟩
theorem Iv.raw_iv (a:Iv):a.raw.iv=a:=by unfold Iv.raw RawI.iv;simp only [Dy.raw_dy]
theorem Pc {lo hi:Outc Dy}(h:(Gp lo hi).k≠0):(Gp lo hi).v=iz:=by
 unfold Gp Outc.bind at *;by_cases h1:lo.k=0
 ·simp only [Ak h1] at h ⊢;by_cases h2:hi.k=0
  ·simp only [Ak h2] at h;exact absurd rfl h
  ·simp only [Af h2]
 ·simp only [Af h1]
theorem O8 {α:Type}{o:Outc α}{f:α->Outc Iv}(hf:∀ x,(f x).k≠0->(f x).v=iz)(h:(o.bind iz f).k≠0):(o.bind iz f).v=iz:=by
 unfold Outc.bind at *;by_cases h1:o.k=0
 ·rw [Ak h1] at h ⊢;exact hf _ h
 ·rw [Af h1]
theorem Yn {a b c d:Outc Dy}{f:Dy->Dy->Dy->Dy->Outc Iv}(hf:∀ x y z u,(f x y z u).k≠0->(f x y z u).v=iz)(h:(Oa a b c d f).k≠0):(Oa a b c d f).v=iz:=by
 unfold Oa at *;exact O8 (λx=>O8 λy=>O8 λz=>O8 λu=>hf x y z u) h
theorem lK {b:Iv}{p:Nat}(h:(Gc a b p).k≠0):(Gc a b p).v=iz:=Pc h
theorem nU {b:Iv}{p:Nat}(h:(I8 a b p).k≠0):(I8 a b p).v=iz:=Pc h
theorem nh {p:Nat}(h:(Oi a p).k≠0):(Oi a p).v=iz:=Pc h
theorem mW {b:Iv}{p:Nat}(h:(Ew a b p).k≠0):(Ew a b p).v=iz:=Yn (λ_ _ _ _ h=>Pc h) h
theorem nS {p:Nat}(h:(Lb a p).k≠0):(Lb a p).v=iz:=O8 (λ_ h=>O8 (λ_ h=>Pc h) h) h
theorem kL {p:Nat}(h:(Gh a p).k≠0):(Gh a p).v=iz:=by
 unfold Gh at *;by_cases hs:sg a.lo<0
 ·rw [Ak hs]
 ·rw [Af hs] at h ⊢;exact Pc h
theorem mf {b:Iv}{p:Nat}(h:(Cm a b p).k≠0):(Cm a b p).v=iz:=by
 unfold Cm at *;by_cases hs:D4 b=true
 ·rw [Ak hs]
 ·rw [Af hs] at h ⊢;exact Yn (λ_ _ _ _ h=>Yn (λ_ _ _ _ h=>absurd rfl h) h) h
theorem Nf {o:Outc Iv}(h:o.k≠0->o.v=iz):(Bn o).k≠0->(Bn o).v=rzI:=λhk=>by
 show o.v.raw=rzI
 rw [h hk,R5]
theorem U1 (w:World)(o:Obj)(n:Nat)(h:w.heap.size=n):(w.alloc o).heap[n]?=some o:=by subst h;exact heap_alloc_new _ _
theorem Qy (w:World)(n:Nat)(x y z x' y' z':Value)(h:w.heap.size=n):BlkI (w.alloc (.cells #[x,y,z,x',y',z'] 30)) n x y z x' y' z':=U1 w _ n h
theorem Tf (w:World)(x0 x1 x2 x3 x4 x5 y0 y1 y2 y3 y4 y5 p:Value):∃ W,W=((((w.alloc (.cells #[x0,x1,x2,x3,x4,x5] 30)).alloc (.cells #[y0,y1,y2,y3,y4,y5] 30)).alloc (.cells #[p] 3)).alloc (.cells #[.bool false,.slice none 0 0,.int .i64 0,.bool false,.slice none 0 0,.int .i64 0] 30)).alloc (.cells #[x0,x1,x2,x3,x4,x5,y0,y1,y2,y3,y4,y5] 30) /\
 Kept w W/\BlkI W w.heap.size x0 x1 x2 x3 x4 x5/\BlkI W (w.heap.size+1) y0 y1 y2 y3 y4 y5/\W.cell? ⟨w.heap.size+1+1,0,none⟩=some p/\BlkI W (w.heap.size+1+1+1) (.bool false) (.slice none 0 0) (.int .i64 0) (.bool false) (.slice none 0 0) (.int .i64 0) /\
 W.heap[w.heap.size+1+1+1+1]?=some (.cells #[x0,x1,x2,x3,x4,x5,y0,y1,y2,y3,y4,y5] 30 (0,0)):=by
 refine ⟨_,rfl,((((Ab _ _).trans (Ab _ _)).trans (Ab _ _)).trans (Ab _ _)).trans (Ab _ _),?_,?_,?_,?_,U1 _ _ _ (by simp)⟩
 ·exact ((((Qy w _ _ _ _ _ _ _ rfl).kept (Ab _ _)).kept (Ab _ _)).kept (Ab _ _)).kept (Ab _ _)
 ·exact (((Qy _ _ _ _ _ _ _ _ (by simp)).kept (Ab _ _)).kept (Ab _ _)).kept (Ab _ _)
 ·exact An (Ab _ _) (An (Ab _ _) (Ae (U1 _ _ _ (by simp)) 0 _ rfl))
 ·exact (Qy _ _ _ _ _ _ _ _ (by simp)).kept (Ab _ _)
theorem X8 (w:World)(x0 x1 x2 x3 x4 x5 p:Value):∃ W,W=(((w.alloc (.cells #[x0,x1,x2,x3,x4,x5] 30)).alloc (.cells #[p] 3)).alloc (.cells #[.bool false,.slice none 0 0,.int .i64 0,.bool false,.slice none 0 0,.int .i64 0] 30)).alloc (.cells #[x0,x1,x2,x3,x4,x5] 30) /\
 Kept w W/\BlkI W w.heap.size x0 x1 x2 x3 x4 x5/\W.cell? ⟨w.heap.size+1,0,none⟩=some p/\BlkI W (w.heap.size+1+1) (.bool false) (.slice none 0 0) (.int .i64 0) (.bool false) (.slice none 0 0) (.int .i64 0) /\
 W.heap[w.heap.size+1+1+1]?=some (.cells #[x0,x1,x2,x3,x4,x5] 30 (0,0)):=by
 refine ⟨_,rfl,(((Ab _ _).trans (Ab _ _)).trans (Ab _ _)).trans (Ab _ _),?_,?_,?_,U1 _ _ _ (by simp)⟩
 ·exact (((Qy w _ _ _ _ _ _ _ rfl).kept (Ab _ _)).kept (Ab _ _)).kept (Ab _ _)
 ·exact An (Ab _ _) (An (Ab _ _) (Ae (U1 _ _ _ (by simp)) 0 _ rfl))
 ·exact (Qy _ _ _ _ _ _ _ _ (by simp)).kept (Ab _ _)
theorem mC {a:RawI}(h:w.heap[b]?=some (.cells #[x0,x1,x2,x3,x4,x5] T (0,0)))(h1:IvR w (.agg #[x0,x1,x2,x3,x4,x5]) a) :
 IvS w (.slice (some ⟨b,0,none⟩) 1 1) [a]:=by
 refine ⟨_,_,rfl,Aq _,λ_=>⟨b,0,rfl,λi d hi=>?_⟩⟩;rcases i with _ | i
 ·simp at hi;subst hi;exact ⟨_,_,_,_,_,_,Ae h 0 _ rfl,Ae h 1 _ rfl,Ae h 2 _ rfl,Ae h 3 _ rfl,Ae h 4 _ rfl,Ae h 5 _ rfl,h1⟩
 ·simp at hi
theorem mF {a a':RawI}{y0 y1 y2 y3 y4 y5:Value}(h:w.heap[b]?=some (.cells #[x0,x1,x2,x3,x4,x5,y0,y1,y2,y3,y4,y5] T (0,0)))(h1:IvR w (.agg #[x0,x1,x2,x3,x4,x5]) a)(h2:IvR w (.agg #[y0,y1,y2,y3,y4,y5]) a') :
 IvS w (.slice (some ⟨b,0,none⟩) 2 2) [a,a']:=by
 refine ⟨_,_,rfl,Aq _,λ_=>⟨b,0,rfl,λi d hi=>?_⟩⟩;rcases i with _ | _ | i
 ·simp at hi;subst hi;exact ⟨_,_,_,_,_,_,Ae h 0 _ rfl,Ae h 1 _ rfl,Ae h 2 _ rfl,Ae h 3 _ rfl,Ae h 4 _ rfl,Ae h 5 _ rfl,h1⟩
 ·simp at hi;subst hi;exact ⟨_,_,_,_,_,_,Ae h 6 _ rfl,Ae h 7 _ rfl,Ae h 8 _ rfl,Ae h 9 _ rfl,Ae h 10 _ rfl,Ae h 11 _ rfl,h2⟩
 ·simp at hi
theorem Gm {a:RawI}{l c:Nat}(hr:a.iv.raw=a)(h:BlkI w b (.bool a.lo.neg) (.slice A l c) (.int .i64 a.lo.e) (.bool a.hi.neg) (.slice A' l' c') (.int .i64 a.hi.e))
 (h1:DyR w (.agg #[.bool a.lo.neg,.slice A l c,.int .i64 a.lo.e]) a.lo) (h2:DyR w (.agg #[.bool a.hi.neg,.slice A' l' c',.int .i64 a.hi.e]) a.hi):BlkIv w b a.iv:=by
 have e1:a.iv.lo.raw=a.lo:=congrArg RawI.lo hr;have e2:a.iv.hi.raw=a.hi:=congrArg RawI.hi hr;exact ⟨A,l,c,A',l',c',h,by rw [e1];exact h1,by rw [e2];exact h2⟩
theorem DyR.small {v:Value}(h:DyR w v r):Small r.m:=by
 obtain ⟨s,_,hs,_⟩:=h;exact hs.1
theorem qM {v:Value}{a b:RawI}{p:Int}(hv:IvR w v a)(hu:IvR w u b)(la:a.lens 17592186044416)(lb:b.lens 17592186044416)(hT:Tab w) :
 Calls Tryz.prog 96 #[v,u,.int .i64 p] w (RetIE (Fs p [a,b] (Bn (Gc a.iv b.iv p.toNat))) w):=by
 have hmf:=Hf;obtain ⟨A,l,c,A',l',c',rfl,h1,h2⟩:=Ar hv;obtain ⟨B,j,e,B',j',e',rfl,g1,g2⟩:=Ar hu;obtain ⟨W,hW,kW,BA,BB,cp,BR,BL⟩:=Tf w (.bool a.lo.neg) (.slice A l c) (.int .i64 a.lo.e) (.bool a.hi.neg) (.slice A' l' c') (.int .i64 a.hi.e) (.bool b.lo.neg) (.slice B j e) (.int .i64 b.lo.e) (.bool b.hi.neg) (.slice B' j' e') (.int .i64 b.hi.e) (.int .i64 p)
 have hf:=M0 (w:=W) (K:=132) (cap:=#[.pointer (some ⟨w.heap.size,0,none⟩),.pointer (some ⟨w.heap.size+1,0,none⟩),.pointer (some ⟨w.heap.size+1+1,0,none⟩)]) (p:=p) (l:=[a,b]) (o:=Bn (Gc a.iv b.iv p.toNat))
  (mF BL ⟨_,_,_,_,_,_,rfl,h1.kept kW,h2.kept kW⟩ ⟨_,_,_,_,_,_,rfl,g1.kept kW,g2.kept kW⟩)
  (by intro x hx;simp only [List.mem_cons,List.not_mem_nil,or_false] at hx;rcases hx with rfl | rfl;exact la;exact lb) (by simp)
  (λp1 p2 hall w1 k=>by
    simp only [List.all_cons,List.all_nil,Bool.and_true,Bool.and_eq_true] at hall;obtain ⟨oa,ra⟩:=F6 h1.small h2.small hall.1;obtain ⟨ob,rb⟩:=F6 g1.small g2.small hall.2;have hp:((p.toNat:Nat):Int)=p:=Int.toNat_of_nonneg (by omega);exact pd (p:=p.toNat) oa ob (hT.kept (kW.trans k)) (by omega) (by omega) (Gm ra (BA.kept k) (h1.kept (kW.trans k)) (h2.kept (kW.trans k))) (Gm rb (BB.kept k) (g1.kept (kW.trans k)) (g2.kept (kW.trans k))) (by rw [hp];exact An k cp))
  (Nf lK) (λ_=>rfl)
 generalize Fs p [a,b] (Bn (Gc a.iv b.iv p.toNat))=o at *;have HF:=Ad hf;have HW:=Ad hW;have HK:=Ad kW;have HR:=Ad BR;clear hf hW kW BA BB BR BL cp h1 h2 g1 g2 hv hu la lb hT;generalize a.lo.neg=n1,a.lo.e=e1,a.hi.neg=n2,a.hi.e=e2,b.lo.neg=n3,b.lo.e=e3,b.hi.neg=n4,b.hi.e=e4 at *;go_enter Tryz.func96,Tryz.ntmps96
 go_wp2_with (go_at_call 124;rw [<-HW.o];refine HF.o.mono ?_;rintro e w1 ⟨q,u,rfl,hd⟩;obtain ⟨A1,j1,k1',A2,j2,k2',rfl,z1,z2⟩:=Ar hd;have Z1:=Ad z1;have Z2:=Ad z2;have hb2:=HR.o.kept q;obtain ⟨hsz,c0,c1,c2,c3,c4,c5⟩:=hb2.facts;obtain ⟨f0,f1,f2,f3,f4,f5⟩:=hb2.free;have HRR:=Ad hb2;clear hd hb2 z1 z2)
 exact Cx (HRR.o.laid _ _ _ _ _ _) rfl rfl rfl ⟨Az (HK.o.trans q) (by omega),_,rfl,_,_,_,_,_,_,rfl,Z1.o.ivW HRR.o _ _ _ _ _ _,Z2.o.ivW HRR.o _ _ _ _ _ _⟩
theorem rc {v:Value}{a b:RawI}{p:Int}(hv:IvR w v a)(hu:IvR w u b)(la:a.lens 17592186044416)(lb:b.lens 17592186044416)(hT:Tab w) :
 Calls Tryz.prog 97 #[v,u,.int .i64 p] w (RetIE (Fs p [a,b] (Bn (I8 a.iv b.iv p.toNat))) w):=by
 have hmf:=Hf;obtain ⟨A,l,c,A',l',c',rfl,h1,h2⟩:=Ar hv;obtain ⟨B,j,e,B',j',e',rfl,g1,g2⟩:=Ar hu;obtain ⟨W,hW,kW,BA,BB,cp,BR,BL⟩:=Tf w (.bool a.lo.neg) (.slice A l c) (.int .i64 a.lo.e) (.bool a.hi.neg) (.slice A' l' c') (.int .i64 a.hi.e) (.bool b.lo.neg) (.slice B j e) (.int .i64 b.lo.e) (.bool b.hi.neg) (.slice B' j' e') (.int .i64 b.hi.e) (.int .i64 p)
 have hf:=M0 (w:=W) (K:=134) (cap:=#[.pointer (some ⟨w.heap.size,0,none⟩),.pointer (some ⟨w.heap.size+1,0,none⟩),.pointer (some ⟨w.heap.size+1+1,0,none⟩)]) (p:=p) (l:=[a,b]) (o:=Bn (I8 a.iv b.iv p.toNat))
  (mF BL ⟨_,_,_,_,_,_,rfl,h1.kept kW,h2.kept kW⟩ ⟨_,_,_,_,_,_,rfl,g1.kept kW,g2.kept kW⟩)
  (by intro x hx;simp only [List.mem_cons,List.not_mem_nil,or_false] at hx;rcases hx with rfl | rfl;exact la;exact lb) (by simp)
  (λp1 p2 hall w1 k=>by
    simp only [List.all_cons,List.all_nil,Bool.and_true,Bool.and_eq_true] at hall;obtain ⟨oa,ra⟩:=F6 h1.small h2.small hall.1;obtain ⟨ob,rb⟩:=F6 g1.small g2.small hall.2;have hp:((p.toNat:Nat):Int)=p:=Int.toNat_of_nonneg (by omega);exact mB (p:=p.toNat) oa ob (hT.kept (kW.trans k)) (by omega) (by omega) (Gm ra (BA.kept k) (h1.kept (kW.trans k)) (h2.kept (kW.trans k))) (Gm rb (BB.kept k) (g1.kept (kW.trans k)) (g2.kept (kW.trans k))) (by rw [hp];exact An k cp))
  (Nf nU) (λ_=>rfl)
 generalize Fs p [a,b] (Bn (I8 a.iv b.iv p.toNat))=o at *;have HF:=Ad hf;have HW:=Ad hW;have HK:=Ad kW;have HR:=Ad BR;clear hf hW kW BA BB BR BL cp h1 h2 g1 g2 hv hu la lb hT;generalize a.lo.neg=n1,a.lo.e=e1,a.hi.neg=n2,a.hi.e=e2,b.lo.neg=n3,b.lo.e=e3,b.hi.neg=n4,b.hi.e=e4 at *;go_enter Tryz.func97,Tryz.ntmps97
 go_wp2_with (go_at_call 124;rw [<-HW.o];refine HF.o.mono ?_;rintro e w1 ⟨q,u,rfl,hd⟩;obtain ⟨A1,j1,k1',A2,j2,k2',rfl,z1,z2⟩:=Ar hd;have Z1:=Ad z1;have Z2:=Ad z2;have hb2:=HR.o.kept q;obtain ⟨hsz,c0,c1,c2,c3,c4,c5⟩:=hb2.facts;obtain ⟨f0,f1,f2,f3,f4,f5⟩:=hb2.free;have HRR:=Ad hb2;clear hd hb2 z1 z2)
 exact Cx (HRR.o.laid _ _ _ _ _ _) rfl rfl rfl ⟨Az (HK.o.trans q) (by omega),_,rfl,_,_,_,_,_,_,rfl,Z1.o.ivW HRR.o _ _ _ _ _ _,Z2.o.ivW HRR.o _ _ _ _ _ _⟩
theorem qS {v:Value}{a b:RawI}{p:Int}(hv:IvR w v a)(hu:IvR w u b)(la:a.lens 17592186044416)(lb:b.lens 17592186044416)(hT:Tab w) :
 Calls Tryz.prog 98 #[v,u,.int .i64 p] w (RetIE (Fs p [a,b] (Bn (Ew a.iv b.iv p.toNat))) w):=by
 have hmf:=Hf;obtain ⟨A,l,c,A',l',c',rfl,h1,h2⟩:=Ar hv;obtain ⟨B,j,e,B',j',e',rfl,g1,g2⟩:=Ar hu;obtain ⟨W,hW,kW,BA,BB,cp,BR,BL⟩:=Tf w (.bool a.lo.neg) (.slice A l c) (.int .i64 a.lo.e) (.bool a.hi.neg) (.slice A' l' c') (.int .i64 a.hi.e) (.bool b.lo.neg) (.slice B j e) (.int .i64 b.lo.e) (.bool b.hi.neg) (.slice B' j' e') (.int .i64 b.hi.e) (.int .i64 p)
 have hf:=M0 (w:=W) (K:=136) (cap:=#[.pointer (some ⟨w.heap.size,0,none⟩),.pointer (some ⟨w.heap.size+1,0,none⟩),.pointer (some ⟨w.heap.size+1+1,0,none⟩)]) (p:=p) (l:=[a,b]) (o:=Bn (Ew a.iv b.iv p.toNat))
  (mF BL ⟨_,_,_,_,_,_,rfl,h1.kept kW,h2.kept kW⟩ ⟨_,_,_,_,_,_,rfl,g1.kept kW,g2.kept kW⟩)
  (by intro x hx;simp only [List.mem_cons,List.not_mem_nil,or_false] at hx;rcases hx with rfl | rfl;exact la;exact lb) (by simp)
  (λp1 p2 hall w1 k=>by
    simp only [List.all_cons,List.all_nil,Bool.and_true,Bool.and_eq_true] at hall;obtain ⟨oa,ra⟩:=F6 h1.small h2.small hall.1;obtain ⟨ob,rb⟩:=F6 g1.small g2.small hall.2;have hp:((p.toNat:Nat):Int)=p:=Int.toNat_of_nonneg (by omega);exact lN (p:=p.toNat) oa ob (hT.kept (kW.trans k)) (by omega) (by omega) (Gm ra (BA.kept k) (h1.kept (kW.trans k)) (h2.kept (kW.trans k))) (Gm rb (BB.kept k) (g1.kept (kW.trans k)) (g2.kept (kW.trans k))) (by rw [hp];exact An k cp))
  (Nf mW) (λ_=>rfl)
 generalize Fs p [a,b] (Bn (Ew a.iv b.iv p.toNat))=o at *;have HF:=Ad hf;have HW:=Ad hW;have HK:=Ad kW;have HR:=Ad BR;clear hf hW kW BA BB BR BL cp h1 h2 g1 g2 hv hu la lb hT;generalize a.lo.neg=n1,a.lo.e=e1,a.hi.neg=n2,a.hi.e=e2,b.lo.neg=n3,b.lo.e=e3,b.hi.neg=n4,b.hi.e=e4 at *;go_enter Tryz.func98,Tryz.ntmps98
 go_wp2_with (go_at_call 124;rw [<-HW.o];refine HF.o.mono ?_;rintro e w1 ⟨q,u,rfl,hd⟩;obtain ⟨A1,j1,k1',A2,j2,k2',rfl,z1,z2⟩:=Ar hd;have Z1:=Ad z1;have Z2:=Ad z2;have hb2:=HR.o.kept q;obtain ⟨hsz,c0,c1,c2,c3,c4,c5⟩:=hb2.facts;obtain ⟨f0,f1,f2,f3,f4,f5⟩:=hb2.free;have HRR:=Ad hb2;clear hd hb2 z1 z2)
 exact Cx (HRR.o.laid _ _ _ _ _ _) rfl rfl rfl ⟨Az (HK.o.trans q) (by omega),_,rfl,_,_,_,_,_,_,rfl,Z1.o.ivW HRR.o _ _ _ _ _ _,Z2.o.ivW HRR.o _ _ _ _ _ _⟩
theorem qO {v:Value}{a b:RawI}{p:Int}(hv:IvR w v a)(hu:IvR w u b)(la:a.lens 17592186044416)(lb:b.lens 17592186044416)(hT:Tab w) :
 Calls Tryz.prog 94 #[v,u,.int .i64 p] w (RetIE (Fs p [a,b] (Bn (Cm a.iv b.iv p.toNat))) w):=by
 have hmf:=Hf;obtain ⟨A,l,c,A',l',c',rfl,h1,h2⟩:=Ar hv;obtain ⟨B,j,e,B',j',e',rfl,g1,g2⟩:=Ar hu;obtain ⟨W,hW,kW,BA,BB,cp,BR,BL⟩:=Tf w (.bool a.lo.neg) (.slice A l c) (.int .i64 a.lo.e) (.bool a.hi.neg) (.slice A' l' c') (.int .i64 a.hi.e) (.bool b.lo.neg) (.slice B j e) (.int .i64 b.lo.e) (.bool b.hi.neg) (.slice B' j' e') (.int .i64 b.hi.e) (.int .i64 p)
 have hf:=M0 (w:=W) (K:=125) (cap:=#[.pointer (some ⟨w.heap.size+1,0,none⟩),.pointer (some ⟨w.heap.size,0,none⟩),.pointer (some ⟨w.heap.size+1+1,0,none⟩)]) (p:=p) (l:=[a,b]) (o:=Bn (Cm a.iv b.iv p.toNat))
  (mF BL ⟨_,_,_,_,_,_,rfl,h1.kept kW,h2.kept kW⟩ ⟨_,_,_,_,_,_,rfl,g1.kept kW,g2.kept kW⟩)
  (by intro x hx;simp only [List.mem_cons,List.not_mem_nil,or_false] at hx;rcases hx with rfl | rfl;exact la;exact lb) (by simp)
  (λp1 p2 hall w1 k=>by
    simp only [List.all_cons,List.all_nil,Bool.and_true,Bool.and_eq_true] at hall;obtain ⟨oa,ra⟩:=F6 h1.small h2.small hall.1;obtain ⟨ob,rb⟩:=F6 g1.small g2.small hall.2;have hp:((p.toNat:Nat):Int)=p:=Int.toNat_of_nonneg (by omega);exact lM (p:=p.toNat) oa ob (hT.kept (kW.trans k)) (by omega) (by omega) (Gm ra (BA.kept k) (h1.kept (kW.trans k)) (h2.kept (kW.trans k))) (Gm rb (BB.kept k) (g1.kept (kW.trans k)) (g2.kept (kW.trans k))) (by rw [hp];exact An k cp))
  (Nf mf) (λ_=>rfl)
 generalize Fs p [a,b] (Bn (Cm a.iv b.iv p.toNat))=o at *;have HF:=Ad hf;have HW:=Ad hW;have HK:=Ad kW;have HR:=Ad BR;clear hf hW kW BA BB BR BL cp h1 h2 g1 g2 hv hu la lb hT;generalize a.lo.neg=n1,a.lo.e=e1,a.hi.neg=n2,a.hi.e=e2,b.lo.neg=n3,b.lo.e=e3,b.hi.neg=n4,b.hi.e=e4 at *;go_enter Tryz.func94,Tryz.ntmps94
 go_wp2_with (go_at_call 124;rw [<-HW.o];refine HF.o.mono ?_;rintro e w1 ⟨q,u,rfl,hd⟩;obtain ⟨A1,j1,k1',A2,j2,k2',rfl,z1,z2⟩:=Ar hd;have Z1:=Ad z1;have Z2:=Ad z2;have hb2:=HR.o.kept q;obtain ⟨hsz,c0,c1,c2,c3,c4,c5⟩:=hb2.facts;obtain ⟨f0,f1,f2,f3,f4,f5⟩:=hb2.free;have HRR:=Ad hb2;clear hd hb2 z1 z2)
 exact Cx (HRR.o.laid _ _ _ _ _ _) rfl rfl rfl ⟨Az (HK.o.trans q) (by omega),_,rfl,_,_,_,_,_,_,rfl,Z1.o.ivW HRR.o _ _ _ _ _ _,Z2.o.ivW HRR.o _ _ _ _ _ _⟩
theorem qU {v:Value}{a:RawI}{p:Int}(hv:IvR w v a)(la:a.lens 17592186044416)(hT:Tab w) :
 Calls Tryz.prog 99 #[v,.int .i64 p] w (RetIE (Fs p [a] (Bn (Oi a.iv p.toNat))) w):=by
 have hmf:=Hf;obtain ⟨A,l,c,A',l',c',rfl,h1,h2⟩:=Ar hv;obtain ⟨W,hW,kW,BA,cp,BR,BL⟩:=X8 w (.bool a.lo.neg) (.slice A l c) (.int .i64 a.lo.e) (.bool a.hi.neg) (.slice A' l' c') (.int .i64 a.hi.e) (.int .i64 p)
 have hf:=M0 (w:=W) (K:=138) (cap:=#[.pointer (some ⟨w.heap.size,0,none⟩),.pointer (some ⟨w.heap.size+1,0,none⟩)]) (p:=p) (l:=[a]) (o:=Bn (Oi a.iv p.toNat))
  (mC BL ⟨_,_,_,_,_,_,rfl,h1.kept kW,h2.kept kW⟩)
  (by intro x hx;simp only [List.mem_cons,List.not_mem_nil,or_false] at hx;subst hx;exact la) (by simp)
  (λp1 p2 hall w1 k=>by
    simp only [List.all_cons,List.all_nil,Bool.and_true] at hall;obtain ⟨oa,ra⟩:=F6 h1.small h2.small hall;have hp:((p.toNat:Nat):Int)=p:=Int.toNat_of_nonneg (by omega);exact pZ (p:=p.toNat) oa (hT.kept (kW.trans k)) (by omega) (by omega) (Gm ra (BA.kept k) (h1.kept (kW.trans k)) (h2.kept (kW.trans k))) (by rw [hp];exact An k cp))
  (Nf nh) (λ_=>rfl)
 generalize Fs p [a] (Bn (Oi a.iv p.toNat))=o at *;have HF:=Ad hf;have HW:=Ad hW;have HK:=Ad kW;have HR:=Ad BR;clear hf hW kW BA BR BL cp h1 h2 hv la hT;generalize a.lo.neg=n1,a.lo.e=e1,a.hi.neg=n2,a.hi.e=e2 at *;go_enter Tryz.func99,Tryz.ntmps99
 go_wp2_with (go_at_call 124;rw [<-HW.o];refine HF.o.mono ?_;rintro e w1 ⟨q,u,rfl,hd⟩;obtain ⟨A1,j1,k1',A2,j2,k2',rfl,z1,z2⟩:=Ar hd;have Z1:=Ad z1;have Z2:=Ad z2;have hb2:=HR.o.kept q;obtain ⟨hsz,c0,c1,c2,c3,c4,c5⟩:=hb2.facts;obtain ⟨f0,f1,f2,f3,f4,f5⟩:=hb2.free;have HRR:=Ad hb2;clear hd hb2 z1 z2)
 exact Cx (HRR.o.laid _ _ _ _ _ _) rfl rfl rfl ⟨Az (HK.o.trans q) (by omega),_,rfl,_,_,_,_,_,_,rfl,Z1.o.ivW HRR.o _ _ _ _ _ _,Z2.o.ivW HRR.o _ _ _ _ _ _⟩
theorem qW {v:Value}{a:RawI}{p:Int}(hv:IvR w v a)(la:a.lens 17592186044416)(hT:Tab w) :
 Calls Tryz.prog 100 #[v,.int .i64 p] w (RetIE (Fs p [a] (Bn (Lb a.iv p.toNat))) w):=by
 have hmf:=Hf;obtain ⟨A,l,c,A',l',c',rfl,h1,h2⟩:=Ar hv;obtain ⟨W,hW,kW,BA,cp,BR,BL⟩:=X8 w (.bool a.lo.neg) (.slice A l c) (.int .i64 a.lo.e) (.bool a.hi.neg) (.slice A' l' c') (.int .i64 a.hi.e) (.int .i64 p)
 have hf:=M0 (w:=W) (K:=140) (cap:=#[.pointer (some ⟨w.heap.size,0,none⟩),.pointer (some ⟨w.heap.size+1,0,none⟩)]) (p:=p) (l:=[a]) (o:=Bn (Lb a.iv p.toNat))
  (mC BL ⟨_,_,_,_,_,_,rfl,h1.kept kW,h2.kept kW⟩)
  (by intro x hx;simp only [List.mem_cons,List.not_mem_nil,or_false] at hx;subst hx;exact la) (by simp)
  (λp1 p2 hall w1 k=>by
    simp only [List.all_cons,List.all_nil,Bool.and_true] at hall;obtain ⟨oa,ra⟩:=F6 h1.small h2.small hall;have hp:((p.toNat:Nat):Int)=p:=Int.toNat_of_nonneg (by omega);exact qB (p:=p.toNat) oa (hT.kept (kW.trans k)) (by omega) (by omega) (Gm ra (BA.kept k) (h1.kept (kW.trans k)) (h2.kept (kW.trans k))) (by rw [hp];exact An k cp))
  (Nf nS) (λ_=>rfl)
 generalize Fs p [a] (Bn (Lb a.iv p.toNat))=o at *;have HF:=Ad hf;have HW:=Ad hW;have HK:=Ad kW;have HR:=Ad BR;clear hf hW kW BA BR BL cp h1 h2 hv la hT;generalize a.lo.neg=n1,a.lo.e=e1,a.hi.neg=n2,a.hi.e=e2 at *;go_enter Tryz.func100,Tryz.ntmps100
 go_wp2_with (go_at_call 124;rw [<-HW.o];refine HF.o.mono ?_;rintro e w1 ⟨q,u,rfl,hd⟩;obtain ⟨A1,j1,k1',A2,j2,k2',rfl,z1,z2⟩:=Ar hd;have Z1:=Ad z1;have Z2:=Ad z2;have hb2:=HR.o.kept q;obtain ⟨hsz,c0,c1,c2,c3,c4,c5⟩:=hb2.facts;obtain ⟨f0,f1,f2,f3,f4,f5⟩:=hb2.free;have HRR:=Ad hb2;clear hd hb2 z1 z2)
 exact Cx (HRR.o.laid _ _ _ _ _ _) rfl rfl rfl ⟨Az (HK.o.trans q) (by omega),_,rfl,_,_,_,_,_,_,rfl,Z1.o.ivW HRR.o _ _ _ _ _ _,Z2.o.ivW HRR.o _ _ _ _ _ _⟩
theorem oY {v:Value}{a:RawI}{p:Int}(hv:IvR w v a)(la:a.lens 17592186044416)(hT:Tab w) :
 Calls Tryz.prog 101 #[v,.int .i64 p] w (RetIE (Fs p [a] (Bn (Gh a.iv p.toNat))) w):=by
 have hmf:=Hf;obtain ⟨A,l,c,A',l',c',rfl,h1,h2⟩:=Ar hv;obtain ⟨W,hW,kW,BA,cp,BR,BL⟩:=X8 w (.bool a.lo.neg) (.slice A l c) (.int .i64 a.lo.e) (.bool a.hi.neg) (.slice A' l' c') (.int .i64 a.hi.e) (.int .i64 p)
 have hf:=M0 (w:=W) (K:=141) (cap:=#[.pointer (some ⟨w.heap.size,0,none⟩),.pointer (some ⟨w.heap.size+1,0,none⟩)]) (p:=p) (l:=[a]) (o:=Bn (Gh a.iv p.toNat))
  (mC BL ⟨_,_,_,_,_,_,rfl,h1.kept kW,h2.kept kW⟩)
  (by intro x hx;simp only [List.mem_cons,List.not_mem_nil,or_false] at hx;subst hx;exact la) (by simp)
  (λp1 p2 hall w1 k=>by
    simp only [List.all_cons,List.all_nil,Bool.and_true] at hall;obtain ⟨oa,ra⟩:=F6 h1.small h2.small hall;have hp:((p.toNat:Nat):Int)=p:=Int.toNat_of_nonneg (by omega);exact nT (p:=p.toNat) oa (hT.kept (kW.trans k)) (by omega) (by omega) (Gm ra (BA.kept k) (h1.kept (kW.trans k)) (h2.kept (kW.trans k))) (by rw [hp];exact An k cp))
  (Nf kL) (λ_=>rfl)
 generalize Fs p [a] (Bn (Gh a.iv p.toNat))=o at *;have HF:=Ad hf;have HW:=Ad hW;have HK:=Ad kW;have HR:=Ad BR;clear hf hW kW BA BR BL cp h1 h2 hv la hT;generalize a.lo.neg=n1,a.lo.e=e1,a.hi.neg=n2,a.hi.e=e2 at *;go_enter Tryz.func101,Tryz.ntmps101
 go_wp2_with (go_at_call 124;rw [<-HW.o];refine HF.o.mono ?_;rintro e w1 ⟨q,u,rfl,hd⟩;obtain ⟨A1,j1,k1',A2,j2,k2',rfl,z1,z2⟩:=Ar hd;have Z1:=Ad z1;have Z2:=Ad z2;have hb2:=HR.o.kept q;obtain ⟨hsz,c0,c1,c2,c3,c4,c5⟩:=hb2.facts;obtain ⟨f0,f1,f2,f3,f4,f5⟩:=hb2.free;have HRR:=Ad hb2;clear hd hb2 z1 z2)
 exact Cx (HRR.o.laid _ _ _ _ _ _) rfl rfl rfl ⟨Az (HK.o.trans q) (by omega),_,rfl,_,_,_,_,_,_,rfl,Z1.o.ivW HRR.o _ _ _ _ _ _,Z2.o.ivW HRR.o _ _ _ _ _ _⟩
structure Ln where
 op:Int
 a:Int
 b:Int
 k:RawI
structure En where
 t:RawI
 x:List RawI
 u:List RawI
 p:List RawI
def Nd (op:Int):Int :=
 if op=1\/op=2\/op=3\/op=4\/op=5 then 0 else if op=6\/op=7\/op=8\/op=9 then 2 else if op=10\/op=11\/op=12\/op=13 then 1 else -1
def Cr (n most:Int):Bool:=decide (0<=n)&&decide (n<most)
def bk (a b:RawI):Bool:=Mk a.lo b.lo&&Mk a.hi b.hi
def Ix (l:Ln) (at':Int) (x u p:Int):Bool :=
 if l.op=1 then Dl l.k&&(decide (l.a=0)&&decide (l.b=0)) else
 if bk l.k rzI=false then false else
 if l.op=2 then decide (l.a=0)&&decide (l.b=0) else
 if l.op=3 then Cr l.a x&&decide (l.b=0) else
 if l.op=4 then Cr l.a u&&decide (l.b=0) else
 if l.op=5 then Cr l.a p&&decide (l.b=0) else
 if l.op=6\/l.op=7\/l.op=8\/l.op=9 then Cr l.a at'&&Cr l.b at' else
 if l.op=10\/l.op=11\/l.op=12\/l.op=13 then Cr l.a at'&&decide (l.b=0) else false
def Me (x u p:Int):Nat->List Ln->Bool
 | _,[]=>true
 | i,l::ls=>Ix l i x u p&&Me x u p (i+1) ls
def Iy (ls:List Ln) (outs:List Int) (x u p:Int):Bool :=
 decide (ls.length<=200)&&decide (outs.length<=200)&&Me x u p 0 ls&&outs.all λn=>Cr n ls.length
def Uw (e:En):Bool:=Dl e.t&&e.x.all Dl&&e.u.all Dl&&e.p.all Dl
def Bk (a:Iv) (p:Nat):Outc Iv:=Gp (Dj a.lo p false) (Dj a.hi p true)
def Ip (ov:Iv->Nat->Outc Iv) (op:Int) (a b:Iv) (p:Nat):Outc Iv :=
 if op=6 then Gc a b p else if op=7 then I8 a b p else if op=8 then Ew a b p else if op=9 then Cm a b p else
 if op=10 then Oi a p else if op=11 then Lb a p else if op=12 then Gh a p else ov a p
def ce (l:List RawI) (n:Int):Iv:=(l.getD n.toNat rzI).iv
def Dm (ov:Iv->Nat->Outc Iv) (e:En) (p:Nat) (out:List RawI) (l:Ln):Outc Iv :=
 if l.op=1 then Bk l.k.iv p else if l.op=2 then Bk e.t.iv p else if l.op=3 then Bk (ce e.x l.a) p else
 if l.op=4 then Bk (ce e.u l.a) p else if l.op=5 then Bk (ce e.p l.a) p else Ip ov l.op (ce out l.a) (ce out l.b) p
def Ec (ov:Iv->Nat->Outc Iv) (e:En) (p:Nat):List RawI->List Ln->Outc (List RawI)
 | out,[]=>⟨out,0⟩
 | out,l::ls=>if (Dm ov e p out l).k=0 then Ec ov e p (out++[(Dm ov e p out l).v.raw]) ls else ⟨[],(Dm ov e p out l).k⟩
def Lu (ov:Iv->Nat->Outc Iv) (ls:List Ln) (outs:List Int) (e:En) (p:Int):Outc (List RawI) :=
 if 1<=p/\p<=300/\Iy ls outs e.x.length e.u.length e.p.length=true/\Uw e=true then Ec ov e p.toNat [] ls else ⟨[],1⟩
def eR (ov:Iv->Nat->Outc Iv) (ls:List Ln) (outs:List Int) (e:En) (p:Int):Outc (List RawI) :=
 if (Lu ov ls outs e p).k=0 then ⟨outs.map λn=>(Lu ov ls outs e p).v.getD n.toNat rzI,0⟩ else ⟨[],(Lu ov ls outs e p).k⟩
theorem D8 (ha:a.Ok){p:Nat}(hp:1<=p):We (Bk a p):=by
 unfold Bk;refine L7 (Ia _ _ _) (Ia _ _ _) λk1 k2=>?_
 have d1:=(Fi hp k1).le;have d2:=(Ib hp k2).le;have:=ha.le;grind
def Cl (l:List RawI):Prop:=∀ a∈l,a.iv.Ok/\a.iv.raw=a
theorem pD (h:a.Ok):a.raw.iv.Ok/\a.raw.iv.raw=a.raw:=by rw [Iv.raw_iv];exact ⟨h,rfl⟩
theorem Cl.snoc {l:List RawI}(h:Cl l)(ha:a.Ok):Cl (l++[a.raw]):=by
 intro x hx;rcases List.mem_append.1 hx with hx | hx
 ·exact h x hx
 ·simp at hx;subst hx;exact pD ha
structure En.Cl (e:En):Prop where
 t:e.t.iv.Ok/\e.t.iv.raw=e.t
 x:Go.Proofs.YtabjjdicffcolaaGreatDoor.Cl e.x
 u:Go.Proofs.YtabjjdicffcolaaGreatDoor.Cl e.u
 p:Go.Proofs.YtabjjdicffcolaaGreatDoor.Cl e.p
theorem nF {ov:Iv->Nat->Outc Iv}{op:Int}{b:Iv}(ha:a.Ok)(hb:b.Ok){p:Nat}(hp:1<=p)(hov:¬(6<=op/\op<=12)->We (ov a p)):We (Ip ov op a b p):=by
 unfold Ip;split
 ·exact J9 ha hb hp
 split
 ·exact Rm ha hb hp
 split
 ·exact Ll hp
 split
 ·exact Kd hb hp
 split
 ·exact Y2 ha hp
 split
 ·exact Zd hp
 split
 ·exact Vn ha hp
 ·exact hov (by omega)
def LnAt (w:World) (b o:Nat) (l:Ln):Prop:=w.cell? ⟨b,o,none⟩=some (.int .i64 l.op)/\w.cell? ⟨b,o+1,none⟩=some (.int .i64 l.a)/\w.cell? ⟨b,o+2,none⟩=some (.int .i64 l.b)/\IvAt w b (o+3) l.k
def LnS (w:World) (v:Value) (ls:List Ln):Prop:=∃ A c,v=.slice A ls.length c/\ls.length<=c/\(0<ls.length->∃ b off,A=some ⟨b,off,none⟩/\∀ i l,ls[i]?=some l->LnAt w b (off+i*9) l)
def InS (w:World) (v:Value) (ns:List Int):Prop:=∃ A c,v=.slice A ns.length c/\ns.length<=c/\(0<ns.length->∃ b off,A=some ⟨b,off,none⟩/\∀ i n,ns[i]?=some n->w.cell? ⟨b,off+i,none⟩=some (.int .i64 n))
theorem LnAt.kept {o:Nat}{l:Ln}(h:LnAt w b o l)(k:Kept w w'):LnAt w' b o l:=by
 obtain ⟨h0,h1,h2,h3⟩:=h;have hb:=Av h0;exact ⟨(k.cell (p:=⟨b,o,none⟩) hb).trans h0,(k.cell (p:=⟨b,o+1,none⟩) hb).trans h1,(k.cell (p:=⟨b,o+2,none⟩) hb).trans h2,h3.kept k⟩
theorem LnS.kept {v:Value}{l:List Ln}(h:LnS w v l)(k:Kept w w'):LnS w' v l:=by
 obtain ⟨A,c,rfl,hc,hA⟩:=h;refine ⟨A,c,rfl,hc,λh0=>?_⟩;obtain ⟨b,off,rfl,hd⟩:=hA h0;exact ⟨b,off,rfl,λi d hi=>(hd i d hi).kept k⟩
theorem InS.kept {v:Value}(h:InS w v l)(k:Kept w w'):InS w' v l:=by
 obtain ⟨A,c,rfl,hc,hA⟩:=h;refine ⟨A,c,rfl,hc,λh0=>?_⟩;obtain ⟨b,off,rfl,hd⟩:=hA h0;exact ⟨b,off,rfl,λi d hi=>(k.cell (p:=⟨b,off+i,none⟩) (Av (hd i d hi))).trans (hd i d hi)⟩
def TpR (w:World) (v:Value) (ls:List Ln) (outs:List Int):Prop:=∃ s o,v=.agg #[s,o]/\LnS w s ls/\InS w o outs
def EnR (w:World) (v:Value) (e:En):Prop:=∃ x y z x' y' z' sx su sp,v=.agg #[x,y,z,x',y',z',sx,su,sp]/\IvR w (.agg #[x,y,z,x',y',z']) e.t/\IvS w sx e.x/\IvS w su e.u/\IvS w sp e.p
theorem TpR.kept {v:Value}{ls:List Ln}(h:TpR w v ls outs)(k:Kept w w'):TpR w' v ls outs:=by
 obtain ⟨s,o,rfl,h1,h2⟩:=h;exact ⟨s,o,rfl,h1.kept k,h2.kept k⟩
theorem EnR.kept {v:Value}{e:En}(h:EnR w v e)(k:Kept w w'):EnR w' v e:=by
 obtain ⟨x,y,z,x',y',z',sx,su,sp,rfl,h1,h2,h3,h4⟩:=h;exact ⟨x,y,z,x',y',z',sx,su,sp,rfl,h1.kept k,h2.kept k,h3.kept k,h4.kept k⟩
theorem IvR.cells {z:Value}{a:RawI}(h:IvR w (.agg #[x,y,z,x',y',z']) a):∀ u∈[x,y,z,x',y',z'],Bv u/\u.oneCell'=true:=by
 obtain ⟨A,l,c,A',l',c',e,-,-⟩:=Ar h;injection e with e;injection e with e
 simp only [List.cons.injEq,and_true] at e;obtain ⟨rfl,rfl,rfl,rfl,rfl,rfl⟩:=e;intro u hu;simp at hu;rcases hu with rfl | rfl | rfl | rfl | rfl | rfl
 ·exact ⟨Ah _,rfl⟩
 ·exact ⟨Ag _ _ _,rfl⟩
 ·exact ⟨Aj _,rfl⟩
 ·exact ⟨Ah _,rfl⟩
 ·exact ⟨Ag _ _ _,rfl⟩
 ·exact ⟨Aj _,rfl⟩
theorem IvR.grown {v:Value}{a:RawI}(h:IvR w v a)(hg:w.grownBy w' row)(hN:∀ g,row=some g->Ws w g):IvR w' v a:=by
 obtain ⟨x,y,z,x',y',z',rfl,h1,h2⟩:=h;exact ⟨x,y,z,x',y',z',rfl,h1.grown hg hN,h2.grown hg hN⟩
structure OwnI (w:World) (base:Nat) (v:Value) (l:List RawI) (xs:List Value):Prop where
 row:w.ownsRow base 30 6 v l.length xs
 nl:∀ u∈xs,Bv u
 one:∀ u∈xs,u.oneCell'=true
 blk:∀ g,v.ownBlock=some g->Ws w g
 ivs:∀ i a,l[i]?=some a->∃ x y z x' y' z',xs[i*6]?=some x/\xs[i*6+1]?=some y/\xs[i*6+2]?=some z/\xs[i*6+3]?=some x'/\xs[i*6+4]?=some y'/\xs[i*6+5]?=some z'/\IvR w (.agg #[x,y,z,x',y',z']) a
theorem OwnI.nil (w:World)(base:Nat):OwnI w base (.slice none 0 0) [] [] :=
 ⟨World.ownsRow_nil _ _ _ _,by simp,by simp,(by intro g h;simp [Value.ownBlock] at h),by simp⟩
theorem OwnI.kept {v:Value}{l:List RawI}(h:OwnI w base v l xs)(k:Kept w w'):OwnI w' base v l xs:=by
 obtain ⟨h1,h2,h2',h3,h4⟩:=h;refine ⟨⟨h1.1,?_⟩,h2,h2',?_,?_⟩
 ·rcases h1.2 with hn | ⟨g,cap,cur,rfl,hb,hg,rest⟩
  ·exact .inl hn
  ·exact .inr ⟨g,cap,cur,rfl,hb,(k.block g (Bi hg).1).trans hg,rest⟩
 ·intro g hg;have:=h3 g hg;obtain ⟨cur,e,q1,q2⟩:=this;exact ⟨cur,e,(k.block g (Bi q1).1).trans q1,q2⟩
 ·intro i d hi;obtain ⟨x,y,z,x',y',z',a0,a1,a2,a3,a4,a5,hd⟩:=h4 i d hi;exact ⟨x,y,z,x',y',z',a0,a1,a2,a3,a4,a5,hd.kept k⟩
theorem OwnI.ivS {v:Value}{l:List RawI}(h:OwnI w base v l xs):IvS w v l:=by
 obtain ⟨h1,h2,h2',h3,h4⟩:=h;have hc:=h1.2;rcases hc with ⟨rfl,h0⟩ | ⟨g,cap,cur,rfl,hb,hg,hn,-⟩
 ·obtain rfl:l=[]:=G9 h0;exact ⟨none,0,rfl,Aq _,λh=>absurd h (by simp)⟩
 ·refine ⟨_,cap,rfl,hn,fun _=>⟨g,0,rfl,fun i d hi=>?_⟩⟩;obtain ⟨x,y,z,x',y',z',a0,a1,a2,a3,a4,a5,hd⟩:=h4 i d hi;have cl:=h1.cells (g:=g) rfl;have ad:∀ j,(⟨g,0,none⟩:Addr).add j=⟨g,j,none⟩:=by intro j;unfold Addr.add;split<;>simp_all
  refine ⟨x,y,z,x',y',z',?_,?_,?_,?_,?_,?_,hd⟩
  ·have:=cl _ _ a0;rw [ad] at this;simpa using this
  ·have:=cl _ _ a1;rw [ad] at this;simpa using this
  ·have:=cl _ _ a2;rw [ad] at this;simpa using this
  ·have:=cl _ _ a3;rw [ad] at this;simpa using this
  ·have:=cl _ _ a4;rw [ad] at this;simpa using this
  ·have:=cl _ _ a5;rw [ad] at this;simpa using this
theorem OwnI.snoc {v v':Value}{l:List RawI}{a:RawI}{z:Value}(h:OwnI w base v l xs)
 (hd:IvR w (.agg #[x,y,z,x',y',z']) a)
 (hr:w'.ownsRow base 30 6 v' (l.length+1) (xs++[x,y,z,x',y',z'])) (hg:w.grownBy w' v.ownBlock) (hv':v'.ownBlock=some g') (hN:Ws w' g') :
 OwnI w' base v' (l++[a]) (xs++[x,y,z,x',y',z']):=by
 have hcl:=hd.cells;obtain ⟨h1,h2,h2',h3,h4⟩:=h;refine ⟨by simpa using hr,?_,?_,?_,?_⟩
 ·intro u hu;rcases List.mem_append.1 hu with hu | hu
  ·exact h2 u hu
  ·exact (hcl u hu).1
 ·intro u hu;rcases List.mem_append.1 hu with hu | hu
  ·exact h2' u hu
  ·exact (hcl u hu).2
 ·intro g hg;rw [hv'] at hg;cases hg;exact hN
 ·intro i e hi;have hxl:=h1.1;by_cases hlt:i<l.length
  ·rw [Gf hlt] at hi;obtain ⟨x,y,z,x',y',z',a0,a1,a2,a3,a4,a5,hd'⟩:=h4 i e hi;have hh:=(Ed a5).1;refine ⟨x,y,z,x',y',z',?_,?_,?_,?_,?_,?_,hd'.grown hg h3⟩
   ·rw [Gf (by omega)];exact a0
   ·rw [Gf (by omega)];exact a1
   ·rw [Gf (by omega)];exact a2
   ·rw [Gf (by omega)];exact a3
   ·rw [Gf (by omega)];exact a4
   ·rw [Gf (by omega)];exact a5
  ·rw [Gk (by omega)] at hi;obtain ⟨hz,he⟩:=Ed hi;simp at hz;have hi':i=l.length:=by omega
   subst hi';simp at he;subst he;refine ⟨x,y,z,x',y',z',?_,?_,?_,?_,?_,?_,hd.grown hg h3⟩
   ·rw [Gk (by omega),hxl,show l.length*6-l.length*6=0 by omega];rfl
   ·rw [Gk (by omega),hxl,show l.length*6+1-l.length*6=1 by omega];rfl
   ·rw [Gk (by omega),hxl,show l.length*6+2-l.length*6=2 by omega];rfl
   ·rw [Gk (by omega),hxl,show l.length*6+3-l.length*6=3 by omega];rfl
   ·rw [Gk (by omega),hxl,show l.length*6+4-l.length*6=4 by omega];rfl
   ·rw [Gk (by omega),hxl,show l.length*6+5-l.length*6=5 by omega];rfl
theorem Uo:(Tryz.prog.info? 30).map (λi=>(i.zero,i.size,i.bytes))=some (some (.agg #[.bool false,.slice none 0 0,.int .i64 0,.bool false,.slice none 0 0,.int .i64 0]),6,80):=by kernel_rfl
theorem Km:∀ u∈(Value.agg #[.bool false,.slice none 0 0,.int .i64 0,.bool false,.slice none 0 0,.int .i64 0]).cells.toList,Bv u:=by
 intro u hu;simp [Value.cells] at hu;rcases hu with rfl | rfl | rfl | rfl | rfl | rfl
 ·exact Ah _
 ·exact Ag _ _ _
 ·exact Aj _
 ·exact Ah _
 ·exact Ag _ _ _
 ·exact Aj _
theorem Im {o:Oper}{a:Act}{K:Act->World->Prop}{Q:Exit->Act->World->Prop}(s x:Operand)
 (ho:o.op=.call { callee:=.builtin .append,args:=#[s,x],argTypes:=#[31,31] })
 {base:Nat} {v:Value} {l:List RawI} {xs:List Value} (hs:a.eval s=v) (hown:OwnI w base v l xs) {d:RawI} {x0 x1 x2 x3 x4 x5:Value} {b:Nat}
 (hd:IvR w (.agg #[x0,x1,x2,x3,x4,x5]) d) (hb:BlkI w b x0 x1 x2 x3 x4 x5) (hx:a.eval x=.slice (some ⟨b,0,none⟩) 1 1)
 (hl:l.length<=1000) (hbase:base<=w.heap.size)
 (h:∀ v' w',OwnI w' base v' (l++[d]) (xs++[x0,x1,x2,x3,x4,x5])->w.grownBy w' v.ownBlock->K (a.put o.dst v') w'):o.wp Tryz.prog a w K Q:=by
 obtain ⟨i0,hi,hz0,hz1,hz2⟩:=info_parts Uo;obtain ⟨-,c0,c1,c2,c3,c4,c5⟩:=hb.facts;have hcl:=hd.cells;have ad:∀ j,(⟨b,0,none⟩:Addr).add j=⟨b,j,none⟩:=by intro j;unfold Addr.add;split<;>simp_all
 refine Qa s x _ ho base 30 i0 _ 6 80 Tryz.underlying31 hi hz0 hz1 hz2 rfl (by decide) v l.length xs hs hown.row _ 1 1 [x0,x1,x2,x3,x4,x5] hx rfl ?_ (λu hu=>(hcl u hu).2) (by unfold maxLen;omega) (by omega) hbase (by decide) hown.nl (λu hu=>(hcl u hu).1) Km hown.blk ?_
 ·intro j u hu;rw [ad];rcases j with _ | _ | _ | _ | _ | _ | j
  ·cases hu;exact c0
  ·cases hu;exact c1
  ·cases hu;exact c2
  ·cases hu;exact c3
  ·cases hu;exact c4
  ·cases hu;exact c5
  ·simp at hu
 ·intro v' w' g' q1 q2 q3 q4;exact h v' w' (hown.snoc hd q1 q2 q3 q4) q2
structure KB (W:World) (X:List Nat) (w:World):Prop where
 os:w.os=W.os
 tape:w.tape=W.tape
 output:w.output=W.output
 size:W.heap.size<=w.heap.size
 block:∀ b,b<W.heap.size->b∉X->w.heap[b]?=W.heap[b]?
 limb:∀ b i x,W.cell? ⟨b,i,none⟩=some (.int .u64 x)->w.cell? ⟨b,i,none⟩=some (.int .u64 x)
theorem eC {v:Value}{z:Nat × Nat}(h:w.heap[b]?=some (.cells cur T z))(hc:w.cell? ⟨b,i,none⟩=some v):cur[i]?=some v:=by
 simpa [World.cell?,h] using hc
theorem Kept.kb (k:Kept w w')(X:List Nat):KB w X w' :=
 ⟨k.os,k.tape,k.output,k.size,λb hb _=>k.block b hb,λb i _ h=>(k.cell (p:=⟨b,i,none⟩) (Av h)).trans h⟩
theorem KB.refl (w:World)(X:List Nat):KB w X w:=Kept.kb (Below.refl _ _) X
theorem KB.trans {a b:World}(h:KB a X b)(k:KB b Y c)(hY:∀ y∈Y,y∈X\/a.heap.size<=y):KB a X c :=
 ⟨k.os.trans h.os, k.tape.trans h.tape, k.output.trans h.output, Bp    h.size k.size, fun i hi hn => by
  rw [k.block i (Dn hi h.size) (λhy=>by rcases hY i hy with q | q;exact hn q;omega),h.block i hi hn],λb i x hp=>k.limb b i x (h.limb b i x hp)⟩
theorem KB.step {a b:World}(h:KB a X b)(k:Kept b c):KB a X c:=h.trans (k.kb []) (by simp)
theorem KB.drew {a b:World}(h:KB a X b):KB a X b.drew:=⟨h.os,h.tape,h.output,h.size,h.block,h.limb⟩
theorem KB.kept {W0:World}(h:Kept W0 W)(k:KB W X w)(hX:∀ x∈X,W0.heap.size<=x):Kept W0 w :=
 ⟨k.os.trans h.os, k.tape.trans h.tape, k.output.trans h.output, Bp    h.size k.size, fun i hi => by
  rw [k.block i (Dn hi h.size) (λhx=>by have:=hX i hx;omega),h.block i hi]⟩
theorem KB.nil (k:KB W [] w):Kept W w:=KB.kept (Below.refl _ _) k (by simp)
theorem KB.setCell (h:KB W X w)(hb:b∈X)(hc:w.cell? ⟨b,i,none⟩=some x)(hx:Bv x)(y:Value):KB W X (w.setCell ⟨b,i,none⟩ y) :=
 ⟨h.os, h.tape, h.output, by simpa [World.setCell] using h.size, fun k hk hn => by rw [Below.heap_setCell _ _ _ _ (fun e => hn (by subst e; exact hb))]; exact h.block k hk hn, fun p j v hp => by
  have h1:=h.limb p j v hp;rw [World.cell?_setCell_other]
  ·exact h1
  ·intro e;injection e with e1 e2
   subst e1;subst e2;rw [h1] at hc;exact hx v (by injection hc with e;exact e.symm)⟩
theorem KB.grown (h:KB W X w)(hg:w.grownBy w' row)(hX:∀ g,row=some g->g∈X\/W.heap.size<=g)(hN:∀ g,row=some g->Ws w g):KB W X w':=by
 refine ⟨hg.os.trans h.os,hg.tape.trans h.tape,hg.output.trans h.output,Bp h.size hg.size,λb hb hn=>?_,λp j x hp=>?_⟩
 ·rw [hg.block b (Dn hb h.size) (λe=>by rcases hX b e.symm with q | q;exact hn q;omega)];exact h.block b hb hn
 ·have h1:=h.limb p j x hp;refine hg.cell h1 ?_;intro he;obtain ⟨cur,e,q1,q2⟩:=hN p he.symm;have h4:=eC q1 h1;exact q2 _ (Array.mem_toList_iff.2 (Array.mem_of_getElem? h4)) _ rfl
theorem Lim.kb {v:Value}{xs:List Nat}(h:Lim W v xs)(k:KB W X w):Lim w v xs:=by
 obtain ⟨hs,A,c,rfl,hc,hA⟩:=h;refine ⟨hs,A,c,rfl,hc,λh0=>?_⟩;obtain ⟨b,off,rfl,hb,hd⟩:=hA h0;exact ⟨b,off,rfl,Dn hb k.size,λi hi=>k.limb _ _ _ (hd i hi)⟩
theorem DyR.kb {v:Value}(h:DyR W v r)(k:KB W X w):DyR w v r:=by
 obtain ⟨s,rfl,hs,h1,h2⟩:=h;exact ⟨s,rfl,hs.kb k,h1,h2⟩
theorem IvR.kb {v:Value}{a:RawI}(h:IvR W v a)(k:KB W X w):IvR w v a:=by
 obtain ⟨x,y,z,x',y',z',rfl,h1,h2⟩:=h;exact ⟨x,y,z,x',y',z',rfl,h1.kb k,h2.kb k⟩
theorem KB.cell (k:KB W X w){v:Value}(h:W.cell? ⟨b,i,none⟩=some v)(hn:b∉X):w.cell? ⟨b,i,none⟩=some v:=by
 have hb:=Av h;rw [World.cell?_of_block (k.block b hb hn)];exact h
theorem IvAt.kb {o:Nat}{a:RawI}(h:IvAt W b o a)(k:KB W X w)(hn:b∉X):IvAt w b o a:=by
 obtain ⟨x,y,z,x',y',z',h0,h1,h2,h3,h4,h5,hd⟩:=h;exact ⟨x,y,z,x',y',z',k.cell h0 hn,k.cell h1 hn,k.cell h2 hn,k.cell h3 hn,k.cell h4 hn,k.cell h5 hn,hd.kb k⟩
def OffX (v:Value) (X:List Nat):Prop:=∀ g,v.ownBlock=some g->g∉X
theorem BlkI.kb {z:Value}(h:BlkI W b x y z x' y' z')(k:KB W X w)(hn:b∉X):BlkI w b x y z x' y' z' :=
 (k.block b (Bi h).1 hn).trans h
theorem KB.blk (k:KB W X w){o:Obj}(h:W.heap[b]?=some o)(hn:b∉X):w.heap[b]?=some o :=
 (k.block b (Bi h).1 hn).trans h
theorem Tab.kb (h:Tab W)(k:KB W X w)(hX:0∉X):Tab w:=λj hj=>k.cell (h j hj) hX
theorem Tab.lt (h:Tab w):0<w.heap.size:=Av (h 0 (by decide))
theorem Bt (h:W.heap[b]?=some (.cells cs T (0,0)))(k:KB W X w)(hn:b∉X)(i:Nat)(v:Value)(hi:cs[i]?=some v):w.cell? ⟨b,i,none⟩=some v :=
 Ae ((k.block b (Bi h).1 hn).trans h) i v hi
theorem sM (h:W.heap[b]?=some (.cells #[x0,x1,x2,x3,x4,x5] T (0,0)))(k:KB W X w)(hn:b∉X) :
 w.cell? ⟨b,0,none⟩=some x0/\w.cell? ⟨b,1,none⟩=some x1/\w.cell? ⟨b,2,none⟩=some x2/\w.cell? ⟨b,3,none⟩=some x3/\w.cell? ⟨b,4,none⟩=some x4/\w.cell? ⟨b,5,none⟩=some x5 :=
 ⟨Bt h k hn 0 _ rfl,Bt h k hn 1 _ rfl,Bt h k hn 2 _ rfl,Bt h k hn 3 _ rfl,Bt h k hn 4 _ rfl,Bt h k hn 5 _ rfl⟩
theorem KB.ivW {n n':Bool}{l c:Nat}{e e':Int}(h:KB W X w)(hb:BlkI w b (.bool n) (.slice A l c) (.int .i64 e) (.bool n') (.slice A' l' c') (.int .i64 e'))(hX:b∈X)(x y z x' y' z':Value) :
 KB W X (Go.Proofs.YtabjjdicffcolaaGreatDoor.ivW w b x y z x' y' z'):=by
 have k0:Below 0 w (Go.Proofs.YtabjjdicffcolaaGreatDoor.ivW w b x y z x' y' z') :=
  ((((((Below.refl 0 w).setCell (p:=⟨b,0,none⟩) (Nat.zero_le _) x).setCell (p:=⟨b,1,none⟩) (Nat.zero_le _) y).setCell (p:=⟨b,2,none⟩) (Nat.zero_le _) z).setCell (p:=⟨b,3,none⟩) (Nat.zero_le _) x').setCell (p:=⟨b,4,none⟩) (Nat.zero_le _) y').setCell (p:=⟨b,5,none⟩) (Nat.zero_le _) z'
 have ho:=λk (hk:k≠b)=>F8 w b k x y z x' y' z' hk
 generalize Go.Proofs.YtabjjdicffcolaaGreatDoor.ivW w b x y z x' y' z'=w' at *;refine ⟨k0.os.trans h.os,k0.tape.trans h.tape,k0.output.trans h.output,Bp h.size k0.size,λk hk hn=>(ho k (λe=>hn (by subst e;exact hX))).trans (h.block k hk hn),λp j v hp=>?_⟩;have h1:=h.limb p j v hp;have hne:p≠b:=by
  rintro rfl;exact hb.noLimb _ _ (eC hb h1) _ rfl
 rw [World.cell?_of_block (ho p hne)];exact h1
section
variable {P:Program} {ops:Array Oper} {Q:Exit->Act->World->Prop} {md:Region.Mode}
theorem Vp {J:(Nat->Bool)->World->Prop}{V:Nat->Value->World->Prop}{L:Nat->Bool}{i:Nat}{o:Oper}{a:Act}{w:World}
 (hV:∀ j u w w',Kept w w'->V j u w->V j u w') (hJ:∀ w',Kept w w'->J (Fg L i true) w') (h:Bo P ops Q V i o a w):Pw P ops Q J V L i o a w:=by
 unfold Bo at h;unfold Pw;by_cases hw:Region.wanted o (yielded ops a.tmps)=true
 ·rw [Ak hw] at h ⊢;refine Oper.wp_mono (λa' w' q=>?_) h;obtain ⟨v,rfl,k,hv⟩:=q;exact ⟨v,rfl,⟨hJ w' k,λj _ u hu=>hV j u _ _ k hu⟩,hv⟩
 ·rw [Af hw] at h ⊢;exact ⟨hJ w (Below.refl _ _),h⟩
theorem Ps {J:(Nat->Bool)->World->Prop}{V:Nat->Value->World->Prop}{L:Nat->Bool}{i:Nat}{o:Oper}{a:Act}{w w':World}{v:Value}(hw:Region.wanted o (yielded ops a.tmps)=true)
 (h:(execOp a.eval o).run P w=.ok (.value v) w') (hJ:J (Fg L i true) w') (hV:∀ j,j≠i->∀ u,V j u w->V j u w') (hv:V i v w'):Pw P ops Q J V L i o a w:=by
 unfold Pw;rw [Ak hw];unfold Oper.wp;rw [h];exact ⟨v,rfl,⟨hJ,hV⟩,hv⟩
theorem Ox {J:(Nat->Bool)->World->Prop}{V:Nat->Value->World->Prop}{L:Nat->Bool}{i:Nat}{o:Oper}{a:Act}{w w':World}(hw:Region.wanted o (yielded ops a.tmps)=true)
 (h:(execOp a.eval o).run P w=.ok .skip w') (hJ:J (Fg L i true) w') (hV:∀ j,j≠i->∀ u,V j u w->V j u w') (hv:V i undef w'):Pw P ops Q J V L i o a w:=by
 unfold Pw;rw [Ak hw];unfold Oper.wp;rw [h];exact ⟨undef,rfl,⟨hJ,hV⟩,hv⟩
def oy (P:Program) (ops:Array Oper) (Q:Exit->Act->World->Prop) (J:(Nat->Bool)->World->Prop) (V:Nat->Value->World->Prop) (L:Nat->Bool) (i:Nat) (o:Oper) (a:Act) (w:World):Prop :=
 ((∀ w',Kept w w'->J (Fg L i true) w')/\Bo P ops Q V i o a w)\/Pw P ops Q J V L i o a w
def Xz (P:Program) (md:Region.Mode) (ops:Array Oper) (Q:Exit->Act->World->Prop) (m:Nat) (J:(Nat->Bool)->World->Prop) (V:Nat->Value->World->Prop) (a0:Act):Nat->Nat->List Oper->Prop
 | _,0,_=>True
 | _,_+1,[]=>True
 | i,k+1,o::l=>(∀ L a w,FindsG md ops m J V a0 L i a w->oy P ops Q J V L i o a w)/\Xz P md ops Q m J V a0 (i+1) k l
theorem Xs {m:Nat}{J:(Nat->Bool)->World->Prop}{V:Nat->Value->World->Prop}{a0:Act}:∀ (k i0:Nat) (l:List Oper),Xz P md ops Q m J V a0 i0 k l ->
 ∀ i o,i<k->l[i]?=some o->∀ L a w,FindsG md ops m J V a0 L (i0+i) a w->oy P ops Q J V L (i0+i) o a w
 | 0,_,_,_,_,_,hi,_=>absurd hi (Nat.not_lt_zero _)
 | k+1,_,[],_,_,_,_,ho=>by simp at ho
 | k + 1, i0, x :: l, h, 0, o, _, ho => by
   simp at ho;subst ho;exact h.1
 | k + 1, i0, x :: l, h, i + 1, o, hi, ho => by
   have:=Xs k (i0+1) l h.2 i o (by omega) (by simpa using ho);have e:i0+1+i=i0+(i+1):=by omega
   rw [e] at this;exact this
theorem Oo {id m:Nat}{J:(Nat->Bool)->World->Prop}{l:List (Value->World->Prop)}{a0:Act}{W:World}(hm:P.follows .mixedOrders=true)
 (hsz:m=ops.size) (hap:Cg ops m=true) (hin:Dv ops m a0.tmps.size=true) (hbk:Er .any ops=true) (hM:Ld l)
 (hJ:J (λ_=>false) W.drew) (hstep:Xz P .any ops Q m J (VL l) a0 0 m ops.toList)
 (hend:∀ u w L,(∀ i,i<m->L i=true)->J L w->(∀ i,i<m->VL l i (u i) w)->Q .normal (Bb ops (λ_=>true) u m a0) w) :
 (Code.region id ops true).wp P Q a0 W:=by
 refine aV (J:=J) (V:=VL l) hm hsz hap hin hbk hJ (λi o hi ho L a w F=>?_) hend;have h:=Xs m 0 ops.toList hstep i o hi (by simpa using ho) L a w (by simpa using F);rw [Nat.zero_add] at h;rcases h with ⟨h1,h2⟩ | h
 ·exact Vp (Ke l hM) h1 h2
 ·exact h
def Pu (E:Nat->Bool) (i:Nat):Prop:=E i=false
def Xy (P:Program) (md:Region.Mode) (ops:Array Oper) (Q:Exit->Act->World->Prop) (m:Nat) (W:World) (X:List Nat) (E:Nat->Bool) (J:(Nat->Bool)->World->Prop) (V:Nat->Value->World->Prop) (a0:Act):Nat->Nat->List Oper->Prop
 | _,0,_=>True
 | _,_+1,[]=>True
 | i, k + 1, o :: l => ((Pu   E i ∧ ∀ L a w, FindsG md ops m (fun L w => KB W X w ∧ J L w) V a0 L i a w → Bo     P ops Q V i o a w) ∨ ∀ L a w, FindsG md ops m (fun L w => KB W X w ∧ J L w) V a0 L i a w → Pw    P ops Q (fun L w => KB W X w ∧ J L w) V L i o a w) ∧
   Xy P md ops Q m W X E J V a0 (i+1) k l
theorem Xr {m:Nat}{W:World}{X:List Nat}{E:Nat->Bool}{J:(Nat->Bool)->World->Prop}{V:Nat->Value->World->Prop}{a0:Act}(hK:∀ i,Pu E i->∀ L w w',Kept w w'->J L w->J (Fg L i true) w'):∀ (k i:Nat) (l:List Oper),
 Xy P md ops Q m W X E J V a0 i k l->Xz P md ops Q m (λL w=>KB W X w/\J L w) V a0 i k l
 | 0,_,_,_=>trivial
 | _+1,_,[],_=>trivial
 | k+1,i,_::l,h=>⟨λL a w F=>h.1.elim (λh=>.inl ⟨λw' q=>⟨F.frame.1.step q,hK i h.1 L w w' q F.frame.2⟩,h.2 L a w F⟩) (λh=>.inr (h L a w F)),Xr hK k (i+1) l h.2⟩
theorem kp {c A B:Prop}(h:A)(e:c:=by exact rfl):(c/\A)\/B:=.inl ⟨e,h⟩
theorem sH {E:Nat->Bool}{L:Nat->Bool}{i:Nat}(h:Pu E i)(j:Nat)(hj:E j=true:=by exact rfl):Fg L i true j=L j:=Af (by rintro rfl;exact absurd (h.symm.trans hj) (by decide))
theorem rK {id:Nat}{a0:Act}{W:World}(m:Nat)(E:Nat->Bool)(X:List Nat)(J:(Nat->Bool)->World->Prop)(l:List (Value->World->Prop))(hK:∀ i,Pu E i->∀ L w w',Kept w w'->J L w->J (Fg L i true) w')(hJ:J (λ_=>false) W.drew)
 (hs:Xy P .any ops Q m W X E J (VL l) a0 0 m ops.toList) (he:∀ u w L,(∀ i,i<m->L i=true)->KB W X w/\J L w->(∀ i,i<m->VL l i (u i) w)->Q .normal (Bb ops (λ_=>true) u m a0) w) (hM:Nonempty (Ld l):=by infer_instance)
 (hm:P.follows .mixedOrders=true:=by kernel_rfl) (hz:m=ops.size:=by exact rfl) (ha:Cg ops m=true:=by kernel_rfl) (hi:Dv ops m a0.tmps.size=true:=by kernel_rfl) (hb:Er .any ops=true:=by kernel_rfl):(Code.region id ops true).wp P Q a0 W :=
 Oo (J:=λL w=>KB W X w/\J L w) hm hz ha hi hb (Gy hM) ⟨(KB.refl _ _).drew,hJ⟩ (Xr hK _ _ _ hs) he
def iy (w w':World) (s:Nat):Nat->List (Value->World->Prop)->Prop
 | _,[]=>True
 | i,p::l=>(i=s\/∀ u,p u w->p u w')/\iy w w' s (i+1) l
theorem bI {w w':World}{s:Nat}:∀ (l:List (Value->World->Prop)) (i0:Nat),iy w w' s i0 l->∀ j,i0+j≠s->∀ u,VL l j u w->VL l j u w'
 | [],_,_,_,_,_,_=>trivial
 | _::_,_,h,0,hj,u,hu=>(h.1.resolve_left (by simpa using hj)) u hu
 | _::l,i0,h,j+1,hj,u,hu=>bI l (i0+1) h.2 j (by omega) u hu
theorem Ii {w w':World}{s:Nat}(l:List (Value->World->Prop))(h:iy w w' s 0 l):∀ j,j≠s->∀ u,VL l j u w->VL l j u w' :=
 λj hj u hu=>bI l 0 h j (by omega) u hu
theorem vR {c:Prop}{x:Value}{w w':World}:c\/∀ u,vE x u w->vE x u w':=.inr λ_ h=>by
 unfold vE at h ⊢;exact h
theorem vS {x:Value}{w w':World}:∀ u,vE x u w->vE x u w':=λ_ h=>by
 unfold vE at h ⊢;exact h
variable {m i:Nat} {J:(Nat->Bool)->World->Prop} {l:List (Value->World->Prop)} {a0 a:Act} {w:World} {L:Nat->Bool}
theorem FindsG.v (F:FindsG md ops m J (VL l) a0 L i a w)(j t:Nat){x:Value}(h:l.getD j (λ_ _=>True)=vE x:=by exact rfl)(h1:Bu md ops i j=true:=by kernel_rfl)(h2:Ap ops j=some t:=by exact rfl):a.tmps.getD t undef=x:=by
 have h3:=F.done j t h1 h2;unfold VL at h3;rw [h] at h3;exact h3
theorem FindsG.p (F:FindsG md ops m J (VL l) a0 L i a w)(j t:Nat){p:Value->World->Prop}(h:l.getD j (λ_ _=>True)=p:=by exact rfl)(h1:Bu md ops i j=true:=by kernel_rfl)(h2:Ap ops j=some t:=by exact rfl):p (a.tmps.getD t undef) w:=by
 have h3:=F.done j t h1 h2;unfold VL at h3;rw [h] at h3;exact h3
theorem FindsG.q {V:Nat->Value->World->Prop}(F:FindsG md ops m J V a0 L i a w)(t:Nat)(x:Value)(h:G4 md ops m i t=true:=by kernel_rfl)(e:a0.tmps.getD t undef=x:=by exact rfl):a.tmps.getD t undef=x:=(F.old t h).trans e
section
variable {E:Nat->Bool} {X:List Nat} {W:World} {B:Prop} {V:Nat->Value->World->Prop} {o:Oper}
theorem kv (j t:Nat){x:Value}{y:Value}(h:l.getD j (λ_ _=>True)=vE x:=by exact rfl)(h1:Bu md ops i j=true:=by kernel_rfl)(h2:Ap ops j=some t:=by exact rfl)(hy:l.getD i (λ_ _=>True)=vE y:=by exact rfl)(hg:o.guard=none:=by exact rfl)(he:Pu E i:=by exact rfl)(hx:∀ (a:Act) (w:World),a.tmps.getD t undef=x->(execOp a.eval o).run P w=.ok (.value y) w:=by intro aF wF s;go_simp):((Pu E i/\∀ L a w,FindsG md ops m (λL w=>KB W X w/\J L w) (VL l) a0 L i a w->Bo P ops Q (VL l) i o a w)\/B):=.inl ⟨he,λ_ a w F=>Bc (by simp [Region.wanted,hg]) (hx a w (F.v j t h h1 h2)) (by unfold VL;rw [hy];rfl)⟩
theorem kq (t:Nat){x:Value}{y:Value}(h:G4 md ops m i t=true:=by kernel_rfl)(h1:a0.tmps.getD t undef=x:=by exact rfl)(hy:l.getD i (λ_ _=>True)=vE y:=by exact rfl)(hg:o.guard=none:=by exact rfl)(he:Pu E i:=by exact rfl)(hx:∀ (a:Act) (w:World),a.tmps.getD t undef=x->(execOp a.eval o).run P w=.ok (.value y) w:=by intro aF wF s;go_simp):((Pu E i/\∀ L a w,FindsG md ops m (λL w=>KB W X w/\J L w) (VL l) a0 L i a w->Bo P ops Q (VL l) i o a w)\/B):=.inl ⟨he,λ_ a w F=>Bc (by simp [Region.wanted,hg]) (hx a w ((F.old t h).trans h1)) (by unfold VL;rw [hy];rfl)⟩
theorem km (j t:Nat){p:Value->World->Prop}(h:l.getD j (λ_ _=>True)=p:=by exact rfl)(hy:l.getD i (λ_ _=>True)=p:=by exact rfl)(h1:Bu md ops i j=true:=by kernel_rfl)(h2:Ap ops j=some t:=by exact rfl)(hg:o.guard=none:=by exact rfl)(he:Pu E i:=by exact rfl)(hx:∀ (a:Act) (w:World),(execOp a.eval o).run P w=.ok (.value (a.tmps.getD t undef)) w:=by intro _ _;exact rfl):((Pu E i/\∀ L a w,FindsG md ops m (λL w=>KB W X w/\J L w) (VL l) a0 L i a w->Bo P ops Q (VL l) i o a w)\/B):=.inl ⟨he,λ_ a w F=>Bc (by simp [Region.wanted,hg]) (hx a w) (by unfold VL;rw [hy];exact F.p j t h h1 h2)⟩
theorem lC (j t j' t':Nat){x x':Value}{y:Value}(h:l.getD j (λ_ _=>True)=vE x:=by exact rfl)(h1:Bu md ops i j=true:=by kernel_rfl)(h2:Ap ops j=some t:=by exact rfl)(h':l.getD j' (λ_ _=>True)=vE x':=by exact rfl)(h'1:Bu md ops i j'=true:=by kernel_rfl)(h'2:Ap ops j'=some t':=by exact rfl)(hy:l.getD i (λ_ _=>True)=vE y:=by exact rfl)(hg:o.guard=none:=by exact rfl)(he:Pu E i:=by exact rfl)(hx:∀ (a:Act) (w:World),a.tmps.getD t undef=x->a.tmps.getD t' undef=x'->(execOp a.eval o).run P w=.ok (.value y) w:=by intro aF wF s s';go_simp):((Pu E i/\∀ L a w,FindsG md ops m (λL w=>KB W X w/\J L w) (VL l) a0 L i a w->Bo P ops Q (VL l) i o a w)\/B):=.inl ⟨he,λ_ a w F=>Bc (by simp [Region.wanted,hg]) (hx a w (F.v j t h h1 h2) (F.v j' t' h' h'1 h'2)) (by unfold VL;rw [hy];rfl)⟩
theorem sk (j t:Nat){x:Value}{p:World->Prop}{y:Value}(c:∀ w,KB W X w->p w)(h:l.getD j (λ_ _=>True)=vE x:=by exact rfl)(h1:Bu md ops i j=true:=by kernel_rfl)(h2:Ap ops j=some t:=by exact rfl)(hy:l.getD i (λ_ _=>True)=vE y:=by exact rfl)(hg:o.guard=none:=by exact rfl)(he:Pu E i:=by exact rfl)(hx:∀ (a:Act) (w:World),a.tmps.getD t undef=x->p w->(execOp a.eval o).run P w=.ok (.value y) w:=by intro aF wF s c;go_simp):((Pu E i/\∀ L a w,FindsG md ops m (λL w=>KB W X w/\J L w) (VL l) a0 L i a w->Bo P ops Q (VL l) i o a w)\/B):=.inl ⟨he,λ_ a w F=>Bc (by simp [Region.wanted,hg]) (hx a w (F.v j t h h1 h2) (c w F.frame.1)) (by unfold VL;rw [hy];rfl)⟩
theorem rZ (t:Nat){x:Value}{p:World->Prop}{y:Value}(c:∀ w,KB W X w->p w)(h:G4 md ops m i t=true:=by kernel_rfl)(h1:a0.tmps.getD t undef=x:=by exact rfl)(hy:l.getD i (λ_ _=>True)=vE y:=by exact rfl)(hg:o.guard=none:=by exact rfl)(he:Pu E i:=by exact rfl)(hx:∀ (a:Act) (w:World),a.tmps.getD t undef=x->p w->(execOp a.eval o).run P w=.ok (.value y) w:=by intro aF wF s c;go_simp):((Pu E i/\∀ L a w,FindsG md ops m (λL w=>KB W X w/\J L w) (VL l) a0 L i a w->Bo P ops Q (VL l) i o a w)\/B):=.inl ⟨he,λ_ a w F=>Bc (by simp [Region.wanted,hg]) (hx a w ((F.old t h).trans h1) (c w F.frame.1)) (by unfold VL;rw [hy];rfl)⟩
end
end
end Go.Proofs.YtabjjdicffcolaaGreatDoor
namespace Go.Proofs.YtabjjdicffcolaaGreatDoor
open Go.RowKit Go.Maps
variable {p u x:Int} {v:Value} {w:World}
def mT (x u p:Int):DataW Unit:=(((DataW.map []).put (.int .i64 3) (.lit (.int .i64 x))).put (.int .i64 4) (.lit (.int .i64 u))).put (.int .i64 5) (.lit (.int .i64 p))
def MapR (w:World) (v:Value) (x u p:Int):Prop:=∃ b n,v=.map (some b)/\w.ownsMap Tryz.prog 3 (plainElem Tryz.prog 3) b n (mT x u p)
def Uv (op x u p:Int):Int:=if op=3 then x else if op=4 then u else if op=5 then p else 0
def oI (op:Int):Bool:=decide (op=3)||decide (op=4)||decide (op=5)
theorem MapR.kept {w':World}(h:MapR w v x u p)(k:Kept w w'):MapR w' v x u p:=by
 obtain ⟨b,n,rfl,h⟩:=h;exact ⟨b,n,rfl,h.kept (row:=none) ⟨k.os,k.tape,k.output,k.size,λb hb _=>k.block b hb⟩ (by simp)⟩
theorem mU (x u p op:Int):(mT x u p).atKey (.int .i64 op) (.lit (.int .i64 0))=.lit (.int .i64 (Uv op x u p))/\Maps.has (mT x u p) (.int .i64 op)=oI op:=by
 have e:mT x u p=.map [(.int .i64 3,.lit (.int .i64 x)),(.int .i64 4,.lit (.int .i64 u)),(.int .i64 5,.lit (.int .i64 p))]:=by rfl
 rw [e];unfold Uv oI;by_cases h3:op=3
 ·subst h3;exact ⟨rfl,rfl⟩
 ·by_cases h4:op=4
  ·subst h4;exact ⟨rfl,rfl⟩
  ·by_cases h5:op=5
   ·subst h5;exact ⟨rfl,rfl⟩
   ·have g3:¬(3:Int)=op:=fun h=>h3 h.symm
    have g4:¬(4:Int)=op:=λh=>h4 h.symm
    have g5:¬(5:Int)=op:=λh=>h5 h.symm
    constructor
    ·rw [Af h3,Af h4,Af h5];simp [DataW.atKey,Lit.sameKey,g3,g4,g5]
    ·simp [Maps.has,Lit.sameKey,g3,g4,g5,h3,h4,h5]
theorem MapR.look {op:Int}(h:MapR w v x u p)(h1:-9223372036854775808<=op)(h2:op<=9223372036854775807) :
 (Instr.lookup 108 v (.int .i64 op) true).run Tryz.prog w=.ok (.tuple #[.int .i64 (Uv op x u p),.bool (oI op)]) w:=by
 obtain ⟨b,n,rfl,hown⟩:=h;have hz:(zeroValue 3).run Tryz.prog w=.ok (.int .i64 0) w:=by kernel_rfl
 have hw0:(Lit.int .i64 0).wf=true:=by decide
 have hop:(Lit.int .i64 op).wf=true:=WalkArith.wf_i64 ⟨h1,h2⟩;obtain ⟨v,ps,hrun,hv⟩:=hown.look_ok (int_keyed Tryz.underlying3) Tryz.underlying108 hz (plainElem_int Tryz.underlying3 hw0) (keyOf_int_mk Tryz.underlying3 hop);obtain ⟨c,rfl,hc,-⟩:=plainElem_int_inv Tryz.underlying3 hv;obtain ⟨a1,a2⟩:=mU x u p op;simp only [Prod.mk.injEq] at hc;rw [a1] at hc;have e:c=Uv op x u p:=by
  have h:=hc.1;simp only [DataW.lit.injEq,Lit.int.injEq,true_and] at h;exact h.symm
 rw [hrun,a2,e]
theorem gh (w:World)(hx1:-9223372036854775808<=x)(hx2:x<=9223372036854775807)(hu1:-9223372036854775808<=u)(hu2:u<=9223372036854775807)(hp1:-9223372036854775808<=p)(hp2:p<=9223372036854775807) :
 ∃ w1 w2 w3, (Instr.mapUpdate 108 (.map (some w.heap.size)) (.int .i64 3) (.int .i64 x)).run Tryz.prog (w.alloc (.map #[] 0)) = .ok () w1 ∧
   (Instr.mapUpdate 108 (.map (some w.heap.size)) (.int .i64 4) (.int .i64 u)).run Tryz.prog w1=.ok () w2 /\
   (Instr.mapUpdate 108 (.map (some w.heap.size)) (.int .i64 5) (.int .i64 p)).run Tryz.prog w2=.ok () w3 /\
   MapR w3 (.map (some w.heap.size)) x u p/\Kept w w3:=by
 have K:Keyed Tryz.prog 3:=int_keyed Tryz.underlying3;have o0:=World.ownsMap_made (H:=Unit) w Tryz.prog 3 (plainElem Tryz.prog 3);obtain ⟨w1,r1,o1,g1⟩:=o0.update K Tryz.underlying108 (by unfold maxLen;decide) (keyOf_int_mk (a:=3) Tryz.underlying3 (by decide)) (plainElem_int Tryz.underlying3 (WalkArith.wf_i64 ⟨hx1,hx2⟩));obtain ⟨w2,r2,o2,g2⟩:=o1.update K Tryz.underlying108 (by unfold maxLen;decide) (keyOf_int_mk (a:=4) Tryz.underlying3 (by decide)) (plainElem_int Tryz.underlying3 (WalkArith.wf_i64 ⟨hu1,hu2⟩));obtain ⟨w3,r3,o3,g3⟩:=o2.update K Tryz.underlying108 (by unfold maxLen;decide) (keyOf_int_mk (a:=5) Tryz.underlying3 (by decide)) (plainElem_int Tryz.underlying3 (WalkArith.wf_i64 ⟨hp1,hp2⟩))
 refine ⟨w1,w2,w3,r1,r2,r3,⟨_,_,rfl,o3⟩,?_⟩;have k0:=Ab w (.map #[] 0);have st:∀ a b:World,Kept w a->a.grownBy b (some w.heap.size)->Kept w b:=λa b k g =>
  ⟨g.os.trans k.os,g.tape.trans k.tape,g.output.trans k.output,Bp k.size g.size,λi hi=>(g.block i (Dn hi k.size) (by intro h;injection h with h;omega)).trans (k.block i hi)⟩
 exact st _ _ (st _ _ (st _ _ k0 g1) g2) g3
end Go.Proofs.YtabjjdicffcolaaGreatDoor
namespace Go.Proofs.YtabjjdicffcolaaGreatDoor
open Go.RowKit
variable {neg rest up:Bool} {d:Dy} {A A' B B' e i op u:Int} {a b:Iv} {m n p:Nat} {x y:Rat} {k:RawI} {w:World}
theorem Qv (n m:Int)(w:World):Calls Tryz.prog 64 #[.int .i64 n,.int .i64 m] w (RetK (.bool (Cr n m)) w):=by
 by_cases h:0<=n
 ·have h1:decide (0≤n)=true:=by simp [h]
  have e:Cr n m=decide (n<m):=by unfold Cr;rw [h1,Bool.true_and]
  rw [e];go_enter Tryz.func64,Tryz.ntmps64;go_wp2;go_ret;exact ⟨rfl,Below.refl _ _⟩
 ·have h1:decide (0≤n)=false:=by simp;omega
  have e:Cr n m=false:=by unfold Cr;rw [h1,Bool.false_and]
  rw [e];go_enter Tryz.func64,Tryz.ntmps64;go_wp2;go_ret;exact ⟨rfl,Below.refl _ _⟩
theorem nH (n:Int)(w:World):Calls Tryz.prog 65 #[.int .i64 n] w (RetK (.int .i64 (Nd n)) w):=by
 have lit:∀ m:Int,n≠m->(n==m)=false:=λm h=>by simp [h]
 by_cases h1:n=1
 ·subst h1;clear lit;go_enter Tryz.func65,Tryz.ntmps65;go_wp2;go_ret;exact ⟨rfl,Below.refl _ _⟩
 by_cases h2:n=2
 ·subst h2;clear lit;go_enter Tryz.func65,Tryz.ntmps65;go_wp2;go_ret;exact ⟨rfl,Below.refl _ _⟩
 by_cases h3:n=3
 ·subst h3;clear lit;go_enter Tryz.func65,Tryz.ntmps65;go_wp2;go_ret;exact ⟨rfl,Below.refl _ _⟩
 by_cases h4:n=4
 ·subst h4;clear lit;go_enter Tryz.func65,Tryz.ntmps65;go_wp2;go_ret;exact ⟨rfl,Below.refl _ _⟩
 by_cases h5:n=5
 ·subst h5;clear lit;go_enter Tryz.func65,Tryz.ntmps65;go_wp2;go_ret;exact ⟨rfl,Below.refl _ _⟩
 by_cases h6:n=6
 ·subst h6;clear lit;go_enter Tryz.func65,Tryz.ntmps65;go_wp2;go_ret;exact ⟨rfl,Below.refl _ _⟩
 by_cases h7:n=7
 ·subst h7;clear lit;go_enter Tryz.func65,Tryz.ntmps65;go_wp2;go_ret;exact ⟨rfl,Below.refl _ _⟩
 by_cases h8:n=8
 ·subst h8;clear lit;go_enter Tryz.func65,Tryz.ntmps65;go_wp2;go_ret;exact ⟨rfl,Below.refl _ _⟩
 by_cases h9:n=9
 ·subst h9;clear lit;go_enter Tryz.func65,Tryz.ntmps65;go_wp2;go_ret;exact ⟨rfl,Below.refl _ _⟩
 by_cases h10:n=10
 ·subst h10;clear lit;go_enter Tryz.func65,Tryz.ntmps65;go_wp2;go_ret;exact ⟨rfl,Below.refl _ _⟩
 by_cases h11:n=11
 ·subst h11;clear lit;go_enter Tryz.func65,Tryz.ntmps65;go_wp2;go_ret;exact ⟨rfl,Below.refl _ _⟩
 by_cases h12:n=12
 ·subst h12;clear lit;go_enter Tryz.func65,Tryz.ntmps65;go_wp2;go_ret;exact ⟨rfl,Below.refl _ _⟩
 by_cases h13:n=13
 ·subst h13;clear lit;go_enter Tryz.func65,Tryz.ntmps65;go_wp2;go_ret;exact ⟨rfl,Below.refl _ _⟩
 have e:Nd n=-1:=by unfold Nd;simp [h1,h2,h3,h4,h5,h6,h7,h8,h9,h10,h11,h12,h13]
 rw [e];replace h1:=lit _ h1;replace h2:=lit _ h2;replace h3:=lit _ h3;replace h4:=lit _ h4;replace h5:=lit _ h5;replace h6:=lit _ h6;replace h7:=lit _ h7;replace h8:=lit _ h8;replace h9:=lit _ h9;replace h10:=lit _ h10;replace h11:=lit _ h11;replace h12:=lit _ h12;replace h13:=lit _ h13;clear e lit;go_enter Tryz.func65,Tryz.ntmps65;go_wp2;go_ret;exact ⟨rfl,Below.refl _ _⟩
theorem si (w:World)(o a b k0 k1 k2 k3 k4 k5:Value):∃ W,W=w.alloc (.cells #[o,a,b,k0,k1,k2,k3,k4,k5] 52)/\Kept w W/\W.heap[w.heap.size]?=some (.cells #[o,a,b,k0,k1,k2,k3,k4,k5] 52 (0,0))/\w.heap.size<W.heap.size :=
 ⟨_,rfl,Ab _ _,heap_alloc_new _ _,by simp⟩
theorem Cp {b:Nat}{x0 x1 x2 x3 x4 x5 x6 x7 x8:Value}{T:TypeId}(h:w.heap[b]?=some (.cells #[x0,x1,x2,x3,x4,x5,x6,x7,x8] T (0,0))):w.cell? ⟨b,0,none⟩=some x0/\w.cell? ⟨b,1,none⟩=some x1/\w.cell? ⟨b,2,none⟩=some x2 /\
 w.cell? ⟨b,3,none⟩=some x3/\w.cell? ⟨b,4,none⟩=some x4/\w.cell? ⟨b,5,none⟩=some x5/\w.cell? ⟨b,6,none⟩=some x6/\w.cell? ⟨b,7,none⟩=some x7/\w.cell? ⟨b,8,none⟩=some x8 :=
 ⟨Ae h 0 _ rfl,Ae h 1 _ rfl,Ae h 2 _ rfl,Ae h 3 _ rfl,Ae h 4 _ rfl,Ae h 5 _ rfl,Ae h 6 _ rfl,Ae h 7 _ rfl,Ae h 8 _ rfl⟩
theorem oJ (a b i x u p:Int)(k:RawI):Ix ⟨1,a,b,k⟩ i x u p=(Dl k&&(a==0)&&(b==0)):=by
 unfold Ix;rw [Ak rfl,Bool.and_assoc];rfl
theorem gn {a b x p:Int}(h1:op≠1)(h:bk k rzI=false):Ix ⟨op,a,b,k⟩ i x u p=false:=by
 unfold Ix;rw [Af h1,Ak h]
theorem gj {a b x p:Int}(h1:op≠1)(h:bk k rzI=true):Ix ⟨op,a,b,k⟩ i x u p =
 if op=2 then (a==0)&&(b==0) else if oI op=true then Cr a (Uv op x u p)&&(b==0) else if Nd op=2 then Cr a i&&Cr b i else if Nd op=1 then Cr a i&&(b==0) else false:=by
 unfold Ix;simp only [];rw [Af h1,Af (by rw [h];decide)];by_cases h2:op=2
 ·rw [Ak h2,Ak h2];rfl
 ·rw [Af    h2, Af    h2];by_cases h3:op=3
  ·subst h3;rfl
  ·rw [Af    h3];by_cases h4:op=4
   ·subst h4;rfl
   ·rw [Af h4];by_cases h5:op=5
    ·subst h5;rfl
    ·rw [Af h5];have e:oI op=false:=by unfold oI;simp [h3,h4,h5]
     rw [e];simp only [Bool.false_eq_true,if_false];have d0:¬(op=1\/op=2\/op=3\/op=4\/op=5):=by omega
     unfold Nd;rw [Af d0];by_cases h6:op=6\/op=7\/op=8\/op=9
     ·rw [Ak h6,Ak h6,Ak rfl]
     ·rw [Af h6,Af h6];by_cases h10:op=10∨op=11∨op=12∨op=13
      ·rw [Ak h10,Ak h10,Af (by decide),Ak rfl];rfl
      ·rw [Af h10,Af h10,Af (by decide),Af (by decide)]
theorem go {a b x p:Int}{z0 z1 z2 z3 z4 z5 m:Value}(hk:IvR w (.agg #[z0,z1,z2,z3,z4,z5]) k)(hl:k.lens 17592186044416)(hm:MapR w m x u p)
 (o1:-9223372036854775808<=op) (o2:op<=9223372036854775807) :
 Calls Tryz.prog 84 #[.agg #[.int .i64 op,.int .i64 a,.int .i64 b,z0,z1,z2,z3,z4,z5],.int .i64 i,m] w (RetK (.bool (Ix ⟨op,a,b,k⟩ i x u p)) w):=by
 have MK:=Ad (λw1 (q:Kept w w1)=>Up (hk.kept q) hl);have MS:=Ad (λw1 (q:Kept w w1)=>mA (hk.kept q) (Gr w1) hl);have ML:=Ad (λw1 (q:Kept w w1)=>(hm.kept q).look o1 o2);obtain ⟨bm,n,rfl,-⟩:=hm;obtain ⟨W,hW,kW,BL,lW⟩:=si w (.int .i64 op) (.int .i64 a) (.int .i64 b) z0 z1 z2 z3 z4 z5;have HW:=Ad hW;have K:=Ad kW;have HB:=Ad BL;clear hk hl o1 o2 hW kW BL;obtain ⟨fa,hfa⟩:∃ f,(a==0)=f:=⟨_,rfl⟩;obtain ⟨fb,hfb⟩:∃ f,(b==0)=f:=⟨_,rfl⟩;by_cases h1:op=1
 ·subst h1;rw [oJ,hfa,hfb];obtain ⟨mk,hmk⟩:∃ f,Dl k=f:=⟨_,rfl⟩;rw [hmk] at MK ⊢;have FA:=Ad hfa;have FB:=Ad hfb;clear hmk hfa hfb MS ML;go_enter Tryz.func84,Tryz.ntmps84;go_upto_region 1 with fail;rw [←HW.out];obtain ⟨c0,c1,c2,c3,c4,c5,c6,c7,c8⟩:=Cp HB.out;go_upto_region 2 with fail;clear c0 c1 c2 c3 c4 c5 c6 c7 c8
  refine rS 14 ([(vP w.heap.size 3),(vE (.agg #[z0,z1,z2,z3,z4,z5])),(vE (.bool mk)),(vE (.bool mk)),(λv wv=>(mk=true->(λv _=>v=(.pointer (some ⟨w.heap.size,1,none⟩))) v wv)/\(mk=false->v=undef)),(λv wv=>(mk=true->(λv _=>v=(.int .i64 a)) v wv)/\(mk=false->v=undef)),(λv wv=>(mk=true->(λv _=>v=(.bool fa)) v wv)/\(mk=false->v=undef)),(vE (.bool (mk&&fa))),(vE (.bool (mk&&fa))),(λv wv=>((mk&&fa)=true->(λv _=>v=(.pointer (some ⟨w.heap.size,2,none⟩))) v wv)/\((mk&&fa)=false->v=undef)),(λv wv=>((mk&&fa)=true->(λv _=>v=(.int .i64 b)) v wv)/\((mk&&fa)=false->v=undef)),(λv wv=>((mk&&fa)=true->(λv _=>v=(.bool fb)) v wv)/\((mk&&fa)=false->v=undef)),(vE (.bool (mk&&fa&&fb))),(vE (.bool (mk&&fa&&fb)))])
   ⟨
    (gq 3),(λaF wF F=>by have s13:=F.v 0 13;have c0:=Ai HB.o F.kept 3 _ rfl;have c1:=Ai HB.o F.kept 4 _ rfl;have c2:=Ai HB.o F.kept 5 _ rfl;have c3:=Ai HB.o F.kept 6 _ rfl;have c4:=Ai HB.o F.kept 7 _ rfl;have c5:=Ai HB.o F.kept 8 _ rfl;exact sv rfl),(λaF wF F=>by have s14:=F.v 1 14;exact sK (MK.o _ (K.o.trans F.kept)) λ_ _ h=>h),(gv 2 15),
    (λaF wF F=>by
   have sg:=F.v 3 16;have s3:=F.q 3 (.pointer (some ⟨w.heap.size,0,none⟩));rcases Cb mk with hC | hC
   ·refine J0 hC (vE (.pointer (some ⟨w.heap.size,1,none⟩))) ?_;exact Dz rfl rfl sg (by first | rfl | simp [hC])
   ·exact J2 rfl rfl sg (by first | rfl | simp [hC]) (nW hC)),
    (λaF wF F=>by
   have sg:=F.v 3 16;have s17:(mk=true->aF.tmps.getD 17 undef=(.pointer (some ⟨w.heap.size,1,none⟩)))/\(mk=false->aF.tmps.getD 17 undef=undef):=F.done 4 17 (by kernel_rfl) rfl;have c0:=Ai HB.o F.kept 1 _ rfl;rcases Cb mk with hC | hC
   ·refine J0 hC (vE (.int .i64 a)) ?_;replace s17:=s17.1 hC;exact Dz rfl rfl sg (by first | rfl | simp [hC])
   ·exact J2 rfl rfl sg (by first | rfl | simp [hC]) (nW hC)),
    (λaF wF F=>by
   have sg:=F.v 3 16;have s18:(mk=true->aF.tmps.getD 18 undef=(.int .i64 a))/\(mk=false->aF.tmps.getD 18 undef=undef):=F.done 5 18 (by kernel_rfl) rfl;rcases Cb mk with hC | hC
   ·refine J0 hC (vE (.bool fa)) ?_;replace s18:=s18.1 hC;exact Bc ((Am rfl rfl sg).trans (by first | rfl | simp [hC])) (by (go_simp;exact FA.o)) rfl
   ·exact J2 rfl rfl sg (by first | rfl | simp [hC]) (nW hC)),
    (λaF wF F=>by
   have s16:=F.v 3 16;have s19:(mk=true->aF.tmps.getD 19 undef=(.bool fa))/\(mk=false->aF.tmps.getD 19 undef=undef):=F.done 6 19 (by kernel_rfl) rfl;rcases Cb mk with hE | hE
   ·replace s19:=s19.1 hE;exact sw (by first | (go_simp;done) | (go_simp;simp_all;done) | (simp_all;done)) rfl
   ·exact sw (by first | (go_simp;done) | (go_simp;simp_all;done) | (simp_all;done)) rfl),(gv 7 20),
    (λaF wF F=>by
   have sg:=F.v 8 21;have s3:=F.q 3 (.pointer (some ⟨w.heap.size,0,none⟩));rcases Cb (mk&&fa) with hC | hC
   ·refine J0 hC (vE (.pointer (some ⟨w.heap.size,2,none⟩))) ?_;exact Dz rfl rfl sg (by first | rfl | simp [hC])
   ·exact J2 rfl rfl sg (by first | rfl | simp [hC]) (nW hC)),
    (λaF wF F=>by
   have sg:=F.v 8 21;have s22:((mk&&fa)=true->aF.tmps.getD 22 undef=(.pointer (some ⟨w.heap.size,2,none⟩)))/\((mk&&fa)=false->aF.tmps.getD 22 undef=undef):=F.done 9 22 (by kernel_rfl) rfl;have c0:=Ai HB.o F.kept 2 _ rfl;rcases Cb (mk&&fa) with hC | hC
   ·refine J0 hC (vE (.int .i64 b)) ?_;replace s22:=s22.1 hC;exact Dz rfl rfl sg (by first | rfl | simp [hC])
   ·exact J2 rfl rfl sg (by first | rfl | simp [hC]) (nW hC)),
    (λaF wF F=>by
   have sg:=F.v 8 21;have s23:((mk&&fa)=true->aF.tmps.getD 23 undef=(.int .i64 b))/\((mk&&fa)=false->aF.tmps.getD 23 undef=undef):=F.done 10 23 (by kernel_rfl) rfl;rcases Cb (mk&&fa) with hC | hC
   ·refine J0 hC (vE (.bool fb)) ?_;replace s23:=s23.1 hC;exact Bc ((Am rfl rfl sg).trans (by first | rfl | simp [hC])) (by (go_simp;exact FB.o)) rfl
   ·exact J2 rfl rfl sg (by first | rfl | simp [hC]) (nW hC)),
    (λaF wF F=>by
   have s21:=F.v 8 21;have s24:((mk&&fa)=true->aF.tmps.getD 24 undef=(.bool fb))/\((mk&&fa)=false->aF.tmps.getD 24 undef=undef):=F.done 11 24 (by kernel_rfl) rfl;rcases Cb (mk&&fa) with hE | hE
   ·replace s24:=s24.1 hE;exact sw (by first | (go_simp;done) | (go_simp;simp_all;done) | (simp_all;done)) rfl
   ·exact sw (by first | (go_simp;done) | (go_simp;simp_all;done) | (simp_all;done)) rfl),(gv 12 25),
    trivial⟩ ?_
  intro u w1 k1 hu;have p17:=hp hu 4;have p18:=hp hu 5;have p19:=hp hu 6;have p22:=hp hu 9;have p23:=hp hu 10;have p24:=hp hu 11;simp only [Bb,Ap,Act.put,Ep,hv hu 0,hv hu 1,hv hu 2,hv hu 3,hv hu 7,hv hu 8,hv hu 12,hv hu 13];clear hu;generalize u 4=v17,u 5=v18,u 6=v19,u 9=v22,u 10=v23,u 11=v24 at *;go_wp2_with fail;go_ret;exact ⟨rfl,K.o.trans k1⟩
 have g1:(op==1)=false:=by simp [h1]
 obtain ⟨fs,hfs⟩:∃ f,bk k rzI=f:=⟨_,rfl⟩;have MS2:=Ad (λw1 (q:Kept w w1)=>show Calls Tryz.prog 119 _ w1 (RetK (.bool fs) w1) by rw [<-hfs];exact MS.o w1 q);have em:Ix ⟨op,a,b,k⟩ i x u p=if fs=false then false else if op=2 then fa&&fb else if oI op=true then Cr a (Uv op x u p)&&fb else if Nd op=2 then Cr a i&&Cr b i else if Nd op=1 then Cr a i&&fb else false:=by
  rw [<-hfs,<-hfa,<-hfb];cases hs:bk k rzI
  ·rw [gn h1 hs,Ak rfl]
  ·rw [gj h1 hs];rfl
 have FA:=Ad hfa;have FB:=Ad hfb;clear hfs hfa hfb MK MS h1;obtain ⟨ip,hip⟩:∃ f,oI op=f:=⟨_,rfl⟩;obtain ⟨mm,hmm⟩:∃ f,Uv op x u p=f:=⟨_,rfl⟩;obtain ⟨pp,hpp⟩:∃ f,Nd op=f:=⟨_,rfl⟩;rw [hip,hmm] at ML;rw [hip,hmm,hpp] at em;have HP:=Ad (λw1=>show Calls Tryz.prog 65 #[.int .i64 op] w1 (RetK (.int .i64 pp) w1) by rw [<-hpp];exact nH op w1);clear hip hmm hpp;cases fs
 ·rw [Ak rfl] at em;rw [em];clear em;go_enter Tryz.func84,Tryz.ntmps84;go_upto_region 1 with fail;rw [<-HW.o];obtain ⟨c0,c1,c2,c3,c4,c5,c6,c7,c8⟩:=Cp HB.o;go_wp2_with fail;refine (MS2.o _ K.o).mono ?_;rintro e w1 ⟨rfl,q⟩;replace K:=Ad (K.o.trans q);have hb1:=(q.block _ (Bi HB.o).1).trans HB.o;replace HB:=Ad hb1;clear c0 c1 c2 c3 c4 c5 c6 c7 c8 q hb1 HW MS2;obtain ⟨c0,c1,c2,c3,c4,c5,c6,c7,c8⟩:=Cp HB.o;simp only [];go_wp2_with fail;go_ret;exact ⟨rfl,K.o⟩
 rw [Af (by decide)] at em;by_cases h2:op=2
 ·subst h2;rw [Ak rfl] at em;rw [em];clear em;go_enter Tryz.func84,Tryz.ntmps84;go_upto_region 1 with fail;rw [←HW.out];obtain ⟨c0,c1,c2,c3,c4,c5,c6,c7,c8⟩:=Cp HB.out;go_wp2_with fail;refine (MS2.out _ K.out).mono ?_;rintro e w1 ⟨rfl,q⟩;replace K:=Ad (K.out.trans q);have hb1:=(q.block _ (Bi HB.out).1).trans HB.out;replace HB:=Ad hb1;clear c0 c1 c2 c3 c4 c5 c6 c7 c8 q hb1 HW MS2;obtain ⟨c0,c1,c2,c3,c4,c5,c6,c7,c8⟩:=Cp HB.out;simp only [];have hlk:=ML.out w1 K.out;clear ML;go_wp2_with fail;refine (HP.out w1).mono ?_;rintro e w2 ⟨rfl,q⟩;replace K:=Ad (K.out.trans q)
  have hb1:=(q.block _ (Bi HB.o).1).trans HB.o;replace HB:=Ad hb1;clear c0 c1 c2 c3 c4 c5 c6 c7 c8 q hb1 HP hlk;obtain ⟨c0,c1,c2,c3,c4,c5,c6,c7,c8⟩:=Cp HB.o;simp only [];go_upto_region 8 with fail;clear c0 c1 c2 c3 c4 c5 c6 c7 c8
  refine rS 9 ([(vP w.heap.size 1),(vE (.int .i64 a)),(vE (.bool fa)),(vE (.bool fa)),(λv wv=>(fa=true->(λv _=>v=(.pointer (some ⟨w.heap.size,2,none⟩))) v wv)/\(fa=false->v=undef)),(λv wv=>(fa=true->(λv _=>v=(.int .i64 b)) v wv)/\(fa=false->v=undef)),(λv wv=>(fa=true->(λv _=>v=(.bool fb)) v wv)/\(fa=false->v=undef)),(vE (.bool (fa&&fb))),(vE (.bool (fa&&fb)))])
   ⟨
    (gq 3),(Ie 0 45 λ_ k=>Ai HB.o k 1 _ rfl),(λaF wF F=>by have s46:=F.v 1 46;exact sw (by (go_simp;exact FA.o)) rfl),(gv 2 47),
    (λaF wF F=>by
   have sg:=F.v 3 48;have s3:=F.q 3 (.pointer (some ⟨w.heap.size,0,none⟩));rcases Cb fa with hC | hC
   ·refine J0 hC (vE (.pointer (some ⟨w.heap.size,2,none⟩))) ?_;exact Dz rfl rfl sg (by first | rfl | simp [hC])
   ·exact J2 rfl rfl sg (by first | rfl | simp [hC]) (nW hC)),
    (λaF wF F=>by
   have sg:=F.v 3 48;have s49:(fa=true->aF.tmps.getD 49 undef=(.pointer (some ⟨w.heap.size,2,none⟩)))/\(fa=false->aF.tmps.getD 49 undef=undef):=F.done 4 49 (by kernel_rfl) rfl;have c0:=Ai HB.o F.kept 2 _ rfl;rcases Cb fa with hC | hC
   ·refine J0 hC (vE (.int .i64 b)) ?_;replace s49:=s49.1 hC;exact Dz rfl rfl sg (by first | rfl | simp [hC])
   ·exact J2 rfl rfl sg (by first | rfl | simp [hC]) (nW hC)),
    (λaF wF F=>by
   have sg:=F.v 3 48;have s50:(fa=true->aF.tmps.getD 50 undef=(.int .i64 b))/\(fa=false->aF.tmps.getD 50 undef=undef):=F.done 5 50 (by kernel_rfl) rfl;rcases Cb fa with hC | hC
   ·refine J0 hC (vE (.bool fb)) ?_;replace s50:=s50.1 hC;exact Bc ((Am rfl rfl sg).trans (by first | rfl | simp [hC])) (by (go_simp;exact FB.o)) rfl
   ·exact J2 rfl rfl sg (by first | rfl | simp [hC]) (nW hC)),
    (λaF wF F=>by
   have s48:=F.v 3 48;have s51:(fa=true->aF.tmps.getD 51 undef=(.bool fb))/\(fa=false->aF.tmps.getD 51 undef=undef):=F.done 6 51 (by kernel_rfl) rfl;rcases Cb fa with hE | hE
   ·replace s51:=s51.1 hE;exact sw (by first | (go_simp;done) | (go_simp;simp_all;done) | (simp_all;done)) rfl
   ·exact sw (by first | (go_simp;done) | (go_simp;simp_all;done) | (simp_all;done)) rfl),(gv 7 52),
    trivial⟩ ?_
  intro u w1 k1 hu;have p49:=hp hu 4;have p50:=hp hu 5;have p51:=hp hu 6;simp only [Bb,Ap,Act.put,Ep,hv hu 0,hv hu 1,hv hu 2,hv hu 3,hv hu 7,hv hu 8];clear hu;generalize u 4=v49,u 5=v50,u 6=v51 at *;go_wp2_with fail;go_ret;exact ⟨rfl,K.o.trans k1⟩
 have g2:(op==2)=false:=by simp [h2]
 rw [Af h2] at em;clear h2;cases ip
 ·rw [Af    (by decide)] at em;by_cases p2:pp=2
  ·subst p2;rw [Ak rfl] at em;rw [em];clear em;obtain ⟨ba,hba⟩:∃ f,Cr a i=f:=⟨_,rfl⟩;obtain ⟨bb,hbb⟩:∃ f,Cr b i=f:=⟨_,rfl⟩;have BA:=Ad (fun w1=>Qv a i w1);have BB:=Ad (fun w1=>Qv b i w1);rw [hba] at BA ⊢;rw [hbb] at BB ⊢;clear hba hbb;go_enter Tryz.func84,Tryz.ntmps84;go_upto_region 1 with fail;rw [←HW.out];obtain ⟨c0,c1,c2,c3,c4,c5,c6,c7,c8⟩:=Cp HB.out;go_wp2_with fail;refine (MS2.out _ K.out).mono ?_;rintro e w1 ⟨rfl,q⟩;replace K:=Ad (K.out.trans q);have hb1:=(q.block _ (Bi HB.out).1).trans HB.out;replace HB:=Ad hb1;clear c0 c1 c2 c3 c4 c5 c6 c7 c8 q hb1 HW MS2
   obtain ⟨c0,c1,c2,c3,c4,c5,c6,c7,c8⟩:=Cp HB.o;simp only [];have hlk:=ML.o w1 K.o;clear ML;go_wp2_with fail;refine (HP.o w1).mono ?_;rintro e w2 ⟨rfl,q⟩;replace K:=Ad (K.o.trans q);have hb1:=(q.block _ (Bi HB.o).1).trans HB.o;replace HB:=Ad hb1;clear c0 c1 c2 c3 c4 c5 c6 c7 c8 q hb1 HP hlk;obtain ⟨c0,c1,c2,c3,c4,c5,c6,c7,c8⟩:=Cp HB.o;simp only [];go_upto_region 12 with fail;clear c0 c1 c2 c3 c4 c5 c6 c7 c8
   refine rS 11 ([(vP w.heap.size 1),(vE (.int .i64 a)),(vE (.int .i64 i)),(vE (.bool ba)),(vE (.bool ba)),(λv wv=>(ba=true->(λv _=>v=(.pointer (some ⟨w.heap.size,2,none⟩))) v wv)/\(ba=false->v=undef)),(λv wv=>(ba=true->(λv _=>v=(.int .i64 b)) v wv)/\(ba=false->v=undef)),(λv wv=>(ba=true->(λv _=>v=(.int .i64 i)) v wv)/\(ba=false->v=undef)),(λv wv=>(ba=true->(λv _=>v=(.bool bb)) v wv)/\(ba=false->v=undef)),(vE (.bool (ba&&bb))),(vE (.bool (ba&&bb)))])
    ⟨
     (gq 3),(Ie 0 67 λ_ k=>Ai HB.o k 1 _ rfl),(gq 1),(λaF wF F=>by have s68:=F.v 1 68;have s69:=F.v 2 69;exact sK (BA.o _) λ_ _ h=>h),(gv 3 70),
     (λaF wF F=>by
    have sg:=F.v 4 71;have s3:=F.q 3 (.pointer (some ⟨w.heap.size,0,none⟩));rcases Cb ba with hC | hC
    ·refine J0 hC (vE (.pointer (some ⟨w.heap.size,2,none⟩))) ?_;exact Dz rfl rfl sg (by first | rfl | simp [hC])
    ·exact J2 rfl rfl sg (by first | rfl | simp [hC]) (nW hC)),
     (λaF wF F=>by
    have sg:=F.v 4 71;have s72:(ba=true->aF.tmps.getD 72 undef=(.pointer (some ⟨w.heap.size,2,none⟩)))/\(ba=false->aF.tmps.getD 72 undef=undef):=F.done 5 72 (by kernel_rfl) rfl;have c0:=Ai HB.o F.kept 2 _ rfl;rcases Cb ba with hC | hC
    ·refine J0 hC (vE (.int .i64 b)) ?_;replace s72:=s72.1 hC;exact Dz rfl rfl sg (by first | rfl | simp [hC])
    ·exact J2 rfl rfl sg (by first | rfl | simp [hC]) (nW hC)),
     (λaF wF F=>by
    have sg:=F.v 4 71;have s1:=F.q 1 (.int .i64 i);rcases Cb ba with hC | hC
    ·refine J0 hC (vE (.int .i64 i)) ?_;exact Dz rfl rfl sg (by first | rfl | simp [hC])
    ·exact J2 rfl rfl sg (by first | rfl | simp [hC]) (nW hC)),
     (λaF wF F=>by
    have sg:=F.v 4 71;have s73:(ba=true->aF.tmps.getD 73 undef=(.int .i64 b))/\(ba=false->aF.tmps.getD 73 undef=undef):=F.done 6 73 (by kernel_rfl) rfl;have s74:(ba=true->aF.tmps.getD 74 undef=(.int .i64 i))/\(ba=false->aF.tmps.getD 74 undef=undef):=F.done 7 74 (by kernel_rfl) rfl;rcases Cb ba with hC | hC
    ·refine J0 hC (vE (.bool bb)) ?_;replace s73:=s73.1 hC;replace s74:=s74.1 hC;exact Ax ((Am rfl rfl sg).trans (by first | rfl | simp [hC])) (by go_simp) (BB.o _) (λ_ _ h=>RetK.good h) (λ_ _ h=>h)
    ·exact J2 rfl rfl sg (by first | rfl | simp [hC]) (nW hC)),
     (λaF wF F=>by
    have s71:=F.v 4 71;have s75:(ba=true->aF.tmps.getD 75 undef=(.bool bb))/\(ba=false->aF.tmps.getD 75 undef=undef):=F.done 8 75 (by kernel_rfl) rfl;rcases Cb ba with hE | hE
    ·replace s75:=s75.1 hE;exact sw (by first | (go_simp;done) | (go_simp;simp_all;done) | (simp_all;done)) rfl
    ·exact sw (by first | (go_simp;done) | (go_simp;simp_all;done) | (simp_all;done)) rfl),(gv 9 76),
     trivial⟩ ?_
   intro u w1 k1 hu;have p72:=hp hu 5;have p73:=hp hu 6;have p74:=hp hu 7;have p75:=hp hu 8;simp only [Bb,Ap,Act.put,Ep,hv hu 0,hv hu 1,hv hu 2,hv hu 3,hv hu 4,hv hu 9,hv hu 10];clear hu;generalize u 5=v72,u 6=v73,u 7=v74,u 8=v75 at *;go_wp2_with fail;go_ret;exact ⟨rfl,K.o.trans k1⟩
  have q2:(pp==2)=false:=by simp [p2]
  rw [Af p2] at em;clear p2;by_cases p1:pp=1
  ·subst p1;rw [Ak rfl] at em;rw [em];clear em;obtain ⟨ba,hba⟩:∃ f,Cr a i=f:=⟨_,rfl⟩;have BA:=Ad (fun w1=>Qv a i w1);rw [hba] at BA ⊢;clear hba;go_enter Tryz.func84,Tryz.ntmps84;go_upto_region 1 with fail;rw [←HW.out];obtain ⟨c0,c1,c2,c3,c4,c5,c6,c7,c8⟩:=Cp HB.out;go_wp2_with fail;refine (MS2.out _ K.out).mono ?_;rintro e w1 ⟨rfl,q⟩;replace K:=Ad (K.out.trans q);have hb1:=(q.block _ (Bi HB.out).1).trans HB.out;replace HB:=Ad hb1;clear c0 c1 c2 c3 c4 c5 c6 c7 c8 q hb1 HW MS2;obtain ⟨c0,c1,c2,c3,c4,c5,c6,c7,c8⟩:=Cp HB.out;simp only [];have hlk:=ML.out w1 K.out
   clear ML;go_wp2_with fail;refine (HP.o w1).mono ?_;rintro e w2 ⟨rfl,q⟩;replace K:=Ad (K.o.trans q);have hb1:=(q.block _ (Bi HB.o).1).trans HB.o;replace HB:=Ad hb1;clear c0 c1 c2 c3 c4 c5 c6 c7 c8 q hb1 HP hlk;obtain ⟨c0,c1,c2,c3,c4,c5,c6,c7,c8⟩:=Cp HB.o;simp only [];go_upto_region 14 with fail;clear c0 c1 c2 c3 c4 c5 c6 c7 c8
   refine rS 10 ([(vP w.heap.size 1),(vE (.int .i64 a)),(vE (.int .i64 i)),(vE (.bool ba)),(vE (.bool ba)),(λv wv=>(ba=true->(λv _=>v=(.pointer (some ⟨w.heap.size,2,none⟩))) v wv)/\(ba=false->v=undef)),(λv wv=>(ba=true->(λv _=>v=(.int .i64 b)) v wv)/\(ba=false->v=undef)),(λv wv=>(ba=true->(λv _=>v=(.bool fb)) v wv)/\(ba=false->v=undef)),(vE (.bool (ba&&fb))),(vE (.bool (ba&&fb)))])
    ⟨
     (gq 3),(Ie 0 80 λ_ k=>Ai HB.o k 1 _ rfl),(gq 1),(λaF wF F=>by have s81:=F.v 1 81;have s82:=F.v 2 82;exact sK (BA.o _) λ_ _ h=>h),(gv 3 83),
     (λaF wF F=>by
    have sg:=F.v 4 84;have s3:=F.q 3 (.pointer (some ⟨w.heap.size,0,none⟩));rcases Cb ba with hC | hC
    ·refine J0 hC (vE (.pointer (some ⟨w.heap.size,2,none⟩))) ?_;exact Dz rfl rfl sg (by first | rfl | simp [hC])
    ·exact J2 rfl rfl sg (by first | rfl | simp [hC]) (nW hC)),
     (λaF wF F=>by
    have sg:=F.v 4 84;have s85:(ba=true->aF.tmps.getD 85 undef=(.pointer (some ⟨w.heap.size,2,none⟩)))/\(ba=false->aF.tmps.getD 85 undef=undef):=F.done 5 85 (by kernel_rfl) rfl;have c0:=Ai HB.o F.kept 2 _ rfl;rcases Cb ba with hC | hC
    ·refine J0 hC (vE (.int .i64 b)) ?_;replace s85:=s85.1 hC;exact Dz rfl rfl sg (by first | rfl | simp [hC])
    ·exact J2 rfl rfl sg (by first | rfl | simp [hC]) (nW hC)),
     (λaF wF F=>by
    have sg:=F.v 4 84;have s86:(ba=true->aF.tmps.getD 86 undef=(.int .i64 b))/\(ba=false->aF.tmps.getD 86 undef=undef):=F.done 6 86 (by kernel_rfl) rfl;rcases Cb ba with hC | hC
    ·refine J0 hC (vE (.bool fb)) ?_;replace s86:=s86.1 hC;exact Bc ((Am rfl rfl sg).trans (by first | rfl | simp [hC])) (by (go_simp;exact FB.o)) rfl
    ·exact J2 rfl rfl sg (by first | rfl | simp [hC]) (nW hC)),
     (λaF wF F=>by
    have s84:=F.v 4 84;have s87:(ba=true->aF.tmps.getD 87 undef=(.bool fb))/\(ba=false->aF.tmps.getD 87 undef=undef):=F.done 7 87 (by kernel_rfl) rfl;rcases Cb ba with hE | hE
    ·replace s87:=s87.1 hE;exact sw (by first | (go_simp;done) | (go_simp;simp_all;done) | (simp_all;done)) rfl
    ·exact sw (by first | (go_simp;done) | (go_simp;simp_all;done) | (simp_all;done)) rfl),(gv 8 88),
     trivial⟩ ?_
   intro u w1 k1 hu;have p85:=hp hu 5;have p86:=hp hu 6;have p87:=hp hu 7;simp only [Bb,Ap,Act.put,Ep,hv hu 0,hv hu 1,hv hu 2,hv hu 3,hv hu 4,hv hu 8,hv hu 9];clear hu;generalize u 5=v85,u 6=v86,u 7=v87 at *;go_wp2_with fail;go_ret;exact ⟨rfl,K.o.trans k1⟩
  have q1:(pp==1)=false:=by simp [p1]
  rw [Af p1] at em;rw [em];clear em;go_enter Tryz.func84,Tryz.ntmps84;go_upto_region 1 with fail;rw [<-HW.o];obtain ⟨c0,c1,c2,c3,c4,c5,c6,c7,c8⟩:=Cp HB.o;go_wp2_with fail;refine (MS2.o _ K.o).mono ?_;rintro e w1 ⟨rfl,q⟩;replace K:=Ad (K.o.trans q);have hb1:=(q.block _ (Bi HB.o).1).trans HB.o;replace HB:=Ad hb1;clear c0 c1 c2 c3 c4 c5 c6 c7 c8 q hb1 HW MS2;obtain ⟨c0,c1,c2,c3,c4,c5,c6,c7,c8⟩:=Cp HB.o;simp only [];have hlk:=ML.o w1 K.o;clear ML;go_wp2_with fail;refine (HP.o w1).mono ?_;rintro e w2 ⟨rfl,q⟩;replace K:=Ad (K.o.trans q)
  have hb1:=(q.block _ (Bi HB.o).1).trans HB.o;replace HB:=Ad hb1;clear c0 c1 c2 c3 c4 c5 c6 c7 c8 q hb1 HP hlk;obtain ⟨c0,c1,c2,c3,c4,c5,c6,c7,c8⟩:=Cp HB.o;simp only [];go_wp2_with fail;go_ret;exact ⟨rfl,K.o⟩
 ·rw [Ak rfl] at em;rw [em];clear em;obtain ⟨ba,hba⟩:∃ f,Cr a mm=f:=⟨_,rfl⟩;have BA:=Ad (fun w1=>Qv a mm w1);rw [hba] at BA ⊢;clear hba;go_enter Tryz.func84,Tryz.ntmps84;go_upto_region 1 with fail;rw [←HW.out];obtain ⟨c0,c1,c2,c3,c4,c5,c6,c7,c8⟩:=Cp HB.out;go_wp2_with fail;refine (MS2.out _ K.out).mono ?_;rintro e w1 ⟨rfl,q⟩;replace K:=Ad (K.out.trans q);have hb1:=(q.block _ (Bi HB.out).1).trans HB.out;replace HB:=Ad hb1;clear c0 c1 c2 c3 c4 c5 c6 c7 c8 q hb1 HW MS2;obtain ⟨c0,c1,c2,c3,c4,c5,c6,c7,c8⟩:=Cp HB.out;simp only [];have hlk:=ML.out w1 K.out
  clear ML;go_wp2_with fail;refine (HP.o w1).mono ?_;rintro e w2 ⟨rfl,q⟩;replace K:=Ad (K.o.trans q);have hb1:=(q.block _ (Bi HB.o).1).trans HB.o;replace HB:=Ad hb1;clear c0 c1 c2 c3 c4 c5 c6 c7 c8 q hb1 HP hlk;obtain ⟨c0,c1,c2,c3,c4,c5,c6,c7,c8⟩:=Cp HB.o;simp only [];go_upto_region 10 with fail;clear c0 c1 c2 c3 c4 c5 c6 c7 c8
  refine rS 10 ([(vP w.heap.size 1),(vE (.int .i64 a)),(vE (.int .i64 mm)),(vE (.bool ba)),(vE (.bool ba)),(λv wv=>(ba=true->(λv _=>v=(.pointer (some ⟨w.heap.size,2,none⟩))) v wv)/\(ba=false->v=undef)),(λv wv=>(ba=true->(λv _=>v=(.int .i64 b)) v wv)/\(ba=false->v=undef)),(λv wv=>(ba=true->(λv _=>v=(.bool fb)) v wv)/\(ba=false->v=undef)),(vE (.bool (ba&&fb))),(vE (.bool (ba&&fb)))])
   ⟨
    (gq 3),(Ie 0 55 λ_ k=>Ai HB.o k 1 _ rfl),(gq 7),(λaF wF F=>by have s56:=F.v 1 56;have s57:=F.v 2 57;exact sK (BA.o _) λ_ _ h=>h),(gv 3 58),
    (λaF wF F=>by
   have sg:=F.v 4 59;have s3:=F.q 3 (.pointer (some ⟨w.heap.size,0,none⟩));rcases Cb ba with hC | hC
   ·refine J0 hC (vE (.pointer (some ⟨w.heap.size,2,none⟩))) ?_;exact Dz rfl rfl sg (by first | rfl | simp [hC])
   ·exact J2 rfl rfl sg (by first | rfl | simp [hC]) (nW hC)),
    (λaF wF F=>by
   have sg:=F.v 4 59;have s60:(ba=true->aF.tmps.getD 60 undef=(.pointer (some ⟨w.heap.size,2,none⟩)))/\(ba=false->aF.tmps.getD 60 undef=undef):=F.done 5 60 (by kernel_rfl) rfl;have c0:=Ai HB.o F.kept 2 _ rfl;rcases Cb ba with hC | hC
   ·refine J0 hC (vE (.int .i64 b)) ?_;replace s60:=s60.1 hC;exact Dz rfl rfl sg (by first | rfl | simp [hC])
   ·exact J2 rfl rfl sg (by first | rfl | simp [hC]) (nW hC)),
    (λaF wF F=>by
   have sg:=F.v 4 59;have s61:(ba=true->aF.tmps.getD 61 undef=(.int .i64 b))/\(ba=false->aF.tmps.getD 61 undef=undef):=F.done 6 61 (by kernel_rfl) rfl;rcases Cb ba with hC | hC
   ·refine J0 hC (vE (.bool fb)) ?_;replace s61:=s61.1 hC;exact Bc ((Am rfl rfl sg).trans (by first | rfl | simp [hC])) (by (go_simp;exact FB.o)) rfl
   ·exact J2 rfl rfl sg (by first | rfl | simp [hC]) (nW hC)),
    (λaF wF F=>by
   have s59:=F.v 4 59;have s62:(ba=true->aF.tmps.getD 62 undef=(.bool fb))/\(ba=false->aF.tmps.getD 62 undef=undef):=F.done 7 62 (by kernel_rfl) rfl;rcases Cb ba with hE | hE
   ·replace s62:=s62.1 hE;exact sw (by first | (go_simp;done) | (go_simp;simp_all;done) | (simp_all;done)) rfl
   ·exact sw (by first | (go_simp;done) | (go_simp;simp_all;done) | (simp_all;done)) rfl),(gv 8 63),
    trivial⟩ ?_
  intro u w1 k1 hu;have p60:=hp hu 5;have p61:=hp hu 6;have p62:=hp hu 7;simp only [Bb,Ap,Act.put,Ep,hv hu 0,hv hu 1,hv hu 2,hv hu 3,hv hu 4,hv hu 8,hv hu 9];clear hu;generalize u 5=v60,u 6=v61,u 7=v62 at *;go_wp2_with fail;go_ret;exact ⟨rfl,K.o.trans k1⟩
structure Rg (d:Dy) (A B:Int):Prop where
 ok:d.Ok
 lo:d.m≠0->-A<=d.e
 hi:d.m≠0->bl d.m+d.e<=B
theorem Rg.zero (A B:Int):Rg dz A B:=⟨Nq,λh=>absurd rfl h,λh=>absurd rfl h⟩
theorem Rg.mono (h:Rg d A B)(hA:A<=A')(hB:B<=B'):Rg d A' B':=⟨h.ok,λh0=>by have:=h.lo h0;omega,λh0=>by have:=h.hi h0;omega⟩
theorem Yl (h1:n≠0->-A<=e)(h2:n≠0->bl n+e<=B)(hb:bl n<=4000)(hA:A<=100000)(hB:B<=100000) :
 (Ck neg n e).k=0/\Rg (Ck neg n e).v A B:=by
 have ok:=(E6 neg n e).1;by_cases h0:n=0
 ·subst h0;exact ⟨rfl,Rg.zero _ _⟩
 ·have h1:=h1 h0;have h2:=h2 h0;have ht:tz n<bl n:=O0 n (bl n) h0 (Bm n);have hd:bl (n/2^tz n)=bl n-tz n:=N1 _ _;have hl:(Al (n/2^tz n)).length<=64:=Ph (k:=64) (by omega);unfold Ck at ok ⊢;rw [Af h0,Af (by omega),Af (by omega),Af (by omega)] at ok ⊢;exact ⟨rfl,ok,λ_=>by show -A<=e+tz n;omega,λ_=>by show (bl (n/2^tz n):Int)+(e+tz n)<=B;omega⟩
theorem Yd (h1:m≠0->-A<=e)(h2:m≠0->bl m+e<=B)(h0:rest=true->p<bl m)(hp:p<=2000)(hA:A<=100000)(hB:B<=99999) :
 (Kc neg m e rest p up).k=0/\Rg (Kc neg m e rest p up).v A (B+1):=by
 unfold Kc;have hb:bl (m/2^(bl m-p))=bl m-(bl m-p):=N1 _ _;have h2':Fd m rest p (up != neg)<=m/2^(bl m-p)+1:=by
  unfold Fd Jx;simp only;split<;>omega
 have h3:=Bm (m/2^(bl m-p));have h6:bl (Fd m rest p (up != neg))<=bl (m/2^(bl m-p))+1:=Gl _ _ (by
  have:=Nat.two_pow_succ (bl (m/2^(bl m-p)));have:=Nat.two_pow_pos (bl (m/2^(bl m-p)));generalize m/2^(bl m-p)=z at *;omega)
 by_cases hm:m=0
 ·have hr:rest=false:=by
   cases rest with
   | false=>rfl
   | true=>have:=h0 rfl;rw [hm,Hi] at this;omega
  subst hm hr;have:Fd 0 false p (up != neg)=0:=by unfold Fd Jx;simp [bl]
  rw [this];exact ⟨rfl,Rg.zero _ _⟩
 ·have:=h1 hm;have:=h2 hm;exact Yl (λ_=>by omega) (λ_=>by omega) (by omega) hA (by omega)
theorem eG (h:Rg d A B)(hp:p<=2000)(hA:A<=100000)(hB:B<=99999):(Dj d p up).k=0/\Rg (Dj d p up).v A (B+1) :=
 Yd h.lo h.hi (λh=>by cases h) hp hA hB
theorem Te {x y:Nat}(h:y≠0):bl (x/y)<=bl x-(bl y-1):=by
 have hy:2^(bl y-1)<=y:=D9 y h;rw [<-N1];exact Ka (Nat.div_le_div_left hy (Nat.two_pow_pos _))
theorem Rh {a b:Dy}(ha:Rg a A B)(hb:Rg b A' B')(hm:b.m≠0)(hp:p<=1900)(hA:A+B'+p+1<=100000)(hB:B+A'+1<=99999) :
 (Bg a b p up).k=0/\Rg (Bg a b p up).v (A+B'+p+1) (B+A'+2):=by
 have b1:=hb.lo hm;have b2:=hb.hi hm;have bp:=Df _ hm;unfold Bg;have e:B+A'+2=(B+A'+1)+1:=by omega
 rw [e];by_cases h1:a.m=0
 ·rw [h1,Nat.zero_mul];refine Yd (λh=>absurd (Nat.zero_div _) h) (λh=>absurd (Nat.zero_div _) h) (λh=>?_) (by omega) hA hB;simp at h
 ·have a1:=ha.lo h1;have a2:=ha.hi h1;have ap:=Df _ h1;have hK:Ce a b p=p+1+bl b.m-bl a.m:=rfl;have hq:=Ri a.m b.m p h1 hm (Ce a b p) (by omega);have hk:bl (2^Ce a b p)<=Ce a b p+1:=Gl _ _ (Nat.pow_lt_pow_right (by decide) (by omega));have hm2:=I0 (Aq (bl a.m)) hk;have hd:=Te (x:=a.m*2^Ce a b p) hm;refine Yd (λ_=>by omega) (λ_=>by omega) (λ_=>hq) (by omega) hA hB
structure RgI (a:Iv) (A B:Int):Prop where
 lo:Rg a.lo A B
 hi:Rg a.hi A B
theorem RgI.mono (h:RgI a A B)(hA:A<=A')(hB:B<=B'):RgI a A' B':=⟨h.lo.mono hA hB,h.hi.mono hA hB⟩
theorem RgI.pt (h:Rg d A B):RgI (pt d) A B:=⟨h,h⟩
def GoodI (o:Outc Iv) (A B:Int):Prop:=o.k=0/\RgI o.v A B
theorem GoodI.mono {o:Outc Iv}(h:GoodI o A B)(hA:A<=A')(hB:B<=B'):GoodI o A' B':=⟨h.1,h.2.mono hA hB⟩
theorem mw {lo hi:Outc Dy}(h1:lo.k=0/\Rg lo.v A B)(h2:hi.k=0/\Rg hi.v A B):GoodI (Gp lo hi) A B:=by
 unfold Gp;rw [Outc.bind_of _ _ h1.1,Outc.bind_of _ _ h2.1];exact ⟨rfl,h1.2,h2.2⟩
theorem Xk (ha:RgI a A B)(hp:p<=2000)(hA:A<=100000)(hB:B<=99990):GoodI (Bk a p) A (B+1) :=
 mw (eG ha.lo hp hA (by omega)) (eG ha.hi hp hA (by omega))
theorem fY {x y z u:Dy}(hx:Rg x A B)(hy:Rg y A B)(hz:Rg z A B)(hu:Rg u A B):Rg (Ci x [x,y,z,u]) A B:=by
 rcases Qi (x:=x) (y:=y) (z:=z) (u:=u) with h | h | h | h<;>rw [h]<;>assumption
theorem Yo {x y z u:Dy}(hx:Rg x A B)(hy:Rg y A B)(hz:Rg z A B)(hu:Rg u A B):Rg (Bd x [x,y,z,u]) A B:=by
 rcases Ly (x:=x) (y:=y) (z:=z) (u:=u) with h | h | h | h<;>rw [h]<;>assumption
theorem mg (ha:RgI a A B)(hb:RgI b A' B')(ob:b.Ok)(hz:¬D4 b=true)(hp:p<=1900)(hA:A+B'+p+1<=100000)(hB:B+A'+1<=99999) :
 GoodI (Cm a b p) (A+B'+p+1) (B+A'+2):=by
 obtain ⟨n1,n2⟩:=Kq ob hz;unfold Cm;rw [Af hz];have q:=λup=>Rh (up:=up) ha.lo hb.lo n1 hp hA hB
 have q2:=λup=>Rh (up:=up) ha.lo hb.hi n2 hp hA hB
 have q3:=λup=>Rh (up:=up) ha.hi hb.lo n1 hp hA hB
 have q4:=λup=>Rh (up:=up) ha.hi hb.hi n2 hp hA hB
 rw [ak (q false).1 (q2 false).1 (q3 false).1 (q4 false).1,ak (q true).1 (q2 true).1 (q3 true).1 (q4 true).1];exact ⟨rfl,fY (q false).2 (q2 false).2 (q3 false).2 (q4 false).2,Yo (q true).2 (q2 true).2 (q3 true).2 (q4 true).2⟩
def In (x:Rat) (a:Iv):Prop:=a.lo.q<=x/\x<=a.hi.q
theorem oE (d:Dy):In d.q (pt d):=⟨Rat.le_refl,Rat.le_refl⟩
theorem Xj (hp:1<=p)(hk:(Bk a p).k=0)(hx:In x a):In x (Bk a p).v:=by
 unfold Bk at *;obtain ⟨h1,h2,h3⟩:=Mz hk;rw [h3];have:=(Fi hp h1).le;have:=(Ib hp h2).le;obtain ⟨x1,x2⟩:=hx;exact ⟨by show (Dj a.lo p false).v.q<=x;grind,by show x<=(Dj a.hi p true).v.q;grind⟩
theorem Uq (hx:0<x)(h:x<=y):y⁻¹<=x⁻¹:=by
 have hy:0<y:=by grind
 have hx':=Rat.inv_pos.2 hx;have hy':=Rat.inv_pos.2 hy;have e1:x*x⁻¹=1:=Rat.mul_inv_cancel _ (by grind);have e2:y*y⁻¹=1:=Rat.mul_inv_cancel _ (by grind);have h1:x*(x⁻¹*y⁻¹)<=y*(x⁻¹*y⁻¹):=Rat.mul_le_mul_of_nonneg_right h (Rat.le_of_lt (Rat.mul_pos hx' hy'));have e3:x*(x⁻¹*y⁻¹)=y⁻¹:=by rw [<-Rat.mul_assoc,e1,Rat.one_mul]
 have e4:y*(x⁻¹*y⁻¹)=x⁻¹:=by rw [Rat.mul_comm x⁻¹,<-Rat.mul_assoc,e2,Rat.one_mul]
 rw [e3,e4] at h1;exact h1
theorem Xa (hy:y<0)(h:x<=y):y⁻¹<=x⁻¹:=by
 have h1:=Uq (x:=-y) (y:=-x) (by grind) (by grind);have e:∀ z:Rat,z≠0->(-z)⁻¹=-(z⁻¹):=by intro z hz;grind
 rw [e x (by grind),e y (by grind)] at h1;grind
theorem pG (ob:b.Ok)(hp:1<=p)(hk:(Cm a b p).k=0)(hx:In x a)(hy:In y b):In (x/y) (Cm a b p).v:=by
 unfold Cm at hk ⊢;by_cases hz:D4 b=true
 ·rw [Ak hz] at hk;exact absurd hk (by decide)
 ·rw [Af hz] at hk ⊢;obtain ⟨n1,n2⟩:=Kq ob hz;have hz':¬(b.lo.q≤0∧0≤b.hi.q):=fun h=>hz ((Hs b).2 h)
  obtain ⟨k1,k2,k3,k4,e⟩:=Q0 hk;rw [e] at hk ⊢;obtain ⟨k5,k6,k7,k8,e⟩:=Q0 hk;rw [e];obtain ⟨l1,l2,l3,l4⟩:=Ur (x:=(Bg a.lo b.lo p false).v) (y:=(Bg a.lo b.hi p false).v) (z:=(Bg a.hi b.lo p false).v) (u:=(Bg a.hi b.hi p false).v);obtain ⟨g1,g2,g3,g4⟩:=L9 (x:=(Bg a.lo b.lo p true).v) (y:=(Bg a.lo b.hi p true).v) (z:=(Bg a.hi b.lo p true).v) (u:=(Bg a.hi b.hi p true).v);have c1:=(F4 hp n1 k1).le;have c2:=(F4 hp n2 k2).le;have c3:=(F4 hp n1 k3).le;have c4:=(F4 hp n2 k4).le;have c5:=(Ig hp n1 k5).le;have c6:=(Ig hp n2 k6).le
  have c7:=(Ig hp n1 k7).le;have c8:=(Ig hp n2 k8).le;have hle:=ob.le;obtain ⟨y1,y2⟩:=hy;have inv:b.hi.q⁻¹<=y⁻¹/\y⁻¹<=b.lo.q⁻¹:=by
   by_cases hpos:0<b.lo.q
   ·exact ⟨Uq (by grind) y2,Uq hpos y1⟩
   ·have hneg:b.hi.q<0:=by grind
    exact ⟨Xa hneg y2,Xa (by grind) y1⟩
  show (Ci _ _).q<=x/y/\x/y<=(Bd _ _).q
  simp only [Rat.div_def] at c1 c2 c3 c4 c5 c6 c7 c8 ⊢;generalize Ci _ _=L at *;generalize Bd _ _=H at *;exact ⟨o7 hx.1 hx.2 inv.1 inv.2 (by grind) (by grind) (by grind) (by grind),pe hx.1 hx.2 inv.1 inv.2 (by grind) (by grind) (by grind) (by grind)⟩
section
variable {P:Program} {ops:Array Oper} {Q:Exit->Act->World->Prop} {md:Region.Mode}
def Ny (P:Program) (ops:Array Oper) (Q:Exit->Act->World->Prop) (J:(Nat->Bool)->World->Prop) (V:Nat->Value->World->Prop) (G:(Nat->Bool)->(Nat->Value)->World->Prop) (L:Nat->Bool) (u:Nat->Value) (i:Nat) (o:Oper) (a:Act) (w:World):Prop :=
 if Region.wanted o (yielded ops a.tmps)=true then o.wp P a w (λa' w'=>∃ v,a'=a.put o.dst v/\(J (Fg L i true) w'/\∀ j,j≠i->∀ u,V j u w->V j u w')/\V i v w'/\G (Fg L i true) (Fg u i v) w') Q
  else J (Fg L i true) w/\V i undef w/\G (Fg L i true) (Fg u i undef) w
theorem Vo {J:(Nat->Bool)->World->Prop}{V:Nat->Value->World->Prop}{G:(Nat->Bool)->(Nat->Value)->World->Prop}{L:Nat->Bool}{u:Nat->Value}{i:Nat}{o:Oper}{a:Act}{w w':World}{v:Value}(hw:Region.wanted o (yielded ops a.tmps)=true)
 (h:(execOp a.eval o).run P w=.ok (.value v) w') (hJ:J (Fg L i true) w') (hV:∀ j,j≠i->∀ u,V j u w->V j u w') (hv:V i v w') (hG:G (Fg L i true) (Fg u i v) w'):Ny P ops Q J V G L u i o a w:=by
 unfold Ny;rw [Ak hw];unfold Oper.wp;rw [h];exact ⟨v,rfl,⟨hJ,hV⟩,hv,hG⟩
theorem Rl {J:(Nat->Bool)->World->Prop}{V:Nat->Value->World->Prop}{G:(Nat->Bool)->(Nat->Value)->World->Prop}{L:Nat->Bool}{u:Nat->Value}{i:Nat}{o:Oper}{a:Act}{w w':World}(hw:Region.wanted o (yielded ops a.tmps)=true)
 (h:(execOp a.eval o).run P w=.ok .skip w') (hJ:J (Fg L i true) w') (hV:∀ j,j≠i->∀ u,V j u w->V j u w') (hv:V i undef w') (hG:G (Fg L i true) (Fg u i undef) w'):Ny P ops Q J V G L u i o a w:=by
 unfold Ny;rw [Ak hw];unfold Oper.wp;rw [h];exact ⟨undef,rfl,⟨hJ,hV⟩,hv,hG⟩
structure ir (md:Region.Mode) (ops:Array Oper) (m:Nat) (V:Nat->Value->World->Prop) (G:(Nat->Bool)->(Nat->Value)->World->Prop) (L:Nat->Bool) (u:Nat->Value) (i:Nat) (a:Act) (w:World):Prop where
 eq:∀ j t,Bu md ops i j=true->Ap ops j=some t->a.tmps.getD t undef=u j
 is:∀ j,j<m->L j=true->V j (u j) w
 g:G L u w
def cw (P:Program) (md:Region.Mode) (ops:Array Oper) (Q:Exit->Act->World->Prop) (m:Nat) (J:(Nat->Bool)->World->Prop) (V:Nat->Value->World->Prop) (E:Nat->Bool) (G:(Nat->Bool)->(Nat->Value)->World->Prop) (a0:Act):Nat->Nat->List Oper->Prop
 | _,0,_=>True
 | _,_+1,[]=>True
 | i,k+1,o::l=>((E i=false/\∀ L a w,FindsG md ops m J V a0 L i a w->(∀ w',Kept w w'->J (Fg L i true) w')/\Bo P ops Q V i o a w)\/(∀ L u a w,FindsG md ops m J V a0 L i a w->ir md ops m V G L u i a w->Ny P ops Q J V G L u i o a w))/\cw P md ops Q m J V E G a0 (i+1) k l
theorem Xt {m:Nat}{J:(Nat->Bool)->World->Prop}{V:Nat->Value->World->Prop}{E:Nat->Bool}{G:(Nat->Bool)->(Nat->Value)->World->Prop}{a0:Act}(hV:∀ j u w w',Kept w w'->V j u w->V j u w')
 (hG:∀ i,E i=false->∀ L u v w w',Kept w w'->G L u w->G (Fg L i true) (Fg u i v) w'):∀ (k i0:Nat) (l:List Oper),cw P md ops Q m J V E G a0 i0 k l ->
 ∀ i o,i<k->l[i]?=some o->∀ L u a w,FindsG md ops m J V a0 L (i0+i) a w->ir md ops m V G L u (i0+i) a w->Ny P ops Q J V G L u (i0+i) o a w
 | 0,_,_,_,_,_,hi,_=>absurd hi (Nat.not_lt_zero _)
 | k+1,_,[],_,_,_,_,ho=>by simp at ho
 | k + 1, i0, x :: l, h, 0, o, _, ho => by
   simp at ho;subst ho;intro L u a w F F';rcases h.1 with ⟨h1,h3⟩ | h3
   ·obtain ⟨q1,q2⟩:=h3 L a w F;have q:=Vp hV q1 q2;unfold Bo at q2;unfold Ny;by_cases hw:Region.wanted x (yielded ops a.tmps)=true
    ·rw [Ak hw] at q2 ⊢;refine Oper.wp_mono (λa' w' qq=>?_) q2;obtain ⟨v,rfl,k,hv⟩:=qq;exact ⟨v,rfl,⟨q1 w' k,λj _ u hu=>hV j u _ _ k hu⟩,hv,hG _ h1 L u v w w' k F'.g⟩
    ·rw [Af hw] at q2 ⊢;exact ⟨q1 w (Below.refl _ _),q2,hG _ h1 L u undef w w (Below.refl _ _) F'.g⟩
   ·exact h3 L u a w F F'
 | k + 1, i0, x :: l, h, i + 1, o, hi, ho => by
   have:=Xt hV hG k (i0+1) l h.2 i o (by omega) (by simpa using ho);have e:i0+1+i=i0+(i+1):=by omega
   rw [e] at this;exact this
theorem aW {id m:Nat}{E:Nat->Bool}{G:(Nat->Bool)->(Nat->Value)->World->Prop}{J:(Nat->Bool)->World->Prop}{l:List (Value->World->Prop)}{a0:Act}{W:World}(hm:P.follows .mixedOrders=true)
 (hG:∀ i,E i=false->∀ L u v w w',Kept w w'->G L u w->G (Fg L i true) (Fg u i v) w') (hG0:G (λ_=>false) (λ_=>undef) W.drew)
 (hsz:m=ops.size) (hap:Cg ops m=true) (hin:Dv ops m a0.tmps.size=true) (hbk:Er .any ops=true) (hM:Ld l)
 (hJ:J (λ_=>false) W.drew) (hstep:cw P .any ops Q m J (VL l) E G a0 0 m ops.toList)
 (hend:∀ u w L,(∀ i,i<m->L i=true)->J L w->(∀ i,i<m->VL l i (u i) w)->G L u w->Q .normal (Bb ops (λ_=>true) u m a0) w) :
 (Code.region id ops true).wp P Q a0 W:=by
 refine On (m:=m) (J:=λL u w=>J L w/\(∀ j,j<m->L j=true->VL l j (u j) w)/\G L u w) hm hsz hap hin hbk ⟨hJ,λj _ h=>by (cases h),hG0⟩ (λi o hi ho L u a w F=>?_) (λu w L hL hk=>hend u w L hL hk.1 (λi hi=>hk.2.1 i hi (hL i hi)) hk.2.2);obtain ⟨f1,f2,f3⟩:=F.frame;have GG:FindsG .any ops m J (VL l) a0 L i a w:=⟨f1,F.yet,F.wait,F.defers,λj t h1 h2=>by rw [F.done j t h1 h2];exact f2 j (F.lt j (F.wait j h1)) (F.wait j h1),F.old⟩;have h:=Xt (Ke l hM) hG m 0 ops.toList hstep i o hi (by simpa using ho) L u a w (by simpa using GG) ⟨by simpa using F.done,f2,f3⟩;rw [Nat.zero_add] at h
 unfold Ny at h;unfold Px;have up:∀ (v:Value) (w':World),(∀ j,j≠i->∀ u,VL l j u w->VL l j u w')->VL l i v w'->∀ j,j<m->Fg L i true j=true->VL l j (Fg u i v j) w':=by
  intro v w' hs hv j hj hL;by_cases e:j=i
  ·subst e;simpa [Fg] using hv
  ·have:L j=true:=by simpa [Fg,e] using hL
   have:=hs j e _ (f2 j hj this);simpa [Fg,e] using this
 by_cases hw:Region.wanted o (yielded ops a.tmps)=true
 ·rw [Ak hw] at h ⊢;refine Oper.wp_mono (λa' w' q=>?_) h;obtain ⟨v,rfl,⟨k1,k2⟩,hv,hg⟩:=q;exact ⟨v,rfl,k1,up v w' k2 hv,hg⟩
 ·rw [Af hw] at h ⊢;obtain ⟨k1,k2,hg⟩:=h;exact ⟨k1,up undef w (λj _ u h=>h) k2,hg⟩
end
end Go.Proofs.YtabjjdicffcolaaGreatDoor
