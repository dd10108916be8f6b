/- Words and contracts, part 37. -/
import Derived.Test.YtinbgjcooolbiaaGreatDoorClaimAsksp30
import Derived.Test.YtinbgjcooolbiaaGreatDoorClaimAsksp36
set_option maxRecDepth 100000
set_option maxHeartbeats 0
namespace Go.Proofs.YtinbgjcooolbiaaGreatDoor
open Go.Lib (hid)
open Go.RowKit
def RawI.iv (a:RawI):Iv:=⟨a.lo.dy,a.hi.dy⟩
theorem Ca {a:RawI}(h1:Small a.lo.m)(h2:Small a.hi.m)(h:Dj a=true):a.iv.Ok∧a.iv.raw=a:=by
 unfold Dj at h;simp only [Bool.and_eq_true,decide_eq_true_eq] at h;obtain ⟨⟨m1,m2⟩,m3⟩:=h;obtain ⟨c1,d1⟩:=Fa h1 m1;obtain ⟨c2,d2⟩:=Fa h2 m2;exact ⟨⟨d1,d2,Gm.1 m3⟩,by unfold RawI.iv Iv.raw;simp only [c1,c2]⟩
theorem Iv.raw_iv (a:Iv):a.raw.iv=a:=by unfold Iv.raw RawI.iv;simp only [Dy.raw_dy]
theorem I3 {lo hi:Outc Dy}(h:(D0 lo hi).k≠0):(D0 lo hi).v=iz:=by
 unfold D0 Outc.bind at *;by_cases h1:lo.k=0
 ·simp only [if_pos h1] at h ⊢;by_cases h2:hi.k=0
  ·simp only [if_pos h2] at h;exact absurd rfl h
  ·simp only [if_neg h2]
 ·simp only [if_neg h1]
theorem Ix {α:Type}{o:Outc α}{f:α→Outc Iv}(hf:∀ x,(f x).k≠0→(f x).v=iz)(h:(o.bind iz f).k≠0):(o.bind iz f).v=iz:=by
 unfold Outc.bind at *;by_cases h1:o.k=0
 ·rw [if_pos h1] at h ⊢;exact hf _ h
 ·rw [if_neg h1]
theorem Pg {a b c d:Outc Dy}{f:Dy→Dy→Dy→Dy→Outc Iv}(hf:∀ x y z u,(f x y z u).k≠0→(f x y z u).v=iz)(h:(four a b c d f).k≠0):(four a b c d f).v=iz:=by
 unfold four at *;exact Ix (fun x=>Ix fun y=>Ix fun z=>Ix fun u=>hf x y z u) h
theorem Y2 {a b:Iv}{p:Nat}(h:(Hn a b p).k≠0):(Hn a b p).v=iz:=I3 h
theorem Aaw {a b:Iv}{p:Nat}(h:(Lf a b p).k≠0):(Lf a b p).v=iz:=I3 h
theorem Zz {a:Iv}{p:Nat}(h:(K6 a p).k≠0):(K6 a p).v=iz:=I3 h
theorem Zq {a b:Iv}{p:Nat}(h:(H4 a b p).k≠0):(H4 a b p).v=iz:=Pg (fun _ _ _ _ h=>I3 h) h
theorem Aas {a:Iv}{p:Nat}(h:(F3 a p).k≠0):(F3 a p).v=iz:=Ix (fun _ h=>Ix (fun _ h=>I3 h) h) h
theorem Ya {a:Iv}{p:Nat}(h:(Gv a p).k≠0):(Gv a p).v=iz:=by
 unfold Gv at *;by_cases hs:sg a.lo<0
 ·rw [if_pos hs]
 ·rw [if_neg hs] at h ⊢;exact I3 h
theorem Zc {a b:Iv}{p:Nat}(h:(Jc a b p).k≠0):(Jc a b p).v=iz:=by
 unfold Jc at *;by_cases hs:Cm b=true
 ·rw [if_pos hs]
 ·rw [if_neg hs] at h ⊢;exact Pg (fun _ _ _ _ h=>Pg (fun _ _ _ _ h=>absurd rfl h) h) h
theorem H8 {o:Outc Iv}(h:o.k≠0→o.v=iz):(Bj o).k≠0→(Bj o).v=rzI:=fun hk=>by
 show o.v.raw=rzI
 rw [h hk,Gb]
theorem My (w:World)(o:Obj)(n:Nat)(h:w.heap.size=n):(w.alloc o).heap[n]?=some o:=by subst h;exact heap_alloc_new _ _
theorem J8 (w:World)(n:Nat)(x y z x' y' z':Value)(h:w.heap.size=n):BlkI (w.alloc (.cells #[x,y,z,x',y',z'] 26)) n x y z x' y' z':=My w _ n h
theorem L3 (w:World)(x0 x1 x2 x3 x4 x5 y0 y1 y2 y3 y4 y5 p:Value):∃ W,W=((((w.alloc (.cells #[x0,x1,x2,x3,x4,x5] 26)).alloc (.cells #[y0,y1,y2,y3,y4,y5] 26)).alloc (.cells #[p] 3)).alloc (.cells #[.bool false,.slice none 0 0,.int .i64 0,.bool false,.slice none 0 0,.int .i64 0] 26)).alloc (.cells #[x0,x1,x2,x3,x4,x5,y0,y1,y2,y3,y4,y5] 26) ∧
 Kept w W∧BlkI W w.heap.size x0 x1 x2 x3 x4 x5∧BlkI W (w.heap.size+1) y0 y1 y2 y3 y4 y5∧W.cell? ⟨w.heap.size+1+1,0,none⟩=some p∧BlkI W (w.heap.size+1+1+1) (.bool false) (.slice none 0 0) (.int .i64 0) (.bool false) (.slice none 0 0) (.int .i64 0) ∧
 W.heap[w.heap.size+1+1+1+1]?=some (.cells #[x0,x1,x2,x3,x4,x5,y0,y1,y2,y3,y4,y5] 26 (0,0)):=by
 refine ⟨_,rfl,((((Ad _ _).trans (Ad _ _)).trans (Ad _ _)).trans (Ad _ _)).trans (Ad _ _),?_,?_,?_,?_,My _ _ _ (by simp)⟩
 ·exact ((((J8 w _ _ _ _ _ _ _ rfl).kept (Ad _ _)).kept (Ad _ _)).kept (Ad _ _)).kept (Ad _ _)
 ·exact (((J8 _ _ _ _ _ _ _ _ (by simp)).kept (Ad _ _)).kept (Ad _ _)).kept (Ad _ _)
 ·exact Ak (Ad _ _) (Ak (Ad _ _) (Ae (My _ _ _ (by simp)) 0 _ rfl))
 ·exact (J8 _ _ _ _ _ _ _ _ (by simp)).kept (Ad _ _)
theorem O6 (w:World)(x0 x1 x2 x3 x4 x5 p:Value):∃ W,W=(((w.alloc (.cells #[x0,x1,x2,x3,x4,x5] 26)).alloc (.cells #[p] 3)).alloc (.cells #[.bool false,.slice none 0 0,.int .i64 0,.bool false,.slice none 0 0,.int .i64 0] 26)).alloc (.cells #[x0,x1,x2,x3,x4,x5] 26) ∧
 Kept w W∧BlkI W w.heap.size x0 x1 x2 x3 x4 x5∧W.cell? ⟨w.heap.size+1,0,none⟩=some p∧BlkI W (w.heap.size+1+1) (.bool false) (.slice none 0 0) (.int .i64 0) (.bool false) (.slice none 0 0) (.int .i64 0) ∧
 W.heap[w.heap.size+1+1+1]?=some (.cells #[x0,x1,x2,x3,x4,x5] 26 (0,0)):=by
 refine ⟨_,rfl,(((Ad _ _).trans (Ad _ _)).trans (Ad _ _)).trans (Ad _ _),?_,?_,?_,My _ _ _ (by simp)⟩
 ·exact (((J8 w _ _ _ _ _ _ _ rfl).kept (Ad _ _)).kept (Ad _ _)).kept (Ad _ _)
 ·exact Ak (Ad _ _) (Ak (Ad _ _) (Ae (My _ _ _ (by simp)) 0 _ rfl))
 ·exact (J8 _ _ _ _ _ _ _ _ (by simp)).kept (Ad _ _)
theorem Ab0 {w:World}{b:Nat}{a:RawI}{T:TypeId}{x0 x1 x2 x3 x4 x5:Value}(h:w.heap[b]?=some (.cells #[x0,x1,x2,x3,x4,x5] T (0,0)))(h1:IvR w (.agg #[x0,x1,x2,x3,x4,x5]) a) :
 IvS w (.slice (some ⟨b,0,none⟩) 1 1) [a]:=by
 refine ⟨_,_,rfl,Nat.le_refl _,fun _=>⟨b,0,rfl,fun i d hi=>?_⟩⟩;rcases i with _ | i
 ·simp at hi;subst hi;exact ⟨_,_,_,_,_,_,Ae h 0 _ rfl,Ae h 1 _ rfl,Ae h 2 _ rfl,Ae h 3 _ rfl,Ae h 4 _ rfl,Ae h 5 _ rfl,h1⟩
 ·simp at hi
theorem Zm {w:World}{b:Nat}{a a':RawI}{T:TypeId}{x0 x1 x2 x3 x4 x5 y0 y1 y2 y3 y4 y5:Value}(h:w.heap[b]?=some (.cells #[x0,x1,x2,x3,x4,x5,y0,y1,y2,y3,y4,y5] T (0,0)))(h1:IvR w (.agg #[x0,x1,x2,x3,x4,x5]) a)(h2:IvR w (.agg #[y0,y1,y2,y3,y4,y5]) a') :
 IvS w (.slice (some ⟨b,0,none⟩) 2 2) [a,a']:=by
 refine ⟨_,_,rfl,Nat.le_refl _,fun _=>⟨b,0,rfl,fun i d hi=>?_⟩⟩;rcases i with _ | _ | i
 ·simp at hi;subst hi;exact ⟨_,_,_,_,_,_,Ae h 0 _ rfl,Ae h 1 _ rfl,Ae h 2 _ rfl,Ae h 3 _ rfl,Ae h 4 _ rfl,Ae h 5 _ rfl,h1⟩
 ·simp at hi;subst hi;exact ⟨_,_,_,_,_,_,Ae h 6 _ rfl,Ae h 7 _ rfl,Ae h 8 _ rfl,Ae h 9 _ rfl,Ae h 10 _ rfl,Ae h 11 _ rfl,h2⟩
 ·simp at hi
theorem Ea {w:World}{b:Nat}{a:RawI}{A A':Option Addr}{l c l' c':Nat}(hr:a.iv.raw=a)(h:BlkI w b (.bool a.lo.neg) (.slice A l c) (.int .i64 a.lo.e) (.bool a.hi.neg) (.slice A' l' c') (.int .i64 a.hi.e))
 (h1:DyR w (.agg #[.bool a.lo.neg,.slice A l c,.int .i64 a.lo.e]) a.lo) (h2:DyR w (.agg #[.bool a.hi.neg,.slice A' l' c',.int .i64 a.hi.e]) a.hi):BlkIv w b a.iv:=by
 have e1:a.iv.lo.raw=a.lo:=congrArg RawI.lo hr;have e2:a.iv.hi.raw=a.hi:=congrArg RawI.hi hr;exact ⟨A,l,c,A',l',c',h,by rw [e1];exact h1,by rw [e2];exact h2⟩
theorem DyR.small {w:World}{v:Value}{r:Raw}(h:DyR w v r):Small r.m:=by
 obtain ⟨s,_,hs,_⟩:=h;exact hs.1
theorem Aa2 {w:World}{v u:Value}{a b:RawI}{p:Int}(hv:IvR w v a)(hu:IvR w u b)(la:a.lens 17592186044416)(lb:b.lens 17592186044416)(hT:Tab w) :
 Calls Tryz.prog 12 #[v,u,.int .i64 p] w (RetIE (By p [a,b] (Bj (Hn a.iv b.iv p.toNat))) w):=by
 have hmf:=Fw;obtain ⟨A,l,c,A',l',c',rfl,h1,h2⟩:=Ao hv;obtain ⟨B,j,e,B',j',e',rfl,g1,g2⟩:=Ao hu;obtain ⟨W,hW,kW,BA,BB,cp,BR,BL⟩:=L3 w (.bool a.lo.neg) (.slice A l c) (.int .i64 a.lo.e) (.bool a.hi.neg) (.slice A' l' c') (.int .i64 a.hi.e) (.bool b.lo.neg) (.slice B j e) (.int .i64 b.lo.e) (.bool b.hi.neg) (.slice B' j' e') (.int .i64 b.hi.e) (.int .i64 p)
 have hf:=Ht (w:=W) (K:=47) (cap:=#[.pointer (some ⟨w.heap.size,0,none⟩),.pointer (some ⟨w.heap.size+1,0,none⟩),.pointer (some ⟨w.heap.size+1+1,0,none⟩)]) (p:=p) (l:=[a,b]) (o:=Bj (Hn a.iv b.iv p.toNat))
  (Zm BL ⟨_,_,_,_,_,_,rfl,h1.kept kW,h2.kept kW⟩ ⟨_,_,_,_,_,_,rfl,g1.kept kW,g2.kept kW⟩)
  (by intro x hx;simp only [List.mem_cons,List.not_mem_nil,or_false] at hx;rcases hx with rfl | rfl;exact la;exact lb) (by simp)
  (fun p1 p2 hall w1 k=>by
    simp only [List.all_cons,List.all_nil,Bool.and_true,Bool.and_eq_true] at hall;obtain ⟨oa,ra⟩:=Ca h1.small h2.small hall.1;obtain ⟨ob,rb⟩:=Ca g1.small g2.small hall.2;have hp:((p.toNat:Nat):Int)=p:=Int.toNat_of_nonneg (by omega);exact Abj (p:=p.toNat) oa ob (hT.kept (kW.trans k)) (by omega) (by omega) (Ea ra (BA.kept k) (h1.kept (kW.trans k)) (h2.kept (kW.trans k))) (Ea rb (BB.kept k) (g1.kept (kW.trans k)) (g2.kept (kW.trans k))) (by rw [hp];exact Ak k cp))
  (H8 Y2) (fun _=>rfl)
 generalize By p [a,b] (Bj (Hn a.iv b.iv p.toNat))=o at *;have HF:=hid hf;have HW:=hid hW;have HK:=hid kW;have HR:=hid BR;clear hf hW kW BA BB BR BL cp h1 h2 g1 g2 hv hu la lb hT;generalize a.lo.neg=n1 at *;generalize a.lo.e=e1 at *;generalize a.hi.neg=n2 at *;generalize a.hi.e=e2 at *;generalize b.lo.neg=n3 at *;generalize b.lo.e=e3 at *;generalize b.hi.neg=n4 at *;generalize b.hi.e=e4 at *;go_enter Tryz.func12,Tryz.ntmps12
 go_wp2_with (go_at_call 27;rw [←HW.out];refine HF.out.mono ?_;rintro e w1 ⟨q,u,rfl,hd⟩;obtain ⟨A1,j1,k1',A2,j2,k2',rfl,z1,z2⟩:=Ao hd;have Z1:=hid z1;have Z2:=hid z2;have hb2:=HR.out.kept q;obtain ⟨hsz,c0,c1,c2,c3,c4,c5⟩:=hb2.facts;obtain ⟨f0,f1,f2,f3,f4,f5⟩:=hb2.free;have HRR:=hid hb2;clear hd hb2 z1 z2)
 exact Bq (HRR.out.laid _ _ _ _ _ _) rfl rfl rfl ⟨Bf (HK.out.trans q) (by omega),_,rfl,_,_,_,_,_,_,rfl,Z1.out.ivW HRR.out _ _ _ _ _ _,Z2.out.ivW HRR.out _ _ _ _ _ _⟩
theorem Acz {w:World}{v u:Value}{a b:RawI}{p:Int}(hv:IvR w v a)(hu:IvR w u b)(la:a.lens 17592186044416)(lb:b.lens 17592186044416)(hT:Tab w) :
 Calls Tryz.prog 14 #[v,u,.int .i64 p] w (RetIE (By p [a,b] (Bj (Lf a.iv b.iv p.toNat))) w):=by
 have hmf:=Fw;obtain ⟨A,l,c,A',l',c',rfl,h1,h2⟩:=Ao hv;obtain ⟨B,j,e,B',j',e',rfl,g1,g2⟩:=Ao hu;obtain ⟨W,hW,kW,BA,BB,cp,BR,BL⟩:=L3 w (.bool a.lo.neg) (.slice A l c) (.int .i64 a.lo.e) (.bool a.hi.neg) (.slice A' l' c') (.int .i64 a.hi.e) (.bool b.lo.neg) (.slice B j e) (.int .i64 b.lo.e) (.bool b.hi.neg) (.slice B' j' e') (.int .i64 b.hi.e) (.int .i64 p)
 have hf:=Ht (w:=W) (K:=53) (cap:=#[.pointer (some ⟨w.heap.size,0,none⟩),.pointer (some ⟨w.heap.size+1,0,none⟩),.pointer (some ⟨w.heap.size+1+1,0,none⟩)]) (p:=p) (l:=[a,b]) (o:=Bj (Lf a.iv b.iv p.toNat))
  (Zm BL ⟨_,_,_,_,_,_,rfl,h1.kept kW,h2.kept kW⟩ ⟨_,_,_,_,_,_,rfl,g1.kept kW,g2.kept kW⟩)
  (by intro x hx;simp only [List.mem_cons,List.not_mem_nil,or_false] at hx;rcases hx with rfl | rfl;exact la;exact lb) (by simp)
  (fun p1 p2 hall w1 k=>by
    simp only [List.all_cons,List.all_nil,Bool.and_true,Bool.and_eq_true] at hall;obtain ⟨oa,ra⟩:=Ca h1.small h2.small hall.1;obtain ⟨ob,rb⟩:=Ca g1.small g2.small hall.2;have hp:((p.toNat:Nat):Int)=p:=Int.toNat_of_nonneg (by omega);exact Zl (p:=p.toNat) oa ob (hT.kept (kW.trans k)) (by omega) (by omega) (Ea ra (BA.kept k) (h1.kept (kW.trans k)) (h2.kept (kW.trans k))) (Ea rb (BB.kept k) (g1.kept (kW.trans k)) (g2.kept (kW.trans k))) (by rw [hp];exact Ak k cp))
  (H8 Aaw) (fun _=>rfl)
 generalize By p [a,b] (Bj (Lf a.iv b.iv p.toNat))=o at *;have HF:=hid hf;have HW:=hid hW;have HK:=hid kW;have HR:=hid BR;clear hf hW kW BA BB BR BL cp h1 h2 g1 g2 hv hu la lb hT;generalize a.lo.neg=n1 at *;generalize a.lo.e=e1 at *;generalize a.hi.neg=n2 at *;generalize a.hi.e=e2 at *;generalize b.lo.neg=n3 at *;generalize b.lo.e=e3 at *;generalize b.hi.neg=n4 at *;generalize b.hi.e=e4 at *;go_enter Tryz.func14,Tryz.ntmps14
 go_wp2_with (go_at_call 27;rw [←HW.out];refine HF.out.mono ?_;rintro e w1 ⟨q,u,rfl,hd⟩;obtain ⟨A1,j1,k1',A2,j2,k2',rfl,z1,z2⟩:=Ao hd;have Z1:=hid z1;have Z2:=hid z2;have hb2:=HR.out.kept q;obtain ⟨hsz,c0,c1,c2,c3,c4,c5⟩:=hb2.facts;obtain ⟨f0,f1,f2,f3,f4,f5⟩:=hb2.free;have HRR:=hid hb2;clear hd hb2 z1 z2)
 exact Bq (HRR.out.laid _ _ _ _ _ _) rfl rfl rfl ⟨Bf (HK.out.trans q) (by omega),_,rfl,_,_,_,_,_,_,rfl,Z1.out.ivW HRR.out _ _ _ _ _ _,Z2.out.ivW HRR.out _ _ _ _ _ _⟩
theorem Acw {w:World}{v u:Value}{a b:RawI}{p:Int}(hv:IvR w v a)(hu:IvR w u b)(la:a.lens 17592186044416)(lb:b.lens 17592186044416)(hT:Tab w) :
 Calls Tryz.prog 16 #[v,u,.int .i64 p] w (RetIE (By p [a,b] (Bj (H4 a.iv b.iv p.toNat))) w):=by
 have hmf:=Fw;obtain ⟨A,l,c,A',l',c',rfl,h1,h2⟩:=Ao hv;obtain ⟨B,j,e,B',j',e',rfl,g1,g2⟩:=Ao hu;obtain ⟨W,hW,kW,BA,BB,cp,BR,BL⟩:=L3 w (.bool a.lo.neg) (.slice A l c) (.int .i64 a.lo.e) (.bool a.hi.neg) (.slice A' l' c') (.int .i64 a.hi.e) (.bool b.lo.neg) (.slice B j e) (.int .i64 b.lo.e) (.bool b.hi.neg) (.slice B' j' e') (.int .i64 b.hi.e) (.int .i64 p)
 have hf:=Ht (w:=W) (K:=56) (cap:=#[.pointer (some ⟨w.heap.size,0,none⟩),.pointer (some ⟨w.heap.size+1,0,none⟩),.pointer (some ⟨w.heap.size+1+1,0,none⟩)]) (p:=p) (l:=[a,b]) (o:=Bj (H4 a.iv b.iv p.toNat))
  (Zm BL ⟨_,_,_,_,_,_,rfl,h1.kept kW,h2.kept kW⟩ ⟨_,_,_,_,_,_,rfl,g1.kept kW,g2.kept kW⟩)
  (by intro x hx;simp only [List.mem_cons,List.not_mem_nil,or_false] at hx;rcases hx with rfl | rfl;exact la;exact lb) (by simp)
  (fun p1 p2 hall w1 k=>by
    simp only [List.all_cons,List.all_nil,Bool.and_true,Bool.and_eq_true] at hall;obtain ⟨oa,ra⟩:=Ca h1.small h2.small hall.1;obtain ⟨ob,rb⟩:=Ca g1.small g2.small hall.2;have hp:((p.toNat:Nat):Int)=p:=Int.toNat_of_nonneg (by omega);exact Y5 (p:=p.toNat) oa ob (hT.kept (kW.trans k)) (by omega) (by omega) (Ea ra (BA.kept k) (h1.kept (kW.trans k)) (h2.kept (kW.trans k))) (Ea rb (BB.kept k) (g1.kept (kW.trans k)) (g2.kept (kW.trans k))) (by rw [hp];exact Ak k cp))
  (H8 Zq) (fun _=>rfl)
 generalize By p [a,b] (Bj (H4 a.iv b.iv p.toNat))=o at *;have HF:=hid hf;have HW:=hid hW;have HK:=hid kW;have HR:=hid BR;clear hf hW kW BA BB BR BL cp h1 h2 g1 g2 hv hu la lb hT;generalize a.lo.neg=n1 at *;generalize a.lo.e=e1 at *;generalize a.hi.neg=n2 at *;generalize a.hi.e=e2 at *;generalize b.lo.neg=n3 at *;generalize b.lo.e=e3 at *;generalize b.hi.neg=n4 at *;generalize b.hi.e=e4 at *;go_enter Tryz.func16,Tryz.ntmps16
 go_wp2_with (go_at_call 27;rw [←HW.out];refine HF.out.mono ?_;rintro e w1 ⟨q,u,rfl,hd⟩;obtain ⟨A1,j1,k1',A2,j2,k2',rfl,z1,z2⟩:=Ao hd;have Z1:=hid z1;have Z2:=hid z2;have hb2:=HR.out.kept q;obtain ⟨hsz,c0,c1,c2,c3,c4,c5⟩:=hb2.facts;obtain ⟨f0,f1,f2,f3,f4,f5⟩:=hb2.free;have HRR:=hid hb2;clear hd hb2 z1 z2)
 exact Bq (HRR.out.laid _ _ _ _ _ _) rfl rfl rfl ⟨Bf (HK.out.trans q) (by omega),_,rfl,_,_,_,_,_,_,rfl,Z1.out.ivW HRR.out _ _ _ _ _ _,Z2.out.ivW HRR.out _ _ _ _ _ _⟩
theorem Acs {w:World}{v u:Value}{a b:RawI}{p:Int}(hv:IvR w v a)(hu:IvR w u b)(la:a.lens 17592186044416)(lb:b.lens 17592186044416)(hT:Tab w) :
 Calls Tryz.prog 6 #[v,u,.int .i64 p] w (RetIE (By p [a,b] (Bj (Jc a.iv b.iv p.toNat))) w):=by
 have hmf:=Fw;obtain ⟨A,l,c,A',l',c',rfl,h1,h2⟩:=Ao hv;obtain ⟨B,j,e,B',j',e',rfl,g1,g2⟩:=Ao hu;obtain ⟨W,hW,kW,BA,BB,cp,BR,BL⟩:=L3 w (.bool a.lo.neg) (.slice A l c) (.int .i64 a.lo.e) (.bool a.hi.neg) (.slice A' l' c') (.int .i64 a.hi.e) (.bool b.lo.neg) (.slice B j e) (.int .i64 b.lo.e) (.bool b.hi.neg) (.slice B' j' e') (.int .i64 b.hi.e) (.int .i64 p)
 have hf:=Ht (w:=W) (K:=28) (cap:=#[.pointer (some ⟨w.heap.size+1,0,none⟩),.pointer (some ⟨w.heap.size,0,none⟩),.pointer (some ⟨w.heap.size+1+1,0,none⟩)]) (p:=p) (l:=[a,b]) (o:=Bj (Jc a.iv b.iv p.toNat))
  (Zm BL ⟨_,_,_,_,_,_,rfl,h1.kept kW,h2.kept kW⟩ ⟨_,_,_,_,_,_,rfl,g1.kept kW,g2.kept kW⟩)
  (by intro x hx;simp only [List.mem_cons,List.not_mem_nil,or_false] at hx;rcases hx with rfl | rfl;exact la;exact lb) (by simp)
  (fun p1 p2 hall w1 k=>by
    simp only [List.all_cons,List.all_nil,Bool.and_true,Bool.and_eq_true] at hall;obtain ⟨oa,ra⟩:=Ca h1.small h2.small hall.1;obtain ⟨ob,rb⟩:=Ca g1.small g2.small hall.2;have hp:((p.toNat:Nat):Int)=p:=Int.toNat_of_nonneg (by omega);exact Y4 (p:=p.toNat) oa ob (hT.kept (kW.trans k)) (by omega) (by omega) (Ea ra (BA.kept k) (h1.kept (kW.trans k)) (h2.kept (kW.trans k))) (Ea rb (BB.kept k) (g1.kept (kW.trans k)) (g2.kept (kW.trans k))) (by rw [hp];exact Ak k cp))
  (H8 Zc) (fun _=>rfl)
 generalize By p [a,b] (Bj (Jc a.iv b.iv p.toNat))=o at *;have HF:=hid hf;have HW:=hid hW;have HK:=hid kW;have HR:=hid BR;clear hf hW kW BA BB BR BL cp h1 h2 g1 g2 hv hu la lb hT;generalize a.lo.neg=n1 at *;generalize a.lo.e=e1 at *;generalize a.hi.neg=n2 at *;generalize a.hi.e=e2 at *;generalize b.lo.neg=n3 at *;generalize b.lo.e=e3 at *;generalize b.hi.neg=n4 at *;generalize b.hi.e=e4 at *;go_enter Tryz.func6,Tryz.ntmps6
 go_wp2_with (go_at_call 27;rw [←HW.out];refine HF.out.mono ?_;rintro e w1 ⟨q,u,rfl,hd⟩;obtain ⟨A1,j1,k1',A2,j2,k2',rfl,z1,z2⟩:=Ao hd;have Z1:=hid z1;have Z2:=hid z2;have hb2:=HR.out.kept q;obtain ⟨hsz,c0,c1,c2,c3,c4,c5⟩:=hb2.facts;obtain ⟨f0,f1,f2,f3,f4,f5⟩:=hb2.free;have HRR:=hid hb2;clear hd hb2 z1 z2)
 exact Bq (HRR.out.laid _ _ _ _ _ _) rfl rfl rfl ⟨Bf (HK.out.trans q) (by omega),_,rfl,_,_,_,_,_,_,rfl,Z1.out.ivW HRR.out _ _ _ _ _ _,Z2.out.ivW HRR.out _ _ _ _ _ _⟩
theorem Acx {w:World}{v:Value}{a:RawI}{p:Int}(hv:IvR w v a)(la:a.lens 17592186044416)(hT:Tab w) :
 Calls Tryz.prog 20 #[v,.int .i64 p] w (RetIE (By p [a] (Bj (K6 a.iv p.toNat))) w):=by
 have hmf:=Fw;obtain ⟨A,l,c,A',l',c',rfl,h1,h2⟩:=Ao hv;obtain ⟨W,hW,kW,BA,cp,BR,BL⟩:=O6 w (.bool a.lo.neg) (.slice A l c) (.int .i64 a.lo.e) (.bool a.hi.neg) (.slice A' l' c') (.int .i64 a.hi.e) (.int .i64 p)
 have hf:=Ht (w:=W) (K:=61) (cap:=#[.pointer (some ⟨w.heap.size,0,none⟩),.pointer (some ⟨w.heap.size+1,0,none⟩)]) (p:=p) (l:=[a]) (o:=Bj (K6 a.iv p.toNat))
  (Ab0 BL ⟨_,_,_,_,_,_,rfl,h1.kept kW,h2.kept kW⟩)
  (by intro x hx;simp only [List.mem_cons,List.not_mem_nil,or_false] at hx;subst hx;exact la) (by simp)
  (fun p1 p2 hall w1 k=>by
    simp only [List.all_cons,List.all_nil,Bool.and_true] at hall;obtain ⟨oa,ra⟩:=Ca h1.small h2.small hall;have hp:((p.toNat:Nat):Int)=p:=Int.toNat_of_nonneg (by omega);exact Aca (p:=p.toNat) oa (hT.kept (kW.trans k)) (by omega) (by omega) (Ea ra (BA.kept k) (h1.kept (kW.trans k)) (h2.kept (kW.trans k))) (by rw [hp];exact Ak k cp))
  (H8 Zz) (fun _=>rfl)
 generalize By p [a] (Bj (K6 a.iv p.toNat))=o at *;have HF:=hid hf;have HW:=hid hW;have HK:=hid kW;have HR:=hid BR;clear hf hW kW BA BR BL cp h1 h2 hv la hT;generalize a.lo.neg=n1 at *;generalize a.lo.e=e1 at *;generalize a.hi.neg=n2 at *;generalize a.hi.e=e2 at *;go_enter Tryz.func20,Tryz.ntmps20
 go_wp2_with (go_at_call 27;rw [←HW.out];refine HF.out.mono ?_;rintro e w1 ⟨q,u,rfl,hd⟩;obtain ⟨A1,j1,k1',A2,j2,k2',rfl,z1,z2⟩:=Ao hd;have Z1:=hid z1;have Z2:=hid z2;have hb2:=HR.out.kept q;obtain ⟨hsz,c0,c1,c2,c3,c4,c5⟩:=hb2.facts;obtain ⟨f0,f1,f2,f3,f4,f5⟩:=hb2.free;have HRR:=hid hb2;clear hd hb2 z1 z2)
 exact Bq (HRR.out.laid _ _ _ _ _ _) rfl rfl rfl ⟨Bf (HK.out.trans q) (by omega),_,rfl,_,_,_,_,_,_,rfl,Z1.out.ivW HRR.out _ _ _ _ _ _,Z2.out.ivW HRR.out _ _ _ _ _ _⟩
theorem Aa3 {w:World}{v:Value}{a:RawI}{p:Int}(hv:IvR w v a)(la:a.lens 17592186044416)(hT:Tab w) :
 Calls Tryz.prog 18 #[v,.int .i64 p] w (RetIE (By p [a] (Bj (F3 a.iv p.toNat))) w):=by
 have hmf:=Fw;obtain ⟨A,l,c,A',l',c',rfl,h1,h2⟩:=Ao hv;obtain ⟨W,hW,kW,BA,cp,BR,BL⟩:=O6 w (.bool a.lo.neg) (.slice A l c) (.int .i64 a.lo.e) (.bool a.hi.neg) (.slice A' l' c') (.int .i64 a.hi.e) (.int .i64 p)
 have hf:=Ht (w:=W) (K:=60) (cap:=#[.pointer (some ⟨w.heap.size,0,none⟩),.pointer (some ⟨w.heap.size+1,0,none⟩)]) (p:=p) (l:=[a]) (o:=Bj (F3 a.iv p.toNat))
  (Ab0 BL ⟨_,_,_,_,_,_,rfl,h1.kept kW,h2.kept kW⟩)
  (by intro x hx;simp only [List.mem_cons,List.not_mem_nil,or_false] at hx;subst hx;exact la) (by simp)
  (fun p1 p2 hall w1 k=>by
    simp only [List.all_cons,List.all_nil,Bool.and_true] at hall;obtain ⟨oa,ra⟩:=Ca h1.small h2.small hall;have hp:((p.toNat:Nat):Int)=p:=Int.toNat_of_nonneg (by omega);exact Acf (p:=p.toNat) oa (hT.kept (kW.trans k)) (by omega) (by omega) (Ea ra (BA.kept k) (h1.kept (kW.trans k)) (h2.kept (kW.trans k))) (by rw [hp];exact Ak k cp))
  (H8 Aas) (fun _=>rfl)
 generalize By p [a] (Bj (F3 a.iv p.toNat))=o at *;have HF:=hid hf;have HW:=hid hW;have HK:=hid kW;have HR:=hid BR;clear hf hW kW BA BR BL cp h1 h2 hv la hT;generalize a.lo.neg=n1 at *;generalize a.lo.e=e1 at *;generalize a.hi.neg=n2 at *;generalize a.hi.e=e2 at *;go_enter Tryz.func18,Tryz.ntmps18
 go_wp2_with (go_at_call 27;rw [←HW.out];refine HF.out.mono ?_;rintro e w1 ⟨q,u,rfl,hd⟩;obtain ⟨A1,j1,k1',A2,j2,k2',rfl,z1,z2⟩:=Ao hd;have Z1:=hid z1;have Z2:=hid z2;have hb2:=HR.out.kept q;obtain ⟨hsz,c0,c1,c2,c3,c4,c5⟩:=hb2.facts;obtain ⟨f0,f1,f2,f3,f4,f5⟩:=hb2.free;have HRR:=hid hb2;clear hd hb2 z1 z2)
 exact Bq (HRR.out.laid _ _ _ _ _ _) rfl rfl rfl ⟨Bf (HK.out.trans q) (by omega),_,rfl,_,_,_,_,_,_,rfl,Z1.out.ivW HRR.out _ _ _ _ _ _,Z2.out.ivW HRR.out _ _ _ _ _ _⟩
theorem Abh {w:World}{v:Value}{a:RawI}{p:Int}(hv:IvR w v a)(la:a.lens 17592186044416)(hT:Tab w) :
 Calls Tryz.prog 8 #[v,.int .i64 p] w (RetIE (By p [a] (Bj (Gv a.iv p.toNat))) w):=by
 have hmf:=Fw;obtain ⟨A,l,c,A',l',c',rfl,h1,h2⟩:=Ao hv;obtain ⟨W,hW,kW,BA,cp,BR,BL⟩:=O6 w (.bool a.lo.neg) (.slice A l c) (.int .i64 a.lo.e) (.bool a.hi.neg) (.slice A' l' c') (.int .i64 a.hi.e) (.int .i64 p)
 have hf:=Ht (w:=W) (K:=42) (cap:=#[.pointer (some ⟨w.heap.size,0,none⟩),.pointer (some ⟨w.heap.size+1,0,none⟩)]) (p:=p) (l:=[a]) (o:=Bj (Gv a.iv p.toNat))
  (Ab0 BL ⟨_,_,_,_,_,_,rfl,h1.kept kW,h2.kept kW⟩)
  (by intro x hx;simp only [List.mem_cons,List.not_mem_nil,or_false] at hx;subst hx;exact la) (by simp)
  (fun p1 p2 hall w1 k=>by
    simp only [List.all_cons,List.all_nil,Bool.and_true] at hall;obtain ⟨oa,ra⟩:=Ca h1.small h2.small hall;have hp:((p.toNat:Nat):Int)=p:=Int.toNat_of_nonneg (by omega);exact Aau (p:=p.toNat) oa (hT.kept (kW.trans k)) (by omega) (by omega) (Ea ra (BA.kept k) (h1.kept (kW.trans k)) (h2.kept (kW.trans k))) (by rw [hp];exact Ak k cp))
  (H8 Ya) (fun _=>rfl)
 generalize By p [a] (Bj (Gv a.iv p.toNat))=o at *;have HF:=hid hf;have HW:=hid hW;have HK:=hid kW;have HR:=hid BR;clear hf hW kW BA BR BL cp h1 h2 hv la hT;generalize a.lo.neg=n1 at *;generalize a.lo.e=e1 at *;generalize a.hi.neg=n2 at *;generalize a.hi.e=e2 at *;go_enter Tryz.func8,Tryz.ntmps8
 go_wp2_with (go_at_call 27;rw [←HW.out];refine HF.out.mono ?_;rintro e w1 ⟨q,u,rfl,hd⟩;obtain ⟨A1,j1,k1',A2,j2,k2',rfl,z1,z2⟩:=Ao hd;have Z1:=hid z1;have Z2:=hid z2;have hb2:=HR.out.kept q;obtain ⟨hsz,c0,c1,c2,c3,c4,c5⟩:=hb2.facts;obtain ⟨f0,f1,f2,f3,f4,f5⟩:=hb2.free;have HRR:=hid hb2;clear hd hb2 z1 z2)
 exact Bq (HRR.out.laid _ _ _ _ _ _) rfl rfl rfl ⟨Bf (HK.out.trans q) (by omega),_,rfl,_,_,_,_,_,_,rfl,Z1.out.ivW HRR.out _ _ _ _ _ _,Z2.out.ivW HRR.out _ _ _ _ _ _⟩
theorem Abs (w:World)(x y z x' y' z':Value):∃ W,W=((w.alloc (.cells #[x,y,z] 24)).alloc (.cells #[x',y',z'] 24)).alloc (.cells #[.bool false,.slice none 0 0,.int .i64 0,.bool false,.slice none 0 0,.int .i64 0] 26) ∧
 Kept w W∧Blk W w.heap.size x y z∧Blk W (w.heap.size+1) x' y' z'∧BlkI W (w.heap.size+1+1) (.bool false) (.slice none 0 0) (.int .i64 0) (.bool false) (.slice none 0 0) (.int .i64 0):=by
 refine ⟨_,rfl,((Ad _ _).trans (Ad _ _)).trans (Ad _ _),Aw (Aw (blk_new _ _ _ _) _) _,Aw (Db _ _ _ _ _) _,?_⟩;have:=F5 ((w.alloc (.cells #[x,y,z] 24)).alloc (.cells #[x',y',z'] 24));simp only [World.size_alloc] at this;exact this
theorem Mk (w:World)(x y z:Value):∃ V,V=w.alloc (.cells #[x,y,z] 24)∧Kept w V∧Blk V w.heap.size x y z∧w.heap.size<V.heap.size :=
 ⟨_,rfl,Ad _ _,blk_new _ _ _ _,by simp⟩
theorem P9 (w:World)(x y z x' y' z':Value):∃ W,W=(w.alloc (.cells #[x,y,z,x',y',z'] 26)).alloc (.cells #[.bool false,.slice none 0 0,.int .i64 0,.bool false,.slice none 0 0,.int .i64 0] 26) ∧
 Kept w W∧BlkI W w.heap.size x y z x' y' z'∧BlkI W (w.heap.size+1) (.bool false) (.slice none 0 0) (.int .i64 0) (.bool false) (.slice none 0 0) (.int .i64 0):=by
 refine ⟨_,rfl,(Ad _ _).trans (Ad _ _),(Ey _ _ _ _ _ _ _).kept (Ad _ _),?_⟩;have:=F5 (w.alloc (.cells #[x,y,z,x',y',z'] 26));simp only [World.size_alloc] at this;exact this
theorem Kw {o1 o2:Outc Dy}(h:o1.k≠0):Bj (D0 o1 o2)=⟨rzI,o1.k⟩:=by
 unfold D0 Outc.bind Bj;rw [if_neg h,Gb]
theorem Kx {o1 o2:Outc Dy}(h:o1.k=0)(h2:o2.k≠0):Bj (D0 o1 o2)=⟨rzI,o2.k⟩:=by
 unfold D0 Outc.bind Bj;rw [if_pos h];dsimp only;rw [if_neg h2,Gb]
theorem Mq {o1 o2:Outc Dy}(h:o1.k=0)(h2:o2.k=0):Bj (D0 o1 o2)=⟨⟨o1.v.raw,o2.v.raw⟩,0⟩:=by
 unfold D0 Outc.bind Bj;rw [if_pos h];dsimp only;rw [if_pos h2];rfl
theorem Pr {w:World}{v u:Value}{x y:Dy}{p:Nat}(ha:DyR w v x.raw)(hb:DyR w u y.raw)(hx:x.Ok)(hy:y.Ok)(p1:1≤p)(p2:p≤2000) :
 Calls Tryz.prog 59 #[v,u,.int .i64 p] w (RetIE (Bj (D0 (Bv x p false) (Bv y p true))) w):=by
 have C1:=hid (fun w1 (k:Kept w w1)=>Kl (up:=false) (ha.kept k) hx p1 p2);have C2:=hid (fun w1 (k:Kept w w1)=>Kl (up:=true) (hb.kept k) hy p1 p2);obtain ⟨A,l,c,rfl,-,-,-,-⟩:=ha.shape;obtain ⟨B,m,d,rfl,-,-,-,-⟩:=hb.shape;clear ha hb hx hy;generalize Bv x p false=o1 at *;generalize Bv y p true=o2 at *;obtain ⟨T,hT⟩:∃ T,Bj (D0 o1 o2)=T:=⟨_,rfl⟩;rw [hT];have HT:=hid hT;clear hT p1 p2;simp only [Dy.raw] at *;generalize x.neg=n1 at *;generalize x.e=e1 at *;generalize y.neg=n2 at *;generalize y.e=e2 at *;obtain ⟨W,hW,kW,BA,BB,BR⟩:=Abs w (.bool n1) (.slice A l c) (.int .i64 e1) (.bool n2) (.slice B m d) (.int .i64 e2)
 have HW:=hid hW;have K:=hid kW;have HB:=hid BB;have HR:=hid BR;obtain ⟨-,a0,a1,a2,-⟩:=BA.facts;clear hW kW BA BB BR;go_enter Tryz.func59,Tryz.ntmps59;go_wp2_with fail;rw [←HW.out];go_wp2_with fail;refine (C1.out _ K.out).mono ?_;rintro _ w1 ⟨q1,u1,rfl,hd⟩;obtain ⟨PX,pX,qX,rfl,z1⟩:=Br hd;simp only [Outc.raw];obtain ⟨VX,hV,kV,hb,lV⟩:=Mk w1 (.bool o1.v.neg) (.slice PX pX qX) (.int .i64 o1.v.e);have HV:=hid hV;have kk:=q1.trans kV;have lt1:w.heap.size+1+1<w1.heap.size:=Nat.lt_of_lt_of_le HR.out.facts.1 q1.size;replace K:=hid (K.out.trans kk);replace HB:=hid (HB.out.kept kk);replace HR:=hid (HR.out.kept kk)
 have HX:=hid hb;have ZX:=hid (z1.kept kV);clear hV kV hb lV kk q1 hd z1 a0 a1 a2 C1;go_upto_region 2 with fail;rw [←HV.out];clear HV;generalize w1.heap.size=bX at *;by_cases h1:o1.k=0
 ·have H1:=hid h1;rw [h1];clear h1;obtain ⟨-,b0,b1,b2,-⟩:=HB.out.facts;go_wp2_with fail;refine (C2.out _ K.out).mono ?_;rintro _ w2 ⟨q2,u2,rfl,hd⟩;obtain ⟨PY,pY,qY,rfl,z1⟩:=Br hd;simp only [Outc.raw];obtain ⟨VY,hV,kV,hb,lV⟩:=Mk w2 (.bool o2.v.neg) (.slice PY pY qY) (.int .i64 o2.v.e);have HV:=hid hV;have kk:=q2.trans kV;replace K:=hid (K.out.trans kk);replace HR:=hid (HR.out.kept kk);replace HX:=hid (HX.out.kept kk);replace ZX:=hid (ZX.out.kept kk);have HY:=hid hb;have ZY:=hid (z1.kept kV);clear hV kV hb lV kk q2 hd z1 b0 b1 b2 C2 HB;go_upto_region 5 with fail;rw [←HV.out];clear HV;generalize w2.heap.size=bY at *
  by_cases h2:o2.k=0
  ·have r0:=Mq H1.out h2;rw [HT.out] at r0;subst r0;rw [h2];clear h2 HT H1;obtain ⟨-,c0,c1,c2,-⟩:=HX.out.facts;obtain ⟨-,d0,d1,d2,-⟩:=HY.out.facts;obtain ⟨-,r0,r1,r2,r3,r4,r5⟩:=HR.out.facts;obtain ⟨f0,f1,f2,f3,f4,f5⟩:=HR.out.free;go_wp2_with fail;exact Bq (HR.out.laid _ _ _ _ _ _) rfl rfl rfl ⟨Bf K.out (by omega),_,rfl,_,_,_,_,_,_,rfl,ZX.out.ivW HR.out _ _ _ _ _ _,ZY.out.ivW HR.out _ _ _ _ _ _⟩
  ·have r0:=Kx (o2:=o2) H1.out h2;rw [HT.out] at r0;subst r0;have e2:(o2.k==0)=false:=by simpa using h2
   have e2':(o2.k != 0)=true:=by simpa using h2
   clear h2 HT H1 HX ZX HY ZY;generalize o2.k=k2 at *;obtain ⟨-,r0,r1,r2,r3,r4,r5⟩:=HR.out.facts;obtain ⟨f0,f1,f2,f3,f4,f5⟩:=HR.out.free;go_wp2_with fail;exact Bq (HR.out.laid _ _ _ _ _ _) rfl rfl rfl ⟨Bf K.out (by omega),_,rfl,Ce _⟩
 ·have r0:=Kw (o2:=o2) h1;rw [HT.out] at r0;subst r0;have e2:(o1.k==0)=false:=by simpa using h1
  have e2':(o1.k != 0)=true:=by simpa using h1
  clear h1 HT HB HX ZX C2;generalize o1.k=k1 at *;obtain ⟨-,r0,r1,r2,r3,r4,r5⟩:=HR.out.facts;obtain ⟨f0,f1,f2,f3,f4,f5⟩:=HR.out.free;go_wp2_with fail;exact Bq (HR.out.laid _ _ _ _ _ _) rfl rfl rfl ⟨Bf K.out (by omega),_,rfl,Ce _⟩
theorem U1 {w:World}{v:Value}{a:Iv}{p:Int}(ha:IvR w v a.raw)(hok:a.Ok) :
 Calls Tryz.prog 63 #[v,.int .i64 p] w (RetIE (By p [a.raw] (Bj (D0 (Bv a.lo p.toNat false) (Bv a.hi p.toNat true)))) w):=by
 have hm:Dj a.raw=true:=Eg hok;have M1:=hid (fun w1 (k:Kept w w1)=>show Calls Tryz.prog 36 #[v] w1 (RetK (.bool true) w1) by have h:=Fz (ha.kept k) (Ez hok);rwa [hm] at h);have P1:=hid (fun w1=>Pp (w:=w1) (p:=p));obtain ⟨A,l,c,B,m,d,rfl,h1,h2⟩:=Ao ha;have C1:=hid (fun w1 (k:Kept w w1) (g1:1≤p) (g2:p≤2000)=>show Calls Tryz.prog 59 #[.agg #[.bool a.raw.lo.neg,.slice A l c,.int .i64 a.raw.lo.e],.agg #[.bool a.raw.hi.neg,.slice B m d,.int .i64 a.raw.hi.e],.int .i64 p] w1 (RetIE (Bj (D0 (Bv a.lo p.toNat false) (Bv a.hi p.toNat true))) w1) by
  have h:=Pr (p:=p.toNat) (h1.kept k) (h2.kept k) hok.lo hok.hi (by omega) (by omega);rwa [show ((p.toNat:Nat):Int)=p by omega] at h)
 obtain ⟨o,ho⟩:∃ o,Bj (D0 (Bv a.lo p.toNat false) (Bv a.hi p.toNat true))=o:=⟨_,rfl⟩;rw [ho] at C1 ⊢;obtain ⟨T,hT⟩:∃ T,By p [a.raw] o=T:=⟨_,rfl⟩;rw [hT];have hT':T=if 1≤p∧p≤2000 then o else ⟨rzI,1⟩:=by
  rw [←hT];unfold By;simp only [List.all_cons,List.all_nil,hm,Bool.and_true,and_true]
 clear hT ho h1 h2 ha hok hm;have HT:=hid hT';clear hT';simp only [Iv.raw,Dy.raw] at *;generalize a.lo.neg=n1 at *;generalize a.lo.e=e1 at *;generalize a.hi.neg=n2 at *;generalize a.hi.e=e2 at *;obtain ⟨W,hW,kW,BA,BR⟩:=P9 w (.bool n1) (.slice A l c) (.int .i64 e1) (.bool n2) (.slice B m d) (.int .i64 e2);have HW:=hid hW;have K:=hid kW;have HA:=hid BA;have HR:=hid BR;obtain ⟨-,a0,a1,a2,a3,a4,a5⟩:=BA.facts;clear hW kW BA BR;by_cases hp:1≤p∧p≤2000
 ·have r0:=HT.out;rw [if_pos hp] at r0;subst r0;replace C1:=hid (fun w1 k=>C1.out w1 k hp.1 hp.2);rw [decide_eq_true hp.1,decide_eq_true hp.2,Bool.and_true] at P1;clear HT hp;go_enter Tryz.func63,Tryz.ntmps63;go_wp2_with fail;rw [←HW.out];go_wp2_with fail;refine (M1.out _ K.out).mono ?_;rintro _ w1 ⟨rfl,q1⟩;simp only [];go_wp2_with fail;refine (P1.out _).mono ?_;rintro _ w2 ⟨rfl,q2⟩;replace K:=hid (K.out.trans (q1.trans q2));replace HA:=hid (HA.out.kept (q1.trans q2));replace HR:=hid (HR.out.kept (q1.trans q2));clear q1 q2 a0 a1 a2 a3 a4 a5 M1 P1;obtain ⟨-,a0,a1,a2,a3,a4,a5⟩:=HA.out.facts;simp only []
  go_wp2_with fail;refine (C1.out _ K.out).mono ?_;rintro _ w3 ⟨q3,u3,rfl,hd⟩;obtain ⟨PX,pX,qX,PY,pY,qY,rfl,z1,z2⟩:=Ao hd;replace K:=hid (K.out.trans q3);replace HR:=hid (HR.out.kept q3);have Z1:=hid z1;have Z2:=hid z2;clear q3 hd z1 z2;simp only [];obtain ⟨-,r0,r1,r2,r3,r4,r5⟩:=HR.out.facts;obtain ⟨f0,f1,f2,f3,f4,f5⟩:=HR.out.free;go_wp2_with fail;exact Bq (HR.out.laid _ _ _ _ _ _) rfl rfl rfl ⟨Bf K.out (by omega),_,rfl,_,_,_,_,_,_,rfl,Z1.out.ivW HR.out _ _ _ _ _ _,Z2.out.ivW HR.out _ _ _ _ _ _⟩
 ·have r0:=HT.out;rw [if_neg hp] at r0;subst r0;have hpf:(decide (1≤p)&&decide (p≤2000))=false:=by
   rw [←Bool.not_eq_true];simp only [Bool.and_eq_true,decide_eq_true_eq];exact hp
  rw [hpf] at P1;clear HT hp C1 hpf;go_enter Tryz.func63,Tryz.ntmps63;go_wp2_with fail;rw [←HW.out];go_wp2_with fail;refine (M1.out _ K.out).mono ?_;rintro _ w1 ⟨rfl,q1⟩;simp only [];go_wp2_with fail;refine (P1.out _).mono ?_;rintro _ w2 ⟨rfl,q2⟩;replace K:=hid (K.out.trans (q1.trans q2));replace HR:=hid (HR.out.kept (q1.trans q2));clear q1 q2 a0 a1 a2 a3 a4 a5 M1 P1;simp only [];obtain ⟨-,r0,r1,r2,r3,r4,r5⟩:=HR.out.facts;obtain ⟨f0,f1,f2,f3,f4,f5⟩:=HR.out.free;go_wp2_with fail;exact Bq (HR.out.laid _ _ _ _ _ _) rfl rfl rfl ⟨Bf K.out (by omega),_,rfl,Ce _⟩
theorem Uf {w:World}{v:Value}{a:Iv}(ha:IvR w v a.raw)(hok:a.Ok) :
 Calls Tryz.prog 55 #[v] w (RetI (⟨Cv a.hi,Cv a.lo⟩:Iv).raw w):=by
 obtain ⟨A,l,c,B,m,d,rfl,h1,h2⟩:=Ao ha;have C1:=hid (fun w1 (k:Kept w w1)=>Xr (h1.kept k) hok.lo);have C2:=hid (fun w1 (k:Kept w w1)=>Xr (h2.kept k) hok.hi);clear h1 h2 ha hok;generalize Cv a.lo=y1 at *;generalize Cv a.hi=y2 at *;simp only [Iv.raw,Dy.raw] at *;generalize a.lo.neg=n1 at *;generalize a.lo.e=e1 at *;generalize a.hi.neg=n2 at *;generalize a.hi.e=e2 at *;obtain ⟨W,hW,kW,BA,BR⟩:=P9 w (.bool n1) (.slice A l c) (.int .i64 e1) (.bool n2) (.slice B m d) (.int .i64 e2);have HW:=hid hW;have K:=hid kW;have HA:=hid BA;have HR:=hid BR;clear hW kW BA BR;go_enter Tryz.func55,Tryz.ntmps55
 go_upto_region 1 with fail;rw [←HW.out]
 refine Lx 7 ([(vP w.heap.size 3),(vE (.agg #[.bool n2,.slice B m d,.int .i64 e2])),(fun v wv=>DyR wv v y2.raw),(vP w.heap.size 0),(vE (.agg #[.bool n1,.slice A l c,.int .i64 e1])),(fun v wv=>DyR wv v y1.raw),(fun v wv=>IvR wv v (⟨y2,y1⟩:Iv).raw)])
  (hM:=⟨⟨mE,mE,mD,mE,mE,mD,fun v w w' k h=>h.kept k,trivial⟩⟩) ⟨
    (gq 1),(fun aF wF F=>by have s3:=F.v 0 3;have c0:=Ag HA.out F.kept 3 _ rfl;have c1:=Ag HA.out F.kept 4 _ rfl;have c2:=Ag HA.out F.kept 5 _ rfl;exact sv rfl),(fun aF wF F=>by have s4:=F.v 1 4;exact sD (C2.out _ (K.out.trans F.kept)) fun _ _ h=>h),(gq 1),(fun aF wF F=>by have s6:=F.v 3 6;have c0:=Ag HA.out F.kept 0 _ rfl;have c1:=Ag HA.out F.kept 1 _ rfl;have c2:=Ag HA.out F.kept 2 _ rfl;exact sv rfl),(fun aF wF F=>by have s7:=F.v 4 7;exact sD (C1.out _ (K.out.trans F.kept)) fun _ _ h=>h),(fun aF wF F=>by have s5:=F.p 2 5;have s8:=F.p 5 8;(obtain ⟨A5,l5,c5,e5,z5⟩:=Br s5;obtain ⟨A8,l8,c8,e8,z8⟩:=Br s8;simp only [Array.getD_eq_getD_getElem?] at e5 e8;exact Ar (by simp [Region.wanted]) (by go_simp) ⟨_,_,_,_,_,_,rfl,z5,z8⟩)),
    trivial⟩ ?_
 intro u w1 k1 hu;have p5:=hp hu 2;have p8:=hp hu 5;have p9:=hp hu 6;simp only [Au,An,if_true,Act.put,zlA,zlB,zlC,zlD,zlE,zlF,zlG,hv hu 0,hv hu 1,hv hu 3,hv hu 4];clear hu;generalize u 2=v5,u 5=v8,u 6=v9 at *;obtain ⟨PX,pX,qX,PY,pY,qY,rfl,z1,z2⟩:=Ao p9;replace K:=hid (K.out.trans k1);replace HR:=hid (HR.out.kept k1);have Z1:=hid z1;have Z2:=hid z2;clear z1 z2 p5 p8 p9 k1;obtain ⟨-,r0,r1,r2,r3,r4,r5⟩:=HR.out.facts;obtain ⟨f0,f1,f2,f3,f4,f5⟩:=HR.out.free;go_simp;go_wp2_with fail;exact Xu (HR.out.laid _ _ _ _ _ _) rfl rfl rfl ⟨Bf K.out (by omega),_,rfl,_,_,_,_,_,_,rfl,Z1.out.ivW HR.out _ _ _ _ _ _,Z2.out.ivW HR.out _ _ _ _ _ _⟩
end Go.Proofs.YtinbgjcooolbiaaGreatDoor
