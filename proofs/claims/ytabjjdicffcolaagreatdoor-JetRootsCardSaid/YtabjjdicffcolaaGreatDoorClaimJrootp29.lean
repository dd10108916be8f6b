/- Words and contracts, part 29. -/
import Derived.Test.YtabjjdicffcolaaGreatDoorClaimJrootp28
set_option maxRecDepth 100000
set_option maxHeartbeats 0
namespace Go.Proofs.YtabjjdicffcolaaGreatDoor
open Go.Lib (hid)
open Go.RowKit
def RawI.iv (a:RawI):Iv:=⟨a.lo.dy,a.hi.dy⟩
theorem Fy {a:RawI}(h1:Small a.lo.m)(h2:Small a.hi.m)(h:Hr a=true):a.iv.Ok∧a.iv.raw=a:=by
 unfold Hr at h;simp only [Bool.and_eq_true,decide_eq_true_eq] at h;obtain ⟨⟨m1,m2⟩,m3⟩:=h;obtain ⟨c1,d1⟩:=Jn h1 m1;obtain ⟨c2,d2⟩:=Jn h2 m2;exact ⟨⟨d1,d2,Jc.1 m3⟩,by unfold RawI.iv Iv.raw;simp only [c1,c2]⟩
theorem Iv.raw_iv (a:Iv):a.raw.iv=a:=by unfold Iv.raw RawI.iv;simp only [Dy.raw_dy]
theorem Nh {lo hi:Outc Dy}(h:(Gg lo hi).k≠0):(Gg lo hi).v=iz:=by
 unfold Gg Outc.bind at *;by_cases h1:lo.k=0
 ·simp only [if_pos h1] at h ⊢;by_cases h2:hi.k=0
  ·simp only [if_pos h2] at h;exact absurd rfl h
  ·simp only [if_neg h2]
 ·simp only [if_neg h1]
theorem Nc {α:Type}{o:Outc α}{f:α→Outc Iv}(hf:∀ x,(f x).k≠0→(f x).v=iz)(h:(o.bind iz f).k≠0):(o.bind iz f).v=iz:=by
 unfold Outc.bind at *;by_cases h1:o.k=0
 ·rw [if_pos h1] at h ⊢;exact hf _ h
 ·rw [if_neg h1]
theorem W6 {a b c d:Outc Dy}{f:Dy→Dy→Dy→Dy→Outc Iv}(hf:∀ x y z u,(f x y z u).k≠0→(f x y z u).v=iz)(h:(Mn a b c d f).k≠0):(Mn a b c d f).v=iz:=by
 unfold Mn at *;exact Nc (fun x=>Nc fun y=>Nc fun z=>Nc fun u=>hf x y z u) h
theorem Aio {a b:Iv}{p:Nat}(h:(Ef a b p).k≠0):(Ef a b p).v=iz:=Nh h
theorem Ak3 {a b:Iv}{p:Nat}(h:(Ho a b p).k≠0):(Ho a b p).v=iz:=Nh h
theorem Ajv {a:Iv}{p:Nat}(h:(Mv a p).k≠0):(Mv a p).v=iz:=Nh h
theorem Ajr {a b:Iv}{p:Nat}(h:(Cg a b p).k≠0):(Cg a b p).v=iz:=W6 (fun _ _ _ _ h=>Nh h) h
theorem Akz {a:Iv}{p:Nat}(h:(Iz a p).k≠0):(Iz a p).v=iz:=Nc (fun _ h=>Nc (fun _ h=>Nh h) h) h
theorem Ahz {a:Iv}{p:Nat}(h:(Cc a p).k≠0):(Cc a p).v=iz:=by
 unfold Cc at *;by_cases hs:sg a.lo<0
 ·rw [if_pos hs]
 ·rw [if_neg hs] at h ⊢;exact Nh h
theorem Aiy {a b:Iv}{p:Nat}(h:(Da a b p).k≠0):(Da a b p).v=iz:=by
 unfold Da at *;by_cases hs:Di b=true
 ·rw [if_pos hs]
 ·rw [if_neg hs] at h ⊢;exact W6 (fun _ _ _ _ h=>W6 (fun _ _ _ _ h=>absurd rfl h) h) h
theorem Lw {o:Outc Iv}(h:o.k≠0→o.v=iz):(Br o).k≠0→(Br o).v=rzI:=fun hk=>by
 show o.v.raw=rzI
 rw [h hk,Qf]
theorem Tr (w:World)(o:Obj)(n:Nat)(h:w.heap.size=n):(w.alloc o).heap[n]?=some o:=by subst h;exact heap_alloc_new _ _
theorem Pg (w:World)(n:Nat)(x y z x' y' z':Value)(h:w.heap.size=n):BlkI (w.alloc (.cells #[x,y,z,x',y',z'] 30)) n x y z x' y' z':=Tr w _ n h
theorem Rw (w:World)(x0 x1 x2 x3 x4 x5 y0 y1 y2 y3 y4 y5 p:Value):∃ W,W=((((w.alloc (.cells #[x0,x1,x2,x3,x4,x5] 30)).alloc (.cells #[y0,y1,y2,y3,y4,y5] 30)).alloc (.cells #[p] 3)).alloc (.cells #[.bool false,.slice none 0 0,.int .i64 0,.bool false,.slice none 0 0,.int .i64 0] 30)).alloc (.cells #[x0,x1,x2,x3,x4,x5,y0,y1,y2,y3,y4,y5] 30) ∧
 Kept w W∧BlkI W w.heap.size x0 x1 x2 x3 x4 x5∧BlkI W (w.heap.size+1) y0 y1 y2 y3 y4 y5∧W.cell? ⟨w.heap.size+1+1,0,none⟩=some p∧BlkI W (w.heap.size+1+1+1) (.bool false) (.slice none 0 0) (.int .i64 0) (.bool false) (.slice none 0 0) (.int .i64 0) ∧
 W.heap[w.heap.size+1+1+1+1]?=some (.cells #[x0,x1,x2,x3,x4,x5,y0,y1,y2,y3,y4,y5] 30 (0,0)):=by
 refine ⟨_,rfl,((((Ad _ _).trans (Ad _ _)).trans (Ad _ _)).trans (Ad _ _)).trans (Ad _ _),?_,?_,?_,?_,Tr _ _ _ (by simp)⟩
 ·exact ((((Pg w _ _ _ _ _ _ _ rfl).kept (Ad _ _)).kept (Ad _ _)).kept (Ad _ _)).kept (Ad _ _)
 ·exact (((Pg _ _ _ _ _ _ _ _ (by simp)).kept (Ad _ _)).kept (Ad _ _)).kept (Ad _ _)
 ·exact Al (Ad _ _) (Al (Ad _ _) (Ab (Tr _ _ _ (by simp)) 0 _ rfl))
 ·exact (Pg _ _ _ _ _ _ _ _ (by simp)).kept (Ad _ _)
theorem Wp (w:World)(x0 x1 x2 x3 x4 x5 p:Value):∃ W,W=(((w.alloc (.cells #[x0,x1,x2,x3,x4,x5] 30)).alloc (.cells #[p] 3)).alloc (.cells #[.bool false,.slice none 0 0,.int .i64 0,.bool false,.slice none 0 0,.int .i64 0] 30)).alloc (.cells #[x0,x1,x2,x3,x4,x5] 30) ∧
 Kept w W∧BlkI W w.heap.size x0 x1 x2 x3 x4 x5∧W.cell? ⟨w.heap.size+1,0,none⟩=some p∧BlkI W (w.heap.size+1+1) (.bool false) (.slice none 0 0) (.int .i64 0) (.bool false) (.slice none 0 0) (.int .i64 0) ∧
 W.heap[w.heap.size+1+1+1]?=some (.cells #[x0,x1,x2,x3,x4,x5] 30 (0,0)):=by
 refine ⟨_,rfl,(((Ad _ _).trans (Ad _ _)).trans (Ad _ _)).trans (Ad _ _),?_,?_,?_,Tr _ _ _ (by simp)⟩
 ·exact (((Pg w _ _ _ _ _ _ _ rfl).kept (Ad _ _)).kept (Ad _ _)).kept (Ad _ _)
 ·exact Al (Ad _ _) (Al (Ad _ _) (Ab (Tr _ _ _ (by simp)) 0 _ rfl))
 ·exact (Pg _ _ _ _ _ _ _ _ (by simp)).kept (Ad _ _)
theorem Amk {w:World}{b:Nat}{a:RawI}{T:TypeId}{x0 x1 x2 x3 x4 x5:Value}(h:w.heap[b]?=some (.cells #[x0,x1,x2,x3,x4,x5] T (0,0)))(h1:IvR w (.agg #[x0,x1,x2,x3,x4,x5]) a) :
 IvS w (.slice (some ⟨b,0,none⟩) 1 1) [a]:=by
 refine ⟨_,_,rfl,Nat.le_refl _,fun _=>⟨b,0,rfl,fun i d hi=>?_⟩⟩;rcases i with _ | i
 ·simp at hi;subst hi;exact ⟨_,_,_,_,_,_,Ab h 0 _ rfl,Ab h 1 _ rfl,Ab h 2 _ rfl,Ab h 3 _ rfl,Ab h 4 _ rfl,Ab h 5 _ rfl,h1⟩
 ·simp at hi
theorem Ajh {w:World}{b:Nat}{a a':RawI}{T:TypeId}{x0 x1 x2 x3 x4 x5 y0 y1 y2 y3 y4 y5:Value}(h:w.heap[b]?=some (.cells #[x0,x1,x2,x3,x4,x5,y0,y1,y2,y3,y4,y5] T (0,0)))(h1:IvR w (.agg #[x0,x1,x2,x3,x4,x5]) a)(h2:IvR w (.agg #[y0,y1,y2,y3,y4,y5]) a') :
 IvS w (.slice (some ⟨b,0,none⟩) 2 2) [a,a']:=by
 refine ⟨_,_,rfl,Nat.le_refl _,fun _=>⟨b,0,rfl,fun i d hi=>?_⟩⟩;rcases i with _ | _ | i
 ·simp at hi;subst hi;exact ⟨_,_,_,_,_,_,Ab h 0 _ rfl,Ab h 1 _ rfl,Ab h 2 _ rfl,Ab h 3 _ rfl,Ab h 4 _ rfl,Ab h 5 _ rfl,h1⟩
 ·simp at hi;subst hi;exact ⟨_,_,_,_,_,_,Ab h 6 _ rfl,Ab h 7 _ rfl,Ab h 8 _ rfl,Ab h 9 _ rfl,Ab h 10 _ rfl,Ab h 11 _ rfl,h2⟩
 ·simp at hi
theorem Ft {w:World}{b:Nat}{a:RawI}{A A':Option Addr}{l c l' c':Nat}(hr:a.iv.raw=a)(h:BlkI w b (.bool a.lo.neg) (.slice A l c) (.int .i64 a.lo.e) (.bool a.hi.neg) (.slice A' l' c') (.int .i64 a.hi.e))
 (h1:DyR w (.agg #[.bool a.lo.neg,.slice A l c,.int .i64 a.lo.e]) a.lo) (h2:DyR w (.agg #[.bool a.hi.neg,.slice A' l' c',.int .i64 a.hi.e]) a.hi):BlkIv w b a.iv:=by
 have e1:a.iv.lo.raw=a.lo:=congrArg RawI.lo hr;have e2:a.iv.hi.raw=a.hi:=congrArg RawI.hi hr;exact ⟨A,l,c,A',l',c',h,by rw [e1];exact h1,by rw [e2];exact h2⟩
theorem DyR.small {w:World}{v:Value}{r:Raw}(h:DyR w v r):Small r.m:=by
 obtain ⟨s,_,hs,_⟩:=h;exact hs.1
theorem Anp {w:World}{v u:Value}{a b:RawI}{p:Int}(hv:IvR w v a)(hu:IvR w u b)(la:a.lens 17592186044416)(lb:b.lens 17592186044416)(hT:Tab w) :
 Calls Tryz.prog 96 #[v,u,.int .i64 p] w (RetIE (Ew p [a,b] (Br (Ef a.iv b.iv p.toNat))) w):=by
 have hmf:=Gn;obtain ⟨A,l,c,A',l',c',rfl,h1,h2⟩:=Au hv;obtain ⟨B,j,e,B',j',e',rfl,g1,g2⟩:=Au hu;obtain ⟨W,hW,kW,BA,BB,cp,BR,BL⟩:=Rw w (.bool a.lo.neg) (.slice A l c) (.int .i64 a.lo.e) (.bool a.hi.neg) (.slice A' l' c') (.int .i64 a.hi.e) (.bool b.lo.neg) (.slice B j e) (.int .i64 b.lo.e) (.bool b.hi.neg) (.slice B' j' e') (.int .i64 b.hi.e) (.int .i64 p)
 have hf:=Lg (w:=W) (K:=132) (cap:=#[.pointer (some ⟨w.heap.size,0,none⟩),.pointer (some ⟨w.heap.size+1,0,none⟩),.pointer (some ⟨w.heap.size+1+1,0,none⟩)]) (p:=p) (l:=[a,b]) (o:=Br (Ef a.iv b.iv p.toNat))
  (Ajh BL ⟨_,_,_,_,_,_,rfl,h1.kept kW,h2.kept kW⟩ ⟨_,_,_,_,_,_,rfl,g1.kept kW,g2.kept kW⟩)
  (by intro x hx;simp only [List.mem_cons,List.not_mem_nil,or_false] at hx;rcases hx with rfl | rfl;exact la;exact lb) (by simp)
  (fun p1 p2 hall w1 k=>by
    simp only [List.all_cons,List.all_nil,Bool.and_true,Bool.and_eq_true] at hall;obtain ⟨oa,ra⟩:=Fy h1.small h2.small hall.1;obtain ⟨ob,rb⟩:=Fy g1.small g2.small hall.2;have hp:((p.toNat:Nat):Int)=p:=Int.toNat_of_nonneg (by omega);exact Alx (p:=p.toNat) oa ob (hT.kept (kW.trans k)) (by omega) (by omega) (Ft ra (BA.kept k) (h1.kept (kW.trans k)) (h2.kept (kW.trans k))) (Ft rb (BB.kept k) (g1.kept (kW.trans k)) (g2.kept (kW.trans k))) (by rw [hp];exact Al k cp))
  (Lw Aio) (fun _=>rfl)
 generalize Ew p [a,b] (Br (Ef a.iv b.iv p.toNat))=o at *;have HF:=hid hf;have HW:=hid hW;have HK:=hid kW;have HR:=hid BR;clear hf hW kW BA BB BR BL cp h1 h2 g1 g2 hv hu la lb hT;generalize a.lo.neg=n1 at *;generalize a.lo.e=e1 at *;generalize a.hi.neg=n2 at *;generalize a.hi.e=e2 at *;generalize b.lo.neg=n3 at *;generalize b.lo.e=e3 at *;generalize b.hi.neg=n4 at *;generalize b.hi.e=e4 at *;go_enter Tryz.func96,Tryz.ntmps96
 go_wp2_with (go_at_call 124;rw [←HW.out];refine HF.out.mono ?_;rintro e w1 ⟨q,u,rfl,hd⟩;obtain ⟨A1,j1,k1',A2,j2,k2',rfl,z1,z2⟩:=Au hd;have Z1:=hid z1;have Z2:=hid z2;have hb2:=HR.out.kept q;obtain ⟨hsz,c0,c1,c2,c3,c4,c5⟩:=hb2.facts;obtain ⟨f0,f1,f2,f3,f4,f5⟩:=hb2.free;have HRR:=hid hb2;clear hd hb2 z1 z2)
 exact Dm (HRR.out.laid _ _ _ _ _ _) rfl rfl rfl ⟨Az (HK.out.trans q) (by omega),_,rfl,_,_,_,_,_,_,rfl,Z1.out.ivW HRR.out _ _ _ _ _ _,Z2.out.ivW HRR.out _ _ _ _ _ _⟩
theorem An0 {w:World}{v u:Value}{a b:RawI}{p:Int}(hv:IvR w v a)(hu:IvR w u b)(la:a.lens 17592186044416)(lb:b.lens 17592186044416)(hT:Tab w) :
 Calls Tryz.prog 97 #[v,u,.int .i64 p] w (RetIE (Ew p [a,b] (Br (Ho a.iv b.iv p.toNat))) w):=by
 have hmf:=Gn;obtain ⟨A,l,c,A',l',c',rfl,h1,h2⟩:=Au hv;obtain ⟨B,j,e,B',j',e',rfl,g1,g2⟩:=Au hu;obtain ⟨W,hW,kW,BA,BB,cp,BR,BL⟩:=Rw w (.bool a.lo.neg) (.slice A l c) (.int .i64 a.lo.e) (.bool a.hi.neg) (.slice A' l' c') (.int .i64 a.hi.e) (.bool b.lo.neg) (.slice B j e) (.int .i64 b.lo.e) (.bool b.hi.neg) (.slice B' j' e') (.int .i64 b.hi.e) (.int .i64 p)
 have hf:=Lg (w:=W) (K:=134) (cap:=#[.pointer (some ⟨w.heap.size,0,none⟩),.pointer (some ⟨w.heap.size+1,0,none⟩),.pointer (some ⟨w.heap.size+1+1,0,none⟩)]) (p:=p) (l:=[a,b]) (o:=Br (Ho a.iv b.iv p.toNat))
  (Ajh BL ⟨_,_,_,_,_,_,rfl,h1.kept kW,h2.kept kW⟩ ⟨_,_,_,_,_,_,rfl,g1.kept kW,g2.kept kW⟩)
  (by intro x hx;simp only [List.mem_cons,List.not_mem_nil,or_false] at hx;rcases hx with rfl | rfl;exact la;exact lb) (by simp)
  (fun p1 p2 hall w1 k=>by
    simp only [List.all_cons,List.all_nil,Bool.and_true,Bool.and_eq_true] at hall;obtain ⟨oa,ra⟩:=Fy h1.small h2.small hall.1;obtain ⟨ob,rb⟩:=Fy g1.small g2.small hall.2;have hp:((p.toNat:Nat):Int)=p:=Int.toNat_of_nonneg (by omega);exact Ajg (p:=p.toNat) oa ob (hT.kept (kW.trans k)) (by omega) (by omega) (Ft ra (BA.kept k) (h1.kept (kW.trans k)) (h2.kept (kW.trans k))) (Ft rb (BB.kept k) (g1.kept (kW.trans k)) (g2.kept (kW.trans k))) (by rw [hp];exact Al k cp))
  (Lw Ak3) (fun _=>rfl)
 generalize Ew p [a,b] (Br (Ho a.iv b.iv p.toNat))=o at *;have HF:=hid hf;have HW:=hid hW;have HK:=hid kW;have HR:=hid BR;clear hf hW kW BA BB BR BL cp h1 h2 g1 g2 hv hu la lb hT;generalize a.lo.neg=n1 at *;generalize a.lo.e=e1 at *;generalize a.hi.neg=n2 at *;generalize a.hi.e=e2 at *;generalize b.lo.neg=n3 at *;generalize b.lo.e=e3 at *;generalize b.hi.neg=n4 at *;generalize b.hi.e=e4 at *;go_enter Tryz.func97,Tryz.ntmps97
 go_wp2_with (go_at_call 124;rw [←HW.out];refine HF.out.mono ?_;rintro e w1 ⟨q,u,rfl,hd⟩;obtain ⟨A1,j1,k1',A2,j2,k2',rfl,z1,z2⟩:=Au hd;have Z1:=hid z1;have Z2:=hid z2;have hb2:=HR.out.kept q;obtain ⟨hsz,c0,c1,c2,c3,c4,c5⟩:=hb2.facts;obtain ⟨f0,f1,f2,f3,f4,f5⟩:=hb2.free;have HRR:=hid hb2;clear hd hb2 z1 z2)
 exact Dm (HRR.out.laid _ _ _ _ _ _) rfl rfl rfl ⟨Az (HK.out.trans q) (by omega),_,rfl,_,_,_,_,_,_,rfl,Z1.out.ivW HRR.out _ _ _ _ _ _,Z2.out.ivW HRR.out _ _ _ _ _ _⟩
theorem Anu {w:World}{v u:Value}{a b:RawI}{p:Int}(hv:IvR w v a)(hu:IvR w u b)(la:a.lens 17592186044416)(lb:b.lens 17592186044416)(hT:Tab w) :
 Calls Tryz.prog 98 #[v,u,.int .i64 p] w (RetIE (Ew p [a,b] (Br (Cg a.iv b.iv p.toNat))) w):=by
 have hmf:=Gn;obtain ⟨A,l,c,A',l',c',rfl,h1,h2⟩:=Au hv;obtain ⟨B,j,e,B',j',e',rfl,g1,g2⟩:=Au hu;obtain ⟨W,hW,kW,BA,BB,cp,BR,BL⟩:=Rw w (.bool a.lo.neg) (.slice A l c) (.int .i64 a.lo.e) (.bool a.hi.neg) (.slice A' l' c') (.int .i64 a.hi.e) (.bool b.lo.neg) (.slice B j e) (.int .i64 b.lo.e) (.bool b.hi.neg) (.slice B' j' e') (.int .i64 b.hi.e) (.int .i64 p)
 have hf:=Lg (w:=W) (K:=136) (cap:=#[.pointer (some ⟨w.heap.size,0,none⟩),.pointer (some ⟨w.heap.size+1,0,none⟩),.pointer (some ⟨w.heap.size+1+1,0,none⟩)]) (p:=p) (l:=[a,b]) (o:=Br (Cg a.iv b.iv p.toNat))
  (Ajh BL ⟨_,_,_,_,_,_,rfl,h1.kept kW,h2.kept kW⟩ ⟨_,_,_,_,_,_,rfl,g1.kept kW,g2.kept kW⟩)
  (by intro x hx;simp only [List.mem_cons,List.not_mem_nil,or_false] at hx;rcases hx with rfl | rfl;exact la;exact lb) (by simp)
  (fun p1 p2 hall w1 k=>by
    simp only [List.all_cons,List.all_nil,Bool.and_true,Bool.and_eq_true] at hall;obtain ⟨oa,ra⟩:=Fy h1.small h2.small hall.1;obtain ⟨ob,rb⟩:=Fy g1.small g2.small hall.2;have hp:((p.toNat:Nat):Int)=p:=Int.toNat_of_nonneg (by omega);exact Aiq (p:=p.toNat) oa ob (hT.kept (kW.trans k)) (by omega) (by omega) (Ft ra (BA.kept k) (h1.kept (kW.trans k)) (h2.kept (kW.trans k))) (Ft rb (BB.kept k) (g1.kept (kW.trans k)) (g2.kept (kW.trans k))) (by rw [hp];exact Al k cp))
  (Lw Ajr) (fun _=>rfl)
 generalize Ew p [a,b] (Br (Cg a.iv b.iv p.toNat))=o at *;have HF:=hid hf;have HW:=hid hW;have HK:=hid kW;have HR:=hid BR;clear hf hW kW BA BB BR BL cp h1 h2 g1 g2 hv hu la lb hT;generalize a.lo.neg=n1 at *;generalize a.lo.e=e1 at *;generalize a.hi.neg=n2 at *;generalize a.hi.e=e2 at *;generalize b.lo.neg=n3 at *;generalize b.lo.e=e3 at *;generalize b.hi.neg=n4 at *;generalize b.hi.e=e4 at *;go_enter Tryz.func98,Tryz.ntmps98
 go_wp2_with (go_at_call 124;rw [←HW.out];refine HF.out.mono ?_;rintro e w1 ⟨q,u,rfl,hd⟩;obtain ⟨A1,j1,k1',A2,j2,k2',rfl,z1,z2⟩:=Au hd;have Z1:=hid z1;have Z2:=hid z2;have hb2:=HR.out.kept q;obtain ⟨hsz,c0,c1,c2,c3,c4,c5⟩:=hb2.facts;obtain ⟨f0,f1,f2,f3,f4,f5⟩:=hb2.free;have HRR:=hid hb2;clear hd hb2 z1 z2)
 exact Dm (HRR.out.laid _ _ _ _ _ _) rfl rfl rfl ⟨Az (HK.out.trans q) (by omega),_,rfl,_,_,_,_,_,_,rfl,Z1.out.ivW HRR.out _ _ _ _ _ _,Z2.out.ivW HRR.out _ _ _ _ _ _⟩
theorem Anr {w:World}{v u:Value}{a b:RawI}{p:Int}(hv:IvR w v a)(hu:IvR w u b)(la:a.lens 17592186044416)(lb:b.lens 17592186044416)(hT:Tab w) :
 Calls Tryz.prog 94 #[v,u,.int .i64 p] w (RetIE (Ew p [a,b] (Br (Da a.iv b.iv p.toNat))) w):=by
 have hmf:=Gn;obtain ⟨A,l,c,A',l',c',rfl,h1,h2⟩:=Au hv;obtain ⟨B,j,e,B',j',e',rfl,g1,g2⟩:=Au hu;obtain ⟨W,hW,kW,BA,BB,cp,BR,BL⟩:=Rw w (.bool a.lo.neg) (.slice A l c) (.int .i64 a.lo.e) (.bool a.hi.neg) (.slice A' l' c') (.int .i64 a.hi.e) (.bool b.lo.neg) (.slice B j e) (.int .i64 b.lo.e) (.bool b.hi.neg) (.slice B' j' e') (.int .i64 b.hi.e) (.int .i64 p)
 have hf:=Lg (w:=W) (K:=125) (cap:=#[.pointer (some ⟨w.heap.size+1,0,none⟩),.pointer (some ⟨w.heap.size,0,none⟩),.pointer (some ⟨w.heap.size+1+1,0,none⟩)]) (p:=p) (l:=[a,b]) (o:=Br (Da a.iv b.iv p.toNat))
  (Ajh BL ⟨_,_,_,_,_,_,rfl,h1.kept kW,h2.kept kW⟩ ⟨_,_,_,_,_,_,rfl,g1.kept kW,g2.kept kW⟩)
  (by intro x hx;simp only [List.mem_cons,List.not_mem_nil,or_false] at hx;rcases hx with rfl | rfl;exact la;exact lb) (by simp)
  (fun p1 p2 hall w1 k=>by
    simp only [List.all_cons,List.all_nil,Bool.and_true,Bool.and_eq_true] at hall;obtain ⟨oa,ra⟩:=Fy h1.small h2.small hall.1;obtain ⟨ob,rb⟩:=Fy g1.small g2.small hall.2;have hp:((p.toNat:Nat):Int)=p:=Int.toNat_of_nonneg (by omega);exact Aip (p:=p.toNat) oa ob (hT.kept (kW.trans k)) (by omega) (by omega) (Ft ra (BA.kept k) (h1.kept (kW.trans k)) (h2.kept (kW.trans k))) (Ft rb (BB.kept k) (g1.kept (kW.trans k)) (g2.kept (kW.trans k))) (by rw [hp];exact Al k cp))
  (Lw Aiy) (fun _=>rfl)
 generalize Ew p [a,b] (Br (Da a.iv b.iv p.toNat))=o at *;have HF:=hid hf;have HW:=hid hW;have HK:=hid kW;have HR:=hid BR;clear hf hW kW BA BB BR BL cp h1 h2 g1 g2 hv hu la lb hT;generalize a.lo.neg=n1 at *;generalize a.lo.e=e1 at *;generalize a.hi.neg=n2 at *;generalize a.hi.e=e2 at *;generalize b.lo.neg=n3 at *;generalize b.lo.e=e3 at *;generalize b.hi.neg=n4 at *;generalize b.hi.e=e4 at *;go_enter Tryz.func94,Tryz.ntmps94
 go_wp2_with (go_at_call 124;rw [←HW.out];refine HF.out.mono ?_;rintro e w1 ⟨q,u,rfl,hd⟩;obtain ⟨A1,j1,k1',A2,j2,k2',rfl,z1,z2⟩:=Au hd;have Z1:=hid z1;have Z2:=hid z2;have hb2:=HR.out.kept q;obtain ⟨hsz,c0,c1,c2,c3,c4,c5⟩:=hb2.facts;obtain ⟨f0,f1,f2,f3,f4,f5⟩:=hb2.free;have HRR:=hid hb2;clear hd hb2 z1 z2)
 exact Dm (HRR.out.laid _ _ _ _ _ _) rfl rfl rfl ⟨Az (HK.out.trans q) (by omega),_,rfl,_,_,_,_,_,_,rfl,Z1.out.ivW HRR.out _ _ _ _ _ _,Z2.out.ivW HRR.out _ _ _ _ _ _⟩
theorem Anw {w:World}{v:Value}{a:RawI}{p:Int}(hv:IvR w v a)(la:a.lens 17592186044416)(hT:Tab w) :
 Calls Tryz.prog 99 #[v,.int .i64 p] w (RetIE (Ew p [a] (Br (Mv a.iv p.toNat))) w):=by
 have hmf:=Gn;obtain ⟨A,l,c,A',l',c',rfl,h1,h2⟩:=Au hv;obtain ⟨W,hW,kW,BA,cp,BR,BL⟩:=Wp w (.bool a.lo.neg) (.slice A l c) (.int .i64 a.lo.e) (.bool a.hi.neg) (.slice A' l' c') (.int .i64 a.hi.e) (.int .i64 p)
 have hf:=Lg (w:=W) (K:=138) (cap:=#[.pointer (some ⟨w.heap.size,0,none⟩),.pointer (some ⟨w.heap.size+1,0,none⟩)]) (p:=p) (l:=[a]) (o:=Br (Mv a.iv p.toNat))
  (Amk BL ⟨_,_,_,_,_,_,rfl,h1.kept kW,h2.kept kW⟩)
  (by intro x hx;simp only [List.mem_cons,List.not_mem_nil,or_false] at hx;subst hx;exact la) (by simp)
  (fun p1 p2 hall w1 k=>by
    simp only [List.all_cons,List.all_nil,Bool.and_true] at hall;obtain ⟨oa,ra⟩:=Fy h1.small h2.small hall;have hp:((p.toNat:Nat):Int)=p:=Int.toNat_of_nonneg (by omega);exact Amy (p:=p.toNat) oa (hT.kept (kW.trans k)) (by omega) (by omega) (Ft ra (BA.kept k) (h1.kept (kW.trans k)) (h2.kept (kW.trans k))) (by rw [hp];exact Al k cp))
  (Lw Ajv) (fun _=>rfl)
 generalize Ew p [a] (Br (Mv a.iv p.toNat))=o at *;have HF:=hid hf;have HW:=hid hW;have HK:=hid kW;have HR:=hid BR;clear hf hW kW BA BR BL cp h1 h2 hv la hT;generalize a.lo.neg=n1 at *;generalize a.lo.e=e1 at *;generalize a.hi.neg=n2 at *;generalize a.hi.e=e2 at *;go_enter Tryz.func99,Tryz.ntmps99
 go_wp2_with (go_at_call 124;rw [←HW.out];refine HF.out.mono ?_;rintro e w1 ⟨q,u,rfl,hd⟩;obtain ⟨A1,j1,k1',A2,j2,k2',rfl,z1,z2⟩:=Au hd;have Z1:=hid z1;have Z2:=hid z2;have hb2:=HR.out.kept q;obtain ⟨hsz,c0,c1,c2,c3,c4,c5⟩:=hb2.facts;obtain ⟨f0,f1,f2,f3,f4,f5⟩:=hb2.free;have HRR:=hid hb2;clear hd hb2 z1 z2)
 exact Dm (HRR.out.laid _ _ _ _ _ _) rfl rfl rfl ⟨Az (HK.out.trans q) (by omega),_,rfl,_,_,_,_,_,_,rfl,Z1.out.ivW HRR.out _ _ _ _ _ _,Z2.out.ivW HRR.out _ _ _ _ _ _⟩
theorem Any {w:World}{v:Value}{a:RawI}{p:Int}(hv:IvR w v a)(la:a.lens 17592186044416)(hT:Tab w) :
 Calls Tryz.prog 100 #[v,.int .i64 p] w (RetIE (Ew p [a] (Br (Iz a.iv p.toNat))) w):=by
 have hmf:=Gn;obtain ⟨A,l,c,A',l',c',rfl,h1,h2⟩:=Au hv;obtain ⟨W,hW,kW,BA,cp,BR,BL⟩:=Wp w (.bool a.lo.neg) (.slice A l c) (.int .i64 a.lo.e) (.bool a.hi.neg) (.slice A' l' c') (.int .i64 a.hi.e) (.int .i64 p)
 have hf:=Lg (w:=W) (K:=140) (cap:=#[.pointer (some ⟨w.heap.size,0,none⟩),.pointer (some ⟨w.heap.size+1,0,none⟩)]) (p:=p) (l:=[a]) (o:=Br (Iz a.iv p.toNat))
  (Amk BL ⟨_,_,_,_,_,_,rfl,h1.kept kW,h2.kept kW⟩)
  (by intro x hx;simp only [List.mem_cons,List.not_mem_nil,or_false] at hx;subst hx;exact la) (by simp)
  (fun p1 p2 hall w1 k=>by
    simp only [List.all_cons,List.all_nil,Bool.and_true] at hall;obtain ⟨oa,ra⟩:=Fy h1.small h2.small hall;have hp:((p.toNat:Nat):Int)=p:=Int.toNat_of_nonneg (by omega);exact Anj (p:=p.toNat) oa (hT.kept (kW.trans k)) (by omega) (by omega) (Ft ra (BA.kept k) (h1.kept (kW.trans k)) (h2.kept (kW.trans k))) (by rw [hp];exact Al k cp))
  (Lw Akz) (fun _=>rfl)
 generalize Ew p [a] (Br (Iz a.iv p.toNat))=o at *;have HF:=hid hf;have HW:=hid hW;have HK:=hid kW;have HR:=hid BR;clear hf hW kW BA BR BL cp h1 h2 hv la hT;generalize a.lo.neg=n1 at *;generalize a.lo.e=e1 at *;generalize a.hi.neg=n2 at *;generalize a.hi.e=e2 at *;go_enter Tryz.func100,Tryz.ntmps100
 go_wp2_with (go_at_call 124;rw [←HW.out];refine HF.out.mono ?_;rintro e w1 ⟨q,u,rfl,hd⟩;obtain ⟨A1,j1,k1',A2,j2,k2',rfl,z1,z2⟩:=Au hd;have Z1:=hid z1;have Z2:=hid z2;have hb2:=HR.out.kept q;obtain ⟨hsz,c0,c1,c2,c3,c4,c5⟩:=hb2.facts;obtain ⟨f0,f1,f2,f3,f4,f5⟩:=hb2.free;have HRR:=hid hb2;clear hd hb2 z1 z2)
 exact Dm (HRR.out.laid _ _ _ _ _ _) rfl rfl rfl ⟨Az (HK.out.trans q) (by omega),_,rfl,_,_,_,_,_,_,rfl,Z1.out.ivW HRR.out _ _ _ _ _ _,Z2.out.ivW HRR.out _ _ _ _ _ _⟩
theorem Alv {w:World}{v:Value}{a:RawI}{p:Int}(hv:IvR w v a)(la:a.lens 17592186044416)(hT:Tab w) :
 Calls Tryz.prog 101 #[v,.int .i64 p] w (RetIE (Ew p [a] (Br (Cc a.iv p.toNat))) w):=by
 have hmf:=Gn;obtain ⟨A,l,c,A',l',c',rfl,h1,h2⟩:=Au hv;obtain ⟨W,hW,kW,BA,cp,BR,BL⟩:=Wp w (.bool a.lo.neg) (.slice A l c) (.int .i64 a.lo.e) (.bool a.hi.neg) (.slice A' l' c') (.int .i64 a.hi.e) (.int .i64 p)
 have hf:=Lg (w:=W) (K:=141) (cap:=#[.pointer (some ⟨w.heap.size,0,none⟩),.pointer (some ⟨w.heap.size+1,0,none⟩)]) (p:=p) (l:=[a]) (o:=Br (Cc a.iv p.toNat))
  (Amk BL ⟨_,_,_,_,_,_,rfl,h1.kept kW,h2.kept kW⟩)
  (by intro x hx;simp only [List.mem_cons,List.not_mem_nil,or_false] at hx;subst hx;exact la) (by simp)
  (fun p1 p2 hall w1 k=>by
    simp only [List.all_cons,List.all_nil,Bool.and_true] at hall;obtain ⟨oa,ra⟩:=Fy h1.small h2.small hall;have hp:((p.toNat:Nat):Int)=p:=Int.toNat_of_nonneg (by omega);exact Ak2 (p:=p.toNat) oa (hT.kept (kW.trans k)) (by omega) (by omega) (Ft ra (BA.kept k) (h1.kept (kW.trans k)) (h2.kept (kW.trans k))) (by rw [hp];exact Al k cp))
  (Lw Ahz) (fun _=>rfl)
 generalize Ew p [a] (Br (Cc a.iv p.toNat))=o at *;have HF:=hid hf;have HW:=hid hW;have HK:=hid kW;have HR:=hid BR;clear hf hW kW BA BR BL cp h1 h2 hv la hT;generalize a.lo.neg=n1 at *;generalize a.lo.e=e1 at *;generalize a.hi.neg=n2 at *;generalize a.hi.e=e2 at *;go_enter Tryz.func101,Tryz.ntmps101
 go_wp2_with (go_at_call 124;rw [←HW.out];refine HF.out.mono ?_;rintro e w1 ⟨q,u,rfl,hd⟩;obtain ⟨A1,j1,k1',A2,j2,k2',rfl,z1,z2⟩:=Au hd;have Z1:=hid z1;have Z2:=hid z2;have hb2:=HR.out.kept q;obtain ⟨hsz,c0,c1,c2,c3,c4,c5⟩:=hb2.facts;obtain ⟨f0,f1,f2,f3,f4,f5⟩:=hb2.free;have HRR:=hid hb2;clear hd hb2 z1 z2)
 exact Dm (HRR.out.laid _ _ _ _ _ _) rfl rfl rfl ⟨Az (HK.out.trans q) (by omega),_,rfl,_,_,_,_,_,_,rfl,Z1.out.ivW HRR.out _ _ _ _ _ _,Z2.out.ivW HRR.out _ _ _ _ _ _⟩
structure Ln where
 op:Int
 a:Int
 b:Int
 k:RawI
structure En where
 t:RawI
 x:List RawI
 u:List RawI
 p:List RawI
def Lv (op:Int):Int :=
 if op=1∨op=2∨op=3∨op=4∨op=5 then 0 else if op=6∨op=7∨op=8∨op=9 then 2 else if op=10∨op=11∨op=12∨op=13 then 1 else -1
def Db (n most:Int):Bool:=decide (0≤n)&&decide (n<most)
def Zy (a b:RawI):Bool:=Kr a.lo b.lo&&Kr a.hi b.hi
def Rm (l:Ln) (at':Int) (x u p:Int):Bool :=
 if l.op=1 then Hr l.k&&(decide (l.a=0)&&decide (l.b=0)) else
 if Zy l.k rzI=false then false else
 if l.op=2 then decide (l.a=0)&&decide (l.b=0) else
 if l.op=3 then Db l.a x&&decide (l.b=0) else
 if l.op=4 then Db l.a u&&decide (l.b=0) else
 if l.op=5 then Db l.a p&&decide (l.b=0) else
 if l.op=6∨l.op=7∨l.op=8∨l.op=9 then Db l.a at'&&Db l.b at' else
 if l.op=10∨l.op=11∨l.op=12∨l.op=13 then Db l.a at'&&decide (l.b=0) else false
def Tk (x u p:Int):Nat→List Ln→Bool
 | _,[]=>true
 | i,l::ls=>Rm l i x u p&&Tk x u p (i+1) ls
def Pp (ls:List Ln) (outs:List Int) (x u p:Int):Bool :=
 decide (ls.length≤200)&&decide (outs.length≤200)&&Tk x u p 0 ls&&outs.all fun n=>Db n ls.length
def Cv (a:Iv) (p:Nat):Outc Iv:=Gg (Cw a.lo p false) (Cw a.hi p true)
def atI (l:List RawI) (n:Int):Iv:=(l.getD n.toNat rzI).iv
theorem Nx {a:Iv}(ha:a.Ok){p:Nat}(hp:1≤p):OkI (Cv a p):=by
 unfold Cv;refine Kh (Hd _ _ _) (Hd _ _ _) fun k1 k2=>?_
 have d1:=(Fg hp k1).le;have d2:=(Hz hp k2).le;have:=ha.le;grind
def Cl (l:List RawI):Prop:=∀ a∈l,a.iv.Ok∧a.iv.raw=a
theorem Amb {a:Iv}(h:a.Ok):a.raw.iv.Ok∧a.raw.iv.raw=a.raw:=by rw [Iv.raw_iv];exact ⟨h,rfl⟩
theorem Cl.snoc {l:List RawI}{a:Iv}(h:Cl l)(ha:a.Ok):Cl (l++[a.raw]):=by
 intro x hx;rcases List.mem_append.1 hx with hx | hx
 ·exact h x hx
 ·simp at hx;subst hx;exact Amb ha
theorem Anc:rzI.iv=iz:=rfl
theorem Cl.at {l:List RawI}(h:Cl l)(n:Int):(atI l n).Ok:=by
 unfold atI;rw [List.getD_eq_getElem?_getD];cases hi:l[n.toNat]? with
 | none=>simp only [Option.getD_none];rw [Anc];exact Q9
 | some a=>simp only [Option.getD_some];exact (h a (List.mem_of_getElem? hi)).1
structure En.Cl (e:En):Prop where
 t:e.t.iv.Ok∧e.t.iv.raw=e.t
 x:Go.Proofs.YtabjjdicffcolaaGreatDoor.Cl e.x
 u:Go.Proofs.YtabjjdicffcolaaGreatDoor.Cl e.u
 p:Go.Proofs.YtabjjdicffcolaaGreatDoor.Cl e.p
structure Rg (d:Dy) (A B:Int):Prop where
 ok:d.Ok
 lo:d.m≠0→-A≤d.e
 hi:d.m≠0→bl d.m+d.e≤B
theorem Rg.zero (A B:Int):Rg dz A B:=⟨Kg,fun h=>absurd rfl h,fun h=>absurd rfl h⟩
theorem Rg.mono {d:Dy}{A B A' B':Int}(h:Rg d A B)(hA:A≤A')(hB:B≤B'):Rg d A' B':=⟨h.ok,fun h0=>by have:=h.lo h0;omega,fun h0=>by have:=h.hi h0;omega⟩
theorem Rg.neg {d:Dy}{A B:Int}(h:Rg d A B):Rg (D5 d) A B:=by
 refine ⟨Hh h.ok,?_,?_⟩<;>unfold D5<;>split<;>first | exact h.lo | exact h.hi
theorem J3 {neg:Bool}{n:Nat}{e A B:Int}(h1:n≠0→-A≤e)(h2:n≠0→bl n+e≤B)(hb:bl n≤4000)(hA:A≤100000)(hB:B≤100000) :
 (Bw neg n e).k=0∧Rg (Bw neg n e).v A B:=by
 have ok:=(Fm neg n e).1;by_cases h0:n=0
 ·subst h0;exact ⟨rfl,Rg.zero _ _⟩
 ·have h1:=h1 h0;have h2:=h2 h0;have ht:tz n<bl n:=M9 n (bl n) h0 (Bd n);have hd:bl (n/2^tz n)=bl n-tz n:=Mi _ _;have hl:(Aj (n/2^tz n)).length≤64:=Nn (k:=64) (by omega);unfold Bw at ok ⊢;rw [if_neg h0,if_neg (by omega),if_neg (by omega),if_neg (by omega)] at ok ⊢;exact ⟨rfl,ok,fun _=>by show -A≤e+tz n;omega,fun _=>by show (bl (n/2^tz n):Int)+(e+tz n)≤B;omega⟩
theorem Wt {neg:Bool}{m:Nat}{e A B:Int}{rest:Bool}{p:Nat}{up:Bool}(h1:m≠0→-A≤e)(h2:m≠0→bl m+e≤B)(h0:rest=true→p<bl m)(hp:p≤2000)(hA:A≤100000)(hB:B≤99999) :
 (Iu neg m e rest p up).k=0∧Rg (Iu neg m e rest p up).v A (B+1):=by
 unfold Iu;have hb:bl (m/2^(bl m-p))=bl m-(bl m-p):=Mi _ _;have h2':Eb m rest p (up != neg)≤m/2^(bl m-p)+1:=by
  unfold Eb Ie;simp only;split<;>omega
 have h3:=Bd (m/2^(bl m-p));have h6:bl (Eb m rest p (up != neg))≤bl (m/2^(bl m-p))+1:=Ej _ _ (by
  have:=Nat.two_pow_succ (bl (m/2^(bl m-p)));have:=Nat.two_pow_pos (bl (m/2^(bl m-p)));generalize m/2^(bl m-p)=z at *;omega)
 by_cases hm:m=0
 ·have hr:rest=false:=by
   cases rest with
   | false=>rfl
   | true=>have:=h0 rfl;rw [hm,Gr] at this;omega
  subst hm hr;have:Eb 0 false p (up != neg)=0:=by unfold Eb Ie;simp [bl]
  rw [this];exact ⟨rfl,Rg.zero _ _⟩
 ·have:=h1 hm;have:=h2 hm;exact J3 (fun _=>by omega) (fun _=>by omega) (by omega) hA (by omega)
theorem Le {d:Dy}{A B:Int}{p:Nat}{up:Bool}(h:Rg d A B)(hp:p≤2000)(hA:A≤100000)(hB:B≤99999):(Cw d p up).k=0∧Rg (Cw d p up).v A (B+1) :=
 Wt h.lo h.hi (fun h=>by cases h) hp hA hB
theorem Adb {a b:Dy}{A B:Int}(ha:Rg a A B)(hb:Rg b A B)(ma:a.m≠0)(mb:b.m≠0)(h:b.e≤a.e)(hA:A≤100000)(hB:B≤99990)(hAB:A+B≤3900):(Kw a b).k=0∧Rg (Kw a b).v A (B+2):=by
 have a1:=ha.lo ma;have a2:=ha.hi ma;have b1:=hb.lo mb;have b2:=hb.hi mb;have hk:bl (2^(a.e-b.e).toNat)≤(a.e-b.e).toNat+1:=Ej _ _ (Nat.pow_lt_pow_right (by decide) (by omega));have hm:=F9 (Nat.le_refl (bl a.m)) hk;obtain ⟨M,hM⟩:∃ M,M=max (bl a.m+((a.e-b.e).toNat+1)) (bl b.m):=⟨_,rfl⟩;have hs:bl (a.m*2^(a.e-b.e).toNat+b.m)≤M+1:=Aly (by omega) (by omega);have hd:bl (a.m*2^(a.e-b.e).toNat-b.m)≤M+1:=Nat.le_trans (Gq (Nat.le_trans (Nat.sub_le _ _) (Nat.le_add_right _ b.m))) hs;have hd':bl (b.m-a.m*2^(a.e-b.e).toNat)≤M+1:=Nat.le_trans (Gq (Nat.le_trans (Nat.sub_le _ _) (Nat.le_add_left b.m (a.m*2^(a.e-b.e).toNat)))) hs
 have hM2:(M:Int)+1+b.e≤B+2:=by omega
 unfold Kw;rw [if_neg (by omega)];split
 ·exact J3 (fun _=>b1) (fun _=>by omega) (by omega) hA (by omega)
 ·split
  ·exact J3 (fun _=>b1) (fun _=>by omega) (by omega) hA (by omega)
  ·exact J3 (fun _=>b1) (fun _=>by omega) (by omega) hA (by omega)
theorem Adc {x y:Dy}{A B:Int}(hx:Rg x A B)(hy:Rg y A B)(hA:A≤100000)(hB:B≤99990)(hAB:A+B≤3900):(Dz x y).k=0∧Rg (Dz x y).v A (B+2):=by
 unfold Dz;by_cases h1:x.m=0
 ·rw [if_pos h1];exact ⟨rfl,hy.mono (Int.le_refl _) (by omega)⟩
 ·rw [if_neg h1];by_cases h2:y.m=0
  ·rw [if_pos h2];exact ⟨rfl,hx.mono (Int.le_refl _) (by omega)⟩
  ·rw [if_neg h2];split
   ·exact Adb hy hx h2 h1 (by omega) hA hB hAB
   ·exact Adb hx hy h1 h2 (by omega) hA hB hAB
theorem No {x y:Dy}{A B A' B':Int}(hx:Rg x A B)(hy:Rg y A' B')(hA:A+A'≤100000)(hB:B+B'≤100000)(h:A+B+A'+B'≤4000):(Bq x y).k=0∧Rg (Bq x y).v (A+A') (B+B'):=by
 by_cases h1:x.m=0
 ·unfold Bq;rw [h1,Nat.zero_mul];exact ⟨rfl,Rg.zero _ _⟩
 ·by_cases h2:y.m=0
  ·unfold Bq;rw [h2,Nat.mul_zero];exact ⟨rfl,Rg.zero _ _⟩
  ·have:=hx.lo h1;have:=hx.hi h1;have:=hy.lo h2;have:=hy.hi h2;have hb:=F9 (Nat.le_refl (bl x.m)) (Nat.le_refl (bl y.m));exact J3 (fun _=>by omega) (fun _=>by omega) (by omega) hA hB
theorem Rv {x y:Nat}(h:y≠0):bl (x/y)≤bl x-(bl y-1):=by
 have hy:2^(bl y-1)≤y:=Dl y h;rw [←Mi];exact Gq (Nat.div_le_div_left hy (Nat.two_pow_pos _))
theorem Pw {a b:Dy}{A B A' B':Int}{p:Nat}{up:Bool}(ha:Rg a A B)(hb:Rg b A' B')(hm:b.m≠0)(hp:p≤1900)(hA:A+B'+p+1≤100000)(hB:B+A'+1≤99999) :
 (Bh a b p up).k=0∧Rg (Bh a b p up).v (A+B'+p+1) (B+A'+2):=by
 have b1:=hb.lo hm;have b2:=hb.hi hm;have bp:=Co _ hm;unfold Bh;have e:B+A'+2=(B+A'+1)+1:=by omega
 rw [e];by_cases h1:a.m=0
 ·rw [h1,Nat.zero_mul];refine Wt (fun h=>absurd (Nat.zero_div _) h) (fun h=>absurd (Nat.zero_div _) h) (fun h=>?_) (by omega) hA hB;simp at h
 ·have a1:=ha.lo h1;have a2:=ha.hi h1;have ap:=Co _ h1;have hK:Bu a b p=p+1+bl b.m-bl a.m:=rfl;have hq:=Px a.m b.m p h1 hm (Bu a b p) (by omega);have hk:bl (2^Bu a b p)≤Bu a b p+1:=Ej _ _ (Nat.pow_lt_pow_right (by decide) (by omega));have hm2:=F9 (Nat.le_refl (bl a.m)) hk;have hd:=Rv (x:=a.m*2^Bu a b p) hm;refine Wt (fun _=>by omega) (fun _=>by omega) (fun _=>hq) (by omega) hA hB
structure RgI (a:Iv) (A B:Int):Prop where
 lo:Rg a.lo A B
 hi:Rg a.hi A B
theorem RgI.mono {a:Iv}{A B A' B':Int}(h:RgI a A B)(hA:A≤A')(hB:B≤B'):RgI a A' B':=⟨h.lo.mono hA hB,h.hi.mono hA hB⟩
theorem RgI.pt {d:Dy}{A B:Int}(h:Rg d A B):RgI (pt d) A B:=⟨h,h⟩
theorem RgI.zero (A B:Int):RgI iz A B:=⟨Rg.zero _ _,Rg.zero _ _⟩
def GoodI (o:Outc Iv) (A B:Int):Prop:=o.k=0∧RgI o.v A B
theorem GoodI.mono {o:Outc Iv}{A B A' B':Int}(h:GoodI o A B)(hA:A≤A')(hB:B≤B'):GoodI o A' B':=⟨h.1,h.2.mono hA hB⟩
theorem Sa {lo hi:Outc Dy}{A B:Int}(h1:lo.k=0∧Rg lo.v A B)(h2:hi.k=0∧Rg hi.v A B):GoodI (Gg lo hi) A B:=by
 unfold Gg;rw [Outc.bind_of _ _ h1.1,Outc.bind_of _ _ h2.1];exact ⟨rfl,h1.2,h2.2⟩
theorem Ac4 {o:Outc Dy}{A B:Int}{p:Nat}{up:Bool}(h:o.k=0∧Rg o.v A B)(hp:p≤2000)(hA:A≤100000)(hB:B≤99999):(Qs o p up).k=0∧Rg (Qs o p up).v A (B+1):=by
 unfold Qs;rw [Outc.bind_of _ _ h.1];exact Le h.2 hp hA hB
theorem Ru {a b:Iv}{A B:Int}{p:Nat}(ha:RgI a A B)(hb:RgI b A B)(hp:p≤2000)(hA:A≤100000)(hB:B≤99990)(hAB:A+B≤3900):GoodI (Ef a b p) A (B+3):=by
 have e:B+3=(B+2)+1:=by omega
 rw [e];exact Sa (Ac4 (Adc ha.lo hb.lo hA hB hAB) hp hA (by omega)) (Ac4 (Adc ha.hi hb.hi hA hB hAB) hp hA (by omega))
theorem Ak4 {a b:Iv}{A B:Int}{p:Nat}(ha:RgI a A B)(hb:RgI b A B)(hp:p≤2000)(hA:A≤100000)(hB:B≤99990)(hAB:A+B≤3900):GoodI (Ho a b p) A (B+3) :=
 Ru (b:=⟨D5 b.hi,D5 b.lo⟩) ha ⟨hb.hi.neg,hb.lo.neg⟩ hp hA hB hAB
theorem Vz {a:Iv}{A B:Int}{p:Nat}(ha:RgI a A B)(hp:p≤2000)(hA:A≤100000)(hB:B≤99990):GoodI (Cv a p) A (B+1) :=
 Sa (Le ha.lo hp hA (by omega)) (Le ha.hi hp hA (by omega))
theorem Vq {x y z u:Dy}{A B:Int}(hx:Rg x A B)(hy:Rg y A B)(hz:Rg z A B)(hu:Rg u A B):Rg (Bv x [x,y,z,u]) A B:=by
 rcases Tg (x:=x) (y:=y) (z:=z) (u:=u) with h | h | h | h<;>rw [h]<;>assumption
theorem Pk {x y z u:Dy}{A B:Int}(hx:Rg x A B)(hy:Rg y A B)(hz:Rg z A B)(hu:Rg u A B):Rg (Ax x [x,y,z,u]) A B:=by
 rcases Oc (x:=x) (y:=y) (z:=z) (u:=u) with h | h | h | h<;>rw [h]<;>assumption
theorem Xg {a b:Iv}{A B A' B':Int}{p:Nat}(ha:RgI a A B)(hb:RgI b A' B')(hp:p≤2000)(hA:A+A'≤100000)(hB:B+B'≤99990)(h:A+B+A'+B'≤4000):GoodI (Cg a b p) (A+A') (B+B'+1):=by
 obtain ⟨k1,r1⟩:=No ha.lo hb.lo hA (by omega) h;obtain ⟨k2,r2⟩:=No ha.lo hb.hi hA (by omega) h;obtain ⟨k3,r3⟩:=No ha.hi hb.lo hA (by omega) h;obtain ⟨k4,r4⟩:=No ha.hi hb.hi hA (by omega) h;unfold Cg;rw [S6 k1 k2 k3 k4];exact Sa (Le (Vq r1 r2 r3 r4) hp hA (by omega)) (Le (Pk r1 r2 r3 r4) hp hA (by omega))
theorem Ak1 {a:Iv}{A B:Int}{p:Nat}(ha:RgI a A B)(hp:p≤2000)(hA:A+A≤100000)(hB:B+B≤99990)(h:A+B+A+B≤4000):GoodI (Iz a p) (A+A) (B+B+1):=by
 obtain ⟨k1,r1⟩:=No ha.lo ha.lo hA (by omega) h;obtain ⟨k2,r2⟩:=No ha.hi ha.hi hA (by omega) h;unfold Iz;rw [Outc.bind_of _ _ k1,Outc.bind_of _ _ k2];refine Sa (Le ?_ hp hA (by omega)) (Le ?_ hp hA (by omega))
 ·split
  ·exact Rg.zero _ _
  ·rcases Tf (x:=(Bq a.lo a.lo).v) (y:=(Bq a.hi a.hi).v) with h | h<;>rw [h]<;>assumption
 ·rcases Ob (x:=(Bq a.lo a.lo).v) (y:=(Bq a.hi a.hi).v) with h | h<;>rw [h]<;>assumption
theorem Ace {a b:Iv}{A B A' B':Int}{p:Nat}(ha:RgI a A B)(hb:RgI b A' B')(ob:b.Ok)(hz:¬Di b=true)(hp:p≤1900)(hA:A+B'+p+1≤100000)(hB:B+A'+1≤99999) :
 GoodI (Da a b p) (A+B'+p+1) (B+A'+2):=by
 obtain ⟨n1,n2⟩:=Lk ob hz;unfold Da;rw [if_neg hz];have q:=fun up=>Pw (up:=up) ha.lo hb.lo n1 hp hA hB
 have q2:=fun up=>Pw (up:=up) ha.lo hb.hi n2 hp hA hB
 have q3:=fun up=>Pw (up:=up) ha.hi hb.lo n1 hp hA hB
 have q4:=fun up=>Pw (up:=up) ha.hi hb.hi n2 hp hA hB
 rw [S6 (q false).1 (q2 false).1 (q3 false).1 (q4 false).1,S6 (q true).1 (q2 true).1 (q3 true).1 (q4 true).1];exact ⟨rfl,Vq (q false).2 (q2 false).2 (q3 false).2 (q4 false).2,Pk (q true).2 (q2 true).2 (q3 true).2 (q4 true).2⟩
def In (x:Rat) (a:Iv):Prop:=a.lo.q≤x∧x≤a.hi.q
theorem Aga (d:Dy):In d.q (pt d):=⟨Rat.le_refl,Rat.le_refl⟩
theorem Aar {a b:Iv}{x y:Rat}{p:Nat}(hp:1≤p)(hk:(Ef a b p).k=0)(hx:In x a)(hy:In y b):In (x+y) (Ef a b p).v:=by
 obtain ⟨d1,d2⟩:=U9 hp hk;have h1:=d1.le;have h2:=d2.le;obtain ⟨x1,x2⟩:=hx;obtain ⟨y1,y2⟩:=hy;exact ⟨by grind,by grind⟩
theorem Anl {a b:Iv}{x y:Rat}{p:Nat}(hp:1≤p)(hk:(Ho a b p).k=0)(hx:In x a)(hy:In y b):In (x-y) (Ho a b p).v:=by
 obtain ⟨d1,d2⟩:=Aev hp hk;have h1:=d1.le;have h2:=d2.le;obtain ⟨x1,x2⟩:=hx;obtain ⟨y1,y2⟩:=hy;exact ⟨by grind,by grind⟩
theorem Abi {a b:Iv}{x y:Rat}{p:Nat}(hp:1≤p)(hk:(Cg a b p).k=0)(hx:In x a)(hy:In y b):In (x*y) (Cg a b p).v:=by
 obtain ⟨L,H,d1,d2,⟨t1,t2,t3,t4⟩,⟨u1,u2,u3,u4⟩,-,-⟩:=Ad5 hp hk;have h1:=d1.le;have h2:=d2.le;have b1:=Afd hx.1 hx.2 hy.1 hy.2 t1 t2 t3 t4;have b2:=Afe hx.1 hx.2 hy.1 hy.2 u1 u2 u3 u4;exact ⟨by grind,by grind⟩
theorem Vy {a:Iv}{x:Rat}{p:Nat}(hp:1≤p)(hk:(Cv a p).k=0)(hx:In x a):In x (Cv a p).v:=by
 unfold Cv at *;obtain ⟨h1,h2,h3⟩:=Ni hk;rw [h3];have:=(Fg hp h1).le;have:=(Hz hp h2).le;obtain ⟨x1,x2⟩:=hx;exact ⟨by show (Cw a.lo p false).v.q≤x;grind,by show x≤(Cw a.hi p true).v.q;grind⟩
theorem Te {x y:Rat}(hx:0<x)(h:x≤y):y⁻¹≤x⁻¹:=by
 have hy:0<y:=by grind
 have hx':=Rat.inv_pos.2 hx;have hy':=Rat.inv_pos.2 hy;have e1:x*x⁻¹=1:=Rat.mul_inv_cancel _ (by grind);have e2:y*y⁻¹=1:=Rat.mul_inv_cancel _ (by grind);have h1:x*(x⁻¹*y⁻¹)≤y*(x⁻¹*y⁻¹):=Rat.mul_le_mul_of_nonneg_right h (Rat.le_of_lt (Rat.mul_pos hx' hy'));have e3:x*(x⁻¹*y⁻¹)=y⁻¹:=by rw [←Rat.mul_assoc,e1,Rat.one_mul]
 have e4:y*(x⁻¹*y⁻¹)=x⁻¹:=by rw [Rat.mul_comm x⁻¹,←Rat.mul_assoc,e2,Rat.one_mul]
 rw [e3,e4] at h1;exact h1
theorem Vo {x y:Rat}(hy:y<0)(h:x≤y):y⁻¹≤x⁻¹:=by
 have h1:=Te (x:=-y) (y:=-x) (by grind) (by grind);have e:∀ z:Rat,z≠0→(-z)⁻¹=-(z⁻¹):=by intro z hz;grind
 rw [e x (by grind),e y (by grind)] at h1;grind
theorem Aft {a b:Iv}{x y:Rat}{p:Nat}(ob:b.Ok)(hp:1≤p)(hk:(Da a b p).k=0)(hx:In x a)(hy:In y b):In (x/y) (Da a b p).v:=by
 unfold Da at hk ⊢;by_cases hz:Di b=true
 ·rw [if_pos hz] at hk;exact absurd hk (by decide)
 ·rw [if_neg hz] at hk ⊢;obtain ⟨n1,n2⟩:=Lk ob hz;have hz':¬(b.lo.q≤0∧0≤b.hi.q):=fun h=>hz ((Gz b).2 h)
  obtain ⟨k1,k2,k3,k4,e⟩:=W7 hk;rw [e] at hk ⊢;obtain ⟨k5,k6,k7,k8,e⟩:=W7 hk;rw [e];obtain ⟨l1,l2,l3,l4⟩:=Xa (x:=(Bh a.lo b.lo p false).v) (y:=(Bh a.lo b.hi p false).v) (z:=(Bh a.hi b.lo p false).v) (u:=(Bh a.hi b.hi p false).v);obtain ⟨g1,g2,g3,g4⟩:=Nj (x:=(Bh a.lo b.lo p true).v) (y:=(Bh a.lo b.hi p true).v) (z:=(Bh a.hi b.lo p true).v) (u:=(Bh a.hi b.hi p true).v);have c1:=(Jr hp n1 k1).le;have c2:=(Jr hp n2 k2).le;have c3:=(Jr hp n1 k3).le;have c4:=(Jr hp n2 k4).le;have c5:=(M0 hp n1 k5).le;have c6:=(M0 hp n2 k6).le
  have c7:=(M0 hp n1 k7).le;have c8:=(M0 hp n2 k8).le;have hle:=ob.le;obtain ⟨y1,y2⟩:=hy;have inv:b.hi.q⁻¹≤y⁻¹∧y⁻¹≤b.lo.q⁻¹:=by
   by_cases hpos:0<b.lo.q
   ·exact ⟨Te (by grind) y2,Te hpos y1⟩
   ·have hneg:b.hi.q<0:=by grind
    exact ⟨Vo hneg y2,Vo (by grind) y1⟩
  show (Bv _ _).q≤x/y∧x/y≤(Ax _ _).q
  simp only [Rat.div_def] at c1 c2 c3 c4 c5 c6 c7 c8 ⊢;generalize Bv _ _=L at *;generalize Ax _ _=H at *;exact ⟨Afd hx.1 hx.2 inv.1 inv.2 (by grind) (by grind) (by grind) (by grind),Afe hx.1 hx.2 inv.1 inv.2 (by grind) (by grind) (by grind) (by grind)⟩
theorem Jk {p:Int}{l:List RawI}{o:Outc RawI}(p1:1≤p)(p2:p≤2000)(h:l.all Hr=true):Ew p l o=o:=by unfold Ew;rw [if_pos ⟨p1,p2,h⟩]
theorem Anq {w:World}{v u:Value}{a b:Iv}{p:Nat}(hv:IvC w v a)(hu:IvC w u b)(ha:a.Ok)(hb:b.Ok)(hT:Tab w)(p1:1≤p)(p2:p≤2000) :
 Calls Tryz.prog 96 #[v,u,.int .i64 p] w (RetIE (Br (Ef a b p)) w):=by
 have h:=Anp (p:=(p:Int)) hv hu (E6 ha) (E6 hb) hT;rw [Jk (by omega) (by omega) (by simp [Dv ha,Dv hb]),Iv.raw_iv,Iv.raw_iv,Int.toNat_natCast] at h;exact h
theorem An1 {w:World}{v u:Value}{a b:Iv}{p:Nat}(hv:IvC w v a)(hu:IvC w u b)(ha:a.Ok)(hb:b.Ok)(hT:Tab w)(p1:1≤p)(p2:p≤2000) :
 Calls Tryz.prog 97 #[v,u,.int .i64 p] w (RetIE (Br (Ho a b p)) w):=by
 have h:=An0 (p:=(p:Int)) hv hu (E6 ha) (E6 hb) hT;rw [Jk (by omega) (by omega) (by simp [Dv ha,Dv hb]),Iv.raw_iv,Iv.raw_iv,Int.toNat_natCast] at h;exact h
theorem Anv {w:World}{v u:Value}{a b:Iv}{p:Nat}(hv:IvC w v a)(hu:IvC w u b)(ha:a.Ok)(hb:b.Ok)(hT:Tab w)(p1:1≤p)(p2:p≤2000) :
 Calls Tryz.prog 98 #[v,u,.int .i64 p] w (RetIE (Br (Cg a b p)) w):=by
 have h:=Anu (p:=(p:Int)) hv hu (E6 ha) (E6 hb) hT;rw [Jk (by omega) (by omega) (by simp [Dv ha,Dv hb]),Iv.raw_iv,Iv.raw_iv,Int.toNat_natCast] at h;exact h
theorem Ans {w:World}{v u:Value}{a b:Iv}{p:Nat}(hv:IvC w v a)(hu:IvC w u b)(ha:a.Ok)(hb:b.Ok)(hT:Tab w)(p1:1≤p)(p2:p≤2000) :
 Calls Tryz.prog 94 #[v,u,.int .i64 p] w (RetIE (Br (Da a b p)) w):=by
 have h:=Anr (p:=(p:Int)) hv hu (E6 ha) (E6 hb) hT;rw [Jk (by omega) (by omega) (by simp [Dv ha,Dv hb]),Iv.raw_iv,Iv.raw_iv,Int.toNat_natCast] at h;exact h
theorem Anx {w:World}{v:Value}{a:Iv}{p:Nat}(hv:IvC w v a)(ha:a.Ok)(hT:Tab w)(p1:1≤p)(p2:p≤2000) :
 Calls Tryz.prog 99 #[v,.int .i64 p] w (RetIE (Br (Mv a p)) w):=by
 have h:=Anw (p:=(p:Int)) hv (E6 ha) hT;rw [Jk (by omega) (by omega) (by simp [Dv ha]),Iv.raw_iv,Int.toNat_natCast] at h;exact h
theorem Anz {w:World}{v:Value}{a:Iv}{p:Nat}(hv:IvC w v a)(ha:a.Ok)(hT:Tab w)(p1:1≤p)(p2:p≤2000) :
 Calls Tryz.prog 100 #[v,.int .i64 p] w (RetIE (Br (Iz a p)) w):=by
 have h:=Any (p:=(p:Int)) hv (E6 ha) hT;rw [Jk (by omega) (by omega) (by simp [Dv ha]),Iv.raw_iv,Int.toNat_natCast] at h;exact h
theorem Alw {w:World}{v:Value}{a:Iv}{p:Nat}(hv:IvC w v a)(ha:a.Ok)(hT:Tab w)(p1:1≤p)(p2:p≤2000) :
 Calls Tryz.prog 101 #[v,.int .i64 p] w (RetIE (Br (Cc a p)) w):=by
 have h:=Alv (p:=(p:Int)) hv (E6 ha) hT;rw [Jk (by omega) (by omega) (by simp [Dv ha]),Iv.raw_iv,Int.toNat_natCast] at h;exact h
def dm:Dy:=⟨true,1,0⟩
def dt:Dy:=⟨false,1,1⟩
def d4:Dy:=⟨false,1,2⟩
def mt:Iv:=⟨dm,dt⟩
def R1:Raw:=⟨false,[1],0⟩
def R4:Raw:=⟨false,[1],2⟩
def Outc.th (o:Outc Iv) (f:Iv→Outc Iv):Outc Iv:=if o.k=0 then f o.v else ⟨iz,o.k⟩
theorem Outc.th_ok {o:Outc Iv}{f:Iv→Outc Iv}(h:o.k=0):o.th f=f o.v:=if_pos h
theorem Outc.th_bad {o:Outc Iv}{f:Iv→Outc Iv}(h:o.k≠0):o.th f=⟨iz,o.k⟩:=if_neg h
def gI (l:List RawI) (n:Nat):Iv:=(l.getD n rzI).iv
def Gd (l:List RawI):Prop:=∀ a∈l,a.iv.Ok∧a.iv.raw=a
def ptN (n:Nat):Iv:=pt (Bw false n 0).v
def P0 (p:Nat) (a b:List RawI) (n:Nat):Iv→List Nat→Outc Iv
 | s,[]=>⟨s,0⟩
 | s,j::js=>(Cg (gI a j) (gI b (n-j)) p).th fun q=>(Ef s q p).th fun s'=>P0 p a b n s' js
def Gb (p:Nat) (a b:List RawI) (n:Nat):Outc Iv:=(Cg (gI a 0) (gI b n) p).th fun s=>P0 p a b n s (List.range' 1 n)
def Fe (p:Nat) (a b:List RawI) (n:Nat):Iv→List Nat→Outc Iv
 | s,[]=>⟨s,0⟩
 | s,j::js=>(Cg (gI a j) (gI b (n-j)) p).th fun q=>(Ho s q p).th fun s'=>Fe p a b n s' js
def Ih (p:Nat) (a c:List RawI) (n:Nat):Iv→List Nat→Outc Iv
 | s,[]=>⟨s,0⟩
 | s,j::js=>(Cg (ptN j) (gI a j) p).th fun u=>(Cg u (gI c (n-j)) p).th fun q=>(Ef s q p).th fun s'=>Ih p a c n s' js
def Cb (ov:Iv→Nat→Outc Iv) (p:Nat) (op:Int) (a b c:List RawI) (n:Nat):Outc Iv :=
 if op=6 then Ef (gI a n) (gI b n) p else if op=7 then Ho (gI a n) (gI b n) p else if op=10 then Mv (gI a n) p else
 if op=8 then Gb p a b n else if op=9 then (Fe p b c n (gI a n) (List.range' 1 n)).th fun x=>Da x (gI b 0) p else
 if op=11 then (if n=0 then Iz (gI a 0) p else Gb p a a n) else
 if op=12 then (if n=0 then Cc (gI a 0) p else (Fe p c c n (gI a n) (List.range' 1 (n-1))).th fun x=>(Ef (gI c 0) (gI c 0) p).th fun y=>Da x y p) else
 if n=0 then ov (gI a 0) p else
 (Cg (ptN 1) (gI a 1) p).th fun u=>(Cg u (gI c (n-1)) p).th fun s=>(Ih p a c n s (List.range' 2 (n-1))).th fun s=>Da s (ptN n) p
def Eg (p:Nat) (g:List RawI):List RawI→List Nat→Outc (List RawI)
 | c,[]=>⟨c,0⟩
 | c,n::ns=>if (Cv (gI g n) p).k=0 then Eg p g (c++[(Cv (gI g n) p).v.raw]) ns else ⟨[],(Cv (gI g n) p).k⟩
def Ei (ov:Iv→Nat→Outc Iv) (p:Nat) (op:Int) (a b:List RawI):List RawI→List Nat→Outc (List RawI)
 | c,[]=>⟨c,0⟩
 | c,n::ns=>if (Cb ov p op a b c n).k=0 then Ei ov p op a b (c++[(Cb ov p op a b c n).v.raw]) ns else ⟨[],(Cb ov p op a b c n).k⟩
def Kq (l:List (List RawI)) (n:Int):List RawI:=l.getD n.toNat []
def Hc (a:RawI) (k:Nat):List RawI:=a::List.replicate k rzI
def Ep (ov:Iv→Nat→Outc Iv) (p:Nat) (l:Ln) (all:List (List RawI)) (t:List RawI) (x q:List (List RawI)) (k:Nat):Outc (List RawI) :=
 if l.op=1 then Eg p (Hc l.k k) [] (List.range (k+1)) else if l.op=2 then Eg p t [] (List.range (k+1)) else
 if l.op=3 then Eg p (Kq x l.a) [] (List.range (k+1)) else if l.op=5 then Eg p (Kq q l.a) [] (List.range (k+1)) else
 Ei ov p l.op (Kq all l.a) (Kq all l.b) [] (List.range (k+1))
def Fk (ov:Iv→Nat→Outc Iv) (p:Nat) (t:List RawI) (x q:List (List RawI)) (k:Nat):List (List RawI)→List Ln→Outc (List (List RawI))
 | all,[]=>⟨all,0⟩
 | all,l::ls=>if (Ep ov p l all t x q k).k=0 then Fk ov p t x q k (all++[(Ep ov p l all t x q k).v]) ls else ⟨[],(Ep ov p l all t x q k).k⟩
def Cy (ov:Iv→Nat→Outc Iv) (p:Nat) (ls:List Ln) (outs:List Int) (t:List RawI) (x q:List (List RawI)) (k:Nat):Outc (List (List RawI)) :=
 if (Fk ov p t x q k [] ls).k=0 then ⟨outs.map fun n=>Kq (Fk ov p t x q k [] ls).v n,0⟩ else ⟨[],(Fk ov p t x q k [] ls).k⟩
def I6 (l:List (List RawI)) (k:Int):Bool:=l.all fun c=>decide ((c.length:Int)=k+1)&&c.all Hr
def Gc (k b:Int):Bool:=decide (0≤k)&&decide (k≤12)&&decide (1≤b)&&decide (b≤300)
def Ma (p n:Nat):List (List RawI)→List (List RawI)→Outc (List (List RawI))
 | o :: os, c :: cs => if (Da   (gI c n) (ptN (n + 1)) p).k = 0 then
     (if (Ma p n os cs).k=0 then ⟨(o++[(Da (gI c n) (ptN (n+1)) p).v.raw])::(Ma p n os cs).v,0⟩ else ⟨[],(Ma p n os cs).k⟩) else ⟨[],(Da (gI c n) (ptN (n+1)) p).k⟩
 | os,_=>⟨os,0⟩
def I3 (ov:Iv→Nat→Outc Iv) (p:Nat) (ls:List Ln) (outs:List Int) (time:List RawI) (q:List RawI):List (List RawI)→List Nat→Outc (List (List RawI))
 | o,[]=>⟨o,0⟩
 | o, n :: ns =>
   if (Cy ov p ls outs (time.take (n+1)) o (q.map fun a=>Hc a n) n).k≠0 then ⟨[],(Cy ov p ls outs (time.take (n+1)) o (q.map fun a=>Hc a n) n).k⟩ else
   if (Ma p n o (Cy ov p ls outs (time.take (n+1)) o (q.map fun a=>Hc a n) n).v).k≠0 then ⟨[],(Ma p n o (Cy ov p ls outs (time.take (n+1)) o (q.map fun a=>Hc a n) n).v).k⟩ else
   I3 ov p ls outs time q (Ma p n o (Cy ov p ls outs (time.take (n+1)) o (q.map fun a=>Hc a n) n).v).v ns
def two:Iv:=pt dt
def dyz (z:Int) (e:Int):Dy:=(Bw (decide (z<0)) z.natAbs e).v
def SmZ (z:Int) (e:Int):Prop:=z.natAbs<2^60∧-40≤e∧e≤0
theorem Ang (z:Int):sq (decide (z<0)) z.natAbs=(z:Rat):=by
 unfold sq;by_cases h:z<0
 ·rw [if_pos (by simpa using h)];obtain ⟨n,rfl⟩:∃ n:Nat,z=-(n:Int):=⟨z.natAbs,by omega⟩;rw [Int.natAbs_neg,Int.natAbs_natCast,Rat.intCast_neg];rfl
 ·rw [if_neg (by simpa using h)];obtain ⟨n,rfl⟩:∃ n:Nat,z=(n:Int):=⟨z.natAbs,by omega⟩;rw [Int.natAbs_natCast];rfl
theorem Ach {z e:Int}(h:SmZ z e):Bw (decide (z<0)) z.natAbs e=⟨dyz z e,0⟩:=by
 obtain ⟨h1,h2,h3⟩:=h;have hb:=Ej _ _ h1;have:=(Aa9 (neg:=decide (z<0)) (n:=z.natAbs) (e:=e) (by omega) (by omega) (by omega)).1;unfold dyz;generalize Bw (decide (z<0)) z.natAbs e=o at *;cases o with | mk v k=>simp only at this;subst this;rfl
theorem He (z e:Int):(dyz z e).Ok:=(Fm _ _ _).1
theorem Vg {z e:Int}(h:SmZ z e):(dyz z e).q=(z:Rat)*pw e:=by
 have:=Lh (neg:=decide (z<0)) (n:=z.natAbs) (e:=e) (by rw [Ach h]);rw [Ang] at this;exact this
theorem Afx {z e:Int}{p:Nat}(h:z.natAbs<2^p):bl (dyz z e).m≤p:=by
 unfold dyz Bw;by_cases h0:z.natAbs=0
 ·rw [if_pos h0];show bl dz.m≤p;simp [dz,bl]
 ·rw [if_neg h0];have:bl (z.natAbs/2^tz z.natAbs)≤p:=Nat.le_trans (Gq (Nat.div_le_self _ _)) (Ej _ _ h);split
  ·show bl dz.m≤p;simp [dz,bl]
  ·split
   ·show bl dz.m≤p;simp [dz,bl]
   ·split
    ·show bl dz.m≤p;simp [dz,bl]
    ·exact this
theorem Amf {d:Dy}{z e:Int}(h:d.Ok)(hz:SmZ z e)(hq:d.q=(z:Rat)*pw e):d=dyz z e :=
 Alm h (He z e) (hq.trans (Vg hz).symm)
theorem Aci {a e:Int}(ha:SmZ a e):D5 (dyz a e)=dyz (-a) e:=by
 refine Amf (Hh (He a e)) ⟨by have:=ha.1;omega,ha.2⟩ ?_;rw [Xk,Vg ha,Rat.intCast_neg];grind
theorem Vh {a e:Int}{p:Nat}(hp:a.natAbs<2^p):Cv (pt (dyz a e)) p=⟨pt (dyz a e),0⟩:=by
 unfold Cv pt;simp only;rw [Sx (He _ _) (Afx hp),Sx (He _ _) (Afx hp)];rfl
theorem Ai1:dyz 1 0=d1:=by
 have:Bw false 1 0=⟨d1,0⟩:=Acp;unfold dyz;exact congrArg Outc.v this
end Go.Proofs.YtabjjdicffcolaaGreatDoor
