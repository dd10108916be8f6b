/- Words and contracts, part 26. -/
import Derived.Test.YtabjjdicffcolaaGreatDoorClaimSevalp25
set_option maxRecDepth 100000
set_option maxHeartbeats 0
namespace Go.Proofs.YtabjjdicffcolaaGreatDoor
open Go.Lib (hid)
open Go.RowKit
def RawI.iv (a:RawI):Iv:=⟨a.lo.dy,a.hi.dy⟩
theorem Eu {a:RawI}(h1:Small a.lo.m)(h2:Small a.hi.m)(h:Fh a=true):a.iv.Ok∧a.iv.raw=a:=by
 unfold Fh at h;simp only [Bool.and_eq_true,decide_eq_true_eq] at h;obtain ⟨⟨m1,m2⟩,m3⟩:=h;obtain ⟨c1,d1⟩:=It h1 m1;obtain ⟨c2,d2⟩:=It h2 m2;exact ⟨⟨d1,d2,Ke.1 m3⟩,by unfold RawI.iv Iv.raw;simp only [c1,c2]⟩
theorem Iv.raw_iv (a:Iv):a.raw.iv=a:=by unfold Iv.raw RawI.iv;simp only [Dy.raw_dy]
theorem Mf {lo hi:Outc Dy}(h:(Gj lo hi).k≠0):(Gj lo hi).v=iz:=by
 unfold Gj Outc.bind at *;by_cases h1:lo.k=0
 ·simp only [if_pos h1] at h ⊢;by_cases h2:hi.k=0
  ·simp only [if_pos h2] at h;exact absurd rfl h
  ·simp only [if_neg h2]
 ·simp only [if_neg h1]
theorem Mc {α:Type}{o:Outc α}{f:α→Outc Iv}(hf:∀ x,(f x).k≠0→(f x).v=iz)(h:(o.bind iz f).k≠0):(o.bind iz f).v=iz:=by
 unfold Outc.bind at *;by_cases h1:o.k=0
 ·rw [if_pos h1] at h ⊢;exact hf _ h
 ·rw [if_neg h1]
theorem Uh {a b c d:Outc Dy}{f:Dy→Dy→Dy→Dy→Outc Iv}(hf:∀ x y z u,(f x y z u).k≠0→(f x y z u).v=iz)(h:(Ny a b c d f).k≠0):(Ny a b c d f).v=iz:=by
 unfold Ny at *;exact Mc (fun x=>Mc fun y=>Mc fun z=>Mc fun u=>hf x y z u) h
theorem Afv {a b:Iv}{p:Nat}(h:(I4 a b p).k≠0):(I4 a b p).v=iz:=Mf h
theorem Ahq {a b:Iv}{p:Nat}(h:(L6 a b p).k≠0):(L6 a b p).v=iz:=Mf h
theorem Ag4 {a:Iv}{p:Nat}(h:(Lv a p).k≠0):(Lv a p).v=iz:=Mf h
theorem Ag0 {a b:Iv}{p:Nat}(h:(Hq a b p).k≠0):(Hq a b p).v=iz:=Uh (fun _ _ _ _ h=>Mf h) h
theorem Ahn {a:Iv}{p:Nat}(h:(Od a p).k≠0):(Od a p).v=iz:=Mc (fun _ h=>Mc (fun _ h=>Mf h) h) h
theorem Ae3 {a:Iv}{p:Nat}(h:(Hu a p).k≠0):(Hu a p).v=iz:=by
 unfold Hu at *;by_cases hs:sg a.lo<0
 ·rw [if_pos hs]
 ·rw [if_neg hs] at h ⊢;exact Mf h
theorem Af7 {a b:Iv}{p:Nat}(h:(I6 a b p).k≠0):(I6 a b p).v=iz:=by
 unfold I6 at *;by_cases hs:D5 b=true
 ·rw [if_pos hs]
 ·rw [if_neg hs] at h ⊢;exact Uh (fun _ _ _ _ h=>Uh (fun _ _ _ _ h=>absurd rfl h) h) h
theorem Kt {o:Outc Iv}(h:o.k≠0→o.v=iz):(Bp o).k≠0→(Bp o).v=rzI:=fun hk=>by
 show o.v.raw=rzI
 rw [h hk,Ou]
theorem Rd (w:World)(o:Obj)(n:Nat)(h:w.heap.size=n):(w.alloc o).heap[n]?=some o:=by subst h;exact heap_alloc_new _ _
theorem Ns (w:World)(n:Nat)(x y z x' y' z':Value)(h:w.heap.size=n):BlkI (w.alloc (.cells #[x,y,z,x',y',z'] 30)) n x y z x' y' z':=Rd w _ n h
theorem Px (w:World)(x0 x1 x2 x3 x4 x5 y0 y1 y2 y3 y4 y5 p:Value):∃ W,W=((((w.alloc (.cells #[x0,x1,x2,x3,x4,x5] 30)).alloc (.cells #[y0,y1,y2,y3,y4,y5] 30)).alloc (.cells #[p] 3)).alloc (.cells #[.bool false,.slice none 0 0,.int .i64 0,.bool false,.slice none 0 0,.int .i64 0] 30)).alloc (.cells #[x0,x1,x2,x3,x4,x5,y0,y1,y2,y3,y4,y5] 30) ∧
 Kept w W∧BlkI W w.heap.size x0 x1 x2 x3 x4 x5∧BlkI W (w.heap.size+1) y0 y1 y2 y3 y4 y5∧W.cell? ⟨w.heap.size+1+1,0,none⟩=some p∧BlkI W (w.heap.size+1+1+1) (.bool false) (.slice none 0 0) (.int .i64 0) (.bool false) (.slice none 0 0) (.int .i64 0) ∧
 W.heap[w.heap.size+1+1+1+1]?=some (.cells #[x0,x1,x2,x3,x4,x5,y0,y1,y2,y3,y4,y5] 30 (0,0)):=by
 refine ⟨_,rfl,((((Ad _ _).trans (Ad _ _)).trans (Ad _ _)).trans (Ad _ _)).trans (Ad _ _),?_,?_,?_,?_,Rd _ _ _ (by simp)⟩
 ·exact ((((Ns w _ _ _ _ _ _ _ rfl).kept (Ad _ _)).kept (Ad _ _)).kept (Ad _ _)).kept (Ad _ _)
 ·exact (((Ns _ _ _ _ _ _ _ _ (by simp)).kept (Ad _ _)).kept (Ad _ _)).kept (Ad _ _)
 ·exact Al (Ad _ _) (Al (Ad _ _) (Ae (Rd _ _ _ (by simp)) 0 _ rfl))
 ·exact (Ns _ _ _ _ _ _ _ _ (by simp)).kept (Ad _ _)
theorem T5 (w:World)(x0 x1 x2 x3 x4 x5 p:Value):∃ W,W=(((w.alloc (.cells #[x0,x1,x2,x3,x4,x5] 30)).alloc (.cells #[p] 3)).alloc (.cells #[.bool false,.slice none 0 0,.int .i64 0,.bool false,.slice none 0 0,.int .i64 0] 30)).alloc (.cells #[x0,x1,x2,x3,x4,x5] 30) ∧
 Kept w W∧BlkI W w.heap.size x0 x1 x2 x3 x4 x5∧W.cell? ⟨w.heap.size+1,0,none⟩=some p∧BlkI W (w.heap.size+1+1) (.bool false) (.slice none 0 0) (.int .i64 0) (.bool false) (.slice none 0 0) (.int .i64 0) ∧
 W.heap[w.heap.size+1+1+1]?=some (.cells #[x0,x1,x2,x3,x4,x5] 30 (0,0)):=by
 refine ⟨_,rfl,(((Ad _ _).trans (Ad _ _)).trans (Ad _ _)).trans (Ad _ _),?_,?_,?_,Rd _ _ _ (by simp)⟩
 ·exact (((Ns w _ _ _ _ _ _ _ rfl).kept (Ad _ _)).kept (Ad _ _)).kept (Ad _ _)
 ·exact Al (Ad _ _) (Al (Ad _ _) (Ae (Rd _ _ _ (by simp)) 0 _ rfl))
 ·exact (Ns _ _ _ _ _ _ _ _ (by simp)).kept (Ad _ _)
theorem Agn {w:World}{b:Nat}{a:RawI}{T:TypeId}{x0 x1 x2 x3 x4 x5:Value}(h:w.heap[b]?=some (.cells #[x0,x1,x2,x3,x4,x5] T (0,0)))(h1:IvR w (.agg #[x0,x1,x2,x3,x4,x5]) a) :
 IvS w (.slice (some ⟨b,0,none⟩) 1 1) [a]:=by
 refine ⟨_,_,rfl,Nat.le_refl _,fun _=>⟨b,0,rfl,fun i d hi=>?_⟩⟩;rcases i with _ | i
 ·simp at hi;subst hi;exact ⟨_,_,_,_,_,_,Ae h 0 _ rfl,Ae h 1 _ rfl,Ae h 2 _ rfl,Ae h 3 _ rfl,Ae h 4 _ rfl,Ae h 5 _ rfl,h1⟩
 ·simp at hi
theorem Ago {w:World}{b:Nat}{a a':RawI}{T:TypeId}{x0 x1 x2 x3 x4 x5 y0 y1 y2 y3 y4 y5:Value}(h:w.heap[b]?=some (.cells #[x0,x1,x2,x3,x4,x5,y0,y1,y2,y3,y4,y5] T (0,0)))(h1:IvR w (.agg #[x0,x1,x2,x3,x4,x5]) a)(h2:IvR w (.agg #[y0,y1,y2,y3,y4,y5]) a') :
 IvS w (.slice (some ⟨b,0,none⟩) 2 2) [a,a']:=by
 refine ⟨_,_,rfl,Nat.le_refl _,fun _=>⟨b,0,rfl,fun i d hi=>?_⟩⟩;rcases i with _ | _ | i
 ·simp at hi;subst hi;exact ⟨_,_,_,_,_,_,Ae h 0 _ rfl,Ae h 1 _ rfl,Ae h 2 _ rfl,Ae h 3 _ rfl,Ae h 4 _ rfl,Ae h 5 _ rfl,h1⟩
 ·simp at hi;subst hi;exact ⟨_,_,_,_,_,_,Ae h 6 _ rfl,Ae h 7 _ rfl,Ae h 8 _ rfl,Ae h 9 _ rfl,Ae h 10 _ rfl,Ae h 11 _ rfl,h2⟩
 ·simp at hi
theorem E8 {w:World}{b:Nat}{a:RawI}{A A':Option Addr}{l c l' c':Nat}(hr:a.iv.raw=a)(h:BlkI w b (.bool a.lo.neg) (.slice A l c) (.int .i64 a.lo.e) (.bool a.hi.neg) (.slice A' l' c') (.int .i64 a.hi.e))
 (h1:DyR w (.agg #[.bool a.lo.neg,.slice A l c,.int .i64 a.lo.e]) a.lo) (h2:DyR w (.agg #[.bool a.hi.neg,.slice A' l' c',.int .i64 a.hi.e]) a.hi):BlkIv w b a.iv:=by
 have e1:a.iv.lo.raw=a.lo:=congrArg RawI.lo hr;have e2:a.iv.hi.raw=a.hi:=congrArg RawI.hi hr;exact ⟨A,l,c,A',l',c',h,by rw [e1];exact h1,by rw [e2];exact h2⟩
theorem DyR.small {w:World}{v:Value}{r:Raw}(h:DyR w v r):Small r.m:=by
 obtain ⟨s,_,hs,_⟩:=h;exact hs.1
theorem Aj1 {w:World}{v u:Value}{a b:RawI}{p:Int}(hv:IvR w v a)(hu:IvR w u b)(la:a.lens 17592186044416)(lb:b.lens 17592186044416)(hT:Tab w) :
 Calls Tryz.prog 96 #[v,u,.int .i64 p] w (RetIE (Ei p [a,b] (Bp (I4 a.iv b.iv p.toNat))) w):=by
 have hmf:=Gq;obtain ⟨A,l,c,A',l',c',rfl,h1,h2⟩:=Aq hv;obtain ⟨B,j,e,B',j',e',rfl,g1,g2⟩:=Aq hu;obtain ⟨W,hW,kW,BA,BB,cp,BR,BL⟩:=Px w (.bool a.lo.neg) (.slice A l c) (.int .i64 a.lo.e) (.bool a.hi.neg) (.slice A' l' c') (.int .i64 a.hi.e) (.bool b.lo.neg) (.slice B j e) (.int .i64 b.lo.e) (.bool b.hi.neg) (.slice B' j' e') (.int .i64 b.hi.e) (.int .i64 p)
 have hf:=Kh (w:=W) (K:=132) (cap:=#[.pointer (some ⟨w.heap.size,0,none⟩),.pointer (some ⟨w.heap.size+1,0,none⟩),.pointer (some ⟨w.heap.size+1+1,0,none⟩)]) (p:=p) (l:=[a,b]) (o:=Bp (I4 a.iv b.iv p.toNat))
  (Ago BL ⟨_,_,_,_,_,_,rfl,h1.kept kW,h2.kept kW⟩ ⟨_,_,_,_,_,_,rfl,g1.kept kW,g2.kept kW⟩)
  (by intro x hx;simp only [List.mem_cons,List.not_mem_nil,or_false] at hx;rcases hx with rfl | rfl;exact la;exact lb) (by simp)
  (fun p1 p2 hall w1 k=>by
    simp only [List.all_cons,List.all_nil,Bool.and_true,Bool.and_eq_true] at hall;obtain ⟨oa,ra⟩:=Eu h1.small h2.small hall.1;obtain ⟨ob,rb⟩:=Eu g1.small g2.small hall.2;have hp:((p.toNat:Nat):Int)=p:=Int.toNat_of_nonneg (by omega);exact Ail (p:=p.toNat) oa ob (hT.kept (kW.trans k)) (by omega) (by omega) (E8 ra (BA.kept k) (h1.kept (kW.trans k)) (h2.kept (kW.trans k))) (E8 rb (BB.kept k) (g1.kept (kW.trans k)) (g2.kept (kW.trans k))) (by rw [hp];exact Al k cp))
  (Kt Afv) (fun _=>rfl)
 generalize Ei p [a,b] (Bp (I4 a.iv b.iv p.toNat))=o at *;have HF:=hid hf;have HW:=hid hW;have HK:=hid kW;have HR:=hid BR;clear hf hW kW BA BB BR BL cp h1 h2 g1 g2 hv hu la lb hT;generalize a.lo.neg=n1 at *;generalize a.lo.e=e1 at *;generalize a.hi.neg=n2 at *;generalize a.hi.e=e2 at *;generalize b.lo.neg=n3 at *;generalize b.lo.e=e3 at *;generalize b.hi.neg=n4 at *;generalize b.hi.e=e4 at *;go_enter Tryz.func96,Tryz.ntmps96
 go_wp2_with (go_at_call 124;rw [←HW.out];refine HF.out.mono ?_;rintro e w1 ⟨q,u,rfl,hd⟩;obtain ⟨A1,j1,k1',A2,j2,k2',rfl,z1,z2⟩:=Aq hd;have Z1:=hid z1;have Z2:=hid z2;have hb2:=HR.out.kept q;obtain ⟨hsz,c0,c1,c2,c3,c4,c5⟩:=hb2.facts;obtain ⟨f0,f1,f2,f3,f4,f5⟩:=hb2.free;have HRR:=hid hb2;clear hd hb2 z1 z2)
 exact Cd (HRR.out.laid _ _ _ _ _ _) rfl rfl rfl ⟨Bm (HK.out.trans q) (by omega),_,rfl,_,_,_,_,_,_,rfl,Z1.out.ivW HRR.out _ _ _ _ _ _,Z2.out.ivW HRR.out _ _ _ _ _ _⟩
theorem Aka {w:World}{v u:Value}{a b:RawI}{p:Int}(hv:IvR w v a)(hu:IvR w u b)(la:a.lens 17592186044416)(lb:b.lens 17592186044416)(hT:Tab w) :
 Calls Tryz.prog 97 #[v,u,.int .i64 p] w (RetIE (Ei p [a,b] (Bp (L6 a.iv b.iv p.toNat))) w):=by
 have hmf:=Gq;obtain ⟨A,l,c,A',l',c',rfl,h1,h2⟩:=Aq hv;obtain ⟨B,j,e,B',j',e',rfl,g1,g2⟩:=Aq hu;obtain ⟨W,hW,kW,BA,BB,cp,BR,BL⟩:=Px w (.bool a.lo.neg) (.slice A l c) (.int .i64 a.lo.e) (.bool a.hi.neg) (.slice A' l' c') (.int .i64 a.hi.e) (.bool b.lo.neg) (.slice B j e) (.int .i64 b.lo.e) (.bool b.hi.neg) (.slice B' j' e') (.int .i64 b.hi.e) (.int .i64 p)
 have hf:=Kh (w:=W) (K:=134) (cap:=#[.pointer (some ⟨w.heap.size,0,none⟩),.pointer (some ⟨w.heap.size+1,0,none⟩),.pointer (some ⟨w.heap.size+1+1,0,none⟩)]) (p:=p) (l:=[a,b]) (o:=Bp (L6 a.iv b.iv p.toNat))
  (Ago BL ⟨_,_,_,_,_,_,rfl,h1.kept kW,h2.kept kW⟩ ⟨_,_,_,_,_,_,rfl,g1.kept kW,g2.kept kW⟩)
  (by intro x hx;simp only [List.mem_cons,List.not_mem_nil,or_false] at hx;rcases hx with rfl | rfl;exact la;exact lb) (by simp)
  (fun p1 p2 hall w1 k=>by
    simp only [List.all_cons,List.all_nil,Bool.and_true,Bool.and_eq_true] at hall;obtain ⟨oa,ra⟩:=Eu h1.small h2.small hall.1;obtain ⟨ob,rb⟩:=Eu g1.small g2.small hall.2;have hp:((p.toNat:Nat):Int)=p:=Int.toNat_of_nonneg (by omega);exact Agm (p:=p.toNat) oa ob (hT.kept (kW.trans k)) (by omega) (by omega) (E8 ra (BA.kept k) (h1.kept (kW.trans k)) (h2.kept (kW.trans k))) (E8 rb (BB.kept k) (g1.kept (kW.trans k)) (g2.kept (kW.trans k))) (by rw [hp];exact Al k cp))
  (Kt Ahq) (fun _=>rfl)
 generalize Ei p [a,b] (Bp (L6 a.iv b.iv p.toNat))=o at *;have HF:=hid hf;have HW:=hid hW;have HK:=hid kW;have HR:=hid BR;clear hf hW kW BA BB BR BL cp h1 h2 g1 g2 hv hu la lb hT;generalize a.lo.neg=n1 at *;generalize a.lo.e=e1 at *;generalize a.hi.neg=n2 at *;generalize a.hi.e=e2 at *;generalize b.lo.neg=n3 at *;generalize b.lo.e=e3 at *;generalize b.hi.neg=n4 at *;generalize b.hi.e=e4 at *;go_enter Tryz.func97,Tryz.ntmps97
 go_wp2_with (go_at_call 124;rw [←HW.out];refine HF.out.mono ?_;rintro e w1 ⟨q,u,rfl,hd⟩;obtain ⟨A1,j1,k1',A2,j2,k2',rfl,z1,z2⟩:=Aq hd;have Z1:=hid z1;have Z2:=hid z2;have hb2:=HR.out.kept q;obtain ⟨hsz,c0,c1,c2,c3,c4,c5⟩:=hb2.facts;obtain ⟨f0,f1,f2,f3,f4,f5⟩:=hb2.free;have HRR:=hid hb2;clear hd hb2 z1 z2)
 exact Cd (HRR.out.laid _ _ _ _ _ _) rfl rfl rfl ⟨Bm (HK.out.trans q) (by omega),_,rfl,_,_,_,_,_,_,rfl,Z1.out.ivW HRR.out _ _ _ _ _ _,Z2.out.ivW HRR.out _ _ _ _ _ _⟩
theorem Aj5 {w:World}{v u:Value}{a b:RawI}{p:Int}(hv:IvR w v a)(hu:IvR w u b)(la:a.lens 17592186044416)(lb:b.lens 17592186044416)(hT:Tab w) :
 Calls Tryz.prog 98 #[v,u,.int .i64 p] w (RetIE (Ei p [a,b] (Bp (Hq a.iv b.iv p.toNat))) w):=by
 have hmf:=Gq;obtain ⟨A,l,c,A',l',c',rfl,h1,h2⟩:=Aq hv;obtain ⟨B,j,e,B',j',e',rfl,g1,g2⟩:=Aq hu;obtain ⟨W,hW,kW,BA,BB,cp,BR,BL⟩:=Px w (.bool a.lo.neg) (.slice A l c) (.int .i64 a.lo.e) (.bool a.hi.neg) (.slice A' l' c') (.int .i64 a.hi.e) (.bool b.lo.neg) (.slice B j e) (.int .i64 b.lo.e) (.bool b.hi.neg) (.slice B' j' e') (.int .i64 b.hi.e) (.int .i64 p)
 have hf:=Kh (w:=W) (K:=136) (cap:=#[.pointer (some ⟨w.heap.size,0,none⟩),.pointer (some ⟨w.heap.size+1,0,none⟩),.pointer (some ⟨w.heap.size+1+1,0,none⟩)]) (p:=p) (l:=[a,b]) (o:=Bp (Hq a.iv b.iv p.toNat))
  (Ago BL ⟨_,_,_,_,_,_,rfl,h1.kept kW,h2.kept kW⟩ ⟨_,_,_,_,_,_,rfl,g1.kept kW,g2.kept kW⟩)
  (by intro x hx;simp only [List.mem_cons,List.not_mem_nil,or_false] at hx;rcases hx with rfl | rfl;exact la;exact lb) (by simp)
  (fun p1 p2 hall w1 k=>by
    simp only [List.all_cons,List.all_nil,Bool.and_true,Bool.and_eq_true] at hall;obtain ⟨oa,ra⟩:=Eu h1.small h2.small hall.1;obtain ⟨ob,rb⟩:=Eu g1.small g2.small hall.2;have hp:((p.toNat:Nat):Int)=p:=Int.toNat_of_nonneg (by omega);exact Afx (p:=p.toNat) oa ob (hT.kept (kW.trans k)) (by omega) (by omega) (E8 ra (BA.kept k) (h1.kept (kW.trans k)) (h2.kept (kW.trans k))) (E8 rb (BB.kept k) (g1.kept (kW.trans k)) (g2.kept (kW.trans k))) (by rw [hp];exact Al k cp))
  (Kt Ag0) (fun _=>rfl)
 generalize Ei p [a,b] (Bp (Hq a.iv b.iv p.toNat))=o at *;have HF:=hid hf;have HW:=hid hW;have HK:=hid kW;have HR:=hid BR;clear hf hW kW BA BB BR BL cp h1 h2 g1 g2 hv hu la lb hT;generalize a.lo.neg=n1 at *;generalize a.lo.e=e1 at *;generalize a.hi.neg=n2 at *;generalize a.hi.e=e2 at *;generalize b.lo.neg=n3 at *;generalize b.lo.e=e3 at *;generalize b.hi.neg=n4 at *;generalize b.hi.e=e4 at *;go_enter Tryz.func98,Tryz.ntmps98
 go_wp2_with (go_at_call 124;rw [←HW.out];refine HF.out.mono ?_;rintro e w1 ⟨q,u,rfl,hd⟩;obtain ⟨A1,j1,k1',A2,j2,k2',rfl,z1,z2⟩:=Aq hd;have Z1:=hid z1;have Z2:=hid z2;have hb2:=HR.out.kept q;obtain ⟨hsz,c0,c1,c2,c3,c4,c5⟩:=hb2.facts;obtain ⟨f0,f1,f2,f3,f4,f5⟩:=hb2.free;have HRR:=hid hb2;clear hd hb2 z1 z2)
 exact Cd (HRR.out.laid _ _ _ _ _ _) rfl rfl rfl ⟨Bm (HK.out.trans q) (by omega),_,rfl,_,_,_,_,_,_,rfl,Z1.out.ivW HRR.out _ _ _ _ _ _,Z2.out.ivW HRR.out _ _ _ _ _ _⟩
theorem Aj2 {w:World}{v u:Value}{a b:RawI}{p:Int}(hv:IvR w v a)(hu:IvR w u b)(la:a.lens 17592186044416)(lb:b.lens 17592186044416)(hT:Tab w) :
 Calls Tryz.prog 94 #[v,u,.int .i64 p] w (RetIE (Ei p [a,b] (Bp (I6 a.iv b.iv p.toNat))) w):=by
 have hmf:=Gq;obtain ⟨A,l,c,A',l',c',rfl,h1,h2⟩:=Aq hv;obtain ⟨B,j,e,B',j',e',rfl,g1,g2⟩:=Aq hu;obtain ⟨W,hW,kW,BA,BB,cp,BR,BL⟩:=Px w (.bool a.lo.neg) (.slice A l c) (.int .i64 a.lo.e) (.bool a.hi.neg) (.slice A' l' c') (.int .i64 a.hi.e) (.bool b.lo.neg) (.slice B j e) (.int .i64 b.lo.e) (.bool b.hi.neg) (.slice B' j' e') (.int .i64 b.hi.e) (.int .i64 p)
 have hf:=Kh (w:=W) (K:=125) (cap:=#[.pointer (some ⟨w.heap.size+1,0,none⟩),.pointer (some ⟨w.heap.size,0,none⟩),.pointer (some ⟨w.heap.size+1+1,0,none⟩)]) (p:=p) (l:=[a,b]) (o:=Bp (I6 a.iv b.iv p.toNat))
  (Ago BL ⟨_,_,_,_,_,_,rfl,h1.kept kW,h2.kept kW⟩ ⟨_,_,_,_,_,_,rfl,g1.kept kW,g2.kept kW⟩)
  (by intro x hx;simp only [List.mem_cons,List.not_mem_nil,or_false] at hx;rcases hx with rfl | rfl;exact la;exact lb) (by simp)
  (fun p1 p2 hall w1 k=>by
    simp only [List.all_cons,List.all_nil,Bool.and_true,Bool.and_eq_true] at hall;obtain ⟨oa,ra⟩:=Eu h1.small h2.small hall.1;obtain ⟨ob,rb⟩:=Eu g1.small g2.small hall.2;have hp:((p.toNat:Nat):Int)=p:=Int.toNat_of_nonneg (by omega);exact Afw (p:=p.toNat) oa ob (hT.kept (kW.trans k)) (by omega) (by omega) (E8 ra (BA.kept k) (h1.kept (kW.trans k)) (h2.kept (kW.trans k))) (E8 rb (BB.kept k) (g1.kept (kW.trans k)) (g2.kept (kW.trans k))) (by rw [hp];exact Al k cp))
  (Kt Af7) (fun _=>rfl)
 generalize Ei p [a,b] (Bp (I6 a.iv b.iv p.toNat))=o at *;have HF:=hid hf;have HW:=hid hW;have HK:=hid kW;have HR:=hid BR;clear hf hW kW BA BB BR BL cp h1 h2 g1 g2 hv hu la lb hT;generalize a.lo.neg=n1 at *;generalize a.lo.e=e1 at *;generalize a.hi.neg=n2 at *;generalize a.hi.e=e2 at *;generalize b.lo.neg=n3 at *;generalize b.lo.e=e3 at *;generalize b.hi.neg=n4 at *;generalize b.hi.e=e4 at *;go_enter Tryz.func94,Tryz.ntmps94
 go_wp2_with (go_at_call 124;rw [←HW.out];refine HF.out.mono ?_;rintro e w1 ⟨q,u,rfl,hd⟩;obtain ⟨A1,j1,k1',A2,j2,k2',rfl,z1,z2⟩:=Aq hd;have Z1:=hid z1;have Z2:=hid z2;have hb2:=HR.out.kept q;obtain ⟨hsz,c0,c1,c2,c3,c4,c5⟩:=hb2.facts;obtain ⟨f0,f1,f2,f3,f4,f5⟩:=hb2.free;have HRR:=hid hb2;clear hd hb2 z1 z2)
 exact Cd (HRR.out.laid _ _ _ _ _ _) rfl rfl rfl ⟨Bm (HK.out.trans q) (by omega),_,rfl,_,_,_,_,_,_,rfl,Z1.out.ivW HRR.out _ _ _ _ _ _,Z2.out.ivW HRR.out _ _ _ _ _ _⟩
theorem Aj6 {w:World}{v:Value}{a:RawI}{p:Int}(hv:IvR w v a)(la:a.lens 17592186044416)(hT:Tab w) :
 Calls Tryz.prog 99 #[v,.int .i64 p] w (RetIE (Ei p [a] (Bp (Lv a.iv p.toNat))) w):=by
 have hmf:=Gq;obtain ⟨A,l,c,A',l',c',rfl,h1,h2⟩:=Aq hv;obtain ⟨W,hW,kW,BA,cp,BR,BL⟩:=T5 w (.bool a.lo.neg) (.slice A l c) (.int .i64 a.lo.e) (.bool a.hi.neg) (.slice A' l' c') (.int .i64 a.hi.e) (.int .i64 p)
 have hf:=Kh (w:=W) (K:=138) (cap:=#[.pointer (some ⟨w.heap.size,0,none⟩),.pointer (some ⟨w.heap.size+1,0,none⟩)]) (p:=p) (l:=[a]) (o:=Bp (Lv a.iv p.toNat))
  (Agn BL ⟨_,_,_,_,_,_,rfl,h1.kept kW,h2.kept kW⟩)
  (by intro x hx;simp only [List.mem_cons,List.not_mem_nil,or_false] at hx;subst hx;exact la) (by simp)
  (fun p1 p2 hall w1 k=>by
    simp only [List.all_cons,List.all_nil,Bool.and_true] at hall;obtain ⟨oa,ra⟩:=Eu h1.small h2.small hall;have hp:((p.toNat:Nat):Int)=p:=Int.toNat_of_nonneg (by omega);exact Ajm (p:=p.toNat) oa (hT.kept (kW.trans k)) (by omega) (by omega) (E8 ra (BA.kept k) (h1.kept (kW.trans k)) (h2.kept (kW.trans k))) (by rw [hp];exact Al k cp))
  (Kt Ag4) (fun _=>rfl)
 generalize Ei p [a] (Bp (Lv a.iv p.toNat))=o at *;have HF:=hid hf;have HW:=hid hW;have HK:=hid kW;have HR:=hid BR;clear hf hW kW BA BR BL cp h1 h2 hv la hT;generalize a.lo.neg=n1 at *;generalize a.lo.e=e1 at *;generalize a.hi.neg=n2 at *;generalize a.hi.e=e2 at *;go_enter Tryz.func99,Tryz.ntmps99
 go_wp2_with (go_at_call 124;rw [←HW.out];refine HF.out.mono ?_;rintro e w1 ⟨q,u,rfl,hd⟩;obtain ⟨A1,j1,k1',A2,j2,k2',rfl,z1,z2⟩:=Aq hd;have Z1:=hid z1;have Z2:=hid z2;have hb2:=HR.out.kept q;obtain ⟨hsz,c0,c1,c2,c3,c4,c5⟩:=hb2.facts;obtain ⟨f0,f1,f2,f3,f4,f5⟩:=hb2.free;have HRR:=hid hb2;clear hd hb2 z1 z2)
 exact Cd (HRR.out.laid _ _ _ _ _ _) rfl rfl rfl ⟨Bm (HK.out.trans q) (by omega),_,rfl,_,_,_,_,_,_,rfl,Z1.out.ivW HRR.out _ _ _ _ _ _,Z2.out.ivW HRR.out _ _ _ _ _ _⟩
theorem Aj8 {w:World}{v:Value}{a:RawI}{p:Int}(hv:IvR w v a)(la:a.lens 17592186044416)(hT:Tab w) :
 Calls Tryz.prog 100 #[v,.int .i64 p] w (RetIE (Ei p [a] (Bp (Od a.iv p.toNat))) w):=by
 have hmf:=Gq;obtain ⟨A,l,c,A',l',c',rfl,h1,h2⟩:=Aq hv;obtain ⟨W,hW,kW,BA,cp,BR,BL⟩:=T5 w (.bool a.lo.neg) (.slice A l c) (.int .i64 a.lo.e) (.bool a.hi.neg) (.slice A' l' c') (.int .i64 a.hi.e) (.int .i64 p)
 have hf:=Kh (w:=W) (K:=140) (cap:=#[.pointer (some ⟨w.heap.size,0,none⟩),.pointer (some ⟨w.heap.size+1,0,none⟩)]) (p:=p) (l:=[a]) (o:=Bp (Od a.iv p.toNat))
  (Agn BL ⟨_,_,_,_,_,_,rfl,h1.kept kW,h2.kept kW⟩)
  (by intro x hx;simp only [List.mem_cons,List.not_mem_nil,or_false] at hx;subst hx;exact la) (by simp)
  (fun p1 p2 hall w1 k=>by
    simp only [List.all_cons,List.all_nil,Bool.and_true] at hall;obtain ⟨oa,ra⟩:=Eu h1.small h2.small hall;have hp:((p.toNat:Nat):Int)=p:=Int.toNat_of_nonneg (by omega);exact Ajw (p:=p.toNat) oa (hT.kept (kW.trans k)) (by omega) (by omega) (E8 ra (BA.kept k) (h1.kept (kW.trans k)) (h2.kept (kW.trans k))) (by rw [hp];exact Al k cp))
  (Kt Ahn) (fun _=>rfl)
 generalize Ei p [a] (Bp (Od a.iv p.toNat))=o at *;have HF:=hid hf;have HW:=hid hW;have HK:=hid kW;have HR:=hid BR;clear hf hW kW BA BR BL cp h1 h2 hv la hT;generalize a.lo.neg=n1 at *;generalize a.lo.e=e1 at *;generalize a.hi.neg=n2 at *;generalize a.hi.e=e2 at *;go_enter Tryz.func100,Tryz.ntmps100
 go_wp2_with (go_at_call 124;rw [←HW.out];refine HF.out.mono ?_;rintro e w1 ⟨q,u,rfl,hd⟩;obtain ⟨A1,j1,k1',A2,j2,k2',rfl,z1,z2⟩:=Aq hd;have Z1:=hid z1;have Z2:=hid z2;have hb2:=HR.out.kept q;obtain ⟨hsz,c0,c1,c2,c3,c4,c5⟩:=hb2.facts;obtain ⟨f0,f1,f2,f3,f4,f5⟩:=hb2.free;have HRR:=hid hb2;clear hd hb2 z1 z2)
 exact Cd (HRR.out.laid _ _ _ _ _ _) rfl rfl rfl ⟨Bm (HK.out.trans q) (by omega),_,rfl,_,_,_,_,_,_,rfl,Z1.out.ivW HRR.out _ _ _ _ _ _,Z2.out.ivW HRR.out _ _ _ _ _ _⟩
theorem Aij {w:World}{v:Value}{a:RawI}{p:Int}(hv:IvR w v a)(la:a.lens 17592186044416)(hT:Tab w) :
 Calls Tryz.prog 101 #[v,.int .i64 p] w (RetIE (Ei p [a] (Bp (Hu a.iv p.toNat))) w):=by
 have hmf:=Gq;obtain ⟨A,l,c,A',l',c',rfl,h1,h2⟩:=Aq hv;obtain ⟨W,hW,kW,BA,cp,BR,BL⟩:=T5 w (.bool a.lo.neg) (.slice A l c) (.int .i64 a.lo.e) (.bool a.hi.neg) (.slice A' l' c') (.int .i64 a.hi.e) (.int .i64 p)
 have hf:=Kh (w:=W) (K:=141) (cap:=#[.pointer (some ⟨w.heap.size,0,none⟩),.pointer (some ⟨w.heap.size+1,0,none⟩)]) (p:=p) (l:=[a]) (o:=Bp (Hu a.iv p.toNat))
  (Agn BL ⟨_,_,_,_,_,_,rfl,h1.kept kW,h2.kept kW⟩)
  (by intro x hx;simp only [List.mem_cons,List.not_mem_nil,or_false] at hx;subst hx;exact la) (by simp)
  (fun p1 p2 hall w1 k=>by
    simp only [List.all_cons,List.all_nil,Bool.and_true] at hall;obtain ⟨oa,ra⟩:=Eu h1.small h2.small hall;have hp:((p.toNat:Nat):Int)=p:=Int.toNat_of_nonneg (by omega);exact Ahp (p:=p.toNat) oa (hT.kept (kW.trans k)) (by omega) (by omega) (E8 ra (BA.kept k) (h1.kept (kW.trans k)) (h2.kept (kW.trans k))) (by rw [hp];exact Al k cp))
  (Kt Ae3) (fun _=>rfl)
 generalize Ei p [a] (Bp (Hu a.iv p.toNat))=o at *;have HF:=hid hf;have HW:=hid hW;have HK:=hid kW;have HR:=hid BR;clear hf hW kW BA BR BL cp h1 h2 hv la hT;generalize a.lo.neg=n1 at *;generalize a.lo.e=e1 at *;generalize a.hi.neg=n2 at *;generalize a.hi.e=e2 at *;go_enter Tryz.func101,Tryz.ntmps101
 go_wp2_with (go_at_call 124;rw [←HW.out];refine HF.out.mono ?_;rintro e w1 ⟨q,u,rfl,hd⟩;obtain ⟨A1,j1,k1',A2,j2,k2',rfl,z1,z2⟩:=Aq hd;have Z1:=hid z1;have Z2:=hid z2;have hb2:=HR.out.kept q;obtain ⟨hsz,c0,c1,c2,c3,c4,c5⟩:=hb2.facts;obtain ⟨f0,f1,f2,f3,f4,f5⟩:=hb2.free;have HRR:=hid hb2;clear hd hb2 z1 z2)
 exact Cd (HRR.out.laid _ _ _ _ _ _) rfl rfl rfl ⟨Bm (HK.out.trans q) (by omega),_,rfl,_,_,_,_,_,_,rfl,Z1.out.ivW HRR.out _ _ _ _ _ _,Z2.out.ivW HRR.out _ _ _ _ _ _⟩
structure Ln where
 op:Int
 a:Int
 b:Int
 k:RawI
structure En where
 t:RawI
 x:List RawI
 u:List RawI
 p:List RawI
def E2 (op:Int):Int :=
 if op=1∨op=2∨op=3∨op=4∨op=5 then 0 else if op=6∨op=7∨op=8∨op=9 then 2 else if op=10∨op=11∨op=12∨op=13 then 1 else -1
def Bv (n most:Int):Bool:=decide (0≤n)&&decide (n<most)
def Th (a b:RawI):Bool:=J1 a.lo b.lo&&J1 a.hi b.hi
def Fu (l:Ln) (at':Int) (x u p:Int):Bool :=
 if l.op=1 then Fh l.k&&(decide (l.a=0)&&decide (l.b=0)) else
 if Th l.k rzI=false then false else
 if l.op=2 then decide (l.a=0)&&decide (l.b=0) else
 if l.op=3 then Bv l.a x&&decide (l.b=0) else
 if l.op=4 then Bv l.a u&&decide (l.b=0) else
 if l.op=5 then Bv l.a p&&decide (l.b=0) else
 if l.op=6∨l.op=7∨l.op=8∨l.op=9 then Bv l.a at'&&Bv l.b at' else
 if l.op=10∨l.op=11∨l.op=12∨l.op=13 then Bv l.a at'&&decide (l.b=0) else false
def N3 (x u p:Int):Nat→List Ln→Bool
 | _,[]=>true
 | i,l::ls=>Fu l i x u p&&N3 x u p (i+1) ls
def Iu (ls:List Ln) (outs:List Int) (x u p:Int):Bool :=
 decide (ls.length≤200)&&decide (outs.length≤200)&&N3 x u p 0 ls&&outs.all fun n=>Bv n ls.length
def Nd (e:En):Bool:=Fh e.t&&e.x.all Fh&&e.u.all Fh&&e.p.all Fh
def F4 (a:Iv) (p:Nat):Outc Iv:=Gj (Dc a.lo p false) (Dc a.hi p true)
def Jk (ov:Iv→Nat→Outc Iv) (op:Int) (a b:Iv) (p:Nat):Outc Iv :=
 if op=6 then I4 a b p else if op=7 then L6 a b p else if op=8 then Hq a b p else if op=9 then I6 a b p else
 if op=10 then Lv a p else if op=11 then Od a p else if op=12 then Hu a p else ov a p
def atI (l:List RawI) (n:Int):Iv:=(l.getD n.toNat rzI).iv
def Cy (ov:Iv→Nat→Outc Iv) (e:En) (p:Nat) (out:List RawI) (l:Ln):Outc Iv :=
 if l.op=1 then F4 l.k.iv p else if l.op=2 then F4 e.t.iv p else if l.op=3 then F4 (atI e.x l.a) p else
 if l.op=4 then F4 (atI e.u l.a) p else if l.op=5 then F4 (atI e.p l.a) p else Jk ov l.op (atI out l.a) (atI out l.b) p
def Cz (ov:Iv→Nat→Outc Iv) (e:En) (p:Nat):List RawI→List Ln→Outc (List RawI)
 | out,[]=>⟨out,0⟩
 | out,l::ls=>if (Cy ov e p out l).k=0 then Cz ov e p (out++[(Cy ov e p out l).v.raw]) ls else ⟨[],(Cy ov e p out l).k⟩
def Cg (ov:Iv→Nat→Outc Iv) (ls:List Ln) (outs:List Int) (e:En) (p:Int):Outc (List RawI) :=
 if 1≤p∧p≤300∧Iu ls outs e.x.length e.u.length e.p.length=true∧Nd e=true then Cz ov e p.toNat [] ls else ⟨[],1⟩
def Qu (ov:Iv→Nat→Outc Iv) (ls:List Ln) (outs:List Int) (e:En) (p:Int):Outc (List RawI) :=
 if (Cg ov ls outs e p).k=0 then ⟨outs.map fun n=>(Cg ov ls outs e p).v.getD n.toNat rzI,0⟩ else ⟨[],(Cg ov ls outs e p).k⟩
theorem Ex {a:Iv}(ha:a.Ok){p:Nat}(hp:1≤p):OkI (F4 a p):=by
 unfold F4;refine Jq (Gi _ _ _) (Gi _ _ _) fun k1 k2=>?_
 have d1:=(Jp hp k1).le;have d2:=(Nv hp k2).le;have:=ha.le;grind
def Cl (l:List RawI):Prop:=∀ a∈l,a.iv.Ok∧a.iv.raw=a
theorem Acz {a:Iv}(h:a.Ok):a.raw.iv.Ok∧a.raw.iv.raw=a.raw:=by rw [Iv.raw_iv];exact ⟨h,rfl⟩
theorem Cl.snoc {l:List RawI}{a:Iv}(h:Cl l)(ha:a.Ok):Cl (l++[a.raw]):=by
 intro x hx;rcases List.mem_append.1 hx with hx | hx
 ·exact h x hx
 ·simp at hx;subst hx;exact Acz ha
theorem Ajq:rzI.iv=iz:=rfl
theorem Cl.at {l:List RawI}(h:Cl l)(n:Int):(atI l n).Ok:=by
 unfold atI;rw [List.getD_eq_getElem?_getD];cases hi:l[n.toNat]? with
 | none=>simp only [Option.getD_none];rw [Ajq];exact Q4
 | some a=>simp only [Option.getD_some];exact (h a (List.mem_of_getElem? hi)).1
structure En.Cl (e:En):Prop where
 t:e.t.iv.Ok∧e.t.iv.raw=e.t
 x:Go.Proofs.YtabjjdicffcolaaGreatDoor.Cl e.x
 u:Go.Proofs.YtabjjdicffcolaaGreatDoor.Cl e.u
 p:Go.Proofs.YtabjjdicffcolaaGreatDoor.Cl e.p
theorem Aae {ov:Iv→Nat→Outc Iv}{op:Int}{a b:Iv}(ha:a.Ok)(hb:b.Ok){p:Nat}(hp:1≤p)(hov:¬(6≤op∧op≤12)→OkI (ov a p)):OkI (Jk ov op a b p):=by
 unfold Jk;split
 ·exact Tx ha hb hp
 split
 ·exact Aar ha hb hp
 split
 ·exact Z9 hp
 split
 ·exact Zk hb hp
 split
 ·exact Aac ha hp
 split
 ·exact Aho hp
 split
 ·exact Ae4 ha hp
 ·exact hov (by omega)
theorem V7 {ov:Iv→Nat→Outc Iv}{e:En}{p:Nat}{out:List RawI}{l:Ln}(he:e.Cl)(ho:Go.Proofs.YtabjjdicffcolaaGreatDoor.Cl out)(hk:l.op=1→l.k.iv.Ok)(hp:1≤p)
 (hov:¬(1≤l.op∧l.op≤12)→∀ a,a.Ok→OkI (ov a p)):OkI (Cy ov e p out l):=by
 unfold Cy;split
 ·rename_i h;exact Ex (hk h) hp
 split
 ·exact Ex he.t.1 hp
 split
 ·exact Ex (he.x.at _) hp
 split
 ·exact Ex (he.u.at _) hp
 split
 ·exact Ex (he.p.at _) hp
 ·exact Aae (ho.at _) (ho.at _) hp (fun h=>hov (by omega) _ (ho.at _))
def LnAt (w:World) (b o:Nat) (l:Ln):Prop:=w.cell? ⟨b,o,none⟩=some (.int .i64 l.op)∧w.cell? ⟨b,o+1,none⟩=some (.int .i64 l.a)∧w.cell? ⟨b,o+2,none⟩=some (.int .i64 l.b)∧IvAt w b (o+3) l.k
def LnS (w:World) (v:Value) (ls:List Ln):Prop:=∃ A c,v=.slice A ls.length c∧ls.length≤c∧(0<ls.length→∃ b off,A=some ⟨b,off,none⟩∧∀ i l,ls[i]?=some l→LnAt w b (off+i*9) l)
def InS (w:World) (v:Value) (ns:List Int):Prop:=∃ A c,v=.slice A ns.length c∧ns.length≤c∧(0<ns.length→∃ b off,A=some ⟨b,off,none⟩∧∀ i n,ns[i]?=some n→w.cell? ⟨b,off+i,none⟩=some (.int .i64 n))
theorem LnAt.kept {w w':World}{b o:Nat}{l:Ln}(h:LnAt w b o l)(k:Kept w w'):LnAt w' b o l:=by
 obtain ⟨h0,h1,h2,h3⟩:=h;have hb:=Ap h0;exact ⟨(k.cell (p:=⟨b,o,none⟩) hb).trans h0,(k.cell (p:=⟨b,o+1,none⟩) hb).trans h1,(k.cell (p:=⟨b,o+2,none⟩) hb).trans h2,h3.kept k⟩
theorem LnS.kept {w w':World}{v:Value}{l:List Ln}(h:LnS w v l)(k:Kept w w'):LnS w' v l:=by
 obtain ⟨A,c,rfl,hc,hA⟩:=h;refine ⟨A,c,rfl,hc,fun h0=>?_⟩;obtain ⟨b,off,rfl,hd⟩:=hA h0;exact ⟨b,off,rfl,fun i d hi=>(hd i d hi).kept k⟩
theorem InS.kept {w w':World}{v:Value}{l:List Int}(h:InS w v l)(k:Kept w w'):InS w' v l:=by
 obtain ⟨A,c,rfl,hc,hA⟩:=h;refine ⟨A,c,rfl,hc,fun h0=>?_⟩;obtain ⟨b,off,rfl,hd⟩:=hA h0;exact ⟨b,off,rfl,fun i d hi=>(k.cell (p:=⟨b,off+i,none⟩) (Ap (hd i d hi))).trans (hd i d hi)⟩
def TpR (w:World) (v:Value) (ls:List Ln) (outs:List Int):Prop:=∃ s o,v=.agg #[s,o]∧LnS w s ls∧InS w o outs
def EnR (w:World) (v:Value) (e:En):Prop:=∃ x y z x' y' z' sx su sp,v=.agg #[x,y,z,x',y',z',sx,su,sp]∧IvR w (.agg #[x,y,z,x',y',z']) e.t∧IvS w sx e.x∧IvS w su e.u∧IvS w sp e.p
theorem TpR.kept {w w':World}{v:Value}{ls:List Ln}{outs:List Int}(h:TpR w v ls outs)(k:Kept w w'):TpR w' v ls outs:=by
 obtain ⟨s,o,rfl,h1,h2⟩:=h;exact ⟨s,o,rfl,h1.kept k,h2.kept k⟩
theorem EnR.kept {w w':World}{v:Value}{e:En}(h:EnR w v e)(k:Kept w w'):EnR w' v e:=by
 obtain ⟨x,y,z,x',y',z',sx,su,sp,rfl,h1,h2,h3,h4⟩:=h;exact ⟨x,y,z,x',y',z',sx,su,sp,rfl,h1.kept k,h2.kept k,h3.kept k,h4.kept k⟩
theorem IvR.cells {w:World}{x y z x' y' z':Value}{a:RawI}(h:IvR w (.agg #[x,y,z,x',y',z']) a):∀ u∈[x,y,z,x',y',z'],Bf u∧u.oneCell'=true:=by
 obtain ⟨A,l,c,A',l',c',e,-,-⟩:=Aq h;injection e with e;injection e with e
 simp only [List.cons.injEq,and_true] at e;obtain ⟨rfl,rfl,rfl,rfl,rfl,rfl⟩:=e;intro u hu;simp at hu;rcases hu with rfl | rfl | rfl | rfl | rfl | rfl
 ·exact ⟨Ah _,rfl⟩
 ·exact ⟨Ag _ _ _,rfl⟩
 ·exact ⟨Af _,rfl⟩
 ·exact ⟨Ah _,rfl⟩
 ·exact ⟨Ag _ _ _,rfl⟩
 ·exact ⟨Af _,rfl⟩
theorem IvR.grown {w w':World}{v:Value}{a:RawI}{row:Option Nat}(h:IvR w v a)(hg:w.grownBy w' row)(hN:∀ g,row=some g→NoL w g):IvR w' v a:=by
 obtain ⟨x,y,z,x',y',z',rfl,h1,h2⟩:=h;exact ⟨x,y,z,x',y',z',rfl,h1.grown hg hN,h2.grown hg hN⟩
structure OwnI (w:World) (base:Nat) (v:Value) (l:List RawI) (xs:List Value):Prop where
 row:w.ownsRow base 30 6 v l.length xs
 nl:∀ u∈xs,Bf u
 one:∀ u∈xs,u.oneCell'=true
 blk:∀ g,v.ownBlock=some g→NoL w g
 ivs:∀ i a,l[i]?=some a→∃ x y z x' y' z',xs[i*6]?=some x∧xs[i*6+1]?=some y∧xs[i*6+2]?=some z∧xs[i*6+3]?=some x'∧xs[i*6+4]?=some y'∧xs[i*6+5]?=some z'∧IvR w (.agg #[x,y,z,x',y',z']) a
theorem OwnI.nil (w:World)(base:Nat):OwnI w base (.slice none 0 0) [] [] :=
 ⟨World.ownsRow_nil _ _ _ _,by simp,by simp,(by intro g h;simp [Value.ownBlock] at h),by simp⟩
theorem OwnI.kept {w w':World}{base:Nat}{v:Value}{l:List RawI}{xs:List Value}(h:OwnI w base v l xs)(k:Kept w w'):OwnI w' base v l xs:=by
 obtain ⟨h1,h2,h2',h3,h4⟩:=h;refine ⟨⟨h1.1,?_⟩,h2,h2',?_,?_⟩
 ·rcases h1.2 with hn | ⟨g,cap,cur,rfl,hb,hg,rest⟩
  ·exact .inl hn
  ·exact .inr ⟨g,cap,cur,rfl,hb,(k.block g (Array.getElem?_eq_some_iff.1 hg).1).trans hg,rest⟩
 ·intro g hg;have:=h3 g hg;obtain ⟨cur,e,q1,q2⟩:=this;exact ⟨cur,e,(k.block g (Array.getElem?_eq_some_iff.1 q1).1).trans q1,q2⟩
 ·intro i d hi;obtain ⟨x,y,z,x',y',z',a0,a1,a2,a3,a4,a5,hd⟩:=h4 i d hi;exact ⟨x,y,z,x',y',z',a0,a1,a2,a3,a4,a5,hd.kept k⟩
theorem OwnI.ivS {w:World}{base:Nat}{v:Value}{l:List RawI}{xs:List Value}(h:OwnI w base v l xs):IvS w v l:=by
 obtain ⟨h1,h2,h2',h3,h4⟩:=h;have hc:=h1.2;rcases hc with ⟨rfl,h0⟩ | ⟨g,cap,cur,rfl,hb,hg,hn,-⟩
 ·obtain rfl:l=[]:=List.eq_nil_of_length_eq_zero h0;exact ⟨none,0,rfl,Nat.le_refl _,fun h=>absurd h (by simp)⟩
 ·refine ⟨_,cap,rfl,hn,fun _=>⟨g,0,rfl,fun i d hi=>?_⟩⟩;obtain ⟨x,y,z,x',y',z',a0,a1,a2,a3,a4,a5,hd⟩:=h4 i d hi;have cl:=h1.cells (g:=g) rfl;have ad:∀ j,(⟨g,0,none⟩:Addr).add j=⟨g,j,none⟩:=by intro j;unfold Addr.add;split<;>simp_all
  refine ⟨x,y,z,x',y',z',?_,?_,?_,?_,?_,?_,hd⟩
  ·have:=cl _ _ a0;rw [ad] at this;simpa using this
  ·have:=cl _ _ a1;rw [ad] at this;simpa using this
  ·have:=cl _ _ a2;rw [ad] at this;simpa using this
  ·have:=cl _ _ a3;rw [ad] at this;simpa using this
  ·have:=cl _ _ a4;rw [ad] at this;simpa using this
  ·have:=cl _ _ a5;rw [ad] at this;simpa using this
theorem OwnI.snoc {w w':World}{base:Nat}{v v':Value}{l:List RawI}{xs:List Value}{a:RawI}{x y z x' y' z':Value}{g':Nat}(h:OwnI w base v l xs)
 (hd:IvR w (.agg #[x,y,z,x',y',z']) a)
 (hr:w'.ownsRow base 30 6 v' (l.length+1) (xs++[x,y,z,x',y',z'])) (hg:w.grownBy w' v.ownBlock) (hv':v'.ownBlock=some g') (hN:NoL w' g') :
 OwnI w' base v' (l++[a]) (xs++[x,y,z,x',y',z']):=by
 have hcl:=hd.cells;obtain ⟨h1,h2,h2',h3,h4⟩:=h;refine ⟨by simpa using hr,?_,?_,?_,?_⟩
 ·intro u hu;rcases List.mem_append.1 hu with hu | hu
  ·exact h2 u hu
  ·exact (hcl u hu).1
 ·intro u hu;rcases List.mem_append.1 hu with hu | hu
  ·exact h2' u hu
  ·exact (hcl u hu).2
 ·intro g hg;rw [hv'] at hg;cases hg;exact hN
 ·intro i e hi;have hxl:=h1.1;by_cases hlt:i<l.length
  ·rw [List.getElem?_append_left hlt] at hi;obtain ⟨x,y,z,x',y',z',a0,a1,a2,a3,a4,a5,hd'⟩:=h4 i e hi;have hh:=(List.getElem?_eq_some_iff.1 a5).1;refine ⟨x,y,z,x',y',z',?_,?_,?_,?_,?_,?_,hd'.grown hg h3⟩
   ·rw [List.getElem?_append_left (by omega)];exact a0
   ·rw [List.getElem?_append_left (by omega)];exact a1
   ·rw [List.getElem?_append_left (by omega)];exact a2
   ·rw [List.getElem?_append_left (by omega)];exact a3
   ·rw [List.getElem?_append_left (by omega)];exact a4
   ·rw [List.getElem?_append_left (by omega)];exact a5
  ·rw [List.getElem?_append_right (by omega)] at hi;obtain ⟨hz,he⟩:=List.getElem?_eq_some_iff.1 hi;simp at hz;have hi':i=l.length:=by omega
   subst hi';simp at he;subst he;refine ⟨x,y,z,x',y',z',?_,?_,?_,?_,?_,?_,hd.grown hg h3⟩
   ·rw [List.getElem?_append_right (by omega),hxl,show l.length*6-l.length*6=0 by omega];rfl
   ·rw [List.getElem?_append_right (by omega),hxl,show l.length*6+1-l.length*6=1 by omega];rfl
   ·rw [List.getElem?_append_right (by omega),hxl,show l.length*6+2-l.length*6=2 by omega];rfl
   ·rw [List.getElem?_append_right (by omega),hxl,show l.length*6+3-l.length*6=3 by omega];rfl
   ·rw [List.getElem?_append_right (by omega),hxl,show l.length*6+4-l.length*6=4 by omega];rfl
   ·rw [List.getElem?_append_right (by omega),hxl,show l.length*6+5-l.length*6=5 by omega];rfl
theorem V0:(Tryz.prog.info? 30).map (fun i=>(i.zero,i.size,i.bytes))=some (some (.agg #[.bool false,.slice none 0 0,.int .i64 0,.bool false,.slice none 0 0,.int .i64 0]),6,80):=by kernel_rfl
theorem Mr:∀ u∈(Value.agg #[.bool false,.slice none 0 0,.int .i64 0,.bool false,.slice none 0 0,.int .i64 0]).cells.toList,Bf u:=by
 intro u hu;simp [Value.cells] at hu;rcases hu with rfl | rfl | rfl | rfl | rfl | rfl
 ·exact Ah _
 ·exact Ag _ _ _
 ·exact Af _
 ·exact Ah _
 ·exact Ag _ _ _
 ·exact Af _
theorem Ip {p:Int}{l:List RawI}{o:Outc RawI}(p1:1≤p)(p2:p≤2000)(h:l.all Fh=true):Ei p l o=o:=by unfold Ei;rw [if_pos ⟨p1,p2,h⟩]
theorem Ah0 {w:World}{v u:Value}{a b:Iv}{p:Nat}(hv:IvC w v a)(hu:IvC w u b)(ha:a.Ok)(hb:b.Ok)(hT:Tab w)(p1:1≤p)(p2:p≤2000) :
 Calls Tryz.prog 96 #[v,u,.int .i64 p] w (RetIE (Bp (I4 a b p)) w):=by
 have h:=Aj1 (p:=(p:Int)) hv hu (Fg ha) (Fg hb) hT;rw [Ip (by omega) (by omega) (by simp [D8 ha,D8 hb]),Iv.raw_iv,Iv.raw_iv,Int.toNat_natCast] at h;exact h
theorem Ah5 {w:World}{v u:Value}{a b:Iv}{p:Nat}(hv:IvC w v a)(hu:IvC w u b)(ha:a.Ok)(hb:b.Ok)(hT:Tab w)(p1:1≤p)(p2:p≤2000) :
 Calls Tryz.prog 97 #[v,u,.int .i64 p] w (RetIE (Bp (L6 a b p)) w):=by
 have h:=Aka (p:=(p:Int)) hv hu (Fg ha) (Fg hb) hT;rw [Ip (by omega) (by omega) (by simp [D8 ha,D8 hb]),Iv.raw_iv,Iv.raw_iv,Int.toNat_natCast] at h;exact h
theorem Ah1 {w:World}{v u:Value}{a b:Iv}{p:Nat}(hv:IvC w v a)(hu:IvC w u b)(ha:a.Ok)(hb:b.Ok)(hT:Tab w)(p1:1≤p)(p2:p≤2000) :
 Calls Tryz.prog 98 #[v,u,.int .i64 p] w (RetIE (Bp (Hq a b p)) w):=by
 have h:=Aj5 (p:=(p:Int)) hv hu (Fg ha) (Fg hb) hT;rw [Ip (by omega) (by omega) (by simp [D8 ha,D8 hb]),Iv.raw_iv,Iv.raw_iv,Int.toNat_natCast] at h;exact h
theorem Aj3 {w:World}{v u:Value}{a b:Iv}{p:Nat}(hv:IvC w v a)(hu:IvC w u b)(ha:a.Ok)(hb:b.Ok)(hT:Tab w)(p1:1≤p)(p2:p≤2000) :
 Calls Tryz.prog 94 #[v,u,.int .i64 p] w (RetIE (Bp (I6 a b p)) w):=by
 have h:=Aj2 (p:=(p:Int)) hv hu (Fg ha) (Fg hb) hT;rw [Ip (by omega) (by omega) (by simp [D8 ha,D8 hb]),Iv.raw_iv,Iv.raw_iv,Int.toNat_natCast] at h;exact h
theorem Aj7 {w:World}{v:Value}{a:Iv}{p:Nat}(hv:IvC w v a)(ha:a.Ok)(hT:Tab w)(p1:1≤p)(p2:p≤2000) :
 Calls Tryz.prog 99 #[v,.int .i64 p] w (RetIE (Bp (Lv a p)) w):=by
 have h:=Aj6 (p:=(p:Int)) hv (Fg ha) hT;rw [Ip (by omega) (by omega) (by simp [D8 ha]),Iv.raw_iv,Int.toNat_natCast] at h;exact h
theorem Aj9 {w:World}{v:Value}{a:Iv}{p:Nat}(hv:IvC w v a)(ha:a.Ok)(hT:Tab w)(p1:1≤p)(p2:p≤2000) :
 Calls Tryz.prog 100 #[v,.int .i64 p] w (RetIE (Bp (Od a p)) w):=by
 have h:=Aj8 (p:=(p:Int)) hv (Fg ha) hT;rw [Ip (by omega) (by omega) (by simp [D8 ha]),Iv.raw_iv,Int.toNat_natCast] at h;exact h
theorem Aik {w:World}{v:Value}{a:Iv}{p:Nat}(hv:IvC w v a)(ha:a.Ok)(hT:Tab w)(p1:1≤p)(p2:p≤2000) :
 Calls Tryz.prog 101 #[v,.int .i64 p] w (RetIE (Bp (Hu a p)) w):=by
 have h:=Aij (p:=(p:Int)) hv (Fg ha) hT;rw [Ip (by omega) (by omega) (by simp [D8 ha]),Iv.raw_iv,Int.toNat_natCast] at h;exact h
def dm:Dy:=⟨true,1,0⟩
def dt:Dy:=⟨false,1,1⟩
def d4:Dy:=⟨false,1,2⟩
theorem Akl:dt.Ok:=Yq _ _ (by decide) (by decide)
theorem Ako:Bt false 2 0=⟨dt,0⟩:=by
 have ht:tz 2=1:=Ge 2 1 1 rfl rfl;unfold Bt;rw [ht];rw [if_neg (by decide),if_neg (by simp [Yj]),if_neg (by decide),if_neg (by decide)];rfl
def mt:Iv:=⟨dm,dt⟩
def R1:Raw:=⟨false,[1],0⟩
def R4:Raw:=⟨false,[1],2⟩
structure Rg (d:Dy) (A B:Int):Prop where
 ok:d.Ok
 lo:d.m≠0→-A≤d.e
 hi:d.m≠0→bl d.m+d.e≤B
theorem Rg.zero (A B:Int):Rg dz A B:=⟨K8,fun h=>absurd rfl h,fun h=>absurd rfl h⟩
theorem Rg.mono {d:Dy}{A B A' B':Int}(h:Rg d A B)(hA:A≤A')(hB:B≤B'):Rg d A' B':=⟨h.ok,fun h0=>by have:=h.lo h0;omega,fun h0=>by have:=h.hi h0;omega⟩
theorem Rg.neg {d:Dy}{A B:Int}(h:Rg d A B):Rg (D9 d) A B:=by
 refine ⟨Hg h.ok,?_,?_⟩<;>unfold D9<;>split<;>first | exact h.lo | exact h.hi
theorem Ty {x y:Nat}(h:y≠0):bl (x/y)≤bl x-(bl y-1):=by
 have hy:2^(bl y-1)≤y:=Dg y h;rw [←On];exact Fw (Nat.div_le_div_left hy (Nat.two_pow_pos _))
structure RgI (a:Iv) (A B:Int):Prop where
 lo:Rg a.lo A B
 hi:Rg a.hi A B
theorem RgI.mono {a:Iv}{A B A' B':Int}(h:RgI a A B)(hA:A≤A')(hB:B≤B'):RgI a A' B':=⟨h.lo.mono hA hB,h.hi.mono hA hB⟩
theorem RgI.pt {d:Dy}{A B:Int}(h:Rg d A B):RgI (pt d) A B:=⟨h,h⟩
theorem RgI.zero (A B:Int):RgI iz A B:=⟨Rg.zero _ _,Rg.zero _ _⟩
def GoodI (o:Outc Iv) (A B:Int):Prop:=o.k=0∧RgI o.v A B
theorem GoodI.mono {o:Outc Iv}{A B A' B':Int}(h:GoodI o A B)(hA:A≤A')(hB:B≤B'):GoodI o A' B':=⟨h.1,h.2.mono hA hB⟩
def In (x:Rat) (a:Iv):Prop:=a.lo.q≤x∧x≤a.hi.q
def opI (op:Int) (a b:Iv) (p:Nat):Outc Iv:=if op=6 then I4 a b p else if op=7 then L6 a b p else if op=8 then Hq a b p else if op=9 then I6 a b p else Lv a p
def doI (op:Int) (a b:Iv) (p:Nat) (e:Int):Outc Iv:=if e=0 then opI op a b p else ⟨iz,e⟩
def two:Iv:=pt dt
def Jl (p:Nat) (op:Int) (a b c da db:Iv) (e:Int):Outc Iv :=
 if op=6∨op=7∨op=10 then doI op da db p e else
 if op=8 then doI 6 (doI 8 da b p e).v (doI 8 a db p (doI 8 da b p e).k).v p (doI 8 a db p (doI 8 da b p e).k).k else
 if op=9 then doI 9 (doI 7 da (doI 8 c db p e).v p (doI 8 c db p e).k).v b p (doI 7 da (doI 8 c db p e).v p (doI 8 c db p e).k).k else
 if op=11 then doI 8 (doI 8 two a p e).v da p (doI 8 two a p e).k else
 if op=12 then doI 9 da (doI 8 two c p e).v p (doI 8 two c p e).k else
 if op=13 then doI 8 c da p e else ⟨iz,e⟩
def Ld (p:Nat) (op:Int) (a b c:Iv):List RawI→List RawI→Int→List RawI × Int
 | da::l,db::m,e=>((Jl p op a b c da.iv db.iv e).v.raw::(Ld p op a b c l m (Jl p op a b c da.iv db.iv e).k).1,(Ld p op a b c l m (Jl p op a b c da.iv db.iv e).k).2)
 | _,_,e=>([],e)
def Dw (p nx:Nat) (v:List RawI) (all:List (List RawI)) (l:Ln):List RawI × Int :=
 if l.op=1∨l.op=2∨l.op=4∨l.op=5 then (List.replicate nx rzI,0) else
 if l.op=3 then ((List.replicate nx rzI).set l.a.toNat (pt d1).raw,0) else
 Ld p l.op (atI v l.a) (atI v l.b) (atI v all.length) (all.getD l.a.toNat []) (all.getD l.b.toNat []) 0
def Dh (p nx:Nat) (v:List RawI):List (List RawI)→List Ln→Outc (List (List RawI))
 | all,[]=>⟨all,0⟩
 | all,l::ls=>if (Dw p nx v all l).2=0 then Dh p nx v (all++[(Dw p nx v all l).1]) ls else ⟨[],(Dw p nx v all l).2⟩
def Ho (ov:Iv→Nat→Outc Iv) (ls:List Ln) (outs:List Int) (e:En) (p:Int):Outc (List RawI × List (List RawI)) :=
 if (Cg ov ls outs e p).k≠0 then ⟨([],[]),(Cg ov ls outs e p).k⟩ else
 if (Dh p.toNat e.x.length (Cg ov ls outs e p).v [] ls).k≠0 then ⟨([],[]),(Dh p.toNat e.x.length (Cg ov ls outs e p).v [] ls).k⟩ else
 ⟨(outs.map fun n=>(Cg ov ls outs e p).v.getD n.toNat rzI,outs.map fun n=>(Dh p.toNat e.x.length (Cg ov ls outs e p).v [] ls).v.getD n.toNat []),0⟩
def dyz (z:Int) (e:Int):Dy:=(Bt (decide (z<0)) z.natAbs e).v
def SmZ (z:Int) (e:Int):Prop:=z.natAbs<2^60∧-40≤e∧e≤0
theorem Ajt (z:Int):sq (decide (z<0)) z.natAbs=(z:Rat):=by
 unfold sq;by_cases h:z<0
 ·rw [if_pos (by simpa using h)];obtain ⟨n,rfl⟩:∃ n:Nat,z=-(n:Int):=⟨z.natAbs,by omega⟩;rw [Int.natAbs_neg,Int.natAbs_natCast,Rat.intCast_neg];rfl
 ·rw [if_neg (by simpa using h)];obtain ⟨n,rfl⟩:∃ n:Nat,z=(n:Int):=⟨z.natAbs,by omega⟩;rw [Int.natAbs_natCast];rfl
theorem Zn {z e:Int}(h:SmZ z e):Bt (decide (z<0)) z.natAbs e=⟨dyz z e,0⟩:=by
 obtain ⟨h1,h2,h3⟩:=h;have hb:=E7 _ _ h1;have:=(Iq (neg:=decide (z<0)) (n:=z.natAbs) (e:=e) (by omega) (by omega) (by omega)).1;unfold dyz;generalize Bt (decide (z<0)) z.natAbs e=o at *;cases o with | mk v k=>simp only at this;subst this;rfl
theorem Jh (z e:Int):(dyz z e).Ok:=(Ha _ _ _).1
theorem Vt {z e:Int}(h:SmZ z e):(dyz z e).q=(z:Rat)*pw e:=by
 have:=Kj (neg:=decide (z<0)) (n:=z.natAbs) (e:=e) (by rw [Zn h]);rw [Ajt] at this;exact this
theorem M7 {z e:Int}{p:Nat}(h:z.natAbs<2^p):bl (dyz z e).m≤p:=by
 unfold dyz Bt;by_cases h0:z.natAbs=0
 ·rw [if_pos h0];show bl dz.m≤p;simp [dz,bl]
 ·rw [if_neg h0];have:bl (z.natAbs/2^tz z.natAbs)≤p:=Nat.le_trans (Fw (Nat.div_le_self _ _)) (E7 _ _ h);split
  ·show bl dz.m≤p;simp [dz,bl]
  ·split
   ·show bl dz.m≤p;simp [dz,bl]
   ·split
    ·show bl dz.m≤p;simp [dz,bl]
    ·exact this
theorem P5 {z e:Int}(h:SmZ z e):Few (dyz z e) 128 100:=by
 obtain ⟨h1,h2,h3⟩:=h;refine ⟨Jh z e,Nat.le_trans (M7 (p:=60) h1) (by decide),?_,?_⟩
 ·unfold dyz Bt;by_cases h0:z.natAbs=0
  ·rw [if_pos h0];decide
  ·rw [if_neg h0];split
   ·decide
   ·split
    ·decide
    ·split
     ·decide
     ·simp only [good];omega
 ·unfold dyz Bt;by_cases h0:z.natAbs=0
  ·rw [if_pos h0];decide
  ·rw [if_neg h0];have ht:tz z.natAbs<bl z.natAbs:=Ma _ _ h0 (Bc _);have hb:=E7 _ _ h1;split
   ·decide
   ·split
    ·decide
    ·split
     ·decide
     ·simp only [good];omega
theorem Ac9 {d:Dy}{z e:Int}(h:d.Ok)(hz:SmZ z e)(hq:d.q=(z:Rat)*pw e):d=dyz z e :=
 Ak0 h (Jh z e) (hq.trans (Vt hz).symm)
theorem Agb {a b e:Int}(ha:SmZ a e)(hb:SmZ b e)(hab:SmZ (a+b) e):Dj (dyz a e) (dyz b e)=⟨dyz (a+b) e,0⟩:=by
 obtain ⟨h1,h2,-⟩:=Afb (P5 ha) (P5 hb);have hq:=U6 h1;rw [Vt ha,Vt hb] at hq;have he:=Ac9 h2 hab (by rw [hq,Rat.intCast_add];grind);generalize Dj (dyz a e) (dyz b e)=o at *;cases o with | mk v k=>simp only at h1 he;subst h1 he;rfl
theorem Aga {a b e f:Int}(ha:SmZ a e)(hb:SmZ b f)(hab:SmZ (a*b) (e+f)):Ch (dyz a e) (dyz b f)=⟨dyz (a*b) (e+f),0⟩:=by
 obtain ⟨h1,h2,-⟩:=Ad2 (P5 ha) (P5 hb);have hq:=Up h1;rw [Vt ha,Vt hb] at hq;have he:=Ac9 h2 hab (by rw [hq,Rat.intCast_mul,Ef];grind);generalize Ch (dyz a e) (dyz b f)=o at *;cases o with | mk v k=>simp only at h1 he;subst h1 he;rfl
theorem Vs {a b e:Int}{p:Nat}(ha:SmZ a e)(hb:SmZ b e)(hab:SmZ (a+b) e)(hp:(a+b).natAbs<2^p):I4 (pt (dyz a e)) (pt (dyz b e)) p=⟨pt (dyz (a+b) e),0⟩:=by
 unfold I4 pt;simp only;rw [Agb ha hb hab,Rl (o:=⟨dyz (a+b) e,0⟩) rfl (Jh _ _) (M7 hp),Rl (o:=⟨dyz (a+b) e,0⟩) rfl (Jh _ _) (M7 hp)];rfl
theorem Lj {a b e f:Int}{p:Nat}(ha:SmZ a e)(hb:SmZ b f)(hab:SmZ (a*b) (e+f))(hp:(a*b).natAbs<2^p):Hq (pt (dyz a e)) (pt (dyz b f)) p=⟨pt (dyz (a*b) (e+f)),0⟩:=by
 have h:=Aga ha hb hab;unfold Hq pt;simp only;rw [h,Adi rfl rfl rfl rfl,V5 _ _ (by simp),Qy _ _ (by simp),Io (Jh _ _) (M7 hp),Io (Jh _ _) (M7 hp)];rfl
theorem Aa5 {a e:Int}{p:Nat}(hp:a.natAbs<2^p):F4 (pt (dyz a e)) p=⟨pt (dyz a e),0⟩:=by
 unfold F4 pt;simp only;rw [Io (Jh _ _) (M7 hp),Io (Jh _ _) (M7 hp)];rfl
theorem Zo:dyz 1 0=d1:=by
 have:Bt false 1 0=⟨d1,0⟩:=Vu;unfold dyz;exact congrArg Outc.v this
theorem Aja (ov:Iv→Nat→Outc Iv)(e:En)(p:Nat)(out:List RawI)(a b:Int)(k:RawI):Cy ov e p out ⟨3,a,b,k⟩=F4 (atI e.x a) p:=rfl
theorem Ajb (ov:Iv→Nat→Outc Iv)(e:En)(p:Nat)(out:List RawI)(a b:Int)(k:RawI):Cy ov e p out ⟨8,a,b,k⟩=Hq (atI out a) (atI out b) p:=rfl
theorem Af4 (p nx:Nat)(v:List RawI)(all:List (List RawI))(a b:Int)(k:RawI):Dw p nx v all ⟨3,a,b,k⟩=((List.replicate nx rzI).set a.toNat (pt d1).raw,0):=rfl
theorem Af5 (p nx:Nat)(v:List RawI)(all:List (List RawI))(a b:Int)(k:RawI):Dw p nx v all ⟨8,a,b,k⟩=Ld p 8 (atI v a) (atI v b) (atI v all.length) (all.getD a.toNat []) (all.getD b.toNat []) 0:=rfl
theorem Aia {p:Nat}{a b c da db x y:Iv}(h1:Hq da b p=⟨x,0⟩)(h2:Hq a db p=⟨y,0⟩):Jl p 8 a b c da db 0=I4 x y p:=by
 have e1:doI 8 da b p 0=⟨x,0⟩:=h1;have e2:doI 8 a db p 0=⟨y,0⟩:=h2
 show doI 6 (doI 8 da b p 0).v (doI 8 a db p (doI 8 da b p 0).k).v p (doI 8 a db p (doI 8 da b p 0).k).k=_
 rw [e1];simp only;rw [e2];rfl
end Go.Proofs.YtabjjdicffcolaaGreatDoor
