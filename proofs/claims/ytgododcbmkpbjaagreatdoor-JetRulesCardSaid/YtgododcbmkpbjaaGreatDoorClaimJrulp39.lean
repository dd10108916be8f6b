/- Contracts of package jet, fifteenth part: Solve for one state. -/
import Derived.Test.YtgododcbmkpbjaaGreatDoorClaimJrulp38
set_option maxRecDepth 100000
set_option maxHeartbeats 16000000
namespace Go.Proofs.YtgododcbmkpbjaaGreatDoor
open Go.Lib (hid)
open Go.RowKit
def Two2 (w : World) (v : Value) (xs : List Value) : Prop := ∃ b g cap,v = .slice (some ⟨b,0,none⟩) 1 1 ∧ w.heap[b]? = some (.cells #[.slice (some ⟨g,0,none⟩) 2 cap] 33 (0,0)) ∧ 2 ≤ cap ∧ ∀ (j : Nat) (u : Value),xs[j]? = some u → w.cell? ⟨g,j,none⟩ = some u
def NilB (w : World) (v : Value) : Prop := ∃ b,v = .slice (some ⟨b,0,none⟩) 1 1 ∧ w.heap[b]? = some (.cells #[.slice none 0 0] 33 (0,0))
def BoxI (w : World) (v : Value) (t0 t1 t2 t3 t4 t5 : Value) : Prop := ∃ b,v = .slice (some ⟨b,0,none⟩) 1 1 ∧ BlkI w b t0 t1 t2 t3 t4 t5
theorem Two2.kept {w w' : World} {v : Value} {xs : List Value} (h : Two2 w v xs) (k : Kept w w') : Two2 w' v xs := by
 obtain ⟨b,g,cap,e,hb,hc,hh⟩ := h
 exact ⟨b,g,cap,e,blk_kept hb k,hc,fun j u hj => (k.cell (p := ⟨g,j,none⟩) (lt_of_cell (hh j u hj))).trans (hh j u hj)⟩
theorem NilB.kept {w w' : World} {v : Value} (h : NilB w v) (k : Kept w w') : NilB w' v := by
 obtain ⟨b,e,hb⟩ := h
 exact ⟨b,e,blk_kept hb k⟩
theorem BoxI.kept {w w' : World} {v t0 t1 t2 t3 t4 t5 : Value} (h : BoxI w v t0 t1 t2 t3 t4 t5) (k : Kept w w') : BoxI w' v t0 t1 t2 t3 t4 t5 := by
 obtain ⟨b,e,hb⟩ := h
 exact ⟨b,e,hb.kept k⟩
section
variable {w w' : World} {v t0 t1 t2 t3 t4 t5 : Value} {xs : List Value}
theorem NilB.stab (h : NilB w v) (hs : ∀ (b : Nat) (cs : Array Value) (T : TypeId),w.heap[b]? = some (.cells cs T (0,0)) → cs.size < 12 → w'.heap[b]? = some (.cells cs T (0,0))) : NilB w' v := by
 obtain ⟨b,e,hb⟩ := h
 exact ⟨b,e,hs _ _ _ hb (by simp)⟩
theorem BoxI.stab (h : BoxI w v t0 t1 t2 t3 t4 t5) (hs : ∀ (b : Nat) (cs : Array Value) (T : TypeId),w.heap[b]? = some (.cells cs T (0,0)) → cs.size < 12 → w'.heap[b]? = some (.cells cs T (0,0))) : BoxI w' v t0 t1 t2 t3 t4 t5 := by
 obtain ⟨b,e,hb⟩ := h
 exact ⟨b,e,hs _ _ _ hb (by simp)⟩
theorem Two2.stab (h : Two2 w v xs) (hs : ∀ (b : Nat) (cs : Array Value) (T : TypeId),w.heap[b]? = some (.cells cs T (0,0)) → cs.size < 12 → w'.heap[b]? = some (.cells cs T (0,0)))
 (hh : ∀ g,(∀ (j : Nat) (u : Value),xs[j]? = some u → w.cell? ⟨g,j,none⟩ = some u) → ∀ (j : Nat) (u : Value),xs[j]? = some u → w'.cell? ⟨g,j,none⟩ = some u) : Two2 w' v xs := by
 obtain ⟨b,g,cap,e,hb,hc,hd⟩ := h
 exact ⟨b,g,cap,e,hs _ _ _ hb (by simp),hc,hh g hd⟩
end
theorem Two2.rws {w : World} {v x0 x1 x2 x3 x4 x5 t0 t1 t2 t3 t4 t5 : Value} {a t : RawI} (h : Two2 w v [x0,x1,x2,x3,x4,x5,t0,t1,t2,t3,t4,t5]) (hA : IvR w (.agg #[x0,x1,x2,x3,x4,x5]) a) (hI : IvR w (.agg #[t0,t1,t2,t3,t4,t5]) t) : Rws w v [[a,t]] := by
 obtain ⟨b,g,cap,rfl,hb,hc,hh⟩ := h
 refine ⟨_,_,rfl,Nat.le_refl _,fun _ => ⟨b,0,rfl,fun i r hi => ?_⟩⟩
 rcases i with _ | i
 ·obtain rfl : [a, t] = r := by simpa using hi
  refine ⟨_,cell_of_block hb 0 _ rfl,_,cap,rfl,hc,fun _ => ⟨g,0,rfl,fun j d hj => ?_⟩⟩
  rcases j with _ | _ | j
  ·obtain rfl : a = d := by simpa using hj
   exact ⟨_,_,_,_,_,_,hh 0 _ rfl,hh 1 _ rfl,hh 2 _ rfl,hh 3 _ rfl,hh 4 _ rfl,hh 5 _ rfl,hA⟩
  ·obtain rfl : t = d := by simpa using hj
   exact ⟨_,_,_,_,_,_,hh 6 _ rfl,hh 7 _ rfl,hh 8 _ rfl,hh 9 _ rfl,hh 10 _ rfl,hh 11 _ rfl,hI⟩
  ·simp at hj
 ·simp at hi
theorem NilB.rws {w : World} {v : Value} (h : NilB w v) : Rws w v [[]] := by
 obtain ⟨b,rfl,hb⟩ := h
 refine ⟨_,_,rfl,Nat.le_refl _,fun _ => ⟨b,0,rfl,fun i r hi => ?_⟩⟩
 rcases i with _ | i
 ·obtain rfl : [] = r := by simpa using hi
  exact ⟨_,cell_of_block hb 0 _ rfl,ivS_nil _⟩
 ·simp at hi
theorem OwnI.two {w : World} {B : Nat} {v x0 x1 x2 x3 x4 x5 t0 t1 t2 t3 t4 t5 : Value} {a t : RawI} (h : OwnI w B v [a,t] [x0,x1,x2,x3,x4,x5,t0,t1,t2,t3,t4,t5]) :
 ∃ g cap,v = .slice (some ⟨g,0,none⟩) 2 cap ∧ 2 ≤ cap ∧ ∀ (j : Nat) (u : Value),[x0,x1,x2,x3,x4,x5,t0,t1,t2,t3,t4,t5][j]? = some u → w.cell? ⟨g,j,none⟩ = some u := by
 have hr := h.row
 rcases hr.2 with ⟨-,h0⟩ | ⟨g,cap,cur,rfl,hbg,hg,hnc,hcm,hcs,htake⟩
 ·simp at h0
 ·refine ⟨g, cap, rfl, hnc, fun j u hj => ?_⟩
  have ad : ∀ j,(⟨g,0,none⟩ : Addr).add j = ⟨g,j,none⟩ := by intro j;unfold Addr.add;split <;> simp_all
  have := hr.cells (g := g) rfl j u hj
  rwa [ad] at this
def Six (w : World) (b o : Nat) (x0 x1 x2 x3 x4 x5 : Value) : Prop := w.cell? ⟨b,o,none⟩ = some x0 ∧ w.cell? ⟨b,o + 1,none⟩ = some x1 ∧ w.cell? ⟨b,o + 2,none⟩ = some x2 ∧ w.cell? ⟨b,o + 3,none⟩ = some x3 ∧ w.cell? ⟨b,o + 4,none⟩ = some x4 ∧ w.cell? ⟨b,o + 5,none⟩ = some x5
theorem Six.kept {w w' : World} {b o : Nat} {x0 x1 x2 x3 x4 x5 : Value} (h : Six w b o x0 x1 x2 x3 x4 x5) (k : Kept w w') : Six w' b o x0 x1 x2 x3 x4 x5 := by
 obtain ⟨h0,h1,h2,h3,h4,h5⟩ := h
 have hb := lt_of_cell h0
 exact ⟨(k.cell (p := ⟨b,o,none⟩) hb).trans h0,(k.cell (p := ⟨b,o + 1,none⟩) hb).trans h1,(k.cell (p := ⟨b,o + 2,none⟩) hb).trans h2,(k.cell (p := ⟨b,o + 3,none⟩) hb).trans h3,(k.cell (p := ⟨b,o + 4,none⟩) hb).trans h4,(k.cell (p := ⟨b,o + 5,none⟩) hb).trans h5⟩
theorem ownI_new {w : World} {r : RawI} {x y z x' y' z' : Value} (h : IvR w (.agg #[x,y,z,x',y',z']) r) : OwnI (w.alloc (.cells #[x,y,z,x',y',z'] 32)) w.heap.size (.slice (some ⟨w.heap.size,0,none⟩) 1 1) [r] [x,y,z,x',y',z'] := by
 have hcl := h.cells
 refine ⟨⟨rfl,.inr ⟨w.heap.size,1,_,rfl,Nat.le_refl _,heap_alloc_new _ _,Nat.le_refl _,by unfold maxLen;omega,rfl,rfl⟩⟩,fun u hu => (hcl u hu).1,fun u hu => (hcl u hu).2,?_,?_⟩
 ·intro g hg
  obtain rfl : w.heap.size = g := Option.some.inj hg
  exact ⟨_,_,heap_alloc_new _ _,fun u hu => (hcl u (by simpa using hu)).1⟩
 ·intro i d hi
  rcases i with _ | i
  ·obtain rfl : r = d := by simpa using hi
   exact ⟨_,_,_,_,_,_,rfl,rfl,rfl,rfl,rfl,rfl,h.kept (kept_alloc _ _)⟩
  ·simp at hi
theorem boxi1 (w : World) (x y z x' y' z' : Value) : ∃ W,W = w.alloc (.cells #[x,y,z,x',y',z'] 32) ∧ Kept w W ∧ BlkI W w.heap.size x y z x' y' z' :=
 ⟨_,rfl,kept_alloc _ _,blkI_new _ _ _ _ _ _ _⟩
def SolJ (B bo : Nat) (vr : Value) (c : List RawI) (xs : List Value) (cur : Array Value) (d : RawI) (l0 l1 l2 : Bool) (w : World) : Prop :=
 (l1 = false → OwnI w B vr c xs) ∧ (l2 = false → w.heap[bo]? = some (.cells cur 33 (0,0))) ∧
 (l2 = true → l0 = true ∧ l1 = true ∧ ∃ v' xs',w.heap[bo]? = some (.cells (cur.setIfInBounds 0 v') 33 (0,0)) ∧ OwnI w B v' (c ++ [d]) xs')
theorem SolJ.kept {B bo : Nat} {vr : Value} {c : List RawI} {xs : List Value} {cur : Array Value} {d : RawI} {l0 l1 l2 : Bool} {w w' : World} (k : Kept w w') (h : SolJ B bo vr c xs cur d l0 l1 l2 w) : SolJ B bo vr c xs cur d l0 l1 l2 w' := by
 obtain ⟨h1,h2,h3⟩ := h
 refine ⟨fun e => (h1 e).kept k,fun e => blk_kept (h2 e) k,fun e => ?_⟩
 obtain ⟨e0,e1,v',xs',hb,hv⟩ := h3 e
 exact ⟨e0,e1,v',xs',blk_kept hb k,hv.kept k⟩
theorem SolJ.seen {B bo : Nat} {vr : Value} {c : List RawI} {xs : List Value} {cur : Array Value} {d : RawI} {l0 l1 l2 : Bool} {w w' : World} (k : Kept w w') (h : SolJ B bo vr c xs cur d l0 l1 l2 w) : SolJ B bo vr c xs cur d true l1 l2 w' := by
 obtain ⟨h1,h2,h3⟩ := h.kept k
 exact ⟨h1,h2,fun e => ⟨rfl,(h3 e).2⟩⟩
theorem SolJ.box {B bo : Nat} {vr : Value} {c : List RawI} {xs : List Value} {cur : Array Value} {d : RawI} {l0 l1 l2 : Bool} {w : World} (h : SolJ B bo vr c xs cur d l0 l1 l2 w) (hl : l0 = false ∨ l1 = false ∨ l2 = false) : w.heap[bo]? = some (.cells cur 33 (0,0)) := by
 cases l2
 ·exact h.2.1 rfl
 ·obtain ⟨e0, e1, -⟩ := h.2.2 rfl
  rcases hl with hl | hl | hl
  ·rw [e0] at hl;cases hl
  ·rw [e1] at hl;cases hl
  ·cases hl
theorem SolJ.did {B bo g0 : Nat} {vr : Value} {c : List RawI} {xs : List Value} {cur : Array Value} {d : RawI} {l0 l1 l2 : Bool} {w w' : World} (h : SolJ B bo vr c xs cur d l0 l1 l2 w) (hl : l1 = false) (hg : w.grownBy w' (some g0)) (hne : g0 ≠ bo) : SolJ B bo vr c xs cur d l0 true l2 w' := by
 obtain ⟨h1,h2,h3⟩ := h
 refine ⟨fun e => (by cases e),fun e => ?_,fun e => ?_⟩
 ·have hb := h2 e
  rw [hg.block bo (Array.getElem?_eq_some_iff.1 hb).1 (fun e => hne (Option.some.inj e).symm)]
  exact hb
 ·obtain ⟨-, e1, -⟩ := h3 e
  rw [hl] at e1
  cases e1
def RowJ (br o : Nat) (a : RawI) (l10 l14 l16 : Bool) (w : World) : Prop := (l10 = false → IvAt w br o a) ∧ (l14 = true → l10 = true) ∧ (l16 = true → l10 = true)
theorem RowJ.kept {br o : Nat} {a : RawI} {l10 l14 l16 : Bool} {w w' : World} (k : Kept w w') (h : RowJ br o a l10 l14 l16 w) : RowJ br o a l10 l14 l16 w' := ⟨fun e => (h.1 e).kept k,h.2⟩
theorem RowJ.seen {br o : Nat} {a : RawI} {l10 l14 l16 : Bool} {w w' : World} (_k : Kept w w') (_h : RowJ br o a l10 l14 l16 w) : RowJ br o a true l14 l16 w' := ⟨fun e => by (cases e),fun _ => rfl,fun _ => rfl⟩
theorem RowJ.also {br o : Nat} {a : RawI} {l10 l14 l16 : Bool} {w w' : World} (k : Kept w w') (h : RowJ br o a l10 l14 l16 w) (e : l10 = true) : RowJ br o a l10 true l16 w' := ⟨fun e => (h.1 e).kept k,fun _ => e,h.2.2⟩
theorem RowJ.done {br o : Nat} {a : RawI} {l10 l14 l16 : Bool} {w' : World} (e : l10 = true) : RowJ br o a l10 l14 l16 w' := ⟨fun e' => by (rw [e] at e';cases e'),fun _ => e,fun _ => e⟩
section
variable {w : World} {bo B : Nat} {cur : Array Value} {T : TypeId} {A : Option Addr} {n m : Nat} {v : Value} {l : List RawI} {xs : List Value} {r : RawI}
theorem kb_bo (hb : w.heap[bo]? = some (.cells cur T (0,0))) (hc : cur[0]? = some (.slice A n m)) (u : Value) : KB w [bo] (w.setCell ⟨bo,0,none⟩ u) :=
 (KB.refl w [bo]).setCell (by simp) (cell_of_block hb 0 _ hc) (noLimb_slice _ _ _) u
theorem ne_bo (hb : w.heap[bo]? = some (.cells cur T (0,0))) (hc : cur[0]? = some (.slice A n m)) {b : Nat} {x : Bool} (h : w.cell? ⟨b,0,none⟩ = some (.bool x)) : b ≠ bo := by
 rintro rfl
 rw [cell_of_block hb 0 _ hc] at h
 cases h
theorem OneI.setb (h : OneI w v r) (hb : w.heap[bo]? = some (.cells cur T (0,0))) (hc : cur[0]? = some (.slice A n m)) (u : Value) : OneI (w.setCell ⟨bo,0,none⟩ u) v r := by
 obtain ⟨b,x,y,z,x',y',z',e,h1,h2⟩ := h
 have k := kb_bo hb hc u
 obtain ⟨A1,l1,d1,A2,l2,d2,e9,-,-⟩ := ivR_split h2
 injection e9 with e9;injection e9 with e9
 simp only [List.cons.injEq,and_true] at e9
 obtain ⟨rfl,rfl,rfl,rfl,rfl,rfl⟩ := e9
 exact ⟨b,_,_,_,_,_,_,e,h1.kb k (by simpa using ne_bo hb hc (cell_of_block h1 0 _ rfl)),h2.kb k⟩
theorem OwnI.first (h : OwnI w B v l xs) (hl : 0 < l.length) : ∃ g c x,v = .slice (some ⟨g,0,none⟩) l.length c ∧ l.length ≤ c ∧ B ≤ g ∧ w.cell? ⟨g,0,none⟩ = some (.bool x) := by
 have hr := h.row
 rcases hr.2 with ⟨-,h0⟩ | ⟨g,cap,cr,rfl,hbg,hg,hnc,hcm,hcs,htake⟩
 ·omega
 ·obtain ⟨y, x, z, y', x', z', s0, -, -, -, -, -, hI⟩ := h.ivs 0 _ (List.getElem?_eq_getElem hl)
  obtain ⟨A1,l1,d1,A2,l2,d2,e9,-,-⟩ := ivR_split hI
  injection e9 with e9;injection e9 with e9
  simp only [List.cons.injEq,and_true] at e9
  obtain ⟨rfl,rfl,rfl,rfl,rfl,rfl⟩ := e9
  have := hr.cells (g := g) rfl 0 _ s0
  exact ⟨g,cap,_,rfl,hnc,hbg,by simpa [Addr.add] using this⟩
theorem OwnI.setb (h : OwnI w B v l xs) (hl : 0 < l.length) (hb : w.heap[bo]? = some (.cells cur T (0,0))) (hc : cur[0]? = some (.slice A n m)) (u : Value) : OwnI (w.setCell ⟨bo,0,none⟩ u) B v l xs := by
 obtain ⟨g,c,x,rfl,-,-,hx⟩ := h.first hl
 have hne := ne_bo hb hc hx
 have k := kb_bo hb hc u
 obtain ⟨h1,h2,h3,h4,h5⟩ := h
 have blk : ∀ o,w.heap[g]? = some o → (w.setCell ⟨bo,0,none⟩ u).heap[g]? = some o := fun o ho => (Below.heap_setCell _ _ _ _ hne).trans ho
 refine ⟨⟨h1.1,?_⟩,h2,h3,?_,?_⟩
 ·rcases h1.2 with hn | ⟨g2, cap, cr, e, hb2, hg2, rest⟩
  ·exact .inl hn
  ·injection e with e1 e2 e3
   injection e1 with e1
   injection e1 with e1 e4
   subst e1
   exact .inr ⟨g,cap,cr,by rw [← e3],hb2,blk _ hg2,rest⟩
 ·intro g2 hg2
  obtain rfl : g = g2 := by simpa [Value.ownBlock] using hg2
  obtain ⟨cr,e,q1,q2⟩ := h4 g rfl
  exact ⟨cr,e,blk _ q1,q2⟩
 ·intro i a hi
  obtain ⟨p0,p1,p2,p3,p4,p5,s0,s1,s2,s3,s4,s5,hI⟩ := h5 i a hi
  exact ⟨p0,p1,p2,p3,p4,p5,s0,s1,s2,s3,s4,s5,hI.kb k⟩
end
theorem SolJ.laid {B bo m n : Nat} {A : Option Addr} {vr v' : Value} {c : List RawI} {xs xs' : List Value} {cur : Array Value} {d : RawI} {l0 l1 l2 : Bool} {w : World} (_h : SolJ B bo vr c xs cur d l0 l1 l2 w) (h0 : l0 = true) (h1 : l1 = true) (hb : w.heap[bo]? = some (.cells cur 33 (0,0))) (hc : cur[0]? = some (.slice A n m)) (ho : OwnI w B v' (c ++ [d]) xs') :
 SolJ B bo vr c xs cur d l0 l1 true (w.setCell ⟨bo,0,none⟩ v') :=
 ⟨fun e => by (rw [h1] at e;cases e),fun e => by (cases e),fun _ => ⟨h0,h1,v',xs',block_setCell hb v',ho.setb (by simp) hb hc _⟩⟩
theorem OneI.app {w w' : World} {v : Value} {r : RawI} {row : Option Nat} (h : OneI w v r) (hg : w.grownBy w' row) (hN : ∀ g,row = some g → NoL w g) (hs : ∀ (b : Nat) (cs : Array Value) (T : TypeId),w.heap[b]? = some (.cells cs T (0,0)) → cs.size < 12 → w'.heap[b]? = some (.cells cs T (0,0))) : OneI w' v r := by
 obtain ⟨b,x,y,z,x',y',z',e,h1,h2⟩ := h
 exact ⟨b,x,y,z,x',y',z',e,hs _ _ _ h1 (by simp),h2.grown hg hN⟩
theorem solve1_c {S : Int → Prop} {ov : Iv → Nat → Outc Iv} {w : World} {bB bK bF bX bP bT bx ox cx k p : Nat} {s o : Value} {ls : List Ln} {outs : List Int} {a t : RawI} {x0 x1 x2 x3 x4 x5 t0 t1 t2 t3 t4 t5 : Value} {time c9 : List RawI} (O : OpsC S) (h9 : S 9)
 (hB : w.heap[bB]? = some (.cells #[.int .i64 (p : Int)] 3 (0,0))) (hK : w.heap[bK]? = some (.cells #[.int .i64 (k : Int)] 3 (0,0))) (hF : w.heap[bF]? = some (.cells #[s,o] 27 (0,0)))
 (hX : w.heap[bX]? = some (.cells #[.slice (some ⟨bx,ox,none⟩) 1 cx] 33 (0,0))) (hP : w.heap[bP]? = some (.cells #[.slice none 0 0] 33 (0,0))) (hTm : BlkI w bT t0 t1 t2 t3 t4 t5)
 (hx6 : Six w bx ox x0 x1 x2 x3 x4 x5) (hA : IvR w (.agg #[x0,x1,x2,x3,x4,x5]) a) (ga : a.iv.Ok ∧ a.iv.raw = a) (hI : IvR w (.agg #[t0,t1,t2,t3,t4,t5]) t) (gt : t.iv.Ok ∧ t.iv.raw = t)
 (hv : TpR w (.agg #[s,o]) ls outs) (hok : LnOk ls) (hn : ls.length ≤ 200) (ho1 : outs.length = 1) (hor : ∀ n ∈ outs,0 ≤ n ∧ n < (ls.length : Int)) (hw : withinJ k p = true) (hm : mayT ls outs 1 0 0 = true)
 (hL : ∀ n c,n < k → Gd c → c.length = n + 1 → ∀ i l,ls[i]? = some l → LinC false ov p n (time.take (n + 1)) [c] [] i l)
 (hT : Tab w) (hr : (roundI a.iv p).k = 0) (hst : stepsJ ov p ls outs time [] [[(roundI a.iv p).v.raw]] (List.range' 0 k) = ⟨[c9],0⟩) :
 Calls Tryz.prog 52 #[.pointer (some ⟨bB,0,none⟩),.pointer (some ⟨bK,0,none⟩),.pointer (some ⟨bF,0,none⟩),.pointer (some ⟨bX,0,none⟩),.pointer (some ⟨bP,0,none⟩),.pointer (some ⟨bT,0,none⟩)] w (GoesLL ⟨[c9],0⟩ w) := by
 have kp : k ≤ 12 ∧ 1 ≤ p ∧ p ≤ 300 := by
  unfold withinJ at hw
  simp only [Bool.and_eq_true,decide_eq_true_eq] at hw
  omega
 obtain ⟨k12,p1,p2⟩ := kp
 have WI := hid (fun w1 => show Calls Tryz.prog 54 #[.int .i64 (k : Int),.int .i64 (p : Int)] w1 (RetQ (.bool true) w1) by have := within_c w1 k p;rwa [hw] at this)
 have MT := hid (fun w1 (q : Kept w w1) => show Calls Tryz.prog 55 #[.agg #[s,o],.int .i64 1,.int .i64 0,.int .i64 0] w1 (RetK (.bool true) w1) by have := may_tc (hv.kept q) hok (by omega) (by omega) (x := 1) (u := 0) (p := 0) (by omega) (by omega) (by omega);rwa [hm] at this)
 have CLN := hid (fun w1 (q : Kept w w1) => show Calls Tryz.prog 57 #[.slice (some ⟨bx,ox,none⟩) 1 cx] w1 _ from
  iclone1_c (hx6.kept q).1 (hx6.kept q).2.1 (hx6.kept q).2.2.1 (hx6.kept q).2.2.2.1 (hx6.kept q).2.2.2.2.1 (hx6.kept q).2.2.2.2.2 (hA.kept q))
 have ma : mayI a = true := by rw [← ga.2];exact mayI_raw ga.1
 have mt : mayI t = true := by rw [← gt.2];exact mayI_raw gt.1
 have la : a.lens 17592186044416 := by rw [← ga.2];exact iv_lens ga.1
 have lt : t.lens 17592186044416 := by rw [← gt.2];exact iv_lens gt.1
 have F1 := hid (fun w1 (q : Kept w w1) v (h : Two2 w1 v [x0,x1,x2,x3,x4,x5,t0,t1,t2,t3,t4,t5]) => show Calls Tryz.prog 56 #[v,.int .i64 1] w1 (RetK (.bool true) w1) by
  have := full_c (k := 1) (h.rws (hA.kept q) (hI.kept q)) (by simp) (by
   intro r hr
   simp only [List.mem_singleton] at hr
   subst hr
   refine ⟨by simp,fun d hd => ?_⟩
   simp only [List.mem_cons,List.not_mem_nil,or_false] at hd
   rcases hd with rfl | rfl
   ·exact la
   ·exact lt) (by decide) (by decide)
  rwa [show fullJ [[a,t]] 1 = true by simp [fullJ,ma,mt]] at this)
 have F2 := hid (fun w1 v (h : NilB w1 v) => show Calls Tryz.prog 56 #[v,.int .i64 (-1)] w1 (RetK (.bool true) w1) by
  have := full_c (k := -1) h.rws (by decide) (by
   intro r hr
   simp only [List.mem_singleton] at hr
   subst hr
   exact ⟨by decide,fun d hd => by cases hd⟩) (by decide) (by decide)
  rwa [show fullJ [[]] (-1) = true from rfl] at this)
 obtain ⟨rr,hrr⟩ : ∃ rr,rr = roundI a.iv p := ⟨_,rfl⟩
 have rok : rr.v.Ok := by rw [hrr];exact (roundI_ok ga.1 p1).1
 rw [← hrr] at hr hst
 have RR := hid hrr
 have ROK := hid rok
 clear hrr rok
 have HV := hid hv
 have HI := hid hI
 have HA := hid hA
 have T := hid hT
 have GA := hid ga
 have HL := hid hL
 have HST := hid hst
 have HR := hid hr
 have HOR := hid hor
 have HX6 := hid hx6
 have OO := hid O
 obtain ⟨W,hW,kW,bW⟩ := boxw1 w p
 have HW := hid hW
 have K := hid kW
 have BW := hid bW
 have cB := cell_of_block hB 0 _ rfl
 have HB := hid (blk_kept hB kW)
 have HK := hid (blk_kept hK kW)
 have HF := hid (blk_kept hF kW)
 have HX := hid (blk_kept hX kW)
 have HP := hid (blk_kept hP kW)
 have HTB := hid (hTm.kept kW)
 have hv2 := hv
 obtain ⟨s',o',es,-,⟨oA,oc,rfl,-,-⟩⟩ := hv2
 obtain ⟨rfl,rfl⟩ : s = s' ∧ o = .slice oA outs.length oc := by
  injection es with es
  injection es with es
  simp only [List.cons.injEq,and_true] at es
  exact es
 have HO1 : Hid (∃ z,outs = [z]) := hid (by
  rcases outs with _ | ⟨z,_ | ⟨z',os⟩⟩
  ·simp at ho1
  ·exact ⟨z,rfl⟩
  ·simp at ho1)
 rw [ho1] at *
 have HIW := hid (hI.kept kW)
 clear hW kW bW hB hK hF hX hP hTm hv hok hw hm hI hA hT hL hst hr hor hx6 O ma mt la lt ga gt es
 go_enter Tryz.func52,Tryz.ntmps52
 go_upto_region 2 with fail
 rw [← HW.out]
 clear HW cB
 refine region_linX (m := 39) (J := fun L w => KB W [] w ∧ (fun L w' => True) L w) (l := [(vE (.int .i64 (k : Int))),(vE (.int .i64 (p : Int))),(vE (.bool true)),(vE (.bool true)),(vE (.agg #[s,.slice oA 1 oc])),(vE (.slice (some ⟨bx,ox,none⟩) 1 cx)),(vE (.int .i64 1)),(vE (.slice none 0 0)),(vE (.int .i64 0)),(vE (.bool true)),(vE (.bool true)),(vE (.bool true)),(vP bF 1),(vE (.slice oA 1 oc)),(vE (.int .i64 1)),(vE (.slice (some ⟨bx,ox,none⟩) 1 cx)),(vE (.int .i64 1)),(vE (.bool true)),(vE (.bool true)),(vE (.bool true)),(vE (.slice (some ⟨bx,ox,none⟩) 1 cx)),(fun v wv => OwnI wv W.heap.size v [a] [x0,x1,x2,x3,x4,x5]),(vE (.agg #[t0,t1,t2,t3,t4,t5])),(fun v wv => BoxI wv v t0 t1 t2 t3 t4 t5),(fun v wv => OwnI wv W.heap.size v [a,t] [x0,x1,x2,x3,x4,x5,t0,t1,t2,t3,t4,t5]),(fun v wv => Two2 wv v [x0,x1,x2,x3,x4,x5,t0,t1,t2,t3,t4,t5]),(vE (.slice (some ⟨bx,ox,none⟩) 1 cx)),(vE (.int .i64 1)),(vE (.bool true)),(vE (.bool true)),(vE (.bool true)),(vE (.slice none 0 0)),(fun v wv => NilB wv v),(vE (.slice none 0 0)),(vE (.int .i64 0)),(vE (.int .i64 (-1))),(vE (.bool true)),(vE (.bool true)),(vE (.tuple #[]))])
  (by kernel_rfl) rfl (by kernel_rfl) (by kernel_rfl) (by kernel_rfl) ⟨mE,mE,mE,mE,mE,mE,mE,mE,mE,mE,mE,mE,mE,mE,mE,mE,mE,mE,mE,mE,mE,fun v w w' k h => by first | exact h | exact h.kept k | exact ⟨h.1,h.2.kept k⟩,mE,fun v w w' k h => by first | exact h | exact h.kept k | exact ⟨h.1,h.2.kept k⟩,fun v w w' k h => by first | exact h | exact h.kept k | exact ⟨h.1,h.2.kept k⟩,fun v w w' k h => by first | exact h | exact h.kept k | exact ⟨h.1,h.2.kept k⟩,mE,mE,mE,mE,mE,mE,fun v w w' k h => by first | exact h | exact h.kept k | exact ⟨h.1,h.2.kept k⟩,mE,mE,mE,mE,mE,mE,trivial⟩ ⟨(KB.refl _ _).drew,trivial⟩ (⟨
    (fun LF aF wF F => by have FK : KB W [] wF := F.frame.1;have fj := F.frame.2;refine .inl ⟨fun wq kq => ⟨FK.step kq,by trivial⟩,?_⟩;have s1 : aF.tmps.getD 1 undef = (.pointer (some ⟨bK,0,none⟩)) := F.o 1;have c0 := cell_atX HK.out FK (by simp) 0 _ rfl;exact sv rfl),(fun LF aF wF F => by have FK : KB W [] wF := F.frame.1;have fj := F.frame.2;refine .inl ⟨fun wq kq => ⟨FK.step kq,by trivial⟩,?_⟩;have s0 : aF.tmps.getD 0 undef = (.pointer (some ⟨bB,0,none⟩)) := F.o 0;have c0 := cell_atX HB.out FK (by simp) 0 _ rfl;exact sv rfl),(fun LF aF wF F => by have FK : KB W [] wF := F.frame.1;have fj := F.frame.2;refine .inl ⟨fun wq kq => ⟨FK.step kq,by trivial⟩,?_⟩;have s20 := F.v 0 20;have s21 := F.v 1 21;exact sQ (WI.out _) fun _ _ h => h),(fun LF aF wF F => by have FK : KB W [] wF := F.frame.1;have fj := F.frame.2;refine .inl ⟨fun wq kq => ⟨FK.step kq,by trivial⟩,?_⟩;have s22 := F.v 2 22;exact sv rfl),(fun LF aF wF F => by have FK : KB W [] wF := F.frame.1;have fj := F.frame.2;refine .inl ⟨fun wq kq => ⟨FK.step kq,by trivial⟩,?_⟩;have s2 : aF.tmps.getD 2 undef = (.pointer (some ⟨bF,0,none⟩)) := F.o 2;have c0 := cell_atX HF.out FK (by simp) 0 _ rfl;have c1 := cell_atX HF.out FK (by simp) 1 _ rfl;have sg := F.v 3 23;exact step_val ((wanted_guard rfl rfl sg).trans rfl) (by go_simp) rfl),(fun LF aF wF F => by have FK : KB W [] wF := F.frame.1;have fj := F.frame.2;refine .inl ⟨fun wq kq => ⟨FK.step kq,by trivial⟩,?_⟩;have s3 : aF.tmps.getD 3 undef = (.pointer (some ⟨bX,0,none⟩)) := F.o 3;have c0 := cell_atX HX.out FK (by simp) 0 _ rfl;have sg := F.v 3 23;exact step_val ((wanted_guard rfl rfl sg).trans rfl) (by go_simp) rfl),(fun LF aF wF F => by have FK : KB W [] wF := F.frame.1;have fj := F.frame.2;refine .inl ⟨fun wq kq => ⟨FK.step kq,by trivial⟩,?_⟩;have s25 := F.v 5 25;have sg := F.v 3 23;exact step_val ((wanted_guard rfl rfl sg).trans rfl) (by go_simp) rfl),(fun LF aF wF F => by have FK : KB W [] wF := F.frame.1;have fj := F.frame.2;refine .inl ⟨fun wq kq => ⟨FK.step kq,by trivial⟩,?_⟩;have s4 : aF.tmps.getD 4 undef = (.pointer (some ⟨bP,0,none⟩)) := F.o 4;have c0 := cell_atX HP.out FK (by simp) 0 _ rfl;have sg := F.v 3 23;exact step_val ((wanted_guard rfl rfl sg).trans rfl) (by go_simp) rfl),(fun LF aF wF F => by have FK : KB W [] wF := F.frame.1;have fj := F.frame.2;refine .inl ⟨fun wq kq => ⟨FK.step kq,by trivial⟩,?_⟩;have s27 := F.v 7 27;have sg := F.v 3 23;exact step_val ((wanted_guard rfl rfl sg).trans rfl) (by go_simp) rfl),(fun LF aF wF F => by have FK : KB W [] wF := F.frame.1;have fj := F.frame.2;refine .inl ⟨fun wq kq => ⟨FK.step kq,by trivial⟩,?_⟩;have s24 := F.v 4 24;have s26 := F.v 6 26;have s28 := F.v 8 28;have sg := F.v 3 23;exact step_good ((wanted_guard rfl rfl sg).trans rfl) (by go_simp) (MT.out _ (K.out.trans FK.nil)) (fun _ _ h => RetK.good h) (fun _ _ h => h)),(fun LF aF wF F => by have FK : KB W [] wF := F.frame.1;have fj := F.frame.2;refine .inl ⟨fun wq kq => ⟨FK.step kq,by trivial⟩,?_⟩;have s23 := F.v 3 23;have s29 := F.v 9 29;exact sv rfl),(fun LF aF wF F => by have FK : KB W [] wF := F.frame.1;have fj := F.frame.2;refine .inl ⟨fun wq kq => ⟨FK.step kq,by trivial⟩,?_⟩;have s30 := F.v 10 30;exact sv rfl),(fun LF aF wF F => by have FK : KB W [] wF := F.frame.1;have fj := F.frame.2;refine .inl ⟨fun wq kq => ⟨FK.step kq,by trivial⟩,?_⟩;have s2 : aF.tmps.getD 2 undef = (.pointer (some ⟨bF,0,none⟩)) := F.o 2;have sg := F.v 11 31;exact step_val ((wanted_guard rfl rfl sg).trans rfl) (by go_simp) rfl),(fun LF aF wF F => by have FK : KB W [] wF := F.frame.1;have fj := F.frame.2;refine .inl ⟨fun wq kq => ⟨FK.step kq,by trivial⟩,?_⟩;have s32 := F.v 12 32;have c0 := cell_atX HF.out FK (by simp) 1 _ rfl;have sg := F.v 11 31;exact step_val ((wanted_guard rfl rfl sg).trans rfl) (by go_simp) rfl),(fun LF aF wF F => by have FK : KB W [] wF := F.frame.1;have fj := F.frame.2;refine .inl ⟨fun wq kq => ⟨FK.step kq,by trivial⟩,?_⟩;have s33 := F.v 13 33;have sg := F.v 11 31;exact step_val ((wanted_guard rfl rfl sg).trans rfl) (by go_simp) rfl),(fun LF aF wF F => by have FK : KB W [] wF := F.frame.1;have fj := F.frame.2;refine .inl ⟨fun wq kq => ⟨FK.step kq,by trivial⟩,?_⟩;have s3 : aF.tmps.getD 3 undef = (.pointer (some ⟨bX,0,none⟩)) := F.o 3;have c0 := cell_atX HX.out FK (by simp) 0 _ rfl;have sg := F.v 11 31;exact step_val ((wanted_guard rfl rfl sg).trans rfl) (by go_simp) rfl),(fun LF aF wF F => by have FK : KB W [] wF := F.frame.1;have fj := F.frame.2;refine .inl ⟨fun wq kq => ⟨FK.step kq,by trivial⟩,?_⟩;have s35 := F.v 15 35;have sg := F.v 11 31;exact step_val ((wanted_guard rfl rfl sg).trans rfl) (by go_simp) rfl),(fun LF aF wF F => by have FK : KB W [] wF := F.frame.1;have fj := F.frame.2;refine .inl ⟨fun wq kq => ⟨FK.step kq,by trivial⟩,?_⟩;have s34 := F.v 14 34;have s36 := F.v 16 36;have sg := F.v 11 31;exact step_val ((wanted_guard rfl rfl sg).trans rfl) (by go_simp) rfl),(fun LF aF wF F => by have FK : KB W [] wF := F.frame.1;have fj := F.frame.2;refine .inl ⟨fun wq kq => ⟨FK.step kq,by trivial⟩,?_⟩;have s31 := F.v 11 31;have s37 := F.v 17 37;exact sv rfl),(fun LF aF wF F => by have FK : KB W [] wF := F.frame.1;have fj := F.frame.2;refine .inl ⟨fun wq kq => ⟨FK.step kq,by trivial⟩,?_⟩;have s38 := F.v 18 38;exact sv rfl),(fun LF aF wF F => by have FK : KB W [] wF := F.frame.1;have fj := F.frame.2;refine .inl ⟨fun wq kq => ⟨FK.step kq,by trivial⟩,?_⟩;have s3 : aF.tmps.getD 3 undef = (.pointer (some ⟨bX,0,none⟩)) := F.o 3;have c0 := cell_atX HX.out FK (by simp) 0 _ rfl;have sg := F.v 19 39;exact step_val ((wanted_guard rfl rfl sg).trans rfl) (by go_simp) rfl),(fun LF aF wF F => by have FK : KB W [] wF := F.frame.1;have fj := F.frame.2;refine .inl ⟨fun wq kq => ⟨FK.step kq,by trivial⟩,?_⟩;have s40 := F.v 20 40;have sg := F.v 19 39;exact step_good ((wanted_guard rfl rfl sg).trans rfl) (by go_simp) (CLN.out _ (K.out.trans FK.nil)) (fun _ _ h => by obtain ⟨k9,v9,e9,o9⟩ := h;exact ⟨v9,e9,k9,o9.low FK.size⟩) (fun _ _ h => h)),(fun LF aF wF F => by have FK : KB W [] wF := F.frame.1;have fj := F.frame.2;refine .inl ⟨fun wq kq => ⟨FK.step kq,by trivial⟩,?_⟩;have s5 : aF.tmps.getD 5 undef = (.pointer (some ⟨bT,0,none⟩)) := F.o 5;have c0 := cell_atX HTB.out FK (by simp) 0 _ rfl;have c1 := cell_atX HTB.out FK (by simp) 1 _ rfl;have c2 := cell_atX HTB.out FK (by simp) 2 _ rfl;have c3 := cell_atX HTB.out FK (by simp) 3 _ rfl;have c4 := cell_atX HTB.out FK (by simp) 4 _ rfl;have c5 := cell_atX HTB.out FK (by simp) 5 _ rfl;have sg := F.v 19 39;exact step_val ((wanted_guard rfl rfl sg).trans rfl) (by go_simp) rfl),(fun LF aF wF F => by have FK : KB W [] wF := F.frame.1;have fj := F.frame.2;refine .inl ⟨fun wq kq => ⟨FK.step kq,by trivial⟩,?_⟩;have s42 := F.v 22 42;simp only [Array.getD_eq_getD_getElem?] at s42;have sg := F.v 19 39;exact step_new ((wanted_guard rfl rfl sg).trans rfl) (by first | (go_simp;done) | (go_simp;rfl)) (kept_alloc _ _) ⟨_,rfl,blkI_new _ _ _ _ _ _ _⟩),(fun LF aF wF F => by have FK : KB W [] wF := F.frame.1;have fj := F.frame.2;refine .inr ?_;have s41 := F.p 21 41;have s43 := F.p 23 43;have sg := F.v 19 39;obtain ⟨b3,e3,hb3⟩ := s43;obtain ⟨v',w',hrr,hoo,hgg,hsm,hhd,hss⟩ := app_iv 33 s41 (by simp) (by simp) FK.size hb3 (HIW.out.kb FK);exact stepG_set ((wanted_guard rfl rfl sg).trans rfl) (exec_appJ (.tmp 41) (.tmp 43) _ rfl rfl e3 hrr) ⟨FK.grown hgg (fun g hg' => .inr (s41.base g hg')) s41.blk,trivial⟩ (stab_of _ ⟨.inr vS,.inr vS,.inr vS,.inr vS,.inr vS,.inr vS,.inr vS,.inr vS,.inr vS,.inr vS,.inr vS,.inr vS,.inr vS,.inr vS,.inr vS,.inr vS,.inr vS,.inr vS,.inr vS,.inr vS,.inr vS,.inr (fun u h => by first | exact hss _ h | exact BoxI.stab h hsm | exact Two2.stab h hsm hhd | exact NilB.stab h hsm),.inr vS,.inr (fun u h => by first | exact hss _ h | exact BoxI.stab h hsm | exact Two2.stab h hsm hhd | exact NilB.stab h hsm),.inl rfl,.inr (fun u h => by first | exact hss _ h | exact BoxI.stab h hsm | exact Two2.stab h hsm hhd | exact NilB.stab h hsm),.inr vS,.inr vS,.inr vS,.inr vS,.inr vS,.inr vS,.inr (fun u h => by first | exact hss _ h | exact BoxI.stab h hsm | exact Two2.stab h hsm hhd | exact NilB.stab h hsm),.inr vS,.inr vS,.inr vS,.inr vS,.inr vS,.inr vS,trivial⟩) hoo),(fun LF aF wF F => by have FK : KB W [] wF := F.frame.1;have fj := F.frame.2;refine .inl ⟨fun wq kq => ⟨FK.step kq,by trivial⟩,?_⟩;have s44 := F.p 24 44;have sg := F.v 19 39;obtain ⟨g8,cap8,e8,hc8,hh8⟩ := s44.two;simp only [Array.getD_eq_getD_getElem?] at e8;exact step_new ((wanted_guard rfl rfl sg).trans rfl) (by first | (go_simp;done) | (go_simp;rfl)) (kept_alloc _ _) ⟨_,g8,cap8,rfl,heap_alloc_new _ _,hc8,fun j u hj => ((kept_alloc _ _).cell (p := ⟨g8,j,none⟩) (lt_of_cell (hh8 j u hj))).trans (hh8 j u hj)⟩),(fun LF aF wF F => by have FK : KB W [] wF := F.frame.1;have fj := F.frame.2;refine .inl ⟨fun wq kq => ⟨FK.step kq,by trivial⟩,?_⟩;have s3 : aF.tmps.getD 3 undef = (.pointer (some ⟨bX,0,none⟩)) := F.o 3;have c0 := cell_atX HX.out FK (by simp) 0 _ rfl;have sg := F.v 19 39;exact step_val ((wanted_guard rfl rfl sg).trans rfl) (by go_simp) rfl),(fun LF aF wF F => by have FK : KB W [] wF := F.frame.1;have fj := F.frame.2;refine .inl ⟨fun wq kq => ⟨FK.step kq,by trivial⟩,?_⟩;have s46 := F.v 26 46;have sg := F.v 19 39;exact step_val ((wanted_guard rfl rfl sg).trans rfl) (by go_simp) rfl),(fun LF aF wF F => by have FK : KB W [] wF := F.frame.1;have fj := F.frame.2;refine .inl ⟨fun wq kq => ⟨FK.step kq,by trivial⟩,?_⟩;have s45 := F.p 25 45;have s47 := F.v 27 47;have sg := F.v 19 39;exact step_good ((wanted_guard rfl rfl sg).trans rfl) (by go_simp) (F1.out _ (K.out.trans FK.nil) _ s45) (fun _ _ h => RetK.good h) (fun _ _ h => h)),(fun LF aF wF F => by have FK : KB W [] wF := F.frame.1;have fj := F.frame.2;refine .inl ⟨fun wq kq => ⟨FK.step kq,by trivial⟩,?_⟩;have s39 := F.v 19 39;have s48 := F.v 28 48;exact sv rfl),(fun LF aF wF F => by have FK : KB W [] wF := F.frame.1;have fj := F.frame.2;refine .inl ⟨fun wq kq => ⟨FK.step kq,by trivial⟩,?_⟩;have s49 := F.v 29 49;exact sv rfl),(fun LF aF wF F => by have FK : KB W [] wF := F.frame.1;have fj := F.frame.2;refine .inl ⟨fun wq kq => ⟨FK.step kq,by trivial⟩,?_⟩;have s4 : aF.tmps.getD 4 undef = (.pointer (some ⟨bP,0,none⟩)) := F.o 4;have c0 := cell_atX HP.out FK (by simp) 0 _ rfl;have sg := F.v 30 50;exact step_val ((wanted_guard rfl rfl sg).trans rfl) (by go_simp) rfl),(fun LF aF wF F => by have FK : KB W [] wF := F.frame.1;have fj := F.frame.2;refine .inl ⟨fun wq kq => ⟨FK.step kq,by trivial⟩,?_⟩;have s51 := F.v 31 51;simp only [Array.getD_eq_getD_getElem?] at s51;have sg := F.v 30 50;exact step_new ((wanted_guard rfl rfl sg).trans rfl) (by first | (go_simp;done) | (go_simp;rfl)) (kept_alloc _ _) ⟨_,rfl,heap_alloc_new _ _⟩),(fun LF aF wF F => by have FK : KB W [] wF := F.frame.1;have fj := F.frame.2;refine .inl ⟨fun wq kq => ⟨FK.step kq,by trivial⟩,?_⟩;have s4 : aF.tmps.getD 4 undef = (.pointer (some ⟨bP,0,none⟩)) := F.o 4;have c0 := cell_atX HP.out FK (by simp) 0 _ rfl;have sg := F.v 30 50;exact step_val ((wanted_guard rfl rfl sg).trans rfl) (by go_simp) rfl),(fun LF aF wF F => by have FK : KB W [] wF := F.frame.1;have fj := F.frame.2;refine .inl ⟨fun wq kq => ⟨FK.step kq,by trivial⟩,?_⟩;have s53 := F.v 33 53;have sg := F.v 30 50;exact step_val ((wanted_guard rfl rfl sg).trans rfl) (by go_simp) rfl),(fun LF aF wF F => by have FK : KB W [] wF := F.frame.1;have fj := F.frame.2;refine .inl ⟨fun wq kq => ⟨FK.step kq,by trivial⟩,?_⟩;have s54 := F.v 34 54;have sg := F.v 30 50;exact step_val ((wanted_guard rfl rfl sg).trans rfl) (by (go_simp;decide)) rfl),(fun LF aF wF F => by have FK : KB W [] wF := F.frame.1;have fj := F.frame.2;refine .inl ⟨fun wq kq => ⟨FK.step kq,by trivial⟩,?_⟩;have s52 := F.p 32 52;have s55 := F.v 35 55;have sg := F.v 30 50;exact step_good ((wanted_guard rfl rfl sg).trans rfl) (by go_simp) (F2.out _ _ s52) (fun _ _ h => RetK.good h) (fun _ _ h => h)),(fun LF aF wF F => by have FK : KB W [] wF := F.frame.1;have fj := F.frame.2;refine .inl ⟨fun wq kq => ⟨FK.step kq,by trivial⟩,?_⟩;have s50 := F.v 30 50;have s56 := F.v 36 56;exact sv rfl),(fun LF aF wF F => by have FK : KB W [] wF := F.frame.1;have fj := F.frame.2;refine .inl ⟨fun wq kq => ⟨FK.step kq,by trivial⟩,?_⟩;have s57 := F.v 37 57;exact sK (must_trueJ 1 _) fun _ _ h => h),
    trivial⟩) ?_
 intro u w2 L1 hL j1 hu
 obtain ⟨q,j1⟩ := j1
 have p41 := hp hu 21
 have p43 := hp hu 23
 have p44 := hp hu 24
 have p45 := hp hu 25
 have p52 := hp hu 32
 simp only [puts,slotOf,if_true,Act.put,z1,z2,z3,z4,z5,z6,z7,hv hu 0,hv hu 1,hv hu 2,hv hu 3,hv hu 4,hv hu 5,hv hu 6,hv hu 7,hv hu 8,hv hu 9,hv hu 10,hv hu 11,hv hu 12,hv hu 13,hv hu 14,hv hu 15,hv hu 16,hv hu 17,hv hu 18,hv hu 19,hv hu 20,hv hu 22,hv hu 26,hv hu 27,hv hu 28,hv hu 29,hv hu 30,hv hu 31,hv hu 33,hv hu 34,hv hu 35,hv hu 36,hv hu 37,hv hu 38]
 clear hu
 generalize u 21 = v41 at *
 generalize u 23 = v43 at *
 generalize u 24 = v44 at *
 generalize u 25 = v45 at *
 generalize u 32 = v52 at *
 clear p41 p43 p44 p45 p52
 have K2 := hid (K.out.trans q.nil)
 replace BW := hid (blk_kept BW.out q.nil)
 replace HB := hid (blk_kept HB.out q.nil)
 replace HK := hid (blk_kept HK.out q.nil)
 replace HF := hid (blk_kept HF.out q.nil)
 replace HX := hid (blk_kept HX.out q.nil)
 replace HP := hid (blk_kept HP.out q.nil)
 replace HTB := hid (HTB.out.kept q.nil)
 have CO := hid (fun w1 (q : Kept w w1) => constant_c (k := k) (HI.out.kept q) (by omega))
 have PT := hid (fun w1 (q : Kept w w1) n (hn : n < 1000) => jpoint_c (n := n) (by omega) (T.out.kept q))
 have CR := hid (fun w1 (q : Kept w w1) => show Calls Tryz.prog 61 #[.agg #[x0,x1,x2,x3,x4,x5],.int .i64 (p : Int)] w1 (RetIE (rawO rr) w1) by rw [RR.out];exact iround_c (show IvC w1 _ a.iv by unfold IvC;rw [GA.out.2];exact HA.out.kept q) GA.out.1 (T.out.kept q) p1 (by omega))
 have hAo := HA.out
 clear q K HIW WI MT CLN F1 F2 HI HA GA
 obtain ⟨A1,l1,q1,A2,l2,q2,ei,-,-⟩ := ivR_split hAo
 injection ei with ei;injection ei with ei
 simp only [List.cons.injEq,and_true] at ei
 obtain ⟨rfl,rfl,rfl,rfl,rfl,rfl⟩ := ei
 clear hAo
 generalize a.lo.neg = zz1 at *
 generalize a.lo.e = zz2 at *
 generalize a.hi.neg = zz3 at *
 generalize a.hi.e = zz4 at *
 generalize hb7 : w.heap.size = b7 at *
 obtain ⟨-,m0,m1,m2,m3,m4,m5⟩ := HTB.out.facts
 have ck := cell_of_block HK.out 0 _ rfl
 go_wp2_with fail
 refine (CO.out _ K2.out).mono ?_
 rintro e w3 ⟨q3,v3,ys,rfl,-,how⟩
 rcases how.2 with ⟨-,h0⟩ | ⟨gt,ct,cur,rfl,hgt,hcur,hnc,hcm,hcs,-⟩
 ·omega
 have CUR := hid hcur
 have GT := hid hgt
 have K3 := hid q3
 have HCS := hid hcs
 have HNC := hid hnc
 clear how hcur hgt q3 m0 m1 m2 m3 m4 m5 ck hcs hnc hcm CO
 simp only []
 have ck := cell_of_block (blk_kept HK.out K3.out) 0 _ rfl
 go_upto_if 63 with fail
 go_cut [] (fun wx => Kept w2 wx)
 case first =>
  go_wp2_with fail
  ·have hlt' : 0 < k := by omega
   have hs4 : 12 ≤ cur.size := by have := HCS.out;have := HNC.out;omega
   have HS4 := hid hs4
   clear hlt' hs4 ck
   refine (show Calls Tryz.prog 59 #[.int .i64 1] w3 _ from PT.out _ (K2.out.trans K3.out) 1 (by decide)).mono ?_
   rintro e w4 ⟨q4,v4,rfl,hv4⟩
   obtain ⟨P1,l1,d1,P2,l2,d2,rfl,-,-⟩ := ivR_split hv4
   have c4 := blk_kept CUR.out q4
   obtain ⟨y0,n0⟩ : ∃ y,w4.cell? ⟨gt,6,none⟩ = some y := ⟨_,cell_of_block c4 6 _ (Array.getElem?_eq_getElem (by have := HS4.out;omega))⟩
   obtain ⟨y1,n1⟩ : ∃ y,w4.cell? ⟨gt,7,none⟩ = some y := ⟨_,cell_of_block c4 7 _ (Array.getElem?_eq_getElem (by have := HS4.out;omega))⟩
   obtain ⟨y2,n2⟩ : ∃ y,w4.cell? ⟨gt,8,none⟩ = some y := ⟨_,cell_of_block c4 8 _ (Array.getElem?_eq_getElem (by have := HS4.out;omega))⟩
   obtain ⟨y3,n3⟩ : ∃ y,w4.cell? ⟨gt,9,none⟩ = some y := ⟨_,cell_of_block c4 9 _ (Array.getElem?_eq_getElem (by have := HS4.out;omega))⟩
   obtain ⟨y4,n4⟩ : ∃ y,w4.cell? ⟨gt,10,none⟩ = some y := ⟨_,cell_of_block c4 10 _ (Array.getElem?_eq_getElem (by have := HS4.out;omega))⟩
   obtain ⟨y5,n5⟩ : ∃ y,w4.cell? ⟨gt,11,none⟩ = some y := ⟨_,cell_of_block c4 11 _ (Array.getElem?_eq_getElem (by have := HS4.out;omega))⟩
   have f0 := free_of_block c4 6
   have f1 := free_of_block c4 7
   have f2 := free_of_block c4 8
   have f3 := free_of_block c4 9
   have f4 := free_of_block c4 10
   have f5 := free_of_block c4 11
   have K4 := hid (K3.out.trans q4)
   clear c4 hv4 q4
   simp only []
   go_wp2_with fail
   go_meet
   exact ((((((K4.out.setCell (p := ⟨gt,6,none⟩) GT.out _).setCell (p := ⟨gt,7,none⟩) GT.out _).setCell (p := ⟨gt,8,none⟩) GT.out _).setCell (p := ⟨gt,9,none⟩) GT.out _).setCell (p := ⟨gt,10,none⟩) GT.out _).setCell (p := ⟨gt,11,none⟩) GT.out _)
  ·go_meet
   exact K3.out
 have KC := hid hcut
 clear hcut ck CUR K3 HCS GT
 replace K2 := hid (K2.out.trans KC.out)
 replace BW := hid (blk_kept BW.out KC.out)
 replace HB := hid (blk_kept HB.out KC.out)
 replace HK := hid (blk_kept HK.out KC.out)
 replace HF := hid (blk_kept HF.out KC.out)
 replace HX := hid (blk_kept HX.out KC.out)
 replace HP := hid (blk_kept HP.out KC.out)
 clear HTB KC
 generalize w2.heap.size = h2' at *
 have cx0 := cell_of_block HX.out 0 _ rfl
 go_upto_region 8 with fail
 refine wp_loop_rounds 2 ?_
 rw [rounds_succ]
 clear cx0
 obtain ⟨g0,g1,g2,g3,g4,g5⟩ := HX6.out.kept K2.out
 obtain ⟨V5,hV5,kV5,bV5⟩ := boxi1 wc (.bool zz1) (.slice A1 l1 q1) (.int .i64 zz2) (.bool zz3) (.slice A2 l2 q2) (.int .i64 zz4)
 have HV5 := hid hV5
 have K5 := hid kV5
 have B5 := hid bV5
 clear hV5 kV5 bV5
 go_upto_region 10 with fail
 rw [← HV5.out]
 clear HV5 g0 g1 g2 g3 g4 g5
 obtain ⟨-,m0,m1,m2,m3,m4,m5⟩ := B5.out.facts
 have cp := cell_of_block (blk_kept HB.out K5.out) 0 _ rfl
 go_wp2_with fail
 refine (CR.out _ (K2.out.trans K5.out)).mono ?_
 rintro e w6 ⟨q6,v6,rfl,hv6⟩
 obtain ⟨P6,l6,d6,R6,i6,j6,rfl,-,-⟩ := ivR_split hv6
 have SU := hid (fun w1 (q : Kept w6 w1) => sure_cJ (o := rr) (hv6.kept q))
 have K6 := hid (K5.out.trans q6)
 clear m0 m1 m2 m3 m4 m5 cp B5 K5 CR hv6 q6
 simp only []
 go_wp2_with fail
 refine (SU.out _ (Below.refl _ _)).mono ?_
 rintro e w7 ⟨q7,hq7⟩
 rcases hq7 with ⟨-,v7,rfl,hv7⟩ | ⟨h0,-⟩
 case inr => exact absurd HR.out h0
 obtain ⟨P7,l7,d7,R7,i7,j7,rfl,-,-⟩ := ivR_split hv7
 obtain ⟨w9,hw9⟩ : ∃ w9,w9 = (w7.alloc (.cells #[.bool rr.v.raw.lo.neg,.slice P7 l7 d7,.int .i64 rr.v.raw.lo.e,.bool rr.v.raw.hi.neg,.slice R7 i7 j7,.int .i64 rr.v.raw.hi.e] 32)).alloc (.cells #[.slice (some ⟨w7.heap.size,0,none⟩) 1 1] 33) := ⟨_,rfl⟩
 have k9 : Kept w7 w9 := by rw [hw9];exact (kept_alloc _ _).trans (kept_alloc _ _)
 have o9 : OwnI w9 w7.heap.size (.slice (some ⟨w7.heap.size,0,none⟩) 1 1) [rr.v.raw] [.bool rr.v.raw.lo.neg,.slice P7 l7 d7,.int .i64 rr.v.raw.lo.e,.bool rr.v.raw.hi.neg,.slice R7 i7 j7,.int .i64 rr.v.raw.hi.e] := by rw [hw9];exact (ownI_new hv7).kept (kept_alloc _ _)
 have c9' : w9.cell? ⟨w7.heap.size + 1,0,none⟩ = some (.slice (some ⟨w7.heap.size,0,none⟩) 1 1) := by
  have := cell_of_block (heap_alloc_new (w7.alloc (.cells #[.bool rr.v.raw.lo.neg,.slice P7 l7 d7,.int .i64 rr.v.raw.lo.e,.bool rr.v.raw.hi.neg,.slice R7 i7 j7,.int .i64 rr.v.raw.hi.e] 32)) (.cells #[.slice (some ⟨w7.heap.size,0,none⟩) 1 1] 33)) 0 _ rfl
  rw [← hw9] at this
  simpa using this
 have HW9 := hid hw9
 have K9 := hid k9
 have O9 := hid o9
 have C9 := hid c9'
 have K7 := hid (K6.out.trans q7)
 have S9 := k9.size
 clear hw9 k9 o9 c9' q7 SU K6 hv7
 simp only []
 go_wp2_with (at_builtin;rw [← HW9.out];refine wpList_append_r rfl (.tmp 73) (.tmp 81) rfl rfl (OwnR.nil w9 w7.heap.size) O9.out.ivS C9.out rfl (by simp) S9 ?_;intro v' X OX gX)
 have k10 := (OwnR.nil w9 w9.heap.size).grown_kept (Below.refl _ _) gX
 rcases OX.row.2 with ⟨-,h0⟩ | ⟨bo,co,curo,rfl,hbo,hob,hnco,-,-,htk⟩
 ·simp at h0
 have htk' : curo[0]? = some (.slice (some ⟨w7.heap.size,0,none⟩) 1 1) := by
  have h := congrArg (fun l => l[0]?) htk
  simp only [List.getElem?_take] at h
  rw [← Array.getElem?_toList]
  simpa using h
 have K11 := hid (K9.out.trans k10)
 have HOB := hid hob
 have HTK := hid htk'
 have OWN := hid (O9.out.kept k10)
 have HBO := hid hbo
 have HNCO := hid hnco
 have KW := hid (K2.out.trans K7.out)
 clear OX gX k10 hbo hob hnco htk htk' HW9 K9 O9 C9 S9
 go_wp2_with fail
 rw [rounds_succ]
 have ck := cell_of_block (blk_kept HK.out (K7.out.trans K11.out)) 0 _ rfl
 replace BW := hid (blk_kept BW.out K7.out)
 replace HF := hid (blk_kept HF.out K7.out)
 replace HP := hid (blk_kept HP.out K7.out)
 clear HK K7 K2 HB HX
 go_wp2_with fail
 clear ck
 go_loopw [85] (fun tn wr => ∃ (n : Nat) (c : List RawI) (xs : List Value) (vr : Value) (cr : Array Value),tn = .int .i64 n ∧ n ≤ k ∧ c.length = n + 1 ∧ Gd c ∧ stepsJ ov p ls outs time [] [c] (List.range' n (k - n)) = ⟨[c9],0⟩ ∧
  wr.heap[bo]? = some (.cells cr 33 (0,0)) ∧ cr[0]? = some vr ∧ OwnI wr w7.heap.size vr c xs ∧ Kept w7 wr) (fun tn _ => (k - intOf tn).toNat)
 case atStart => exact ⟨0,_,_,_,curo,rfl,Nat.zero_le _,rfl,gd_nil.snoc ROK.out,HST.out,HOB.out,HTK.out,OWN.out,K11.out⟩
 case round =>
  obtain ⟨n,c,xs,vr,cr,rfl,hnk,hcl,hgd,hsj,hob,hcr,hown,hkr⟩ := hrel
  by_cases hlt : n < k
  ·obtain ⟨m, hm⟩ : ∃ m, k - n = m + 1 := ⟨k - n - 1, by omega⟩
   rw [hm] at hsj
   obtain ⟨r,e1,e2,e3⟩ := stepsJ_one (by obtain ⟨z,hz⟩ := HO1.out;rw [hz];rfl) hsj
   obtain ⟨od,hod⟩ : ∃ od,od = divI (gI r n) (ptN (n + 1)) p := ⟨_,rfl⟩
   rw [← hod] at e2 e3
   have hlin := HL.out n c hlt hgd hcl
   have hgr := seriesJ_gd hlin HOR.out (by rw [e1])
   rw [e1] at hgr
   obtain ⟨gr,lr⟩ := hgr r (by simp)
   obtain ⟨g0,cap0,xb,rfl,hcap,hg0,hxb⟩ := hown.first (by omega)
   rw [hcl] at hcap hown hcr
   have hrw : Rws wr (.slice (some ⟨bo,0,none⟩) 1 co) [c] := ⟨_,co,rfl,HNCO.out,fun _ => ⟨bo,0,rfl,fun i y hi => by
    rcases i with _ | i
    ·obtain rfl : c = y := by simpa using hi
     exact ⟨_,cell_of_block hob 0 _ hcr,hown.ivS⟩
    ·simp at hi⟩⟩
   have CS := hid (fun w1 (q : Kept wr w1) => show Calls Tryz.prog 62 #[.agg #[.int .i64 (p : Int)],.agg #[s,.slice oA 1 oc],.slice (some ⟨gt,0,none⟩) (n + 1) ct,.slice (some ⟨bo,0,none⟩) 1 co,.slice none 0 0,.int .i64 (n : Int)] w1 (GoesLL ⟨[r],0⟩ w1) by
    have h := series_c (tm := false) (ov := ov) (vs := .slice (some ⟨gt,0,none⟩) (n + 1) ct) (vq := .slice none 0 0) (t := time.take (n + 1)) (k := n) (p := p) (HV.out.kept (KW.out.trans (hkr.trans q))) (fun h => by cases h) (hrw.kept q) (rws_nil _) hlin HOR.out hn (by obtain ⟨z,hz⟩ := HO1.out;rw [hz];simp) (by omega) (T.out.kept (KW.out.trans (hkr.trans q)))
    rwa [e1] at h)
   have CP := hid (fun w1 (q : Kept w w1) => show Calls Tryz.prog 59 #[.int .i64 ((n : Int) + 1)] w1 (RetI (ptN (n + 1)).raw w1) from PT.out w1 q (n + 1) (by omega))
   have CD := hid (fun w1 (q : Kept w w1) va vb (h1 : IvR w1 va (gI r n).raw) (h2 : IvR w1 vb (ptN (n + 1)).raw) => show Calls Tryz.prog 63 #[.agg #[.int .i64 (p : Int)],va,vb] w1 (GoesI od w1) by
    rw [hod]
    exact wdiv_c OO.out h9 h1 h2 (gI_ok gr n) (pt_ok (fitD_ok _ _ _).1) (T.out.kept q) p1 (by omega))
   have OD := hid e2
   have dok : od.v.Ok := by rw [hod];exact (divI_ok (pt_ok (fitD_ok _ _ _).1) p1).1
   have E3 := hid e3
   have GC := hid (hgd.snoc dok)
   have CLN := hid hcl
   have KR := hid hkr
   have HOB := hid hob
   have HCR := hid hcr
   have OWN := hid hown
   have HCAP := hid hcap
   have HG0 := hid hg0
   have HM := hid hm
   have GR := hid gr
   have LR := hid lr
   have NB := hid (ne_bo hob hcr hxb)
   have BWr := hid (blk_kept BW.out hkr)
   have HFr := hid (blk_kept HF.out hkr)
   have cp4 := cell_of_block (blk_kept HP.out hkr) 0 _ rfl
   have hnc : n + 1 ≤ ct := by have := HNC.out;omega
   have HLT := hid hlt
   have HWN : Hid (IntKind.i64.wrap ((n : Int) + 1) = (n : Int) + 1) := hid (by simp [IntKind.wrap_i64];omega)
   clear e1 e2 e3 hod hsj hgd hcl hob hcr hown hkr hlin gr lr hcap hg0 hxb hrw dok hm hlt HST
   go_upto_region 17 with fail
   refine wp_loop_rounds 1 ?_
   rw [rounds_succ]
   clear cp4
   go_wp2_with fail
   refine region_lin (m := 12) (V := VL [(vE (.agg #[.int .i64 (p : Int)])),(vE (.agg #[s,.slice oA 1 oc])),(vE (.slice (some ⟨gt,0,none⟩) (k + 1) ct)),(vE (.int .i64 (n : Int))),(vE (.int .i64 ((n : Int) + 1))),(vE (.slice (some ⟨gt,0,none⟩) (n + 1) ct)),(vE (.slice (some ⟨bo,0,none⟩) 1 co)),(vE (.slice none 0 0)),(vE (.int .i64 (n : Int))),(fun v wv => Rws wv v [r]),(vE (.int .i64 1)),(vE (.int .i64 0))])
    (by kernel_rfl) rfl (by kernel_rfl) (by kernel_rfl) (by kernel_rfl) (mono_of _ ⟨mE,mE,mE,mE,mE,mE,mE,mE,mE,fun v w w' k h => by first | exact h | exact h.kept k | exact ⟨h.1,h.2.kept k⟩,mE,mE,trivial⟩) (steps_of ⟨
      (fun aF wF F => by have s7 : aF.tmps.getD 7 undef = (.pointer (some ⟨b7,0,none⟩)) := F.o 7;have c0 := cell_at BWr.out F.kept 0 _ rfl;exact sv rfl),(fun aF wF F => by have s2 : aF.tmps.getD 2 undef = (.pointer (some ⟨bF,0,none⟩)) := F.o 2;have c0 := cell_at HFr.out F.kept 0 _ rfl;have c1 := cell_at HFr.out F.kept 1 _ rfl;exact sv rfl),(fun aF wF F => by have s10 : aF.tmps.getD 10 undef = (.slice (some ⟨gt,0,none⟩) (k + 1) ct) := F.o 10;exact sv rfl),(fun aF wF F => by have s13 : aF.tmps.getD 13 undef = (.int .i64 (n : Int)) := F.o 13;exact sv rfl),(fun aF wF F => by have s104 := F.v 3 104;exact sw (by (have hw9 := HWN.out;go_simp)) rfl),(fun aF wF F => by have s103 := F.v 2 103;have s105 := F.v 4 105;exact sw (by (go_simp;omega)) rfl),(fun aF wF F => by have s8 : aF.tmps.getD 8 undef = (.slice (some ⟨bo,0,none⟩) 1 co) := F.o 8;exact sv rfl),(fun aF wF F => by have s9 : aF.tmps.getD 9 undef = (.slice none 0 0) := F.o 9;exact sv rfl),(fun aF wF F => by have s13 : aF.tmps.getD 13 undef = (.int .i64 (n : Int)) := F.o 13;exact sv rfl),(fun aF wF F => by have s101 := F.v 0 101;have s102 := F.v 1 102;have s106 := F.v 5 106;have s107 := F.v 6 107;have s108 := F.v 7 108;have s109 := F.v 8 109;exact step_call (by simp [Region.wanted]) (by go_simp) (CS.out _ F.kept) (fun e w2 h => by obtain ⟨k9,h9⟩ := h;rcases h9 with ⟨-,v9,e9,r9,-⟩ | ⟨h9,-⟩;exact .inl ⟨v9,e9,k9,r9⟩;exact absurd rfl h9)),(fun aF wF F => by have s110 := F.p 9 110;exact sw (by obtain ⟨A9,c9',e9,-⟩ := s110;go_simp) rfl),(fun aF wF F => by exact sv rfl),
      trivial⟩) ?_
   intro u w11 k11 hu
   have p110 := hp hu 9
   simp only [puts,slotOf,if_true,Act.put,z1,z2,z3,z4,z5,z6,z7,hv hu 0,hv hu 1,hv hu 2,hv hu 3,hv hu 4,hv hu 5,hv hu 6,hv hu 7,hv hu 8,hv hu 10,hv hu 11]
   clear hu
   generalize u 9 = v110 at *
   obtain ⟨b12,o12,c12,s12,rfl,-,cell12,hs12⟩ := p110.row (i := 0) (by simp)
   obtain ⟨br,orr,crr,rfl,-,hRG⟩ := (show IvS w11 s12 r from hs12).place GR.out (by have := LR.out;omega)
   have RG := hid hRG
   have K11' := hid k11
   have C12 := hid cell12
   clear hs12 hRG cell12 p110 CS HFr
   have NB7 : b7 ∉ [bo,g0] := by
    have h7 := (Array.getElem?_eq_some_iff.1 BW.out).1
    have := HBO.out
    have := HG0.out
    simp only [List.mem_cons,List.not_mem_nil,or_false]
    omega
   have XLE : ∀ x ∈ [bo,g0],w7.heap.size ≤ x := by
    intro x hx
    simp only [List.mem_cons,List.not_mem_nil,or_false] at hx
    have := HBO.out
    have := HG0.out
    omega
   have KW11 := hid (KW.out.trans (KR.out.trans K11'.out))
   have XLE' := hid (fun x (hx : x ∈ [bo,g0]) => Nat.le_trans KW.out.size (XLE x hx))
   have hc12 := C12.out
   simp only [Nat.add_zero] at hc12
   have hcn : c.length ≤ 1000 ∧ 0 < c.length := by have := CLN.out;have := HLT.out;omega
   have HCN := hid hcn
   have LRN := hid (show n < r.length by have := LR.out;omega)
   have SZ11 := hid (show w7.heap.size ≤ w11.heap.size from (KR.out.trans K11'.out).size)
   have HB11 := hid (blk_kept HOB.out K11'.out)
   have BW11 := hid (blk_kept BWr.out K11'.out)
   have OW11 := hid (OWN.out.kept K11'.out)
   clear C12 hcn
   go_upto_region 22 with fail
   refine wp_loop_rounds 2 ?_
   rw [rounds_succ]
   go_wp2_with fail
   clear hc12
   refine region_linX (m := 19) (J := fun L w => KB w11 [bo,g0] w ∧ (fun L w' => SolJ w7.heap.size bo (.slice (some ⟨g0,0,none⟩) (n + 1) cap0) c xs cr od.v.raw (L 5) (L 16) (L 18) w' ∧ RowJ br (orr + n * 6) (gI r n).raw (L 10) (L 14) (L 16) w') L w) (l := [(vE (.slice (some ⟨bo,0,none⟩) 1 co)),(vE (.int .i64 0)),(vE (.slice (some ⟨bo,0,none⟩) 1 co)),(vE (.int .i64 0)),(vP bo 0),(vE (.slice (some ⟨g0,0,none⟩) (n + 1) cap0)),(vE (.agg #[.int .i64 (p : Int)])),(vE (.slice (some ⟨br,orr,none⟩) r.length crr)),(vE (.int .i64 (n : Int))),(vE (.pointer (some ⟨br,orr + n * 6,none⟩))),(fun v wv => IvR wv v ((gI r n).raw)),(vE (.int .i64 (n : Int))),(vE (.int .i64 ((n : Int) + 1))),(fun v wv => IvR wv v ((ptN (n + 1)).raw)),(fun v wv => od.k = 0 ∧ IvR wv v od.v.raw),(fun v wv => OneI wv v od.v.raw),(fun v wv => ∃ xs',OwnI wv w7.heap.size v (c ++ [od.v.raw]) xs'),(vP bo 0),(fun v _ => True)])
    (by kernel_rfl) rfl (by kernel_rfl) (by kernel_rfl) (by kernel_rfl) ⟨mE,mE,mE,mE,mE,mE,mE,mE,mE,mE,fun v w w' k h => by first | exact h | exact h.kept k | exact ⟨h.1,h.2.kept k⟩,mE,mE,fun v w w' k h => by first | exact h | exact h.kept k | exact ⟨h.1,h.2.kept k⟩,fun v w w' k h => ⟨h.1,h.2.kept k⟩,fun v w w' k h => h.kept k,fun v w w' k h => h.imp fun _ h => h.kept k,mE,fun v w w' k h => by first | exact h | exact h.kept k | exact ⟨h.1,h.2.kept k⟩,trivial⟩ ⟨(KB.refl _ _).drew,(by exact ⟨⟨fun _ => OW11.out.kept (Below.refl _ _).drew,fun _ => HB11.out,fun h => (by cases h)⟩,⟨fun _ => (RG.out _ (Below.refl _ _) n LRN.out).kept (Below.refl _ _).drew,fun h => (by cases h),fun h => (by cases h)⟩⟩)⟩ (⟨
      (fun LF aF wF F => by have FK : KB w11 [bo,g0] wF := F.frame.1;have fj := F.frame.2;refine .inl ⟨fun wq kq => ⟨FK.step kq,by first | exact ⟨SolJ.kept kq fj.1,RowJ.kept kq fj.2⟩ | exact ⟨SolJ.seen kq fj.1,RowJ.kept kq fj.2⟩ | exact ⟨SolJ.kept kq fj.1,RowJ.seen kq fj.2⟩ | exact ⟨SolJ.kept kq fj.1,RowJ.also kq fj.2 (F.wait 10 (by kernel_rfl))⟩⟩,?_⟩;have s8 : aF.tmps.getD 8 undef = (.slice (some ⟨bo,0,none⟩) 1 co) := F.o 8;exact sv rfl),(fun LF aF wF F => by have FK : KB w11 [bo,g0] wF := F.frame.1;have fj := F.frame.2;refine .inl ⟨fun wq kq => ⟨FK.step kq,by first | exact ⟨SolJ.kept kq fj.1,RowJ.kept kq fj.2⟩ | exact ⟨SolJ.seen kq fj.1,RowJ.kept kq fj.2⟩ | exact ⟨SolJ.kept kq fj.1,RowJ.seen kq fj.2⟩ | exact ⟨SolJ.kept kq fj.1,RowJ.also kq fj.2 (F.wait 10 (by kernel_rfl))⟩⟩,?_⟩;have s16 : aF.tmps.getD 16 undef = (.int .i64 0) := F.o 16;exact sv rfl),(fun LF aF wF F => by have FK : KB w11 [bo,g0] wF := F.frame.1;have fj := F.frame.2;refine .inl ⟨fun wq kq => ⟨FK.step kq,by first | exact ⟨SolJ.kept kq fj.1,RowJ.kept kq fj.2⟩ | exact ⟨SolJ.seen kq fj.1,RowJ.kept kq fj.2⟩ | exact ⟨SolJ.kept kq fj.1,RowJ.seen kq fj.2⟩ | exact ⟨SolJ.kept kq fj.1,RowJ.also kq fj.2 (F.wait 10 (by kernel_rfl))⟩⟩,?_⟩;have s8 : aF.tmps.getD 8 undef = (.slice (some ⟨bo,0,none⟩) 1 co) := F.o 8;exact sv rfl),(fun LF aF wF F => by have FK : KB w11 [bo,g0] wF := F.frame.1;have fj := F.frame.2;refine .inl ⟨fun wq kq => ⟨FK.step kq,by first | exact ⟨SolJ.kept kq fj.1,RowJ.kept kq fj.2⟩ | exact ⟨SolJ.seen kq fj.1,RowJ.kept kq fj.2⟩ | exact ⟨SolJ.kept kq fj.1,RowJ.seen kq fj.2⟩ | exact ⟨SolJ.kept kq fj.1,RowJ.also kq fj.2 (F.wait 10 (by kernel_rfl))⟩⟩,?_⟩;have s16 : aF.tmps.getD 16 undef = (.int .i64 0) := F.o 16;exact sv rfl),(fun LF aF wF F => by have FK : KB w11 [bo,g0] wF := F.frame.1;have fj := F.frame.2;refine .inl ⟨fun wq kq => ⟨FK.step kq,by first | exact ⟨SolJ.kept kq fj.1,RowJ.kept kq fj.2⟩ | exact ⟨SolJ.seen kq fj.1,RowJ.kept kq fj.2⟩ | exact ⟨SolJ.kept kq fj.1,RowJ.seen kq fj.2⟩ | exact ⟨SolJ.kept kq fj.1,RowJ.also kq fj.2 (F.wait 10 (by kernel_rfl))⟩⟩,?_⟩;have s119 := F.v 2 119;have s120 := F.v 3 120;exact sv rfl),(fun LF aF wF F => by have FK : KB w11 [bo,g0] wF := F.frame.1;have fj := F.frame.2;refine .inl ⟨fun wq kq => ⟨FK.step kq,by first | exact ⟨SolJ.kept kq fj.1,RowJ.kept kq fj.2⟩ | exact ⟨SolJ.seen kq fj.1,RowJ.kept kq fj.2⟩ | exact ⟨SolJ.kept kq fj.1,RowJ.seen kq fj.2⟩ | exact ⟨SolJ.kept kq fj.1,RowJ.also kq fj.2 (F.wait 10 (by kernel_rfl))⟩⟩,?_⟩;have s121 := F.v 4 121;exact sw (by (have hb := fj.1.box (.inl F.yet);have c0 := cell_of_block hb 0 _ HCR.out;go_simp)) rfl),(fun LF aF wF F => by have FK : KB w11 [bo,g0] wF := F.frame.1;have fj := F.frame.2;refine .inl ⟨fun wq kq => ⟨FK.step kq,by first | exact ⟨SolJ.kept kq fj.1,RowJ.kept kq fj.2⟩ | exact ⟨SolJ.seen kq fj.1,RowJ.kept kq fj.2⟩ | exact ⟨SolJ.kept kq fj.1,RowJ.seen kq fj.2⟩ | exact ⟨SolJ.kept kq fj.1,RowJ.also kq fj.2 (F.wait 10 (by kernel_rfl))⟩⟩,?_⟩;have s7 : aF.tmps.getD 7 undef = (.pointer (some ⟨b7,0,none⟩)) := F.o 7;have c0 := cell_atX BW11.out FK NB7 0 _ rfl;exact sv rfl),(fun LF aF wF F => by have FK : KB w11 [bo,g0] wF := F.frame.1;have fj := F.frame.2;refine .inl ⟨fun wq kq => ⟨FK.step kq,by first | exact ⟨SolJ.kept kq fj.1,RowJ.kept kq fj.2⟩ | exact ⟨SolJ.seen kq fj.1,RowJ.kept kq fj.2⟩ | exact ⟨SolJ.kept kq fj.1,RowJ.seen kq fj.2⟩ | exact ⟨SolJ.kept kq fj.1,RowJ.also kq fj.2 (F.wait 10 (by kernel_rfl))⟩⟩,?_⟩;have s17 : aF.tmps.getD 17 undef = (.slice (some ⟨br,orr,none⟩) r.length crr) := F.o 17;exact sv rfl),(fun LF aF wF F => by have FK : KB w11 [bo,g0] wF := F.frame.1;have fj := F.frame.2;refine .inl ⟨fun wq kq => ⟨FK.step kq,by first | exact ⟨SolJ.kept kq fj.1,RowJ.kept kq fj.2⟩ | exact ⟨SolJ.seen kq fj.1,RowJ.kept kq fj.2⟩ | exact ⟨SolJ.kept kq fj.1,RowJ.seen kq fj.2⟩ | exact ⟨SolJ.kept kq fj.1,RowJ.also kq fj.2 (F.wait 10 (by kernel_rfl))⟩⟩,?_⟩;have s13 : aF.tmps.getD 13 undef = (.int .i64 (n : Int)) := F.o 13;exact sv rfl),(fun LF aF wF F => by have FK : KB w11 [bo,g0] wF := F.frame.1;have fj := F.frame.2;refine .inl ⟨fun wq kq => ⟨FK.step kq,by first | exact ⟨SolJ.kept kq fj.1,RowJ.kept kq fj.2⟩ | exact ⟨SolJ.seen kq fj.1,RowJ.kept kq fj.2⟩ | exact ⟨SolJ.kept kq fj.1,RowJ.seen kq fj.2⟩ | exact ⟨SolJ.kept kq fj.1,RowJ.also kq fj.2 (F.wait 10 (by kernel_rfl))⟩⟩,?_⟩;have s124 := F.v 7 124;have s125 := F.v 8 125;exact sw (by (have hln := LRN.out;go_simp)) rfl),(fun LF aF wF F => by have FK : KB w11 [bo,g0] wF := F.frame.1;have fj := F.frame.2;refine .inl ⟨fun wq kq => ⟨FK.step kq,by first | exact ⟨SolJ.kept kq fj.1,RowJ.kept kq fj.2⟩ | exact ⟨SolJ.seen kq fj.1,RowJ.kept kq fj.2⟩ | exact ⟨SolJ.kept kq fj.1,RowJ.seen kq fj.2⟩ | exact ⟨SolJ.kept kq fj.1,RowJ.also kq fj.2 (F.wait 10 (by kernel_rfl))⟩⟩,?_⟩;have s126 := F.v 9 126;obtain ⟨xx,yy,zz,xx',yy',zz',h0,h1,h2,h3,h4,h5,hI⟩ := (fj.2.1 F.yet);exact step_val (by simp [Region.wanted]) (by go_simp) hI),(fun LF aF wF F => by have FK : KB w11 [bo,g0] wF := F.frame.1;have fj := F.frame.2;refine .inl ⟨fun wq kq => ⟨FK.step kq,by first | exact ⟨SolJ.kept kq fj.1,RowJ.kept kq fj.2⟩ | exact ⟨SolJ.seen kq fj.1,RowJ.kept kq fj.2⟩ | exact ⟨SolJ.kept kq fj.1,RowJ.seen kq fj.2⟩ | exact ⟨SolJ.kept kq fj.1,RowJ.also kq fj.2 (F.wait 10 (by kernel_rfl))⟩⟩,?_⟩;have s13 : aF.tmps.getD 13 undef = (.int .i64 (n : Int)) := F.o 13;exact sv rfl),(fun LF aF wF F => by have FK : KB w11 [bo,g0] wF := F.frame.1;have fj := F.frame.2;refine .inl ⟨fun wq kq => ⟨FK.step kq,by first | exact ⟨SolJ.kept kq fj.1,RowJ.kept kq fj.2⟩ | exact ⟨SolJ.seen kq fj.1,RowJ.kept kq fj.2⟩ | exact ⟨SolJ.kept kq fj.1,RowJ.seen kq fj.2⟩ | exact ⟨SolJ.kept kq fj.1,RowJ.also kq fj.2 (F.wait 10 (by kernel_rfl))⟩⟩,?_⟩;have s128 := F.v 11 128;exact sw (by (have hw9 := HWN.out;go_simp)) rfl),(fun LF aF wF F => by have FK : KB w11 [bo,g0] wF := F.frame.1;have fj := F.frame.2;refine .inl ⟨fun wq kq => ⟨FK.step kq,by first | exact ⟨SolJ.kept kq fj.1,RowJ.kept kq fj.2⟩ | exact ⟨SolJ.seen kq fj.1,RowJ.kept kq fj.2⟩ | exact ⟨SolJ.kept kq fj.1,RowJ.seen kq fj.2⟩ | exact ⟨SolJ.kept kq fj.1,RowJ.also kq fj.2 (F.wait 10 (by kernel_rfl))⟩⟩,?_⟩;have s129 := F.v 12 129;exact sI (CP.out _ (KB.kept KW11.out FK XLE'.out)) fun _ _ h => h),(fun LF aF wF F => by have FK : KB w11 [bo,g0] wF := F.frame.1;have fj := F.frame.2;refine .inl ⟨fun wq kq => ⟨FK.step kq,by first | exact ⟨SolJ.kept kq fj.1,RowJ.kept kq fj.2⟩ | exact ⟨SolJ.seen kq fj.1,RowJ.kept kq fj.2⟩ | exact ⟨SolJ.kept kq fj.1,RowJ.seen kq fj.2⟩ | exact ⟨SolJ.kept kq fj.1,RowJ.also kq fj.2 (F.wait 10 (by kernel_rfl))⟩⟩,?_⟩;have s123 := F.v 6 123;have s127 := F.p 10 127;have s130 := F.p 13 130;exact sJ (CD.out _ (KB.kept KW11.out FK XLE'.out) _ _ s127 s130) (fun _ _ _ h0 h => ⟨h0,h⟩) (fun w2 k2 h0 => ⟨F.defers,absurd OD.out h0⟩)),(fun LF aF wF F => by have FK : KB w11 [bo,g0] wF := F.frame.1;have fj := F.frame.2;refine .inl ⟨fun wq kq => ⟨FK.step kq,by first | exact ⟨SolJ.kept kq fj.1,RowJ.kept kq fj.2⟩ | exact ⟨SolJ.seen kq fj.1,RowJ.kept kq fj.2⟩ | exact ⟨SolJ.kept kq fj.1,RowJ.seen kq fj.2⟩ | exact ⟨SolJ.kept kq fj.1,RowJ.also kq fj.2 (F.wait 10 (by kernel_rfl))⟩⟩,?_⟩;have s131 := F.p 14 131;obtain ⟨A1,l1,d1,A2,l2,d2,e9,h9',g9⟩ := ivR_split s131.2;simp only [Array.getD_eq_getD_getElem?] at e9;exact step_new (by simp [Region.wanted]) (by first | (go_simp;done) | (go_simp;rfl)) (kept_alloc _ _) (oneI_new (r := od.v.raw) ⟨_,_,_,_,_,_,rfl,h9',g9⟩)),(fun LF aF wF F => by have FK : KB w11 [bo,g0] wF := F.frame.1;have fj := F.frame.2;refine .inr ?_;have s122 := F.v 5 122;have s132 := F.p 15 132;obtain ⟨b3,y0,y1,y2,y3,y4,y5,e3,hb3,hd3⟩ := s132;have how := fj.1.1 F.yet;obtain ⟨v',w',hrr,hoo,hgg,hsm,hhd,hss⟩ := app_iv 33 how HCN.out.2 HCN.out.1 (Nat.le_trans SZ11.out FK.size) hb3 hd3;exact stepG_set (by simp [Region.wanted]) (exec_appJ (.tmp 122) (.tmp 132) _ rfl s122 e3 hrr) ⟨FK.grown hgg (fun g hg' => .inl (by cases hg';simp)) how.blk,SolJ.did fj.1 F.yet hgg NB.out,RowJ.done (fj.2.2.1 (F.wait 14 (by kernel_rfl)))⟩ (stab_of _ ⟨.inr vS,.inr vS,.inr vS,.inr vS,.inr vS,.inr vS,.inr vS,.inr vS,.inr vS,.inr vS,.inr (fun u h => by first | exact h.grown hgg how.blk | exact ⟨h.1,h.2.grown hgg how.blk⟩ | exact OneI.app h hgg how.blk hsm),.inr vS,.inr vS,.inr (fun u h => by first | exact h.grown hgg how.blk | exact ⟨h.1,h.2.grown hgg how.blk⟩ | exact OneI.app h hgg how.blk hsm),.inr (fun u h => by first | exact h.grown hgg how.blk | exact ⟨h.1,h.2.grown hgg how.blk⟩ | exact OneI.app h hgg how.blk hsm),.inr (fun u h => by first | exact h.grown hgg how.blk | exact ⟨h.1,h.2.grown hgg how.blk⟩ | exact OneI.app h hgg how.blk hsm),.inl rfl,.inr vS,.inr (fun u h => h),trivial⟩) ⟨_,hoo⟩),(fun LF aF wF F => by have FK : KB w11 [bo,g0] wF := F.frame.1;have fj := F.frame.2;refine .inl ⟨fun wq kq => ⟨FK.step kq,by first | exact ⟨SolJ.kept kq fj.1,RowJ.kept kq fj.2⟩ | exact ⟨SolJ.seen kq fj.1,RowJ.kept kq fj.2⟩ | exact ⟨SolJ.kept kq fj.1,RowJ.seen kq fj.2⟩ | exact ⟨SolJ.kept kq fj.1,RowJ.also kq fj.2 (F.wait 10 (by kernel_rfl))⟩⟩,?_⟩;have s117 := F.v 0 117;have s118 := F.v 1 118;exact sv rfl),(fun LF aF wF F => by have FK : KB w11 [bo,g0] wF := F.frame.1;have fj := F.frame.2;refine .inr ?_;have s133 := F.p 16 133;have s134 := F.v 17 134;obtain ⟨xs',ho8⟩ := s133;obtain ⟨g8,c8,x8,e8,-,-,-⟩ := ho8.first (by simp);rw [e8] at ho8;simp only [Array.getD_eq_getD_getElem?] at e8;have hb := fj.1.box (.inr (.inr F.yet));have cb := cell_of_block hb 0 _ HCR.out;have fb := free_of_block hb 0;exact stepG_store (w' := wF.setCell ⟨bo,0,none⟩ (.slice (some ⟨g8,0,none⟩) (c ++ [od.v.raw]).length c8)) (by simp [Region.wanted]) (by go_simp) ⟨FK.trans (kb_bo hb HCR.out _) (by simp),SolJ.laid fj.1 (F.wait 5 (by kernel_rfl)) (F.wait 16 (by kernel_rfl)) hb HCR.out ho8,RowJ.done (fj.2.2.2 (F.wait 16 (by kernel_rfl)))⟩ (stab_of _ ⟨.inr vS,.inr vS,.inr vS,.inr vS,.inr vS,.inr vS,.inr vS,.inr vS,.inr vS,.inr vS,.inr (fun u h => by first | exact h.kb (kb_bo hb HCR.out _) | exact ⟨h.1,h.2.kb (kb_bo hb HCR.out _)⟩ | exact OneI.setb h hb HCR.out _ | exact h.imp fun _ h => OwnI.setb h (by simp) hb HCR.out _),.inr vS,.inr vS,.inr (fun u h => by first | exact h.kb (kb_bo hb HCR.out _) | exact ⟨h.1,h.2.kb (kb_bo hb HCR.out _)⟩ | exact OneI.setb h hb HCR.out _ | exact h.imp fun _ h => OwnI.setb h (by simp) hb HCR.out _),.inr (fun u h => by first | exact h.kb (kb_bo hb HCR.out _) | exact ⟨h.1,h.2.kb (kb_bo hb HCR.out _)⟩ | exact OneI.setb h hb HCR.out _ | exact h.imp fun _ h => OwnI.setb h (by simp) hb HCR.out _),.inr (fun u h => by first | exact h.kb (kb_bo hb HCR.out _) | exact ⟨h.1,h.2.kb (kb_bo hb HCR.out _)⟩ | exact OneI.setb h hb HCR.out _ | exact h.imp fun _ h => OwnI.setb h (by simp) hb HCR.out _),.inr (fun u h => by first | exact h.kb (kb_bo hb HCR.out _) | exact ⟨h.1,h.2.kb (kb_bo hb HCR.out _)⟩ | exact OneI.setb h hb HCR.out _ | exact h.imp fun _ h => OwnI.setb h (by simp) hb HCR.out _),.inr vS,.inl rfl,trivial⟩) trivial),
      trivial⟩) ?_
   intro u w12 L1 hL j1 hu
   obtain ⟨q12,j1⟩ := j1
   have p127 := hp hu 10
   have p130 := hp hu 13
   have p131 := hp hu 14
   have p132 := hp hu 15
   have p133 := hp hu 16
   simp only [puts,slotOf,if_true,Act.put,z1,z2,z3,z4,z5,z6,z7,hv hu 0,hv hu 1,hv hu 2,hv hu 3,hv hu 4,hv hu 5,hv hu 6,hv hu 7,hv hu 8,hv hu 9,hv hu 11,hv hu 12,hv hu 17]
   clear hu
   generalize u 10 = v127 at *
   generalize u 13 = v130 at *
   generalize u 14 = v131 at *
   generalize u 15 = v132 at *
   generalize u 16 = v133 at *
   obtain ⟨hl5,hl16,v9,xs9,hob9,hown9⟩ := j1.1.2.2 (hL 18 (by decide))
   have K12 := hid (KB.kept (KR.out.trans K11'.out) q12 XLE)
   have HOB9 := hid hob9
   have OWN9 := hid hown9
   clear hob9 hown9 j1 q12 p127 p130 p131 p132 p133 CP CD
   go_wp2_with fail
   rw [rounds_succ]
   go_wp2_with fail
   go_roundw
   case rel =>
    (repeat apply Exists.intro)
    refine ⟨?_,rfl⟩
    refine ⟨n + 1,c ++ [od.v.raw],xs9,v9,_,by go_num,HLT.out,by simp [CLN.out],GC.out,?_,HOB9.out,?_,OWN9.out,K12.out⟩
    ·rw [show k - (n + 1) = m by have := HM.out;omega];exact E3.out
    ·obtain ⟨h0, -⟩ := Array.getElem?_eq_some_iff.1 HCR.out
     simp [h0]
   case measure => simp [intOf];have := HLT.out;omega
  ·obtain rfl : n = k := by omega
   rw [Nat.sub_self] at hsj
   obtain rfl : c = c9 := by
    have h : (⟨[c],0⟩ : Outc (List (List RawI))) = ⟨[c9],0⟩ := hsj
    injection h with h
    injection h
   have hrw : Rws wr (.slice (some ⟨bo,0,none⟩) 1 co) [c] := ⟨_,co,rfl,HNCO.out,fun _ => ⟨bo,0,rfl,fun i y hi => by
    rcases i with _ | i
    ·obtain rfl : c = y := by simpa using hi
     exact ⟨_,cell_of_block hob 0 _ hcr,hown.ivS⟩
    ·simp at hi⟩⟩
   have FI := hid (show GoesLL ⟨[c],0⟩ w (.returned (.slice (some ⟨bo,0,none⟩) 1 co)) wr from ⟨KW.out.trans hkr,.inl ⟨rfl,_,rfl,hrw,fun g hg => by
    obtain rfl : bo = g := by simpa [Value.ownBlock] using hg
    exact Nat.le_trans KW.out.size HBO.out⟩⟩)
   clear hrw hob hcr hown hkr hsj
   go_wp2_with fail
   go_ret
   exact FI.out
end Go.Proofs.YtgododcbmkpbjaaGreatDoor
