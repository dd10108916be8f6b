/- A region that draws its order, whatever its operations do to memory; G tells what is so of what some of them have yielded. -/
import Derived.Test.YtgododcbmkpbjaaGreatDoorClaimJrulp17
import Derived.Test.YtgododcbmkpbjaaGreatDoorClaimJrulp18
import Derived.Test.YtgododcbmkpbjaaGreatDoorClaimJrulp21
import Derived.Test.YtgododcbmkpbjaaGreatDoorClaimJrulp22
import Derived.Test.YtgododcbmkpbjaaGreatDoorClaimJrulp29
import Derived.Test.YtgododcbmkpbjaaGreatDoorClaimJrulp31
set_option maxRecDepth 100000
set_option maxHeartbeats 16000000
namespace Go.Proofs.YtgododcbmkpbjaaGreatDoor
open Go.Lib (hid)
open Go.RowKit
def LnAt (w : World) (b o : Nat) (l : Ln) : Prop := w.cell? ⟨b,o,none⟩ = some (.int .i64 l.op) ∧ w.cell? ⟨b,o + 1,none⟩ = some (.int .i64 l.a) ∧ w.cell? ⟨b,o + 2,none⟩ = some (.int .i64 l.b) ∧ IvAt w b (o + 3) l.k
def LnS (w : World) (v : Value) (ls : List Ln) : Prop := ∃ A c,v = .slice A ls.length c ∧ ls.length ≤ c ∧ (0 < ls.length → ∃ b off,A = some ⟨b,off,none⟩ ∧ ∀ i l,ls[i]? = some l → LnAt w b (off + i * 9) l)
def InS (w : World) (v : Value) (ns : List Int) : Prop := ∃ A c,v = .slice A ns.length c ∧ ns.length ≤ c ∧ (0 < ns.length → ∃ b off,A = some ⟨b,off,none⟩ ∧ ∀ i n,ns[i]? = some n → w.cell? ⟨b,off + i,none⟩ = some (.int .i64 n))
theorem LnAt.kept {w w' : World} {b o : Nat} {l : Ln} (h : LnAt w b o l) (k : Kept w w') : LnAt w' b o l := by
 obtain ⟨h0,h1,h2,h3⟩ := h
 have hb := lt_of_cell h0
 exact ⟨(k.cell (p := ⟨b,o,none⟩) hb).trans h0,(k.cell (p := ⟨b,o + 1,none⟩) hb).trans h1,(k.cell (p := ⟨b,o + 2,none⟩) hb).trans h2,h3.kept k⟩
theorem LnS.kept {w w' : World} {v : Value} {l : List Ln} (h : LnS w v l) (k : Kept w w') : LnS w' v l := by
 obtain ⟨A,c,rfl,hc,hA⟩ := h
 refine ⟨A,c,rfl,hc,fun h0 => ?_⟩
 obtain ⟨b,off,rfl,hd⟩ := hA h0
 exact ⟨b,off,rfl,fun i d hi => (hd i d hi).kept k⟩
theorem InS.kept {w w' : World} {v : Value} {l : List Int} (h : InS w v l) (k : Kept w w') : InS w' v l := by
 obtain ⟨A,c,rfl,hc,hA⟩ := h
 refine ⟨A,c,rfl,hc,fun h0 => ?_⟩
 obtain ⟨b,off,rfl,hd⟩ := hA h0
 exact ⟨b,off,rfl,fun i d hi => (k.cell (p := ⟨b,off + i,none⟩) (lt_of_cell (hd i d hi))).trans (hd i d hi)⟩
def TpR (w : World) (v : Value) (ls : List Ln) (outs : List Int) : Prop := ∃ s o,v = .agg #[s,o] ∧ LnS w s ls ∧ InS w o outs
def EnR (w : World) (v : Value) (e : En) : Prop := ∃ x y z x' y' z' sx su sp,v = .agg #[x,y,z,x',y',z',sx,su,sp] ∧ IvR w (.agg #[x,y,z,x',y',z']) e.t ∧ IvS w sx e.x ∧ IvS w su e.u ∧ IvS w sp e.p
theorem TpR.kept {w w' : World} {v : Value} {ls : List Ln} {outs : List Int} (h : TpR w v ls outs) (k : Kept w w') : TpR w' v ls outs := by
 obtain ⟨s,o,rfl,h1,h2⟩ := h
 exact ⟨s,o,rfl,h1.kept k,h2.kept k⟩
theorem EnR.kept {w w' : World} {v : Value} {e : En} (h : EnR w v e) (k : Kept w w') : EnR w' v e := by
 obtain ⟨x,y,z,x',y',z',sx,su,sp,rfl,h1,h2,h3,h4⟩ := h
 exact ⟨x,y,z,x',y',z',sx,su,sp,rfl,h1.kept k,h2.kept k,h3.kept k,h4.kept k⟩
theorem IvR.cells {w : World} {x y z x' y' z' : Value} {a : RawI} (h : IvR w (.agg #[x,y,z,x',y',z']) a) : ∀ u ∈ [x,y,z,x',y',z'],NoLimb u ∧ u.oneCell' = true := by
 obtain ⟨A,l,c,A',l',c',e,-,-⟩ := ivR_split h
 injection e with e;injection e with e
 simp only [List.cons.injEq,and_true] at e
 obtain ⟨rfl,rfl,rfl,rfl,rfl,rfl⟩ := e
 intro u hu
 simp at hu
 rcases hu with rfl | rfl | rfl | rfl | rfl | rfl
 ·exact ⟨noLimb_bool _,rfl⟩
 ·exact ⟨noLimb_slice _ _ _,rfl⟩
 ·exact ⟨noLimb_i64 _,rfl⟩
 ·exact ⟨noLimb_bool _,rfl⟩
 ·exact ⟨noLimb_slice _ _ _,rfl⟩
 ·exact ⟨noLimb_i64 _,rfl⟩
theorem IvR.grown {w w' : World} {v : Value} {a : RawI} {row : Option Nat} (h : IvR w v a) (hg : w.grownBy w' row) (hN : ∀ g,row = some g → NoL w g) : IvR w' v a := by
 obtain ⟨x,y,z,x',y',z',rfl,h1,h2⟩ := h
 exact ⟨x,y,z,x',y',z',rfl,h1.grown hg hN,h2.grown hg hN⟩
structure OwnI (w : World) (base : Nat) (v : Value) (l : List RawI) (xs : List Value) : Prop where
 row : w.ownsRow base 32 6 v l.length xs
 nl : ∀ u ∈ xs,NoLimb u
 one : ∀ u ∈ xs,u.oneCell' = true
 blk : ∀ g,v.ownBlock = some g → NoL w g
 ivs : ∀ i a,l[i]? = some a → ∃ x y z x' y' z',xs[i * 6]? = some x ∧ xs[i * 6 + 1]? = some y ∧ xs[i * 6 + 2]? = some z ∧ xs[i * 6 + 3]? = some x' ∧ xs[i * 6 + 4]? = some y' ∧ xs[i * 6 + 5]? = some z' ∧ IvR w (.agg #[x,y,z,x',y',z']) a
theorem OwnI.nil (w : World) (base : Nat) : OwnI w base (.slice none 0 0) [] [] :=
 ⟨World.ownsRow_nil _ _ _ _,by simp,by simp,(by intro g h;simp [Value.ownBlock] at h),by simp⟩
theorem OwnI.kept {w w' : World} {base : Nat} {v : Value} {l : List RawI} {xs : List Value} (h : OwnI w base v l xs) (k : Kept w w') : OwnI w' base v l xs := by
 obtain ⟨h1,h2,h2',h3,h4⟩ := h
 refine ⟨⟨h1.1,?_⟩,h2,h2',?_,?_⟩
 ·rcases h1.2 with hn | ⟨g, cap, cur, rfl, hb, hg, rest⟩
  ·exact .inl hn
  ·exact .inr ⟨g,cap,cur,rfl,hb,(k.block g (Array.getElem?_eq_some_iff.1 hg).1).trans hg,rest⟩
 ·intro g hg
  have := h3 g hg
  obtain ⟨cur,e,q1,q2⟩ := this
  exact ⟨cur,e,(k.block g (Array.getElem?_eq_some_iff.1 q1).1).trans q1,q2⟩
 ·intro i d hi
  obtain ⟨x,y,z,x',y',z',a0,a1,a2,a3,a4,a5,hd⟩ := h4 i d hi
  exact ⟨x,y,z,x',y',z',a0,a1,a2,a3,a4,a5,hd.kept k⟩
theorem OwnI.ivS {w : World} {base : Nat} {v : Value} {l : List RawI} {xs : List Value} (h : OwnI w base v l xs) : IvS w v l := by
 obtain ⟨h1,h2,h2',h3,h4⟩ := h
 have hc := h1.2
 rcases hc with ⟨rfl,h0⟩ | ⟨g,cap,cur,rfl,hb,hg,hn,-⟩
 ·obtain rfl : l = [] := List.eq_nil_of_length_eq_zero h0
  exact ⟨none,0,rfl,Nat.le_refl _,fun h => absurd h (by simp)⟩
 ·refine ⟨_, cap, rfl, hn, fun _ => ⟨g, 0, rfl, fun i d hi => ?_⟩⟩
  obtain ⟨x,y,z,x',y',z',a0,a1,a2,a3,a4,a5,hd⟩ := h4 i d hi
  have cl := h1.cells (g := g) rfl
  have ad : ∀ j,(⟨g,0,none⟩ : Addr).add j = ⟨g,j,none⟩ := by intro j;unfold Addr.add;split <;> simp_all
  refine ⟨x,y,z,x',y',z',?_,?_,?_,?_,?_,?_,hd⟩
  ·have := cl _ _ a0;rw [ad] at this;simpa using this
  ·have := cl _ _ a1;rw [ad] at this;simpa using this
  ·have := cl _ _ a2;rw [ad] at this;simpa using this
  ·have := cl _ _ a3;rw [ad] at this;simpa using this
  ·have := cl _ _ a4;rw [ad] at this;simpa using this
  ·have := cl _ _ a5;rw [ad] at this;simpa using this
theorem OwnI.snoc {w w' : World} {base : Nat} {v v' : Value} {l : List RawI} {xs : List Value} {a : RawI} {x y z x' y' z' : Value} {g' : Nat} (h : OwnI w base v l xs)
 (hd : IvR w (.agg #[x,y,z,x',y',z']) a)
 (hr : w'.ownsRow base 32 6 v' (l.length + 1) (xs ++ [x,y,z,x',y',z'])) (hg : w.grownBy w' v.ownBlock) (hv' : v'.ownBlock = some g') (hN : NoL w' g') :
 OwnI w' base v' (l ++ [a]) (xs ++ [x,y,z,x',y',z']) := by
 have hcl := hd.cells
 obtain ⟨h1,h2,h2',h3,h4⟩ := h
 refine ⟨by simpa using hr,?_,?_,?_,?_⟩
 ·intro u hu
  rcases List.mem_append.1 hu with hu | hu
  ·exact h2 u hu
  ·exact (hcl u hu).1
 ·intro u hu
  rcases List.mem_append.1 hu with hu | hu
  ·exact h2' u hu
  ·exact (hcl u hu).2
 ·intro g hg
  rw [hv'] at hg
  cases hg
  exact hN
 ·intro i e hi
  have hxl := h1.1
  by_cases hlt : i < l.length
  ·rw [List.getElem?_append_left hlt] at hi
   obtain ⟨x,y,z,x',y',z',a0,a1,a2,a3,a4,a5,hd'⟩ := h4 i e hi
   have hh := (List.getElem?_eq_some_iff.1 a5).1
   refine ⟨x,y,z,x',y',z',?_,?_,?_,?_,?_,?_,hd'.grown hg h3⟩
   ·rw [List.getElem?_append_left (by omega)];exact a0
   ·rw [List.getElem?_append_left (by omega)];exact a1
   ·rw [List.getElem?_append_left (by omega)];exact a2
   ·rw [List.getElem?_append_left (by omega)];exact a3
   ·rw [List.getElem?_append_left (by omega)];exact a4
   ·rw [List.getElem?_append_left (by omega)];exact a5
  ·rw [List.getElem?_append_right (by omega)] at hi
   obtain ⟨hz,he⟩ := List.getElem?_eq_some_iff.1 hi
   simp at hz
   have hi' : i = l.length := by omega
   subst hi'
   simp at he
   subst he
   refine ⟨x,y,z,x',y',z',?_,?_,?_,?_,?_,?_,hd.grown hg h3⟩
   ·rw [List.getElem?_append_right (by omega),hxl,show l.length * 6 - l.length * 6 = 0 by omega];rfl
   ·rw [List.getElem?_append_right (by omega),hxl,show l.length * 6 + 1 - l.length * 6 = 1 by omega];rfl
   ·rw [List.getElem?_append_right (by omega),hxl,show l.length * 6 + 2 - l.length * 6 = 2 by omega];rfl
   ·rw [List.getElem?_append_right (by omega),hxl,show l.length * 6 + 3 - l.length * 6 = 3 by omega];rfl
   ·rw [List.getElem?_append_right (by omega),hxl,show l.length * 6 + 4 - l.length * 6 = 4 by omega];rfl
   ·rw [List.getElem?_append_right (by omega),hxl,show l.length * 6 + 5 - l.length * 6 = 5 by omega];rfl
theorem iinfo : (Tryz.prog.info? 32).map (fun i => (i.zero,i.size,i.bytes)) = some (some (.agg #[.bool false,.slice none 0 0,.int .i64 0,.bool false,.slice none 0 0,.int .i64 0]),6,80) := by kernel_rfl
theorem zcells_nl : ∀ u ∈ (Value.agg #[.bool false,.slice none 0 0,.int .i64 0,.bool false,.slice none 0 0,.int .i64 0]).cells.toList,NoLimb u := by
 intro u hu
 simp [Value.cells] at hu
 rcases hu with rfl | rfl | rfl | rfl | rfl | rfl
 ·exact noLimb_bool _
 ·exact noLimb_slice _ _ _
 ·exact noLimb_i64 _
 ·exact noLimb_bool _
 ·exact noLimb_slice _ _ _
 ·exact noLimb_i64 _
theorem wp_append_iv {w : World} {o : Oper} {a : Act} {K : Act → World → Prop} {Q : Exit → Act → World → Prop} (s x : Operand)
 (ho : o.op = .call { callee := .builtin .append,args := #[s,x],argTypes := #[33,33] })
 {base : Nat} {v : Value} {l : List RawI} {xs : List Value} (hs : a.eval s = v) (hown : OwnI w base v l xs) {d : RawI} {x0 x1 x2 x3 x4 x5 : Value} {b : Nat}
 (hd : IvR w (.agg #[x0,x1,x2,x3,x4,x5]) d) (hb : BlkI w b x0 x1 x2 x3 x4 x5) (hx : a.eval x = .slice (some ⟨b,0,none⟩) 1 1)
 (hl : l.length ≤ 1000) (hbase : base ≤ w.heap.size)
 (h : ∀ v' w',OwnI w' base v' (l ++ [d]) (xs ++ [x0,x1,x2,x3,x4,x5]) → w.grownBy w' v.ownBlock → K (a.put o.dst v') w') : o.wp Tryz.prog a w K Q := by
 obtain ⟨i0,hi,hz0,hz1,hz2⟩ := info_parts iinfo
 obtain ⟨-,c0,c1,c2,c3,c4,c5⟩ := hb.facts
 have hcl := hd.cells
 have ad : ∀ j,(⟨b,0,none⟩ : Addr).add j = ⟨b,j,none⟩ := by intro j;unfold Addr.add;split <;> simp_all
 refine wp_append_nol s x _ ho base 32 i0 _ 6 80 Tryz.underlying33 hi hz0 hz1 hz2 rfl (by decide) v l.length xs hs hown.row _ 1 1 [x0,x1,x2,x3,x4,x5] hx rfl ?_ (fun u hu => (hcl u hu).2) (by unfold maxLen;omega) (by omega) hbase (by decide) hown.nl (fun u hu => (hcl u hu).1) zcells_nl hown.blk ?_
 ·intro j u hu
  rw [ad]
  rcases j with _ | _ | _ | _ | _ | _ | j
  ·cases hu;exact c0
  ·cases hu;exact c1
  ·cases hu;exact c2
  ·cases hu;exact c3
  ·cases hu;exact c4
  ·cases hu;exact c5
  ·simp at hu
 ·intro v' w' g' q1 q2 q3 q4
  exact h v' w' (hown.snoc hd q1 q2 q3 q4) q2
structure KB (W : World) (X : List Nat) (w : World) : Prop where
 os : w.os = W.os
 tape : w.tape = W.tape
 output : w.output = W.output
 size : W.heap.size ≤ w.heap.size
 block : ∀ b,b < W.heap.size → b ∉ X → w.heap[b]? = W.heap[b]?
 limb : ∀ b i x,W.cell? ⟨b,i,none⟩ = some (.int .u64 x) → w.cell? ⟨b,i,none⟩ = some (.int .u64 x)
theorem cell_in {w : World} {b i : Nat} {v : Value} {cur : Array Value} {T : TypeId} {z : Nat × Nat} (h : w.heap[b]? = some (.cells cur T z)) (hc : w.cell? ⟨b,i,none⟩ = some v) : cur[i]? = some v := by
 simpa [World.cell?,h] using hc
theorem Kept.kb {w w' : World} (k : Kept w w') (X : List Nat) : KB w X w' :=
 ⟨k.os,k.tape,k.output,k.size,fun b hb _ => k.block b hb,fun b i _ h => (k.cell (p := ⟨b,i,none⟩) (lt_of_cell h)).trans h⟩
theorem KB.refl (w : World) (X : List Nat) : KB w X w := Kept.kb (Below.refl _ _) X
theorem KB.trans {a b c : World} {X Y : List Nat} (h : KB a X b) (k : KB b Y c) (hY : ∀ y ∈ Y,y ∈ X ∨ a.heap.size ≤ y) : KB a X c :=
 ⟨k.os.trans h.os, k.tape.trans h.tape, k.output.trans h.output, Nat.le_trans h.size k.size, fun i hi hn => by
  rw [k.block i (Nat.lt_of_lt_of_le hi h.size) (fun hy => by rcases hY i hy with q | q;exact hn q;omega),h.block i hi hn],fun b i x hp => k.limb b i x (h.limb b i x hp)⟩
theorem KB.step {a b c : World} {X : List Nat} (h : KB a X b) (k : Kept b c) : KB a X c := h.trans (k.kb []) (by simp)
theorem KB.drew {a b : World} {X : List Nat} (h : KB a X b) : KB a X b.drew := ⟨h.os,h.tape,h.output,h.size,h.block,h.limb⟩
theorem KB.kept {W0 W w : World} {X : List Nat} (h : Kept W0 W) (k : KB W X w) (hX : ∀ x ∈ X,W0.heap.size ≤ x) : Kept W0 w :=
 ⟨k.os.trans h.os, k.tape.trans h.tape, k.output.trans h.output, Nat.le_trans h.size k.size, fun i hi => by
  rw [k.block i (Nat.lt_of_lt_of_le hi h.size) (fun hx => by have := hX i hx;omega),h.block i hi]⟩
theorem KB.nil {W w : World} (k : KB W [] w) : Kept W w := KB.kept (Below.refl _ _) k (by simp)
theorem KB.setCell {W w : World} {X : List Nat} {b i : Nat} {x : Value} (h : KB W X w) (hb : b ∈ X) (hc : w.cell? ⟨b,i,none⟩ = some x) (hx : NoLimb x) (y : Value) : KB W X (w.setCell ⟨b,i,none⟩ y) :=
 ⟨h.os, h.tape, h.output, by simpa [World.setCell] using h.size, fun k hk hn => by rw [Below.heap_setCell _ _ _ _ (fun e => hn (by subst e; exact hb))]; exact h.block k hk hn, fun p j v hp => by
  have h1 := h.limb p j v hp
  rw [World.cell?_setCell_other]
  ·exact h1
  ·intro e
   injection e with e1 e2
   subst e1;subst e2
   rw [h1] at hc
   exact hx v (by injection hc with e;exact e.symm)⟩
theorem KB.grown {W w w' : World} {X : List Nat} {row : Option Nat} (h : KB W X w) (hg : w.grownBy w' row) (hX : ∀ g,row = some g → g ∈ X ∨ W.heap.size ≤ g) (hN : ∀ g,row = some g → NoL w g) : KB W X w' := by
 refine ⟨hg.os.trans h.os,hg.tape.trans h.tape,hg.output.trans h.output,Nat.le_trans h.size hg.size,fun b hb hn => ?_,fun p j x hp => ?_⟩
 ·rw [hg.block b (Nat.lt_of_lt_of_le hb h.size) (fun e => by rcases hX b e.symm with q | q; exact hn q; omega)]
  exact h.block b hb hn
 ·have h1 := h.limb p j x hp
  refine hg.cell h1 ?_
  intro he
  obtain ⟨cur,e,q1,q2⟩ := hN p he.symm
  have h4 := cell_in q1 h1
  exact q2 _ (Array.mem_toList_iff.2 (Array.mem_of_getElem? h4)) _ rfl
theorem Lim.kb {W w : World} {X : List Nat} {v : Value} {xs : List Nat} (h : Lim W v xs) (k : KB W X w) : Lim w v xs := by
 obtain ⟨hs,A,c,rfl,hc,hA⟩ := h
 refine ⟨hs,A,c,rfl,hc,fun h0 => ?_⟩
 obtain ⟨b,off,rfl,hb,hd⟩ := hA h0
 exact ⟨b,off,rfl,Nat.lt_of_lt_of_le hb k.size,fun i hi => k.limb _ _ _ (hd i hi)⟩
theorem DyR.kb {W w : World} {X : List Nat} {v : Value} {r : Raw} (h : DyR W v r) (k : KB W X w) : DyR w v r := by
 obtain ⟨s,rfl,hs,h1,h2⟩ := h
 exact ⟨s,rfl,hs.kb k,h1,h2⟩
theorem IvR.kb {W w : World} {X : List Nat} {v : Value} {a : RawI} (h : IvR W v a) (k : KB W X w) : IvR w v a := by
 obtain ⟨x,y,z,x',y',z',rfl,h1,h2⟩ := h
 exact ⟨x,y,z,x',y',z',rfl,h1.kb k,h2.kb k⟩
theorem IvC.kb {W w : World} {X : List Nat} {v : Value} {a : Iv} (h : IvC W v a) (k : KB W X w) : IvC w v a := IvR.kb h k
theorem KB.cell {W w : World} {X : List Nat} (k : KB W X w) {b i : Nat} {v : Value} (h : W.cell? ⟨b,i,none⟩ = some v) (hn : b ∉ X) : w.cell? ⟨b,i,none⟩ = some v := by
 have hb := lt_of_cell h
 rw [World.cell?_of_block (k.block b hb hn)];exact h
theorem IvAt.kb {W w : World} {X : List Nat} {b o : Nat} {a : RawI} (h : IvAt W b o a) (k : KB W X w) (hn : b ∉ X) : IvAt w b o a := by
 obtain ⟨x,y,z,x',y',z',h0,h1,h2,h3,h4,h5,hd⟩ := h
 exact ⟨x,y,z,x',y',z',k.cell h0 hn,k.cell h1 hn,k.cell h2 hn,k.cell h3 hn,k.cell h4 hn,k.cell h5 hn,hd.kb k⟩
def OffX (v : Value) (X : List Nat) : Prop := ∀ g,v.ownBlock = some g → g ∉ X
theorem IvS.kb {W w : World} {X : List Nat} {v : Value} {l : List RawI} (h : IvS W v l) (k : KB W X w) (hn : OffX v X) : IvS w v l := by
 obtain ⟨A,c,rfl,hc,hA⟩ := h
 refine ⟨A,c,rfl,hc,fun h0 => ?_⟩
 obtain ⟨b,off,rfl,hd⟩ := hA h0
 exact ⟨b,off,rfl,fun i d hi => (hd i d hi).kb k (hn b rfl)⟩
theorem LnS.kb {W w : World} {X : List Nat} {v : Value} {l : List Ln} (h : LnS W v l) (k : KB W X w) (hn : OffX v X) : LnS w v l := by
 obtain ⟨A,c,rfl,hc,hA⟩ := h
 refine ⟨A,c,rfl,hc,fun h0 => ?_⟩
 obtain ⟨b,off,rfl,hd⟩ := hA h0
 refine ⟨b,off,rfl,fun i d hi => ?_⟩
 obtain ⟨a0,a1,a2,a3⟩ := hd i d hi
 exact ⟨k.cell a0 (hn b rfl),k.cell a1 (hn b rfl),k.cell a2 (hn b rfl),a3.kb k (hn b rfl)⟩
theorem InS.kb {W w : World} {X : List Nat} {v : Value} {l : List Int} (h : InS W v l) (k : KB W X w) (hn : OffX v X) : InS w v l := by
 obtain ⟨A,c,rfl,hc,hA⟩ := h
 refine ⟨A,c,rfl,hc,fun h0 => ?_⟩
 obtain ⟨b,off,rfl,hd⟩ := hA h0
 exact ⟨b,off,rfl,fun i d hi => k.cell (hd i d hi) (hn b rfl)⟩
theorem BlkI.kb {W w : World} {X : List Nat} {b : Nat} {x y z x' y' z' : Value} (h : BlkI W b x y z x' y' z') (k : KB W X w) (hn : b ∉ X) : BlkI w b x y z x' y' z' :=
 (k.block b (Array.getElem?_eq_some_iff.1 h).1 hn).trans h
theorem Blk.kb {W w : World} {X : List Nat} {b : Nat} {x y z : Value} (h : Blk W b x y z) (k : KB W X w) (hn : b ∉ X) : Blk w b x y z :=
 (k.block b (Array.getElem?_eq_some_iff.1 h).1 hn).trans h
theorem KB.blk {W w : World} {X : List Nat} (k : KB W X w) {b : Nat} {o : Obj} (h : W.heap[b]? = some o) (hn : b ∉ X) : w.heap[b]? = some o :=
 (k.block b (Array.getElem?_eq_some_iff.1 h).1 hn).trans h
theorem Tab.kb {W w : World} {X : List Nat} (h : Tab W) (k : KB W X w) (hX : 0 ∉ X) : Tab w := fun j hj => k.cell (h j hj) hX
theorem Tab.ne {w : World} {b : Nat} {v : Value} (h : Tab w) (hc : w.cell? ⟨b,0,none⟩ = some v) (hv : ∀ y,v ≠ .int .u8 y) : 0 ≠ b := by
 intro e
 subst e
 have h0 := h 0 (by decide)
 rw [hc] at h0
 injection h0 with h0
 exact hv _ h0
theorem Tab.lt {w : World} (h : Tab w) : 0 < w.heap.size := lt_of_cell (h 0 (by decide))
theorem cell_atX {W w : World} {X : List Nat} {b : Nat} {cs : Array Value} {T : TypeId} (h : W.heap[b]? = some (.cells cs T (0,0))) (k : KB W X w) (hn : b ∉ X) (i : Nat) (v : Value) (hi : cs[i]? = some v) : w.cell? ⟨b,i,none⟩ = some v :=
 cell_of_block ((k.block b (Array.getElem?_eq_some_iff.1 h).1 hn).trans h) i v hi
theorem KB.ivW {W w : World} {X : List Nat} {b : Nat} {n n' : Bool} {A A' : Option Addr} {l c l' c' : Nat} {e e' : Int} (h : KB W X w) (hb : BlkI w b (.bool n) (.slice A l c) (.int .i64 e) (.bool n') (.slice A' l' c') (.int .i64 e')) (hX : b ∈ X) (x y z x' y' z' : Value) :
 KB W X (Go.Proofs.YtgododcbmkpbjaaGreatDoor.ivW w b x y z x' y' z') := by
 have k0 : Below 0 w (Go.Proofs.YtgododcbmkpbjaaGreatDoor.ivW w b x y z x' y' z') :=
  ((((((Below.refl 0 w).setCell (p := ⟨b,0,none⟩) (Nat.zero_le _) x).setCell (p := ⟨b,1,none⟩) (Nat.zero_le _) y).setCell (p := ⟨b,2,none⟩) (Nat.zero_le _) z).setCell (p := ⟨b,3,none⟩) (Nat.zero_le _) x').setCell (p := ⟨b,4,none⟩) (Nat.zero_le _) y').setCell (p := ⟨b,5,none⟩) (Nat.zero_le _) z'
 have ho := fun k (hk : k ≠ b) => ivW_other w b k x y z x' y' z' hk
 generalize Go.Proofs.YtgododcbmkpbjaaGreatDoor.ivW w b x y z x' y' z' = w' at *
 refine ⟨k0.os.trans h.os,k0.tape.trans h.tape,k0.output.trans h.output,Nat.le_trans h.size k0.size,fun k hk hn => (ho k (fun e => hn (by subst e;exact hX))).trans (h.block k hk hn),fun p j v hp => ?_⟩
 have h1 := h.limb p j v hp
 have hne : p ≠ b := by
  rintro rfl
  exact hb.noLimb _ _ (cell_in hb h1) _ rfl
 rw [World.cell?_of_block (ho p hne)]
 exact h1
section
variable {P : Program} {ops : Array Oper} {Q : Exit → Act → World → Prop} {md : Region.Mode}
theorem stepG_kept {J : (Nat → Bool) → World → Prop} {V : Nat → Value → World → Prop} {L : Nat → Bool} {i : Nat} {o : Oper} {a : Act} {w : World}
 (hV : ∀ j u w w',Kept w w' → V j u w → V j u w') (hJ : ∀ w',Kept w w' → J (upd L i true) w') (h : StepOK P ops Q V i o a w) : StepG P ops Q J V L i o a w := by
 unfold StepOK at h
 unfold StepG
 by_cases hw : Region.wanted o (yielded ops a.tmps) = true
 ·rw [if_pos hw] at h ⊢
  refine Oper.wp_mono (fun a' w' q => ?_) h
  obtain ⟨v,rfl,k,hv⟩ := q
  exact ⟨v,rfl,⟨hJ w' k,fun j _ u hu => hV j u _ _ k hu⟩,hv⟩
 ·rw [if_neg hw] at h ⊢
  exact ⟨hJ w (Below.refl _ _),h⟩
theorem stepG_set {J : (Nat → Bool) → World → Prop} {V : Nat → Value → World → Prop} {L : Nat → Bool} {i : Nat} {o : Oper} {a : Act} {w w' : World} {v : Value} (hw : Region.wanted o (yielded ops a.tmps) = true)
 (h : (execOp a.eval o).run P w = .ok (.value v) w') (hJ : J (upd L i true) w') (hV : ∀ j,j ≠ i → ∀ u,V j u w → V j u w') (hv : V i v w') : StepG P ops Q J V L i o a w := by
 unfold StepG
 rw [if_pos hw]
 unfold Oper.wp
 rw [h]
 exact ⟨v,rfl,⟨hJ,hV⟩,hv⟩
theorem stepG_store {J : (Nat → Bool) → World → Prop} {V : Nat → Value → World → Prop} {L : Nat → Bool} {i : Nat} {o : Oper} {a : Act} {w w' : World} (hw : Region.wanted o (yielded ops a.tmps) = true)
 (h : (execOp a.eval o).run P w = .ok .skip w') (hJ : J (upd L i true) w') (hV : ∀ j,j ≠ i → ∀ u,V j u w → V j u w') (hv : V i undef w') : StepG P ops Q J V L i o a w := by
 unfold StepG
 rw [if_pos hw]
 unfold Oper.wp
 rw [h]
 exact ⟨undef,rfl,⟨hJ,hV⟩,hv⟩
def StepX (P : Program) (ops : Array Oper) (Q : Exit → Act → World → Prop) (J : (Nat → Bool) → World → Prop) (V : Nat → Value → World → Prop) (L : Nat → Bool) (i : Nat) (o : Oper) (a : Act) (w : World) : Prop :=
 ((∀ w',Kept w w' → J (upd L i true) w') ∧ StepOK P ops Q V i o a w) ∨ StepG P ops Q J V L i o a w
def StepsX (P : Program) (md : Region.Mode) (ops : Array Oper) (Q : Exit → Act → World → Prop) (m : Nat) (J : (Nat → Bool) → World → Prop) (V : Nat → Value → World → Prop) (a0 : Act) : Nat → Nat → List Oper → Prop
 | _,0,_ => True
 | _,_ + 1,[] => True
 | i,k + 1,o :: l => (∀ L a w,FindsG md ops m J V a0 L i a w → StepX P ops Q J V L i o a w) ∧ StepsX P md ops Q m J V a0 (i + 1) k l
theorem stepsX_at {m : Nat} {J : (Nat → Bool) → World → Prop} {V : Nat → Value → World → Prop} {a0 : Act} : ∀ (k i0 : Nat) (l : List Oper),StepsX P md ops Q m J V a0 i0 k l →
 ∀ i o,i < k → l[i]? = some o → ∀ L a w,FindsG md ops m J V a0 L (i0 + i) a w → StepX P ops Q J V L (i0 + i) o a w
 | 0,_,_,_,_,_,hi,_ => absurd hi (Nat.not_lt_zero _)
 | k + 1,_,[],_,_,_,_,ho => by simp at ho
 | k + 1, i0, x :: l, h, 0, o, _, ho => by
   simp at ho;subst ho
   exact h.1
 | k + 1, i0, x :: l, h, i + 1, o, hi, ho => by
   have := stepsX_at k (i0 + 1) l h.2 i o (by omega) (by simpa using ho)
   have e : i0 + 1 + i = i0 + (i + 1) := by omega
   rw [e] at this
   exact this
theorem region_linX {id m : Nat} {J : (Nat → Bool) → World → Prop} {l : List (Value → World → Prop)} {a0 : Act} {W : World} (hm : P.follows .mixedOrders = true)
 (hsz : m = ops.size) (hap : apartSlots ops m = true) (hin : slotsIn ops m a0.tmps.size = true) (hbk : backOk .any ops = true) (hM : MonoL l)
 (hJ : J (fun _ => false) W.drew) (hstep : StepsX P .any ops Q m J (VL l) a0 0 m ops.toList)
 (hend : ∀ u w L,(∀ i,i < m → L i = true) → J L w → (∀ i,i < m → VL l i (u i) w) → Q .normal (puts ops (fun _ => true) u m a0) w) :
 (Code.region id ops true).wp P Q a0 W := by
 refine region_linG (J := J) (V := VL l) hm hsz hap hin hbk hJ (fun i o hi ho L a w F => ?_) hend
 have h := stepsX_at m 0 ops.toList hstep i o hi (by simpa using ho) L a w (by simpa using F)
 rw [Nat.zero_add] at h
 rcases h with ⟨h1,h2⟩ | h
 ·exact stepG_kept (mono_of l hM) h1 h2
 ·exact h
def StabX (w w' : World) (s : Nat) : Nat → List (Value → World → Prop) → Prop
 | _,[] => True
 | i,p :: l => (i = s ∨ ∀ u,p u w → p u w') ∧ StabX w w' s (i + 1) l
theorem stabX_at {w w' : World} {s : Nat} : ∀ (l : List (Value → World → Prop)) (i0 : Nat),StabX w w' s i0 l → ∀ j,i0 + j ≠ s → ∀ u,VL l j u w → VL l j u w'
 | [],_,_,_,_,_,_ => trivial
 | _ :: _,_,h,0,hj,u,hu => (h.1.resolve_left (by simpa using hj)) u hu
 | _ :: l,i0,h,j + 1,hj,u,hu => stabX_at l (i0 + 1) h.2 j (by omega) u hu
theorem stab_of {w w' : World} {s : Nat} (l : List (Value → World → Prop)) (h : StabX w w' s 0 l) : ∀ j,j ≠ s → ∀ u,VL l j u w → VL l j u w' :=
 fun j hj u hu => stabX_at l 0 h j (by omega) u hu
theorem vS {x : Value} {w w' : World} : ∀ u,vE x u w → vE x u w' := fun _ h => by
 unfold vE at h ⊢
 exact h
variable {m i : Nat} {J : (Nat → Bool) → World → Prop} {l : List (Value → World → Prop)} {a0 a : Act} {w : World} {L : Nat → Bool}
theorem FindsG.v (F : FindsG md ops m J (VL l) a0 L i a w) (j t : Nat) {x : Value} (h : l.getD j (fun _ _ => True) = vE x := by exact rfl) (h1 : waitsFor md ops i j = true := by kernel_rfl) (h2 : slotOf ops j = some t := by exact rfl) : a.tmps.getD t undef = x := by
 have h3 := F.done j t h1 h2
 unfold VL at h3
 rw [h] at h3
 exact h3
theorem FindsG.p (F : FindsG md ops m J (VL l) a0 L i a w) (j t : Nat) {p : Value → World → Prop} (h : l.getD j (fun _ _ => True) = p := by exact rfl) (h1 : waitsFor md ops i j = true := by kernel_rfl) (h2 : slotOf ops j = some t := by exact rfl) : p (a.tmps.getD t undef) w := by
 have h3 := F.done j t h1 h2
 unfold VL at h3
 rw [h] at h3
 exact h3
theorem FindsG.o {V : Nat → Value → World → Prop} (F : FindsG md ops m J V a0 L i a w) (t : Nat) (h : untouched md ops m i t = true := by kernel_rfl) : a.tmps.getD t undef = a0.tmps.getD t undef := F.old t h
end
theorem dz_rawz : dz.raw = rz := by unfold Dy.raw dz rz;simp only [limbs_zero]
theorem iz_rawz : iz.raw = rzI := by unfold Iv.raw iz rzI;simp only [dz_rawz]
theorem boxddi (w : World) (x y z p q r : Value) : ∃ W,W = ((w.alloc (.cells #[x,y,z] 30)).alloc (.cells #[p,q,r] 30)).alloc (.cells #[.bool false,.slice none 0 0,.int .i64 0,.bool false,.slice none 0 0,.int .i64 0] 32) ∧
 Kept w W ∧ Blk W w.heap.size x y z ∧ Blk W (w.heap.size + 1) p q r ∧ BlkI W (w.heap.size + 1 + 1) (.bool false) (.slice none 0 0) (.int .i64 0) (.bool false) (.slice none 0 0) (.int .i64 0) := by
 refine ⟨_,rfl,((kept_alloc _ _).trans (kept_alloc _ _)).trans (kept_alloc _ _),?_,?_,?_⟩
 ·exact (blk_alloc (blk_new _ _ _ _) _).kept (kept_alloc _ _)
 ·exact (blk_new1 _ _ _ _ _).kept (kept_alloc _ _)
 ·have := blkI_zero ((w.alloc (.cells #[x, y, z] 30)).alloc (.cells #[p, q, r] 30))
  simp only [World.size_alloc] at this
  exact this
theorem boxir (w : World) (x y z x' y' z' : Value) : ∃ W,W = (w.alloc (.cells #[x,y,z,x',y',z'] 32)).alloc (.cells #[.bool false,.slice none 0 0,.int .i64 0,.bool false,.slice none 0 0,.int .i64 0] 32) ∧
 Kept w W ∧ BlkI W w.heap.size x y z x' y' z' ∧ BlkI W (w.heap.size + 1) (.bool false) (.slice none 0 0) (.int .i64 0) (.bool false) (.slice none 0 0) (.int .i64 0) := by
 refine ⟨_,rfl,(kept_alloc _ _).trans (kept_alloc _ _),(blkI_new _ _ _ _ _ _ _).kept (kept_alloc _ _),?_⟩
 have := blkI_zero (w.alloc (.cells #[x,y,z,x',y',z'] 32))
 simp only [World.size_alloc] at this
 exact this
theorem both_c {w : World} {v u : Value} {o1 o2 : Outc Dy} (hv : DyR w v o1.v.raw) (hu : DyR w u o2.v.raw) :
 Calls Tryz.prog 103 #[v,.int .i64 o1.k,u,.int .i64 o2.k] w (RetIE (rawO (ends o1 o2)) w) := by
 obtain ⟨A,l,c,rfl,h1⟩ := dyR_split hv
 obtain ⟨B,j,e,rfl,g1⟩ := dyR_split hu
 obtain ⟨W,hW,kW,BA,BB,BR⟩ := boxddi w (.bool o1.v.neg) (.slice A l c) (.int .i64 o1.v.e) (.bool o2.v.neg) (.slice B j e) (.int .i64 o2.v.e)
 have Z1 := hid (h1.kept kW)
 have Z2 := hid (g1.kept kW)
 have HW := hid hW
 have HK := hid kW
 obtain ⟨-,c0,c1,c2,-⟩ := BA.facts
 obtain ⟨-,d0,d1,d2,-⟩ := BB.facts
 have HR := hid BR
 obtain ⟨-,r0,r1,r2,r3,r4,r5⟩ := BR.facts
 obtain ⟨f0,f1,f2,f3,f4,f5⟩ := BR.free
 clear hW kW BA BB BR h1 g1 hv hu
 by_cases k1 : o1.k = 0
 ·by_cases k2 : o2.k = 0
  ·have ho : rawO (ends o1 o2) = ⟨⟨o1.v.raw, o2.v.raw⟩, 0⟩ := by
    unfold ends;rw [Outc.bind_of _ _ k1,Outc.bind_of _ _ k2];rfl
   rw [ho,k1,k2]
   have HO := hid ho
   clear ho k1 k2
   generalize o1.v.neg = n1 at *
   generalize o1.v.e = e1 at *
   generalize o2.v.neg = n2 at *
   generalize o2.v.e = e2 at *
   generalize o1.v.raw = r1 at *
   generalize o2.v.raw = r2 at *
   go_enter Tryz.func103,Tryz.ntmps103
   go_upto_region 1 with fail
   rw [← HW.out]
   go_wp2_with fail
   exact ret_iv2 (HR.out.laid _ _ _ _ _ _) rfl rfl rfl ⟨ivW_kept HK.out (by omega),_,rfl,_,_,_,_,_,_,rfl,Z1.out.ivW HR.out _ _ _ _ _ _,Z2.out.ivW HR.out _ _ _ _ _ _⟩
  ·have ho : rawO (ends o1 o2) = ⟨rzI, o2.k⟩ := by
    unfold ends Outc.bind;rw [if_pos k1];simp only [if_neg k2];exact congrArg (Outc.mk · o2.k) iz_rawz
   rw [ho,k1]
   have k2' : (o2.k != 0) = true := by simp [k2]
   clear ho k1 k2
   generalize o1.v.neg = n1 at *
   generalize o1.v.e = e1 at *
   generalize o2.v.neg = n2 at *
   generalize o2.v.e = e2 at *
   generalize o1.v.raw = r1 at *
   generalize o2.v.raw = r2 at *
   generalize o2.k = q2 at *
   go_enter Tryz.func103,Tryz.ntmps103
   go_upto_region 1 with fail
   rw [← HW.out]
   go_wp2_with fail
   exact ret_iv2 (HR.out.laid _ _ _ _ _ _) rfl rfl rfl ⟨ivW_kept HK.out (by omega),_,rfl,ivR_zero _⟩
 ·have ho : rawO (ends o1 o2) = ⟨rzI, o1.k⟩ := by
   unfold ends Outc.bind;rw [if_neg k1];exact congrArg (Outc.mk · o1.k) iz_rawz
  rw [ho]
  have k1' : (o1.k != 0) = true := by simp [k1]
  clear ho k1
  generalize o1.v.neg = n1 at *
  generalize o1.v.e = e1 at *
  generalize o2.v.neg = n2 at *
  generalize o2.v.e = e2 at *
  generalize o1.v.raw = r1 at *
  generalize o2.v.raw = r2 at *
  generalize o2.k = q2 at *
  generalize o1.k = q1 at *
  go_enter Tryz.func103,Tryz.ntmps103
  go_upto_region 1 with fail
  rw [← HW.out]
  go_wp2_with fail
  exact ret_iv2 (HR.out.laid _ _ _ _ _ _) rfl rfl rfl ⟨ivW_kept HK.out (by omega),_,rfl,ivR_zero _⟩
theorem boxD (w : World) (x y z : Value) : ∃ V,V = w.alloc (.cells #[x,y,z] 30) ∧ Kept w V ∧ Blk V w.heap.size x y z ∧ w.heap.size < V.heap.size :=
 ⟨_,rfl,kept_alloc _ _,blk_new _ _ _ _,by simp⟩
theorem iround_c {w : World} {v : Value} {a : Iv} {p : Nat} (hv : IvC w v a) (ha : a.Ok) (hT : Tab w) (p1 : 1 ≤ p) (p2 : p ≤ 2000) :
 Calls Tryz.prog 61 #[v,.int .i64 p] w (RetIE (rawO (roundI a p)) w) := by
 have m1 := fun w1 (k : Kept w w1) => imayT_c (hv.kept k) ha
 obtain ⟨A,l,c,A',l',c',rfl,h1,h2⟩ := ivC_split hv
 have c1 := fun w1 (k : Kept w w1) => Down_c (h1.kept k) ha.lo (hT.kept k) p1 p2
 have c2 := fun w1 (k : Kept w w1) => Up_c (h2.kept k) ha.hi (hT.kept k) p1 p2
 have hdef : roundI a p = ends (dirD a.lo p false) (dirD a.hi p true) := rfl
 rw [hdef]
 obtain ⟨W,hW,kW,BI,BR⟩ := boxir w (.bool a.lo.neg) (.slice A l c) (.int .i64 a.lo.e) (.bool a.hi.neg) (.slice A' l' c') (.int .i64 a.hi.e)
 have M1 := hid m1
 have C1 := hid c1
 have C2 := hid c2
 have HW := hid hW
 have K := hid kW
 have HB := hid BI
 have HR := hid BR
 clear m1 c1 c2 hW kW BI BR h1 h2 hv ha hT hdef
 generalize dirD a.lo p false = o1 at *
 generalize dirD a.hi p true = o2 at *
 generalize a.lo.neg = n1 at *
 generalize a.lo.e = e1 at *
 generalize a.hi.neg = n2 at *
 generalize a.hi.e = e2 at *
 go_enter Tryz.func61,Tryz.ntmps61
 go_wp2_with fail
 rw [← HW.out]
 refine (M1.out _ K.out).mono ?_
 rintro e w1 ⟨rfl,q⟩
 replace K := hid (K.out.trans q)
 replace HB := hid (HB.out.kept q)
 replace HR := hid (HR.out.kept q)
 clear q M1 HW
 obtain ⟨-,c0,c1,c2,c3,c4,c5⟩ := HB.out.facts
 simp only []
 go_wp2_with fail
 refine (C1.out _ K.out).mono ?_
 rintro e w2 ⟨q,u,rfl,hd⟩
 obtain ⟨PX,pX,qX,rfl,z1⟩ := dyR_split hd
 simp only []
 obtain ⟨VX,hV,kV,hb,lV⟩ := boxD w2 (.bool o1.v.neg) (.slice PX pX qX) (.int .i64 o1.v.e)
 have HV := hid hV
 have kk := q.trans kV
 have lt1 : w.heap.size + 1 < w2.heap.size := Nat.lt_of_lt_of_le HR.out.facts.1 q.size
 replace K := hid (K.out.trans kk)
 replace HB := hid (HB.out.kept kk);replace HR := hid (HR.out.kept kk)
 have HX := hid hb
 have ZX := hid (z1.kept kV)
 clear hV kV hb lV kk q hd z1 c0 c1 c2 c3 c4 c5 C1
 go_upto_region 4 with fail
 rw [← HV.out]
 clear HV
 generalize w2.heap.size = bX at *
 obtain ⟨-,c0,c1,c2,c3,c4,c5⟩ := HB.out.facts
 go_wp2_with fail
 refine (C2.out _ K.out).mono ?_
 rintro e w2 ⟨q,u,rfl,hd⟩
 obtain ⟨PY,pY,qY,rfl,z1⟩ := dyR_split hd
 simp only []
 obtain ⟨VY,hV,kV,hb,lV⟩ := boxD w2 (.bool o2.v.neg) (.slice PY pY qY) (.int .i64 o2.v.e)
 have HV := hid hV
 have kk := q.trans kV
 have lt2 : bX < w2.heap.size := Nat.lt_of_lt_of_le HX.out.facts.1 q.size
 replace K := hid (K.out.trans kk)
 replace HR := hid (HR.out.kept kk);replace HX := hid (HX.out.kept kk);replace ZX := hid (ZX.out.kept kk)
 have HY := hid hb
 have ZY := hid (z1.kept kV)
 clear hV kV hb lV kk q hd z1 c0 c1 c2 c3 c4 c5 C2 HB
 go_upto_region 5 with fail
 rw [← HV.out]
 clear HV
 generalize w2.heap.size = bY at *
 obtain ⟨-,c0,c1,c2,-⟩ := HX.out.facts
 obtain ⟨-,d0,d1,d2,-⟩ := HY.out.facts
 go_wp2_with fail
 refine (both_c ZX.out ZY.out).mono ?_
 rintro e w2 ⟨q,u,rfl,hd⟩
 obtain ⟨P,p',q',R,r,s,rfl,z1,z2⟩ := ivR_split hd
 have hr := HR.out.kept q
 obtain ⟨-,r0,r1,r2,r3,r4,r5⟩ := hr.facts
 obtain ⟨f0,f1,f2,f3,f4,f5⟩ := hr.free
 have HRR := hid hr
 have Z1 := hid z1
 have Z2 := hid z2
 clear hr z1 z2 hd c0 c1 c2 d0 d1 d2
 simp only []
 go_wp2_with fail
 exact ret_iv2 (HRR.out.laid _ _ _ _ _ _) rfl rfl rfl ⟨ivW_kept (K.out.trans q) (by omega),_,rfl,_,_,_,_,_,_,rfl,Z1.out.ivW HRR.out _ _ _ _ _ _,Z2.out.ivW HRR.out _ _ _ _ _ _⟩
theorem boxiir (w : World) (x y z x' y' z' p q r p' q' r' : Value) : ∃ W,W = ((w.alloc (.cells #[x,y,z,x',y',z'] 32)).alloc (.cells #[p,q,r,p',q',r'] 32)).alloc (.cells #[.bool false,.slice none 0 0,.int .i64 0,.bool false,.slice none 0 0,.int .i64 0] 32) ∧
 Kept w W ∧ BlkI W w.heap.size x y z x' y' z' ∧ BlkI W (w.heap.size + 1) p q r p' q' r' ∧ BlkI W (w.heap.size + 1 + 1) (.bool false) (.slice none 0 0) (.int .i64 0) (.bool false) (.slice none 0 0) (.int .i64 0) := by
 obtain ⟨W,hW,k,b1,b2⟩ := box2ii w x y z x' y' z' p q r p' q' r'
 refine ⟨_,rfl,?_,?_,?_,?_⟩
 ·rw [← hW];exact k.trans (kept_alloc _ _)
 ·rw [← hW];exact b1.kept (kept_alloc _ _)
 ·rw [← hW];exact b2.kept (kept_alloc _ _)
 ·have := blkI_zero ((w.alloc (.cells #[x, y, z, x', y', z'] 32)).alloc (.cells #[p, q, r, p', q', r'] 32))
  simp only [World.size_alloc] at this
  exact this
structure OpsC (S : Int → Prop) : Prop where
 add : S 6 → ∀ {w : World} {v u : Value} {a b : Iv} {p : Nat},IvC w v a → IvC w u b → a.Ok → b.Ok → Tab w → 1 ≤ p → p ≤ 2000 → Calls Tryz.prog 107 #[v,u,.int .i64 p] w (RetIE (rawO (addI a b p)) w)
 sub : S 7 → ∀ {w : World} {v u : Value} {a b : Iv} {p : Nat},IvC w v a → IvC w u b → a.Ok → b.Ok → Tab w → 1 ≤ p → p ≤ 2000 → Calls Tryz.prog 108 #[v,u,.int .i64 p] w (RetIE (rawO (subI a b p)) w)
 mul : S 8 → ∀ {w : World} {v u : Value} {a b : Iv} {p : Nat},IvC w v a → IvC w u b → a.Ok → b.Ok → Tab w → 1 ≤ p → p ≤ 2000 → Calls Tryz.prog 109 #[v,u,.int .i64 p] w (RetIE (rawO (mulI a b p)) w)
 div : S 9 → ∀ {w : World} {v u : Value} {a b : Iv} {p : Nat},IvC w v a → IvC w u b → a.Ok → b.Ok → Tab w → 1 ≤ p → p ≤ 2000 → Calls Tryz.prog 105 #[v,u,.int .i64 p] w (RetIE (rawO (divI a b p)) w)
 neg : S 10 → ∀ {w : World} {v : Value} {a : Iv} {p : Nat},IvC w v a → a.Ok → Tab w → 1 ≤ p → p ≤ 2000 → Calls Tryz.prog 110 #[v,.int .i64 p] w (RetIE (rawO (negI a p)) w)
 sqr : S 11 → ∀ {w : World} {v : Value} {a : Iv} {p : Nat},IvC w v a → a.Ok → Tab w → 1 ≤ p → p ≤ 2000 → Calls Tryz.prog 111 #[v,.int .i64 p] w (RetIE (rawO (sqrI a p)) w)
 sqrt : S 12 → ∀ {w : World} {v : Value} {a : Iv} {p : Nat},IvC w v a → a.Ok → Tab w → 1 ≤ p → p ≤ 2000 → Calls Tryz.prog 112 #[v,.int .i64 p] w (RetIE (rawO (sqrtI a p)) w)
section
variable {P : Program} {ops : Array Oper} {Q : Exit → Act → World → Prop} {md : Region.Mode}
def StepU (P : Program) (ops : Array Oper) (Q : Exit → Act → World → Prop) (J : (Nat → Bool) → (Nat → Value) → World → Prop) (L : Nat → Bool) (u : Nat → Value) (i : Nat) (o : Oper) (a : Act) (w : World) : Prop :=
 if Region.wanted o (yielded ops a.tmps) = true then o.wp P a w (fun a' w' => ∃ v,a' = a.put o.dst v ∧ J (upd L i true) (upd u i v) w') Q else J (upd L i true) (upd u i undef) w
structure FindsU (md : Region.Mode) (ops : Array Oper) (m : Nat) (J : (Nat → Bool) → (Nat → Value) → World → Prop) (a0 : Act) (L : Nat → Bool) (u : Nat → Value) (i : Nat) (a : Act) (w : World) : Prop where
 frame : J L u w
 yet : L i = false
 wait : ∀ j,waitsFor md ops i j = true → L j = true
 lt : ∀ j,L j = true → j < m
 defers : a.defers = a0.defers
 done : ∀ j t,waitsFor md ops i j = true → slotOf ops j = some t → a.tmps.getD t undef = u j
 old : ∀ t,untouched md ops m i t = true → a.tmps.getD t undef = a0.tmps.getD t undef
structure InvU (md : Region.Mode) (ops : Array Oper) (m : Nat) (J : (Nat → Bool) → (Nat → Value) → World → Prop) (a0 : Act) (listed : Array Bool) (a : Act) (w : World) : Prop where
 size : listed.size = ops.size
 tail : ∀ i,m ≤ i → listed.getD i false = false
 closed : ∀ i j,listed.getD i false = true → waitsFor md ops i j = true → listed.getD j false = true
 vals : ∃ u,a = puts ops (fun i => listed.getD i false) u m a0 ∧ J (fun i => listed.getD i false) u w
theorem region_stepsU {m : Nat} {J : (Nat → Bool) → (Nat → Value) → World → Prop} {a0 : Act}
 (hsz : m ≤ ops.size) (hap : apartSlots ops m = true) (hin : slotsIn ops m a0.tmps.size = true) (htl : tailOk md ops m = true) (hbk : backOk md ops = true)
 (hstep : ∀ i o,i < m → ops[i]? = some o → ∀ L u a w,FindsU md ops m J a0 L u i a w → StepU P ops Q J L u i o a w)
 (hend : ∀ u w L,(∀ i,i < m → L i = true) → J L u w → ∀ listed : Array Bool,listed.size = ops.size → (∀ i,listed.getD i false = decide (i < m)) → wpAny P md ops Q (ops.size - m) listed (puts ops (fun _ => true) u m a0) w) :
 ∀ (k : Nat) (listed : Array Bool) (a : Act) (w : World),((List.range m).filter fun i => !listed.getD i false).length = k → InvU md ops m J a0 listed a w → wpAny P md ops Q (ops.size - m + k) listed a w := by
 intro k
 induction k with
 | zero =>
   intro listed a w hk hI
   obtain ⟨u,rfl,hu⟩ := hI.vals
   have hall : ∀ i,i < m → listed.getD i false = true := by
    intro i hi
    have h1 := List.eq_nil_of_length_eq_zero hk
    have h2 : ∀ x ∈ (List.range m).filter (fun i => !listed.getD i false),False := by rw [h1];intro x hx;cases hx
    cases hc : listed.getD i false
    ·exact (h2 i (List.mem_filter.2 ⟨List.mem_range.2 hi,by rw [hc];rfl⟩)).elim
    ·rfl
   have e : puts ops (fun i => listed.getD i false) u m a0 = puts ops (fun _ => true) u m a0 := puts_congr m (fun j hj => ⟨hall j hj,rfl⟩)
   rw [e]
   refine hend u w _ hall hu listed hI.size (fun i => ?_)
   by_cases hi : i < m
   ·rw [hall i hi];simp [hi]
   ·rw [hI.tail i (by omega)];simp [hi]
 | succ k ih =>
   intro listed a w hk hI
   obtain ⟨u,rfl,hu⟩ := hI.vals
   -- the first one that has not come up is ready, or some are ready
   refine ⟨fun hnone => ?_,fun i hi => ?_⟩
   ·exfalso
    have hex : ∃ x,x < m ∧ listed.getD x false = false := by
     cases hl : (List.range m).filter (fun i => !listed.getD i false) with
     | nil => rw [hl] at hk;simp at hk
     | cons x xs =>
       have hx : x ∈ (List.range m).filter (fun i => !listed.getD i false) := by rw [hl];exact List.mem_cons_self ..
       obtain ⟨h1,h2⟩ := List.mem_filter.1 hx
       exact ⟨x,List.mem_range.1 h1,by simpa using h2⟩
    have hmin : ∀ n x, x ≤ n → x < m → listed.getD x false = false → ∃ y, y ∈ Region.ready md ops listed := by
     intro n
     induction n with
     | zero => 
       intro x hx hxm hxl
       obtain rfl : x = 0 := by omega
       refine ⟨0,mem_ready.2 ⟨?_,ops[0],Array.getElem?_eq_getElem (by omega),fun e he hb => ?_⟩⟩
       ·rw [Array.getD_eq_getD_getElem?,Array.getElem?_eq_getElem (by rw [hI.size];omega)] at hxl ⊢;exact hxl
       ·have h1 := all_range hbk 0 (by omega)
        rw [Array.getElem?_eq_getElem (show 0 < ops.size by omega)] at h1
        simp only [Option.map_some,Option.getD_some,Array.all_eq_true'] at h1
        have := h1 e he
        rw [hb] at this
        simp at this
     | succ n ihn =>
       intro x hx hxm hxl
       by_cases hall : ∀ j,waitsFor md ops x j = true → listed.getD j false = true
       ·refine ⟨x, mem_ready.2 ⟨?_, ops[x], Array.getElem?_eq_getElem (by omega), fun e he hb => ?_⟩⟩
        ·rw [Array.getD_eq_getD_getElem?,Array.getElem?_eq_getElem (by rw [hI.size];omega)] at hxl ⊢;exact hxl
        ·refine hall e.on ?_
         unfold waitsFor
         rw [Array.getElem?_eq_getElem (show x < ops.size by omega)]
         simp only [Option.map_some,Option.getD_some,Array.any_eq_true']
         exact ⟨e,he,by rw [hb];simp⟩
       ·obtain ⟨j, hj⟩ := Classical.not_forall.1 hall
        obtain ⟨hj1,hj2⟩ := Classical.not_imp.1 hj
        have hjx : j < x := by
         have h1 := all_range hbk x (by omega)
         unfold waitsFor at hj1
         rw [Array.getElem?_eq_getElem (show x < ops.size by omega)] at h1 hj1
         simp only [Option.map_some,Option.getD_some,Array.all_eq_true',Array.any_eq_true'] at h1 hj1
         obtain ⟨e,he,hb⟩ := hj1
         simp only [Bool.and_eq_true,beq_iff_eq] at hb
         have := h1 e he
         rw [hb.1,hb.2] at this
         simpa using this
        exact ihn j (by omega) (by omega) (by simpa using hj2)
    obtain ⟨x,hx1,hx2⟩ := hex
    obtain ⟨y,hy⟩ := hmin x x (Nat.le_refl _) hx1 hx2
    rw [hnone] at hy
    cases hy
   ·obtain ⟨hjun, oi, hoi, hdep⟩ := mem_ready.1 hi
    have hil : i < listed.size := by
     by_cases hc : i < listed.size
     ·exact hc
     ·rw [Array.getD_eq_getD_getElem?,Array.getElem?_eq_none (by omega)] at hjun;simp at hjun
    have hfalse : listed.getD i false = false := by
     rw [Array.getD_eq_getD_getElem?,Array.getElem?_eq_getElem hil] at *;exact hjun
    have hdone : ∀ j,waitsFor md ops i j = true → listed.getD j false = true := by
     intro j hj
     unfold waitsFor at hj
     rw [hoi] at hj
     simp only [Option.map_some,Option.getD_some,Array.any_eq_true'] at hj
     obtain ⟨e,he,hb⟩ := hj
     simp only [Bool.and_eq_true,beq_iff_eq] at hb
     have := hdep e he hb.1
     rw [hb.2] at this
     exact this
    by_cases him : i < m
    ·have hF : FindsU md ops m J a0 (fun i => listed.getD i false) u i (puts ops (fun i => listed.getD i false) u m a0) w := by
      refine ⟨hu,hfalse,hdone,fun j hj => Classical.byContradiction fun hc => (by rw [hI.tail j (by omega)] at hj;cases hj),puts_defers m,fun j t hw hs => ?_,fun t hu0 => ?_⟩
      ·have hjl := hdone j hw
       have hjm : j < m := by
        by_cases hc : j < m
        ·exact hc
        ·rw [hI.tail j (by omega)] at hjl;cases hjl
       have htn : t < a0.tmps.size := by
        have := all_range hin j hjm
        rw [hs] at this
        simpa using this
       rw [getD_puts_some (i := j) htn hjl hs m hjm (fun j' hj' hne => ?_)]
       ·have h1 := all_range (all_range hap j hjm) j' hj'
        rw [hs] at h1
        simp only [Bool.or_eq_true,beq_iff_eq,bne_iff_ne] at h1
        rcases h1 with (h1 | h1) | h1
        ·exact absurd h1.symm hne
        ·cases h1
        ·exact fun h => h1 h.symm
      ·refine getD_puts_none m (fun j hj hjl hs => ?_)
       have h1 := all_range hu0 j hj
       rw [hs] at h1
       simp only [bne_self_eq_false,Bool.false_or,Bool.or_eq_true,beq_iff_eq] at h1
       rcases h1 with h1 | h1
       ·rw [← h1,hfalse] at hjl;cases hjl
       ·have := hI.closed j i hjl h1
        rw [hfalse] at this;cases this
     have hs := hstep i oi him hoi _ _ _ w hF
     unfold StepU at hs
     unfold wpOp
     simp only [hoi]
     have hput : ∀ v w',J (upd (fun i => listed.getD i false) i true) (upd u i v) w' → InvU md ops m J a0 (listed.setIfInBounds i true) ((puts ops (fun i => listed.getD i false) u m a0).put oi.dst v) w' := by
      intro v w' hk'
      have hso : oi.dst = slotOf ops i := by unfold slotOf;rw [hoi];rfl
      have hset : ∀ j,(listed.setIfInBounds i true).getD j false = upd (fun i => listed.getD i false) i true j := by
       intro j
       unfold upd
       by_cases hj : j = i
       ·subst hj
        rw [if_pos rfl,Array.getD_eq_getD_getElem?]
        simp [hil]
       ·rw [if_neg hj,getD_set_ne false (fun h => hj h.symm)]
      refine ⟨by rw [Array.size_setIfInBounds,hI.size],fun j hj => ?_,fun j l hj hw => ?_,upd u i v,?_,by rw [show (fun j => (listed.setIfInBounds i true).getD j false) = upd (fun i => listed.getD i false) i true from funext hset];exact hk'⟩
      ·rw [getD_set_ne false (by omega)];exact hI.tail j hj
      ·rw [hset] at hj ⊢
       unfold upd at hj ⊢
       by_cases hji : j = i
       ·subst hji
        by_cases hli : l = j
        ·rw [if_pos hli]
        ·rw [if_neg hli];exact hdone l hw
       ·rw [if_neg hji] at hj
        by_cases hli : l = i
        ·rw [if_pos hli]
        ·rw [if_neg hli];exact hI.closed j l hj hw
      ·rw [hso, puts_add (S := fun i => listed.getD i false) hfalse m him (fun j hj hne => ?_)]
       ·exact puts_congr m (fun j _ => ⟨(hset j).symm,rfl⟩)
       ·have h1 := all_range (all_range hap i him) j hj
        simp only [Bool.or_eq_true,beq_iff_eq,bne_iff_ne] at h1
        rcases h1 with (h1 | h1) | h1
        ·exact absurd h1.symm hne
        ·exact .inl h1
        ·exact .inr h1
     have hcount : ((List.range m).filter fun j => !(listed.setIfInBounds i true).getD j false).length = k := by
      have h1 : (List.range m).filter (fun j => !(listed.setIfInBounds i true).getD j false) = ((List.range m).filter (fun j => !listed.getD j false)).filter (fun j => j != i) := by
       rw [List.filter_filter]
       apply List.filter_congr
       intro j _
       by_cases hj : j = i
       ·subst hj
        rw [Array.getD_eq_getD_getElem?]
        simp [hil]
       ·rw [getD_set_ne false (fun h => hj h.symm)]
        simp [hj]
      rw [h1]
      have hnd : ((List.range m).filter (fun j => !listed.getD j false)).Nodup := List.Pairwise.filter _ List.nodup_range
      have hmem : i ∈ (List.range m).filter (fun j => !listed.getD j false) := List.mem_filter.2 ⟨List.mem_range.2 him,by rw [hfalse];rfl⟩
      have h2 : ∀ (l : List Nat), l.Nodup → i ∈ l → (l.filter (fun j => j != i)).length + 1 = l.length := by
       intro l
       induction l with
       | nil => intro _ h;cases h
       | cons x xs ihx =>
         intro hn hm
         obtain ⟨hx,hn'⟩ := List.nodup_cons.1 hn
         by_cases hxi : x = i
         ·subst hxi
          have : xs.filter (fun j => j != x) = xs := by
           rw [List.filter_eq_self]
           intro y hy
           simp only [bne_iff_ne]
           rintro rfl
           exact hx hy
          rw [List.filter_cons_of_neg (by simp),this]
          rfl
         ·have hm' : i ∈ xs := by
           rcases List.mem_cons.1 hm with h | h
           ·exact absurd h.symm hxi
           ·exact h
          rw [List.filter_cons_of_pos (by simp [hxi])]
          simp only [List.length_cons]
          rw [ihx hn' hm']
      have := h2 _ hnd hmem
      omega
     by_cases hw : Region.wanted oi (yielded ops (puts ops (fun i => listed.getD i false) u m a0).tmps) = true
     ·rw [if_pos hw] at hs ⊢
      refine .inl (Oper.wp_mono (fun a' w' h => ?_) hs)
      obtain ⟨v,rfl,hk'⟩ := h
      exact ih _ _ _ hcount (hput v w' hk')
     ·rw [if_neg hw] at hs ⊢
      exact ih _ _ _ hcount (hput undef w hs)
    ·-- an operation behind waits for one that has not come up
     exfalso
     have hex : ∃ x,x < m ∧ listed.getD x false = false := by
      cases hl : (List.range m).filter (fun i => !listed.getD i false) with
      | nil => rw [hl] at hk;simp at hk
      | cons x xs =>
        have hx : x ∈ (List.range m).filter (fun i => !listed.getD i false) := by rw [hl];exact List.mem_cons_self ..
        obtain ⟨h1,h2⟩ := List.mem_filter.1 hx
        exact ⟨x,List.mem_range.1 h1,by simpa using h2⟩
     obtain ⟨x,hx1,hx2⟩ := hex
     have h1 := all_range htl i (by rw [← hI.size];exact hil)
     simp only [Bool.or_eq_true,decide_eq_true_eq] at h1
     have h2 := closL_listed (L := fun j => listed.getD j false) hI.closed ops.size i x (by rw [← hI.size];exact hil) (all_range (h1.resolve_left him) x hx1) hdone
     rw [hx2] at h2;cases h2
theorem region_linU {id m : Nat} {J : (Nat → Bool) → (Nat → Value) → World → Prop} {a0 : Act} {W : World} (hm : P.follows .mixedOrders = true)
 (hsz : m = ops.size) (hap : apartSlots ops m = true) (hin : slotsIn ops m a0.tmps.size = true) (hbk : backOk .any ops = true)
 (hJ : J (fun _ => false) (fun _ => undef) W.drew)
 (hstep : ∀ i o,i < m → ops[i]? = some o → ∀ L u a w,FindsU .any ops m J a0 L u i a w → StepU P ops Q J L u i o a w)
 (hend : ∀ u w L,(∀ i,i < m → L i = true) → J L u w → Q .normal (puts ops (fun _ => true) u m a0) w) :
 (Code.region id ops true).wp P Q a0 W := by
 refine wp_region_any hm ?_
 have htl : tailOk .any ops m = true := by
  unfold tailOk
  rw [List.all_eq_true]
  intro i hi
  have := List.mem_range.1 hi
  simp;left;omega
 have h := region_stepsU (md := .any) (a0 := a0) (J := J) (Q := Q) (P := P) (by omega) hap hin htl hbk hstep (fun u w L hL hk listed hl hlt => ?_)
  ((List.range m).filter fun i => !(Array.replicate ops.size false).getD i false).length (Array.replicate ops.size false) a0 W.drew rfl ?_
 ·have e : ops.size - m + ((List.range m).filter fun i => !(Array.replicate ops.size false).getD i false).length = ops.size := by
   have : (List.range m).filter (fun i => !(Array.replicate ops.size false).getD i false) = List.range m := by
    rw [List.filter_eq_self]
    intro i hi
    have := List.mem_range.1 hi
    rw [rep_false];rfl
   rw [this,List.length_range];omega
  rw [e] at h
  exact h
 ·have : ops.size - m = 0 := by omega
  rw [this]
  refine ⟨?_,hend u w L hL hk⟩
  rw [List.eq_nil_iff_forall_not_mem]
  intro i hi
  obtain ⟨h1,o,ho,_⟩ := mem_ready.1 hi
  have h2 := hlt i
  have h3 : i < ops.size := (Array.getElem?_eq_some_iff.1 ho).1
  rw [Array.getD_eq_getD_getElem?,Array.getElem?_eq_getElem (by omega)] at h1 h2
  simp only [Option.getD_some] at h1 h2
  rw [h1] at h2
  simp at h2;omega
 ·refine ⟨by simp, fun i _ => ?_, fun i j hi => ?_, fun _ => undef, ?_, by rw [show (fun i => (Array.replicate ops.size false).getD i false) = fun _ => false from funext fun i => rep_false _ _]; exact hJ⟩
  ·exact rep_false _ _
  ·rw [rep_false] at hi;cases hi
  ·have : ∀ n, puts ops (fun i => (Array.replicate ops.size false).getD i false) (fun _ => undef) n a0 = a0 := by
    intro n
    induction n with
    | zero => rfl
    | succ n ih =>
      unfold puts
      rw [if_neg (by rw [rep_false];simp),ih]
   exact (this m).symm
end
section
variable {P : Program} {ops : Array Oper} {Q : Exit → Act → World → Prop} {md : Region.Mode}
def StepGU (P : Program) (ops : Array Oper) (Q : Exit → Act → World → Prop) (J : (Nat → Bool) → World → Prop) (V : Nat → Value → World → Prop) (G : (Nat → Bool) → (Nat → Value) → World → Prop) (L : Nat → Bool) (u : Nat → Value) (i : Nat) (o : Oper) (a : Act) (w : World) : Prop :=
 if Region.wanted o (yielded ops a.tmps) = true then o.wp P a w (fun a' w' => ∃ v,a' = a.put o.dst v ∧ (J (upd L i true) w' ∧ ∀ j,j ≠ i → ∀ u,V j u w → V j u w') ∧ V i v w' ∧ G (upd L i true) (upd u i v) w') Q
  else J (upd L i true) w ∧ V i undef w ∧ G (upd L i true) (upd u i undef) w
theorem stepGU_set {J : (Nat → Bool) → World → Prop} {V : Nat → Value → World → Prop} {G : (Nat → Bool) → (Nat → Value) → World → Prop} {L : Nat → Bool} {u : Nat → Value} {i : Nat} {o : Oper} {a : Act} {w w' : World} {v : Value} (hw : Region.wanted o (yielded ops a.tmps) = true)
 (h : (execOp a.eval o).run P w = .ok (.value v) w') (hJ : J (upd L i true) w') (hV : ∀ j,j ≠ i → ∀ u,V j u w → V j u w') (hv : V i v w') (hG : G (upd L i true) (upd u i v) w') : StepGU P ops Q J V G L u i o a w := by
 unfold StepGU
 rw [if_pos hw]
 unfold Oper.wp
 rw [h]
 exact ⟨v,rfl,⟨hJ,hV⟩,hv,hG⟩
theorem stepGU_store {J : (Nat → Bool) → World → Prop} {V : Nat → Value → World → Prop} {G : (Nat → Bool) → (Nat → Value) → World → Prop} {L : Nat → Bool} {u : Nat → Value} {i : Nat} {o : Oper} {a : Act} {w w' : World} (hw : Region.wanted o (yielded ops a.tmps) = true)
 (h : (execOp a.eval o).run P w = .ok .skip w') (hJ : J (upd L i true) w') (hV : ∀ j,j ≠ i → ∀ u,V j u w → V j u w') (hv : V i undef w') (hG : G (upd L i true) (upd u i undef) w') : StepGU P ops Q J V G L u i o a w := by
 unfold StepGU
 rw [if_pos hw]
 unfold Oper.wp
 rw [h]
 exact ⟨undef,rfl,⟨hJ,hV⟩,hv,hG⟩
structure FindsV (md : Region.Mode) (ops : Array Oper) (m : Nat) (V : Nat → Value → World → Prop) (G : (Nat → Bool) → (Nat → Value) → World → Prop) (L : Nat → Bool) (u : Nat → Value) (i : Nat) (a : Act) (w : World) : Prop where
 eq : ∀ j t,waitsFor md ops i j = true → slotOf ops j = some t → a.tmps.getD t undef = u j
 is : ∀ j,j < m → L j = true → V j (u j) w
 g : G L u w
def StepsY (P : Program) (md : Region.Mode) (ops : Array Oper) (Q : Exit → Act → World → Prop) (m : Nat) (J : (Nat → Bool) → World → Prop) (V : Nat → Value → World → Prop) (E : Nat → Bool) (G : (Nat → Bool) → (Nat → Value) → World → Prop) (a0 : Act) : Nat → Nat → List Oper → Prop
 | _,0,_ => True
 | _,_ + 1,[] => True
 | i,k + 1,o :: l => ((E i = false ∧ ∀ L a w,FindsG md ops m J V a0 L i a w → (∀ w',Kept w w' → J (upd L i true) w') ∧ StepOK P ops Q V i o a w) ∨ (∀ L u a w,FindsG md ops m J V a0 L i a w → FindsV md ops m V G L u i a w → StepGU P ops Q J V G L u i o a w)) ∧ StepsY P md ops Q m J V E G a0 (i + 1) k l
theorem stepsY_at {m : Nat} {J : (Nat → Bool) → World → Prop} {V : Nat → Value → World → Prop} {E : Nat → Bool} {G : (Nat → Bool) → (Nat → Value) → World → Prop} {a0 : Act} (hV : ∀ j u w w',Kept w w' → V j u w → V j u w')
 (hG : ∀ i,E i = false → ∀ L u v w w',Kept w w' → G L u w → G (upd L i true) (upd u i v) w') : ∀ (k i0 : Nat) (l : List Oper),StepsY P md ops Q m J V E G a0 i0 k l →
 ∀ i o,i < k → l[i]? = some o → ∀ L u a w,FindsG md ops m J V a0 L (i0 + i) a w → FindsV md ops m V G L u (i0 + i) a w → StepGU P ops Q J V G L u (i0 + i) o a w
 | 0,_,_,_,_,_,hi,_ => absurd hi (Nat.not_lt_zero _)
 | k + 1,_,[],_,_,_,_,ho => by simp at ho
 | k + 1, i0, x :: l, h, 0, o, _, ho => by
   simp at ho;subst ho
   intro L u a w F F'
   rcases h.1 with ⟨h1,h3⟩ | h3
   ·obtain ⟨q1, q2⟩ := h3 L a w F
    have q := stepG_kept hV q1 q2
    unfold StepOK at q2
    unfold StepGU
    by_cases hw : Region.wanted x (yielded ops a.tmps) = true
    ·rw [if_pos hw] at q2 ⊢
     refine Oper.wp_mono (fun a' w' qq => ?_) q2
     obtain ⟨v,rfl,k,hv⟩ := qq
     exact ⟨v,rfl,⟨q1 w' k,fun j _ u hu => hV j u _ _ k hu⟩,hv,hG _ h1 L u v w w' k F'.g⟩
    ·rw [if_neg hw] at q2 ⊢
     exact ⟨q1 w (Below.refl _ _),q2,hG _ h1 L u undef w w (Below.refl _ _) F'.g⟩
   ·exact h3 L u a w F F'
 | k + 1, i0, x :: l, h, i + 1, o, hi, ho => by
   have := stepsY_at hV hG k (i0 + 1) l h.2 i o (by omega) (by simpa using ho)
   have e : i0 + 1 + i = i0 + (i + 1) := by omega
   rw [e] at this
   exact this
theorem region_linY {id m : Nat} {E : Nat → Bool} {G : (Nat → Bool) → (Nat → Value) → World → Prop} {J : (Nat → Bool) → World → Prop} {l : List (Value → World → Prop)} {a0 : Act} {W : World} (hm : P.follows .mixedOrders = true)
 (hG : ∀ i,E i = false → ∀ L u v w w',Kept w w' → G L u w → G (upd L i true) (upd u i v) w') (hG0 : G (fun _ => false) (fun _ => undef) W.drew)
 (hsz : m = ops.size) (hap : apartSlots ops m = true) (hin : slotsIn ops m a0.tmps.size = true) (hbk : backOk .any ops = true) (hM : MonoL l)
 (hJ : J (fun _ => false) W.drew) (hstep : StepsY P .any ops Q m J (VL l) E G a0 0 m ops.toList)
 (hend : ∀ u w L,(∀ i,i < m → L i = true) → J L w → (∀ i,i < m → VL l i (u i) w) → G L u w → Q .normal (puts ops (fun _ => true) u m a0) w) :
 (Code.region id ops true).wp P Q a0 W := by
 refine region_linU (m := m) (J := fun L u w => J L w ∧ (∀ j,j < m → L j = true → VL l j (u j) w) ∧ G L u w) hm hsz hap hin hbk ⟨hJ,fun j _ h => by (cases h),hG0⟩ (fun i o hi ho L u a w F => ?_) (fun u w L hL hk => hend u w L hL hk.1 (fun i hi => hk.2.1 i hi (hL i hi)) hk.2.2)
 obtain ⟨f1,f2,f3⟩ := F.frame
 have GG : FindsG .any ops m J (VL l) a0 L i a w := ⟨f1,F.yet,F.wait,F.defers,fun j t h1 h2 => by rw [F.done j t h1 h2];exact f2 j (F.lt j (F.wait j h1)) (F.wait j h1),F.old⟩
 have h := stepsY_at (mono_of l hM) hG m 0 ops.toList hstep i o hi (by simpa using ho) L u a w (by simpa using GG) ⟨by simpa using F.done,f2,f3⟩
 rw [Nat.zero_add] at h
 unfold StepGU at h
 unfold StepU
 have up : ∀ (v : Value) (w' : World),(∀ j,j ≠ i → ∀ u,VL l j u w → VL l j u w') → VL l i v w' → ∀ j,j < m → upd L i true j = true → VL l j (upd u i v j) w' := by
  intro v w' hs hv j hj hL
  by_cases e : j = i
  ·subst e
   simpa [upd] using hv
  ·have : L j = true := by simpa [upd, e] using hL
   have := hs j e _ (f2 j hj this)
   simpa [upd,e] using this
 by_cases hw : Region.wanted o (yielded ops a.tmps) = true
 ·rw [if_pos hw] at h ⊢
  refine Oper.wp_mono (fun a' w' q => ?_) h
  obtain ⟨v,rfl,⟨k1,k2⟩,hv,hg⟩ := q
  exact ⟨v,rfl,k1,up v w' k2 hv,hg⟩
 ·rw [if_neg hw] at h ⊢
  obtain ⟨k1,k2,hg⟩ := h
  exact ⟨k1,up undef w (fun j _ u h => h) k2,hg⟩
end
end Go.Proofs.YtgododcbmkpbjaaGreatDoor
