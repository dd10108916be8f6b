/- Contracts of package jet, second part: sure, point, the worker's operations. -/
import Derived.Test.YtgododcbmkpbjaaGreatDoorClaimJrulp18
import Derived.Test.YtgododcbmkpbjaaGreatDoorClaimJrulp22
import Derived.Test.YtgododcbmkpbjaaGreatDoorClaimJrulp28
import Derived.Test.YtgododcbmkpbjaaGreatDoorClaimJrulp31
import Derived.Test.YtgododcbmkpbjaaGreatDoorClaimJrulp32
import Derived.Test.YtgododcbmkpbjaaGreatDoorClaimJrulp34
import Derived.OwnWalk
set_option maxRecDepth 100000
set_option maxHeartbeats 16000000
namespace Go.Proofs.YtgododcbmkpbjaaGreatDoor
open Go.Lib (hid)
open Go.RowKit
def RetIdx {α : Type} (l : List α) (g : α → Bool) (w : World) (e : Ending) (w' : World) : Prop := ∃ r : Int,e = .returned (.int .i64 r) ∧ decide (0 ≤ r) = l.any g ∧ Kept w w'
theorem any_false {α : Type} {l : List α} {g : α → Bool} (h : ∀ i x,i < l.length → l[i]? = some x → g x = false) : l.any g = false := by
 rw [List.any_eq_false]
 intro x hx
 obtain ⟨i,hi,he⟩ := List.mem_iff_getElem.1 hx
 rw [h i x hi (by rw [List.getElem?_eq_getElem hi,he])]
 decide
theorem any_true {α : Type} {l : List α} {g : α → Bool} {i : Nat} {x : α} (h : l[i]? = some x) (hg : g x = true) : l.any g = true := List.any_eq_true.2 ⟨x,List.mem_of_getElem? h,hg⟩
theorem index_c {w : World} {v : Value} {l : List Int} {g : Int → Bool} {bt : Nat} (hv : InS w v l) (hn : l.length ≤ 1000000000)
 (h : ∀ w1,Kept w w1 → ∀ x,x ∈ l → Calls Tryz.prog 98 #[.int .i64 x,.pointer (some ⟨bt,0,none⟩)] w1 (RetK (.bool (g x)) w1)) :
 Calls Tryz.prog 125 #[v,.func (.func 98) #[] #[.pointer (some ⟨bt,0,none⟩)]] w (RetIdx l g w) := by
 obtain ⟨A,c,rfl,hc,hA⟩ := hv
 have HG := hid h
 have HA := hid hA
 clear h hA
 obtain ⟨n,hn'⟩ : ∃ n,n = l.length := ⟨_,rfl⟩
 rw [← hn'] at hn hc HA ⊢
 have HN := hid hn'
 clear hn'
 go_enter Tryz.func125,Tryz.ntmps125
 go_wp2_with fail
 go_loopw [8] (fun t wr => ∃ k : Nat,k ≤ n ∧ t = .int .i64 k ∧ (∀ i x,i < k → l[i]? = some x → g x = false) ∧ Kept w wr) (fun t _ => (n - intOf t).toNat)
 case atStart => exact ⟨0,Nat.zero_le _,rfl,fun i a hi => absurd hi (Nat.not_lt_zero _),Below.refl _ _⟩
 case round =>
  obtain ⟨k,hk,rfl,hall,hKr⟩ := hrel
  have KR := hid hKr
  have AL := hid hall
  clear hKr hall
  by_cases hlt : k < n
  ·obtain ⟨b, off, rfl, hd⟩ := HA.out (by omega)
   obtain ⟨x,hx⟩ : ∃ x,l[k]? = some x := ⟨_,List.getElem?_eq_getElem (by have := HN.out;omega)⟩
   have hcell := hd k x hx
   have hc0 := (KR.out.cell (p := ⟨b,off + k,none⟩) (lt_of_cell hcell)).trans hcell
   have HX := hid hx
   have hm := HG.out wr KR.out x (List.mem_of_getElem? hx)
   obtain ⟨gx,hgx⟩ : ∃ y,y = g x := ⟨_,rfl⟩
   rw [← hgx] at hm
   have HM := hid hm
   have HGX := hid hgx
   clear hd hcell hx hm hgx
   go_wp2_with fail
   refine HM.out.mono ?_
   rintro e w2 ⟨rfl,q⟩
   have K2 := hid (KR.out.trans q)
   clear q hc0
   simp only []
   cases gx
   ·go_wp2_with fail
    go_roundw
    case rel =>
     refine ⟨k + 1,by omega,by go_num,fun i a hi ha' => ?_,K2.out⟩
     by_cases h2 : i = k
     ·subst h2
      rw [HX.out] at ha'
      cases ha'
      exact HGX.out.symm
     ·exact AL.out i a (by omega) ha'
    case measure => simp only [intOf];omega
   ·go_wp2_with fail
    go_ret
    exact ⟨k,rfl,by rw [any_true HX.out HGX.out.symm];simp,K2.out⟩
  ·obtain rfl : k = n := by omega
   go_wp2_with fail
   go_ret
   exact ⟨-1,rfl,by rw [any_false (fun i x hi hx => AL.out i x (by have := HN.out;omega) hx)];decide,KR.out⟩
theorem contains_c {w : World} {v : Value} {l : List Int} {g : Int → Bool} {bt : Nat} (hv : InS w v l) (hn : l.length ≤ 1000000000)
 (h : ∀ w1,Kept w w1 → ∀ x,x ∈ l → Calls Tryz.prog 98 #[.int .i64 x,.pointer (some ⟨bt,0,none⟩)] w1 (RetK (.bool (g x)) w1)) :
 Calls Tryz.prog 97 #[v,.func (.func 98) #[] #[.pointer (some ⟨bt,0,none⟩)]] w (RetK (.bool (l.any g)) w) := by
 have C := hid (index_c hv hn h)
 obtain ⟨A,c,rfl,-,-⟩ := hv
 clear hn h
 go_enter Tryz.func97,Tryz.ntmps97
 go_wp2_with fail
 refine C.out.mono ?_
 rintro e w2 ⟨r,rfl,hr,q⟩
 have Q := hid q
 have HR := hid hr
 clear q hr C
 simp only []
 go_wp2_with fail
 go_ret
 exact ⟨by rw [← HR.out];rfl,Q.out⟩
theorem mayLs_iff (x u p : Int) : ∀ (ls : List Ln) (i : Nat),mayLs x u p i ls = true ↔ ∀ j l,ls[j]? = some l → mayL l ((i + j : Nat) : Int) x u p = true
 | [],i => by simp [mayLs]
 | l :: ls, i => by
   rw [mayLs,Bool.and_eq_true,mayLs_iff x u p ls (i + 1)]
   constructor
   ·rintro ⟨h1, h2⟩ j m hm
    rcases j with _ | j
    ·simp at hm;subst hm;exact h1
    ·simp at hm
     have := h2 j m hm
     rw [show i + (j + 1) = i + 1 + j by omega];exact this
   ·intro h
    refine ⟨h 0 l (by simp),fun j m hm => ?_⟩
    have := h (j + 1) m (by simpa using hm)
    rw [show i + 1 + j = i + (j + 1) by omega];exact this
theorem cells2 {w : World} {b : Nat} {x y : Value} {T : TypeId} (h : w.heap[b]? = some (.cells #[x,y] T (0,0))) : w.cell? ⟨b,0,none⟩ = some x ∧ w.cell? ⟨b,1,none⟩ = some y := ⟨cell_of_block h 0 _ rfl,cell_of_block h 1 _ rfl⟩
theorem blk_kept {w w' : World} {b : Nat} {o : Obj} (h : w.heap[b]? = some o) (k : Kept w w') : w'.heap[b]? = some o := (k.block b (Array.getElem?_eq_some_iff.1 h).1).trans h
theorem may1_tc {w : World} {bt ln c : Nat} {n : Int} {A : Option Addr} {so : Value} (hb : w.heap[bt]? = some (.cells #[.slice A ln c,so] 27 (0,0))) :
 Calls Tryz.prog 98 #[.int .i64 n,.pointer (some ⟨bt,0,none⟩)] w (RetK (.bool (!belowP n ln)) w) := by
 obtain ⟨c0,c1⟩ := cells2 hb
 have B := hid (below_c n ln w)
 obtain ⟨f,hf⟩ : ∃ f,belowP n ln = f := ⟨_,rfl⟩
 rw [hf] at B ⊢
 clear hf hb
 go_enter Tryz.func98,Tryz.ntmps98
 go_wp2_with fail
 refine B.out.mono ?_
 rintro e w2 ⟨rfl,q⟩
 simp only []
 go_wp2_with fail
 go_ret
 exact ⟨rfl,q⟩
theorem boxT (w : World) (s o : Value) : ∃ W,W = w.alloc (.cells #[s,o] 27) ∧ Kept w W ∧ W.heap[w.heap.size]? = some (.cells #[s,o] 27 (0,0)) ∧ w.heap.size < W.heap.size :=
 ⟨_,rfl,kept_alloc _ _,heap_alloc_new _ _,by simp⟩
def LnOk (ls : List Ln) : Prop := ∀ l ∈ ls,-9223372036854775808 ≤ l.op ∧ l.op ≤ 9223372036854775807 ∧ l.k.lens 17592186044416
theorem may_tc {w : World} {v : Value} {ls : List Ln} {outs : List Int} {x u p : Int} (hv : TpR w v ls outs) (hok : LnOk ls) (hn : ls.length ≤ 1000000000) (hno : outs.length ≤ 1000000000)
 (hx : -9223372036854775808 ≤ x ∧ x ≤ 9223372036854775807) (hu : -9223372036854775808 ≤ u ∧ u ≤ 9223372036854775807) (hp : -9223372036854775808 ≤ p ∧ p ≤ 9223372036854775807) :
 Calls Tryz.prog 55 #[v,.int .i64 x,.int .i64 u,.int .i64 p] w (RetK (.bool (mayT ls outs x u p)) w) := by
 obtain ⟨s,o,rfl,hls,hou⟩ := hv
 have HL := hid hls
 have HO := hid hou
 obtain ⟨A,c,rfl,hc,hA⟩ := hls
 obtain ⟨B,d,rfl,hd,-⟩ := hou
 have HA := hid hA
 have OK := hid hok
 obtain ⟨W,hW,kW,hb,lW⟩ := boxT w (.slice A ls.length c) (.slice B outs.length d)
 have HW := hid hW
 have K := hid kW
 have HB := hid hb
 obtain ⟨c0,c1⟩ := cells2 hb
 clear hA hok hW kW hb
 by_cases h1 : ls.length ≤ 200
 ·by_cases h2 : outs.length ≤ 200
  ·obtain ⟨w1, w2, w3, r1, r2, r3, hm, k3⟩ := mapR_made W hx.1 hx.2 hu.1 hu.2 hp.1 hp.2
   have hmm := @run_makeMap Tryz.prog
   have em : mayT ls outs x u p = (mayLs x u p 0 ls && !(outs.any fun n => !belowP n ls.length)) := by
    unfold mayT
    rw [show decide (ls.length ≤ 200) = true by simpa using h1,show decide (outs.length ≤ 200) = true by simpa using h2,Bool.true_and,Bool.true_and,List.all_eq_not_any_not]
   rw [em]
   obtain ⟨m1,hm1⟩ : ∃ m1,mayLs x u p 0 ls = m1 := ⟨_,rfl⟩
   rw [hm1]
   have HM1 := hid hm1
   generalize hn' : ls.length = n at *
   have HN := hid hn'
   have HM := hid hm
   have K3 := hid k3
   have CC := hid (fun w1 (k : Kept W w1) => contains_c (w := w1) (g := fun y => !belowP y n) (bt := w.heap.size) (HO.out.kept (K.out.trans k)) hno (fun w2 q y _ => may1_tc (blk_kept HB.out (k.trans q))))
   obtain ⟨m2,hm2⟩ : ∃ m2,(outs.any fun n' => !belowP n' n) = m2 := ⟨_,rfl⟩
   rw [hm2] at CC ⊢
   clear hm1 hn' hm k3 hm2 em
   have t1 : decide ((200 : Int) < (n : Int)) = false := by simp;omega
   have t2 : decide ((200 : Int) < (outs.length : Int)) = false := by simp;omega
   go_enter Tryz.func55,Tryz.ntmps55
   go_upto_region 1 with fail
   rw [← HW.out]
   obtain ⟨e0,e1⟩ := cells2 (blk_kept HB.out K3.out)
   go_wp2_with fail
   clear c0 c1 e0 e1 r1 r2 r3 hmm t1 t2
   go_loopw [30] (fun t wr => ∃ k : Nat,k ≤ n ∧ t = .int .i64 k ∧ (∀ i l,i < k → ls[i]? = some l → mayL l (i : Int) x u p = true) ∧ Kept w3 wr) (fun t _ => (n - intOf t).toNat)
   case atStart => exact ⟨0,Nat.zero_le _,rfl,fun i a hi => absurd hi (Nat.not_lt_zero _),Below.refl _ _⟩
   case round =>
    obtain ⟨k,hk,rfl,hall,hKr⟩ := hrel
    have KR := hid hKr
    have AL := hid hall
    clear hKr hall
    by_cases hlt : k < n
    ·obtain ⟨b, off, rfl, hd⟩ := HA.out (by omega)
     obtain ⟨l,hl⟩ : ∃ l,ls[k]? = some l := ⟨_,List.getElem?_eq_getElem (by have := HN.out;omega)⟩
     have hat := (hd k l hl).kept (K.out.trans (K3.out.trans KR.out))
     obtain ⟨a0,a1,a2,y0,y1,y2,y3,y4,y5,g0,g1,g2,g3,g4,g5,hI⟩ := hat
     obtain ⟨A1,l1,q1,A2,l2,q2,ei,-,-⟩ := ivR_split hI
     injection ei with ei;injection ei with ei
     simp only [List.cons.injEq,and_true] at ei
     obtain ⟨rfl,rfl,rfl,rfl,rfl,rfl⟩ := ei
     obtain ⟨o1,o2,ol⟩ := OK.out l (List.mem_of_getElem? hl)
     have hm := fun w2 (q : Kept wr w2) => mayLine_c (a := l.a) (b := l.b) (i := k) (hI.kept q) ol (HM.out.kept (KR.out.trans q)) o1 o2
     have HLK := hid hl
     obtain ⟨mb,hmb⟩ : ∃ mb,mb = mayL l (k : Int) x u p := ⟨_,rfl⟩
     have hm2 := fun w2 (q : Kept wr w2) => show Calls _ _ _ _ (RetK (.bool mb) w2) by rw [hmb];exact hm w2 q
     have HMB := hid hmb
     have HMM := hid hm2
     clear hd hl hI ol hm hm2 hmb o1 o2
     go_wp2_with fail
     refine (HMM.out _ (kept_alloc _ _)).mono ?_
     rintro e w2' ⟨rfl,q⟩
     have K2 := hid (KR.out.trans ((kept_alloc _ _).trans q))
     clear q a0 a1 a2 g0 g1 g2 g3 g4 g5 HMM
     simp only []
     cases mb
     ·go_wp2_with fail
      go_ret
      have e1 : m1 = false := by
       cases hm : m1
       ·rfl
       ·have h1 := (mayLs_iff x u p ls 0).1 (HM1.out.trans hm) k l HLK.out
        rw [Nat.zero_add] at h1
        rw [← HMB.out] at h1;cases h1
      exact ⟨by rw [e1];rfl,K.out.trans (K3.out.trans K2.out)⟩
     ·go_wp2_with fail
      go_roundw
      case rel =>
       refine ⟨k + 1,by omega,by go_num,fun i a hi ha' => ?_,K2.out⟩
       by_cases h2 : i = k
       ·subst h2
        rw [HLK.out] at ha'
        cases ha'
        exact HMB.out.symm
       ·exact AL.out i a (by omega) ha'
      case measure => simp only [intOf];omega
    ·obtain rfl : k = n := by omega
     have e1 : m1 = true := by
      rw [← HM1.out]
      refine (mayLs_iff x u p ls 0).2 fun j m hm => ?_
      rw [Nat.zero_add]
      exact AL.out j m (by have := (List.getElem?_eq_some_iff.1 hm).1;have := HN.out;omega) hm
     obtain ⟨f0,f1⟩ := cells2 (blk_kept HB.out (K3.out.trans KR.out))
     have hmf : ∀ (fn : Fn) (first cap : Array Value) (w : World),(Instr.makeFunc fn first cap).run Tryz.prog w = .ok (.func fn first cap) w := fun _ _ _ _ => rfl
     go_wp2_with fail
     refine (CC.out _ (K3.out.trans KR.out)).mono ?_
     rintro e w2' ⟨rfl,q⟩
     have K2 := hid (KR.out.trans q)
     clear q f0 f1
     simp only []
     go_wp2_with fail
     go_ret
     exact ⟨by rw [e1];rfl,K.out.trans (K3.out.trans K2.out)⟩
  ·have em : mayT ls outs x u p = false := by
    unfold mayT;rw [show decide (outs.length ≤ 200) = false by simpa using h2];simp
   rw [em]
   have t1 : decide ((200 : Int) < (ls.length : Int)) = false := by simp;omega
   have t2 : decide ((200 : Int) < (outs.length : Int)) = true := by simp;omega
   clear em
   go_enter Tryz.func55,Tryz.ntmps55
   go_upto_region 1 with fail
   rw [← HW.out]
   go_wp2_with fail
   go_ret
   exact ⟨rfl,K.out⟩
 ·have em : mayT ls outs x u p = false := by
   unfold mayT;rw [show decide (ls.length ≤ 200) = false by simpa using h1];simp
  rw [em]
  have t1 : decide ((200 : Int) < (ls.length : Int)) = true := by simp;omega
  clear em
  go_enter Tryz.func55,Tryz.ntmps55
  go_upto_region 1 with fail
  rw [← HW.out]
  go_wp2_with fail
  go_ret
  exact ⟨rfl,K.out⟩
theorem boxV (w : World) (x y z x' y' z' : Value) : ∃ V,V = w.alloc (.cells #[x,y,z,x',y',z'] 32) ∧ Kept w V ∧ BlkI V w.heap.size x y z x' y' z' ∧ w.heap.size < V.heap.size :=
 ⟨_,rfl,kept_alloc _ _,blkI_new _ _ _ _ _ _ _,by simp⟩
theorem OwnI.base {w : World} {base : Nat} {v : Value} {l : List RawI} {xs : List Value} (h : OwnI w base v l xs) : ∀ g,v.ownBlock = some g → base ≤ g := by
 intro g hg
 rcases h.row.2 with ⟨rfl,-⟩ | ⟨g',cap,cur,rfl,hb,-⟩
 ·simp [Value.ownBlock] at hg
 ·simp [Value.ownBlock] at hg;subst hg;exact hb
theorem OwnI.grown_kept {W w w' : World} {v : Value} {l : List RawI} {xs : List Value} (h : OwnI w W.heap.size v l xs) (k : Kept W w) (hg : w.grownBy w' v.ownBlock) : Kept W w' :=
 Below.grown k hg k.size (fun g hg' => h.base g hg')
theorem ivS_nil (w : World) : IvS w (.slice none 0 0) [] := ⟨none,0,rfl,Nat.le_refl _,fun h => absurd h (by simp)⟩
def Rws (w : World) (v : Value) (rows : List (List RawI)) : Prop := ∃ A c,v = .slice A rows.length c ∧ rows.length ≤ c ∧ (0 < rows.length → ∃ b off,A = some ⟨b,off,none⟩ ∧ ∀ (i : Nat) (r : List RawI),rows[i]? = some r → ∃ s : Value,w.cell? ⟨b,off + i,none⟩ = some s ∧ IvS w s r)
theorem rws_nil (w : World) : Rws w (.slice none 0 0) [] := ⟨none,0,rfl,Nat.le_refl _,fun h => absurd h (by simp)⟩
theorem Rws.kept {w w' : World} {v : Value} {rows : List (List RawI)} (h : Rws w v rows) (k : Kept w w') : Rws w' v rows := by
 obtain ⟨A,c,e,hc,h⟩ := h
 refine ⟨A,c,e,hc,fun h0 => ?_⟩
 obtain ⟨b,off,rfl,hd⟩ := h h0
 exact ⟨b,off,rfl,fun i r hi => (hd i r hi).imp fun s hs => ⟨(k.cell (p := ⟨b,off + i,none⟩) (lt_of_cell hs.1)).trans hs.1,hs.2.kept k⟩⟩
def SlC (u : Value) : Prop := ∃ A a c,u = .slice A a c
theorem SlC.nl {u : Value} (h : SlC u) : NoLimb u := by
 obtain ⟨A,a,c,rfl⟩ := h
 exact noLimb_slice _ _ _
theorem AllC.nol {w : World} {g : Nat} (h : AllC SlC w g) : NoL w g := by
 obtain ⟨cur,e,h1,h2⟩ := h
 exact ⟨cur,e,h1,fun u hu => (h2 u hu).nl⟩
theorem IvAt.grownR {w w' : World} {b o : Nat} {a : RawI} {row : Option Nat} (h : IvAt w b o a) (hg : w.grownBy w' row) (hN : ∀ g,row = some g → AllC SlC w g) : IvAt w' b o a := by
 obtain ⟨x,y,z,x',y',z',h0,h1,h2,h3,h4,h5,hI⟩ := h
 have hb := lt_of_cell h0
 have hne : row ≠ some b := by
  intro hr
  obtain ⟨cur,e,q1,q2⟩ := hN b hr
  obtain ⟨A1,l1,c1,A2,l2,c2,ei,-,-⟩ := ivR_split hI
  injection ei with ei;injection ei with ei
  simp only [List.cons.injEq,and_true] at ei
  obtain ⟨rfl,rfl,rfl,rfl,rfl,rfl⟩ := ei
  simp only [World.cell?,q1] at h0
  have h6 : cur[o]? = some (.bool a.lo.neg) := by simpa using h0
  rw [← Array.getElem?_toList] at h6
  obtain ⟨A,x,c,e⟩ := q2 _ (List.mem_of_getElem? h6)
  cases e
 have hc : ∀ k v,w.cell? ⟨b,k,none⟩ = some v → w'.cell? ⟨b,k,none⟩ = some v := by
  intro k v hv
  have := hg.block b hb (Ne.symm hne)
  simp only [World.cell?,this]
  simpa only [World.cell?] using hv
 exact ⟨x,y,z,x',y',z',hc _ _ h0,hc _ _ h1,hc _ _ h2,hc _ _ h3,hc _ _ h4,hc _ _ h5,hI.grown hg fun g hg' => (hN g hg').nol⟩
theorem IvS.grownR {w w' : World} {v : Value} {l : List RawI} {row : Option Nat} (h : IvS w v l) (hg : w.grownBy w' row) (hN : ∀ g,row = some g → AllC SlC w g) : IvS w' v l := by
 obtain ⟨A,c,e,hc,h⟩ := h
 refine ⟨A,c,e,hc,fun h0 => ?_⟩
 obtain ⟨b,off,rfl,hd⟩ := h h0
 exact ⟨b,off,rfl,fun i a hi => (hd i a hi).grownR hg hN⟩
structure OwnR (w : World) (base : Nat) (v : Value) (l : List (List RawI)) (xs : List Value) : Prop where
 row : w.ownsRow base 33 1 v l.length xs
 sl : ∀ u ∈ xs,SlC u
 blk : ∀ g,v.ownBlock = some g → AllC SlC w g
 rws : ∀ (i : Nat) (r : List RawI),l[i]? = some r → ∃ s : Value,xs[i]? = some s ∧ IvS w s r
theorem OwnR.nil (w : World) (base : Nat) : OwnR w base (.slice none 0 0) [] [] :=
 ⟨World.ownsRow_nil _ _ _ _,by simp,(by intro g h;simp [Value.ownBlock] at h),by simp⟩
theorem OwnR.kept {w w' : World} {base : Nat} {v : Value} {l : List (List RawI)} {xs : List Value} (h : OwnR w base v l xs) (k : Kept w w') : OwnR w' base v l xs := by
 obtain ⟨h1,h2,h3,h4⟩ := h
 refine ⟨⟨h1.1,?_⟩,h2,?_,?_⟩
 ·rcases h1.2 with hn | ⟨g, cap, cur, rfl, hb, hg, rest⟩
  ·exact .inl hn
  ·exact .inr ⟨g,cap,cur,rfl,hb,(k.block g (Array.getElem?_eq_some_iff.1 hg).1).trans hg,rest⟩
 ·intro g hg
  obtain ⟨cur,e,q1,q2⟩ := h3 g hg
  exact ⟨cur,e,(k.block g (Array.getElem?_eq_some_iff.1 q1).1).trans q1,q2⟩
 ·intro i d hi
  obtain ⟨s,a0,hd⟩ := h4 i d hi
  exact ⟨s,a0,hd.kept k⟩
theorem OwnR.all {w : World} {base : Nat} {v : Value} {l : List (List RawI)} {xs : List Value} (h : OwnR w base v l xs) : Rws w v l := by
 obtain ⟨h1,h2,h3,h4⟩ := h
 have hc := h1.2
 rcases hc with ⟨rfl,h0⟩ | ⟨g,cap,cur,rfl,hb,hg,hn,-⟩
 ·obtain rfl : l = [] := List.eq_nil_of_length_eq_zero h0
  exact rws_nil _
 ·refine ⟨_, cap, rfl, hn, fun _ => ⟨g, 0, rfl, fun i d hi => ?_⟩⟩
  obtain ⟨s,a0,hd⟩ := h4 i d hi
  have cl := h1.cells (g := g) rfl
  have ad : ∀ j,(⟨g,0,none⟩ : Addr).add j = ⟨g,j,none⟩ := by intro j;unfold Addr.add;split <;> simp_all
  refine ⟨s,?_,hd⟩
  have := cl _ _ a0;rw [ad] at this;simpa using this
theorem OwnR.snoc {w w' : World} {base : Nat} {v v' s : Value} {l : List (List RawI)} {xs : List Value} {a : List RawI} {g' : Nat} (h : OwnR w base v l xs)
 (hd : IvS w s a) (hr : w'.ownsRow base 33 1 v' (l.length + 1) (xs ++ [s])) (hg : w.grownBy w' v.ownBlock) (hv' : v'.ownBlock = some g') (hN : AllC SlC w' g') :
 OwnR w' base v' (l ++ [a]) (xs ++ [s]) := by
 obtain ⟨h1,h2,h3,h4⟩ := h
 refine ⟨by simpa using hr,?_,?_,?_⟩
 ·intro u hu
  rcases List.mem_append.1 hu with hu | hu
  ·exact h2 u hu
  ·simp only [List.mem_singleton] at hu
   subst hu
   obtain ⟨A,c,rfl,-⟩ := hd
   exact ⟨_,_,_,rfl⟩
 ·intro g hg
  rw [hv'] at hg
  cases hg
  exact hN
 ·intro i e hi
  have hxl := h1.1
  by_cases hlt : i < l.length
  ·rw [List.getElem?_append_left hlt] at hi
   obtain ⟨s0,a0,hd'⟩ := h4 i e hi
   refine ⟨s0,?_,hd'.grownR hg h3⟩
   rw [List.getElem?_append_left (by omega)];exact a0
  ·rw [List.getElem?_append_right (by omega)] at hi
   obtain ⟨hz,he⟩ := List.getElem?_eq_some_iff.1 hi
   simp at hz
   have hi' : i = l.length := by omega
   subst hi'
   simp at he
   subst he
   refine ⟨s,?_,hd.grownR hg h3⟩
   rw [List.getElem?_append_right (by omega),hxl,show l.length - l.length * 1 = 0 by omega];rfl
theorem OwnR.base {w : World} {base : Nat} {v : Value} {l : List (List RawI)} {xs : List Value} (h : OwnR w base v l xs) : ∀ g,v.ownBlock = some g → base ≤ g := by
 intro g hg
 rcases h.row.2 with ⟨rfl,-⟩ | ⟨g',cap,cur,rfl,hb,-⟩
 ·simp [Value.ownBlock] at hg
 ·simp [Value.ownBlock] at hg;subst hg;exact hb
theorem OwnR.grown_kept {W w w' : World} {v : Value} {l : List (List RawI)} {xs : List Value} (h : OwnR w W.heap.size v l xs) (k : Kept W w) (hg : w.grownBy w' v.ownBlock) : Kept W w' :=
 Below.grown k hg k.size (fun g hg' => h.base g hg')
theorem rinfo : (Tryz.prog.info? 33).map (fun i => (i.zero,i.size,i.bytes)) = some (some (.slice none 0 0),1,24) := by kernel_rfl
theorem IvAt.word {w : World} {b b' o : Nat} {a : RawI} {x : Value} {T : TypeId} (h : IvAt w b' o a) (hb : w.heap[b]? = some (.cells #[x] T (0,0))) (hx : NoLimb x) (y : Value) : IvAt (w.setCell ⟨b,0,none⟩ y) b' o a := by
 obtain ⟨p,q,r,p',q',r',h0,h1,h2,h3,h4,h5,hI⟩ := h
 have hne : ¬ b' = b := by
  rintro rfl
  simp only [World.cell?,hb] at h5
  simp at h5
 have k : KB w [b] (w.setCell ⟨b,0,none⟩ y) := (KB.refl w [b]).setCell (by simp) (cell_of_block hb 0 x rfl) hx y
 exact IvAt.kb ⟨p,q,r,p',q',r',h0,h1,h2,h3,h4,h5,hI⟩ k (by simpa using hne)
theorem IvS.word {w : World} {b : Nat} {v : Value} {l : List RawI} {x : Value} {T : TypeId} (h : IvS w v l) (hb : w.heap[b]? = some (.cells #[x] T (0,0))) (hx : NoLimb x) (y : Value) : IvS (w.setCell ⟨b,0,none⟩ y) v l := by
 obtain ⟨A,c,e,hc,h⟩ := h
 refine ⟨A,c,e,hc,fun h0 => ?_⟩
 obtain ⟨b',off,rfl,hd⟩ := h h0
 exact ⟨b',off,rfl,fun i a hi => (hd i a hi).word hb hx y⟩
theorem Rws.word {w : World} {b : Nat} {v : Value} {l : List (List RawI)} {x : Value} {T : TypeId} (h : Rws w v l) (hv : v.ownBlock ≠ some b ∨ l = []) (hb : w.heap[b]? = some (.cells #[x] T (0,0))) (hx : NoLimb x) (y : Value) : Rws (w.setCell ⟨b,0,none⟩ y) v l := by
 obtain ⟨A,c,e,hc,h⟩ := h
 refine ⟨A,c,e,hc,fun h0 => ?_⟩
 obtain ⟨b',off,rfl,hd⟩ := h h0
 have hne : ¬ b' = b := by
  rcases hv with hv | rfl
  ·rintro rfl
   rw [e] at hv
   exact hv rfl
  ·exact absurd h0 (by simp)
 have k : KB w [b] (w.setCell ⟨b,0,none⟩ y) := (KB.refl w [b]).setCell (by simp) (cell_of_block hb 0 x rfl) hx y
 exact ⟨b',off,rfl,fun i r hi => (hd i r hi).imp fun s hs => ⟨k.cell hs.1 (by simpa using hne),hs.2.word hb hx y⟩⟩
theorem must_okJ (k : Int) (w : World) : Calls Tryz.prog 53 #[.bool true,.int .i64 k] w fun e w' => e = .returned (.tuple #[]) ∧ w = w' := by
 go_enter Tryz.func53,Tryz.ntmps53
 go_wp2
 go_end0
 exact ⟨rfl,rfl⟩
theorem must_badJ (k : Int) (w : World) : Calls Tryz.prog 53 #[.bool false,.int .i64 k] w fun e w' => e = .panicked (failV 117 k) ∧ w = w' := by
 go_enter Tryz.func53,Tryz.ntmps53
 go_wp2
 exact ⟨rfl,rfl,rfl⟩
theorem must_cJ (b : Bool) (k : Int) (w : World) : Calls Tryz.prog 53 #[.bool b,.int .i64 k] w fun e w' => e = mustE 117 b k ∧ w = w' := by
 cases b
 ·exact must_badJ k w
 ·exact must_okJ k w
theorem must_trueJ (k : Int) (w : World) : Calls Tryz.prog 53 #[.bool true,.int .i64 k] w (RetK (.tuple #[]) w) := (must_cJ true k w).mono fun _ _ ⟨he,hw⟩ => ⟨he,hw ▸ Below.refl _ _⟩
theorem must_ifJ (b : Bool) (k : Int) (w : World) : Calls Tryz.prog 53 #[.bool b,.int .i64 k] w fun e w' => (∃ v,e = .returned v ∧ Kept w w' ∧ (b = true ∧ v = .tuple #[])) ∨ (∃ c,e = .panicked c ∧ (b = false ∧ c = failV 117 k ∧ w = w')) :=
 (must_cJ b k w).mono fun e w' ⟨he,hw⟩ => by
   subst hw
   cases b
   ·exact .inr ⟨_,he,rfl,rfl,rfl⟩
   ·exact .inl ⟨_,he,Below.refl _ _,rfl,rfl⟩
theorem run_assert_failJ (k : Int) (w : World) : (Instr.typeAssert (.iface 117 (.agg #[.int .i64 k])) 20 117 true).run Tryz.prog w = .ok (.tuple #[.agg #[.int .i64 k],.bool true]) w := by
 kernel_rfl
theorem run_assert_nilJ (w : World) : (Instr.typeAssert .nilIface 20 117 true).run Tryz.prog w = .ok (.tuple #[.agg #[.int .i64 0],.bool false]) w := by
 kernel_rfl
def laidJ (w : World) (b2 b3 : Nat) (x q : Value) (o : Obj) : World := ((w.setCell ⟨b2,0,none⟩ x).setCell ⟨b3,0,none⟩ q).alloc o
theorem catchJ_fail (b2 b3 : Nat) (w : World) (k : Int) (x q : Value)
 (h0 : w.heap[b2]? = some (.cells #[x] 42 (0,0))) (h1 : w.heap[b3]? = some (.cells #[q] 3 (0,0))) (hne : ¬ b2 = b3) :
 CallsD Tryz.prog 95 #[.pointer (some ⟨b2,0,none⟩),.pointer (some ⟨b3,0,none⟩)] (.panicking (failV 117 k)) w fun e u' w' =>
  e = .returned (.tuple #[]) ∧ u' = .panicking [{ v := .iface 117 (.agg #[.int .i64 k]),recovered := true }] ∧ w' = (laidJ w b2 b3 (.slice none 0 0) (.int .i64 k) (.cells #[.int .i64 k] 117)).drew := by
 have ha := run_assert_failJ k
 have l2 : b2 < w.heap.size := (Array.getElem?_eq_some_iff.1 h0).1
 have l3 : b3 < w.heap.size := (Array.getElem?_eq_some_iff.1 h1).1
 have n2 : ¬ b2 = w.heap.size := by omega
 have n3 : ¬ b3 = w.heap.size := by omega
 have n2' : ¬ w.heap.size = b2 := by omega
 have n3' : ¬ w.heap.size = b3 := by omega
 have hne' : ¬ b3 = b2 := fun h => hne h.symm
 have c20 := cell_of_block h0 0 x rfl
 have c30 := cell_of_block h1 0 q rfl
 have f20 := free_of_block h0 0
 have f30 := free_of_block h1 0
 refine callsD_of_wpS Tryz.func95 rfl fun c₀ cs hu => ?_
 simp only [Tryz.ntmps95,List.size_toArray,List.length_cons,List.length_nil,Nat.reduceAdd,Nat.reduceSub,Array.replicate_succ,
  Array.replicate_zero,List.push_toArray,List.append_toArray,List.nil_append,List.cons_append]
 refine wpS_recovers (v := .iface 117 (.agg #[.int .i64 k])) (cs' := { c₀ with mode := .panicking [{ v := .iface 117 (.agg #[.int .i64 k]),recovered := true }] } :: cs) (w' := w) rfl ?_ ?_ ?_
 ·simp [go_sem]
 ·rw [recoverD,hu];exact ⟨rfl,rfl⟩
 go_wp2_with fail
 go_region
 exact ⟨rfl,_,rfl,_,results_none rfl _ _ _,rfl,rfl,rfl⟩
theorem catchJ_idle (b2 b3 : Nat) (w : World) :
 CallsD Tryz.prog 95 #[.pointer (some ⟨b2,0,none⟩),.pointer (some ⟨b3,0,none⟩)] .returning w fun e u' w' =>
  e = .returned (.tuple #[]) ∧ u' = .returning ∧ w' = w.alloc (.cells #[.int .i64 0] 117) := by
 have ha := run_assert_nilJ
 refine callsD_of_wpS Tryz.func95 rfl fun c₀ cs hu => ?_
 simp only [Tryz.ntmps95,List.size_toArray,List.length_cons,List.length_nil,Nat.reduceAdd,Nat.reduceSub,Array.replicate_succ,
  Array.replicate_zero,List.push_toArray,List.append_toArray,List.nil_append,List.cons_append]
 refine wpS_recovers (v := .nilIface) (cs' := c₀ :: cs) (w' := w) rfl ?_ ?_ ?_
 ·simp [go_sem]
 ·rw [recoverD,hu];exact ⟨rfl,rfl⟩
 go_wp2_with fail
 exact ⟨rfl,.returning,by rw [← hu],_,results_none rfl _ _ _,rfl,rfl,rfl⟩
def GoesI (o : Outc Iv) (w : World) (e : Ending) (w' : World) : Prop := Kept w w' ∧ ((o.k = 0 ∧ ∃ v,e = .returned v ∧ IvR w' v o.v.raw) ∨ (o.k ≠ 0 ∧ e = .panicked (failV 117 o.k)))
def GoesL (o : Outc (List RawI)) (w : World) (e : Ending) (w' : World) : Prop := Kept w w' ∧ ((o.k = 0 ∧ ∃ v,e = .returned v ∧ IvS w' v o.v ∧ ∀ g,v.ownBlock = some g → w.heap.size ≤ g) ∨ (o.k ≠ 0 ∧ e = .panicked (failV 117 o.k)))
def GoesLL (o : Outc (List (List RawI))) (w : World) (e : Ending) (w' : World) : Prop := Kept w w' ∧ ((o.k = 0 ∧ ∃ v,e = .returned v ∧ Rws w' v o.v ∧ ∀ g,v.ownBlock = some g → w.heap.size ≤ g) ∨ (o.k ≠ 0 ∧ e = .panicked (failV 117 o.k)))
def RetLL (o : Outc (List (List RawI))) (w : World) (e : Ending) (w' : World) : Prop := Kept w w' ∧ ∃ v,e = .returned (.tuple #[v,.int .i64 o.k]) ∧ Rws w' v o.v
theorem face_cJ {w : World} {K : Nat} {cap : Array Value} {o : Outc (List (List RawI))} (h : ∀ w1,Kept w w1 → Calls Tryz.prog K cap w1 (GoesLL o w1)) (hz : o.k ≠ 0 → o.v = [])
 (hk : ∀ w,(callFunc K cap).run Tryz.prog w = .ok (.enter K cap) w) :
 Calls Tryz.prog 51 #[.func (.func K) #[] cap] w (RetLL o w) := by
 have hmf : ∀ (fn : Fn) (first cap : Array Value) (w : World),(Instr.makeFunc fn first cap).run Tryz.prog w = .ok (.func fn first cap) w := fun _ _ _ _ => rfl
 have HH := hid h
 clear h
 go_enter_defers Tryz.func51,Tryz.ntmps51
 go_wp2_with fail
 have k1 : Kept w ((w.alloc (.cells #[.slice none 0 0] 42)).alloc (.cells #[.int .i64 0] 3)) := (kept_alloc _ _).trans (kept_alloc _ _)
 refine (HH.out _ k1).mono ?_
 have b0 : ((w.alloc (.cells #[.slice none 0 0] 42)).alloc (.cells #[.int .i64 0] 3)).heap[w.heap.size]? = some (.cells #[.slice none 0 0] 42 (0,0)) := by
  rw [Below.heap_alloc _ _ _ (by simp)];exact heap_alloc_new _ _
 have b1 : ((w.alloc (.cells #[.slice none 0 0] 42)).alloc (.cells #[.int .i64 0] 3)).heap[w.heap.size + 1]? = some (.cells #[.int .i64 0] 3 (0,0)) := by
  have := heap_alloc_new (w.alloc (.cells #[.slice none 0 0] 42)) (.cells #[.int .i64 0] 3)
  simpa using this
 rintro e w1 ⟨q,hq⟩
 have c0 := (q.block w.heap.size (by simp;omega)).trans b0
 have c1 := (q.block (w.heap.size + 1) (by simp)).trans b1
 have k2 := k1.trans q
 clear q b0 b1 k1 HH
 have hs1 : w.heap.size + 1 < w1.heap.size := (Array.getElem?_eq_some_iff.1 c1).1
 have hs0 : w.heap.size < w1.heap.size := by omega
 have n1 : ¬ w.heap.size = w1.heap.size := by omega
 have n2 : ¬ w.heap.size + 1 = w1.heap.size := by omega
 have n3 : ¬ w.heap.size = w.heap.size + 1 := by omega
 have n4 : ¬ w.heap.size + 1 = w.heap.size := by omega
 have c20 : w1.cell? ⟨w.heap.size,0,none⟩ = some (.slice none 0 0) := cell_of_block c0 0 _ rfl
 have c30 : w1.cell? ⟨w.heap.size + 1,0,none⟩ = some (.int .i64 0) := cell_of_block c1 0 _ rfl
 have f20 := free_of_block c0 0
 have f30 := free_of_block c1 0
 have KK := hid k2
 have HQ := hid hq
 clear k2 hq
 have fin : ∀ (x q : Value) (o : Obj),(laidJ w1 w.heap.size (w.heap.size + 1) x q o).cell? ⟨w.heap.size,0,none⟩ = some x ∧ (laidJ w1 w.heap.size (w.heap.size + 1) x q o).cell? ⟨w.heap.size + 1,0,none⟩ = some q ∧ Kept w (laidJ w1 w.heap.size (w.heap.size + 1) x q o) := by
  intro x q o
  have g0 : (laidJ w1 w.heap.size (w.heap.size + 1) x q o).heap[w.heap.size]? = some (.cells #[x] 42 (0,0)) := by
   unfold laidJ
   rw [Below.heap_alloc _ _ _ (by simp [World.setCell];omega)]
   exact block_setCell_other (block_setCell c0 _) n3 _
  have g1 : (laidJ w1 w.heap.size (w.heap.size + 1) x q o).heap[w.heap.size + 1]? = some (.cells #[q] 3 (0,0)) := by
   unfold laidJ
   rw [Below.heap_alloc _ _ _ (by simp [World.setCell];omega)]
   exact block_setCell (block_setCell_other c1 n4 _) _
  exact ⟨cell_of_block g0 0 _ rfl,cell_of_block g1 0 _ rfl,((KK.out.setCell (p := ⟨w.heap.size,0,none⟩) (Nat.le_refl _) x).setCell (p := ⟨w.heap.size + 1,0,none⟩) (Nat.le_succ _) q).alloc (by simpa [World.setCell] using KK.out.size) o⟩
 have FF := hid fin
 clear fin
 rcases HQ.out with ⟨h0,v,rfl,hv,hf⟩ | ⟨h0,rfl⟩
 ·have hv' := hv
  obtain ⟨A,c,rfl,-⟩ := hv'
  have HS := hid hv
  have HF := hid hf
  have HC := hid (And.intro c0 c1)
  clear HQ hv hf c0 c1
  simp only []
  go_wp2_with fail
  refine leaves_cons (f := 95) (args := #[.pointer (some ⟨w.heap.size,0,none⟩),.pointer (some ⟨w.heap.size + 1,0,none⟩)]) (by simp) (by simp [go_sem]) ?_
  refine (catchJ_idle _ _ _).mono ?_
  rintro e u' w2 ⟨rfl,rfl,rfl⟩
  obtain ⟨d0,d1,kk⟩ := FF.out (.slice A o.v.length c) (.int .i64 0) (.cells #[.int .i64 0] 117)
  have hr : Rws (laidJ w1 w.heap.size (w.heap.size + 1) (.slice A o.v.length c) (.int .i64 0) (.cells #[.int .i64 0] 117)) (.slice A o.v.length c) o.v := by
   have q0 := HS.out.word (T := 42) (x := .slice none 0 0) (b := w.heap.size) (.inl fun hh => by have := HF.out _ hh;simp at this;omega) HC.out.1 (noLimb_slice _ _ _) (.slice A o.v.length c)
   have q1 := q0.word (T := 3) (x := .int .i64 0) (b := w.heap.size + 1) (.inl fun hh => by have := HF.out _ hh;simp at this;omega) (block_setCell_other HC.out.2 n4 _) (noLimb_i64 _) (.int .i64 0)
   exact q1.kept (kept_alloc _ _)
  have HR := hid hr
  have HKK := hid kk
  clear hr kk
  refine ⟨.tuple #[.slice A o.v.length c,.int .i64 0],?_,?_⟩
  ·change (results Tryz.f51 _).run Tryz.prog (laidJ w1 w.heap.size (w.heap.size + 1) (.slice A o.v.length c) (.int .i64 0) (.cells #[.int .i64 0] 117)) = .ok _ (laidJ w1 w.heap.size (w.heap.size + 1) (.slice A o.v.length c) (.int .i64 0) (.cells #[.int .i64 0] 117))
   generalize laidJ w1 w.heap.size (w.heap.size + 1) (.slice A o.v.length c) (.int .i64 0) (.cells #[.int .i64 0] 117) = W at *
   simp [results,Tryz.results51,go_sem,d0,d1]
  ·exact ⟨HKK.out,_,by rw [h0],HR.out⟩
 ·clear HQ
  simp only []
  refine leaves_cons (f := 95) (args := #[.pointer (some ⟨w.heap.size,0,none⟩),.pointer (some ⟨w.heap.size + 1,0,none⟩)]) (by simp) (by simp [go_sem]) ?_
  refine (catchJ_fail _ _ _ _ _ _ c0 c1 n3).mono ?_
  rintro e u' w2 ⟨rfl,rfl,rfl⟩
  obtain ⟨d0,d1,kk⟩ := FF.out (.slice none 0 0) (.int .i64 o.k) (.cells #[.int .i64 o.k] 117)
  refine ⟨.tuple #[.slice none 0 0,.int .i64 o.k],?_,?_⟩
  ·change (results Tryz.f51 _).run Tryz.prog (laidJ w1 w.heap.size (w.heap.size + 1) (.slice none 0 0) (.int .i64 o.k) (.cells #[.int .i64 o.k] 117)).drew = .ok _ (laidJ w1 w.heap.size (w.heap.size + 1) (.slice none 0 0) (.int .i64 o.k) (.cells #[.int .i64 o.k] 117)).drew
   generalize laidJ w1 w.heap.size (w.heap.size + 1) (.slice none 0 0) (.int .i64 o.k) (.cells #[.int .i64 o.k] 117) = W at *
   simp [results,Tryz.results51,go_sem,d0,d1]
  ·exact ⟨kk.drew,_,rfl,by rw [hz h0];exact rws_nil _⟩
theorem sure_cJ {w : World} {v : Value} {o : Outc Iv} (hv : IvR w v o.v.raw) : Calls Tryz.prog 60 #[v,.int .i64 o.k] w (GoesI o w) := by
 obtain ⟨A,l,c,A',l',c',rfl,h1,h2⟩ := ivC_split hv
 obtain ⟨W,hW,kW,BI,BR⟩ := boxir w (.bool o.v.lo.neg) (.slice A l c) (.int .i64 o.v.lo.e) (.bool o.v.hi.neg) (.slice A' l' c') (.int .i64 o.v.hi.e)
 have Z1 := hid (h1.kept kW)
 have Z2 := hid (h2.kept kW)
 have HW := hid hW
 have K := hid kW
 have HB := hid BI
 have HR := hid BR
 clear hW kW BI BR h1 h2 hv
 obtain ⟨k,hk⟩ : ∃ k,k = o.k := ⟨_,rfl⟩
 rw [← hk]
 have HK := hid hk
 clear hk
 by_cases k0 : k = 0
 ·have K0 := hid (HK.out.symm.trans k0)
  subst k0
  generalize ho : o = o' at *
  clear ho o
  obtain ⟨⟨⟨n1,m1,e1⟩,⟨n2,m2,e2⟩⟩,k⟩ := o'
  simp only [] at *
  go_enter Tryz.func60,Tryz.ntmps60
  go_wp2_with fail
  rw [← HW.out]
  refine (must_trueJ 0 _).mono ?_
  rintro e w1 ⟨rfl,q⟩
  replace K := hid (K.out.trans q)
  replace HB := hid (HB.out.kept q)
  replace HR := hid (HR.out.kept q)
  replace Z1 := hid (Z1.out.kept q)
  replace Z2 := hid (Z2.out.kept q)
  clear q HW
  obtain ⟨-,c0,c1,c2,c3,c4,c5⟩ := HB.out.facts
  obtain ⟨-,r0,r1,r2,r3,r4,r5⟩ := HR.out.facts
  obtain ⟨f0,f1,f2,f3,f4,f5⟩ := HR.out.free
  simp only []
  go_wp2_with fail
  exact ret_iv (HR.out.laid _ _ _ _ _ _) rfl rfl rfl ⟨ivW_kept K.out (by omega),.inl ⟨K0.out,_,rfl,_,_,_,_,_,_,rfl,Z1.out.ivW HR.out _ _ _ _ _ _,Z2.out.ivW HR.out _ _ _ _ _ _⟩⟩
 ·have hkb : (k == 0) = false := by rw [beq_eq_false_iff_ne]; exact k0
  have K0 := hid k0
  clear k0
  generalize o.v.lo.neg = n1 at *
  generalize o.v.lo.e = e1 at *
  generalize o.v.hi.neg = n2 at *
  generalize o.v.hi.e = e2 at *
  go_enter Tryz.func60,Tryz.ntmps60
  go_wp2_with fail
  rw [← HW.out]
  refine (must_cJ false k _).mono ?_
  rintro e w3 ⟨he,rfl⟩
  obtain rfl : e = .panicked (failV 117 k) := he
  exact ⟨rfl,K.out,.inr ⟨by rw [← HK.out];exact K0.out,by rw [← HK.out]⟩⟩
theorem boxwiir (w : World) (p : Int) (x y z x' y' z' u v r u' v' r' : Value) : ∃ W,W = (((w.alloc (.cells #[.int .i64 p] 86)).alloc (.cells #[x,y,z,x',y',z'] 32)).alloc (.cells #[u,v,r,u',v',r'] 32)).alloc (.cells #[.bool false,.slice none 0 0,.int .i64 0,.bool false,.slice none 0 0,.int .i64 0] 32) ∧
 Kept w W ∧ W.cell? ⟨w.heap.size,0,none⟩ = some (.int .i64 p) ∧ BlkI W (w.heap.size + 1) x y z x' y' z' ∧ BlkI W (w.heap.size + 1 + 1) u v r u' v' r' ∧ BlkI W (w.heap.size + 1 + 1 + 1) (.bool false) (.slice none 0 0) (.int .i64 0) (.bool false) (.slice none 0 0) (.int .i64 0) := by
 obtain ⟨W,hW,k,b1,b2,b3⟩ := boxiir (w.alloc (.cells #[.int .i64 p] 86)) x y z x' y' z' u v r u' v' r'
 simp only [World.size_alloc] at b1 b2 b3
 refine ⟨W,hW,(kept_alloc _ _).trans k,cell_kept k (cell_of_block (heap_alloc_new _ _) 0 _ rfl),b1,b2,b3⟩
theorem jpoint_c {w : World} {n : Nat} (hn : n < 9223372036854775808) (hT : Tab w) :
 Calls Tryz.prog 59 #[.int .i64 n] w (RetI (pt (fitD false n 0).v).raw w) := by
 have c1 := fun w1 (k : Kept w w1) => Of_pos (w := w1) (k := n) (e := 0) hn (by decide) (by decide) (hT.kept k)
 have hp : (pt (fitD false n 0).v).raw = ⟨(fitD false n 0).v.raw,(fitD false n 0).v.raw⟩ := rfl
 rw [hp]
 obtain ⟨W,hW,kW,BR,lW⟩ : ∃ W,W = w.alloc (.cells #[.bool false,.slice none 0 0,.int .i64 0,.bool false,.slice none 0 0,.int .i64 0] 32) ∧ Kept w W ∧ BlkI W w.heap.size (.bool false) (.slice none 0 0) (.int .i64 0) (.bool false) (.slice none 0 0) (.int .i64 0) ∧ w.heap.size < W.heap.size :=
  ⟨_,rfl,kept_alloc _ _,blkI_zero _,by simp⟩
 have C1 := hid c1
 have HW := hid hW
 have K := hid kW
 have HR := hid BR
 clear c1 hW kW BR hT hn hp
 generalize fitD false n 0 = o1 at *
 go_enter Tryz.func59,Tryz.ntmps59
 go_wp2_with fail
 rw [← HW.out]
 refine (C1.out _ K.out).mono ?_
 rintro e w2 ⟨q,u,rfl,hd⟩
 obtain ⟨PX,pX,qX,rfl,z1⟩ := dyR_split hd
 simp only []
 obtain ⟨VX,hV,kV,hb,lV⟩ := boxD w2 (.bool o1.v.neg) (.slice PX pX qX) (.int .i64 o1.v.e)
 have HV := hid hV
 have kk := q.trans kV
 have lt1 : w.heap.size < w2.heap.size := Nat.lt_of_lt_of_le HR.out.facts.1 q.size
 replace K := hid (K.out.trans kk)
 replace HR := hid (HR.out.kept kk)
 have HX := hid hb
 have ZX := hid (z1.kept kV)
 clear hV kV hb lV kk q hd z1 C1 HW
 go_upto_region 2 with fail
 rw [← HV.out]
 clear HV
 generalize w2.heap.size = bX at *
 obtain ⟨-,c0,c1,c2,-⟩ := HX.out.facts
 go_wp2_with fail
 refine (iof_c ZX.out).mono ?_
 rintro e w2 ⟨q,u,rfl,hd⟩
 obtain ⟨P,p',q',R,r,s,rfl,z1,z2⟩ := ivR_split hd
 have hr := HR.out.kept q
 obtain ⟨-,r0,r1,r2,r3,r4,r5⟩ := hr.facts
 obtain ⟨f0,f1,f2,f3,f4,f5⟩ := hr.free
 have HRR := hid hr
 have Z1 := hid z1
 have Z2 := hid z2
 clear hr z1 z2 hd c0 c1 c2
 simp only []
 go_wp2_with fail
 exact ret_iv (HRR.out.laid _ _ _ _ _ _) rfl rfl rfl ⟨ivW_kept (K.out.trans q) (by omega),_,rfl,_,_,_,_,_,_,rfl,Z1.out.ivW HRR.out _ _ _ _ _ _,Z2.out.ivW HRR.out _ _ _ _ _ _⟩
theorem wadd_c {S : Int → Prop} {w : World} {va vb : Value} {a b : Iv} {p : Nat} (O : OpsC S) (hS : S 6) (ha : IvC w va a) (hb : IvC w vb b) (oa : a.Ok) (ob : b.Ok) (hT : Tab w) (p1 : 1 ≤ p) (p2 : p ≤ 2000) :
 Calls Tryz.prog 164 #[.agg #[.int .i64 p],va,vb] w (GoesI (addI a b p) w) := by
 have c1 := fun w1 (k : Kept w w1) => O.add hS (ha.kept k) (hb.kept k) oa ob (hT.kept k) p1 p2
 obtain ⟨A,l,c,A',l',c',rfl,h1,h2⟩ := ivC_split ha
 obtain ⟨B,m,d,B',m',d',rfl,g1,g2⟩ := ivC_split hb
 obtain ⟨W,hW,kW,cW,BI,BJ,BR⟩ := boxwiir w p (.bool a.lo.neg) (.slice A l c) (.int .i64 a.lo.e) (.bool a.hi.neg) (.slice A' l' c') (.int .i64 a.hi.e) (.bool b.lo.neg) (.slice B m d) (.int .i64 b.lo.e) (.bool b.hi.neg) (.slice B' m' d') (.int .i64 b.hi.e)
 have C1 := hid c1
 have HW := hid hW
 have K := hid kW
 have HR := hid BR
 obtain ⟨-,a0,a1,a2,a3,a4,a5⟩ := BI.facts
 obtain ⟨-,b0,b1,b2,b3,b4,b5⟩ := BJ.facts
 clear c1 hW kW BI BJ BR h1 h2 g1 g2 ha hb hT oa ob p1 p2
 generalize addI a b p = o at *
 generalize a.lo.neg = n1 at *
 generalize a.lo.e = e1 at *
 generalize a.hi.neg = n2 at *
 generalize a.hi.e = e2 at *
 generalize b.lo.neg = n3 at *
 generalize b.lo.e = e3 at *
 generalize b.hi.neg = n4 at *
 generalize b.hi.e = e4 at *
 go_enter Tryz.func164,Tryz.ntmps164
 go_wp2_with fail
 rw [← HW.out]
 refine (C1.out _ K.out).mono ?_
 rintro e w1 ⟨q,u,rfl,hd⟩
 replace K := hid (K.out.trans q)
 replace HR := hid (HR.out.kept q)
 have HD := hid hd
 clear q hd C1 HW cW a0 a1 a2 a3 a4 a5 b0 b1 b2 b3 b4 b5
 simp only [rawO]
 go_wp2_with fail
 refine (sure_cJ (o := o) HD.out).mono ?_
 rintro e w2 ⟨q,⟨k0,u2,rfl,hd⟩ | ⟨k0,rfl⟩⟩
 ·obtain ⟨P, p', q', R, r, s, rfl, z1, z2⟩ := ivR_split hd
  have hr := HR.out.kept q
  obtain ⟨-,r0,r1,r2,r3,r4,r5⟩ := hr.facts
  obtain ⟨f0,f1,f2,f3,f4,f5⟩ := hr.free
  have HRR := hid hr
  have Z1 := hid z1
  have Z2 := hid z2
  have K0 := hid k0
  clear hr z1 z2 hd k0
  simp only []
  go_wp2_with fail
  exact ret_iv (HRR.out.laid _ _ _ _ _ _) rfl rfl rfl ⟨ivW_kept (K.out.trans q) (by omega),.inl ⟨K0.out,_,rfl,_,_,_,_,_,_,rfl,Z1.out.ivW HRR.out _ _ _ _ _ _,Z2.out.ivW HRR.out _ _ _ _ _ _⟩⟩
 ·exact ⟨rfl,K.out.trans q,.inr ⟨k0,rfl⟩⟩
theorem wsub_c {S : Int → Prop} {w : World} {va vb : Value} {a b : Iv} {p : Nat} (O : OpsC S) (hS : S 7) (ha : IvC w va a) (hb : IvC w vb b) (oa : a.Ok) (ob : b.Ok) (hT : Tab w) (p1 : 1 ≤ p) (p2 : p ≤ 2000) :
 Calls Tryz.prog 165 #[.agg #[.int .i64 p],va,vb] w (GoesI (subI a b p) w) := by
 have c1 := fun w1 (k : Kept w w1) => O.sub hS (ha.kept k) (hb.kept k) oa ob (hT.kept k) p1 p2
 obtain ⟨A,l,c,A',l',c',rfl,h1,h2⟩ := ivC_split ha
 obtain ⟨B,m,d,B',m',d',rfl,g1,g2⟩ := ivC_split hb
 obtain ⟨W,hW,kW,cW,BI,BJ,BR⟩ := boxwiir w p (.bool a.lo.neg) (.slice A l c) (.int .i64 a.lo.e) (.bool a.hi.neg) (.slice A' l' c') (.int .i64 a.hi.e) (.bool b.lo.neg) (.slice B m d) (.int .i64 b.lo.e) (.bool b.hi.neg) (.slice B' m' d') (.int .i64 b.hi.e)
 have C1 := hid c1
 have HW := hid hW
 have K := hid kW
 have HR := hid BR
 obtain ⟨-,a0,a1,a2,a3,a4,a5⟩ := BI.facts
 obtain ⟨-,b0,b1,b2,b3,b4,b5⟩ := BJ.facts
 clear c1 hW kW BI BJ BR h1 h2 g1 g2 ha hb hT oa ob p1 p2
 generalize subI a b p = o at *
 generalize a.lo.neg = n1 at *
 generalize a.lo.e = e1 at *
 generalize a.hi.neg = n2 at *
 generalize a.hi.e = e2 at *
 generalize b.lo.neg = n3 at *
 generalize b.lo.e = e3 at *
 generalize b.hi.neg = n4 at *
 generalize b.hi.e = e4 at *
 go_enter Tryz.func165,Tryz.ntmps165
 go_wp2_with fail
 rw [← HW.out]
 refine (C1.out _ K.out).mono ?_
 rintro e w1 ⟨q,u,rfl,hd⟩
 replace K := hid (K.out.trans q)
 replace HR := hid (HR.out.kept q)
 have HD := hid hd
 clear q hd C1 HW cW a0 a1 a2 a3 a4 a5 b0 b1 b2 b3 b4 b5
 simp only [rawO]
 go_wp2_with fail
 refine (sure_cJ (o := o) HD.out).mono ?_
 rintro e w2 ⟨q,⟨k0,u2,rfl,hd⟩ | ⟨k0,rfl⟩⟩
 ·obtain ⟨P, p', q', R, r, s, rfl, z1, z2⟩ := ivR_split hd
  have hr := HR.out.kept q
  obtain ⟨-,r0,r1,r2,r3,r4,r5⟩ := hr.facts
  obtain ⟨f0,f1,f2,f3,f4,f5⟩ := hr.free
  have HRR := hid hr
  have Z1 := hid z1
  have Z2 := hid z2
  have K0 := hid k0
  clear hr z1 z2 hd k0
  simp only []
  go_wp2_with fail
  exact ret_iv (HRR.out.laid _ _ _ _ _ _) rfl rfl rfl ⟨ivW_kept (K.out.trans q) (by omega),.inl ⟨K0.out,_,rfl,_,_,_,_,_,_,rfl,Z1.out.ivW HRR.out _ _ _ _ _ _,Z2.out.ivW HRR.out _ _ _ _ _ _⟩⟩
 ·exact ⟨rfl,K.out.trans q,.inr ⟨k0,rfl⟩⟩
theorem wmul_c {S : Int → Prop} {w : World} {va vb : Value} {a b : Iv} {p : Nat} (O : OpsC S) (hS : S 8) (ha : IvC w va a) (hb : IvC w vb b) (oa : a.Ok) (ob : b.Ok) (hT : Tab w) (p1 : 1 ≤ p) (p2 : p ≤ 2000) :
 Calls Tryz.prog 168 #[.agg #[.int .i64 p],va,vb] w (GoesI (mulI a b p) w) := by
 have c1 := fun w1 (k : Kept w w1) => O.mul hS (ha.kept k) (hb.kept k) oa ob (hT.kept k) p1 p2
 obtain ⟨A,l,c,A',l',c',rfl,h1,h2⟩ := ivC_split ha
 obtain ⟨B,m,d,B',m',d',rfl,g1,g2⟩ := ivC_split hb
 obtain ⟨W,hW,kW,cW,BI,BJ,BR⟩ := boxwiir w p (.bool a.lo.neg) (.slice A l c) (.int .i64 a.lo.e) (.bool a.hi.neg) (.slice A' l' c') (.int .i64 a.hi.e) (.bool b.lo.neg) (.slice B m d) (.int .i64 b.lo.e) (.bool b.hi.neg) (.slice B' m' d') (.int .i64 b.hi.e)
 have C1 := hid c1
 have HW := hid hW
 have K := hid kW
 have HR := hid BR
 obtain ⟨-,a0,a1,a2,a3,a4,a5⟩ := BI.facts
 obtain ⟨-,b0,b1,b2,b3,b4,b5⟩ := BJ.facts
 clear c1 hW kW BI BJ BR h1 h2 g1 g2 ha hb hT oa ob p1 p2
 generalize mulI a b p = o at *
 generalize a.lo.neg = n1 at *
 generalize a.lo.e = e1 at *
 generalize a.hi.neg = n2 at *
 generalize a.hi.e = e2 at *
 generalize b.lo.neg = n3 at *
 generalize b.lo.e = e3 at *
 generalize b.hi.neg = n4 at *
 generalize b.hi.e = e4 at *
 go_enter Tryz.func168,Tryz.ntmps168
 go_wp2_with fail
 rw [← HW.out]
 refine (C1.out _ K.out).mono ?_
 rintro e w1 ⟨q,u,rfl,hd⟩
 replace K := hid (K.out.trans q)
 replace HR := hid (HR.out.kept q)
 have HD := hid hd
 clear q hd C1 HW cW a0 a1 a2 a3 a4 a5 b0 b1 b2 b3 b4 b5
 simp only [rawO]
 go_wp2_with fail
 refine (sure_cJ (o := o) HD.out).mono ?_
 rintro e w2 ⟨q,⟨k0,u2,rfl,hd⟩ | ⟨k0,rfl⟩⟩
 ·obtain ⟨P, p', q', R, r, s, rfl, z1, z2⟩ := ivR_split hd
  have hr := HR.out.kept q
  obtain ⟨-,r0,r1,r2,r3,r4,r5⟩ := hr.facts
  obtain ⟨f0,f1,f2,f3,f4,f5⟩ := hr.free
  have HRR := hid hr
  have Z1 := hid z1
  have Z2 := hid z2
  have K0 := hid k0
  clear hr z1 z2 hd k0
  simp only []
  go_wp2_with fail
  exact ret_iv (HRR.out.laid _ _ _ _ _ _) rfl rfl rfl ⟨ivW_kept (K.out.trans q) (by omega),.inl ⟨K0.out,_,rfl,_,_,_,_,_,_,rfl,Z1.out.ivW HRR.out _ _ _ _ _ _,Z2.out.ivW HRR.out _ _ _ _ _ _⟩⟩
 ·exact ⟨rfl,K.out.trans q,.inr ⟨k0,rfl⟩⟩
theorem wdiv_c {S : Int → Prop} {w : World} {va vb : Value} {a b : Iv} {p : Nat} (O : OpsC S) (hS : S 9) (ha : IvC w va a) (hb : IvC w vb b) (oa : a.Ok) (ob : b.Ok) (hT : Tab w) (p1 : 1 ≤ p) (p2 : p ≤ 2000) :
 Calls Tryz.prog 63 #[.agg #[.int .i64 p],va,vb] w (GoesI (divI a b p) w) := by
 have c1 := fun w1 (k : Kept w w1) => O.div hS (ha.kept k) (hb.kept k) oa ob (hT.kept k) p1 p2
 obtain ⟨A,l,c,A',l',c',rfl,h1,h2⟩ := ivC_split ha
 obtain ⟨B,m,d,B',m',d',rfl,g1,g2⟩ := ivC_split hb
 obtain ⟨W,hW,kW,cW,BI,BJ,BR⟩ := boxwiir w p (.bool a.lo.neg) (.slice A l c) (.int .i64 a.lo.e) (.bool a.hi.neg) (.slice A' l' c') (.int .i64 a.hi.e) (.bool b.lo.neg) (.slice B m d) (.int .i64 b.lo.e) (.bool b.hi.neg) (.slice B' m' d') (.int .i64 b.hi.e)
 have C1 := hid c1
 have HW := hid hW
 have K := hid kW
 have HR := hid BR
 obtain ⟨-,a0,a1,a2,a3,a4,a5⟩ := BI.facts
 obtain ⟨-,b0,b1,b2,b3,b4,b5⟩ := BJ.facts
 clear c1 hW kW BI BJ BR h1 h2 g1 g2 ha hb hT oa ob p1 p2
 generalize divI a b p = o at *
 generalize a.lo.neg = n1 at *
 generalize a.lo.e = e1 at *
 generalize a.hi.neg = n2 at *
 generalize a.hi.e = e2 at *
 generalize b.lo.neg = n3 at *
 generalize b.lo.e = e3 at *
 generalize b.hi.neg = n4 at *
 generalize b.hi.e = e4 at *
 go_enter Tryz.func63,Tryz.ntmps63
 go_wp2_with fail
 rw [← HW.out]
 refine (C1.out _ K.out).mono ?_
 rintro e w1 ⟨q,u,rfl,hd⟩
 replace K := hid (K.out.trans q)
 replace HR := hid (HR.out.kept q)
 have HD := hid hd
 clear q hd C1 HW cW a0 a1 a2 a3 a4 a5 b0 b1 b2 b3 b4 b5
 simp only [rawO]
 go_wp2_with fail
 refine (sure_cJ (o := o) HD.out).mono ?_
 rintro e w2 ⟨q,⟨k0,u2,rfl,hd⟩ | ⟨k0,rfl⟩⟩
 ·obtain ⟨P, p', q', R, r, s, rfl, z1, z2⟩ := ivR_split hd
  have hr := HR.out.kept q
  obtain ⟨-,r0,r1,r2,r3,r4,r5⟩ := hr.facts
  obtain ⟨f0,f1,f2,f3,f4,f5⟩ := hr.free
  have HRR := hid hr
  have Z1 := hid z1
  have Z2 := hid z2
  have K0 := hid k0
  clear hr z1 z2 hd k0
  simp only []
  go_wp2_with fail
  exact ret_iv (HRR.out.laid _ _ _ _ _ _) rfl rfl rfl ⟨ivW_kept (K.out.trans q) (by omega),.inl ⟨K0.out,_,rfl,_,_,_,_,_,_,rfl,Z1.out.ivW HRR.out _ _ _ _ _ _,Z2.out.ivW HRR.out _ _ _ _ _ _⟩⟩
 ·exact ⟨rfl,K.out.trans q,.inr ⟨k0,rfl⟩⟩
section
variable {ops : Array Oper} {Q : Exit → Act → World → Prop} {i : Nat} {a : Act} {w : World} {V : Nat → Value → World → Prop} {o : Oper} {f : FuncId} {args : Array Value}
theorem sJ {t : Outc Iv} (hc : Calls Tryz.prog f args w (GoesI t w)) (hp : ∀ v w',Kept w w' → t.k = 0 → IvR w' v t.v.raw → V i v w') (hq : ∀ w',Kept w w' → t.k ≠ 0 → Q (.panic (failV 117 t.k)) a w') (hw : Region.wanted o (yielded ops a.tmps) = true := by simp [Region.wanted]) (h : (execOp a.eval o).run Tryz.prog w = .ok (.enter f args) w := by go_simp) : StepOK Tryz.prog ops Q V i o a w :=
 step_call hw h hc fun e w' he => by
  obtain ⟨k,⟨h0,v,he,hd⟩ | ⟨h0,he⟩⟩ := he
  ·exact .inl ⟨v,he,k,hp v w' k h0 hd⟩
  ·exact .inr ⟨_,he,hq w' k h0⟩
end
end Go.Proofs.YtgododcbmkpbjaaGreatDoor
