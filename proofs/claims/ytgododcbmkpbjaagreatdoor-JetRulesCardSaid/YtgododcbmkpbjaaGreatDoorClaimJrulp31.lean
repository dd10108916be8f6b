/- Plain mathematics, no program: whole numbers times a power of two; of their points operations are exact. -/
import Derived.Test.YtgododcbmkpbjaaGreatDoorClaimJrulp11
import Derived.Test.YtgododcbmkpbjaaGreatDoorClaimJrulp22
import Derived.Test.YtgododcbmkpbjaaGreatDoorClaimJrulp30
set_option maxRecDepth 100000
set_option maxHeartbeats 16000000
namespace Go.Proofs.YtgododcbmkpbjaaGreatDoor
open Go.RowKit
structure Ln where
 op : Int
 a : Int
 b : Int
 k : RawI
structure En where
 t : RawI
 x : List RawI
 u : List RawI
 p : List RawI
def partsP (op : Int) : Int :=
 if op = 1 ∨ op = 2 ∨ op = 3 ∨ op = 4 ∨ op = 5 then 0 else if op = 6 ∨ op = 7 ∨ op = 8 ∨ op = 9 then 2 else if op = 10 ∨ op = 11 ∨ op = 12 ∨ op = 13 then 1 else -1
def belowP (n most : Int) : Bool := decide (0 ≤ n) && decide (n < most)
def sameI (a b : RawI) : Bool := sameR a.lo b.lo && sameR a.hi b.hi
def mayL (l : Ln) (at' : Int) (x u p : Int) : Bool :=
 if l.op = 1 then mayI l.k && (decide (l.a = 0) && decide (l.b = 0)) else
 if sameI l.k rzI = false then false else
 if l.op = 2 then decide (l.a = 0) && decide (l.b = 0) else
 if l.op = 3 then belowP l.a x && decide (l.b = 0) else
 if l.op = 4 then belowP l.a u && decide (l.b = 0) else
 if l.op = 5 then belowP l.a p && decide (l.b = 0) else
 if l.op = 6 ∨ l.op = 7 ∨ l.op = 8 ∨ l.op = 9 then belowP l.a at' && belowP l.b at' else
 if l.op = 10 ∨ l.op = 11 ∨ l.op = 12 ∨ l.op = 13 then belowP l.a at' && decide (l.b = 0) else false
def mayLs (x u p : Int) : Nat → List Ln → Bool
 | _,[] => true
 | i,l :: ls => mayL l i x u p && mayLs x u p (i + 1) ls
def mayT (ls : List Ln) (outs : List Int) (x u p : Int) : Bool :=
 decide (ls.length ≤ 200) && decide (outs.length ≤ 200) && mayLs x u p 0 ls && outs.all fun n => belowP n ls.length
def roundI (a : Iv) (p : Nat) : Outc Iv := ends (dirD a.lo p false) (dirD a.hi p true)
def atI (l : List RawI) (n : Int) : Iv := (l.getD n.toNat rzI).iv
theorem roundI_ok {a : Iv} (ha : a.Ok) {p : Nat} (hp : 1 ≤ p) : OkI (roundI a p) := by
 unfold roundI
 refine ends_okI (dirD_ok _ _ _) (dirD_ok _ _ _) fun k1 k2 => ?_
 have d1 := (dirD_down hp k1).le
 have d2 := (dirD_up hp k2).le
 have := ha.le
 grind
def Cl (l : List RawI) : Prop := ∀ a ∈ l,a.iv.Ok ∧ a.iv.raw = a
theorem cl_raw {a : Iv} (h : a.Ok) : a.raw.iv.Ok ∧ a.raw.iv.raw = a.raw := by rw [Iv.raw_iv];exact ⟨h,rfl⟩
theorem Cl.snoc {l : List RawI} {a : Iv} (h : Cl l) (ha : a.Ok) : Cl (l ++ [a.raw]) := by
 intro x hx
 rcases List.mem_append.1 hx with hx | hx
 ·exact h x hx
 ·simp at hx;subst hx;exact cl_raw ha
theorem rzI_iv : rzI.iv = iz := rfl
theorem Cl.at {l : List RawI} (h : Cl l) (n : Int) : (atI l n).Ok := by
 unfold atI
 rw [List.getD_eq_getElem?_getD]
 cases hi : l[n.toNat]? with
 | none => simp only [Option.getD_none];rw [rzI_iv];exact iz_ok
 | some a => simp only [Option.getD_some];exact (h a (List.mem_of_getElem? hi)).1
structure En.Cl (e : En) : Prop where
 t : e.t.iv.Ok ∧ e.t.iv.raw = e.t
 x : Go.Proofs.YtgododcbmkpbjaaGreatDoor.Cl e.x
 u : Go.Proofs.YtgododcbmkpbjaaGreatDoor.Cl e.u
 p : Go.Proofs.YtgododcbmkpbjaaGreatDoor.Cl e.p
theorem faceO_ok {p : Int} {l : List RawI} {o : Outc RawI} (p1 : 1 ≤ p) (p2 : p ≤ 2000) (h : l.all mayI = true) : faceO p l o = o := by unfold faceO;rw [if_pos ⟨p1,p2,h⟩]
theorem Add_k {w : World} {v u : Value} {a b : Iv} {p : Nat} (hv : IvC w v a) (hu : IvC w u b) (ha : a.Ok) (hb : b.Ok) (hT : Tab w) (p1 : 1 ≤ p) (p2 : p ≤ 2000) :
 Calls Tryz.prog 107 #[v,u,.int .i64 p] w (RetIE (rawO (addI a b p)) w) := by
 have h := Add_i (p := (p : Int)) hv hu (iv_lens ha) (iv_lens hb) hT
 rw [faceO_ok (by omega) (by omega) (by simp [mayI_raw ha,mayI_raw hb]),Iv.raw_iv,Iv.raw_iv,Int.toNat_natCast] at h
 exact h
theorem Sub_k {w : World} {v u : Value} {a b : Iv} {p : Nat} (hv : IvC w v a) (hu : IvC w u b) (ha : a.Ok) (hb : b.Ok) (hT : Tab w) (p1 : 1 ≤ p) (p2 : p ≤ 2000) :
 Calls Tryz.prog 108 #[v,u,.int .i64 p] w (RetIE (rawO (subI a b p)) w) := by
 have h := Sub_i (p := (p : Int)) hv hu (iv_lens ha) (iv_lens hb) hT
 rw [faceO_ok (by omega) (by omega) (by simp [mayI_raw ha,mayI_raw hb]),Iv.raw_iv,Iv.raw_iv,Int.toNat_natCast] at h
 exact h
theorem Mul_k {w : World} {v u : Value} {a b : Iv} {p : Nat} (hv : IvC w v a) (hu : IvC w u b) (ha : a.Ok) (hb : b.Ok) (hT : Tab w) (p1 : 1 ≤ p) (p2 : p ≤ 2000) :
 Calls Tryz.prog 109 #[v,u,.int .i64 p] w (RetIE (rawO (mulI a b p)) w) := by
 have h := Mul_i (p := (p : Int)) hv hu (iv_lens ha) (iv_lens hb) hT
 rw [faceO_ok (by omega) (by omega) (by simp [mayI_raw ha,mayI_raw hb]),Iv.raw_iv,Iv.raw_iv,Int.toNat_natCast] at h
 exact h
theorem Div_k {w : World} {v u : Value} {a b : Iv} {p : Nat} (hv : IvC w v a) (hu : IvC w u b) (ha : a.Ok) (hb : b.Ok) (hT : Tab w) (p1 : 1 ≤ p) (p2 : p ≤ 2000) :
 Calls Tryz.prog 105 #[v,u,.int .i64 p] w (RetIE (rawO (divI a b p)) w) := by
 have h := Div_i (p := (p : Int)) hv hu (iv_lens ha) (iv_lens hb) hT
 rw [faceO_ok (by omega) (by omega) (by simp [mayI_raw ha,mayI_raw hb]),Iv.raw_iv,Iv.raw_iv,Int.toNat_natCast] at h
 exact h
theorem Sqr_k {w : World} {v : Value} {a : Iv} {p : Nat} (hv : IvC w v a) (ha : a.Ok) (hT : Tab w) (p1 : 1 ≤ p) (p2 : p ≤ 2000) :
 Calls Tryz.prog 111 #[v,.int .i64 p] w (RetIE (rawO (sqrI a p)) w) := by
 have h := Sqr_i (p := (p : Int)) hv (iv_lens ha) hT
 rw [faceO_ok (by omega) (by omega) (by simp [mayI_raw ha]),Iv.raw_iv,Int.toNat_natCast] at h
 exact h
def dm : Dy := ⟨true,1,0⟩
def dt : Dy := ⟨false,1,1⟩
def d1 : Dy := ⟨false,1,0⟩
def d4 : Dy := ⟨false,1,2⟩
def mt : Iv := ⟨dm,dt⟩
def R4 : Raw := ⟨false,[1],2⟩
def Outc.th (o : Outc Iv) (f : Iv → Outc Iv) : Outc Iv := if o.k = 0 then f o.v else ⟨iz,o.k⟩
theorem Outc.th_ok {o : Outc Iv} {f : Iv → Outc Iv} (h : o.k = 0) : o.th f = f o.v := if_pos h
theorem Outc.th_bad {o : Outc Iv} {f : Iv → Outc Iv} (h : o.k ≠ 0) : o.th f = ⟨iz,o.k⟩ := if_neg h
def gI (l : List RawI) (n : Nat) : Iv := (l.getD n rzI).iv
def Gd (l : List RawI) : Prop := ∀ a ∈ l,a.iv.Ok ∧ a.iv.raw = a
def ptN (n : Nat) : Iv := pt (fitD false n 0).v
def sumL (p : Nat) (a b : List RawI) (n : Nat) : Iv → List Nat → Outc Iv
 | s,[] => ⟨s,0⟩
 | s,j :: js => (mulI (gI a j) (gI b (n - j)) p).th fun q => (addI s q p).th fun s' => sumL p a b n s' js
def sumJ (p : Nat) (a b : List RawI) (n : Nat) : Outc Iv := (mulI (gI a 0) (gI b n) p).th fun s => sumL p a b n s (List.range' 1 n)
def lessL (p : Nat) (a b : List RawI) (n : Nat) : Iv → List Nat → Outc Iv
 | s,[] => ⟨s,0⟩
 | s,j :: js => (mulI (gI a j) (gI b (n - j)) p).th fun q => (subI s q p).th fun s' => lessL p a b n s' js
def expoL (p : Nat) (a c : List RawI) (n : Nat) : Iv → List Nat → Outc Iv
 | s,[] => ⟨s,0⟩
 | s,j :: js => (mulI (ptN j) (gI a j) p).th fun u => (mulI u (gI c (n - j)) p).th fun q => (addI s q p).th fun s' => expoL p a c n s' js
def nextJ (ov : Iv → Nat → Outc Iv) (p : Nat) (op : Int) (a b c : List RawI) (n : Nat) : Outc Iv :=
 if op = 6 then addI (gI a n) (gI b n) p else if op = 7 then subI (gI a n) (gI b n) p else if op = 10 then negI (gI a n) p else
 if op = 8 then sumJ p a b n else if op = 9 then (lessL p b c n (gI a n) (List.range' 1 n)).th fun x => divI x (gI b 0) p else
 if op = 11 then (if n = 0 then sqrI (gI a 0) p else sumJ p a a n) else
 if op = 12 then (if n = 0 then sqrtI (gI a 0) p else (lessL p c c n (gI a n) (List.range' 1 (n - 1))).th fun x => (addI (gI c 0) (gI c 0) p).th fun y => divI x y p) else
 if n = 0 then ov (gI a 0) p else
 (mulI (ptN 1) (gI a 1) p).th fun u => (mulI u (gI c (n - 1)) p).th fun s => (expoL p a c n s (List.range' 2 (n - 1))).th fun s => divI s (ptN n) p
def coefG (p : Nat) (g : List RawI) : List RawI → List Nat → Outc (List RawI)
 | c,[] => ⟨c,0⟩
 | c,n :: ns => if (roundI (gI g n) p).k = 0 then coefG p g (c ++ [(roundI (gI g n) p).v.raw]) ns else ⟨[],(roundI (gI g n) p).k⟩
def coefN (ov : Iv → Nat → Outc Iv) (p : Nat) (op : Int) (a b : List RawI) : List RawI → List Nat → Outc (List RawI)
 | c,[] => ⟨c,0⟩
 | c,n :: ns => if (nextJ ov p op a b c n).k = 0 then coefN ov p op a b (c ++ [(nextJ ov p op a b c n).v.raw]) ns else ⟨[],(nextJ ov p op a b c n).k⟩
def rowJ (l : List (List RawI)) (n : Int) : List RawI := l.getD n.toNat []
def constJ (a : RawI) (k : Nat) : List RawI := a :: List.replicate k rzI
def lineJ (ov : Iv → Nat → Outc Iv) (p : Nat) (l : Ln) (all : List (List RawI)) (t : List RawI) (x q : List (List RawI)) (k : Nat) : Outc (List RawI) :=
 if l.op = 1 then coefG p (constJ l.k k) [] (List.range (k + 1)) else if l.op = 2 then coefG p t [] (List.range (k + 1)) else
 if l.op = 3 then coefG p (rowJ x l.a) [] (List.range (k + 1)) else if l.op = 5 then coefG p (rowJ q l.a) [] (List.range (k + 1)) else
 coefN ov p l.op (rowJ all l.a) (rowJ all l.b) [] (List.range (k + 1))
def linesJ (ov : Iv → Nat → Outc Iv) (p : Nat) (t : List RawI) (x q : List (List RawI)) (k : Nat) : List (List RawI) → List Ln → Outc (List (List RawI))
 | all,[] => ⟨all,0⟩
 | all,l :: ls => if (lineJ ov p l all t x q k).k = 0 then linesJ ov p t x q k (all ++ [(lineJ ov p l all t x q k).v]) ls else ⟨[],(lineJ ov p l all t x q k).k⟩
def seriesJ (ov : Iv → Nat → Outc Iv) (p : Nat) (ls : List Ln) (outs : List Int) (t : List RawI) (x q : List (List RawI)) (k : Nat) : Outc (List (List RawI)) :=
 if (linesJ ov p t x q k [] ls).k = 0 then ⟨outs.map fun n => rowJ (linesJ ov p t x q k [] ls).v n,0⟩ else ⟨[],(linesJ ov p t x q k [] ls).k⟩
def fullJ (l : List (List RawI)) (k : Int) : Bool := l.all fun c => decide ((c.length : Int) = k + 1) && c.all mayI
def withinJ (k b : Int) : Bool := decide (0 ≤ k) && decide (k ≤ 12) && decide (1 ≤ b) && decide (b ≤ 300)
def growJ (p n : Nat) : List (List RawI) → List (List RawI) → Outc (List (List RawI))
 | o :: os, c :: cs => if (divI (gI c n) (ptN (n + 1)) p).k = 0 then
     (if (growJ p n os cs).k = 0 then ⟨(o ++ [(divI (gI c n) (ptN (n + 1)) p).v.raw]) :: (growJ p n os cs).v,0⟩ else ⟨[],(growJ p n os cs).k⟩) else ⟨[],(divI (gI c n) (ptN (n + 1)) p).k⟩
 | os,_ => ⟨os,0⟩
def stepsJ (ov : Iv → Nat → Outc Iv) (p : Nat) (ls : List Ln) (outs : List Int) (time : List RawI) (q : List RawI) : List (List RawI) → List Nat → Outc (List (List RawI))
 | o,[] => ⟨o,0⟩
 | o, n :: ns =>
   if (seriesJ ov p ls outs (time.take (n + 1)) o (q.map fun a => constJ a n) n).k ≠ 0 then ⟨[],(seriesJ ov p ls outs (time.take (n + 1)) o (q.map fun a => constJ a n) n).k⟩ else
   if (growJ p n o (seriesJ ov p ls outs (time.take (n + 1)) o (q.map fun a => constJ a n) n).v).k ≠ 0 then ⟨[],(growJ p n o (seriesJ ov p ls outs (time.take (n + 1)) o (q.map fun a => constJ a n) n).v).k⟩ else
   stepsJ ov p ls outs time q (growJ p n o (seriesJ ov p ls outs (time.take (n + 1)) o (q.map fun a => constJ a n) n).v).v ns
end Go.Proofs.YtgododcbmkpbjaaGreatDoor
namespace Go.Proofs.YtgododcbmkpbjaaGreatDoor
structure Rg (d : Dy) (A B : Int) : Prop where
 ok : d.Ok
 lo : d.m ≠ 0 → -A ≤ d.e
 hi : d.m ≠ 0 → bl d.m + d.e ≤ B
theorem Rg.zero (A B : Int) : Rg dz A B := ⟨dz_ok,fun h => absurd rfl h,fun h => absurd rfl h⟩
theorem Rg.mono {d : Dy} {A B A' B' : Int} (h : Rg d A B) (hA : A ≤ A') (hB : B ≤ B') : Rg d A' B' := ⟨h.ok,fun h0 => by have := h.lo h0;omega,fun h0 => by have := h.hi h0;omega⟩
theorem Rg.neg {d : Dy} {A B : Int} (h : Rg d A B) : Rg (negD d) A B := by
 refine ⟨negD_ok h.ok,?_,?_⟩ <;> unfold negD <;> split <;> first | exact h.lo | exact h.hi
theorem fitD_rg {neg : Bool} {n : Nat} {e A B : Int} (h1 : n ≠ 0 → -A ≤ e) (h2 : n ≠ 0 → bl n + e ≤ B) (hb : bl n ≤ 4000) (hA : A ≤ 100000) (hB : B ≤ 100000) :
 (fitD neg n e).k = 0 ∧ Rg (fitD neg n e).v A B := by
 have ok := (fitD_ok neg n e).1
 by_cases h0 : n = 0
 ·subst h0;exact ⟨rfl,Rg.zero _ _⟩
 ·have h1 := h1 h0
  have h2 := h2 h0
  have ht : tz n < bl n := tz_lt n (bl n) h0 (lt_two_bl n)
  have hd : bl (n / 2 ^ tz n) = bl n - tz n := bl_div _ _
  have hl : (limbs (n / 2 ^ tz n)).length ≤ 64 := limbs_len (k := 64) (by omega)
  unfold fitD at ok ⊢
  rw [if_neg h0,if_neg (by omega),if_neg (by omega),if_neg (by omega)] at ok ⊢
  exact ⟨rfl,ok,fun _ => by show -A ≤ e + tz n;omega,fun _ => by show (bl (n / 2 ^ tz n) : Int) + (e + tz n) ≤ B;omega⟩
theorem cutD_rg {neg : Bool} {m : Nat} {e A B : Int} {rest : Bool} {p : Nat} {up : Bool} (h1 : m ≠ 0 → -A ≤ e) (h2 : m ≠ 0 → bl m + e ≤ B) (h0 : rest = true → p < bl m) (hp : p ≤ 2000) (hA : A ≤ 100000) (hB : B ≤ 99999) :
 (cutD neg m e rest p up).k = 0 ∧ Rg (cutD neg m e rest p up).v A (B + 1) := by
 unfold cutD
 have hb : bl (m / 2 ^ (bl m - p)) = bl m - (bl m - p) := bl_div _ _
 have h2' : cutM m rest p (up != neg) ≤ m / 2 ^ (bl m - p) + 1 := by
  unfold cutM cutN
  simp only
  split <;> omega
 have h3 := lt_two_bl (m / 2 ^ (bl m - p))
 have h6 : bl (cutM m rest p (up != neg)) ≤ bl (m / 2 ^ (bl m - p)) + 1 := bl_le _ _ (by
  have := Nat.two_pow_succ (bl (m / 2 ^ (bl m - p)))
  have := Nat.two_pow_pos (bl (m / 2 ^ (bl m - p)))
  generalize m / 2 ^ (bl m - p) = z at *
  omega)
 by_cases hm : m = 0
 ·have hr : rest = false := by
   cases rest with
   | false => rfl
   | true => have := h0 rfl;rw [hm,bl_zero] at this;omega
  subst hm hr
  have : cutM 0 false p (up != neg) = 0 := by unfold cutM cutN;simp [bl]
  rw [this]
  exact ⟨rfl,Rg.zero _ _⟩
 ·have := h1 hm
  have := h2 hm
  exact fitD_rg (fun _ => by omega) (fun _ => by omega) (by omega) hA (by omega)
theorem dirD_rg {d : Dy} {A B : Int} {p : Nat} {up : Bool} (h : Rg d A B) (hp : p ≤ 2000) (hA : A ≤ 100000) (hB : B ≤ 99999) : (dirD d p up).k = 0 ∧ Rg (dirD d p up).v A (B + 1) :=
 cutD_rg h.lo h.hi (fun h => by cases h) hp hA hB
theorem sumC_rg {a b : Dy} {A B : Int} (ha : Rg a A B) (hb : Rg b A B) (ma : a.m ≠ 0) (mb : b.m ≠ 0) (h : b.e ≤ a.e) (hA : A ≤ 100000) (hB : B ≤ 99990) (hAB : A + B ≤ 3900) : (sumC a b).k = 0 ∧ Rg (sumC a b).v A (B + 2) := by
 have a1 := ha.lo ma
 have a2 := ha.hi ma
 have b1 := hb.lo mb
 have b2 := hb.hi mb
 have hk : bl (2 ^ (a.e - b.e).toNat) ≤ (a.e - b.e).toNat + 1 := bl_le _ _ (Nat.pow_lt_pow_right (by decide) (by omega))
 have hm := mul_lt_bl (Nat.le_refl (bl a.m)) hk
 obtain ⟨M,hM⟩ : ∃ M,M = max (bl a.m + ((a.e - b.e).toNat + 1)) (bl b.m) := ⟨_,rfl⟩
 have hs : bl (a.m * 2 ^ (a.e - b.e).toNat + b.m) ≤ M + 1 := add_bl (by omega) (by omega)
 have hd : bl (a.m * 2 ^ (a.e - b.e).toNat - b.m) ≤ M + 1 := Nat.le_trans (bl_mono (Nat.le_trans (Nat.sub_le _ _) (Nat.le_add_right _ b.m))) hs
 have hd' : bl (b.m - a.m * 2 ^ (a.e - b.e).toNat) ≤ M + 1 := Nat.le_trans (bl_mono (Nat.le_trans (Nat.sub_le _ _) (Nat.le_add_left b.m (a.m * 2 ^ (a.e - b.e).toNat)))) hs
 have hM2 : (M : Int) + 1 + b.e ≤ B + 2 := by omega
 unfold sumC
 rw [if_neg (by omega)]
 split
 ·exact fitD_rg (fun _ => b1) (fun _ => by omega) (by omega) hA (by omega)
 ·split
  ·exact fitD_rg (fun _ => b1) (fun _ => by omega) (by omega) hA (by omega)
  ·exact fitD_rg (fun _ => b1) (fun _ => by omega) (by omega) hA (by omega)
theorem sumD_rg {x y : Dy} {A B : Int} (hx : Rg x A B) (hy : Rg y A B) (hA : A ≤ 100000) (hB : B ≤ 99990) (hAB : A + B ≤ 3900) : (sumD x y).k = 0 ∧ Rg (sumD x y).v A (B + 2) := by
 unfold sumD
 by_cases h1 : x.m = 0
 ·rw [if_pos h1];exact ⟨rfl,hy.mono (Int.le_refl _) (by omega)⟩
 ·rw [if_neg h1]
  by_cases h2 : y.m = 0
  ·rw [if_pos h2];exact ⟨rfl,hx.mono (Int.le_refl _) (by omega)⟩
  ·rw [if_neg h2]
   split
   ·exact sumC_rg hy hx h2 h1 (by omega) hA hB hAB
   ·exact sumC_rg hx hy h1 h2 (by omega) hA hB hAB
theorem mulD_rg {x y : Dy} {A B A' B' : Int} (hx : Rg x A B) (hy : Rg y A' B') (hA : A + A' ≤ 100000) (hB : B + B' ≤ 100000) (h : A + B + A' + B' ≤ 4000) : (mulD x y).k = 0 ∧ Rg (mulD x y).v (A + A') (B + B') := by
 by_cases h1 : x.m = 0
 ·unfold mulD;rw [h1,Nat.zero_mul];exact ⟨rfl,Rg.zero _ _⟩
 ·by_cases h2 : y.m = 0
  ·unfold mulD;rw [h2,Nat.mul_zero];exact ⟨rfl,Rg.zero _ _⟩
  ·have := hx.lo h1
   have := hx.hi h1
   have := hy.lo h2
   have := hy.hi h2
   have hb := mul_lt_bl (Nat.le_refl (bl x.m)) (Nat.le_refl (bl y.m))
   exact fitD_rg (fun _ => by omega) (fun _ => by omega) (by omega) hA hB
theorem bl_quot {x y : Nat} (h : y ≠ 0) : bl (x / y) ≤ bl x - (bl y - 1) := by
 have hy : 2 ^ (bl y - 1) ≤ y := two_bl_le y h
 rw [← bl_div]
 exact bl_mono (Nat.div_le_div_left hy (Nat.two_pow_pos _))
theorem quotD_rg {a b : Dy} {A B A' B' : Int} {p : Nat} {up : Bool} (ha : Rg a A B) (hb : Rg b A' B') (hm : b.m ≠ 0) (hp : p ≤ 1900) (hA : A + B' + p + 1 ≤ 100000) (hB : B + A' + 1 ≤ 99999) :
 (quotD a b p up).k = 0 ∧ Rg (quotD a b p up).v (A + B' + p + 1) (B + A' + 2) := by
 have b1 := hb.lo hm
 have b2 := hb.hi hm
 have bp := bl_pos _ hm
 unfold quotD
 have e : B + A' + 2 = (B + A' + 1) + 1 := by omega
 rw [e]
 by_cases h1 : a.m = 0
 ·rw [h1, Nat.zero_mul]
  refine cutD_rg (fun h => absurd (Nat.zero_div _) h) (fun h => absurd (Nat.zero_div _) h) (fun h => ?_) (by omega) hA hB
  simp at h
 ·have a1 := ha.lo h1
  have a2 := ha.hi h1
  have ap := bl_pos _ h1
  have hK : quotK a b p = p + 1 + bl b.m - bl a.m := rfl
  have hq := quot_bl a.m b.m p h1 hm (quotK a b p) (by omega)
  have hk : bl (2 ^ quotK a b p) ≤ quotK a b p + 1 := bl_le _ _ (Nat.pow_lt_pow_right (by decide) (by omega))
  have hm2 := mul_lt_bl (Nat.le_refl (bl a.m)) hk
  have hd := bl_quot (x := a.m * 2 ^ quotK a b p) hm
  refine cutD_rg (fun _ => by omega) (fun _ => by omega) (fun _ => hq) (by omega) hA hB
structure RgI (a : Iv) (A B : Int) : Prop where
 lo : Rg a.lo A B
 hi : Rg a.hi A B
theorem RgI.mono {a : Iv} {A B A' B' : Int} (h : RgI a A B) (hA : A ≤ A') (hB : B ≤ B') : RgI a A' B' := ⟨h.lo.mono hA hB,h.hi.mono hA hB⟩
theorem RgI.pt {d : Dy} {A B : Int} (h : Rg d A B) : RgI (pt d) A B := ⟨h,h⟩
theorem RgI.zero (A B : Int) : RgI iz A B := ⟨Rg.zero _ _,Rg.zero _ _⟩
def GoodI (o : Outc Iv) (A B : Int) : Prop := o.k = 0 ∧ RgI o.v A B
theorem GoodI.mono {o : Outc Iv} {A B A' B' : Int} (h : GoodI o A B) (hA : A ≤ A') (hB : B ≤ B') : GoodI o A' B' := ⟨h.1,h.2.mono hA hB⟩
theorem ends_rg {lo hi : Outc Dy} {A B : Int} (h1 : lo.k = 0 ∧ Rg lo.v A B) (h2 : hi.k = 0 ∧ Rg hi.v A B) : GoodI (ends lo hi) A B := by
 unfold ends
 rw [Outc.bind_of _ _ h1.1,Outc.bind_of _ _ h2.1]
 exact ⟨rfl,h1.2,h2.2⟩
theorem rndD_rg {o : Outc Dy} {A B : Int} {p : Nat} {up : Bool} (h : o.k = 0 ∧ Rg o.v A B) (hp : p ≤ 2000) (hA : A ≤ 100000) (hB : B ≤ 99999) : (rndD o p up).k = 0 ∧ Rg (rndD o p up).v A (B + 1) := by
 unfold rndD
 rw [Outc.bind_of _ _ h.1]
 exact dirD_rg h.2 hp hA hB
theorem addI_rg {a b : Iv} {A B : Int} {p : Nat} (ha : RgI a A B) (hb : RgI b A B) (hp : p ≤ 2000) (hA : A ≤ 100000) (hB : B ≤ 99990) (hAB : A + B ≤ 3900) : GoodI (addI a b p) A (B + 3) := by
 have e : B + 3 = (B + 2) + 1 := by omega
 rw [e]
 exact ends_rg (rndD_rg (sumD_rg ha.lo hb.lo hA hB hAB) hp hA (by omega)) (rndD_rg (sumD_rg ha.hi hb.hi hA hB hAB) hp hA (by omega))
theorem subI_rg {a b : Iv} {A B : Int} {p : Nat} (ha : RgI a A B) (hb : RgI b A B) (hp : p ≤ 2000) (hA : A ≤ 100000) (hB : B ≤ 99990) (hAB : A + B ≤ 3900) : GoodI (subI a b p) A (B + 3) :=
 addI_rg (b := ⟨negD b.hi,negD b.lo⟩) ha ⟨hb.hi.neg,hb.lo.neg⟩ hp hA hB hAB
theorem roundI_rg {a : Iv} {A B : Int} {p : Nat} (ha : RgI a A B) (hp : p ≤ 2000) (hA : A ≤ 100000) (hB : B ≤ 99990) : GoodI (roundI a p) A (B + 1) :=
 ends_rg (dirD_rg ha.lo hp hA (by omega)) (dirD_rg ha.hi hp hA (by omega))
theorem least4_rg {x y z u : Dy} {A B : Int} (hx : Rg x A B) (hy : Rg y A B) (hz : Rg z A B) (hu : Rg u A B) : Rg (leastD x [x,y,z,u]) A B := by
 rcases least4_mem (x := x) (y := y) (z := z) (u := u) with h | h | h | h <;> rw [h] <;> assumption
theorem greatest4_rg {x y z u : Dy} {A B : Int} (hx : Rg x A B) (hy : Rg y A B) (hz : Rg z A B) (hu : Rg u A B) : Rg (greatestD x [x,y,z,u]) A B := by
 rcases greatest4_mem (x := x) (y := y) (z := z) (u := u) with h | h | h | h <;> rw [h] <;> assumption
theorem mulI_rg {a b : Iv} {A B A' B' : Int} {p : Nat} (ha : RgI a A B) (hb : RgI b A' B') (hp : p ≤ 2000) (hA : A + A' ≤ 100000) (hB : B + B' ≤ 99990) (h : A + B + A' + B' ≤ 4000) : GoodI (mulI a b p) (A + A') (B + B' + 1) := by
 obtain ⟨k1,r1⟩ := mulD_rg ha.lo hb.lo hA (by omega) h
 obtain ⟨k2,r2⟩ := mulD_rg ha.lo hb.hi hA (by omega) h
 obtain ⟨k3,r3⟩ := mulD_rg ha.hi hb.lo hA (by omega) h
 obtain ⟨k4,r4⟩ := mulD_rg ha.hi hb.hi hA (by omega) h
 unfold mulI
 rw [four_all k1 k2 k3 k4]
 exact ends_rg (dirD_rg (least4_rg r1 r2 r3 r4) hp hA (by omega)) (dirD_rg (greatest4_rg r1 r2 r3 r4) hp hA (by omega))
theorem sqrI_rg {a : Iv} {A B : Int} {p : Nat} (ha : RgI a A B) (hp : p ≤ 2000) (hA : A + A ≤ 100000) (hB : B + B ≤ 99990) (h : A + B + A + B ≤ 4000) : GoodI (sqrI a p) (A + A) (B + B + 1) := by
 obtain ⟨k1,r1⟩ := mulD_rg ha.lo ha.lo hA (by omega) h
 obtain ⟨k2,r2⟩ := mulD_rg ha.hi ha.hi hA (by omega) h
 unfold sqrI
 rw [Outc.bind_of _ _ k1,Outc.bind_of _ _ k2]
 refine ends_rg (dirD_rg ?_ hp hA (by omega)) (dirD_rg ?_ hp hA (by omega))
 ·split
  ·exact Rg.zero _ _
  ·rcases least2_mem (x := (mulD a.lo a.lo).v) (y := (mulD a.hi a.hi).v) with h | h <;> rw [h] <;> assumption
 ·rcases greatest2_mem (x := (mulD a.lo a.lo).v) (y := (mulD a.hi a.hi).v) with h | h <;> rw [h] <;> assumption
theorem divI_rg {a b : Iv} {A B A' B' : Int} {p : Nat} (ha : RgI a A B) (hb : RgI b A' B') (ob : b.Ok) (hz : ¬ hasZero b = true) (hp : p ≤ 1900) (hA : A + B' + p + 1 ≤ 100000) (hB : B + A' + 1 ≤ 99999) :
 GoodI (divI a b p) (A + B' + p + 1) (B + A' + 2) := by
 obtain ⟨n1,n2⟩ := hasZero_nz ob hz
 unfold divI
 rw [if_neg hz]
 have q := fun up => quotD_rg (up := up) ha.lo hb.lo n1 hp hA hB
 have q2 := fun up => quotD_rg (up := up) ha.lo hb.hi n2 hp hA hB
 have q3 := fun up => quotD_rg (up := up) ha.hi hb.lo n1 hp hA hB
 have q4 := fun up => quotD_rg (up := up) ha.hi hb.hi n2 hp hA hB
 rw [four_all (q false).1 (q2 false).1 (q3 false).1 (q4 false).1,four_all (q true).1 (q2 true).1 (q3 true).1 (q4 true).1]
 exact ⟨rfl,least4_rg (q false).2 (q2 false).2 (q3 false).2 (q4 false).2,greatest4_rg (q true).2 (q2 true).2 (q3 true).2 (q4 true).2⟩
def In (x : Rat) (a : Iv) : Prop := a.lo.q ≤ x ∧ x ≤ a.hi.q
theorem in_pt (d : Dy) : In d.q (pt d) := ⟨Rat.le_refl,Rat.le_refl⟩
theorem add_in {a b : Iv} {x y : Rat} {p : Nat} (hp : 1 ≤ p) (hk : (addI a b p).k = 0) (hx : In x a) (hy : In y b) : In (x + y) (addI a b p).v := by
 obtain ⟨d1,d2⟩ := addI_spec hp hk
 have h1 := d1.le
 have h2 := d2.le
 obtain ⟨x1,x2⟩ := hx
 obtain ⟨y1,y2⟩ := hy
 exact ⟨by grind,by grind⟩
theorem sub_in {a b : Iv} {x y : Rat} {p : Nat} (hp : 1 ≤ p) (hk : (subI a b p).k = 0) (hx : In x a) (hy : In y b) : In (x - y) (subI a b p).v := by
 obtain ⟨d1,d2⟩ := subI_spec hp hk
 have h1 := d1.le
 have h2 := d2.le
 obtain ⟨x1,x2⟩ := hx
 obtain ⟨y1,y2⟩ := hy
 exact ⟨by grind,by grind⟩
theorem mul_in {a b : Iv} {x y : Rat} {p : Nat} (hp : 1 ≤ p) (hk : (mulI a b p).k = 0) (hx : In x a) (hy : In y b) : In (x * y) (mulI a b p).v := by
 obtain ⟨L,H,d1,d2,⟨t1,t2,t3,t4⟩,⟨u1,u2,u3,u4⟩,-,-⟩ := mulI_spec hp hk
 have h1 := d1.le
 have h2 := d2.le
 have b1 := bilin hx.1 hx.2 hy.1 hy.2 t1 t2 t3 t4
 have b2 := bilin' hx.1 hx.2 hy.1 hy.2 u1 u2 u3 u4
 exact ⟨by grind,by grind⟩
theorem sqr_in {a : Iv} {x : Rat} {p : Nat} (hp : 1 ≤ p) (hk : (sqrI a p).k = 0) (hx : In x a) : In (x * x) (sqrI a p).v := by
 obtain ⟨L,H,d1,d2,l1,l2,g1,g2,-,-,hL⟩ := sqrI_spec hp hk
 have h1 := d1.le
 have h2 := d2.le
 obtain ⟨b1,b2⟩ := sqr_bounds hx.1 hx.2 l1 l2 g1 g2 hL
 exact ⟨by grind,by grind⟩
theorem roundI_in {a : Iv} {x : Rat} {p : Nat} (hp : 1 ≤ p) (hk : (roundI a p).k = 0) (hx : In x a) : In x (roundI a p).v := by
 unfold roundI at *
 obtain ⟨h1,h2,h3⟩ := ends_ok hk
 rw [h3]
 have := (dirD_down hp h1).le
 have := (dirD_up hp h2).le
 obtain ⟨x1,x2⟩ := hx
 exact ⟨by show (dirD a.lo p false).v.q ≤ x;grind,by show x ≤ (dirD a.hi p true).v.q;grind⟩
theorem inv_anti {x y : Rat} (hx : 0 < x) (h : x ≤ y) : y⁻¹ ≤ x⁻¹ := by
 have hy : 0 < y := by grind
 have hx' := Rat.inv_pos.2 hx
 have hy' := Rat.inv_pos.2 hy
 have e1 : x * x⁻¹ = 1 := Rat.mul_inv_cancel _ (by grind)
 have e2 : y * y⁻¹ = 1 := Rat.mul_inv_cancel _ (by grind)
 have h1 : x * (x⁻¹ * y⁻¹) ≤ y * (x⁻¹ * y⁻¹) := Rat.mul_le_mul_of_nonneg_right h (Rat.le_of_lt (Rat.mul_pos hx' hy'))
 have e3 : x * (x⁻¹ * y⁻¹) = y⁻¹ := by rw [← Rat.mul_assoc,e1,Rat.one_mul]
 have e4 : y * (x⁻¹ * y⁻¹) = x⁻¹ := by rw [Rat.mul_comm x⁻¹,← Rat.mul_assoc,e2,Rat.one_mul]
 rw [e3,e4] at h1
 exact h1
theorem inv_antiN {x y : Rat} (hy : y < 0) (h : x ≤ y) : y⁻¹ ≤ x⁻¹ := by
 have h1 := inv_anti (x := -y) (y := -x) (by grind) (by grind)
 have e : ∀ z : Rat,z ≠ 0 → (-z)⁻¹ = -(z⁻¹) := by intro z hz;grind
 rw [e x (by grind),e y (by grind)] at h1
 grind
theorem div_in {a b : Iv} {x y : Rat} {p : Nat} (ob : b.Ok) (hp : 1 ≤ p) (hk : (divI a b p).k = 0) (hx : In x a) (hy : In y b) : In (x / y) (divI a b p).v := by
 unfold divI at hk ⊢
 by_cases hz : hasZero b = true
 ·rw [if_pos hz] at hk;exact absurd hk (by decide)
 ·rw [if_neg hz] at hk ⊢
  obtain ⟨n1,n2⟩ := hasZero_nz ob hz
  have hz' : ¬ (b.lo.q ≤ 0 ∧ 0 ≤ b.hi.q) := fun h => hz ((hasZero_iff b).2 h)
  obtain ⟨k1,k2,k3,k4,e⟩ := four_ok hk
  rw [e] at hk ⊢
  obtain ⟨k5,k6,k7,k8,e⟩ := four_ok hk
  rw [e]
  obtain ⟨l1,l2,l3,l4⟩ := least4 (x := (quotD a.lo b.lo p false).v) (y := (quotD a.lo b.hi p false).v) (z := (quotD a.hi b.lo p false).v) (u := (quotD a.hi b.hi p false).v)
  obtain ⟨g1,g2,g3,g4⟩ := greatest4 (x := (quotD a.lo b.lo p true).v) (y := (quotD a.lo b.hi p true).v) (z := (quotD a.hi b.lo p true).v) (u := (quotD a.hi b.hi p true).v)
  have c1 := (quotD_down hp n1 k1).le
  have c2 := (quotD_down hp n2 k2).le
  have c3 := (quotD_down hp n1 k3).le
  have c4 := (quotD_down hp n2 k4).le
  have c5 := (quotD_up hp n1 k5).le
  have c6 := (quotD_up hp n2 k6).le
  have c7 := (quotD_up hp n1 k7).le
  have c8 := (quotD_up hp n2 k8).le
  have hle := ob.le
  obtain ⟨y1,y2⟩ := hy
  have inv : b.hi.q⁻¹ ≤ y⁻¹ ∧ y⁻¹ ≤ b.lo.q⁻¹ := by
   by_cases hpos : 0 < b.lo.q
   ·exact ⟨inv_anti (by grind) y2,inv_anti hpos y1⟩
   ·have hneg : b.hi.q < 0 := by grind
    exact ⟨inv_antiN hneg y2,inv_antiN (by grind) y1⟩
  show (leastD _ _).q ≤ x / y ∧ x / y ≤ (greatestD _ _).q
  simp only [Rat.div_def] at c1 c2 c3 c4 c5 c6 c7 c8 ⊢
  generalize leastD _ _ = L at *
  generalize greatestD _ _ = H at *
  exact ⟨bilin hx.1 hx.2 inv.1 inv.2 (by grind) (by grind) (by grind) (by grind),bilin' hx.1 hx.2 inv.1 inv.2 (by grind) (by grind) (by grind) (by grind)⟩
def two : Iv := pt dt
def dyz (z : Int) (e : Int) : Dy := (fitD (decide (z < 0)) z.natAbs e).v
def SmZ (z : Int) (e : Int) : Prop := z.natAbs < 2 ^ 60 ∧ -40 ≤ e ∧ e ≤ 0
theorem sq_int (z : Int) : sq (decide (z < 0)) z.natAbs = (z : Rat) := by
 unfold sq
 by_cases h : z < 0
 ·rw [if_pos (by simpa using h)]
  obtain ⟨n,rfl⟩ : ∃ n : Nat,z = -(n : Int) := ⟨z.natAbs,by omega⟩
  rw [Int.natAbs_neg,Int.natAbs_natCast,Rat.intCast_neg];rfl
 ·rw [if_neg (by simpa using h)]
  obtain ⟨n,rfl⟩ : ∃ n : Nat,z = (n : Int) := ⟨z.natAbs,by omega⟩
  rw [Int.natAbs_natCast];rfl
theorem dyz_fit {z e : Int} (h : SmZ z e) : fitD (decide (z < 0)) z.natAbs e = ⟨dyz z e,0⟩ := by
 obtain ⟨h1,h2,h3⟩ := h
 have hb := bl_le _ _ h1
 have := (fitD_small (neg := decide (z < 0)) (n := z.natAbs) (e := e) (by omega) (by omega) (by omega)).1
 unfold dyz
 generalize fitD (decide (z < 0)) z.natAbs e = o at *
 cases o with | mk v k => simp only at this;subst this;rfl
theorem dyz_ok (z e : Int) : (dyz z e).Ok := (fitD_ok _ _ _).1
theorem dyz_q {z e : Int} (h : SmZ z e) : (dyz z e).q = (z : Rat) * pw e := by
 have := fitD_q (neg := decide (z < 0)) (n := z.natAbs) (e := e) (by rw [dyz_fit h])
 rw [sq_int] at this
 exact this
theorem dyz_bl {z e : Int} {p : Nat} (h : z.natAbs < 2 ^ p) : bl (dyz z e).m ≤ p := by
 unfold dyz fitD
 by_cases h0 : z.natAbs = 0
 ·rw [if_pos h0];show bl dz.m ≤ p;simp [dz,bl]
 ·rw [if_neg h0]
  have : bl (z.natAbs / 2 ^ tz z.natAbs) ≤ p := Nat.le_trans (bl_mono (Nat.div_le_self _ _)) (bl_le _ _ h)
  split
  ·show bl dz.m ≤ p;simp [dz,bl]
  ·split
   ·show bl dz.m ≤ p;simp [dz,bl]
   ·split
    ·show bl dz.m ≤ p;simp [dz,bl]
    ·exact this
theorem dyz_few {z e : Int} (h : SmZ z e) : Few (dyz z e) 128 100 := by
 obtain ⟨h1,h2,h3⟩ := h
 refine ⟨dyz_ok z e,Nat.le_trans (dyz_bl (p := 60) h1) (by decide),?_,?_⟩
 ·unfold dyz fitD
  by_cases h0 : z.natAbs = 0
  ·rw [if_pos h0];decide
  ·rw [if_neg h0]
   split
   ·decide
   ·split
    ·decide
    ·split
     ·decide
     ·simp only [good];omega
 ·unfold dyz fitD
  by_cases h0 : z.natAbs = 0
  ·rw [if_pos h0];decide
  ·rw [if_neg h0]
   have ht : tz z.natAbs < bl z.natAbs := tz_lt _ _ h0 (lt_two_bl _)
   have hb := bl_le _ _ h1
   split
   ·decide
   ·split
    ·decide
    ·split
     ·decide
     ·simp only [good];omega
theorem dyz_eq {d : Dy} {z e : Int} (h : d.Ok) (hz : SmZ z e) (hq : d.q = (z : Rat) * pw e) : d = dyz z e :=
 q_inj h (dyz_ok z e) (hq.trans (dyz_q hz).symm)
theorem dyz_sum {a b e : Int} (ha : SmZ a e) (hb : SmZ b e) (hab : SmZ (a + b) e) : sumD (dyz a e) (dyz b e) = ⟨dyz (a + b) e,0⟩ := by
 obtain ⟨h1,h2,-⟩ := sumD_few (dyz_few ha) (dyz_few hb)
 have hq := sumD_q h1
 rw [dyz_q ha,dyz_q hb] at hq
 have he := dyz_eq h2 hab (by rw [hq,Rat.intCast_add];grind)
 generalize sumD (dyz a e) (dyz b e) = o at *
 cases o with | mk v k => simp only at h1 he;subst h1 he;rfl
theorem dyz_mul {a b e f : Int} (ha : SmZ a e) (hb : SmZ b f) (hab : SmZ (a * b) (e + f)) : mulD (dyz a e) (dyz b f) = ⟨dyz (a * b) (e + f),0⟩ := by
 obtain ⟨h1,h2,-⟩ := mulD_few (dyz_few ha) (dyz_few hb)
 have hq := mulD_q h1
 rw [dyz_q ha,dyz_q hb] at hq
 have he := dyz_eq h2 hab (by rw [hq,Rat.intCast_mul,pw_add];grind)
 generalize mulD (dyz a e) (dyz b f) = o at *
 cases o with | mk v k => simp only at h1 he;subst h1 he;rfl
theorem dyz_addI {a b e : Int} {p : Nat} (ha : SmZ a e) (hb : SmZ b e) (hab : SmZ (a + b) e) (hp : (a + b).natAbs < 2 ^ p) : addI (pt (dyz a e)) (pt (dyz b e)) p = ⟨pt (dyz (a + b) e),0⟩ := by
 unfold addI pt
 simp only
 rw [dyz_sum ha hb hab,rndD_exact (o := ⟨dyz (a + b) e,0⟩) rfl (dyz_ok _ _) (dyz_bl hp),rndD_exact (o := ⟨dyz (a + b) e,0⟩) rfl (dyz_ok _ _) (dyz_bl hp)];rfl
theorem dyz_mulI {a b e f : Int} {p : Nat} (ha : SmZ a e) (hb : SmZ b f) (hab : SmZ (a * b) (e + f)) (hp : (a * b).natAbs < 2 ^ p) : mulI (pt (dyz a e)) (pt (dyz b f)) p = ⟨pt (dyz (a * b) (e + f)),0⟩ := by
 have h := dyz_mul ha hb hab
 unfold mulI pt
 simp only
 rw [h,four_all rfl rfl rfl rfl,leastD_same _ _ (by simp),greatestD_same _ _ (by simp),dirD_exact (dyz_ok _ _) (dyz_bl hp),dirD_exact (dyz_ok _ _) (dyz_bl hp)];rfl
theorem dyz_round {a e : Int} {p : Nat} (hp : a.natAbs < 2 ^ p) : roundI (pt (dyz a e)) p = ⟨pt (dyz a e),0⟩ := by
 unfold roundI pt
 simp only
 rw [dirD_exact (dyz_ok _ _) (dyz_bl hp),dirD_exact (dyz_ok _ _) (dyz_bl hp)];rfl
theorem dyz_zero (e : Int) : dyz 0 e = dz := rfl
end Go.Proofs.YtgododcbmkpbjaaGreatDoor
