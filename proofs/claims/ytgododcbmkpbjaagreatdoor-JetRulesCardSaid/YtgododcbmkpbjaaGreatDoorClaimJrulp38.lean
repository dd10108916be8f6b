/- Contracts of package jet, fourteenth part: Solve where its arguments may not be; the first half of Solve for one state. -/
import Derived.Test.YtgododcbmkpbjaaGreatDoorClaimJrulp18
import Derived.Test.YtgododcbmkpbjaaGreatDoorClaimJrulp32
import Derived.Test.YtgododcbmkpbjaaGreatDoorClaimJrulp35
import Derived.Test.YtgododcbmkpbjaaGreatDoorClaimJrulp37
import Derived.Deep.DeepCutAuto
set_option maxRecDepth 100000
set_option maxHeartbeats 16000000
namespace Go.Proofs.YtgododcbmkpbjaaGreatDoor
open Go.Lib (hid)
open Go.RowKit
theorem coefG_snoc (p : Nat) (g c : List RawI) (j m : Nat) (h : 0 < m) : coefG p g c (List.range' j m) =
 if (roundI (gI g j) p).k = 0 then coefG p g (c ++ [(roundI (gI g j) p).v.raw]) (List.range' (j + 1) (m - 1)) else ⟨[],(roundI (gI g j) p).k⟩ := by
 obtain ⟨m,rfl⟩ : ∃ k,m = k + 1 := ⟨m - 1,by omega⟩
 rw [List.range'_succ]
 rfl
theorem lineX_c {w : World} {vl vall vt vx vq : Value} {l : Ln} {g : List RawI} {k p : Nat} (hop : l.op = 3) (hv : LnR w vl l) {rs : List (List RawI)} {i : Nat} (hrs : Rws w vx rs) (hi : i < rs.length) (hla : l.a = (i : Int)) (hge : rs.getD i [] = g) (gg : Gd g) (na : k < g.length) (la : g.length ≤ 1000) (hT : Tab w) (p1 : 1 ≤ p) (p2 : p ≤ 300) :
 Calls Tryz.prog 104 #[.agg #[.int .i64 p],vl,vall,vt,vx,vq,.int .i64 k] w (GoesL (coefG p g [] (List.range' 0 (k + 1))) w) := by
 obtain ⟨bX,oX,cX,sX,rfl,-,cellX,hg⟩ := hrs.row hi
 rw [hge] at hg
 obtain ⟨bG,oG,cG,rfl,-,hRG⟩ := hg.place gg (by omega)
 have RG := hid (fun w1 (q : Kept w w1) j (hj : j ≤ k) => hRG w1 q j (by omega))
 clear hRG hg hrs hge
 obtain ⟨x,y,z,x',y',z',rfl,hK⟩ := hv
 rw [hop]
 have CR := hid (fun w1 (q : Kept w w1) n v (hn : n ≤ k) (hv : IvR w1 v (gI g n).raw) => iround_c (p := p) hv (gd_at gg (by omega)).1 (hT.kept q) p1 (by omega))
 obtain ⟨W,hW,kW,bW,bL⟩ := boxwl w p (.int .i64 3) (.int .i64 l.a) (.int .i64 l.b) x y z x' y' z'
 have HW := hid hW
 have K := hid kW
 have HP := hid bW
 have HLN := hid bL
 have c0 := cell_of_block bL 0 _ rfl
 have c1 := cell_of_block bL 1 _ rfl
 have cX1 := (kW.cell (p := ⟨bX,oX + i,none⟩) (lt_of_cell cellX)).trans cellX
 rw [hla] at bL c0 c1 HLN HW ⊢
 clear cellX
 generalize rs.length = mX at *
 obtain ⟨r,er⟩ : ∃ r,r = coefG p g [] (List.range' 0 (k + 1)) := ⟨_,rfl⟩
 have ER := hid er
 rw [← er]
 generalize l.a = la' at *
 generalize l.b = lb' at *
 have hk9 : k < 1000 := by omega
 clear hW kW bW bL gg hT p1 p2 hK er hop
 go_enter Tryz.func104,Tryz.ntmps104
 go_wp2_with fail
 rw [← HW.out]
 clear HW
 go_step3
 go_upto_region 11 with fail
 go_step3
 go_wp2_with fail
 go_loopw [15,17] (fun vc t wr => ∃ (j : Nat) (c : List RawI) (xs : List Value),t = .int .i64 (j : Int) ∧ j ≤ k + 1 ∧ c.length = j ∧ coefG p g c (List.range' j (k + 1 - j)) = r ∧ OwnI wr W.heap.size vc c xs ∧ Kept W wr) (fun _ t _ => (k + 1 - intOf t).toNat)
 case atStart => exact ⟨0,[],[],rfl,Nat.zero_le _,rfl,ER.out.symm,OwnI.nil _ _,Below.refl _ _⟩
 case round =>
  obtain ⟨j,c,xs,rfl,hj,hcl,hco,hown,hkr⟩ := hrel
  have HCL := hid hcl
  have HCO := hid hco
  have OWN := hid hown
  have KR := hid hkr
  clear hcl hco hown hkr
  by_cases hjk : j ≤ k
  ·obtain ⟨o, ho⟩ : ∃ o, o = roundI (gI g j) p := ⟨_, rfl⟩
   have hsn := coefG_snoc p g c j (k + 1 - j) (by omega)
   rw [HCO.out,← ho] at hsn
   have hbad : o.k ≠ 0 → r = ⟨[],o.k⟩ := fun h => by rw [hsn,if_neg h]
   have hgo : o.k = 0 → coefG p g (c ++ [o.v.raw]) (List.range' (j + 1) (k + 1 - (j + 1))) = r := fun h => by rw [hsn,if_pos h,show k + 1 - (j + 1) = k + 1 - j - 1 by omega]
   have HNX := hid (fun w1 (q : Kept wr w1) v (hv : IvR w1 v (gI g j).raw) => ho ▸ CR.out w1 ((K.out.trans KR.out).trans q) j v hjk hv)
   have BAD := hid (fun (w1 : World) (q : Kept w w1) (h : o.k ≠ 0) => show GoesL r w (.panicked (failV 117 o.k)) w1 by rw [hbad h];exact ⟨q,.inr ⟨h,rfl⟩⟩)
   have GO := hid hgo
   have HPw := hid ((KR.out.block _ (Array.getElem?_eq_some_iff.1 HP.out).1).trans HP.out)
   have enil := fun (w : World) => Go.run_neq_slice_nil_any (P := Tryz.prog) w 33 32 (some ⟨bG,oG,none⟩) g.length cG 0 0 Tryz.underlying33
   have hro : (rawO o).k = o.k := rfl
   have hjg : j < g.length := by omega
   clear ho hsn hbad hgo
   go_wp2_with fail
   clear enil
   refine region_lin2 (m := 12) (V := VL [(vE u15),(vE (.slice (some ⟨bG,oG,none⟩) g.length cG)),(vE (.int .i64 (j : Int))),(vE (.pointer (some ⟨bG,oG + j * 6,none⟩))),(fun v wv => IvR wv v ((gI g j).raw)),(vP w.heap.size 0),(vE (.int .i64 (p : Int))),(fun v wv => ∃ d,v = .tuple #[d,.int .i64 (rawO o).k] ∧ IvR wv d (rawO o).v),(fun v wv => IvR wv v (rawO o).v),(vE (.int .i64 (rawO o).k)),(fun v wv => o.k = 0 ∧ IvR wv v o.v.raw),(fun v wv => OneI wv v o.v.raw)])
    (by kernel_rfl) rfl rfl rfl rfl rfl (by kernel_rfl) (by kernel_rfl) (by kernel_rfl) (by kernel_rfl) (mono_of _ ⟨mE,mE,mE,mE,fun v w w' k h => by first | exact h | exact h.kept k | exact ⟨h.1,h.2.kept k⟩,mE,mE,fun v w w' k h => by obtain ⟨d,h1,h2⟩ := h;exact ⟨d,h1,h2.kept k⟩,fun v w w' k h => by first | exact h | exact h.kept k | exact ⟨h.1,h.2.kept k⟩,mE,fun v w w' k h => ⟨h.1,h.2.kept k⟩,fun v w w' k h => h.kept k,trivial⟩) (steps_of ⟨
      (fun aF wF F => by have s15 : aF.tmps.getD 15 undef = u15 := F.o 15;exact sv rfl),(fun aF wF F => by have s16 : aF.tmps.getD 16 undef = (.slice (some ⟨bG,oG,none⟩) g.length cG) := F.o 16;exact sv rfl),(fun aF wF F => by have s17 : aF.tmps.getD 17 undef = (.int .i64 (j : Int)) := F.o 17;exact sv rfl),(fun aF wF F => by have s52 := F.v 1 52;have s53 := F.v 2 53;exact sv rfl),(fun aF wF F => by have s54 := F.v 3 54;obtain ⟨xx,yy,zz,xx',yy',zz',h0,h1,h2,h3,h4,h5,hI⟩ := (RG.out _ ((K.out.trans KR.out).trans F.kept) j (by omega));exact step_val (by simp [Region.wanted]) (by go_simp) hI),(fun aF wF F => by have s7 : aF.tmps.getD 7 undef = (.pointer (some ⟨w.heap.size,0,none⟩)) := F.o 7;exact sv rfl),(fun aF wF F => by have s56 := F.v 5 56;have c0 := cell_at HPw.out F.kept 0 _ rfl;exact sv rfl),(fun aF wF F => by have s55 := F.p 4 55;have s57 := F.v 6 57;exact sP (HNX.out _ F.kept _ s55) fun _ _ h => h),(fun aF wF F => by have s58 := F.p 7 58;obtain ⟨dd,ee,hh⟩ := s58;exact step_val (by simp [Region.wanted]) (by go_simp) hh),(fun aF wF F => by have s58 := F.p 7 58;exact sw (by obtain ⟨dd,ee,hh⟩ := s58;go_simp) rfl),(fun aF wF F => by have s59 := F.p 8 59;have s60 := F.v 9 60;exact sJ (sure_cJ (o := o) s59) (fun _ _ _ h0 h => ⟨h0,h⟩) (fun w2 k2 h0 => ⟨F.defers,BAD.out _ ((K.out.trans KR.out).trans (F.kept.trans k2)) h0⟩)),(fun aF wF F => by have s61 := F.p 10 61;obtain ⟨A1,l1,d1,A2,l2,d2,e9,h9,g9⟩ := ivR_split s61.2;simp only [Array.getD_eq_getD_getElem?] at e9;exact step_new (by simp [Region.wanted]) (by first | (go_simp;done) | (go_simp;rfl)) (kept_alloc _ _) (oneI_new (r := o.v.raw) ⟨_,_,_,_,_,_,rfl,h9,g9⟩)),
      trivial⟩) ?_
   intro u w1 k1 hu
   have p55 := hp hu 4
   have p58 := hp hu 7
   have p59 := hp hu 8
   have p61 := hp hu 10
   have p62 := hp hu 11
   simp only [puts,slotOf,if_true,Act.put,z1,z2,z3,z4,z5,z6,z7,hv hu 0,hv hu 1,hv hu 2,hv hu 3,hv hu 5,hv hu 6,hv hu 9]
   clear hu
   generalize u 4 = v55 at *
   generalize u 7 = v58 at *
   generalize u 8 = v59 at *
   generalize u 10 = v61 at *
   generalize u 11 = v62 at *
   obtain ⟨h0,-⟩ := p61
   obtain ⟨b1,x0,x1,x2,x3,x4,x5,e81,hb1,hI⟩ := p62
   subst e81
   have own1 := OWN.out.kept k1
   have hcl9 : c.length ≤ 1000 := by have := HCL.out;omega
   have hW9 : W.heap.size ≤ w1.heap.size := (KR.out.trans k1).size
   refine ⟨?_,.inl (by kernel_rfl)⟩
   refine wp_append_iv (.tmp 51) (.tmp 62) ?ho (v := u15) ?hs own1 hI hb1 ?hx hcl9 hW9 ?h
   case ho => rfl
   case hs => first | rfl | (go_simp;done)
   case hx => first | rfl | (go_simp;done)
   intro v' X OX gX
   have KX := hid (OwnI.grown_kept own1 (KR.out.trans k1) gX)
   have OXX := hid OX
   have H0 := hid h0
   clear own1 hI hb1 OX gX k1 h0 hW9 p55 p58 p59
   go_simp
   go_wp2_with fail
   go_roundw
   case rel => exact ⟨j + 1,c ++ [o.v.raw],_,by go_num,by omega,by simp [HCL.out],GO.out H0.out,OXX.out,KX.out⟩
   case measure => simp [intOf];omega
  ·obtain rfl : j = k + 1 := by omega
   have hr : r = ⟨c,0⟩ := by
    have := HCO.out
    rw [show k + 1 - (k + 1) = 0 by omega] at this
    exact this.symm
   have FI := hid (show GoesL r w (.returned u15) wr by
    rw [hr]
    exact ⟨K.out.trans KR.out,.inl ⟨rfl,_,rfl,OWN.out.ivS,fun g hg => Nat.le_trans K.out.size (OWN.out.base g hg)⟩⟩)
   clear hr
   go_wp2_with fail
   go_ret
   exact FI.out
theorem gI_ok {l : List RawI} (g : Gd l) (i : Nat) : (gI l i).Ok := by
 by_cases h : i < l.length
 ·exact (gd_at g h).1
 ·unfold gI
  rw [List.getD_eq_getElem?_getD,List.getElem?_eq_none (by omega),Option.getD_none,← iz_rawz,Iv.raw_iv]
  exact iz_ok
theorem th_k {o : Outc Iv} {f : Iv → Outc Iv} (h : (o.th f).k = 0) : o.k = 0 ∧ o.th f = f o.v := by
 by_cases e : o.k = 0
 ·exact ⟨e,Outc.th_ok e⟩
 ·rw [Outc.th_bad e] at h;exact absurd h e
theorem sumL_okv {p n : Nat} {a b : List RawI} (p1 : 1 ≤ p) : ∀ (js : List Nat) (s : Iv),s.Ok → (sumL p a b n s js).k = 0 → (sumL p a b n s js).v.Ok
 | [],s,hs,_ => hs
 | j :: js, s, hs, h => by
   rw [sumL] at h ⊢
   obtain ⟨e1,q1⟩ := th_k h
   rw [q1] at h ⊢
   obtain ⟨e2,q2⟩ := th_k h
   rw [q2] at h ⊢
   exact sumL_okv p1 js _ (addI_ok hs (mulI_ok p1).1 p1).1 h
theorem sumJ_okv {p n : Nat} {a b : List RawI} (p1 : 1 ≤ p) (h : (sumJ p a b n).k = 0) : (sumJ p a b n).v.Ok := by
 unfold sumJ at h ⊢
 obtain ⟨e1,q1⟩ := th_k h
 rw [q1] at h ⊢
 exact sumL_okv p1 _ _ (mulI_ok p1).1 h
theorem nextJ8 (ov : Iv → Nat → Outc Iv) (p : Nat) (a b c : List RawI) (n : Nat) : nextJ ov p 8 a b c n = sumJ p a b n := rfl
theorem nextJ11 (ov : Iv → Nat → Outc Iv) (p : Nat) (a b c : List RawI) (n : Nat) : nextJ ov p 11 a b c n = if n = 0 then sqrI (gI a 0) p else sumJ p a a n := rfl
theorem nextJ9 (ov : Iv → Nat → Outc Iv) (p : Nat) (a b c : List RawI) (n : Nat) : nextJ ov p 9 a b c n = (lessL p b c n (gI a n) (List.range' 1 n)).th fun x => divI x (gI b 0) p := rfl
theorem nextJ_okv {ov : Iv → Nat → Outc Iv} {p n : Nat} {op : Int} {a b c : List RawI} (p1 : 1 ≤ p) (_ga : Gd a) (gb : Gd b) (ho : op = 8 ∨ op = 11 ∨ op = 9) (h : (nextJ ov p op a b c n).k = 0) : (nextJ ov p op a b c n).v.Ok := by
 rcases ho with rfl | rfl | rfl
 ·rw [nextJ8] at h ⊢;exact sumJ_okv p1 h
 ·rw [nextJ11] at h ⊢
  split at h
  ·rename_i h0
   rw [if_pos h0];exact (sqrI_ok p1).1
  ·rename_i h0
   rw [if_neg h0];exact sumJ_okv p1 h
 ·rw [nextJ9] at h ⊢
  obtain ⟨e1,q1⟩ := th_k h
  rw [q1]
  exact (divI_ok (gI_ok gb 0) p1).1
theorem gd_nil : Gd [] := fun a ha => by cases ha
theorem Gd.snoc {c : List RawI} (g : Gd c) {v : Iv} (h : v.Ok) : Gd (c ++ [v.raw]) := by
 intro y hy
 rcases List.mem_append.1 hy with hy | hy
 ·exact g y hy
 ·simp only [List.mem_singleton] at hy
  subst hy
  rw [Iv.raw_iv]
  exact ⟨h,rfl⟩
theorem coefG_gd {p : Nat} {g : List RawI} (p1 : 1 ≤ p) (gg : Gd g) : ∀ (js : List Nat) (c : List RawI),Gd c → (coefG p g c js).k = 0 → Gd (coefG p g c js).v ∧ (coefG p g c js).v.length = c.length + js.length
 | [],c,hc,_ => ⟨hc,rfl⟩
 | j :: js, c, hc, h => by
   rw [coefG] at h ⊢
   by_cases e : (roundI (gI g j) p).k = 0
   ·rw [if_pos e] at h ⊢
    obtain ⟨h1,h2⟩ := coefG_gd p1 gg js _ (hc.snoc (roundI_ok (gI_ok gg j) p1).1) h
    refine ⟨h1,?_⟩
    rw [h2];simp;omega
   ·rw [if_neg e] at h;exact absurd h e
theorem coefN_gd {ov : Iv → Nat → Outc Iv} {p : Nat} {op : Int} {a b : List RawI} (p1 : 1 ≤ p) (ga : Gd a) (gb : Gd b) (ho : op = 8 ∨ op = 11 ∨ op = 9) : ∀ (js : List Nat) (c : List RawI),Gd c → (coefN ov p op a b c js).k = 0 → Gd (coefN ov p op a b c js).v ∧ (coefN ov p op a b c js).v.length = c.length + js.length
 | [],c,hc,_ => ⟨hc,rfl⟩
 | j :: js, c, hc, h => by
   rw [coefN] at h ⊢
   by_cases e : (nextJ ov p op a b c j).k = 0
   ·rw [if_pos e] at h ⊢
    obtain ⟨h1,h2⟩ := coefN_gd p1 ga gb ho js _ (hc.snoc (nextJ_okv p1 ga gb ho e)) h
    refine ⟨h1,?_⟩
    rw [h2];simp;omega
   ·rw [if_neg e] at h;exact absurd h e
theorem constJ_gd {a : RawI} (h : a.iv.Ok ∧ a.iv.raw = a) (k : Nat) : Gd (constJ a k) := by
 intro y hy
 unfold constJ at hy
 rcases List.mem_cons.1 hy with rfl | hy
 ·exact h
 ·obtain rfl := (List.mem_replicate.1 hy).2
  rw [← iz_rawz,Iv.raw_iv];exact ⟨iz_ok,rfl⟩
def GdR (k : Nat) (rows : List (List RawI)) : Prop := ∀ r ∈ rows,Gd r ∧ r.length = k + 1
theorem GdR.at {k : Nat} {rows : List (List RawI)} (h : GdR k rows) {i : Nat} (hi : i < rows.length) : Gd (rows.getD i []) ∧ (rows.getD i []).length = k + 1 := by
 rw [List.getD_eq_getElem?_getD,List.getElem?_eq_getElem hi]
 exact h _ (List.getElem_mem hi)
theorem GdR.snoc {k : Nat} {rows : List (List RawI)} (h : GdR k rows) {r : List RawI} (g : Gd r) (l : r.length = k + 1) : GdR k (rows ++ [r]) := by
 intro y hy
 rcases List.mem_append.1 hy with hy | hy
 ·exact h y hy
 ·simp only [List.mem_singleton] at hy
  subst hy
  exact ⟨g,l⟩
theorem GdR.nil (k : Nat) : GdR k [] := fun a ha => by cases ha
def LinC (tm : Bool) (ov : Iv → Nat → Outc Iv) (p k : Nat) (t : List RawI) (x q : List (List RawI)) (i : Nat) (l : Ln) : Prop :=
 (∀ all : List (List RawI),all.length = i → GdR k all → (lineJ ov p l all t x q k).k = 0 → Gd (lineJ ov p l all t x q k).v ∧ (lineJ ov p l all t x q k).v.length = k + 1) ∧
 ∀ {w : World} {vl vall vt vx vq : Value} {all : List (List RawI)}, LnR w vl l → Rws w vall all → all.length = i → GdR k all → (tm = true → IvS w vt t) → Rws w vx x → Rws w vq q → Tab w →
   Calls Tryz.prog 104 #[.agg #[.int .i64 p],vl,vall,vt,vx,vq,.int .i64 k] w (GoesL (lineJ ov p l all t x q k) w)
theorem lineJ3 (ov : Iv → Nat → Outc Iv) (p : Nat) (l : Ln) (all : List (List RawI)) (t : List RawI) (x q : List (List RawI)) (k : Nat) (h : l.op = 3) : lineJ ov p l all t x q k = coefG p (rowJ x l.a) [] (List.range' 0 (k + 1)) := by
 unfold lineJ;rw [h,← List.range_eq_range'];rfl
theorem lineJ6 (ov : Iv → Nat → Outc Iv) (p : Nat) (l : Ln) (all : List (List RawI)) (t : List RawI) (x q : List (List RawI)) (k : Nat) (h : 6 ≤ l.op) : lineJ ov p l all t x q k = coefN ov p l.op (rowJ all l.a) (rowJ all l.b) [] (List.range' 0 (k + 1)) := by
 unfold lineJ
 rw [if_neg (by omega),if_neg (by omega),if_neg (by omega),if_neg (by omega),← List.range_eq_range']
theorem linC3 {tm : Bool} {ov : Iv → Nat → Outc Iv} {p k i j : Nat} {t : List RawI} {x q : List (List RawI)} {l : Ln} (h : l.op = 3) (ha : l.a = (j : Int)) (hj : j < x.length) (gx : GdR k x) (hk : k ≤ 900) (p1 : 1 ≤ p) (p2 : p ≤ 300) : LinC tm ov p k t x q i l := by
 obtain ⟨g1,g2⟩ := gx.at hj
 refine ⟨fun all hi gall e => ?_,?_⟩
 ·rw [lineJ3 _ _ _ _ _ _ _ _ h, rowJ, ha, Int.toNat_natCast] at e ⊢
  obtain ⟨q1,q2⟩ := coefG_gd p1 g1 _ _ gd_nil e
  exact ⟨q1,by rw [q2];simp⟩
 ·intro w vl vall vt vx vq all hl hall hi gall ht hx hq hT
  rw [lineJ3 _ _ _ _ _ _ _ _ h,rowJ,ha,Int.toNat_natCast]
  exact lineX_c h hl hx hj ha rfl g1 (by omega) (by omega) hT p1 p2
theorem linC6 {tm : Bool} {ov : Iv → Nat → Outc Iv} {S : Int → Prop} {p k i j m : Nat} {t : List RawI} {x q : List (List RawI)} {l : Ln} (N : NxC ov S) (hS : S l.op) (ho : l.op = 8 ∨ l.op = 11 ∨ l.op = 9) (ha : l.a = (j : Int)) (hb : l.b = (m : Int)) (hj : j < i) (hm : m < i) (hk : k ≤ 900) (p1 : 1 ≤ p) (p2 : p ≤ 300) : LinC tm ov p k t x q i l := by
 have h6 : 6 ≤ l.op := by omega
 refine ⟨fun all hi gall e => ?_,?_⟩
 ·subst hi
  obtain ⟨g1,g2⟩ := gall.at hj
  obtain ⟨g3,g4⟩ := gall.at hm
  rw [lineJ6 _ _ _ _ _ _ _ _ h6,rowJ,rowJ,ha,hb,Int.toNat_natCast,Int.toNat_natCast] at e ⊢
  obtain ⟨q1,q2⟩ := coefN_gd p1 g1 g3 ho _ _ gd_nil e
  exact ⟨q1,by rw [q2];simp⟩
 ·intro w vl vall vt vx vq all hl hall hi gall ht hx hq hT
  subst hi
  obtain ⟨g1,g2⟩ := gall.at hj
  obtain ⟨g3,g4⟩ := gall.at hm
  rw [lineJ6 _ _ _ _ _ _ _ _ h6,rowJ,rowJ,ha,hb,Int.toNat_natCast,Int.toNat_natCast]
  exact lineN_c N hS h6 hl hall ha hb hj hm g1 g3 (by omega) (by omega) (by omega) (by omega) (fun c n hc hn h0 => nextJ_okv p1 g1 g3 ho h0) hT p1 p2
theorem linesJ_gd {ov : Iv → Nat → Outc Iv} {p k : Nat} {t : List RawI} {x q : List (List RawI)} : ∀ (ls : List Ln) (all : List (List RawI)),
 (∀ all' (i : Nat) l,ls[i]? = some l → all'.length = all.length + i → GdR k all' → (lineJ ov p l all' t x q k).k = 0 → Gd (lineJ ov p l all' t x q k).v ∧ (lineJ ov p l all' t x q k).v.length = k + 1) → GdR k all → (linesJ ov p t x q k all ls).k = 0 →
   GdR k (linesJ ov p t x q k all ls).v ∧ (linesJ ov p t x q k all ls).v.length = all.length + ls.length
 | [],all,_,ga,_ => ⟨ga,rfl⟩
 | l :: ls, all, h, ga, hk => by
   rw [linesJ] at hk ⊢
   by_cases e : (lineJ ov p l all t x q k).k = 0
   ·rw [if_pos e] at hk ⊢
    obtain ⟨q1,q2⟩ := h all 0 l rfl rfl ga e
    obtain ⟨h1,h2⟩ := linesJ_gd ls _ (fun all' i l hl hn => h all' (i + 1) l (by simpa using hl) (by rw [hn];simp;omega)) (ga.snoc q1 q2) hk
    exact ⟨h1,by rw [h2];simp;omega⟩
   ·rw [if_neg e] at hk;exact absurd hk e
theorem seriesJ_gd {tm : Bool} {ov : Iv → Nat → Outc Iv} {p k : Nat} {t : List RawI} {x q : List (List RawI)} {ls : List Ln} {outs : List Int} (h : ∀ i l,ls[i]? = some l → LinC tm ov p k t x q i l) (ho : ∀ n ∈ outs,0 ≤ n ∧ n < (ls.length : Int))
 (hk : (seriesJ ov p ls outs t x q k).k = 0) : GdR k (seriesJ ov p ls outs t x q k).v := by
 unfold seriesJ at hk ⊢
 by_cases e : (linesJ ov p t x q k [] ls).k = 0
 ·rw [if_pos e]
  obtain ⟨g1,g2⟩ := linesJ_gd ls [] (fun all' i l hl hn => (h i l hl).1 all' (by simpa using hn)) (GdR.nil k) e
  intro r hr
  obtain ⟨n,hn,rfl⟩ := List.mem_map.1 hr
  obtain ⟨n0,n1⟩ := ho n hn
  simp only [List.length_nil,Nat.zero_add] at g2
  exact g1.at (i := n.toNat) (by omega)
 ·rw [if_neg e] at hk;exact absurd hk e
theorem stepsJ_one {ov : Iv → Nat → Outc Iv} {p n m : Nat} {ls : List Ln} {outs : List Int} {time c : List RawI} {R : List (List RawI)} (ho : outs.length = 1) (h : stepsJ ov p ls outs time [] [c] (List.range' n (m + 1)) = ⟨R,0⟩) :
 ∃ r,seriesJ ov p ls outs (time.take (n + 1)) [c] [] n = ⟨[r],0⟩ ∧ (divI (gI r n) (ptN (n + 1)) p).k = 0 ∧ stepsJ ov p ls outs time [] [c ++ [(divI (gI r n) (ptN (n + 1)) p).v.raw]] (List.range' (n + 1) m) = ⟨R,0⟩ := by
 rw [List.range'_succ,stepsJ,List.map_nil] at h
 by_cases h1 : (seriesJ ov p ls outs (time.take (n + 1)) [c] [] n).k = 0
 ·rw [if_neg (by simpa using h1)] at h
  obtain ⟨o1,rfl⟩ : ∃ o1,outs = [o1] := by
   rcases outs with _ | ⟨o1,_ | ⟨o2,os⟩⟩
   ·simp at ho
   ·exact ⟨o1,rfl⟩
   ·simp at ho
  obtain ⟨r,hr⟩ : ∃ r,seriesJ ov p ls [o1] (time.take (n + 1)) [c] [] n = ⟨[r],0⟩ := by
   unfold seriesJ at h1 ⊢
   by_cases e : (linesJ ov p (time.take (n + 1)) [c] [] n [] ls).k = 0
   ·rw [if_pos e];exact ⟨_,rfl⟩
   ·rw [if_neg e] at h1;exact absurd h1 e
  refine ⟨r,hr,?_⟩
  rw [hr] at h
  by_cases h2 : (divI (gI r n) (ptN (n + 1)) p).k = 0
  ·have hg : growJ p n [c] [r] = ⟨[c ++ [(divI (gI r n) (ptN (n + 1)) p).v.raw]], 0⟩ := by
    simp only [growJ,h2,if_true]
   rw [hg,if_neg (by simp)] at h
   exact ⟨h2,h⟩
  ·have hg : (growJ p n [c] [r]).k = (divI (gI r n) (ptN (n + 1)) p).k := by
    simp only [growJ]
    rw [if_neg h2]
   rw [if_pos (by rw [hg];exact h2)] at h
   injection h with h3 h4
   rw [hg] at h4
   exact absurd h4 h2
 ·rw [if_pos h1] at h
  injection h with h3 h4
  exact absurd h4 h1
theorem wpList_append_r {w : World} {ops : Array Oper} {rest : List Oper} {o : Oper} {a : Act} {Q : Exit → Act → World → Prop} (hgd : o.guard = none) (s x : Operand)
 (ho : o.op = .call { callee := .builtin .append,args := #[s,x],argTypes := #[42,42] })
 {base : Nat} {v : Value} {l : List (List RawI)} {xs : List Value} (hs : a.eval s = v) (hown : OwnR w base v l xs) {d : List RawI} {u : Value} {b : Nat}
 (hd : IvS w u d) (hb : w.cell? ⟨b,0,none⟩ = some u) (hx : a.eval x = .slice (some ⟨b,0,none⟩) 1 1)
 (hl : l.length ≤ 1000) (hbase : base ≤ w.heap.size)
 (h : ∀ v' w',OwnR w' base v' (l ++ [d]) (xs ++ [u]) → w.grownBy w' v.ownBlock → wpList Tryz.prog ops Q rest (a.put o.dst v') w') : wpList Tryz.prog ops Q (o :: rest) a w := by
 obtain ⟨i0,hi,hz0,hz1,hz2⟩ := info_parts rinfo
 have ad : ∀ j,(⟨b,0,none⟩ : Addr).add j = ⟨b,j,none⟩ := by intro j;unfold Addr.add;split <;> simp_all
 have hu : SlC u := by obtain ⟨A,c,rfl,-⟩ := hd;exact ⟨_,_,_,rfl⟩
 have hu1 : u.oneCell' = true := by obtain ⟨A,c,rfl,-⟩ := hd;rfl
 refine wpList_append_all (p := SlC) hgd s x _ ho base 33 i0 _ 1 24 Tryz.underlying42 hi hz0 hz1 hz2 rfl (by decide) v l.length xs hs hown.row _ 1 1 [u] hx rfl ?_ (by intro y hy;simp only [List.mem_singleton] at hy;rw [hy];exact hu1) (by unfold maxLen;omega) (by omega) hbase (by decide) hown.sl (by intro y hy;simp only [List.mem_singleton] at hy;rw [hy];exact hu) (by intro y hy;simp [Value.cells] at hy;rw [hy];exact ⟨_,_,_,rfl⟩) hown.blk ?_
 ·intro j y hy
  rw [ad]
  rcases j with _ | j
  ·cases hy;exact hb
  ·simp at hy
 ·intro v' w' g' q1 q2 q3 q4
  exact h v' w' (hown.snoc hd q1 q2 q3 q4) q2
theorem boxwt (w : World) (p : Int) (s o : Value) : ∃ W,W = (w.alloc (.cells #[.int .i64 p] 86)).alloc (.cells #[s,o] 27) ∧
 Kept w W ∧ W.heap[w.heap.size]? = some (.cells #[.int .i64 p] 86 (0,0)) ∧ W.heap[w.heap.size + 1]? = some (.cells #[s,o] 27 (0,0)) := by
 refine ⟨_,rfl,(kept_alloc _ _).trans (kept_alloc _ _),?_,?_⟩
 ·rw [Below.heap_alloc _ _ _ (by simp)];exact heap_alloc_new _ _
 ·have := heap_alloc_new (w.alloc (.cells #[.int .i64 p] 86)) (.cells #[s, o] 27)
  simpa using this
theorem boxln (w : World) (o a b x y z x' y' z' : Value) : ∃ W,W = w.alloc (.cells #[o,a,b,x,y,z,x',y',z'] 41) ∧ Kept w W ∧ W.heap[w.heap.size]? = some (.cells #[o,a,b,x,y,z,x',y',z'] 41 (0,0)) :=
 ⟨_,rfl,kept_alloc _ _,heap_alloc_new _ _⟩
theorem linesJ_step {ov : Iv → Nat → Outc Iv} {p k j : Nat} {t : List RawI} {x q all : List (List RawI)} {ls : List Ln} {l : Ln} (h : ls[j]? = some l) : linesJ ov p t x q k all (ls.drop j) =
 if (lineJ ov p l all t x q k).k = 0 then linesJ ov p t x q k (all ++ [(lineJ ov p l all t x q k).v]) (ls.drop (j + 1)) else ⟨[],(lineJ ov p l all t x q k).k⟩ := by
 obtain ⟨hj,rfl⟩ := List.getElem?_eq_some_iff.1 h
 rw [List.drop_eq_getElem_cons hj]
 rfl
theorem linesJ_end {ov : Iv → Nat → Outc Iv} {p k j : Nat} {t : List RawI} {x q all : List (List RawI)} {ls : List Ln} (h : ls.length ≤ j) : linesJ ov p t x q k all (ls.drop j) = ⟨all,0⟩ := by
 rw [List.drop_eq_nil_of_le h];rfl
theorem series_c {tm : Bool} {ov : Iv → Nat → Outc Iv} {w : World} {vt vs vx vq : Value} {ls : List Ln} {outs : List Int} {t : List RawI} {x q : List (List RawI)} {k p : Nat} (hv : TpR w vt ls outs) (ht : tm = true → IvS w vs t) (hx : Rws w vx x) (hq : Rws w vq q)
 (hL : ∀ i l,ls[i]? = some l → LinC tm ov p k t x q i l) (ho : ∀ n ∈ outs,0 ≤ n ∧ n < (ls.length : Int)) (hn : ls.length ≤ 200) (hm : outs.length ≤ 200) (hk : k ≤ 900) (hT : Tab w) :
 Calls Tryz.prog 62 #[.agg #[.int .i64 p],vt,vs,vx,vq,.int .i64 k] w (GoesLL (seriesJ ov p ls outs t x q k) w) := by
 obtain ⟨s,o,rfl,hls,hou⟩ := hv
 have HLS := hid hls
 have HOU := hid hou
 have CL := hid (fun (i : Nat) (l : Ln) (hl : ls[i]? = some l) (w1 : World) (kq : Kept w w1) vl vall (all : List (List RawI)) (h1 : LnR w1 vl l) (h2 : Rws w1 vall all) (h3 : all.length = i) (h4 : GdR k all) => And.intro ((hL i l hl).2 h1 h2 h3 h4 (fun e => (ht e).kept kq) (hx.kept kq) (hq.kept kq) (hT.kept kq)) ((hL i l hl).1 all h3 h4))
 have HO := hid ho
 obtain ⟨A,c,rfl,hc,-⟩ := hls
 obtain ⟨B,d,rfl,-,-⟩ := hou
 obtain ⟨R,hR⟩ : ∃ R,R = linesJ ov p t x q k [] ls := ⟨_,rfl⟩
 obtain ⟨U,hU⟩ : ∃ U,U = seriesJ ov p ls outs t x q k := ⟨_,rfl⟩
 have hU0 : R.k = 0 → U = ⟨outs.map fun n => rowJ R.v n,0⟩ := fun h => by rw [hU,seriesJ,← hR,if_pos h]
 have hU1 : R.k ≠ 0 → U = ⟨[],R.k⟩ := fun h => by rw [hU,seriesJ,← hR,if_neg h]
 rw [← hU]
 have UG := hid hU0
 have UB := hid hU1
 have HR := hid hR
 have HK := hid hk
 obtain ⟨W,hW,kW,bW,bT⟩ := boxwt w p (.slice A ls.length c) (.slice B outs.length d)
 have HW := hid hW
 have K := hid kW
 have BW := hid bW
 obtain ⟨c0,c1⟩ := cells2 bT
 have BT := hid bT
 generalize hnl : ls.length = n at *
 have HN := hid hnl
 generalize hml : outs.length = m at *
 have HM := hid hml
 clear hW kW bW bT hU0 hU1 hR hU hL ho hT ht hx hq hnl hml hk hc
 go_enter Tryz.func62,Tryz.ntmps62
 go_upto_region 2 with fail
 rw [← HW.out]
 clear HW
 go_wp2_with fail
 clear c0 c1
 go_loopw [13,22] (fun va ti wr => ∃ (j : Nat) (all : List (List RawI)) (xs : List Value),j ≤ n ∧ ti = .int .i64 (j : Int) ∧ all.length = j ∧ GdR k all ∧ linesJ ov p t x q k all (ls.drop j) = R ∧ OwnR wr W.heap.size va all xs ∧ Kept W wr) (fun _ ti _ => (n - intOf ti).toNat)
 case atStart => exact ⟨0,[],[],Nat.zero_le _,rfl,rfl,GdR.nil k,HR.out.symm,OwnR.nil _ _,Below.refl _ _⟩
 case round =>
  obtain ⟨j,all,xs,hj,rfl,hal,hgd,hlj,hown,hkr⟩ := hrel
  have HAL := hid hal
  have GD := hid hgd
  have LJ := hid hlj
  have OWN := hid hown
  have KR := hid hkr
  clear hal hgd hlj hown hkr
  by_cases hlt : j < n
  ·obtain ⟨l, hl⟩ : ∃ l, ls[j]? = some l := ⟨_, List.getElem?_eq_getElem (by have := HN.out; omega)⟩
   obtain ⟨A',c',eA,-,hA⟩ := HLS.out
   injection eA with eA1 eA2 eA3
   subst eA1
   obtain ⟨bl,ol,rfl,hd⟩ := hA (by have := HN.out;omega)
   obtain ⟨a0,a1,a2,y0,y1,y2,y3,y4,y5,g0,g1,g2,g3,g4,g5,hI⟩ := (hd j _ hl).kept (K.out.trans KR.out)
   obtain ⟨A1,l1,q1,A2,l2,q2,ei,-,-⟩ := ivR_split hI
   injection ei with ei;injection ei with ei
   simp only [List.cons.injEq,and_true] at ei
   obtain ⟨rfl,rfl,rfl,rfl,rfl,rfl⟩ := ei
   obtain ⟨ro,hro⟩ : ∃ ro,ro = lineJ ov p l all t x q k := ⟨_,rfl⟩
   have hst := linesJ_step (ov := ov) (p := p) (k := k) (t := t) (x := x) (q := q) (all := all) hl
   rw [← hro,LJ.out] at hst
   have hR0 : ro.k = 0 → linesJ ov p t x q k (all ++ [ro.v]) (ls.drop (j + 1)) = R := fun h => by rw [hst,if_pos h]
   have hBAD : ∀ w1,Kept w w1 → ro.k ≠ 0 → GoesLL U w (.panicked (failV 117 ro.k)) w1 := fun w1 kq h => by
    have e : R = ⟨[],ro.k⟩ := by rw [hst,if_neg h]
    have e2 := UB.out (by rw [e];exact h)
    rw [e] at e2
    rw [e2]
    exact ⟨kq,.inr ⟨h,rfl⟩⟩
   obtain ⟨W2,hW2,kW2,hLB⟩ := boxln wr (.int .i64 l.op) (.int .i64 l.a) (.int .i64 l.b) (.bool l.k.lo.neg) (.slice A1 l1 q1) (.int .i64 l.k.lo.e) (.bool l.k.hi.neg) (.slice A2 l2 q2) (.int .i64 l.k.hi.e)
   have hcl := CL.out j l hl W2 (K.out.trans (KR.out.trans kW2)) _ _ all ⟨_,_,_,_,_,_,rfl,hI.kept kW2⟩ (OWN.out.all.kept kW2) HAL.out GD.out
   rw [← hro] at hcl
   have HCL := hid hcl
   have R0 := hid hR0
   have BAD := hid hBAD
   have HW2 := hid hW2
   have K2 := hid kW2
   have HLB := hid hLB
   clear hcl hR0 hBAD hW2 hI hd hA eA2 eA3 hst hro hl
   generalize l.op = e1 at *
   generalize l.a = e2 at *
   generalize l.b = e3 at *
   generalize l.k.lo.neg = e4 at *
   generalize l.k.lo.e = e5 at *
   generalize l.k.hi.neg = e6 at *
   generalize l.k.hi.e = e7 at *
   go_upto_region 5 with fail
   rw [← HW2.out]
   clear HW2 a0 a1 a2 g0 g1 g2 g3 g4 g5
   generalize hb10 : wr.heap.size = b10 at *
   obtain ⟨r0,r1,r2,r3,r4,r5,r6,r7,r8⟩ := ln_cells HLB.out
   have d0 := cell_of_block (blk_kept BW.out (KR.out.trans K2.out)) 0 _ rfl
   go_wp2_with fail
   refine HCL.out.1.mono ?_
   rintro e w3 ⟨q3,hq3⟩
   rcases hq3 with ⟨h0,v,rfl,hv3,-⟩ | ⟨h0,rfl⟩
   ·have hvv := hv3
    obtain ⟨A3,c3,rfl,-⟩ := hvv
    have HV3 := hid hv3
    obtain ⟨gd1,gd2⟩ := HCL.out.2 h0
    have GD' := hid (GD.out.snoc gd1 gd2)
    have R0' := hid (R0.out h0)
    have K3 := hid (K2.out.trans q3)
    have KK := hid (KR.out.trans K3.out)
    have OW3 := hid (OWN.out.kept K3.out)
    have hl9 : all.length ≤ 1000 := by have := HAL.out;omega
    have hW9 : W.heap.size ≤ w3.heap.size := KK.out.size
    clear r0 r1 r2 r3 r4 r5 r6 r7 r8 d0 hv3 gd1 gd2 q3 h0 HCL R0 BAD HLB OWN hb10
    simp only []
    go_wp2_with (at_builtin;refine wpList_append_r rfl (.tmp 26) (.tmp 35) rfl rfl (OW3.out.kept (kept_alloc _ _)) (HV3.out.kept (kept_alloc _ _)) (cell_of_block (heap_alloc_new _ _) 0 _ rfl) rfl hl9 (Nat.le_trans hW9 (by simp)) ?_;intro v' X OX gX)
    have KX := hid (OwnR.grown_kept (OW3.out.kept (kept_alloc _ _)) (KK.out.trans (kept_alloc _ _)) gX)
    have OXX := hid OX
    clear OX gX OW3 HV3
    go_wp2_with fail
    go_roundw
    case rel => exact ⟨j + 1,all ++ [ro.v],_,by omega,by go_num,by simp [HAL.out],GD'.out,R0'.out,OXX.out,KX.out⟩
    case measure => simp [intOf];omega
   ·simp only []
    exact ⟨rfl,BAD.out _ (K.out.trans (KR.out.trans (K2.out.trans q3))) h0⟩
  ·obtain rfl : j = n := by omega
   have hRR : R = ⟨all,0⟩ := by
    have := LJ.out
    rw [linesJ_end (by have := HN.out;omega)] at this
    exact this.symm
   have hUU : U = ⟨outs.map fun n => rowJ all n,0⟩ := by
    have := UG.out (by rw [hRR])
    rw [hRR] at this
    exact this
   have UU := hid hUU
   clear hRR hUU UG UB LJ CL HR
   obtain ⟨Aa,ca,rfl,hca,hall⟩ := OWN.out.all
   have HALL := hid (show Rws wr (.slice Aa all.length ca) all from ⟨Aa,ca,rfl,hca,hall⟩)
   clear hca hall OWN
   rw [HAL.out]
   obtain ⟨c0,c1⟩ := cells2 (blk_kept BT.out KR.out)
   go_wp2_with fail
   clear c0 c1
   have hW8 : W.heap.size ≤ wr.heap.size := KR.out.size
   obtain ⟨V1,hV1⟩ : ∃ V1,V1 = wr := ⟨wr,rfl⟩
   subst hV1
   go_loopw [14,41] (fun va ti wr2 => ∃ (i : Nat) (xs : List Value),i ≤ m ∧ ti = .int .i64 (i : Int) ∧ OwnR wr2 V1.heap.size va ((outs.take i).map fun n => rowJ all n) xs ∧ Kept V1 wr2) (fun _ ti _ => (m - intOf ti).toNat)
   case atStart => exact ⟨0,[],Nat.zero_le _,rfl,OwnR.nil _ _,Below.refl _ _⟩
   case round =>
    obtain ⟨i,xs',hi,rfl,hown,hkz⟩ := hrel
    have OWN := hid hown
    have KZ := hid hkz
    clear hown hkz
    by_cases him : i < m
    ·obtain ⟨z, hz⟩ : ∃ z, outs[i]? = some z := ⟨_, List.getElem?_eq_getElem (by have := HM.out; omega)⟩
     obtain ⟨z0,z1⟩ := HO.out z (List.mem_of_getElem? hz)
     obtain ⟨zn,rfl⟩ : ∃ zn : Nat,z = (zn : Int) := ⟨z.toNat,by omega⟩
     have hzn : zn < all.length := by have := HAL.out;omega
     obtain ⟨B',d',eB,-,hB⟩ := HOU.out
     injection eB with eB1 eB2 eB3
     subst eB1
     obtain ⟨bo,oo,rfl,hdo⟩ := hB (by have := HM.out;omega)
     have o0 := (((K.out.trans KR.out).trans KZ.out).cell (p := ⟨bo,oo + i,none⟩) (lt_of_cell (hdo i _ hz))).trans (hdo i _ hz)
     obtain ⟨ba,oa,c9,s9,e9,-,t9,hs9⟩ := HALL.out.row hzn
     injection e9 with e9 e8 e7
     subst e9
     have t8 := (KZ.out.cell (p := ⟨ba,oa + zn,none⟩) (lt_of_cell t9)).trans t9
     obtain ⟨g1,g2⟩ := GD.out.at hzn
     have HCC := hid (iclone_c (hs9.kept KZ.out) (by rw [g2];omega) (by have := HK.out;rw [g2];omega))
     obtain ⟨As,cs,rfl,-⟩ := hs9
     have HZ := hid (show (outs.take (i + 1)).map (fun n => rowJ all n) = (outs.take i).map (fun n => rowJ all n) ++ [all.getD zn []] by
      rw [List.take_add_one,hz,List.map_append];rfl)
     have hlen : ((outs.take i).map fun n => rowJ all n).length ≤ 1000 := by rw [List.length_map,List.length_take];omega
     have hW7 : V1.heap.size ≤ wr.heap.size := KZ.out.size
     have hna : (zn : Int) < (j : Int) := by have := HAL.out;omega
     generalize all.getD zn [] = rw9 at *
     clear hdo hB eB2 eB3 hz t9 g1 g2 z0 z1 e8 e7
     go_wp2_with fail
     refine HCC.out.mono ?_
     rintro e w4 ⟨q4,v',ys,rfl,hoi⟩
     have hS4 := hoi.ivS
     obtain ⟨A4,c4,rfl,-⟩ := hS4
     have HV4 := hid hoi.ivS
     have OW4 := hid (OWN.out.kept q4)
     have K4 := hid (KZ.out.trans q4)
     have hW6 : V1.heap.size ≤ w4.heap.size := K4.out.size
     clear hoi o0 t8 OWN HCC
     simp only []
     go_wp2_with (at_builtin;refine wpList_append_r rfl (.tmp 45) (.tmp 51) rfl rfl (OW4.out.kept (kept_alloc _ _)) (HV4.out.kept (kept_alloc _ _)) (cell_of_block (heap_alloc_new _ _) 0 _ rfl) rfl hlen (Nat.le_trans hW6 (by simp)) ?_;intro v' X OX gX)
     have KX := hid (OwnR.grown_kept (OW4.out.kept (kept_alloc _ _)) (K4.out.trans (kept_alloc _ _)) gX)
     rw [← HZ.out] at OX
     have OXX := hid OX
     clear OX gX OW4 HV4 q4
     go_wp2_with fail
     go_roundw
     case rel => exact ⟨i + 1,_,by omega,by go_num,OXX.out,KX.out⟩
     case measure => simp [intOf];omega
    ·obtain rfl : i = m := by omega
     have hfin := OWN.out.all
     rw [List.take_of_length_le (by have := HM.out;omega)] at hfin
     have hbs := OWN.out.base
     have FI := hid (And.intro hfin hbs)
     clear hfin hbs OWN
     go_wp2_with fail
     go_ret
     refine ⟨K.out.trans (KR.out.trans KZ.out),.inl ?_⟩
     rw [UU.out]
     exact ⟨rfl,_,rfl,FI.out.1,fun g hg => Nat.le_trans (Nat.le_trans K.out.size hW8) (FI.out.2 g hg)⟩
theorem exec_appJ {P : Program} {w w' : World} {o : Oper} {a : Act} (s x : Operand) (t : TypeId) {vs vx v' : Value}
 (ho : o.op = .call { callee := .builtin .append,args := #[s,x],argTypes := #[t,t] }) (hs : a.eval s = vs) (hx : a.eval x = vx)
 (hr : (Builtin.append_ #[t,t] o.type #[vs,vx]).run P w = .ok v' w') : (execOp a.eval o).run P w = .ok (.value v') w' := by
 unfold execOp
 simp only [ho,resolve,invoke,builtin,Sem.run_bind,Sem.run_pure,Result.andThen_ok,List.map_toArray,List.map_cons,List.map_nil,hs,hx,hr]
theorem OwnI.low {w : World} {base B : Nat} {v : Value} {l : List RawI} {xs : List Value} (h : OwnI w base v l xs) (hB : B ≤ base) : OwnI w B v l xs := by
 obtain ⟨h1,h2,h3,h4,h5⟩ := h
 refine ⟨⟨h1.1,?_⟩,h2,h3,h4,h5⟩
 rcases h1.2 with hn | ⟨g,cap,cur,e,hb,rest⟩
 ·exact .inl hn
 ·exact .inr ⟨g,cap,cur,e,Nat.le_trans hB hb,rest⟩
theorem iclone1_c {w : World} {b off c : Nat} {a : RawI} {x0 x1 x2 x3 x4 x5 : Value} (c0 : w.cell? ⟨b,off,none⟩ = some x0) (c1 : w.cell? ⟨b,off + 1,none⟩ = some x1) (c2 : w.cell? ⟨b,off + 2,none⟩ = some x2) (c3 : w.cell? ⟨b,off + 3,none⟩ = some x3)
 (c4 : w.cell? ⟨b,off + 4,none⟩ = some x4) (c5 : w.cell? ⟨b,off + 5,none⟩ = some x5) (hI : IvR w (.agg #[x0,x1,x2,x3,x4,x5]) a) :
 Calls Tryz.prog 57 #[.slice (some ⟨b,off,none⟩) 1 c] w fun e w' => Kept w w' ∧ ∃ v',e = .returned v' ∧ OwnI w' w.heap.size v' [a] [x0,x1,x2,x3,x4,x5] := by
 obtain ⟨i0,hi,hz0,hz1,hz2⟩ := info_parts iinfo
 have e1 := fun (w : World) => Lib.run_eql_slice_nil (P := Tryz.prog) w 33 32 (some ⟨b,off,none⟩) 1 c 0 0 Tryz.underlying33
 obtain ⟨W,hW⟩ : ∃ W,W = w.alloc (.cells #[] 32) := ⟨_,rfl⟩
 have kW : Kept w W := by rw [hW];exact kept_alloc _ _
 have hown : W.ownsRow w.heap.size 32 6 (.slice (some ⟨w.heap.size,0,none⟩) 0 0) 0 [] := by rw [hW];exact World.ownsRow_made w #[] 0 (Nat.le_refl _) (by decide) rfl
 have hnol : ∀ g,(Value.slice (some ⟨w.heap.size,0,none⟩) 0 0).ownBlock = some g → NoL W g := by
  intro g hg
  obtain rfl : w.heap.size = g := Option.some.inj hg
  exact ⟨_,_,by rw [hW];exact heap_alloc_new _ _,by simp⟩
 have hcl := hI.cells
 have ad : ∀ j,(⟨b,off,none⟩ : Addr).add j = ⟨b,off + j,none⟩ := by intro j;unfold Addr.add;split <;> simp_all
 have q2 : ∀ (j : Nat) (u : Value),[x0,x1,x2,x3,x4,x5][j]? = some u → W.cell? ⟨b,off + j,none⟩ = some u := by
  intro j u hj
  have hk : ∀ i v,w.cell? ⟨b,off + i,none⟩ = some v → W.cell? ⟨b,off + i,none⟩ = some v := fun i v hv => (kW.cell (p := ⟨b,off + i,none⟩) (lt_of_cell hv)).trans hv
  rcases j with _ | _ | _ | _ | _ | _ | j
  ·cases hj;exact hk 0 _ c0
  ·cases hj;exact hk 1 _ c1
  ·cases hj;exact hk 2 _ c2
  ·cases hj;exact hk 3 _ c3
  ·cases hj;exact hk 4 _ c4
  ·cases hj;exact hk 5 _ c5
  ·simp at hj
 have hsz : w.heap.size ≤ W.heap.size := kW.size
 have Q2 := hid q2
 have CL := hid hcl
 have HI := hid (hI.kept kW)
 have HO := hid hown
 have HN := hid hnol
 have K := hid kW
 have HW := hid hW
 have AD := hid ad
 clear hown hnol q2 kW hW ad c0 c1 c2 c3 c4 c5 hI hcl
 go_enter Tryz.func57,Tryz.ntmps57
 go_upto_region 3 with fail
 go_wp2_with (at_builtin;rw [← HW.out];refine wpList_append_nol rfl (.tmp 5) (.tmp 6) _ rfl w.heap.size 32 i0 _ 6 80 Tryz.underlying33 hi hz0 hz1 hz2 rfl (by decide) _ 0 [] rfl HO.out ⟨b,off,none⟩ 1 c [x0,x1,x2,x3,x4,x5] rfl rfl (fun j u hj => by rw [AD.out];exact Q2.out j u hj) (fun u hu => (CL.out u hu).2) (by unfold maxLen;omega) (by omega) hsz (by decide) (by simp) (fun u hu => (CL.out u hu).1) zcells_nl HN.out ?_;intro v' w' g' o1 o2 o3 o4)
 have kk : Kept w w' := Below.grown K.out o2 hsz (fun g hg => Nat.le_of_eq (Option.some.inj hg))
 have own : OwnI w' w.heap.size v' [a] [x0,x1,x2,x3,x4,x5] := by
  refine ⟨by simpa using o1,fun u hu => (CL.out u hu).1,fun u hu => (CL.out u hu).2,?_,?_⟩
  ·intro g hg
   rw [o3] at hg
   cases hg
   exact o4
  ·intro i d hi
   rcases i with _ | i
   ·obtain rfl : a = d := by simpa using hi
    exact ⟨_,_,_,_,_,_,rfl,rfl,rfl,rfl,rfl,rfl,HI.out.grown o2 HN.out⟩
   ·simp at hi
 have FI := hid (And.intro kk own)
 clear kk own o1 o2 o3 o4
 go_wp2
 go_ret
 exact ⟨FI.out.1,_,rfl,FI.out.2⟩
theorem app_iv {w : World} {B : Nat} {v : Value} {l : List RawI} {d : RawI} {xs : List Value} {t0 t1 t2 t3 t4 t5 : Value} {bt : Nat} (ty : TypeId) (ho : OwnI w B v l xs) (hn : 0 < l.length) (hl : l.length ≤ 1000) (hB : B ≤ w.heap.size)
 (hb : BlkI w bt t0 t1 t2 t3 t4 t5) (hd : IvR w (.agg #[t0,t1,t2,t3,t4,t5]) d) :
 ∃ v' w', (Builtin.append_ #[33, 33] ty #[v, .slice (some ⟨bt, 0, none⟩) 1 1]).run Tryz.prog w = .ok v' w' ∧ OwnI w' B v' (l ++ [d]) (xs ++ [t0, t1, t2, t3, t4, t5]) ∧ w.grownBy w' v.ownBlock ∧
   (∀ (b : Nat) (cs : Array Value) (T : TypeId),w.heap[b]? = some (.cells cs T (0,0)) → cs.size < 12 → w'.heap[b]? = some (.cells cs T (0,0))) ∧
   (∀ g,(∀ (j : Nat) (u : Value),(xs ++ [t0,t1,t2,t3,t4,t5])[j]? = some u → w.cell? ⟨g,j,none⟩ = some u) → ∀ (j : Nat) (u : Value),(xs ++ [t0,t1,t2,t3,t4,t5])[j]? = some u → w'.cell? ⟨g,j,none⟩ = some u) ∧
   (∀ v2,OwnI w B v2 l xs → OwnI w' B v2 l xs) := by
 obtain ⟨i0,hi,hz0,hz1,hz2⟩ := info_parts iinfo
 obtain ⟨-,c0,c1,c2,c3,c4,c5⟩ := hb.facts
 have hcl := hd.cells
 have ad : ∀ (b j : Nat),(⟨b,0,none⟩ : Addr).add j = ⟨b,j,none⟩ := by intro b j;unfold Addr.add;split <;> simp_all
 have hnews : ∀ (j : Nat) (u : Value),[t0,t1,t2,t3,t4,t5][j]? = some u → w.cell? ((⟨bt,0,none⟩ : Addr).add j) = some u := by
  intro j u hu
  rw [ad]
  rcases j with _ | _ | _ | _ | _ | _ | j
  ·cases hu;exact c0
  ·cases hu;exact c1
  ·cases hu;exact c2
  ·cases hu;exact c3
  ·cases hu;exact c4
  ·cases hu;exact c5
  ·simp at hu
 obtain ⟨v',w',g',hr,h2,h3,h4,h5⟩ := run_append_nol (P := Tryz.prog) w B 33 ty 32 i0 _ 6 80 Tryz.underlying33 hi hz0 hz1 hz2 rfl (by decide) v l.length xs ho.row ⟨bt,0,none⟩ 1 1 [t0,t1,t2,t3,t4,t5] rfl hnews (fun u hu => (hcl u hu).2) (by unfold maxLen;omega) (by omega) hB (by decide) ho.nl (fun u hu => (hcl u hu).1) zcells_nl ho.blk
 have hown' := ho.snoc hd h2 h3 h4 h5
 rcases ho.row.2 with ⟨-,h0⟩ | ⟨g,cap,cur,rfl,hbg,hg,hnc,hcm,hcs,htake⟩
 ·omega
 have h3' : w.grownBy w' (some g) := h3
 have oth : ∀ (b : Nat) (o : Obj),b ≠ g → w.heap[b]? = some o → w'.heap[b]? = some o := fun b o hne hb' => by
  rw [h3'.block b (Array.getElem?_eq_some_iff.1 hb').1 (fun e => hne (Option.some.inj e))]
  exact hb'
 have othc : ∀ b j u,b ≠ g → w.cell? ⟨b,j,none⟩ = some u → w'.cell? ⟨b,j,none⟩ = some u := fun b j u hne hb' => by
  have := h3'.block b (lt_of_cell hb') (fun e => hne (Option.some.inj e))
  simp only [World.cell?,this]
  simpa only [World.cell?] using hb'
 by_cases hroom : l.length + 1 ≤ cap
 ·have hsz : 12 ≤ cur.size := by rw [hcs]; omega
  have hr2 := run_append_room (P := Tryz.prog) w 33 ty 32 i0 Tryz.underlying33 hi g l.length cap cur hg ⟨bt,0,none⟩ 1 1 [t0,t1,t2,t3,t4,t5] (by rw [hz1];rfl) hnews (fun u hu => (hcl u hu).2) hroom (by rw [hz1,hcs];simp only [List.length_cons,List.length_nil];omega)
  rw [hz1] at hr2
  rw [hr2] at hr
  injection hr with e1 e2
  subst e1
  subst e2
  obtain rfl : g = g' := by simpa [Value.ownBlock] using h4
  refine ⟨_,_,hr2,hown',h3,?_,?_,?_⟩
  ·intro b cs T hb2 hlt
   refine oth b _ ?_ hb2
   rintro rfl
   rw [hg] at hb2
   injection hb2 with hb2
   injection hb2 with hb2
   subst hb2
   omega
  ·intro g2 hh j u hj
   by_cases e : g2 = g
   ·subst e
    have := h2.cells (g := g2) rfl j u hj
    rwa [ad] at this
   ·exact othc g2 j u e (hh j u hj)
  ·intro v2 o2
   rcases o2.row.2 with ⟨-,h0⟩ | ⟨g2,cap2,cur2,rfl,hbg2,hgg2,hnc2,hcm2,hcs2,htake2⟩
   ·omega
   by_cases e : g2 = g
   ·subst e
    rw [hg] at hgg2
    injection hgg2 with hgg2
    injection hgg2 with hgg2
    subst hgg2
    refine ⟨⟨o2.row.1,.inr ⟨g2,cap2,_,rfl,hbg2,setRow_heap w g2 cur _ _ _ hg,hnc2,hcm2,?_,?_⟩⟩,o2.nl,o2.one,?_,?_⟩
    ·simp only [List.size_toArray, List.length_append, List.length_take, List.length_drop, Array.length_toList, List.length_cons, List.length_nil]
     omega
    ·rw [List.append_assoc, List.take_append_of_le_length (by simp only [List.length_take, Array.length_toList]; omega), List.take_take, Nat.min_self]
     exact htake2
    ·intro gg hgg
     obtain rfl : g2 = gg := by simpa [Value.ownBlock] using hgg
     exact h5
    ·intro i a hi2
     obtain ⟨p0,p1,p2,p3,p4,p5,s0,s1,s2,s3,s4,s5,hJ⟩ := o2.ivs i a hi2
     exact ⟨p0,p1,p2,p3,p4,p5,s0,s1,s2,s3,s4,s5,hJ.grown h3 ho.blk⟩
   ·refine ⟨⟨o2.row.1, .inr ⟨g2, cap2, cur2, rfl, hbg2, oth g2 _ e hgg2, hnc2, hcm2, hcs2, htake2⟩⟩, o2.nl, o2.one, ?_, ?_⟩
    ·intro gg hgg
     obtain rfl : g2 = gg := by simpa [Value.ownBlock] using hgg
     obtain ⟨cur3,e3,r1,r2⟩ := o2.blk g2 rfl
     exact ⟨cur3,e3,oth g2 _ e r1,r2⟩
    ·intro i a hi2
     obtain ⟨p0,p1,p2,p3,p4,p5,s0,s1,s2,s3,s4,s5,hJ⟩ := o2.ivs i a hi2
     exact ⟨p0,p1,p2,p3,p4,p5,s0,s1,s2,s3,s4,s5,hJ.grown h3 ho.blk⟩
 ·have holds : ∀ j u, xs[j]? = some u → w.cell? ((⟨g, 0, none⟩ : Addr).add j) = some u := ho.row.cells (g := g) rfl
  have hr2 := run_append_grow (P := Tryz.prog) w 33 ty 32 i0 _ Tryz.underlying33 hi hz0 ⟨g,0,none⟩ l.length cap xs (by rw [hz1];exact ho.row.1) holds ⟨bt,0,none⟩ 1 1 [t0,t1,t2,t3,t4,t5] (by rw [hz1];rfl) hnews (by omega) (by omega) (growslice_fits (by omega) (by rw [hz2];omega))
  rw [hr2] at hr
  injection hr with e1 e2
  have kk : Kept w w' := by rw [← e2];exact (Below.refl _ _).drew.alloc (Nat.le_refl _) _
  rw [e1,e2] at hr2
  refine ⟨_,_,hr2,hown',h3,fun b cs T hb2 _ => (kk.block b (Array.getElem?_eq_some_iff.1 hb2).1).trans hb2,fun g2 hh j u hj => (kk.cell (p := ⟨g2,j,none⟩) (lt_of_cell (hh j u hj))).trans (hh j u hj),fun v2 o2 => o2.kept kk⟩
theorem indexJ_c {w : World} {v : Value} {l : List RawI} {g : RawI → Bool} (hv : IvS w v l) (hn : l.length ≤ 1000000000)
 (h : ∀ w1 y,Kept w w1 → ∀ x,x ∈ l → IvR w1 y x → Calls Tryz.prog 100 #[y] w1 (RetK (.bool (g x)) w1)) :
 Calls Tryz.prog 126 #[v,.func (.func 100) #[] #[]] w (RetIdx l g w) := by
 obtain ⟨A,c,rfl,hc,hA⟩ := hv
 have HG := hid h
 have HA := hid hA
 clear h hA
 obtain ⟨n,hn'⟩ : ∃ n,n = l.length := ⟨_,rfl⟩
 rw [← hn'] at hn hc HA ⊢
 have HN := hid hn'
 clear hn'
 go_enter Tryz.func126,Tryz.ntmps126
 go_wp2_with fail
 go_loopw [8] (fun t wr => ∃ k : Nat,k ≤ n ∧ t = .int .i64 k ∧ (∀ i x,i < k → l[i]? = some x → g x = false) ∧ Kept w wr) (fun t _ => (n - intOf t).toNat)
 case atStart => exact ⟨0,Nat.zero_le _,rfl,fun i a hi => absurd hi (Nat.not_lt_zero _),Below.refl _ _⟩
 case round =>
  obtain ⟨k,hk,rfl,hall,hKr⟩ := hrel
  have KR := hid hKr
  have AL := hid hall
  clear hKr hall
  by_cases hlt : k < n
  ·obtain ⟨b, off, rfl, hd⟩ := HA.out (by omega)
   obtain ⟨x,hx⟩ : ∃ x,l[k]? = some x := ⟨_,List.getElem?_eq_getElem (by have := HN.out;omega)⟩
   obtain ⟨y0,y1,y2,y3,y4,y5,g0,g1,g2,g3,g4,g5,hI⟩ := (hd k x hx).kept KR.out
   have HX := hid hx
   have hm := HG.out wr _ KR.out x (List.mem_of_getElem? hx) hI
   obtain ⟨gx,hgx⟩ : ∃ y,y = g x := ⟨_,rfl⟩
   rw [← hgx] at hm
   have HM := hid hm
   have HGX := hid hgx
   clear hd hx hm hgx hI
   go_wp2_with fail
   refine HM.out.mono ?_
   rintro e w2 ⟨rfl,q⟩
   have K2 := hid (KR.out.trans q)
   clear q g0 g1 g2 g3 g4 g5
   simp only []
   cases gx
   ·go_wp2_with fail
    go_roundw
    case rel =>
     refine ⟨k + 1,by omega,by go_num,fun i a hi ha' => ?_,K2.out⟩
     by_cases h2 : i = k
     ·subst h2
      rw [HX.out] at ha'
      cases ha'
      exact HGX.out.symm
     ·exact AL.out i a (by omega) ha'
    case measure => simp only [intOf];omega
   ·go_wp2_with fail
    go_ret
    exact ⟨k,rfl,by rw [any_true HX.out HGX.out.symm];simp,K2.out⟩
  ·obtain rfl : k = n := by omega
   go_wp2_with fail
   go_ret
   exact ⟨-1,rfl,by rw [any_false (fun i x hi hx => AL.out i x (by have := HN.out;omega) hx)];decide,KR.out⟩
theorem containsJ_c {w : World} {v : Value} {l : List RawI} {g : RawI → Bool} (hv : IvS w v l) (hn : l.length ≤ 1000000000)
 (h : ∀ w1 y,Kept w w1 → ∀ x,x ∈ l → IvR w1 y x → Calls Tryz.prog 100 #[y] w1 (RetK (.bool (g x)) w1)) :
 Calls Tryz.prog 99 #[v,.func (.func 100) #[] #[]] w (RetK (.bool (l.any g)) w) := by
 have C := hid (indexJ_c hv hn h)
 obtain ⟨A,c,rfl,-,-⟩ := hv
 clear hn h
 go_enter Tryz.func99,Tryz.ntmps99
 go_wp2_with fail
 refine C.out.mono ?_
 rintro e w2 ⟨r,rfl,hr,q⟩
 have Q := hid q
 have HR := hid hr
 clear q hr C
 simp only []
 go_wp2_with fail
 go_ret
 exact ⟨by rw [← HR.out];rfl,Q.out⟩
theorem full1_c {w : World} {v : Value} {a : RawI} (hv : IvR w v a) (hl : a.lens 17592186044416) : Calls Tryz.prog 100 #[v] w (RetK (.bool (!mayI a)) w) := by
 obtain ⟨x0,x1,x2,x3,x4,x5,rfl,-,-⟩ := (show IvR _ _ _ from hv)
 obtain ⟨W,hW,kW,hb,-⟩ := boxV w x0 x1 x2 x3 x4 x5
 have M := hid (imay_c (hv.kept kW) hl)
 obtain ⟨f,hf⟩ : ∃ f,mayI a = f := ⟨_,rfl⟩
 rw [hf] at M ⊢
 obtain ⟨-,c0,c1,c2,c3,c4,c5⟩ := hb.facts
 have HW := hid hW
 clear hf hv hl hb hW
 go_enter Tryz.func100,Tryz.ntmps100
 go_upto_region 1 with fail
 rw [← HW.out]
 go_wp2_with fail
 refine M.out.mono ?_
 rintro e w2 ⟨rfl,q⟩
 simp only []
 go_wp2_with fail
 go_ret
 exact ⟨rfl,kW.trans q⟩
def rowF (k : Int) (c : List RawI) : Bool := decide ((c.length : Int) = k + 1) && c.all mayI
theorem any_not (l : List RawI) : (l.any fun a => !mayI a) = !l.all mayI := by
 induction l with
 | nil => rfl
 | cons a l ih => simp only [List.any_cons,List.all_cons,ih,Bool.not_and]
theorem full_c {w : World} {v : Value} {rows : List (List RawI)} {k : Int} (hv : Rws w v rows) (hn : rows.length ≤ 1000000000) (hl : ∀ r ∈ rows,r.length ≤ 1000000000 ∧ ∀ a ∈ r,a.lens 17592186044416) (k1 : -1 ≤ k) (k2 : k ≤ 2000000000) :
 Calls Tryz.prog 56 #[v,.int .i64 k] w (RetK (.bool (fullJ rows k)) w) := by
 obtain ⟨A,c,rfl,hc,hA⟩ := hv
 have HA := hid hA
 have HL := hid hl
 clear hA hl
 obtain ⟨n,hn'⟩ : ∃ n,n = rows.length := ⟨_,rfl⟩
 rw [← hn'] at hn hc HA ⊢
 have HN := hid hn'
 clear hn'
 have hwk : IntKind.i64.wrap (k + 1) = k + 1 := by simp [IntKind.wrap_i64];omega
 go_enter Tryz.func56,Tryz.ntmps56
 go_wp2_with fail
 go_loopw [9] (fun t wr => ∃ j : Nat,j ≤ n ∧ t = .int .i64 j ∧ (∀ i r,i < j → rows[i]? = some r → rowF k r = true) ∧ Kept w wr) (fun t _ => (n - intOf t).toNat)
 case atStart => exact ⟨0,Nat.zero_le _,rfl,fun i a hi => absurd hi (Nat.not_lt_zero _),Below.refl _ _⟩
 case round =>
  obtain ⟨j,hj,rfl,hall,hKr⟩ := hrel
  have KR := hid hKr
  have AL := hid hall
  clear hKr hall
  by_cases hlt : j < n
  ·obtain ⟨b, off, rfl, hD⟩ := HA.out (by omega)
   obtain ⟨r,hr⟩ : ∃ r,rows[j]? = some r := ⟨_,List.getElem?_eq_getElem (by have := HN.out;omega)⟩
   obtain ⟨s,hs,hS⟩ := hD j r hr
   have hs2 := (KR.out.cell (p := ⟨b,off + j,none⟩) (lt_of_cell hs)).trans hs
   have hS2 := hS.kept KR.out
   have hlr := HL.out r (List.mem_of_getElem? hr)
   have HC := hid (containsJ_c (g := fun a => !mayI a) hS2 hlr.1 (fun w1 y kq x hx hy => full1_c hy (hlr.2 x hx)))
   rw [any_not] at HC
   have HRJ := hid hr
   obtain ⟨A2,c2,rfl,-,-⟩ := hS2
   clear hs hS hD hr hlr
   by_cases hk : (r.length : Int) = k + 1
   ·obtain ⟨mb, hmb⟩ : ∃ mb, mb = r.all mayI := ⟨_, rfl⟩
    rw [← hmb] at HC
    have hrow : rowF k r = mb := by unfold rowF;rw [hk];simp [hmb]
    have HROW := hid hrow
    clear hmb hrow
    go_wp2_with fail
    refine HC.out.mono ?_
    rintro e w2 ⟨rfl,q⟩
    have K2 := hid (KR.out.trans q)
    clear q hs2
    simp only []
    cases mb
    ·go_wp2_with fail
     go_ret
     exact ⟨by
      have : fullJ rows k = false := by
       unfold fullJ
       rw [List.all_eq_false]
       refine ⟨r,List.mem_of_getElem? HRJ.out,?_⟩
       have := HROW.out
       unfold rowF at this
       rw [this]
       simp
      rw [this];rfl,K2.out⟩
    ·go_wp2_with fail
     go_roundw
     case rel =>
      refine ⟨j + 1,by omega,by go_num,fun i x hi hx => ?_,K2.out⟩
      by_cases hij : i = j
      ·subst hij
       rw [HRJ.out] at hx
       injection hx with hx
       rw [← hx,HROW.out]
      ·exact AL.out i x (by omega) hx
     case measure => simp [intOf];omega
   ·have hkb : ((r.length : Int) != k + 1) = true := by simpa using hk
    have HKK := hid hk
    go_wp2_with fail
    go_ret
    exact ⟨by
     have : fullJ rows k = false := by
      unfold fullJ
      rw [List.all_eq_false]
      refine ⟨r,List.mem_of_getElem? HRJ.out,?_⟩
      simp [HKK.out]
     rw [this];rfl,KR.out⟩
  ·obtain rfl : j = n := by omega
   go_wp2_with fail
   go_ret
   exact ⟨by
    have : fullJ rows k = true := by
     unfold fullJ
     rw [List.all_eq_true]
     intro r hr
     obtain ⟨i,hi,rfl⟩ := List.getElem_of_mem hr
     have := AL.out i _ (by have := HN.out;omega) (List.getElem?_eq_getElem hi)
     unfold rowF at this
     exact this
    rw [this];rfl,KR.out⟩
theorem boxw1 (w : World) (p : Int) : ∃ W,W = w.alloc (.cells #[.int .i64 p] 86) ∧ Kept w W ∧ W.heap[w.heap.size]? = some (.cells #[.int .i64 p] 86 (0,0)) :=
 ⟨_,rfl,kept_alloc _ _,heap_alloc_new _ _⟩
theorem solve1_bad {w : World} {bB bK bF bX bP bT nx cx : Nat} {AX : Option Addr} {s o : Value} {ls : List Ln} {outs : List Int} {k p : Int}
 (hB : w.heap[bB]? = some (.cells #[.int .i64 p] 3 (0,0))) (hK : w.heap[bK]? = some (.cells #[.int .i64 k] 3 (0,0))) (hF : w.heap[bF]? = some (.cells #[s,o] 27 (0,0)))
 (hX : w.heap[bX]? = some (.cells #[.slice AX nx cx] 33 (0,0))) (hP : w.heap[bP]? = some (.cells #[.slice none 0 0] 33 (0,0)))
 (hv : TpR w (.agg #[s,o]) ls outs) (hok : LnOk ls) (hn : ls.length ≤ 1000000000) (hno : outs.length ≤ 1000000000) (hnx : nx ≤ 1000000000) (hw : withinJ k p = true) (hm : mayT ls outs nx 0 0 = false) :
 Calls Tryz.prog 52 #[.pointer (some ⟨bB,0,none⟩),.pointer (some ⟨bK,0,none⟩),.pointer (some ⟨bF,0,none⟩),.pointer (some ⟨bX,0,none⟩),.pointer (some ⟨bP,0,none⟩),.pointer (some ⟨bT,0,none⟩)] w (GoesLL ⟨[],1⟩ w) := by
 have WI := hid (fun w1 => show Calls Tryz.prog 54 #[.int .i64 k,.int .i64 p] w1 (RetQ (.bool true) w1) by have := within_c w1 k p;rwa [hw] at this)
 have MT := hid (fun w1 (q : Kept w w1) => show Calls Tryz.prog 55 #[.agg #[s,o],.int .i64 (nx : Int),.int .i64 0,.int .i64 0] w1 (RetK (.bool false) w1) by have := may_tc (hv.kept q) hok hn hno (x := nx) (u := 0) (p := 0) (by omega) (by omega) (by omega);rwa [hm] at this)
 obtain ⟨W,hW,kW,bW⟩ := boxw1 w p
 have HW := hid hW
 have K := hid kW
 have cB := cell_of_block hB 0 _ rfl
 have HB := hid (blk_kept hB kW)
 have HK := hid (blk_kept hK kW)
 have HF := hid (blk_kept hF kW)
 have HX := hid (blk_kept hX kW)
 have HP := hid (blk_kept hP kW)
 have BAD := hid (fun w1 (q : Kept w w1) => show GoesLL ⟨[],1⟩ w (.panicked (failV 117 1)) w1 from ⟨q,.inr ⟨by decide,rfl⟩⟩)
 clear hW kW bW hB hK hF hX hP hv hok hn hno hw hm
 go_enter Tryz.func52,Tryz.ntmps52
 go_upto_region 2 with fail
 rw [← HW.out]
 clear HW cB
 refine region_lin (m := 39) (V := VL [(vE (.int .i64 k)),(vE (.int .i64 p)),(vE (.bool true)),(vE (.bool true)),(vE (.agg #[s,o])),(vE (.slice AX nx cx)),(vE (.int .i64 (nx : Int))),(vE (.slice none 0 0)),(vE (.int .i64 0)),(vE (.bool false)),(vE (.bool false)),(vE (.bool false)),(vE undef),(vE undef),(vE undef),(vE undef),(vE undef),(vE undef),(vE (.bool false)),(vE (.bool false)),(vE undef),(vE undef),(vE undef),(vE undef),(vE undef),(vE undef),(vE undef),(vE undef),(vE undef),(vE (.bool false)),(vE (.bool false)),(vE undef),(vE undef),(vE undef),(vE undef),(vE undef),(vE undef),(vE (.bool false)),(fun v _ => False)])
  (by kernel_rfl) rfl (by kernel_rfl) (by kernel_rfl) (by kernel_rfl) (mono_of _ ⟨mE,mE,mE,mE,mE,mE,mE,mE,mE,mE,mE,mE,mE,mE,mE,mE,mE,mE,mE,mE,mE,mE,mE,mE,mE,mE,mE,mE,mE,mE,mE,mE,mE,mE,mE,mE,mE,mE,fun v w w' k h => by first | exact h | exact h.kept k | exact ⟨h.1,h.2.kept k⟩,trivial⟩) (steps_of ⟨
    (fun aF wF F => by have s1 : aF.tmps.getD 1 undef = (.pointer (some ⟨bK,0,none⟩)) := F.o 1;have c0 := cell_at HK.out F.kept 0 _ rfl;exact sv rfl),(fun aF wF F => by have s0 : aF.tmps.getD 0 undef = (.pointer (some ⟨bB,0,none⟩)) := F.o 0;have c0 := cell_at HB.out F.kept 0 _ rfl;exact sv rfl),(fun aF wF F => by have s20 := F.v 0 20;have s21 := F.v 1 21;exact sQ (WI.out _) fun _ _ h => h),(fun aF wF F => by have s22 := F.v 2 22;exact sv rfl),(fun aF wF F => by have s2 : aF.tmps.getD 2 undef = (.pointer (some ⟨bF,0,none⟩)) := F.o 2;have c0 := cell_at HF.out F.kept 0 _ rfl;have c1 := cell_at HF.out F.kept 1 _ rfl;have sg := F.v 3 23;exact step_val ((wanted_guard rfl rfl sg).trans rfl) (by go_simp) rfl),(fun aF wF F => by have s3 : aF.tmps.getD 3 undef = (.pointer (some ⟨bX,0,none⟩)) := F.o 3;have c0 := cell_at HX.out F.kept 0 _ rfl;have sg := F.v 3 23;exact step_val ((wanted_guard rfl rfl sg).trans rfl) (by go_simp) rfl),(fun aF wF F => by have s25 := F.v 5 25;have sg := F.v 3 23;exact step_val ((wanted_guard rfl rfl sg).trans rfl) (by go_simp) rfl),(fun aF wF F => by have s4 : aF.tmps.getD 4 undef = (.pointer (some ⟨bP,0,none⟩)) := F.o 4;have c0 := cell_at HP.out F.kept 0 _ rfl;have sg := F.v 3 23;exact step_val ((wanted_guard rfl rfl sg).trans rfl) (by go_simp) rfl),(fun aF wF F => by have s27 := F.v 7 27;have sg := F.v 3 23;exact step_val ((wanted_guard rfl rfl sg).trans rfl) (by go_simp) rfl),(fun aF wF F => by have s24 := F.v 4 24;have s26 := F.v 6 26;have s28 := F.v 8 28;have sg := F.v 3 23;exact step_good ((wanted_guard rfl rfl sg).trans rfl) (by go_simp) (MT.out _ (K.out.trans F.kept)) (fun _ _ h => RetK.good h) (fun _ _ h => h)),(fun aF wF F => by have s23 := F.v 3 23;have s29 := F.v 9 29;exact sv rfl),(fun aF wF F => by have s30 := F.v 10 30;exact sv rfl),(so 11 31),(so 11 31),(so 11 31),(so 11 31),(so 11 31),(so 11 31),(fun aF wF F => by have s31 := F.v 11 31;have s37 := F.v 17 37;exact sv rfl),(fun aF wF F => by have s38 := F.v 18 38;exact sv rfl),(so 19 39),(so 19 39),(so 19 39),(so 19 39),(so 19 39),(so 19 39),(so 19 39),(so 19 39),(so 19 39),(fun aF wF F => by have s39 := F.v 19 39;have s48 := F.v 28 48;exact sv rfl),(fun aF wF F => by have s49 := F.v 29 49;exact sv rfl),(so 30 50),(so 30 50),(so 30 50),(so 30 50),(so 30 50),(so 30 50),(fun aF wF F => by have s50 := F.v 30 50;have s56 := F.v 36 56;exact sv rfl),(fun aF wF F => by have s57 := F.v 37 57;exact step_call (by simp [Region.wanted]) (by go_simp) (must_ifJ false 1 _) (fun e w2 h => h.elim (fun ⟨v,he,hk,hb,_⟩ => absurd hb (by decide)) (fun ⟨c,he,h0,hc,hw2⟩ => .inr ⟨c,he,F.defers,by subst hc;exact BAD.out w2 (hw2 ▸ (K.out.trans F.kept))⟩))),
    trivial⟩) ?_
 intro u w1 k1 hu
 have p58 := hp hu 38
 simp only [puts,slotOf,if_true,Act.put,z1,z2,z3,z4,z5,z6,z7,hv hu 0,hv hu 1,hv hu 2,hv hu 3,hv hu 4,hv hu 5,hv hu 6,hv hu 7,hv hu 8,hv hu 9,hv hu 10,hv hu 11,hv hu 12,hv hu 13,hv hu 14,hv hu 15,hv hu 16,hv hu 17,hv hu 18,hv hu 19,hv hu 20,hv hu 21,hv hu 22,hv hu 23,hv hu 24,hv hu 25,hv hu 26,hv hu 27,hv hu 28,hv hu 29,hv hu 30,hv hu 31,hv hu 32,hv hu 33,hv hu 34,hv hu 35,hv hu 36,hv hu 37]
 clear hu
 generalize u 38 = v58 at *
 exact p58.elim
end Go.Proofs.YtgododcbmkpbjaaGreatDoor
