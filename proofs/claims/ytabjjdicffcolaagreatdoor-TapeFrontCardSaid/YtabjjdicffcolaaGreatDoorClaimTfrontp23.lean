/- Contracts of package arith, fifth part: Add. -/
import Derived.Test.YtabjjdicffcolaaGreatDoorClaimTfrontp22
set_option maxRecDepth 100000
set_option maxHeartbeats 16000000
namespace Go.Proofs.YtabjjdicffcolaaGreatDoor
open Go.Lib (hid)
open Go.RowKit
def Goes2 (T:TypeId) (o:Outc RawI) (w:World) (e:Ending) (w':World):Prop :=
 Kept w w'∧((o.k=0∧∃ v1 v2,e=.returned (.tuple #[v1,v2])∧DyR w' v1 o.v.lo∧DyR w' v2 o.v.hi)∨(o.k≠0∧e=.panicked (failV T o.k)))
def IvAt (w:World) (b o:Nat) (a:RawI):Prop:=∃ x y z x' y' z',w.cell? ⟨b,o,none⟩=some x∧w.cell? ⟨b,o+1,none⟩=some y∧w.cell? ⟨b,o+2,none⟩=some z ∧
 w.cell? ⟨b,o+3,none⟩=some x'∧w.cell? ⟨b,o+4,none⟩=some y'∧w.cell? ⟨b,o+5,none⟩=some z'∧IvR w (.agg #[x,y,z,x',y',z']) a
def IvS (w:World) (v:Value) (l:List RawI):Prop:=∃ A c,v=.slice A l.length c∧l.length≤c∧(0<l.length→∃ b off,A=some ⟨b,off,none⟩∧∀ i a,l[i]?=some a→IvAt w b (off+i*6) a)
theorem IvAt.kept {w w':World}{b o:Nat}{a:RawI}(h:IvAt w b o a)(k:Kept w w'):IvAt w' b o a:=by
 obtain ⟨x,y,z,x',y',z',h0,h1,h2,h3,h4,h5,hd⟩:=h
 have hb:=lt_of_cell h0
 exact ⟨x,y,z,x',y',z',(k.cell (p:=⟨b,o,none⟩) hb).trans h0,(k.cell (p:=⟨b,o+1,none⟩) hb).trans h1,(k.cell (p:=⟨b,o+2,none⟩) hb).trans h2,
  (k.cell (p:=⟨b,o+3,none⟩) hb).trans h3,(k.cell (p:=⟨b,o+4,none⟩) hb).trans h4,(k.cell (p:=⟨b,o+5,none⟩) hb).trans h5,hd.kept k⟩
theorem IvS.kept {w w':World}{v:Value}{l:List RawI}(h:IvS w v l)(k:Kept w w'):IvS w' v l:=by
 obtain ⟨A,c,rfl,hc,hA⟩:=h
 refine ⟨A,c,rfl,hc,fun h0=>?_⟩
 obtain ⟨b,off,rfl,hd⟩:=hA h0
 exact ⟨b,off,rfl,fun i d hi=>(hd i d hi).kept k⟩
def rzI:RawI:=⟨rz,rz⟩
theorem ivR_zero (w:World):IvR w (.agg #[.bool false,.slice none 0 0,.int .i64 0,.bool false,.slice none 0 0,.int .i64 0]) rzI:=⟨_,_,_,_,_,_,rfl,dyR_zero w,dyR_zero w⟩
def faceO (p:Int) (l:List RawI) (o:Outc RawI):Outc RawI:=if 1≤p∧p≤2000∧l.all mayI=true then o else ⟨rzI,1⟩
theorem results_face {tmps:Array Value}{w:World}{b b':Nat}{x y z x' y' z' q:Value}(h:BlkI w b x y z x' y' z')(h':w.cell? ⟨b',0,none⟩=some q)
 (ht:tmps.getD 6 undef=.pointer (some ⟨b,0,none⟩)) (ht':tmps.getD 7 undef=.pointer (some ⟨b',0,none⟩)) :
 (results Tryz.f124 tmps).run Tryz.prog w=.ok (.tuple #[.agg #[x,y,z,x',y',z'],q]) w:=by
 obtain ⟨_,c0,c1,c2,c3,c4,c5⟩:=h.facts
 have t1:tmps[6]?.getD undef=.pointer (some ⟨b,0,none⟩):=by simpa using ht
 have t2:tmps[7]?.getD undef=.pointer (some ⟨b',0,none⟩):=by simpa using ht'
 simp [results,Tryz.results124,t1,t2,go_sem,c0,c1,c2,c3,c4,c5,h']
theorem face_cA {w:World}{K:Nat}{cap:Array Value}{v:Value}{p:Int}{l:List RawI}{o:Outc RawI}(hv:IvS w v l)(hl:∀ a∈l,a.lens 17592186044416)(hn:l.length≤1000)
 (h:1≤p→p≤2000→l.all mayI=true→∀ w1,Kept w w1→Calls Tryz.prog K cap w1 (Goes2 166 o w1)) (hz:o.k≠0→o.v=rzI)
 (hk:∀ w,(callFunc K cap).run Tryz.prog w=.ok (.enter K cap) w) :
 Calls Tryz.prog 124 #[.int .i64 p,.func (.func K) #[] cap,v] w (RetIE (faceO p l o) w):=by
 have hmf:∀ (fn:Fn) (first cap:Array Value) (w:World),(Instr.makeFunc fn first cap).run Tryz.prog w=.ok (.func fn first cap) w:=fun _ _ _ _=>rfl
 obtain ⟨A,c,rfl,hc,hA⟩:=hv
 have HH:=hid h
 have HA:=hid hA
 have HL:=hid hl
 have HZ:=hid hz
 have HK:=hid hk
 clear h hA hl hz hk
 obtain ⟨n,hn'⟩:∃ n,n=l.length:=⟨_,rfl⟩
 rw [←hn'] at hn hc HA ⊢
 have HN:=hid hn'
 clear hn'
 obtain ⟨W,hW⟩:∃ W,W=(w.alloc (.cells #[.bool false,.slice none 0 0,.int .i64 0,.bool false,.slice none 0 0,.int .i64 0] 30)).alloc (.cells #[.int .i64 0] 3):=⟨_,rfl⟩
 have kW:Kept w W:=by rw [hW];exact (kept_alloc _ _).trans (kept_alloc _ _)
 have b0:BlkI W w.heap.size (.bool false) (.slice none 0 0) (.int .i64 0) (.bool false) (.slice none 0 0) (.int .i64 0):=by rw [hW];exact (blkI_zero w).kept (kept_alloc _ _)
 have b1:W.heap[w.heap.size+1]?=some (.cells #[.int .i64 0] 3 (0,0)):=by
  rw [hW]
  have:=heap_alloc_new (w.alloc (.cells #[.bool false,.slice none 0 0,.int .i64 0,.bool false,.slice none 0 0,.int .i64 0] 30)) (.cells #[.int .i64 0] 3)
  simpa using this
 have HW:=hid hW
 have KW:=hid kW
 have B0:=hid b0
 have B1:=hid b1
 clear hW kW b0 b1
 by_cases hp:1≤p∧p≤2000
 ·have hd1 : decide (1 ≤ p) = true := by simp [hp.1]
  have hd2:decide (p≤2000)=true:=by simp [hp.2]
  have HP:=hid hp
  clear hp
  go_enter_defers Tryz.func124,Tryz.ntmps124
  go_wp2_with fail
  rw [←HW.out]
  refine (must_trueA 1 _).mono ?_
  rintro e w1 ⟨rfl,q⟩
  have K1:=hid q
  clear q
  simp only []
  go_wp2_with fail
  go_loopw [22] (fun t wr=>∃ k:Nat,k≤n∧t=.int .i64 k∧(∀ i a,i<k→l[i]?=some a→mayI a=true)∧Kept W wr) (fun t _=>(n-intOf t).toNat)
  case atStart=>exact ⟨0,Nat.zero_le _,rfl,fun i a hi=>absurd hi (Nat.not_lt_zero _),K1.out⟩
  case round =>
   obtain ⟨k,hk,rfl,hall,hKr⟩:=hrel
   have KR:=hid hKr
   have AL:=hid hall
   clear hKr hall
   by_cases hlt:k<n
   ·obtain ⟨b, off, rfl, hd⟩ := HA.out (by omega)
    obtain ⟨a,hak⟩:∃ a,l[k]?=some a:=⟨_,List.getElem?_eq_getElem (by have:=HN.out;omega)⟩
    obtain ⟨x,y,z,x',y',z',h0,h1,h2,h3,h4,h5,hI⟩:=(hd k a hak).kept (KW.out.trans KR.out)
    obtain ⟨A1,l1,c1,A2,l2,c2,ei,-,-⟩:=ivR_split hI
    injection ei with ei;injection ei with ei
    simp only [List.cons.injEq,and_true] at ei
    obtain ⟨rfl,rfl,rfl,rfl,rfl,rfl⟩:=ei
    have hm:=fun w2 (q:Kept wr w2)=>imay_c (hI.kept q) (HL.out a (List.mem_of_getElem? hak))
    have AK:=hid hak
    clear hd hak hI
    obtain ⟨mb,hmb⟩:∃ mb,mb=mayI a:=⟨_,rfl⟩
    rw [←hmb] at hm
    have HMB:=hid hmb
    have HM:=hid hm
    clear hmb hm
    generalize a.lo.neg=n1 at *
    generalize a.lo.e=e1 at *
    generalize a.hi.neg=n2 at *
    generalize a.hi.e=e2 at *
    go_wp2_with fail
    refine (HM.out _ (kept_alloc _ _)).mono ?_
    rintro e w2 ⟨rfl,q⟩
    have K2:=hid (KR.out.trans ((kept_alloc _ _).trans q))
    clear q h0 h1 h2 h3 h4 h5
    simp only []
    go_wp2_with fail
    cases mb
    ·refine (must_cA false 1 _).mono ?_
     rintro e w3 ⟨he,rfl⟩
     obtain rfl:e=.panicked (failV 166 1):=he
     have hpost:faceO p l o=⟨rzI,1⟩:=by
      unfold faceO
      rw [if_neg]
      rintro ⟨-,-,h3⟩
      rw [List.all_eq_true] at h3
      have:=h3 a (List.mem_of_getElem? AK.out)
      rw [←HMB.out] at this
      cases this
     change bodyPostD _ _ (RetIE (faceO p l o) w) (Exit.panic _) _ _
     rw [hpost]
     refine leaves_cons (f:=172) (args:=#[.pointer (some ⟨w.heap.size,0,none⟩),.pointer (some ⟨w.heap.size+1,0,none⟩)]) (by simp) (by simp [go_sem]) ?_
     have y0:=B0.out.kept K2.out
     have y1:=((Below.block K2.out) (w.heap.size+1) (Array.getElem?_eq_some_iff.1 B1.out).1).trans B1.out
     refine (catchA_fail _ _ _ _ _ _ _ _ _ _ _ y0 y1 (by omega)).mono ?_
     rintro e u' w4 ⟨rfl,rfl,rfl⟩
     obtain ⟨d0,d1⟩:=laidI_cells (x:=.bool false) (y:=.slice none 0 0) (z:=.int .i64 0) (x':=.bool false) (y':=.slice none 0 0) (z':=.int .i64 0) (q:=.int .i64 (1:Int)) (o:=.cells #[.int .i64 (1:Int)] 166) y0 y1 (by omega)
     have hkept:=laidI_kept (x:=.bool false) (y:=.slice none 0 0) (z:=.int .i64 0) (x':=.bool false) (y':=.slice none 0 0) (z':=.int .i64 0) (q:=.int .i64 (1:Int)) (o:=.cells #[.int .i64 (1:Int)] 166) (KW.out.trans K2.out) (Nat.le_refl w.heap.size) (Nat.le_succ w.heap.size)
     have HKE:=hid hkept
     clear hkept y0 y1
     refine ⟨.tuple #[.agg #[.bool false,.slice none 0 0,.int .i64 0,.bool false,.slice none 0 0,.int .i64 0],.int .i64 (1:Int)],?_,?_⟩
     ·obtain ⟨-, c0, c1, c2, c3, c4, c5⟩ := d0.facts
      generalize laidI _ _ _ _ _ _ _ _ _ _ _=WW at *
      simp [results,Tryz.results124,go_sem,c0,c1,c2,c3,c4,c5,d1]
     ·exact ⟨HKE.out.drew,_,rfl,ivR_zero _⟩
    ·refine (must_trueA 1 _).mono ?_
     rintro e w3 ⟨rfl,q⟩
     replace K2:=hid (K2.out.trans q)
     simp only []
     go_wp2_with fail
     go_roundw
     case rel =>
      refine ⟨k+1,by omega,by go_num,fun i a' hi ha'=>?_,K2.out⟩
      by_cases hik:i=k
      ·subst hik
       rw [AK.out] at ha'
       injection ha' with ha'
       rw [←ha',←HMB.out]
      ·exact AL.out i a' (by omega) ha'
     case measure=>simp [intOf];omega
   ·obtain rfl : k = n := by omega
    have hcall:=HH.out HP.out.1 HP.out.2 (by
     rw [List.all_eq_true]
     intro a ha
     obtain ⟨i,hi,rfl⟩:=List.getElem_of_mem ha
     exact AL.out i _ (by have:=HN.out;omega) (List.getElem?_eq_getElem hi))
    have HC:=hid hcall
    clear hcall
    have hk:=HK.out
    go_wp2_with fail
    have hpost:faceO p l o=o:=by
     unfold faceO
     rw [if_pos]
     refine ⟨HP.out.1,HP.out.2,?_⟩
     rw [List.all_eq_true]
     intro a ha
     obtain ⟨i,hi,rfl⟩:=List.getElem_of_mem ha
     exact AL.out i _ (by have:=HN.out;omega) (List.getElem?_eq_getElem hi)
    refine (HC.out _ (KW.out.trans KR.out)).mono ?_
    rintro e w2 ⟨q,⟨h0,v1,v2,rfl,z1,z2⟩ | ⟨h0,rfl⟩⟩
    ·obtain ⟨A1, l1, c1, rfl, z1⟩ := rawR_split z1
     obtain ⟨A2,l2,c2,rfl,z2⟩:=rawR_split z2
     have y0:=B0.out.kept (KR.out.trans q)
     have y1:=(q.block (w.heap.size+1) (by have:=(Array.getElem?_eq_some_iff.1 B1.out).1;have:=KR.out.size;omega)).trans (((KR.out).block (w.heap.size+1) (Array.getElem?_eq_some_iff.1 B1.out).1).trans B1.out)
     obtain ⟨lb,r0,r1,r2,r3,r4,r5⟩:=y0.facts
     obtain ⟨f0,f1,f2,f3,f4,f5⟩:=y0.free
     have lb1:w.heap.size+1<w2.heap.size:=(Array.getElem?_eq_some_iff.1 y1).1
     have s0:=cell_of_block y1 0 _ rfl
     have g0:=free_of_block y1 0
     have m1:¬w.heap.size=w2.heap.size:=by omega
     have m2:¬w.heap.size+1=w2.heap.size:=by omega
     have m3:¬w.heap.size=w2.heap.size+1:=by omega
     have m4:¬w.heap.size+1=w2.heap.size+1:=by omega
     have m5:¬w.heap.size=w.heap.size+1:=by omega
     have Z1:=hid z1
     have Z2:=hid z2
     have Y0:=hid y0
     have Y1:=hid y1
     have H0:=hid h0
     have K2:=hid (KW.out.trans (KR.out.trans q))
     have HPOST:=hid hpost
     clear z1 z2 y0 y1 h0 q hpost hk
     simp only []
     go_wp2_with fail
     refine leaves_cons (f:=172) (args:=#[.pointer (some ⟨w.heap.size,0,none⟩),.pointer (some ⟨w.heap.size+1,0,none⟩)]) (by simp) (by simp [go_sem]) ?_
     refine (catchA_idle _ _ _).mono ?_
     rintro e u' w4 ⟨rfl,rfl,rfl⟩
     obtain ⟨x0,x1⟩:=laidI_cells (x:=.bool o.v.lo.neg) (y:=.slice A1 l1 c1) (z:=.int .i64 o.v.lo.e) (x':=.bool o.v.hi.neg) (y':=.slice A2 l2 c2) (z':=.int .i64 o.v.hi.e) (q:=.int .i64 0) (o:=.cells #[.bool o.v.lo.neg,.slice A1 l1 c1,.int .i64 o.v.lo.e] 28) Y0.out Y1.out m5
     refine ⟨_,results_face ((x0.kept (kept_alloc _ _)).kept (kept_alloc _ _)) (cell_kept (kept_alloc _ _) (cell_kept (kept_alloc _ _) x1)) rfl rfl,?_⟩
     rw [HPOST.out]
     refine ⟨((laidI_kept K2.out (Nat.le_refl _) (Nat.le_succ _)).trans (kept_alloc _ _)).trans (kept_alloc _ _),_,by rw [H0.out],_,_,_,_,_,_,rfl,?_,?_⟩
     ·exact ((Z1.out.laidI Y0.out Y1.out m5 _ _ _ _ _ _ _ _).kept (kept_alloc _ _)).kept (kept_alloc _ _)
     ·exact ((Z2.out.laidI Y0.out Y1.out m5 _ _ _ _ _ _ _ _).kept (kept_alloc _ _)).kept (kept_alloc _ _)
    ·have K2 := hid (KR.out.trans q)
     have hpost2:faceO p l o=⟨rzI,o.k⟩:=by rw [hpost,←HZ.out h0]
     change bodyPostD _ _ (RetIE (faceO p l o) w) (Exit.panic _) _ _
     rw [hpost2]
     refine leaves_cons (f:=172) (args:=#[.pointer (some ⟨w.heap.size,0,none⟩),.pointer (some ⟨w.heap.size+1,0,none⟩)]) (by simp) (by simp [go_sem]) ?_
     have y0:=B0.out.kept K2.out
     have y1:=((Below.block K2.out) (w.heap.size+1) (Array.getElem?_eq_some_iff.1 B1.out).1).trans B1.out
     refine (catchA_fail _ _ _ _ _ _ _ _ _ _ _ y0 y1 (by omega)).mono ?_
     rintro e u' w4 ⟨rfl,rfl,rfl⟩
     obtain ⟨d0,d1⟩:=laidI_cells (x:=.bool false) (y:=.slice none 0 0) (z:=.int .i64 0) (x':=.bool false) (y':=.slice none 0 0) (z':=.int .i64 0) (q:=.int .i64 o.k) (o:=.cells #[.int .i64 o.k] 166) y0 y1 (by omega)
     have hkept:=laidI_kept (x:=.bool false) (y:=.slice none 0 0) (z:=.int .i64 0) (x':=.bool false) (y':=.slice none 0 0) (z':=.int .i64 0) (q:=.int .i64 o.k) (o:=.cells #[.int .i64 o.k] 166) (KW.out.trans K2.out) (Nat.le_refl w.heap.size) (Nat.le_succ w.heap.size)
     have HKE:=hid hkept
     clear hkept y0 y1
     refine ⟨.tuple #[.agg #[.bool false,.slice none 0 0,.int .i64 0,.bool false,.slice none 0 0,.int .i64 0],.int .i64 o.k],?_,?_⟩
     ·obtain ⟨-, c0, c1, c2, c3, c4, c5⟩ := d0.facts
      generalize laidI _ _ _ _ _ _ _ _ _ _ _=WW at *
      simp [results,Tryz.results124,go_sem,c0,c1,c2,c3,c4,c5,d1]
     ·exact ⟨HKE.out.drew,_,rfl,ivR_zero _⟩
 ·have hpost : faceO p l o = ⟨rzI, 1⟩ := by
   unfold faceO
   rw [if_neg]
   rintro ⟨h1,h2,-⟩
   exact hp ⟨h1,h2⟩
  rw [hpost]
  have K2:=hid (Below.refl W.heap.size W)
  by_cases h1:1≤p
  ·have hd1 : decide (1 ≤ p) = true := by simp [h1]
   have hd2:decide (p≤2000)=false:=by simp;omega
   clear hp h1
   go_enter_defers Tryz.func124,Tryz.ntmps124
   go_wp2_with fail
   rw [←HW.out]
   refine (must_cA false 1 _).mono ?_
   rintro e w3 ⟨he,rfl⟩
   obtain rfl:e=.panicked (failV 166 1):=he
   change bodyPostD _ _ _ (Exit.panic _) _ _
   refine leaves_cons (f:=172) (args:=#[.pointer (some ⟨w.heap.size,0,none⟩),.pointer (some ⟨w.heap.size+1,0,none⟩)]) (by simp) (by simp [go_sem]) ?_
   have y0:=B0.out.kept K2.out
   have y1:=((Below.block K2.out) (w.heap.size+1) (Array.getElem?_eq_some_iff.1 B1.out).1).trans B1.out
   refine (catchA_fail _ _ _ _ _ _ _ _ _ _ _ y0 y1 (by omega)).mono ?_
   rintro e u' w4 ⟨rfl,rfl,rfl⟩
   obtain ⟨d0,d1⟩:=laidI_cells (x:=.bool false) (y:=.slice none 0 0) (z:=.int .i64 0) (x':=.bool false) (y':=.slice none 0 0) (z':=.int .i64 0) (q:=.int .i64 (1:Int)) (o:=.cells #[.int .i64 (1:Int)] 166) y0 y1 (by omega)
   have hkept:=laidI_kept (x:=.bool false) (y:=.slice none 0 0) (z:=.int .i64 0) (x':=.bool false) (y':=.slice none 0 0) (z':=.int .i64 0) (q:=.int .i64 (1:Int)) (o:=.cells #[.int .i64 (1:Int)] 166) (KW.out.trans K2.out) (Nat.le_refl w.heap.size) (Nat.le_succ w.heap.size)
   have HKE:=hid hkept
   clear hkept y0 y1
   refine ⟨.tuple #[.agg #[.bool false,.slice none 0 0,.int .i64 0,.bool false,.slice none 0 0,.int .i64 0],.int .i64 (1:Int)],?_,?_⟩
   ·obtain ⟨-, c0, c1, c2, c3, c4, c5⟩ := d0.facts
    generalize laidI _ _ _ _ _ _ _ _ _ _ _=WW at *
    simp [results,Tryz.results124,go_sem,c0,c1,c2,c3,c4,c5,d1]
   ·exact ⟨HKE.out.drew,_,rfl,ivR_zero _⟩
  ·have hd1 : decide (1 ≤ p) = false := by simp; omega
   clear hp h1
   go_enter_defers Tryz.func124,Tryz.ntmps124
   go_wp2_with fail
   rw [←HW.out]
   refine (must_cA false 1 _).mono ?_
   rintro e w3 ⟨he,rfl⟩
   obtain rfl:e=.panicked (failV 166 1):=he
   change bodyPostD _ _ _ (Exit.panic _) _ _
   refine leaves_cons (f:=172) (args:=#[.pointer (some ⟨w.heap.size,0,none⟩),.pointer (some ⟨w.heap.size+1,0,none⟩)]) (by simp) (by simp [go_sem]) ?_
   have y0:=B0.out.kept K2.out
   have y1:=((Below.block K2.out) (w.heap.size+1) (Array.getElem?_eq_some_iff.1 B1.out).1).trans B1.out
   refine (catchA_fail _ _ _ _ _ _ _ _ _ _ _ y0 y1 (by omega)).mono ?_
   rintro e u' w4 ⟨rfl,rfl,rfl⟩
   obtain ⟨d0,d1⟩:=laidI_cells (x:=.bool false) (y:=.slice none 0 0) (z:=.int .i64 0) (x':=.bool false) (y':=.slice none 0 0) (z':=.int .i64 0) (q:=.int .i64 (1:Int)) (o:=.cells #[.int .i64 (1:Int)] 166) y0 y1 (by omega)
   have hkept:=laidI_kept (x:=.bool false) (y:=.slice none 0 0) (z:=.int .i64 0) (x':=.bool false) (y':=.slice none 0 0) (z':=.int .i64 0) (q:=.int .i64 (1:Int)) (o:=.cells #[.int .i64 (1:Int)] 166) (KW.out.trans K2.out) (Nat.le_refl w.heap.size) (Nat.le_succ w.heap.size)
   have HKE:=hid hkept
   clear hkept y0 y1
   refine ⟨.tuple #[.agg #[.bool false,.slice none 0 0,.int .i64 0,.bool false,.slice none 0 0,.int .i64 0],.int .i64 (1:Int)],?_,?_⟩
   ·obtain ⟨-, c0, c1, c2, c3, c4, c5⟩ := d0.facts
    generalize laidI _ _ _ _ _ _ _ _ _ _ _=WW at *
    simp [results,Tryz.results124,go_sem,c0,c1,c2,c3,c4,c5,d1]
   ·exact ⟨HKE.out.drew,_,rfl,ivR_zero _⟩
def chainL (v:Iv):List Int→Outc Iv
 | []=>⟨v,0⟩
 | k::l=>if k≠0 then ⟨iz,k⟩ else chainL v l
theorem ends_chain (o1 o3:Outc Dy)(f g:Dy→Outc Dy):ends (o1.bind dz f) (o3.bind dz g)=chainL ⟨(f o1.v).v,(g o3.v).v⟩ [o1.k,(f o1.v).k,o3.k,(g o3.v).k]:=by
 unfold ends Outc.bind
 simp only [chainL]
 by_cases h1:o1.k=0
 ·simp only [h1, if_true, ne_eq, not_true_eq_false, if_false]
  by_cases h2:(f o1.v).k=0
  ·simp only [h2, if_true, not_true_eq_false, if_false]
   by_cases h3:o3.k=0
   ·simp only [h3, if_true, not_true_eq_false, if_false]
    by_cases h4:(g o3.v).k=0
    ·simp only [h4,if_true,not_true_eq_false,if_false]
    ·simp only [h4,if_false,not_false_eq_true,if_true]
   ·simp only [h3,if_false,not_false_eq_true,if_true]
  ·simp only [h2,if_false,not_false_eq_true,if_true]
 ·simp only [h1,if_false,ne_eq,not_false_eq_true,if_true]
def rawO (o:Outc Iv):Outc RawI:=⟨o.v.raw,o.k⟩
theorem iz_raw:iz.raw=rzI:=by show RawI.mk dz.raw dz.raw=⟨rz,rz⟩;rw [dz_raw]
theorem ret_dydy {fn:Func}{R:Ending→World→Prop}{a:Act}{w:World}{b b' t t':Nat}{x y z x' y' z':Value}(h:Blk w b x y z)(h':Blk w b' x' y' z')
 (hres:fn.results=#[.cell t 28,.cell t' 28]) (ht:a.tmps.getD t undef=.pointer (some ⟨b,0,none⟩)) (ht':a.tmps.getD t' undef=.pointer (some ⟨b',0,none⟩)) (hd:a.defers=[])
 (hR:R (.returned (.tuple #[.agg #[x,y,z],.agg #[x',y',z']])) w):bodyPost Tryz.prog fn R .ret a w:=by
 obtain ⟨_,c0,c1,c2,_⟩:=h.facts
 obtain ⟨_,d0,d1,d2,_⟩:=h'.facts
 refine bodyPost_ret (v:=.tuple #[.agg #[x,y,z],.agg #[x',y',z']]) ?_ hd hR
 have ht2:a.tmps[t]?.getD undef=.pointer (some ⟨b,0,none⟩):=by simpa using ht
 have ht3:a.tmps[t']?.getD undef=.pointer (some ⟨b',0,none⟩):=by simpa using ht'
 simp [results,hres,ht2,ht3,go_sem,c0,c1,c2,d0,d1,d2]
theorem two_laid {w w1:World}{b3 b4:Nat}{r1 r2:Raw}{A A':Option Addr}{l c l' c':Nat}{T:TypeId}{res:Outc RawI}(hk:Kept w w1)(h3:w.heap.size≤b3)(h4:w.heap.size≤b4)(hne:¬b3=b4)
 (R3:Blk w1 b3 (.bool false) (.slice none 0 0) (.int .i64 0)) (R4:Blk w1 b4 (.bool false) (.slice none 0 0) (.int .i64 0))
 (d1:DyR w1 (.agg #[.bool r1.neg,.slice A l c,.int .i64 r1.e]) r1) (d2:DyR w1 (.agg #[.bool r2.neg,.slice A' l' c',.int .i64 r2.e]) r2) (hr:res=⟨⟨r1,r2⟩,0⟩) :
 Blk (dyW (dyW w1 b3 (.bool r1.neg) (.slice A l c) (.int .i64 r1.e)) b4 (.bool r2.neg) (.slice A' l' c') (.int .i64 r2.e)) b3 (.bool r1.neg) (.slice A l c) (.int .i64 r1.e) ∧
 Blk (dyW (dyW w1 b3 (.bool r1.neg) (.slice A l c) (.int .i64 r1.e)) b4 (.bool r2.neg) (.slice A' l' c') (.int .i64 r2.e)) b4 (.bool r2.neg) (.slice A' l' c') (.int .i64 r2.e) ∧
 Goes2 T res w (.returned (.tuple #[.agg #[.bool r1.neg,.slice A l c,.int .i64 r1.e],.agg #[.bool r2.neg,.slice A' l' c',.int .i64 r2.e]])) (dyW (dyW w1 b3 (.bool r1.neg) (.slice A l c) (.int .i64 r1.e)) b4 (.bool r2.neg) (.slice A' l' c') (.int .i64 r2.e)):=by
 have R4':=R4.laid_other (b':=b3) (fun h=>hne h.symm) (.bool r1.neg) (.slice A l c) (.int .i64 r1.e)
 refine ⟨(R3.laid _ _ _).laid_other hne _ _ _,R4'.laid _ _ _,dyW_kept (dyW_kept hk h3) h4,.inl ?_⟩
 subst hr
 exact ⟨rfl,_,_,rfl,(d1.dyW R3 (noLimb_bool _) (noLimb_slice _ _ _) (noLimb_i64 _) _ _ _).dyW R4' (noLimb_bool _) (noLimb_slice _ _ _) (noLimb_i64 _) _ _ _,
  (d2.dyW R3 (noLimb_bool _) (noLimb_slice _ _ _) (noLimb_i64 _) _ _ _).dyW R4' (noLimb_bool _) (noLimb_slice _ _ _) (noLimb_i64 _) _ _ _⟩
theorem dyW_swap (w:World){b b':Nat}(hne:¬b=b')(x y z x' y' z':Value):dyW (dyW w b x y z) b' x' y' z'=dyW (dyW w b' x' y' z') b x y z:=by
 have hs:∀ (w:World) (i j:Nat) (u v:Value),(w.setCell ⟨b,i,none⟩ u).setCell ⟨b',j,none⟩ v=(w.setCell ⟨b',j,none⟩ v).setCell ⟨b,i,none⟩ u:=by
  intro w i j u v
  simp only [World.setCell]
  congr 1
  apply Array.ext_getElem?
  intro k
  simp only [Array.getElem?_modify]
  by_cases h1:b=k
  ·have h2 : ¬ b' = k := fun h => hne (h1.trans h.symm)
   simp [h1,h2]
  ·by_cases h2 : b' = k
   ·simp [h1,h2]
   ·simp [h1,h2]
 unfold dyW
 simp only [hs]
def StepsR (res:Outc RawI) (v:RawI):List Int→Prop
 | []=>res=⟨v,0⟩
 | k::l=>(k≠0→res=⟨rzI,k⟩)∧(k=0→StepsR res v l)
theorem steps_chain (v:Iv):∀ l:List Int,StepsR (rawO (chainL v l)) v.raw l
 | []=>rfl
 | k :: l => by
   refine ⟨fun h=>?_,fun h=>?_⟩
   ·unfold chainL;rw [if_pos h];unfold rawO;rw [iz_raw]
   ·unfold chainL;rw [if_neg (fun hh=>hh h)];exact steps_chain v l
def BlkIv (w:World) (b:Nat) (a:Iv):Prop:=∃ A l c A' l' c',BlkI w b (.bool a.lo.neg) (.slice A l c) (.int .i64 a.lo.e) (.bool a.hi.neg) (.slice A' l' c') (.int .i64 a.hi.e) ∧
 DyR w (.agg #[.bool a.lo.neg,.slice A l c,.int .i64 a.lo.e]) a.lo.raw∧DyR w (.agg #[.bool a.hi.neg,.slice A' l' c',.int .i64 a.hi.e]) a.hi.raw
theorem BlkIv.kept {w w':World}{b:Nat}{a:Iv}(h:BlkIv w b a)(k:Kept w w'):BlkIv w' b a:=by
 obtain ⟨A,l,c,A',l',c',h1,h2,h3⟩:=h
 exact ⟨A,l,c,A',l',c',h1.kept k,h2.kept k,h3.kept k⟩
theorem box2r (w:World):∃ W,W=(w.alloc (.cells #[.bool false,.slice none 0 0,.int .i64 0] 28)).alloc (.cells #[.bool false,.slice none 0 0,.int .i64 0] 28)∧Kept w W ∧
 Blk W w.heap.size (.bool false) (.slice none 0 0) (.int .i64 0)∧Blk W (w.heap.size+1) (.bool false) (.slice none 0 0) (.int .i64 0) :=
 ⟨_,rfl,(kept_alloc _ _).trans (kept_alloc _ _),blk_alloc (blk_new0 w) _,blk_new1 _ _ _ _ _⟩
theorem add1_c {w:World}{a b:Iv}{p ba bb bp:Nat}(ha:a.Ok)(hb:b.Ok)(hT:Tab w)(p1:1≤p)(p2:p≤2000)(ca:BlkIv w ba a)(cb:BlkIv w bb b)(cp:w.cell? ⟨bp,0,none⟩=some (.int .i64 p)) :
 Calls Tryz.prog 132 #[.pointer (some ⟨ba,0,none⟩),.pointer (some ⟨bb,0,none⟩),.pointer (some ⟨bp,0,none⟩)] w (Goes2 166 (rawO (addI a b p)) w):=by
 obtain ⟨A,l,c,A',l',c',hba,x1,x2⟩:=ca
 obtain ⟨B,j,e,B',j',e',hbb,y1,y2⟩:=cb
 obtain ⟨o1,ho1⟩:∃ o,o=sumD a.lo b.lo:=⟨_,rfl⟩
 obtain ⟨o2,ho2⟩:∃ o,o=dirD o1.v p false:=⟨_,rfl⟩
 obtain ⟨o3,ho3⟩:∃ o,o=sumD a.hi b.hi:=⟨_,rfl⟩
 obtain ⟨o4,ho4⟩:∃ o,o=dirD o3.v p true:=⟨_,rfl⟩
 have hres:addI a b p=chainL ⟨o2.v,o4.v⟩ [o1.k,o2.k,o3.k,o4.k]:=by unfold addI rndD;rw [ends_chain,←ho1,←ho3,←ho2,←ho4]
 rw [hres]
 have ok1:o1.Ok:=by rw [ho1];exact sumD_ok ha.lo hb.lo
 have ok3:o3.Ok:=by rw [ho3];exact sumD_ok ha.hi hb.hi
 have C1:=hid (fun w1 (k:Kept w w1)=>Add_c (x1.kept k) (y1.kept k) ha.lo hb.lo (hT.kept k))
 have C3:=hid (fun w1 (k:Kept w w1)=>Add_c (x2.kept k) (y2.kept k) ha.hi hb.hi (hT.kept k))
 have C2:=hid (fun w1 (k:Kept w w1) v (hv:DyR w1 v o1.v.raw)=>Down_c hv ok1.1 (hT.kept k) p1 p2)
 have C4:=hid (fun w1 (k:Kept w w1) v (hv:DyR w1 v o3.v.raw)=>Up_c hv ok3.1 (hT.kept k) p1 p2)
 rw [←ho1] at C1
 rw [←ho2] at C2
 rw [←ho3] at C3
 rw [←ho4] at C4
 obtain ⟨W,hW,kW,B3,B4⟩:=box2r w
 have HW:=hid hW
 have K:=hid kW
 have R3:=hid B3
 have R4:=hid B4
 have HA:=hid hba
 have HB:=hid hbb
 have CP:=hid cp
 have lp:=lt_of_cell cp
 obtain ⟨la,-⟩:=hba.facts
 obtain ⟨lb,-⟩:=hbb.facts
 simp only at lp
 clear hW kW B3 B4 hba hbb cp x1 x2 y1 y2 ha hb hT p1 p2 ho1 ho2 ho3 ho4 hres ok1 ok3
 generalize a.lo.neg=n1 at *
 generalize a.lo.e=e1 at *
 generalize a.hi.neg=n2 at *
 generalize a.hi.e=e2 at *
 generalize b.lo.neg=n3 at *
 generalize b.lo.e=e3 at *
 generalize b.hi.neg=n4 at *
 generalize b.hi.e=e4 at *
 have hst:=steps_chain ⟨o2.v,o4.v⟩ [o1.raw.k,o2.raw.k,o3.raw.k,o4.raw.k]
 obtain ⟨res,hres⟩:∃ r,r=rawO (chainL ⟨o2.v,o4.v⟩ [o1.k,o2.k,o3.k,o4.k]):=⟨_,rfl⟩
 have ST:=hid (show StepsR res ⟨o2.raw.v,o4.raw.v⟩ [o1.raw.k,o2.raw.k,o3.raw.k,o4.raw.k] by rw [hres];exact hst)
 rw [←hres]
 clear hres hst
 have BAD:Hid (∀ (k:Int) (w1:World),Kept w w1→k≠0→res=⟨rzI,k⟩→Goes2 166 res w (.panicked (failV 166 k)) w1):=fun k w1 kk hk he=>by subst he;exact ⟨kk,.inr ⟨hk,rfl⟩⟩
 go_enter Tryz.func132,Tryz.ntmps132
 go_wp2_with fail
 rw [←HW.out]
 refine region_lin1 (m:=14) (V:=VL [(vP ba 0),(vE (.agg #[.bool n1,.slice A l c,.int .i64 e1])),(vP bb 0),(vE (.agg #[.bool n3,.slice B j e,.int .i64 e3])),(fun v wv=>(∃ d,v=.tuple #[d,.int .i64 o1.raw.k]∧DyR wv d o1.raw.v)∧(True)),(fun v wv=>DyR wv v o1.raw.v∧(True)),(vE (.int .i64 o1.raw.k)),(fun v wv=>(o1.raw.k=0∧(True))∧DyR wv v o1.raw.v),(vE (.int .i64 p)),(fun v wv=>(∃ d,v=.tuple #[d,.int .i64 o2.raw.k]∧DyR wv d o2.raw.v)∧(o1.raw.k=0)),(fun v wv=>DyR wv v o2.raw.v∧(o1.raw.k=0)),(vE (.int .i64 o2.raw.k)),(fun v wv=>(o2.raw.k=0∧(o1.raw.k=0))∧DyR wv v o2.raw.v),(fun v wv=>∃ b,v=.pointer (some ⟨b,0,none⟩)∧W.heap.size≤b∧Blk wv b (.bool false) (.slice none 0 0) (.int .i64 0))])
  (by kernel_rfl) rfl rfl rfl (by kernel_rfl) (by kernel_rfl) (by kernel_rfl) (by kernel_rfl) (mono_of _ ⟨mE,mE,mE,mE,fun v w w' k h=>by obtain ⟨⟨d,h1,h2⟩,h3⟩:=h;exact ⟨⟨d,h1,h2.kept k⟩,h3⟩,fun v w w' k h=>⟨h.1.kept k,h.2⟩,mE,fun v w w' k h=>by first | exact h | exact h.kept k | exact ⟨h.1,h.2.kept k⟩,mE,fun v w w' k h=>by obtain ⟨⟨d,h1,h2⟩,h3⟩:=h;exact ⟨⟨d,h1,h2.kept k⟩,h3⟩,fun v w w' k h=>⟨h.1.kept k,h.2⟩,mE,fun v w w' k h=>by first | exact h | exact h.kept k | exact ⟨h.1,h.2.kept k⟩,fun v w w' k h=>by obtain ⟨b,h1,h2,h3⟩:=h;exact ⟨b,h1,h2,h3.kept k⟩,trivial⟩) (steps_of ⟨
    (fun aF wF F=>by have s0:aF.tmps.getD 0 undef=(.pointer (some ⟨ba,0,none⟩)):=F.o 0;exact sv rfl),(fun aF wF F=>by have s6:=F.v 0 6;have c0:=cell_at (HA.out.kept K.out) F.kept 0 _ rfl;have c1:=cell_at (HA.out.kept K.out) F.kept 1 _ rfl;have c2:=cell_at (HA.out.kept K.out) F.kept 2 _ rfl;exact sv rfl),(fun aF wF F=>by have s1:aF.tmps.getD 1 undef=(.pointer (some ⟨bb,0,none⟩)):=F.o 1;exact sv rfl),(fun aF wF F=>by have s8:=F.v 2 8;have c0:=cell_at (HB.out.kept K.out) F.kept 0 _ rfl;have c1:=cell_at (HB.out.kept K.out) F.kept 1 _ rfl;have c2:=cell_at (HB.out.kept K.out) F.kept 2 _ rfl;exact sv rfl),(fun aF wF F=>by have s7:=F.v 1 7;have s9:=F.v 3 9;have hC:True:=trivial;exact step_good (by simp [Region.wanted]) (by go_simp) (C1.out _ (K.out.trans F.kept)) (fun _ _ h=>RetE.good h) (fun _ _ h=>⟨h,hC⟩)),(fun aF wF F=>by have s10:=F.p 4 10;obtain ⟨⟨dd,ee,hh⟩,hC⟩:=s10;exact step_val (by simp [Region.wanted]) (by go_simp) ⟨hh,hC⟩),(fun aF wF F=>by have s10:=F.p 4 10;exact sw (by obtain ⟨⟨dd,ee,hh⟩,-⟩:=s10;go_simp) rfl),(fun aF wF F=>by have s11:=F.p 5 11;have s12:=F.v 6 12;have hC:=s11.2;exact sG (sure_c (d:=o1.v) (k:=o1.raw.k) s11.1) (fun _ _ _ h0 h=>⟨⟨h0,hC⟩,h⟩) (fun w2 k2 h0=>⟨F.defers,BAD.out _ _ (K.out.trans (F.kept.trans k2)) h0 (ST.out.1 h0)⟩)),(fun aF wF F=>by have s2:aF.tmps.getD 2 undef=(.pointer (some ⟨bp,0,none⟩)):=F.o 2;exact sw (by have cq:=cell_kept (K.out.trans F.kept) CP.out;go_simp) rfl),(fun aF wF F=>by have s13:=F.p 7 13;have s14:=F.v 8 14;have hC:o1.raw.k=0:=s13.1.1;exact step_good (by simp [Region.wanted]) (by go_simp) (C2.out _ (K.out.trans F.kept) _ s13.2) (fun _ _ h=>RetE.good h) (fun _ _ h=>⟨h,hC⟩)),(fun aF wF F=>by have s15:=F.p 9 15;obtain ⟨⟨dd,ee,hh⟩,hC⟩:=s15;exact step_val (by simp [Region.wanted]) (by go_simp) ⟨hh,hC⟩),(fun aF wF F=>by have s15:=F.p 9 15;exact sw (by obtain ⟨⟨dd,ee,hh⟩,-⟩:=s15;go_simp) rfl),(fun aF wF F=>by have s16:=F.p 10 16;have s17:=F.v 11 17;have hC:=s16.2;exact sG (sure_c (d:=o2.v) (k:=o2.raw.k) s16.1) (fun _ _ _ h0 h=>⟨⟨h0,hC⟩,h⟩) (fun w2 k2 h0=>⟨F.defers,BAD.out _ _ (K.out.trans (F.kept.trans k2)) h0 ((ST.out.2 hC).1 h0)⟩)),(fun aF wF F=>by exact step_new (by simp [Region.wanted]) (by go_simp) (kept_alloc _ _) ⟨_,rfl,F.kept.size,blk_new0 _⟩),
    trivial⟩) ?_
 intro u w1 k1 hu
 have p10:=hp hu 4
 have p11:=hp hu 5
 have p13:=hp hu 7
 have p15:=hp hu 9
 have p16:=hp hu 10
 have p18:=hp hu 12
 have p5:=hp hu 13
 simp only [puts,slotOf,if_true,Act.put,z1,z2,z3,z4,z5,z6,z7,hv hu 0,hv hu 1,hv hu 2,hv hu 3,hv hu 6,hv hu 8,hv hu 11]
 clear hu
 generalize u 4=v10 at *
 generalize u 5=v11 at *
 generalize u 7=v13 at *
 generalize u 9=v15 at *
 generalize u 10=v16 at *
 generalize u 12=v18 at *
 generalize u 13=v5 at *
 obtain ⟨bl,rfl,hbl,hB5⟩:=p5
 obtain ⟨⟨z2,z1⟩,hd2⟩:=p18
 obtain ⟨A5,l5,c5,rfl,hd2⟩:=rawR_split hd2
 obtain ⟨lb5,c0,c1,c2,f0,f1,f2⟩:=hB5.facts
 have hsW:w.heap.size+1<W.heap.size:=(Array.getElem?_eq_some_iff.1 R4.out).1
 have Z:=hid (And.intro z1 z2)
 have KX:=hid (dyW_kept (x:=.bool o2.raw.v.neg) (y:=.slice A5 l5 c5) (z:=.int .i64 o2.raw.v.e) (K.out.trans k1) (show w.heap.size≤bl by omega))
 have R3X:=hid ((R3.out.kept k1).laid_other (b':=bl) (by omega) (.bool o2.raw.v.neg) (.slice A5 l5 c5) (.int .i64 o2.raw.v.e))
 have R4X:=hid ((R4.out.kept k1).laid_other (b':=bl) (by omega) (.bool o2.raw.v.neg) (.slice A5 l5 c5) (.int .i64 o2.raw.v.e))
 have B5X:=hid (hB5.laid (.bool o2.raw.v.neg) (.slice A5 l5 c5) (.int .i64 o2.raw.v.e))
 have D5X:=hid (hd2.dyW hB5 (noLimb_bool _) (noLimb_slice _ _ _) (noLimb_i64 _) (.bool o2.raw.v.neg) (.slice A5 l5 c5) (.int .i64 o2.raw.v.e))
 clear z1 z2 hd2 hB5 hsW p10 p11 p13 p15 p16 k1
 go_simp
 go_wp2_with fail
 change Code.wp _ _ _ _ (dyW w1 bl _ _ _)
 generalize dyW w1 bl (.bool o2.raw.v.neg) (.slice A5 l5 c5) (.int .i64 o2.raw.v.e)=X at *
 clear c0 c1 c2 f0 f1 f2 lb5
 refine region_lin2 (m:=14) (V:=VL [(vE (.agg #[.bool o2.raw.v.neg,.slice A5 l5 c5,.int .i64 o2.raw.v.e])),(vP ba 3),(vE (.agg #[.bool n2,.slice A' l' c',.int .i64 e2])),(vP bb 3),(vE (.agg #[.bool n4,.slice B' j' e',.int .i64 e4])),(fun v wv=>(∃ d,v=.tuple #[d,.int .i64 o3.raw.k]∧DyR wv d o3.raw.v)∧(True)),(fun v wv=>DyR wv v o3.raw.v∧(True)),(vE (.int .i64 o3.raw.k)),(fun v wv=>(o3.raw.k=0∧(True))∧DyR wv v o3.raw.v),(vE (.int .i64 p)),(fun v wv=>(∃ d,v=.tuple #[d,.int .i64 o4.raw.k]∧DyR wv d o4.raw.v)∧(o3.raw.k=0)),(fun v wv=>DyR wv v o4.raw.v∧(o3.raw.k=0)),(vE (.int .i64 o4.raw.k)),(fun v wv=>(o4.raw.k=0∧(o3.raw.k=0))∧DyR wv v o4.raw.v)])
  (by kernel_rfl) rfl rfl rfl rfl rfl (by kernel_rfl) (by kernel_rfl) (by kernel_rfl) (by kernel_rfl) (mono_of _ ⟨mE,mE,mE,mE,mE,fun v w w' k h=>by obtain ⟨⟨d,h1,h2⟩,h3⟩:=h;exact ⟨⟨d,h1,h2.kept k⟩,h3⟩,fun v w w' k h=>⟨h.1.kept k,h.2⟩,mE,fun v w w' k h=>by first | exact h | exact h.kept k | exact ⟨h.1,h.2.kept k⟩,mE,fun v w w' k h=>by obtain ⟨⟨d,h1,h2⟩,h3⟩:=h;exact ⟨⟨d,h1,h2.kept k⟩,h3⟩,fun v w w' k h=>⟨h.1.kept k,h.2⟩,mE,fun v w w' k h=>by first | exact h | exact h.kept k | exact ⟨h.1,h.2.kept k⟩,trivial⟩) (steps_of ⟨
    (fun aF wF F=>by have s5:aF.tmps.getD 5 undef=(.pointer (some ⟨bl,0,none⟩)):=F.o 5;have c0:=cell_at B5X.out F.kept 0 _ rfl;have c1:=cell_at B5X.out F.kept 1 _ rfl;have c2:=cell_at B5X.out F.kept 2 _ rfl;exact sv rfl),(fun aF wF F=>by have s0:aF.tmps.getD 0 undef=(.pointer (some ⟨ba,0,none⟩)):=F.o 0;exact sv rfl),(fun aF wF F=>by have s20:=F.v 1 20;have c0:=cell_at (HA.out.kept KX.out) F.kept 3 _ rfl;have c1:=cell_at (HA.out.kept KX.out) F.kept 4 _ rfl;have c2:=cell_at (HA.out.kept KX.out) F.kept 5 _ rfl;exact sv rfl),(fun aF wF F=>by have s1:aF.tmps.getD 1 undef=(.pointer (some ⟨bb,0,none⟩)):=F.o 1;exact sv rfl),(fun aF wF F=>by have s22:=F.v 3 22;have c0:=cell_at (HB.out.kept KX.out) F.kept 3 _ rfl;have c1:=cell_at (HB.out.kept KX.out) F.kept 4 _ rfl;have c2:=cell_at (HB.out.kept KX.out) F.kept 5 _ rfl;exact sv rfl),(fun aF wF F=>by have s21:=F.v 2 21;have s23:=F.v 4 23;have hC:True:=trivial;exact step_good (by simp [Region.wanted]) (by go_simp) (C3.out _ (KX.out.trans F.kept)) (fun _ _ h=>RetE.good h) (fun _ _ h=>⟨h,hC⟩)),(fun aF wF F=>by have s24:=F.p 5 24;obtain ⟨⟨dd,ee,hh⟩,hC⟩:=s24;exact step_val (by simp [Region.wanted]) (by go_simp) ⟨hh,hC⟩),(fun aF wF F=>by have s24:=F.p 5 24;exact sw (by obtain ⟨⟨dd,ee,hh⟩,-⟩:=s24;go_simp) rfl),(fun aF wF F=>by have s25:=F.p 6 25;have s26:=F.v 7 26;have hC:=s25.2;exact sG (sure_c (d:=o3.v) (k:=o3.raw.k) s25.1) (fun _ _ _ h0 h=>⟨⟨h0,hC⟩,h⟩) (fun w2 k2 h0=>⟨F.defers,BAD.out _ _ (KX.out.trans (F.kept.trans k2)) h0 (((ST.out.2 Z.out.1).2 Z.out.2).1 h0)⟩)),(fun aF wF F=>by have s2:aF.tmps.getD 2 undef=(.pointer (some ⟨bp,0,none⟩)):=F.o 2;exact sw (by have cq:=cell_kept (KX.out.trans F.kept) CP.out;go_simp) rfl),(fun aF wF F=>by have s27:=F.p 8 27;have s28:=F.v 9 28;have hC:o3.raw.k=0:=s27.1.1;exact step_good (by simp [Region.wanted]) (by go_simp) (C4.out _ (KX.out.trans F.kept) _ s27.2) (fun _ _ h=>RetE.good h) (fun _ _ h=>⟨h,hC⟩)),(fun aF wF F=>by have s29:=F.p 10 29;obtain ⟨⟨dd,ee,hh⟩,hC⟩:=s29;exact step_val (by simp [Region.wanted]) (by go_simp) ⟨hh,hC⟩),(fun aF wF F=>by have s29:=F.p 10 29;exact sw (by obtain ⟨⟨dd,ee,hh⟩,-⟩:=s29;go_simp) rfl),(fun aF wF F=>by have s30:=F.p 11 30;have s31:=F.v 12 31;have hC:=s30.2;exact sG (sure_c (d:=o4.v) (k:=o4.raw.k) s30.1) (fun _ _ _ h0 h=>⟨⟨h0,hC⟩,h⟩) (fun w2 k2 h0=>⟨F.defers,BAD.out _ _ (KX.out.trans (F.kept.trans k2)) h0 ((((ST.out.2 Z.out.1).2 Z.out.2).2 hC).1 h0)⟩)),
    trivial⟩) ?_
 intro u w1 k1 hu
 have p24:=hp hu 5
 have p25:=hp hu 6
 have p27:=hp hu 8
 have p29:=hp hu 10
 have p30:=hp hu 11
 have p32:=hp hu 13
 simp only [puts,slotOf,if_true,Act.put,z1,z2,z3,z4,z5,z6,z7,hv hu 0,hv hu 1,hv hu 2,hv hu 3,hv hu 4,hv hu 7,hv hu 9,hv hu 12]
 clear hu
 generalize u 5=v24 at *
 generalize u 6=v25 at *
 generalize u 8=v27 at *
 generalize u 10=v29 at *
 generalize u 11=v30 at *
 generalize u 13=v32 at *
 obtain ⟨⟨z4,z3⟩,hd4⟩:=p32
 obtain ⟨A6,l6,c6,rfl,hd4⟩:=rawR_split hd4
 have hres:=(((ST.out.2 Z.out.1).2 Z.out.2).2 z3).2 z4
 have r3:=R3X.out.kept k1
 have r4:=R4X.out.kept k1
 have hk:=KX.out.trans k1
 have hd5:=D5X.out.kept k1
 obtain ⟨-,c0,c1,c2,f0,f1,f2⟩:=r3.facts
 obtain ⟨-,d0,d1,d2,g0,g1,g2⟩:=r4.facts
 obtain ⟨t1,t2,t3⟩:=two_laid (T:=166) hk (Nat.le_refl _) (Nat.le_succ _) (by omega) r3 r4 hd5 hd4 hres
 have T1:=hid t1
 have T2:=hid t2
 have T3:=hid t3
 clear t1 t2 t3 r3 r4 hk hd5 hd4 hres z3 z4 p24 p25 p27 p29 p30 k1
 refine ⟨?_,?_⟩
 ·go_simp
  go_wp2_with fail
  exact ret_dydy T1.out T2.out rfl rfl rfl rfl T3.out
 ·first
   | exact .inl (by kernel_rfl)
   | (right
      rw [dyW_swap _ (by omega)] at T1 T2 T3
      go_simp
      go_wp2_with fail
      exact ret_dydy T1.out T2.out rfl rfl rfl rfl T3.out)
theorem isub1_c {w:World}{a b:Iv}{p ba bb bp:Nat}(ha:a.Ok)(hb:b.Ok)(hT:Tab w)(p1:1≤p)(p2:p≤2000)(ca:BlkIv w ba a)(cb:BlkIv w bb b)(cp:w.cell? ⟨bp,0,none⟩=some (.int .i64 p)) :
 Calls Tryz.prog 134 #[.pointer (some ⟨ba,0,none⟩),.pointer (some ⟨bb,0,none⟩),.pointer (some ⟨bp,0,none⟩)] w (Goes2 166 (rawO (subI a b p)) w):=by
 obtain ⟨A,l,c,A',l',c',hba,x1,x2⟩:=ca
 obtain ⟨B,j,e,B',j',e',hbb,y1,y2⟩:=cb
 obtain ⟨o1,ho1⟩:∃ o,o=sumD a.lo (negD b.hi):=⟨_,rfl⟩
 obtain ⟨o2,ho2⟩:∃ o,o=dirD o1.v p false:=⟨_,rfl⟩
 obtain ⟨o3,ho3⟩:∃ o,o=sumD a.hi (negD b.lo):=⟨_,rfl⟩
 obtain ⟨o4,ho4⟩:∃ o,o=dirD o3.v p true:=⟨_,rfl⟩
 have hres:subI a b p=chainL ⟨o2.v,o4.v⟩ [o1.k,o2.k,o3.k,o4.k]:=by unfold subI rndD;rw [ends_chain,←ho1,←ho3,←ho2,←ho4]
 rw [hres]
 have ok1:o1.Ok:=by rw [ho1];exact sumD_ok ha.lo (negD_ok hb.hi)
 have ok3:o3.Ok:=by rw [ho3];exact sumD_ok ha.hi (negD_ok hb.lo)
 have C1:=hid (fun w1 (k:Kept w w1)=>Sub_c (x1.kept k) (y2.kept k) ha.lo hb.hi (hT.kept k))
 have C3:=hid (fun w1 (k:Kept w w1)=>Sub_c (x2.kept k) (y1.kept k) ha.hi hb.lo (hT.kept k))
 have C2:=hid (fun w1 (k:Kept w w1) v (hv:DyR w1 v o1.v.raw)=>Down_c hv ok1.1 (hT.kept k) p1 p2)
 have C4:=hid (fun w1 (k:Kept w w1) v (hv:DyR w1 v o3.v.raw)=>Up_c hv ok3.1 (hT.kept k) p1 p2)
 rw [←ho1] at C1
 rw [←ho2] at C2
 rw [←ho3] at C3
 rw [←ho4] at C4
 obtain ⟨W,hW,kW,B3,B4⟩:=box2r w
 have HW:=hid hW
 have K:=hid kW
 have R3:=hid B3
 have R4:=hid B4
 have HA:=hid hba
 have HB:=hid hbb
 have CP:=hid cp
 have lp:=lt_of_cell cp
 obtain ⟨la,-⟩:=hba.facts
 obtain ⟨lb,-⟩:=hbb.facts
 simp only at lp
 clear hW kW B3 B4 hba hbb cp x1 x2 y1 y2 ha hb hT p1 p2 ho1 ho2 ho3 ho4 hres ok1 ok3
 generalize a.lo.neg=n1 at *
 generalize a.lo.e=e1 at *
 generalize a.hi.neg=n2 at *
 generalize a.hi.e=e2 at *
 generalize b.lo.neg=n3 at *
 generalize b.lo.e=e3 at *
 generalize b.hi.neg=n4 at *
 generalize b.hi.e=e4 at *
 have hst:=steps_chain ⟨o2.v,o4.v⟩ [o1.raw.k,o2.raw.k,o3.raw.k,o4.raw.k]
 obtain ⟨res,hres⟩:∃ r,r=rawO (chainL ⟨o2.v,o4.v⟩ [o1.k,o2.k,o3.k,o4.k]):=⟨_,rfl⟩
 have ST:=hid (show StepsR res ⟨o2.raw.v,o4.raw.v⟩ [o1.raw.k,o2.raw.k,o3.raw.k,o4.raw.k] by rw [hres];exact hst)
 rw [←hres]
 clear hres hst
 have BAD:Hid (∀ (k:Int) (w1:World),Kept w w1→k≠0→res=⟨rzI,k⟩→Goes2 166 res w (.panicked (failV 166 k)) w1):=fun k w1 kk hk he=>by subst he;exact ⟨kk,.inr ⟨hk,rfl⟩⟩
 go_enter Tryz.func134,Tryz.ntmps134
 go_wp2_with fail
 rw [←HW.out]
 refine region_lin1 (m:=14) (V:=VL [(vP ba 0),(vE (.agg #[.bool n1,.slice A l c,.int .i64 e1])),(vP bb 3),(vE (.agg #[.bool n4,.slice B' j' e',.int .i64 e4])),(fun v wv=>(∃ d,v=.tuple #[d,.int .i64 o1.raw.k]∧DyR wv d o1.raw.v)∧(True)),(fun v wv=>DyR wv v o1.raw.v∧(True)),(vE (.int .i64 o1.raw.k)),(fun v wv=>(o1.raw.k=0∧(True))∧DyR wv v o1.raw.v),(vE (.int .i64 p)),(fun v wv=>(∃ d,v=.tuple #[d,.int .i64 o2.raw.k]∧DyR wv d o2.raw.v)∧(o1.raw.k=0)),(fun v wv=>DyR wv v o2.raw.v∧(o1.raw.k=0)),(vE (.int .i64 o2.raw.k)),(fun v wv=>(o2.raw.k=0∧(o1.raw.k=0))∧DyR wv v o2.raw.v),(fun v wv=>∃ b,v=.pointer (some ⟨b,0,none⟩)∧W.heap.size≤b∧Blk wv b (.bool false) (.slice none 0 0) (.int .i64 0))])
  (by kernel_rfl) rfl rfl rfl (by kernel_rfl) (by kernel_rfl) (by kernel_rfl) (by kernel_rfl) (mono_of _ ⟨mE,mE,mE,mE,fun v w w' k h=>by obtain ⟨⟨d,h1,h2⟩,h3⟩:=h;exact ⟨⟨d,h1,h2.kept k⟩,h3⟩,fun v w w' k h=>⟨h.1.kept k,h.2⟩,mE,fun v w w' k h=>by first | exact h | exact h.kept k | exact ⟨h.1,h.2.kept k⟩,mE,fun v w w' k h=>by obtain ⟨⟨d,h1,h2⟩,h3⟩:=h;exact ⟨⟨d,h1,h2.kept k⟩,h3⟩,fun v w w' k h=>⟨h.1.kept k,h.2⟩,mE,fun v w w' k h=>by first | exact h | exact h.kept k | exact ⟨h.1,h.2.kept k⟩,fun v w w' k h=>by obtain ⟨b,h1,h2,h3⟩:=h;exact ⟨b,h1,h2,h3.kept k⟩,trivial⟩) (steps_of ⟨
    (fun aF wF F=>by have s0:aF.tmps.getD 0 undef=(.pointer (some ⟨ba,0,none⟩)):=F.o 0;exact sv rfl),(fun aF wF F=>by have s6:=F.v 0 6;have c0:=cell_at (HA.out.kept K.out) F.kept 0 _ rfl;have c1:=cell_at (HA.out.kept K.out) F.kept 1 _ rfl;have c2:=cell_at (HA.out.kept K.out) F.kept 2 _ rfl;exact sv rfl),(fun aF wF F=>by have s1:aF.tmps.getD 1 undef=(.pointer (some ⟨bb,0,none⟩)):=F.o 1;exact sv rfl),(fun aF wF F=>by have s8:=F.v 2 8;have c0:=cell_at (HB.out.kept K.out) F.kept 3 _ rfl;have c1:=cell_at (HB.out.kept K.out) F.kept 4 _ rfl;have c2:=cell_at (HB.out.kept K.out) F.kept 5 _ rfl;exact sv rfl),(fun aF wF F=>by have s7:=F.v 1 7;have s9:=F.v 3 9;have hC:True:=trivial;exact step_good (by simp [Region.wanted]) (by go_simp) (C1.out _ (K.out.trans F.kept)) (fun _ _ h=>RetE.good h) (fun _ _ h=>⟨h,hC⟩)),(fun aF wF F=>by have s10:=F.p 4 10;obtain ⟨⟨dd,ee,hh⟩,hC⟩:=s10;exact step_val (by simp [Region.wanted]) (by go_simp) ⟨hh,hC⟩),(fun aF wF F=>by have s10:=F.p 4 10;exact sw (by obtain ⟨⟨dd,ee,hh⟩,-⟩:=s10;go_simp) rfl),(fun aF wF F=>by have s11:=F.p 5 11;have s12:=F.v 6 12;have hC:=s11.2;exact sG (sure_c (d:=o1.v) (k:=o1.raw.k) s11.1) (fun _ _ _ h0 h=>⟨⟨h0,hC⟩,h⟩) (fun w2 k2 h0=>⟨F.defers,BAD.out _ _ (K.out.trans (F.kept.trans k2)) h0 (ST.out.1 h0)⟩)),(fun aF wF F=>by have s2:aF.tmps.getD 2 undef=(.pointer (some ⟨bp,0,none⟩)):=F.o 2;exact sw (by have cq:=cell_kept (K.out.trans F.kept) CP.out;go_simp) rfl),(fun aF wF F=>by have s13:=F.p 7 13;have s14:=F.v 8 14;have hC:o1.raw.k=0:=s13.1.1;exact step_good (by simp [Region.wanted]) (by go_simp) (C2.out _ (K.out.trans F.kept) _ s13.2) (fun _ _ h=>RetE.good h) (fun _ _ h=>⟨h,hC⟩)),(fun aF wF F=>by have s15:=F.p 9 15;obtain ⟨⟨dd,ee,hh⟩,hC⟩:=s15;exact step_val (by simp [Region.wanted]) (by go_simp) ⟨hh,hC⟩),(fun aF wF F=>by have s15:=F.p 9 15;exact sw (by obtain ⟨⟨dd,ee,hh⟩,-⟩:=s15;go_simp) rfl),(fun aF wF F=>by have s16:=F.p 10 16;have s17:=F.v 11 17;have hC:=s16.2;exact sG (sure_c (d:=o2.v) (k:=o2.raw.k) s16.1) (fun _ _ _ h0 h=>⟨⟨h0,hC⟩,h⟩) (fun w2 k2 h0=>⟨F.defers,BAD.out _ _ (K.out.trans (F.kept.trans k2)) h0 ((ST.out.2 hC).1 h0)⟩)),(fun aF wF F=>by exact step_new (by simp [Region.wanted]) (by go_simp) (kept_alloc _ _) ⟨_,rfl,F.kept.size,blk_new0 _⟩),
    trivial⟩) ?_
 intro u w1 k1 hu
 have p10:=hp hu 4
 have p11:=hp hu 5
 have p13:=hp hu 7
 have p15:=hp hu 9
 have p16:=hp hu 10
 have p18:=hp hu 12
 have p5:=hp hu 13
 simp only [puts,slotOf,if_true,Act.put,z1,z2,z3,z4,z5,z6,z7,hv hu 0,hv hu 1,hv hu 2,hv hu 3,hv hu 6,hv hu 8,hv hu 11]
 clear hu
 generalize u 4=v10 at *
 generalize u 5=v11 at *
 generalize u 7=v13 at *
 generalize u 9=v15 at *
 generalize u 10=v16 at *
 generalize u 12=v18 at *
 generalize u 13=v5 at *
 obtain ⟨bl,rfl,hbl,hB5⟩:=p5
 obtain ⟨⟨z2,z1⟩,hd2⟩:=p18
 obtain ⟨A5,l5,c5,rfl,hd2⟩:=rawR_split hd2
 obtain ⟨lb5,c0,c1,c2,f0,f1,f2⟩:=hB5.facts
 have hsW:w.heap.size+1<W.heap.size:=(Array.getElem?_eq_some_iff.1 R4.out).1
 have Z:=hid (And.intro z1 z2)
 have KX:=hid (dyW_kept (x:=.bool o2.raw.v.neg) (y:=.slice A5 l5 c5) (z:=.int .i64 o2.raw.v.e) (K.out.trans k1) (show w.heap.size≤bl by omega))
 have R3X:=hid ((R3.out.kept k1).laid_other (b':=bl) (by omega) (.bool o2.raw.v.neg) (.slice A5 l5 c5) (.int .i64 o2.raw.v.e))
 have R4X:=hid ((R4.out.kept k1).laid_other (b':=bl) (by omega) (.bool o2.raw.v.neg) (.slice A5 l5 c5) (.int .i64 o2.raw.v.e))
 have B5X:=hid (hB5.laid (.bool o2.raw.v.neg) (.slice A5 l5 c5) (.int .i64 o2.raw.v.e))
 have D5X:=hid (hd2.dyW hB5 (noLimb_bool _) (noLimb_slice _ _ _) (noLimb_i64 _) (.bool o2.raw.v.neg) (.slice A5 l5 c5) (.int .i64 o2.raw.v.e))
 clear z1 z2 hd2 hB5 hsW p10 p11 p13 p15 p16 k1
 go_simp
 go_wp2_with fail
 change Code.wp _ _ _ _ (dyW w1 bl _ _ _)
 generalize dyW w1 bl (.bool o2.raw.v.neg) (.slice A5 l5 c5) (.int .i64 o2.raw.v.e)=X at *
 clear c0 c1 c2 f0 f1 f2 lb5
 refine region_lin2 (m:=14) (V:=VL [(vE (.agg #[.bool o2.raw.v.neg,.slice A5 l5 c5,.int .i64 o2.raw.v.e])),(vP ba 3),(vE (.agg #[.bool n2,.slice A' l' c',.int .i64 e2])),(vP bb 0),(vE (.agg #[.bool n3,.slice B j e,.int .i64 e3])),(fun v wv=>(∃ d,v=.tuple #[d,.int .i64 o3.raw.k]∧DyR wv d o3.raw.v)∧(True)),(fun v wv=>DyR wv v o3.raw.v∧(True)),(vE (.int .i64 o3.raw.k)),(fun v wv=>(o3.raw.k=0∧(True))∧DyR wv v o3.raw.v),(vE (.int .i64 p)),(fun v wv=>(∃ d,v=.tuple #[d,.int .i64 o4.raw.k]∧DyR wv d o4.raw.v)∧(o3.raw.k=0)),(fun v wv=>DyR wv v o4.raw.v∧(o3.raw.k=0)),(vE (.int .i64 o4.raw.k)),(fun v wv=>(o4.raw.k=0∧(o3.raw.k=0))∧DyR wv v o4.raw.v)])
  (by kernel_rfl) rfl rfl rfl rfl rfl (by kernel_rfl) (by kernel_rfl) (by kernel_rfl) (by kernel_rfl) (mono_of _ ⟨mE,mE,mE,mE,mE,fun v w w' k h=>by obtain ⟨⟨d,h1,h2⟩,h3⟩:=h;exact ⟨⟨d,h1,h2.kept k⟩,h3⟩,fun v w w' k h=>⟨h.1.kept k,h.2⟩,mE,fun v w w' k h=>by first | exact h | exact h.kept k | exact ⟨h.1,h.2.kept k⟩,mE,fun v w w' k h=>by obtain ⟨⟨d,h1,h2⟩,h3⟩:=h;exact ⟨⟨d,h1,h2.kept k⟩,h3⟩,fun v w w' k h=>⟨h.1.kept k,h.2⟩,mE,fun v w w' k h=>by first | exact h | exact h.kept k | exact ⟨h.1,h.2.kept k⟩,trivial⟩) (steps_of ⟨
    (fun aF wF F=>by have s5:aF.tmps.getD 5 undef=(.pointer (some ⟨bl,0,none⟩)):=F.o 5;have c0:=cell_at B5X.out F.kept 0 _ rfl;have c1:=cell_at B5X.out F.kept 1 _ rfl;have c2:=cell_at B5X.out F.kept 2 _ rfl;exact sv rfl),(fun aF wF F=>by have s0:aF.tmps.getD 0 undef=(.pointer (some ⟨ba,0,none⟩)):=F.o 0;exact sv rfl),(fun aF wF F=>by have s20:=F.v 1 20;have c0:=cell_at (HA.out.kept KX.out) F.kept 3 _ rfl;have c1:=cell_at (HA.out.kept KX.out) F.kept 4 _ rfl;have c2:=cell_at (HA.out.kept KX.out) F.kept 5 _ rfl;exact sv rfl),(fun aF wF F=>by have s1:aF.tmps.getD 1 undef=(.pointer (some ⟨bb,0,none⟩)):=F.o 1;exact sv rfl),(fun aF wF F=>by have s22:=F.v 3 22;have c0:=cell_at (HB.out.kept KX.out) F.kept 0 _ rfl;have c1:=cell_at (HB.out.kept KX.out) F.kept 1 _ rfl;have c2:=cell_at (HB.out.kept KX.out) F.kept 2 _ rfl;exact sv rfl),(fun aF wF F=>by have s21:=F.v 2 21;have s23:=F.v 4 23;have hC:True:=trivial;exact step_good (by simp [Region.wanted]) (by go_simp) (C3.out _ (KX.out.trans F.kept)) (fun _ _ h=>RetE.good h) (fun _ _ h=>⟨h,hC⟩)),(fun aF wF F=>by have s24:=F.p 5 24;obtain ⟨⟨dd,ee,hh⟩,hC⟩:=s24;exact step_val (by simp [Region.wanted]) (by go_simp) ⟨hh,hC⟩),(fun aF wF F=>by have s24:=F.p 5 24;exact sw (by obtain ⟨⟨dd,ee,hh⟩,-⟩:=s24;go_simp) rfl),(fun aF wF F=>by have s25:=F.p 6 25;have s26:=F.v 7 26;have hC:=s25.2;exact sG (sure_c (d:=o3.v) (k:=o3.raw.k) s25.1) (fun _ _ _ h0 h=>⟨⟨h0,hC⟩,h⟩) (fun w2 k2 h0=>⟨F.defers,BAD.out _ _ (KX.out.trans (F.kept.trans k2)) h0 (((ST.out.2 Z.out.1).2 Z.out.2).1 h0)⟩)),(fun aF wF F=>by have s2:aF.tmps.getD 2 undef=(.pointer (some ⟨bp,0,none⟩)):=F.o 2;exact sw (by have cq:=cell_kept (KX.out.trans F.kept) CP.out;go_simp) rfl),(fun aF wF F=>by have s27:=F.p 8 27;have s28:=F.v 9 28;have hC:o3.raw.k=0:=s27.1.1;exact step_good (by simp [Region.wanted]) (by go_simp) (C4.out _ (KX.out.trans F.kept) _ s27.2) (fun _ _ h=>RetE.good h) (fun _ _ h=>⟨h,hC⟩)),(fun aF wF F=>by have s29:=F.p 10 29;obtain ⟨⟨dd,ee,hh⟩,hC⟩:=s29;exact step_val (by simp [Region.wanted]) (by go_simp) ⟨hh,hC⟩),(fun aF wF F=>by have s29:=F.p 10 29;exact sw (by obtain ⟨⟨dd,ee,hh⟩,-⟩:=s29;go_simp) rfl),(fun aF wF F=>by have s30:=F.p 11 30;have s31:=F.v 12 31;have hC:=s30.2;exact sG (sure_c (d:=o4.v) (k:=o4.raw.k) s30.1) (fun _ _ _ h0 h=>⟨⟨h0,hC⟩,h⟩) (fun w2 k2 h0=>⟨F.defers,BAD.out _ _ (KX.out.trans (F.kept.trans k2)) h0 ((((ST.out.2 Z.out.1).2 Z.out.2).2 hC).1 h0)⟩)),
    trivial⟩) ?_
 intro u w1 k1 hu
 have p24:=hp hu 5
 have p25:=hp hu 6
 have p27:=hp hu 8
 have p29:=hp hu 10
 have p30:=hp hu 11
 have p32:=hp hu 13
 simp only [puts,slotOf,if_true,Act.put,z1,z2,z3,z4,z5,z6,z7,hv hu 0,hv hu 1,hv hu 2,hv hu 3,hv hu 4,hv hu 7,hv hu 9,hv hu 12]
 clear hu
 generalize u 5=v24 at *
 generalize u 6=v25 at *
 generalize u 8=v27 at *
 generalize u 10=v29 at *
 generalize u 11=v30 at *
 generalize u 13=v32 at *
 obtain ⟨⟨z4,z3⟩,hd4⟩:=p32
 obtain ⟨A6,l6,c6,rfl,hd4⟩:=rawR_split hd4
 have hres:=(((ST.out.2 Z.out.1).2 Z.out.2).2 z3).2 z4
 have r3:=R3X.out.kept k1
 have r4:=R4X.out.kept k1
 have hk:=KX.out.trans k1
 have hd5:=D5X.out.kept k1
 obtain ⟨-,c0,c1,c2,f0,f1,f2⟩:=r3.facts
 obtain ⟨-,d0,d1,d2,g0,g1,g2⟩:=r4.facts
 obtain ⟨t1,t2,t3⟩:=two_laid (T:=166) hk (Nat.le_refl _) (Nat.le_succ _) (by omega) r3 r4 hd5 hd4 hres
 have T1:=hid t1
 have T2:=hid t2
 have T3:=hid t3
 clear t1 t2 t3 r3 r4 hk hd5 hd4 hres z3 z4 p24 p25 p27 p29 p30 k1
 refine ⟨?_,?_⟩
 ·go_simp
  go_wp2_with fail
  exact ret_dydy T1.out T2.out rfl rfl rfl rfl T3.out
 ·first
   | exact .inl (by kernel_rfl)
   | (right
      rw [dyW_swap _ (by omega)] at T1 T2 T3
      go_simp
      go_wp2_with fail
      exact ret_dydy T1.out T2.out rfl rfl rfl rfl T3.out)
end Go.Proofs.YtabjjdicffcolaaGreatDoor
