/- Contracts of layer 8's law: Row, Few, Env; the document's Box. -/
import Derived.Test.YtabjjdicffcolaaGreatDoorClaimTfrontp22
import Derived.Test.YtabjjdicffcolaaGreatDoorClaimTfrontp32
set_option maxRecDepth 100000
set_option maxHeartbeats 16000000
namespace Go.Proofs.YtabjjdicffcolaaGreatDoor
open Go.Lib (hid)
open Go.RowKit
def fewA (a:RawI):Bool:=decide (a.lo.m.length≤6)&&decide (a.hi.m.length≤6)
def fewR (l:List RawI):Bool:=decide (l.length≤8)&&l.all fewA
def fewT (ls:List Ln) (outs:List Int):Bool:=decide (ls.length≤40)&&decide (outs.length≤12)&&ls.all fun l=>fewA l.k
def fewE (e:En):Bool:=fewR [e.t]&&fewR e.x&&fewR e.u&&fewR e.p
theorem fewR_no {l:List RawI}{i:Nat}{x:RawI}(h:l[i]?=some x)(hf:fewA x=false):fewR l=false:=by
 unfold fewR
 have h2:l.all fewA=false:=by
  cases h3:l.all fewA with
  | false=>rfl
  | true=>have:=List.all_eq_true.1 h3 x (List.mem_of_getElem? h);rw [hf] at this;cases this
 rw [h2,Bool.and_false]
theorem fewR_yes {l:List RawI}(h:l.length≤8)(hf:∀ (i:Nat) x,l[i]?=some x→fewA x=true):fewR l=true:=by
 unfold fewR
 rw [decide_eq_true h,Bool.true_and,List.all_eq_true]
 intro x hx
 obtain ⟨i,hi⟩:=List.getElem?_of_mem hx
 exact hf i x hi
theorem IvAt.lens {w:World}{b o:Nat}{a:RawI}(h:IvAt w b o a):∃ x A c z x' A' c' z',w.cell? ⟨b,o,none⟩=some x∧w.cell? ⟨b,o+1,none⟩=some (.slice A a.lo.m.length c)∧w.cell? ⟨b,o+2,none⟩=some z ∧
 w.cell? ⟨b,o+3,none⟩=some x'∧w.cell? ⟨b,o+4,none⟩=some (.slice A' a.hi.m.length c')∧w.cell? ⟨b,o+5,none⟩=some z':=by
 obtain ⟨y0,y1,y2,y3,y4,y5,g0,g1,g2,g3,g4,g5,hI⟩:=h
 obtain ⟨x0,x1,x2,x3,x4,x5,e,⟨s,e1,hs,-,-⟩,⟨s',e2,hs',-,-⟩⟩:=hI
 obtain ⟨-,A,c,rfl,-,-⟩:=hs
 obtain ⟨-,A',c',rfl,-,-⟩:=hs'
 injection e with e;injection e with e
 injection e1 with e1;injection e1 with e1
 injection e2 with e2;injection e2 with e2
 simp only [List.cons.injEq,and_true] at e e1 e2
 obtain ⟨rfl,rfl,rfl,rfl,rfl,rfl⟩:=e
 obtain ⟨rfl,rfl,rfl⟩:=e1
 obtain ⟨rfl,rfl,rfl⟩:=e2
 exact ⟨_,A,c,_,_,A',c',_,g0,g1,g2,g3,g4,g5⟩
theorem row_c {w:World}{v:Value}{l:List RawI}(hv:IvS w v l)(hn:l.length≤1000000000000000)(hl:∀ a∈l,a.lens 17592186044416):Calls Tryz.prog 26 #[v] w (RetK (.bool (fewR l)) w):=by
 obtain ⟨A,c,rfl,hc,hA⟩:=hv
 have HA:=hid hA
 have HL:=hid hl
 obtain ⟨R,hR⟩:∃ R,fewR l=R:=⟨_,rfl⟩
 rw [hR]
 have HR:=hid hR
 clear hA hR hl
 obtain ⟨n,hn'⟩:∃ n,n=l.length:=⟨_,rfl⟩
 rw [←hn'] at hn hc HA ⊢
 have HN:=hid hn'
 clear hn'
 by_cases h8:n≤8
 ·have t1 : decide ((8 : Int) < (n : Int)) = false := by simp; omega
  go_enter Tryz.func26,Tryz.ntmps26
  go_wp2_with fail
  clear t1
  go_loopw [3] (fun t wr=>∃ k:Nat,k≤n∧t=.int .i64 k∧(∀ i x,i<k→l[i]?=some x→fewA x=true)∧Kept w wr) (fun t _=>(n-intOf t).toNat)
  case atStart=>exact ⟨0,Nat.zero_le _,rfl,fun i a hi=>absurd hi (Nat.not_lt_zero _),Below.refl _ _⟩
  case round =>
   obtain ⟨k,hk,rfl,hall,hKr⟩:=hrel
   have KR:=hid hKr
   have AL:=hid hall
   clear hKr hall
   by_cases hlt:k<n
   ·obtain ⟨b, off, rfl, hd⟩ := HA.out (by omega)
    obtain ⟨x,hx⟩:∃ x,l[k]?=some x:=⟨_,List.getElem?_eq_getElem (by have:=HN.out;omega)⟩
    have hat:=(hd k x hx).kept KR.out
    obtain ⟨y0,A1,q1,y2,y3,A2,q2,y5,g0,g1,g2,g3,g4,g5⟩:=hat.lens
    have HX:=hid hx
    obtain ⟨l1,l2⟩:=HL.out x (List.mem_of_getElem? hx)
    obtain ⟨fx,hfx⟩:∃ f,fewA x=f:=⟨_,rfl⟩
    have HF:=hid hfx
    unfold fewA at hfx
    generalize x.lo.m.length=n1 at *
    generalize x.hi.m.length=n2 at *
    clear hd hx hat g0 g2 g3 g5
    by_cases f1:n1≤6
    ·have u1 : decide ((6 : Int) < (n1 : Int)) = false := by simp; omega
     by_cases f2:n2≤6
     ·have u2 : decide ((6 : Int) < (n2 : Int)) = false := by simp; omega
      obtain rfl:fx=true:=by rw [←hfx];simp [f1,f2]
      clear hfx f1 f2
      go_wp2_with fail
      go_roundw
      case rel =>
       refine ⟨k+1,by omega,by go_num,fun i a hi ha'=>?_,KR.out⟩
       by_cases h2:i=k
       ·subst h2
        rw [HX.out] at ha'
        cases ha'
        exact HF.out
       ·exact AL.out i a (by omega) ha'
      case measure=>simp only [intOf];omega
     ·have u2 : decide ((6 : Int) < (n2 : Int)) = true := by simp; omega
      obtain rfl:fx=false:=by rw [←hfx];simp [f2]
      clear hfx f1 f2
      go_wp2_with fail
      go_ret
      exact ⟨by rw [←HR.out,fewR_no HX.out HF.out];rfl,KR.out⟩
    ·have u1 : decide ((6 : Int) < (n1 : Int)) = true := by simp; omega
     obtain rfl:fx=false:=by rw [←hfx];simp [f1]
     clear hfx f1
     go_wp2_with fail
     go_ret
     exact ⟨by rw [←HR.out,fewR_no HX.out HF.out];rfl,KR.out⟩
   ·obtain rfl : k = n := by omega
    go_wp2_with fail
    go_ret
    exact ⟨by rw [←HR.out,fewR_yes (by have:=HN.out;omega) (fun i x hx=>AL.out i x (by have:=(List.getElem?_eq_some_iff.1 hx).1;have:=HN.out;omega) hx)];rfl,KR.out⟩
 ·have t1 : decide ((8 : Int) < (n : Int)) = true := by simp; omega
  go_enter Tryz.func26,Tryz.ntmps26
  go_wp2_with fail
  go_ret
  exact ⟨by rw [←HR.out];unfold fewR;rw [decide_eq_false (by have:=HN.out;omega)];rfl,Below.refl _ _⟩
theorem fewT_no {ls:List Ln}{outs:List Int}{i:Nat}{x:Ln}(h:ls[i]?=some x)(hf:fewA x.k=false):fewT ls outs=false:=by
 unfold fewT
 have h2:(ls.all fun l=>fewA l.k)=false:=by
  cases h3:ls.all fun l=>fewA l.k with
  | false=>rfl
  | true=>have:=List.all_eq_true.1 h3 x (List.mem_of_getElem? h);rw [hf] at this;cases this
 rw [h2,Bool.and_false]
theorem fewT_yes {ls:List Ln}{outs:List Int}(h:ls.length≤40)(h':outs.length≤12)(hf:∀ (i:Nat) x,ls[i]?=some x→fewA x.k=true):fewT ls outs=true:=by
 unfold fewT
 rw [decide_eq_true h,decide_eq_true h',Bool.true_and,Bool.true_and,List.all_eq_true]
 intro x hx
 obtain ⟨i,hi⟩:=List.getElem?_of_mem hx
 exact hf i x hi
theorem fewT_facts {ls:List Ln}{outs:List Int}(h:fewT ls outs=true):ls.length≤40∧outs.length≤12∧∀ l∈ls,l.k.lens 6:=by
 unfold fewT fewA at h
 simp only [Bool.and_eq_true,decide_eq_true_eq,List.all_eq_true] at h
 exact ⟨h.1.1,h.1.2,fun l hl=>h.2 l hl⟩
theorem fewR_facts {l:List RawI}(h:fewR l=true):l.length≤8∧∀ a∈l,a.lens 6:=by
 unfold fewR fewA at h
 simp only [Bool.and_eq_true,decide_eq_true_eq,List.all_eq_true] at h
 exact ⟨h.1,fun l hl=>h.2 l hl⟩
theorem few_c {w:World}{v:Value}{ls:List Ln}{outs:List Int}(hv:TpR w v ls outs)(hn:ls.length≤1000000000000000)(hno:outs.length≤1000000000000000)(hl:LnOk ls) :
 Calls Tryz.prog 11 #[v] w (RetK (.bool (fewT ls outs)) w):=by
 obtain ⟨s,o,rfl,hls,hou⟩:=hv
 obtain ⟨A,c,rfl,hc,hA⟩:=hls
 obtain ⟨B,d,rfl,hd,-⟩:=hou
 have HA:=hid hA
 have HL:=hid hl
 obtain ⟨W,hW,kW,hb,lW⟩:=boxT w (.slice A ls.length c) (.slice B outs.length d)
 have HW:=hid hW
 have K:=hid kW
 have HB:=hid hb
 obtain ⟨c0,c1⟩:=cells2 hb
 obtain ⟨R,hR⟩:∃ R,fewT ls outs=R:=⟨_,rfl⟩
 rw [hR]
 have HR:=hid hR
 clear hA hR hl hW kW hb
 obtain ⟨n,hn'⟩:∃ n,n=ls.length:=⟨_,rfl⟩
 obtain ⟨no,hno'⟩:∃ n,n=outs.length:=⟨_,rfl⟩
 rw [←hn'] at hn hc HA HW HB ⊢
 rw [←hn'] at c0
 rw [←hno'] at hno hd HW HB ⊢
 rw [←hno'] at c1
 have HN:=hid hn'
 have HNO:=hid hno'
 clear hn' hno'
 by_cases h8:n≤40
 ·have t1 : decide ((40 : Int) < (n : Int)) = false := by simp; omega
  by_cases h9:no≤12
  ·have t2 : decide ((12 : Int) < (no : Int)) = false := by simp; omega
   go_enter Tryz.func11,Tryz.ntmps11
   go_upto_region 1 with fail
   rw [←HW.out]
   go_wp2_with fail
   clear t1 t2 c0 c1
   go_loopw [3] (fun t wr=>∃ k:Nat,k≤n∧t=.int .i64 k∧(∀ i x,i<k→ls[i]?=some x→fewA x.k=true)∧Kept W wr) (fun t _=>(n-intOf t).toNat)
   case atStart=>exact ⟨0,Nat.zero_le _,rfl,fun i a hi=>absurd hi (Nat.not_lt_zero _),Below.refl _ _⟩
   case round =>
    obtain ⟨k,hk,rfl,hall,hKr⟩:=hrel
    have KR:=hid hKr
    have AL:=hid hall
    obtain ⟨c0,-⟩:=cells2 (blk_kept HB.out hKr)
    clear hKr hall
    by_cases hlt:k<n
    ·obtain ⟨b, off, rfl, hd⟩ := HA.out (by omega)
     obtain ⟨x,hx⟩:∃ x,ls[k]?=some x:=⟨_,List.getElem?_eq_getElem (by have:=HN.out;omega)⟩
     have hat:=(hd k x hx).kept (K.out.trans KR.out)
     obtain ⟨y0,A1,q1,y2,y3,A2,q2,y5,g0,g1,g2,g3,g4,g5⟩:=hat.2.2.2.lens
     have HX:=hid hx
     obtain ⟨-,-,l1,l2⟩:=HL.out x (List.mem_of_getElem? hx)
     obtain ⟨fx,hfx⟩:∃ f,fewA x.k=f:=⟨_,rfl⟩
     have HF:=hid hfx
     unfold fewA at hfx
     generalize x.k.lo.m.length=n1 at *
     generalize x.k.hi.m.length=n2 at *
     clear hd hx hat g0 g2 g3 g5
     by_cases f1:n1≤6
     ·have u1 : decide ((6 : Int) < (n1 : Int)) = false := by simp; omega
      by_cases f2:n2≤6
      ·have u2 : decide ((6 : Int) < (n2 : Int)) = false := by simp; omega
       obtain rfl:fx=true:=by rw [←hfx];simp [f1,f2]
       clear hfx f1 f2
       go_wp2_with fail
       go_roundw
       case rel =>
        refine ⟨k+1,by omega,by go_num,fun i a hi ha'=>?_,KR.out⟩
        by_cases h2:i=k
        ·subst h2
         rw [HX.out] at ha'
         cases ha'
         exact HF.out
        ·exact AL.out i a (by omega) ha'
       case measure=>simp only [intOf];omega
      ·have u2 : decide ((6 : Int) < (n2 : Int)) = true := by simp; omega
       obtain rfl:fx=false:=by rw [←hfx];simp [f2]
       clear hfx f1 f2
       go_wp2_with fail
       go_ret
       exact ⟨by rw [←HR.out,fewT_no HX.out HF.out];rfl,K.out.trans KR.out⟩
     ·have u1 : decide ((6 : Int) < (n1 : Int)) = true := by simp; omega
      obtain rfl:fx=false:=by rw [←hfx];simp [f1]
      clear hfx f1
      go_wp2_with fail
      go_ret
      exact ⟨by rw [←HR.out,fewT_no HX.out HF.out];rfl,K.out.trans KR.out⟩
    ·obtain rfl : k = n := by omega
     go_wp2_with fail
     go_ret
     exact ⟨by rw [←HR.out,fewT_yes (by have:=HN.out;omega) (by have:=HNO.out;omega) (fun i x hx=>AL.out i x (by have:=(List.getElem?_eq_some_iff.1 hx).1;have:=HN.out;omega) hx)];rfl,K.out.trans KR.out⟩
  ·have t2 : decide ((12 : Int) < (no : Int)) = true := by simp; omega
   go_enter Tryz.func11,Tryz.ntmps11
   go_upto_region 1 with fail
   rw [←HW.out]
   go_wp2_with fail
   go_ret
   exact ⟨by rw [←HR.out];unfold fewT;rw [decide_eq_false (p:=outs.length≤12) (by have:=HNO.out;omega),Bool.and_false];rfl,K.out⟩
 ·have t1 : decide ((40 : Int) < (n : Int)) = true := by simp; omega
  go_enter Tryz.func11,Tryz.ntmps11
  go_upto_region 1 with fail
  rw [←HW.out]
  go_wp2_with fail
  go_ret
  exact ⟨by rw [←HR.out];unfold fewT;rw [decide_eq_false (p:=ls.length≤40) (by have:=HN.out;omega)];rfl,K.out⟩
def EnBig (e:En):Prop:=e.t.lens 17592186044416∧(∀ a∈e.x,a.lens 17592186044416)∧(∀ a∈e.u,a.lens 17592186044416)∧(∀ a∈e.p,a.lens 17592186044416)∧e.x.length≤1000000000000000∧e.u.length≤1000000000000000∧e.p.length≤1000000000000000
theorem boxEn (w:World)(x0 x1 x2 x3 x4 x5 x6 x7 x8:Value):∃ W,W=w.alloc (.cells #[x0,x1,x2,x3,x4,x5,x6,x7,x8] 33)∧Kept w W∧W.heap[w.heap.size]?=some (.cells #[x0,x1,x2,x3,x4,x5,x6,x7,x8] 33 (0,0))∧w.heap.size<W.heap.size :=
 ⟨_,rfl,kept_alloc _ _,heap_alloc_new _ _,by simp⟩
theorem ivs_new {w:World}{a:RawI}{x0 x1 x2 x3 x4 x5:Value}(h:IvR w (.agg #[x0,x1,x2,x3,x4,x5]) a) :
 IvS (w.alloc (.cells #[x0,x1,x2,x3,x4,x5] 30)) (.slice (some ⟨w.heap.size,0,none⟩) 1 1) [a]:=by
 refine ⟨some ⟨w.heap.size,0,none⟩,1,rfl,Nat.le_refl _,fun _=>⟨_,0,rfl,fun i r hi=>?_⟩⟩
 rcases i with _ | i
 ·cases hi
  have hb:=heap_alloc_new w (.cells #[x0,x1,x2,x3,x4,x5] 30)
  exact ⟨x0,x1,x2,x3,x4,x5,cell_of_block hb 0 _ rfl,cell_of_block hb 1 _ rfl,cell_of_block hb 2 _ rfl,cell_of_block hb 3 _ rfl,cell_of_block hb 4 _ rfl,cell_of_block hb 5 _ rfl,h.kept (kept_alloc _ _)⟩
 ·simp at hi
theorem envF_c {w:World}{v:Value}{e:En}(he:EnR w v e)(hle:EnBig e):Calls Tryz.prog 12 #[v] w (RetK (.bool (fewE e)) w):=by
 obtain ⟨x0,x1,x2,x3,x4,x5,sx,su,sp,rfl,ht,hx,hu,hp⟩:=he
 obtain ⟨lt,lx,lu,lp,nx,nu,np⟩:=hle
 have HT:=hid ht
 have R0:=hid (fun w1 v (h:IvS w1 v [e.t])=>row_c h (by simp) (fun a ha=>by rw [List.mem_singleton.1 ha];exact lt))
 have R1:=hid (fun w1 (k:Kept w w1)=>row_c (hx.kept k) nx lx)
 have R2:=hid (fun w1 (k:Kept w w1)=>row_c (hu.kept k) nu lu)
 have R3:=hid (fun w1 (k:Kept w w1)=>row_c (hp.kept k) np lp)
 obtain ⟨b,hb⟩:∃ b,b=fewE e:=⟨_,rfl⟩
 rw [←hb]
 have HB:Hid (b=(fewR [e.t]&&fewR e.x&&fewR e.u&&fewR e.p)):=hid hb
 clear hb
 generalize fewR [e.t]=b0 at *
 generalize fewR e.x=b1 at *
 generalize fewR e.u=b2 at *
 generalize fewR e.p=b3 at *
 obtain ⟨A1,c1,rfl,-,-⟩:=hx
 obtain ⟨A2,c2,rfl,-,-⟩:=hu
 obtain ⟨A3,c3,rfl,-,-⟩:=hp
 obtain ⟨W,hW,kW,hB,lW⟩:=boxEn w x0 x1 x2 x3 x4 x5 (.slice A1 e.x.length c1) (.slice A2 e.u.length c2) (.slice A3 e.p.length c3)
 have HW:=hid hW
 have K:=hid kW
 have HBW:=hid hB
 obtain ⟨d0,d1,d2,d3,d4,d5,d6,d7,d8⟩:=ln_cells hB
 clear ht lt lx lu lp nx nu np hW kW hB
 go_enter Tryz.func12,Tryz.ntmps12
 go_upto_region 1 with fail
 rw [←HW.out]
 go_wp2_with fail
 refine (R0.out _ _ (ivs_new (HT.out.kept K.out))).mono ?_
 rintro e' w1 ⟨rfl,q⟩
 have K1:=hid ((kept_alloc _ _).trans q)
 clear q d0 d1 d2 d3 d4 d5 d6 d7 d8 HW
 obtain ⟨-,-,-,-,-,-,d6,d7,d8⟩:=ln_cells (blk_kept HBW.out K1.out)
 simp only []
 cases b0
 ·go_wp2_with fail
  go_ret
  exact ⟨by rw [HB.out];rfl,K.out.trans K1.out⟩
 go_wp2_with fail
 refine (R1.out _ (K.out.trans K1.out)).mono ?_
 rintro e' w2 ⟨rfl,q⟩
 replace K1:=hid (K1.out.trans q)
 clear q d6 d7 d8
 obtain ⟨-,-,-,-,-,-,d6,d7,d8⟩:=ln_cells (blk_kept HBW.out K1.out)
 simp only []
 cases b1
 ·go_wp2_with fail
  go_ret
  exact ⟨by rw [HB.out];rfl,K.out.trans K1.out⟩
 go_wp2_with fail
 refine (R2.out _ (K.out.trans K1.out)).mono ?_
 rintro e' w3 ⟨rfl,q⟩
 replace K1:=hid (K1.out.trans q)
 clear q d6 d7 d8
 obtain ⟨-,-,-,-,-,-,d6,d7,d8⟩:=ln_cells (blk_kept HBW.out K1.out)
 simp only []
 cases b2
 ·go_wp2_with fail
  go_ret
  exact ⟨by rw [HB.out];rfl,K.out.trans K1.out⟩
 go_wp2_with fail
 refine (R3.out _ (K.out.trans K1.out)).mono ?_
 rintro e' w4 ⟨rfl,q⟩
 replace K1:=hid (K1.out.trans q)
 clear q d6 d7 d8
 simp only []
 go_wp2_with fail
 go_ret
 exact ⟨by rw [HB.out];cases b3<;>rfl,K.out.trans K1.out⟩
theorem box_c {w:World}{v u:Value}{l:List RawI}(hv:IvS w v l)(hu:IvS w u l)(hn:l.length≤1000000)(hl:∀ a∈l,a.lens 1000000):Calls Tryz.prog 18 #[v,u] w (RetK (.bool true) w):=by
 obtain ⟨A,c,rfl,hc,hA⟩:=hv
 obtain ⟨B,d,rfl,hd,hB⟩:=hu
 have HA:=hid hA
 have HB:=hid hB
 have HL:=hid hl
 clear hA hB hl
 obtain ⟨n,hn'⟩:∃ n,n=l.length:=⟨_,rfl⟩
 rw [←hn'] at hn hc hd HA HB ⊢
 have HN:=hid hn'
 clear hn'
 go_enter Tryz.func18,Tryz.ntmps18
 go_wp2_with fail
 go_loopw [5] (fun t wr=>∃ k:Nat,k≤n∧t=.int .i64 k∧Kept w wr) (fun t _=>(n-intOf t).toNat)
 case atStart=>exact ⟨0,Nat.zero_le _,rfl,Below.refl _ _⟩
 case round =>
  obtain ⟨k,hk,rfl,hKr⟩:=hrel
  have KR:=hid hKr
  clear hKr
  by_cases hlt:k<n
  ·obtain ⟨b, off, rfl, hd1⟩ := HA.out (by omega)
   obtain ⟨b',off',rfl,hd2⟩:=HB.out (by omega)
   obtain ⟨x,hx⟩:∃ x,l[k]?=some x:=⟨_,List.getElem?_eq_getElem (by have:=HN.out;omega)⟩
   have h1:=(hd1 k x hx).kept KR.out
   have h2:=(hd2 k x hx).kept KR.out
   have lx:=HL.out x (List.mem_of_getElem? hx)
   have I1:=hid (fun w1 (q:Kept wr w1)=>h1.kept q)
   have I2:=hid (fun w1 (q:Kept wr w1)=>h2.kept q)
   have SC:=hid (fun w1 v u (hv:IvR w1 v x) (hu:IvR w1 u x)=>rsameI_c hv hu lx)
   have HI:=hid hlt
   clear hd1 hd2 hx h1 h2 lx
   go_wp2_with fail
   refine region_lin (m:=10) (V:=VL [(vE (.slice (some ⟨b,off,none⟩) n c)),(vE (.int .i64 (k:Int))),(vE (.pointer (some ⟨b,off+k*6,none⟩))),(fun v wv=>IvR wv v x),(vE (.slice (some ⟨b',off',none⟩) n d)),(vE (.int .i64 (k:Int))),(vE (.pointer (some ⟨b',off'+k*6,none⟩))),(fun v wv=>IvR wv v x),(vE (.bool true)),(vE (.bool false))])
    (by kernel_rfl) rfl (by kernel_rfl) (by kernel_rfl) (by kernel_rfl) (mono_of _ ⟨mE,mE,mE,fun v w w' k h=>by first | exact h | exact h.kept k | exact ⟨h.1,h.2.kept k⟩,mE,mE,mE,fun v w w' k h=>by first | exact h | exact h.kept k | exact ⟨h.1,h.2.kept k⟩,mE,mE,trivial⟩) (steps_of ⟨
      (fun aF wF F=>by have s0:aF.tmps.getD 0 undef=(.slice (some ⟨b,off,none⟩) n c):=F.o 0;exact sv rfl),(fun aF wF F=>by have s5:aF.tmps.getD 5 undef=(.int .i64 (k:Int)):=F.o 5;exact sv rfl),(fun aF wF F=>by have s17:=F.v 0 17;have s18:=F.v 1 18;exact sw (by (have hi9:=HI.out;first | (go_simp;done) | (go_simp;omega))) rfl),(fun aF wF F=>by have s19:=F.v 2 19;obtain ⟨xx,yy,zz,xx',yy',zz',h0,h1,h2,h3,h4,h5,hI⟩:=(I1.out _ F.kept);exact step_val (by simp [Region.wanted]) (by go_simp) hI),(fun aF wF F=>by have s1:aF.tmps.getD 1 undef=(.slice (some ⟨b',off',none⟩) n d):=F.o 1;exact sv rfl),(fun aF wF F=>by have s5:aF.tmps.getD 5 undef=(.int .i64 (k:Int)):=F.o 5;exact sv rfl),(fun aF wF F=>by have s21:=F.v 4 21;have s22:=F.v 5 22;exact sw (by (have hi9:=HI.out;first | (go_simp;done) | (go_simp;omega))) rfl),(fun aF wF F=>by have s23:=F.v 6 23;obtain ⟨xx,yy,zz,xx',yy',zz',h0,h1,h2,h3,h4,h5,hI⟩:=(I2.out _ F.kept);exact step_val (by simp [Region.wanted]) (by go_simp) hI),(fun aF wF F=>by have s20:=F.p 3 20;have s24:=F.p 7 24;exact sK (SC.out _ _ _ s20 s24) fun _ _ h=>h),(fun aF wF F=>by have s25:=F.v 8 25;exact sv rfl),
      trivial⟩) ?_
   intro u w2 q2 hu
   have p20:=hp hu 3
   have p24:=hp hu 7
   simp only [puts,slotOf,if_true,Act.put,z1,z2,z3,z4,z5,z6,z7,hv hu 0,hv hu 1,hv hu 2,hv hu 4,hv hu 5,hv hu 6,hv hu 8,hv hu 9]
   clear hu
   generalize u 3=v20 at *
   generalize u 7=v24 at *
   clear p20 p24
   have K2:=hid (KR.out.trans q2)
   clear q2
   go_wp2_with fail
   go_roundw
   case rel=>exact ⟨k+1,by have:=HI.out;omega,by go_num,K2.out⟩
   case measure=>simp only [intOf];have:=HI.out;omega
  ·obtain rfl : k = n := by omega
   go_wp2_with fail
   go_ret
   exact ⟨rfl,KR.out⟩
end Go.Proofs.YtabjjdicffcolaaGreatDoor
