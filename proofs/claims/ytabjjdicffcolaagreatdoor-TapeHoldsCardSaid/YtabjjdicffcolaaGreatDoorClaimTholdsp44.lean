/- TapeHolds: what a tape makes of a box holds what it makes of each corner within it. -/
import Derived.Test.YtabjjdicffcolaaGreatDoorClaimTholdsp20
import Derived.Test.YtabjjdicffcolaaGreatDoorClaimTholdsp29
import Derived.Test.YtabjjdicffcolaaGreatDoorClaimTholdsp31
import Derived.Test.YtabjjdicffcolaaGreatDoorClaimTholdsp33
import Derived.Test.YtabjjdicffcolaaGreatDoorClaimTholdsp39
import Derived.Test.YtabjjdicffcolaaGreatDoorClaimTholdsp41
import Derived.Test.YtabjjdicffcolaaGreatDoorClaimTholdsp42
import Derived.Test.YtabjjdicffcolaaGreatDoorClaimTholdsp43
set_option maxRecDepth 100000
set_option maxHeartbeats 16000000
namespace Go.Proofs.YtabjjdicffcolaaGreatDoor
open Go.Lib (hid)
open Go.RowKit
theorem lim_newB {w:World}{b n:Nat}{T:TypeId}(hn:n<18446744073709551616)(h:w.heap[b]?=some (.cells #[.int .u64 (n:Int)] T (0,0))):Lim w (.slice (some ⟨b,0,none⟩) 1 1) [n]:=by
 refine ⟨fun x hx=>by simp at hx;omega,some ⟨b,0,none⟩,1,rfl,Nat.le_refl _,fun _=>⟨b,0,rfl,(Array.getElem?_eq_some_iff.1 h).1,fun i hi=>?_⟩⟩
 have hi:i<1:=hi
 obtain rfl:i=0:=by omega
 exact cell_of_block h 0 _ rfl
theorem lnS_blkB {w:World}{b:Nat}{cs:Array Value}{T:TypeId}{ls:List Ln}(h:w.heap[b]?=some (.cells cs T (0,0)))(hc:RowC (CellL w) cs.toList ls):LnS w (.slice (some ⟨b,0,none⟩) ls.length ls.length) ls:=by
 refine ⟨_,_,rfl,Nat.le_refl _,fun _=>⟨b,0,rfl,fun i a hi=>?_⟩⟩
 obtain ⟨cc,⟨x,y,z,x',y',z',rfl,hI⟩,hj⟩:=hc.at CellL.len i a hi
 rw [Nat.zero_add]
 have hcl:∀ (j:Nat) u,cs.toList[j]?=some u→w.cell? ⟨b,j,none⟩=some u:=fun j u hu=>cell_of_block h j u (by rwa [Array.getElem?_toList] at hu)
 exact ⟨hcl _ _ (hj 0 (by decide)),hcl _ _ (hj 1 (by decide)),hcl _ _ (hj 2 (by decide)),x,y,z,x',y',z',hcl _ _ (hj 3 (by decide)),hcl _ _ (hj 4 (by decide)),hcl _ _ (hj 5 (by decide)),hcl _ _ (hj 6 (by decide)),hcl _ _ (hj 7 (by decide)),hcl _ _ (hj 8 (by decide)),hI⟩
theorem ivS_blkB {w:World}{b:Nat}{cs:Array Value}{T:TypeId}{l:List RawI}(h:w.heap[b]?=some (.cells cs T (0,0)))(hc:RowC (CellI w) cs.toList l):IvS w (.slice (some ⟨b,0,none⟩) l.length l.length) l:=by
 refine ⟨_,_,rfl,Nat.le_refl _,fun _=>⟨b,0,rfl,fun i a hi=>?_⟩⟩
 obtain ⟨cc,⟨x,y,z,x',y',z',rfl,hI⟩,hj⟩:=hc.at CellI.len i a hi
 rw [Nat.zero_add]
 have hcl:∀ (j:Nat) u,cs.toList[j]?=some u→w.cell? ⟨b,j,none⟩=some u:=fun j u hu=>cell_of_block h j u (by rwa [Array.getElem?_toList] at hu)
 exact ⟨x,y,z,x',y',z',hcl _ _ (hj 0 (by decide)),hcl _ _ (hj 1 (by decide)),hcl _ _ (hj 2 (by decide)),hcl _ _ (hj 3 (by decide)),hcl _ _ (hj 4 (by decide)),hcl _ _ (hj 5 (by decide)),hI⟩
theorem inS_blkB {w:World}{b:Nat}{T:TypeId}{ns:List Int}(h:w.heap[b]?=some (.cells (ns.map (Value.int .i64)).toArray T (0,0))):InS w (.slice (some ⟨b,0,none⟩) ns.length ns.length) ns :=
 ⟨_,_,rfl,Nat.le_refl _,fun _=>⟨b,0,rfl,fun i n hn=>by rw [Nat.zero_add];exact cell_of_block h i _ (by simp [hn])⟩⟩
theorem cellL_zB (w:World)(op a b:Int):CellL w [.int .i64 op,.int .i64 a,.int .i64 b,.bool false,.slice none 0 0,.int .i64 0,.bool false,.slice none 0 0,.int .i64 0] ⟨op,a,b,rzI⟩:=⟨_,_,_,_,_,_,rfl,_,_,_,_,_,_,rfl,dyR_zero _,dyR_zero _⟩
theorem boxT8 (w:World){A A':Option Addr}{l c l' c':Nat}(h:IvR w (.agg #[.bool false,.slice A l c,.int .i64 0,.bool false,.slice A' l' c',.int .i64 0]) o1R):∃ V,V=((w.alloc (.cells #[.int .i64 3,.int .i64 0,.int .i64 0,.bool false,.slice none 0 0,.int .i64 0,.bool false,.slice none 0 0,.int .i64 0,.int .i64 1,.int .i64 0,.int .i64 0,.bool false,.slice A l c,.int .i64 0,.bool false,.slice A' l' c',.int .i64 0,.int .i64 6,.int .i64 0,.int .i64 1,.bool false,.slice none 0 0,.int .i64 0,.bool false,.slice none 0 0,.int .i64 0,.int .i64 4,.int .i64 1,.int .i64 0,.bool false,.slice none 0 0,.int .i64 0,.bool false,.slice none 0 0,.int .i64 0] 52)).alloc
 (.cells #[.int .i64 2,.int .i64 3] 3)).alloc (.cells #[.slice (some ⟨w.heap.size,0,none⟩) 4 4,.slice (some ⟨w.heap.size+1,0,none⟩) 2 2] 25)∧Kept w V ∧
 V.heap[w.heap.size+1+1]?=some (.cells #[.slice (some ⟨w.heap.size,0,none⟩) 4 4,.slice (some ⟨w.heap.size+1,0,none⟩) 2 2] 25 (0,0)) ∧
 TpR V (.agg #[.slice (some ⟨w.heap.size,0,none⟩) 4 4,.slice (some ⟨w.heap.size+1,0,none⟩) 2 2]) t8L [2,3]:=by
 obtain ⟨w1,h1⟩:∃ w1,w1=w.alloc (.cells #[.int .i64 3,.int .i64 0,.int .i64 0,.bool false,.slice none 0 0,.int .i64 0,.bool false,.slice none 0 0,.int .i64 0,.int .i64 1,.int .i64 0,.int .i64 0,.bool false,.slice A l c,.int .i64 0,.bool false,.slice A' l' c',.int .i64 0,.int .i64 6,.int .i64 0,.int .i64 1,.bool false,.slice none 0 0,.int .i64 0,.bool false,.slice none 0 0,.int .i64 0,.int .i64 4,.int .i64 1,.int .i64 0,.bool false,.slice none 0 0,.int .i64 0,.bool false,.slice none 0 0,.int .i64 0] 52):=⟨_,rfl⟩
 have k1:Kept w w1:=by rw [h1];exact kept_alloc _ _
 have s1:w1.heap.size=w.heap.size+1:=by rw [h1];simp
 have b1:=(congrArg (fun v:World=>v.heap[w.heap.size]?) h1).trans (heap_alloc_new _ _)
 rw [←h1]
 obtain ⟨w2,h2⟩:∃ w2,w2=w1.alloc (.cells #[.int .i64 2,.int .i64 3] 3):=⟨_,rfl⟩
 have k2:Kept w1 w2:=by rw [h2];exact kept_alloc _ _
 have s2:w2.heap.size=w.heap.size+1+1:=by rw [h2,←s1];simp
 have b2:=(congrArg (fun v:World=>v.heap[w1.heap.size]?) h2).trans (heap_alloc_new _ _)
 rw [←h2]
 have k3:=kept_alloc w2 (.cells #[.slice (some ⟨w.heap.size,0,none⟩) 4 4,.slice (some ⟨w.heap.size+1,0,none⟩) 2 2] 25)
 refine ⟨_,rfl,(k1.trans k2).trans k3,?_,_,_,rfl,?_,?_⟩
 ·rw [←s2];exact heap_alloc_new _ _
 ·have hb := blk_kept b1 (k2.trans k3)
  exact lnS_blkB (ls:=t8L) hb (RowC.append (R:=CellL _) (l:=([⟨3,0,0,rzI⟩]:List Ln)) (m:=([⟨1,0,0,o1R⟩,⟨6,0,1,rzI⟩,⟨4,1,0,rzI⟩]:List Ln)) (xs:=[.int .i64 3,.int .i64 0,.int .i64 0,.bool false,.slice none 0 0,.int .i64 0,.bool false,.slice none 0 0,.int .i64 0]) (RowC.one (cellL_zB _ 3 0 0))
   (RowC.append (R:=CellL _) (l:=([⟨1,0,0,o1R⟩]:List Ln)) (m:=([⟨6,0,1,rzI⟩,⟨4,1,0,rzI⟩]:List Ln)) (xs:=[.int .i64 1,.int .i64 0,.int .i64 0,.bool false,.slice A l c,.int .i64 0,.bool false,.slice A' l' c',.int .i64 0]) (RowC.one ⟨_,_,_,_,_,_,rfl,h.kept ((k1.trans k2).trans k3)⟩)
   (RowC.append (R:=CellL _) (l:=([⟨6,0,1,rzI⟩]:List Ln)) (m:=([⟨4,1,0,rzI⟩]:List Ln)) (xs:=[.int .i64 6,.int .i64 0,.int .i64 1,.bool false,.slice none 0 0,.int .i64 0,.bool false,.slice none 0 0,.int .i64 0]) (RowC.one (cellL_zB _ 6 0 1)) (RowC.one (cellL_zB _ 4 1 0)))))
 ·have hb := blk_kept b2 k3
  rw [s1] at hb
  exact inS_blkB (ns:=[2,3]) hb
theorem boxE8 (w:World){A A':Option Addr}{l c l' c':Nat}(h:IvR w (.agg #[.bool false,.slice A l c,.int .i64 0,.bool false,.slice A' l' c',.int .i64 0]) o1R):∃ V,V=((w.alloc (.cells #[.bool false,.slice none 0 0,.int .i64 0,.bool false,.slice A' l' c',.int .i64 0] 30)).alloc
 (.cells #[.bool false,.slice A l c,.int .i64 0,.bool false,.slice A' l' c',.int .i64 0,.bool false,.slice A l c,.int .i64 0,.bool false,.slice A' l' c',.int .i64 0] 30)).alloc
 (.cells #[.bool false,.slice none 0 0,.int .i64 0,.bool false,.slice none 0 0,.int .i64 0,.slice (some ⟨w.heap.size,0,none⟩) 1 1,.slice (some ⟨w.heap.size+1,0,none⟩) 2 2,.slice none 0 0] 33)∧Kept w V ∧
 V.heap[w.heap.size+1+1]?=some (.cells #[.bool false,.slice none 0 0,.int .i64 0,.bool false,.slice none 0 0,.int .i64 0,.slice (some ⟨w.heap.size,0,none⟩) 1 1,.slice (some ⟨w.heap.size+1,0,none⟩) 2 2,.slice none 0 0] 33 (0,0)) ∧
 EnR V (.agg #[.bool false,.slice none 0 0,.int .i64 0,.bool false,.slice none 0 0,.int .i64 0,.slice (some ⟨w.heap.size,0,none⟩) 1 1,.slice (some ⟨w.heap.size+1,0,none⟩) 2 2,.slice none 0 0]) e8E:=by
 obtain ⟨w1,h1⟩:∃ w1,w1=w.alloc (.cells #[.bool false,.slice none 0 0,.int .i64 0,.bool false,.slice A' l' c',.int .i64 0] 30):=⟨_,rfl⟩
 have k1:Kept w w1:=by rw [h1];exact kept_alloc _ _
 have s1:w1.heap.size=w.heap.size+1:=by rw [h1];simp
 have b1:=(congrArg (fun v:World=>v.heap[w.heap.size]?) h1).trans (heap_alloc_new _ _)
 rw [←h1]
 obtain ⟨w2,h2⟩:∃ w2,w2=w1.alloc (.cells #[.bool false,.slice A l c,.int .i64 0,.bool false,.slice A' l' c',.int .i64 0,.bool false,.slice A l c,.int .i64 0,.bool false,.slice A' l' c',.int .i64 0] 30):=⟨_,rfl⟩
 have k2:Kept w1 w2:=by rw [h2];exact kept_alloc _ _
 have s2:w2.heap.size=w.heap.size+1+1:=by rw [h2,←s1];simp
 have b2:=(congrArg (fun v:World=>v.heap[w1.heap.size]?) h2).trans (heap_alloc_new _ _)
 rw [←h2]
 have k3:=kept_alloc w2 (.cells #[.bool false,.slice none 0 0,.int .i64 0,.bool false,.slice none 0 0,.int .i64 0,.slice (some ⟨w.heap.size,0,none⟩) 1 1,.slice (some ⟨w.heap.size+1,0,none⟩) 2 2,.slice none 0 0] 33)
 have hk:=h.kept ((k1.trans k2).trans k3)
 refine ⟨_,rfl,(k1.trans k2).trans k3,?_,_,_,_,_,_,_,_,_,_,rfl,⟨_,_,_,_,_,_,rfl,dyR_zero _,dyR_zero _⟩,?_,?_,ivS_nil _⟩
 ·rw [←s2];exact heap_alloc_new _ _
 ·have hb := blk_kept b1 (k2.trans k3)
  obtain ⟨x,y,z,x',y',z',ee,d1,d2⟩:=hk
  simp only [Value.agg.injEq,Array.mk.injEq,List.cons.injEq,and_true] at ee
  obtain ⟨rfl,rfl,rfl,rfl,rfl,rfl⟩:=ee
  exact ivS_blkB (l:=e8E.x) hb (RowC.one ⟨_,_,_,_,_,_,rfl,_,_,_,_,_,_,rfl,dyR_zero _,d2⟩)
 ·have hb := blk_kept b2 k3
  rw [s1] at hb
  exact ivS_blkB (l:=e8E.u) hb (RowC.append (R:=CellI _) (l:=[o1R]) (m:=[o1R]) (xs:=[.bool false,.slice A l c,.int .i64 0,.bool false,.slice A' l' c',.int .i64 0]) (RowC.one ⟨_,_,_,_,_,_,rfl,hk⟩) (RowC.one ⟨_,_,_,_,_,_,rfl,hk⟩))
theorem RetN.good {ns:List Int}{w:World}{e:Ending}{w':World}(h:RetN ns w e w'):GoodEnd (fun v w=>InS w v ns) w e w':=by
 obtain ⟨k,v,e,h⟩:=h
 exact ⟨v,e,k,h⟩
theorem t8_ok:LnOk t8L:=by
 intro l hl
 unfold t8L at hl
 simp only [List.mem_cons,List.not_mem_nil,or_false] at hl
 rcases hl with rfl | rfl | rfl | rfl<;>exact ⟨by decide,by decide,by decide,by decide⟩
theorem e8_lens:EnLens e8E:=by
 refine ⟨⟨by decide,by decide⟩,?_,?_,(by intro a ha;cases ha),by decide,by decide,by decide⟩
 ·intro a ha
  rw [List.mem_singleton.1 ha]
  exact ⟨by decide,by decide⟩
 ·intro a ha
  simp only [e8E,List.mem_cons,List.not_mem_nil,or_false] at ha
  rcases ha with rfl | rfl<;>exact ⟨by decide,by decide⟩
theorem e0_lens:EnLens ⟨rzI,[],[],[]⟩:=⟨⟨by decide,by decide⟩,(by intro a ha;cases ha),(by intro a ha;cases ha),(by intro a ha;cases ha),by decide,by decide,by decide⟩
theorem lnOk_nil:LnOk []:=fun l h=>by cases h
theorem told8_c {S:Int→Prop}{w:World}(hT:Tab w)(O:OpsC S)(h6:S 6):Calls Tryz.prog 29 #[] w (RetK (.bool true) w):=by
 have hov:∀ l∈t8L,l.op=13→OvC ovI:=fun _ _ _=>over_ov
 have hS:∀ l∈t8L,6≤l.op→l.op≤12→S l.op:=by
  intro l hl a b
  unfold t8L at hl
  simp only [List.mem_cons,List.not_mem_nil,or_false] at hl
  rcases hl with rfl | rfl | rfl | rfl
  ·exact absurd a (by decide)
  ·exact absurd a (by decide)
  ·exact h6
  ·exact absurd a (by decide)
 have E1:=hid (fun w1 (k:Kept w w1) vt ve (ht:TpR w1 vt t8L [2,3]) (he:EnR w1 ve e8E)=>show Calls Tryz.prog 17 #[vt,ve,.int .i64 20] w1 (RetLs ⟨[⟨⟨false,[1],0⟩,⟨false,[1],1⟩⟩,o1R],0⟩ w1) by
  have h:=eval_c (p:=20) ht he t8_ok e8_lens (by decide) (by decide) (hT.kept k) hov O hS
  rwa [t8_eval] at h)
 have E2:=hid (fun w1 (k:Kept w w1) vt ve (ht:TpR w1 vt t8L [2,3]) (he:EnR w1 ve ⟨rzI,[],[],[]⟩)=>show Calls Tryz.prog 17 #[vt,ve,.int .i64 20] w1 (RetLs ⟨[],1⟩ w1) by
  have h:=eval_c (p:=20) ht he t8_ok e0_lens (by decide) (by decide) (hT.kept k) hov O hS
  rwa [t8_none] at h)
 have U1:=hid (fun w1 vt (ht:TpR w1 vt t8L [2,3])=>show Calls Tryz.prog 31 #[vt,.int .i64 1] w1 (RetN [1] w1) by
  have h:=uses_c (k:=1) ht t8_ok (by decide) (by decide) (by decide) (by decide)
  rwa [t8_uses1] at h)
 have U0:=hid (fun w1 vt (ht:TpR w1 vt t8L [2,3])=>show Calls Tryz.prog 31 #[vt,.int .i64 0] w1 (RetN [] w1) by
  have h:=uses_c (k:=0) ht t8_ok (by decide) (by decide) (by decide) (by decide)
  rwa [t8_uses0] at h)
 have M1:=hid (fun w1 vt (ht:TpR w1 vt t8L [2,3])=>show Calls Tryz.prog 47 #[vt,.int .i64 1,.int .i64 2,.int .i64 0] w1 (RetK (.bool true) w1) by
  have h:=may_tc (x:=1) (u:=2) (p:=0) ht t8_ok (by decide) (by decide) (by decide) (by decide) (by decide)
  rwa [t8_may] at h)
 have M2:=hid (fun w1 vt (ht:TpR w1 vt t8L [2,3])=>show Calls Tryz.prog 47 #[vt,.int .i64 1,.int .i64 1,.int .i64 0] w1 (RetK (.bool false) w1) by
  have h:=may_tc (x:=1) (u:=1) (p:=0) ht t8_ok (by decide) (by decide) (by decide) (by decide) (by decide)
  rwa [t8_may1] at h)
 have M3:=hid (fun w1 vt (ht:TpR w1 vt [] [0])=>show Calls Tryz.prog 47 #[vt,.int .i64 0,.int .i64 0,.int .i64 0] w1 (RetK (.bool false) w1) by
  have h:=may_tc (x:=0) (u:=0) (p:=0) ht lnOk_nil (by decide) (by decide) (by decide) (by decide) (by decide)
  rwa [t8_may0] at h)
 clear hov hS O hT
 obtain ⟨V,hV,kV,bV⟩:∃ V,V=w.alloc (.cells #[.int .u64 1] 55)∧Kept w V∧V.heap[w.heap.size]?=some (.cells #[.int .u64 1] 55 (0,0)):=⟨_,rfl,kept_alloc _ _,heap_alloc_new _ _⟩
 have OF:=hid (iof_c (w:=V) (v:=.agg #[.bool false,.slice (some ⟨w.heap.size,0,none⟩) 1 1,.int .i64 0]) (r:=⟨false,[1],0⟩) ⟨_,rfl,lim_newB (n:=1) (by decide) bV,by decide,by decide⟩)
 have HV:=hid hV
 have K:=hid kV
 clear hV kV bV
 go_enter Tryz.func29,Tryz.ntmps29
 go_wp2_with fail
 rw [←HV.out]
 refine OF.out.mono ?_
 rintro e w1 ⟨q,u,rfl,hI⟩
 obtain ⟨x,y,z,x',y',z',rfl,⟨s1,e1,hs1,-,-⟩,⟨s2,e2,hs2,-,-⟩⟩:=(show IvR w1 u o1R from hI)
 have hI':IvR w1 (.agg #[x,y,z,x',y',z']) o1R:=hI
 obtain ⟨-,A,c,rfl,-,-⟩:=hs1
 obtain ⟨-,A',c',rfl,-,-⟩:=hs2
 injection e1 with e1;injection e1 with e1
 injection e2 with e2;injection e2 with e2
 simp only [List.cons.injEq,and_true] at e1 e2
 obtain ⟨rfl,rfl,rfl⟩:=e1
 obtain ⟨rfl,rfl,rfl⟩:=e2
 have hI2:IvR w1 (.agg #[.bool false,.slice A 1 c,.int .i64 0,.bool false,.slice A' 1 c',.int .i64 0]) o1R:=hI'
 simp only [o1R]
 obtain ⟨V1,hV1,kV1,hb1,lV1⟩:=boxV w1 (.bool false) (.slice A 1 c) (.int .i64 0) (.bool false) (.slice A' 1 c') (.int .i64 0)
 have HV1:=hid hV1
 replace K:=hid ((K.out.trans q).trans kV1)
 have B1:=hid hb1
 have I1:=hid (hI2.kept kV1)
 clear hV1 hb1 hI hI' hI2 q kV1 OF HV
 go_upto_region 2 with fail
 rw [←HV1.out]
 clear HV1
 obtain ⟨V2,hV2,kV2,hb2,ht2⟩:=boxT8 V1 I1.out
 have HV2:=hid hV2
 have T2:=hid ht2
 have B2:=hid hb2
 obtain ⟨-,a0,a1,a2,a3,a4,a5⟩:=B1.out.facts
 replace K:=hid (K.out.trans kV2)
 replace B1:=hid (B1.out.kept kV2)
 replace I1:=hid (I1.out.kept kV2)
 clear hV2 hb2 ht2 kV2
 go_upto_region 3 with fail
 rw [←HV2.out]
 clear HV2 a0 a1 a2 a3 a4 a5
 obtain ⟨-,a0,a1,a2,a3,a4,a5⟩:=B1.out.facts
 obtain ⟨-,p0,p1,p2,p3,p4,p5⟩:=(B1.out.kept (kept_alloc V2 (.cells #[.bool false,.slice none 0 0,.int .i64 0,.bool false,.slice A' 1 c',.int .i64 0] 30))).facts
 obtain ⟨V3,hV3,kV3,hb3,he3⟩:=boxE8 V2 I1.out
 have HV3:=hid hV3
 have B3:=hid hb3
 have E3:=hid he3
 replace K:=hid (K.out.trans kV3)
 replace B1:=hid (B1.out.kept kV3)
 replace B2:=hid (blk_kept B2.out kV3)
 have D1:Hid (DyR V3 (.agg #[.bool false,.slice A 1 c,.int .i64 0]) ⟨false,[1],0⟩):=hid (by
  obtain ⟨_,_,_,_,_,_,e9,d9,-⟩:=I1.out.kept kV3
  simp only [Value.agg.injEq,Array.mk.injEq,List.cons.injEq,and_true] at e9
  obtain ⟨rfl,rfl,rfl,rfl,rfl,rfl⟩:=e9
  exact d9)
 replace I1:=hid (I1.out.kept kV3)
 replace T2:=hid (T2.out.kept kV3)
 clear hV3 hb3 he3 kV3
 go_upto_region 4 with fail
 rw [←HV3.out]
 clear HV3 a0 a1 a2 a3 a4 a5 p0 p1 p2 p3 p4 p5
 obtain ⟨c0,c1⟩:=cells2 B2.out
 obtain ⟨d0,d1,d2,d3,d4,d5,d6,d7,d8⟩:=ln_cells B3.out
 generalize V2.heap.size+1+1=n3 at *
 generalize V1.heap.size+1+1=n2 at *
 generalize w1.heap.size=n1 at *
 go_wp2_with fail
 refine (E1.out _ K.out _ _ T2.out E3.out).mono ?_
 rintro e w4 ⟨q,v4,rfl,h4⟩
 simp only []
 replace K:=hid (K.out.trans q)
 replace B1:=hid (B1.out.kept q)
 replace B2:=hid (blk_kept B2.out q)
 replace T2:=hid (T2.out.kept q)
 replace D1:=hid (D1.out.kept q)
 have H4:=hid h4
 obtain ⟨A4,c4,rfl,-,-⟩:=h4
 clear q c0 c1 d0 d1 d2 d3 d4 d5 d6 d7 d8 B3 E3 E1 I1
 obtain ⟨c0,c1⟩:=cells2 B2.out
 go_wp2_with fail
 refine (U1.out _ _ T2.out).mono ?_
 rintro e w5 ⟨q,v6,rfl,h6⟩
 simp only []
 replace K:=hid (K.out.trans q)
 replace B1:=hid (B1.out.kept q)
 replace B2:=hid (blk_kept B2.out q)
 replace T2:=hid (T2.out.kept q)
 replace D1:=hid (D1.out.kept q)
 replace H4:=hid (H4.out.kept q)
 have H6:=hid h6
 obtain ⟨A6,c6,rfl,-,-⟩:=h6
 clear q c0 c1 U1
 obtain ⟨c0,c1⟩:=cells2 B2.out
 go_wp2_with fail
 refine (E2.out _ K.out _ _ T2.out ⟨_,_,_,_,_,_,_,_,_,rfl,⟨_,_,_,_,_,_,rfl,dyR_zero _,dyR_zero _⟩,ivS_nil _,ivS_nil _,ivS_nil _⟩).mono ?_
 rintro e w6 ⟨q,v7,rfl,h7⟩
 simp only []
 replace K:=hid (K.out.trans q)
 replace B1:=hid (B1.out.kept q)
 replace B2:=hid (blk_kept B2.out q)
 replace T2:=hid (T2.out.kept q)
 replace D1:=hid (D1.out.kept q)
 replace H4:=hid (H4.out.kept q)
 replace H6:=hid (H6.out.kept q)
 obtain ⟨A7,c7,rfl,-,-⟩:=h7
 clear q c0 c1 E2
 obtain ⟨A4',c4',e4,-,g4⟩:=H4.out
 injection e4 with e4 _ _
 subst e4
 obtain ⟨b4,o4,rfl,k4⟩:=g4 (by simp)
 obtain ⟨x0,x1,x2,x3,x4,x5,s0,s1,s2,s3,s4,s5,hI4⟩:=k4 0 _ rfl
 obtain ⟨_,_,_,_,_,_,hh4,d4,⟨t5,e5,-,-,-⟩⟩:=hI4
 simp only [Value.agg.injEq,List.cons.injEq,Array.mk.injEq,and_true] at hh4
 obtain ⟨rfl,rfl,rfl,rfl,rfl,rfl⟩:=hh4
 simp only [Value.agg.injEq,List.cons.injEq,Array.mk.injEq,and_true] at e5
 obtain ⟨rfl,rfl,rfl⟩:=e5
 rw [Nat.zero_mul,Nat.add_zero] at s0 s1 s2 s5
 obtain ⟨A6',c6',e6,-,g6⟩:=H6.out
 injection e6 with e6 _ _
 subst e6
 obtain ⟨b6,o6,rfl,k6⟩:=g6 (by simp)
 have r0:=k6 0 _ rfl
 rw [Nat.add_zero] at r0
 have F4:=hid (And.intro s0 (And.intro s1 (And.intro s2 s5)))
 have F6:=hid r0
 have D4:=hid d4
 clear s0 s1 s2 s3 s4 s5 d4 k4 k6 g4 g6 r0 H4 H6
 go_upto_region 7 with fail
 refine region_lin (m:=61) (V:=VL [(vE (.int .i64 0)),(vE (.bool true)),(vE (.bool true)),(vE (.slice (some ⟨b4,o4,none⟩) 2 c4)),(vE (.int .i64 2)),(vE (.bool true)),(vE (.bool true)),(vE (.bool true)),(vE (.slice (some ⟨b4,o4,none⟩) 2 c4)),(vE (.pointer (some ⟨b4,o4,none⟩))),(vE (.pointer (some ⟨b4,o4,none⟩))),(vE (.agg #[x0,x1,x2])),(vP n1 0),(vE (.agg #[.bool false,.slice A 1 c,.int .i64 0])),(vE (.bool true)),(vE (.bool true)),(vE (.bool true)),(vE (.slice (some ⟨b4,o4,none⟩) 2 c4)),(vE (.pointer (some ⟨b4,o4,none⟩))),(vE (.pointer (some ⟨b4,o4+3,none⟩))),(vE (.pointer (some ⟨b4,o4+5,none⟩))),(vE (.int .i64 1)),(vE (.bool true)),(vE (.bool true)),(vE (.bool true)),(vE (.slice (some ⟨b6,o6,none⟩) 1 c6)),(vE (.int .i64 1)),(vE (.bool true)),(vE (.bool true)),(vE (.bool true)),(vE (.slice (some ⟨b6,o6,none⟩) 1 c6)),(vE (.pointer (some ⟨b6,o6,none⟩))),(vE (.int .i64 1)),(vE (.bool true)),(vE (.bool true)),(vE (.bool true)),(vE (.agg #[.slice (some ⟨V1.heap.size,0,none⟩) 4 4,.slice (some ⟨V1.heap.size+1,0,none⟩) 2 2])),(fun v wv=>InS wv v []),(vE (.int .i64 0)),(vE (.bool true)),(vE (.bool true)),(vE (.bool true)),(vE (.int .i64 1)),(vE (.bool true)),(vE (.bool true)),(vE (.bool true)),(vE (.agg #[.slice (some ⟨V1.heap.size,0,none⟩) 4 4,.slice (some ⟨V1.heap.size+1,0,none⟩) 2 2])),(vE (.bool true)),(vE (.bool true)),(vE (.bool true)),(vE (.agg #[.slice (some ⟨V1.heap.size,0,none⟩) 4 4,.slice (some ⟨V1.heap.size+1,0,none⟩) 2 2])),(vE (.bool false)),(vE (.bool true)),(vE (.bool true)),(vE (.bool true)),(fun v wv=>InS wv v [0]),(fun v wv=>TpR wv v [] [0]),(vE (.bool false)),(vE (.bool true)),(vE (.bool true)),(vE (.bool true))])
  (by kernel_rfl) rfl (by kernel_rfl) (by kernel_rfl) (by kernel_rfl) (mono_of _ ⟨mE,mE,mE,mE,mE,mE,mE,mE,mE,mE,mE,mE,mE,mE,mE,mE,mE,mE,mE,mE,mE,mE,mE,mE,mE,mE,mE,mE,mE,mE,mE,mE,mE,mE,mE,mE,mE,fun v w w' k h=>by first | exact h | exact h.kept k | exact ⟨h.1,h.2.kept k⟩,mE,mE,mE,mE,mE,mE,mE,mE,mE,mE,mE,mE,mE,mE,mE,mE,mE,fun v w w' k h=>by first | exact h | exact h.kept k | exact ⟨h.1,h.2.kept k⟩,fun v w w' k h=>by first | exact h | exact h.kept k | exact ⟨h.1,h.2.kept k⟩,mE,mE,mE,mE,trivial⟩) (steps_of ⟨
    (fun aF wF F=>by have s5:aF.tmps.getD 5 undef=(.int .i64 0):=F.o 5;exact sv rfl),(fun aF wF F=>by have s42:=F.v 0 42;exact sv rfl),(fun aF wF F=>by have s43:=F.v 1 43;exact sv rfl),(fun aF wF F=>by have s4:aF.tmps.getD 4 undef=(.slice (some ⟨b4,o4,none⟩) 2 c4):=F.o 4;have sg:=F.v 2 44;exact step_val ((wanted_guard rfl rfl sg).trans rfl) (by go_simp) rfl),(fun aF wF F=>by have s45:=F.v 3 45;have sg:=F.v 2 44;exact step_val ((wanted_guard rfl rfl sg).trans rfl) (by go_simp) rfl),(fun aF wF F=>by have s46:=F.v 4 46;have sg:=F.v 2 44;exact step_val ((wanted_guard rfl rfl sg).trans rfl) (by go_simp) rfl),(fun aF wF F=>by have s44:=F.v 2 44;have s47:=F.v 5 47;exact sv rfl),(fun aF wF F=>by have s48:=F.v 6 48;exact sv rfl),(fun aF wF F=>by have s4:aF.tmps.getD 4 undef=(.slice (some ⟨b4,o4,none⟩) 2 c4):=F.o 4;have sg:=F.v 7 49;exact step_val ((wanted_guard rfl rfl sg).trans rfl) (by go_simp) rfl),(fun aF wF F=>by have s50:=F.v 8 50;have sg:=F.v 7 49;exact step_val ((wanted_guard rfl rfl sg).trans rfl) (by go_simp) rfl),(fun aF wF F=>by have s51:=F.v 9 51;have sg:=F.v 7 49;exact step_val ((wanted_guard rfl rfl sg).trans rfl) (by go_simp) rfl),(fun aF wF F=>by have s52:=F.v 10 52;have sg:=F.v 7 49;exact step_val ((wanted_guard rfl rfl sg).trans rfl) (by (have n0:=(F.kept.cell (p:=⟨b4,o4,none⟩) (lt_of_cell F4.out.1)).trans F4.out.1;have n1:=(F.kept.cell (p:=⟨b4,o4+1,none⟩) (lt_of_cell F4.out.2.1)).trans F4.out.2.1;have n2:=(F.kept.cell (p:=⟨b4,o4+2,none⟩) (lt_of_cell F4.out.2.2.1)).trans F4.out.2.2.1;go_simp)) rfl),(fun aF wF F=>by have s1:aF.tmps.getD 1 undef=(.pointer (some ⟨n1,0,none⟩)):=F.o 1;have sg:=F.v 7 49;exact step_val ((wanted_guard rfl rfl sg).trans rfl) (by go_simp) rfl),(fun aF wF F=>by have s54:=F.v 12 54;have c0:=cell_at B1.out F.kept 0 _ rfl;have c1:=cell_at B1.out F.kept 1 _ rfl;have c2:=cell_at B1.out F.kept 2 _ rfl;have sg:=F.v 7 49;exact step_val ((wanted_guard rfl rfl sg).trans rfl) (by go_simp) rfl),(fun aF wF F=>by have s53:=F.v 11 53;have s55:=F.v 13 55;have sg:=F.v 7 49;exact step_good ((wanted_guard rfl rfl sg).trans rfl) (by go_simp) (dsame_c (D4.out.kept F.kept) (D1.out.kept F.kept) (by decide)) (fun _ _ h=>RetK.good h) (fun _ _ h=>h)),(fun aF wF F=>by have s49:=F.v 7 49;have s56:=F.v 14 56;exact sv rfl),(fun aF wF F=>by have s57:=F.v 15 57;exact sv rfl),(fun aF wF F=>by have s4:aF.tmps.getD 4 undef=(.slice (some ⟨b4,o4,none⟩) 2 c4):=F.o 4;have sg:=F.v 16 58;exact step_val ((wanted_guard rfl rfl sg).trans rfl) (by go_simp) rfl),(fun aF wF F=>by have s59:=F.v 17 59;have sg:=F.v 16 58;exact step_val ((wanted_guard rfl rfl sg).trans rfl) (by go_simp) rfl),(fun aF wF F=>by have s60:=F.v 18 60;have sg:=F.v 16 58;exact step_val ((wanted_guard rfl rfl sg).trans rfl) (by go_simp) rfl),(fun aF wF F=>by have s61:=F.v 19 61;have sg:=F.v 16 58;exact step_val ((wanted_guard rfl rfl sg).trans rfl) (by go_simp) rfl),(fun aF wF F=>by have s62:=F.v 20 62;have sg:=F.v 16 58;exact step_val ((wanted_guard rfl rfl sg).trans rfl) (by (have n0:=(F.kept.cell (p:=⟨b4,o4+5,none⟩) (lt_of_cell F4.out.2.2.2)).trans F4.out.2.2.2;go_simp)) rfl),(fun aF wF F=>by have s63:=F.v 21 63;have sg:=F.v 16 58;exact step_val ((wanted_guard rfl rfl sg).trans rfl) (by go_simp) rfl),(fun aF wF F=>by have s58:=F.v 16 58;have s64:=F.v 22 64;exact sv rfl),(fun aF wF F=>by have s65:=F.v 23 65;exact sv rfl),(fun aF wF F=>by have s6:aF.tmps.getD 6 undef=(.slice (some ⟨b6,o6,none⟩) 1 c6):=F.o 6;have sg:=F.v 24 66;exact step_val ((wanted_guard rfl rfl sg).trans rfl) (by go_simp) rfl),(fun aF wF F=>by have s67:=F.v 25 67;have sg:=F.v 24 66;exact step_val ((wanted_guard rfl rfl sg).trans rfl) (by go_simp) rfl),(fun aF wF F=>by have s68:=F.v 26 68;have sg:=F.v 24 66;exact step_val ((wanted_guard rfl rfl sg).trans rfl) (by go_simp) rfl),(fun aF wF F=>by have s66:=F.v 24 66;have s69:=F.v 27 69;exact sv rfl),(fun aF wF F=>by have s70:=F.v 28 70;exact sv rfl),(fun aF wF F=>by have s6:aF.tmps.getD 6 undef=(.slice (some ⟨b6,o6,none⟩) 1 c6):=F.o 6;have sg:=F.v 29 71;exact step_val ((wanted_guard rfl rfl sg).trans rfl) (by go_simp) rfl),(fun aF wF F=>by have s72:=F.v 30 72;have sg:=F.v 29 71;exact step_val ((wanted_guard rfl rfl sg).trans rfl) (by go_simp) rfl),(fun aF wF F=>by have s73:=F.v 31 73;have sg:=F.v 29 71;exact step_val ((wanted_guard rfl rfl sg).trans rfl) (by (have n0:=(F.kept.cell (p:=⟨b6,o6,none⟩) (lt_of_cell F6.out)).trans F6.out;go_simp)) rfl),(fun aF wF F=>by have s74:=F.v 32 74;have sg:=F.v 29 71;exact step_val ((wanted_guard rfl rfl sg).trans rfl) (by go_simp) rfl),(fun aF wF F=>by have s71:=F.v 29 71;have s75:=F.v 33 75;exact sv rfl),(fun aF wF F=>by have s76:=F.v 34 76;exact sv rfl),(fun aF wF F=>by have s2:aF.tmps.getD 2 undef=(.pointer (some ⟨n2,0,none⟩)):=F.o 2;have c0:=cell_at B2.out F.kept 0 _ rfl;have c1:=cell_at B2.out F.kept 1 _ rfl;have sg:=F.v 35 77;exact step_val ((wanted_guard rfl rfl sg).trans rfl) (by go_simp) rfl),(fun aF wF F=>by have s78:=F.v 36 78;have sg:=F.v 35 77;exact step_good ((wanted_guard rfl rfl sg).trans rfl) (by go_simp) (U0.out _ _ (T2.out.kept F.kept)) (fun _ _ h=>RetN.good h) (fun _ _ h=>h)),(fun aF wF F=>by have s79:=F.p 37 79;have sg:=F.v 35 77;exact step_val ((wanted_guard rfl rfl sg).trans rfl) (by (obtain ⟨A9,c9,e9,-,-⟩:=s79;simp only [Array.getD_eq_getD_getElem?] at e9;go_simp)) rfl),(fun aF wF F=>by have s80:=F.v 38 80;have sg:=F.v 35 77;exact step_val ((wanted_guard rfl rfl sg).trans rfl) (by go_simp) rfl),(fun aF wF F=>by have s77:=F.v 35 77;have s81:=F.v 39 81;exact sv rfl),(fun aF wF F=>by have s82:=F.v 40 82;exact sv rfl),(fun aF wF F=>by have s8:aF.tmps.getD 8 undef=(.int .i64 1):=F.o 8;have sg:=F.v 41 83;exact step_val ((wanted_guard rfl rfl sg).trans rfl) (by go_simp) rfl),(fun aF wF F=>by have s84:=F.v 42 84;have sg:=F.v 41 83;exact step_val ((wanted_guard rfl rfl sg).trans rfl) (by go_simp) rfl),(fun aF wF F=>by have s83:=F.v 41 83;have s85:=F.v 43 85;exact sv rfl),(fun aF wF F=>by have s86:=F.v 44 86;exact sv rfl),(fun aF wF F=>by have s2:aF.tmps.getD 2 undef=(.pointer (some ⟨n2,0,none⟩)):=F.o 2;have c0:=cell_at B2.out F.kept 0 _ rfl;have c1:=cell_at B2.out F.kept 1 _ rfl;have sg:=F.v 45 87;exact step_val ((wanted_guard rfl rfl sg).trans rfl) (by go_simp) rfl),(fun aF wF F=>by have s88:=F.v 46 88;have sg:=F.v 45 87;exact step_good ((wanted_guard rfl rfl sg).trans rfl) (by go_simp) (M1.out _ _ (T2.out.kept F.kept)) (fun _ _ h=>RetK.good h) (fun _ _ h=>h)),(fun aF wF F=>by have s87:=F.v 45 87;have s89:=F.v 47 89;exact sv rfl),(fun aF wF F=>by have s90:=F.v 48 90;exact sv rfl),(fun aF wF F=>by have s2:aF.tmps.getD 2 undef=(.pointer (some ⟨n2,0,none⟩)):=F.o 2;have c0:=cell_at B2.out F.kept 0 _ rfl;have c1:=cell_at B2.out F.kept 1 _ rfl;have sg:=F.v 49 91;exact step_val ((wanted_guard rfl rfl sg).trans rfl) (by go_simp) rfl),(fun aF wF F=>by have s92:=F.v 50 92;have sg:=F.v 49 91;exact step_good ((wanted_guard rfl rfl sg).trans rfl) (by go_simp) (M2.out _ _ (T2.out.kept F.kept)) (fun _ _ h=>RetK.good h) (fun _ _ h=>h)),(fun aF wF F=>by have s93:=F.v 51 93;have sg:=F.v 49 91;exact step_val ((wanted_guard rfl rfl sg).trans rfl) (by go_simp) rfl),(fun aF wF F=>by have s91:=F.v 49 91;have s94:=F.v 52 94;exact sv rfl),(fun aF wF F=>by have s95:=F.v 53 95;exact sv rfl),(fun aF wF F=>by have sg:=F.v 54 96;exact step_new ((wanted_guard rfl rfl sg).trans rfl) (by first | (go_simp;done) | (go_simp;rfl)) (kept_alloc _ _) (inS_blkB (ns:=[0]) (heap_alloc_new _ _))),(fun aF wF F=>by have s97:=F.p 55 97;have sg:=F.v 54 96;have hs:=s97;obtain ⟨A9,c9,e9,-,-⟩:=s97;rw [e9] at hs;simp only [Array.getD_eq_getD_getElem?] at e9;exact step_val ((wanted_guard rfl rfl sg).trans rfl) (by go_simp) ⟨_,_,rfl,⟨none,0,rfl,Nat.le_refl _,fun h=>absurd h (by simp)⟩,hs⟩),(fun aF wF F=>by have s98:=F.p 56 98;have sg:=F.v 54 96;exact step_good ((wanted_guard rfl rfl sg).trans rfl) (by go_simp) (M3.out _ _ s98) (fun _ _ h=>RetK.good h) (fun _ _ h=>h)),(fun aF wF F=>by have s99:=F.v 57 99;have sg:=F.v 54 96;exact step_val ((wanted_guard rfl rfl sg).trans rfl) (by go_simp) rfl),(fun aF wF F=>by have s96:=F.v 54 96;have s100:=F.v 58 100;exact sv rfl),(fun aF wF F=>by have s101:=F.v 59 101;exact sv rfl),
    trivial⟩) ?_
 intro u w8 q hu
 have p79:=hp hu 37
 have p97:=hp hu 55
 have p98:=hp hu 56
 simp only [puts,slotOf,if_true,Act.put,z1,z2,z3,z4,z5,z6,z7,hv hu 0,hv hu 1,hv hu 2,hv hu 3,hv hu 4,hv hu 5,hv hu 6,hv hu 7,hv hu 8,hv hu 9,hv hu 10,hv hu 11,hv hu 12,hv hu 13,hv hu 14,hv hu 15,hv hu 16,hv hu 17,hv hu 18,hv hu 19,hv hu 20,hv hu 21,hv hu 22,hv hu 23,hv hu 24,hv hu 25,hv hu 26,hv hu 27,hv hu 28,hv hu 29,hv hu 30,hv hu 31,hv hu 32,hv hu 33,hv hu 34,hv hu 35,hv hu 36,hv hu 38,hv hu 39,hv hu 40,hv hu 41,hv hu 42,hv hu 43,hv hu 44,hv hu 45,hv hu 46,hv hu 47,hv hu 48,hv hu 49,hv hu 50,hv hu 51,hv hu 52,hv hu 53,hv hu 54,hv hu 57,hv hu 58,hv hu 59,hv hu 60]
 clear hu
 generalize u 37=v79 at *
 generalize u 55=v97 at *
 generalize u 56=v98 at *
 go_wp2_with fail
 go_ret
 exact ⟨rfl,K.out.trans q⟩
theorem nb_ofT (p:Int)(c m:Nat)(hm:0<m)(hs:c+m≤1000):∃ n:Nat,wrap64 ((c:Int)+wrap64 ((IntKind.u64.wrap p).tmod (m:Int)))=(n:Int)∧c≤n∧n<c+m:=by
 rw [IntKind.wrap_u64]
 have h0:0≤p%18446744073709551616:=Int.emod_nonneg _ (by decide)
 rw [Int.tmod_eq_emod_of_nonneg h0]
 have h1:0≤p%18446744073709551616%(m:Int):=Int.emod_nonneg _ (by omega)
 have h2:p%18446744073709551616%(m:Int)<m:=Int.emod_lt_of_pos _ (by omega)
 generalize p%18446744073709551616%(m:Int)=x at *
 refine ⟨(c+x).toNat,?_,by omega,by omega⟩
 unfold wrap64
 omega
theorem lens_mono {a:RawI}{k m:Nat}(h:a.lens k)(hk:k≤m):a.lens m:=⟨Nat.le_trans h.1 hk,Nat.le_trans h.2 hk⟩
theorem fewE_lens {e:En}(h:fewE e=true):EnLens e∧e.x.length≤8∧e.u.length≤8∧e.p.length≤8∧e.t.lens 6∧(∀ a∈e.x,a.lens 6)∧(∀ a∈e.u,a.lens 6)∧∀ a∈e.p,a.lens 6:=by
 unfold fewE at h
 simp only [Bool.and_eq_true] at h
 obtain ⟨⟨⟨h1,h2⟩,h3⟩,h4⟩:=h
 obtain ⟨-,a1⟩:=fewR_facts h1
 obtain ⟨l2,a2⟩:=fewR_facts h2
 obtain ⟨l3,a3⟩:=fewR_facts h3
 obtain ⟨l4,a4⟩:=fewR_facts h4
 have at':=a1 e.t (by simp)
 exact ⟨⟨lens_mono at' (by decide),fun a ha=>lens_mono (a2 a ha) (by decide),fun a ha=>lens_mono (a3 a ha) (by decide),fun a ha=>lens_mono (a4 a ha) (by decide),by omega,by omega,by omega⟩,l2,l3,l4,at',a2,a3,a4⟩
def SA (_:Int):Prop:=True
theorem opsA:OpsC SA:=⟨fun _ _ _ _ _ _ _=>Add_k,fun _ _ _ _ _ _ _=>Sub_k,fun _ _ _ _ _ _ _=>Mul_k,fun _ _ _ _ _ _ _=>Div_k,fun _ _ _ _ _=>Neg_k,fun _ _ _ _ _=>Sqr_k,fun _ _ _ _ _=>Sqrt_k⟩
theorem LnS.take {w:World}{A:Option Addr}{c:Nat}{ls:List Ln}(h:LnS w (.slice A ls.length c) ls){k:Nat}(hk:k≤ls.length):LnS w (.slice A k c) (ls.take k):=by
 obtain ⟨A',c',e,hc,hA⟩:=h
 injection e with e1 e2 e3
 subst e1 e3
 have hl:(ls.take k).length=k:=by rw [List.length_take];omega
 refine ⟨A,c,by rw [hl],by omega,fun h0=>?_⟩
 obtain ⟨b,off,rfl,hd⟩:=hA (by omega)
 refine ⟨b,off,rfl,fun i l hi=>hd i l ?_⟩
 have:=(List.getElem?_eq_some_iff.1 hi).1
 rwa [List.getElem?_take_of_lt (by omega)] at hi
theorem IvS.take {w:World}{A:Option Addr}{n c:Nat}{l:List RawI}(h:IvS w (.slice A n c) l){k:Nat}(hk:k≤l.length):IvS w (.slice A k c) (l.take k):=by
 obtain ⟨A',c',e,hc,hA⟩:=h
 injection e with e1 e2 e3
 subst e1 e3
 have hl:(l.take k).length=k:=by rw [List.length_take];omega
 refine ⟨A,c,by rw [hl],by omega,fun h0=>?_⟩
 obtain ⟨b,off,rfl,hd⟩:=hA (by omega)
 refine ⟨b,off,rfl,fun i a hi=>hd i a ?_⟩
 have:=(List.getElem?_eq_some_iff.1 hi).1
 rwa [List.getElem?_take_of_lt (by omega)] at hi
theorem evalI_k {ov:Iv→Nat→Outc Iv}{ls:List Ln}{outs:List Int}{e:En}{p:Int}:(evalI ov ls outs e p).k=(tapeI ov ls outs e p).k:=by
 unfold evalI
 split
 ·rename_i h;exact h.symm
 ·rfl
theorem evalI_good {ov:Iv→Nat→Outc Iv}{ls:List Ln}{outs:List Int}{e:En}{p:Int}(h:(tapeI ov ls outs e p).k=0):evalI ov ls outs e p=⟨outs.map fun n=>(tapeI ov ls outs e p).v.getD n.toNat rzI,0⟩:=by
 unfold evalI
 rw [if_pos h]
theorem lines_cl {e:En}{p:Nat}(he:e.Cl)(p1:1≤p)(p2:p≤300):∀ (ls:List Ln) (out:List RawI),(∀ l∈ls,l.op=1→l.k.iv.Ok)→Cl out→Cl (linesI ovI e p out ls).v
 | [],out,_,ho=>ho
 | l :: ls, out, hk, ho => by
   rw [linesI]
   split
   ·exact lines_cl he p1 p2 ls _ (fun l hl=>hk l (List.mem_cons_of_mem _ hl)) (line_cl he ho (hk l (List.mem_cons_self ..)) p1 p2)
   ·intro a ha
    cases ha
theorem rawI_lens {a:Iv}(h:a.Ok):a.raw.lens 64:=⟨h.lo.len,h.hi.len⟩
theorem cl_lens {l:List RawI}(h:Cl l):∀ a∈l,a.lens 64:=fun a ha=>by
 obtain ⟨h1,h2⟩:=h a ha
 rw [←h2]
 exact rawI_lens h1
theorem env_cl {w:World}{ve:Value}{e:En}(he:EnR w ve e)(h:mayE e=true):e.Cl:=by
 obtain ⟨x0,x1,x2,x3,x4,x5,sx,su,sp,rfl,ht,hx,hu,hp⟩:=he
 unfold mayE at h
 simp only [Bool.and_eq_true] at h
 exact ⟨ht.clean h.1.1.1,hx.cl h.1.1.2,hu.cl h.1.2,hp.cl h.2⟩
theorem const_ok {w:World}{vt:Value}{ls:List Ln}{outs:List Int}{x u p:Int}(hv:TpR w vt ls outs)(h:mayT ls outs x u p=true):∀ l∈ls,l.op=1→l.k.iv.Ok∧l.k.iv.raw=l.k:=by
 obtain ⟨s,o,rfl,⟨A,c,rfl,hc,hA⟩,-⟩:=hv
 intro l hl h1
 obtain ⟨i,hi⟩:=List.getElem?_of_mem hl
 obtain ⟨b,off,rfl,hd⟩:=hA (by have:=(List.getElem?_eq_some_iff.1 hi).1;omega)
 obtain ⟨-,-,-,y0,y1,y2,y3,y4,y5,-,-,-,-,-,-,hI⟩:=hd i l hi
 exact hI.clean (mayT_const h l hl h1)
theorem tape_cl {w:World}{vt ve:Value}{ls:List Ln}{outs:List Int}{e:En}{n:Nat}(hv:TpR w vt ls outs)(he:EnR w ve e)(h:(tapeI ovI ls outs e n).k=0):e.Cl∧(∀ l∈ls,l.op=1→l.k.iv.Ok)∧Cl (tapeI ovI ls outs e n).v:=by
 obtain ⟨h1,h2,h3⟩:=tapeI_good h
 have c1:=env_cl he h1.2.2.2
 have c2:=fun l hl h0=>(const_ok hv h1.2.2.1 l hl h0).1
 refine ⟨c1,c2,?_⟩
 rw [h3]
 exact lines_cl c1 (by omega) (by omega) ls [] c2 (fun a ha=>by cases ha)
def PickR (l r:List RawI):Prop:=r.length=l.length∧∀ (i:Nat) a,l[i]?=some a→r[i]?=some ⟨a.lo,a.lo⟩∨r[i]?=some ⟨a.hi,a.hi⟩
theorem pickR_step {l r:List RawI}{i:Nat}{a b:RawI}(h:PickR (l.take i) r)(ha:l[i]?=some a)(hb:b=⟨a.lo,a.lo⟩∨b=⟨a.hi,a.hi⟩):PickR (l.take (i+1)) (r++[b]):=by
 have hi:=(List.getElem?_eq_some_iff.1 ha).1
 have hl:(l.take i).length=i:=by rw [List.length_take];omega
 obtain ⟨h1,h2⟩:=h
 refine ⟨by rw [List.length_append,List.length_take,h1,hl];simp;omega,fun j x hj=>?_⟩
 by_cases e:j<i
 ·rw [List.getElem?_append_left (by omega)]
  refine h2 j x ?_
  rw [List.getElem?_take_of_lt e]
  rwa [List.getElem?_take_of_lt (by omega)] at hj
 ·have hj2 := (List.getElem?_eq_some_iff.1 hj).1
  rw [List.length_take] at hj2
  obtain rfl:j=i:=by omega
  rw [List.getElem?_take_of_lt (by omega),ha] at hj
  cases hj
  rw [List.getElem?_append_right (by omega),h1,hl,Nat.sub_self]
  rcases hb with rfl | rfl
  ·exact .inl rfl
  ·exact .inr rfl
def PkV (l:List RawI) (S:Nat) (v:Value) (w:World):Prop:=∃ r,IvS w v r∧PickR l r∧∀ g,v.ownBlock=some g→S≤g
def RetPk (l:List RawI) (w:World) (e:Ending) (w':World):Prop:=Kept w w'∧∃ v,e=.returned v∧PkV l w.heap.size v w'
theorem IvS.kbF {w w':World}{X:List Nat}{v:Value}{l:List RawI}(h:IvS w v l)(k:KB w X w')(hf:∀ g,v.ownBlock=some g→g∉X):IvS w' v l:=by
 obtain ⟨A,c,rfl,hc,hA⟩:=h
 refine ⟨A,c,rfl,hc,fun h0=>?_⟩
 obtain ⟨b,off,rfl,hd⟩:=hA h0
 exact ⟨b,off,rfl,fun i a hi=>(hd i a hi).kb k (hf b rfl)⟩
theorem PkV.kb {l:List RawI}{S b:Nat}{v:Value}{w w':World}(h:PkV l S v w)(k:KB w [b] w')(hb:b<S):PkV l S v w':=by
 obtain ⟨r,h1,h2,h3⟩:=h
 exact ⟨r,h1.kbF k (fun g hg=>by have:=h3 g hg;simp;omega),h2,h3⟩
theorem PkV.kept {l:List RawI}{S:Nat}{v:Value}{w w':World}(h:PkV l S v w)(k:Kept w w'):PkV l S v w':=by
 obtain ⟨r,h1,h2,h3⟩:=h
 exact ⟨r,h1.kept k,h2,h3⟩
theorem RetPk.good {l:List RawI}{S:Nat}{w:World}{e:Ending}{w':World}(h:RetPk l w e w')(hS:S≤w.heap.size):GoodEnd (fun u w=>PkV l S u w) w e w':=by
 obtain ⟨k,v,e,r,h1,h2,h3⟩:=h
 exact ⟨v,e,k,r,h1,h2,fun g hg=>Nat.le_trans hS (h3 g hg)⟩
def PkJ (b S:Nat) (y0 y1 y2 y3 y4 y5:Value) (lx lu lp:List RawI) (a6 a7 a8:Bool) (w:World):Prop:=∃ s6 s7 s8,w.heap[b]?=some (.cells #[y0,y1,y2,y3,y4,y5,s6,s7,s8] 33 (0,0)) ∧
 (NoLimb s6∧NoLimb s7∧NoLimb s8)∧(a6=true→PkV lx S s6 w)∧(a7=true→PkV lu S s7 w)∧(a8=true→PkV lp S s8 w)
section
variable {b S:Nat} {y0 y1 y2 y3 y4 y5:Value} {lx lu lp:List RawI} {a6 a7 a8:Bool} {w w':World}
theorem PkJ.kept (q:Kept w w')(h:PkJ b S y0 y1 y2 y3 y4 y5 lx lu lp a6 a7 a8 w):PkJ b S y0 y1 y2 y3 y4 y5 lx lu lp a6 a7 a8 w':=by
 obtain ⟨s6,s7,s8,h0,hn,h6,h7,h8⟩:=h
 exact ⟨s6,s7,s8,blk_kept h0 q,hn,fun h=>(h6 h).kept q,fun h=>(h7 h).kept q,fun h=>(h8 h).kept q⟩
theorem PkV.nl {l:List RawI}{v:Value}(h:PkV l S v w):NoLimb v:=by
 obtain ⟨r,⟨A,c,rfl,-⟩,-⟩:=h
 exact noLimb_slice _ _ _
theorem PkJ.st6 (h:PkJ b S y0 y1 y2 y3 y4 y5 lx lu lp a6 a7 a8 w){v:Value}(hv:PkV lx S v w)(hb:b<S):PkJ b S y0 y1 y2 y3 y4 y5 lx lu lp true a7 a8 (w.setCell ⟨b,6,none⟩ v)∧KB w [b] (w.setCell ⟨b,6,none⟩ v):=by
 obtain ⟨s6,s7,s8,h0,⟨n6,n7,n8⟩,h6,h7,h8⟩:=h
 have k:KB w [b] (w.setCell ⟨b,6,none⟩ v):=(KB.refl w [b]).setCell (by simp) (cell_of_block h0 6 _ rfl) n6 v
 have e:=block_setCell (i:=6) h0 v
 exact ⟨⟨v,s7,s8,by simpa using e,⟨hv.nl,n7,n8⟩,fun _=>hv.kb k hb,fun h=>(h7 h).kb k hb,fun h=>(h8 h).kb k hb⟩,k⟩
theorem PkJ.st7 (h:PkJ b S y0 y1 y2 y3 y4 y5 lx lu lp a6 a7 a8 w){v:Value}(hv:PkV lu S v w)(hb:b<S):PkJ b S y0 y1 y2 y3 y4 y5 lx lu lp a6 true a8 (w.setCell ⟨b,7,none⟩ v)∧KB w [b] (w.setCell ⟨b,7,none⟩ v):=by
 obtain ⟨s6,s7,s8,h0,⟨n6,n7,n8⟩,h6,h7,h8⟩:=h
 have k:KB w [b] (w.setCell ⟨b,7,none⟩ v):=(KB.refl w [b]).setCell (by simp) (cell_of_block h0 7 _ rfl) n7 v
 have e:=block_setCell (i:=7) h0 v
 exact ⟨⟨s6,v,s8,by simpa using e,⟨n6,hv.nl,n8⟩,fun h=>(h6 h).kb k hb,fun _=>hv.kb k hb,fun h=>(h8 h).kb k hb⟩,k⟩
theorem PkJ.st8 (h:PkJ b S y0 y1 y2 y3 y4 y5 lx lu lp a6 a7 a8 w){v:Value}(hv:PkV lp S v w)(hb:b<S):PkJ b S y0 y1 y2 y3 y4 y5 lx lu lp a6 a7 true (w.setCell ⟨b,8,none⟩ v)∧KB w [b] (w.setCell ⟨b,8,none⟩ v):=by
 obtain ⟨s6,s7,s8,h0,⟨n6,n7,n8⟩,h6,h7,h8⟩:=h
 have k:KB w [b] (w.setCell ⟨b,8,none⟩ v):=(KB.refl w [b]).setCell (by simp) (cell_of_block h0 8 _ rfl) n8 v
 have e:=block_setCell (i:=8) h0 v
 exact ⟨⟨s6,s7,v,by simpa using e,⟨n6,n7,hv.nl⟩,fun h=>(h6 h).kb k hb,fun h=>(h7 h).kb k hb,fun _=>hv.kb k hb⟩,k⟩
theorem PkJ.cells (h:PkJ b S y0 y1 y2 y3 y4 y5 lx lu lp a6 a7 a8 w):∃ s6 s7 s8,w.cell? ⟨b,6,none⟩=some s6∧w.cell? ⟨b,7,none⟩=some s7∧w.cell? ⟨b,8,none⟩=some s8∧w.frozen? ⟨b,6,none⟩=false∧w.frozen? ⟨b,7,none⟩=false∧w.frozen? ⟨b,8,none⟩=false:=by
 obtain ⟨s6,s7,s8,h0,-⟩:=h
 exact ⟨s6,s7,s8,cell_of_block h0 6 _ rfl,cell_of_block h0 7 _ rfl,cell_of_block h0 8 _ rfl,free_of_block h0 6,free_of_block h0 7,free_of_block h0 8⟩
end
theorem pick_c {w:World}{v:Value}{l:List RawI}{k:Int}(hv:IvS w v l)(hn:l.length≤8):Calls Tryz.prog 15 #[v,.int .u64 k] w (RetPk l w):=by
 obtain ⟨A,c,rfl,hc,hA⟩:=hv
 have HA:=hid hA
 clear hA
 obtain ⟨n,hn'⟩:∃ n,n=l.length:=⟨_,rfl⟩
 rw [←hn'] at hn hc HA ⊢
 have HN:=hid hn'
 clear hn'
 go_enter Tryz.func15,Tryz.ntmps15
 go_wp2_with fail
 go_loopw [5,6] (fun u t wr=>∃ (i:Nat) (r:List RawI) (xs:List Value),i≤n∧t=.int .i64 i∧OwnI wr w.heap.size u r xs∧PickR (l.take i) r∧Kept w wr) (fun _ t _=>(n-intOf t).toNat)
 case atStart=>exact ⟨0,[],[],Nat.zero_le _,rfl,OwnI.nil _ _,⟨rfl,fun i a h=>by simp at h⟩,Below.refl _ _⟩
 case round =>
  obtain ⟨i,r,xs,hi,rfl,hown,hpk,hKr⟩:=hrel
  have KR:=hid hKr
  have OW:=hid hown
  have PK:=hid hpk
  clear hKr hown hpk
  by_cases hlt:i<n
  ·obtain ⟨b, off, rfl, hd⟩ := HA.out (by omega)
   obtain ⟨a,ha⟩:∃ a,l[i]?=some a:=⟨_,List.getElem?_eq_getElem (by have:=HN.out;omega)⟩
   obtain ⟨y0,y1,y2,y3,y4,y5,g0,g1,g2,g3,g4,g5,hI⟩:=(hd i a ha).kept KR.out
   obtain ⟨A1,l1,q1,A2,l2,q2,ei,d1,d2⟩:=ivR_split hI
   injection ei with ei;injection ei with ei
   simp only [List.cons.injEq,and_true] at ei
   obtain ⟨rfl,rfl,rfl,rfl,rfl,rfl⟩:=ei
   clear hI hd
   have HX:=hid ha
   have lrow:r.length≤1000:=by have:=PK.out.1;rw [this,List.length_take];omega
   have CE:Hid (Cells6 wr b (off+i*6) (.bool a.lo.neg) (.slice A1 l1 q1) (.int .i64 a.lo.e) (.bool a.hi.neg) (.slice A2 l2 q2) (.int .i64 a.hi.e)):=hid ⟨g0,g1,g2,g3,g4,g5⟩
   obtain ⟨Y,hY,kY,hy,lY⟩:=boxF wr (.bool a.lo.neg) (.slice A1 l1 q1) (.int .i64 a.lo.e)
   have HY:=hid hY
   have D1:=hid d1
   have D2:=hid d2
   clear ha hY d1 d2
   go_upto_region 6 with fail
   rw [←HY.out]
   obtain ⟨f0,f1,f2,f3,f4,f5⟩:=CE.out.kept kY
   clear g0 g1 g2 g3 g4 g5
   obtain ⟨-,h0,h1,h2,-⟩:=hy.facts
   have HYb:=hid hy
   obtain ⟨tb,htb⟩:∃ b,(bits BinOp.and IntKind.u64 (k/2^min (IntKind.u64.wrap (bits BinOp.and IntKind.i64 (i:Int) 7)).toNat 64) 1==1)=b:=⟨_,rfl⟩
   cases tb
   ·have KZ := hid kY
    have IA:Hid (IvR Y (.agg #[.bool a.lo.neg,.slice A1 l1 q1,.int .i64 a.lo.e,.bool a.lo.neg,.slice A1 l1 q1,.int .i64 a.lo.e]) ⟨a.lo,a.lo⟩):=hid ⟨_,_,_,_,_,_,rfl,D1.out.kept kY,D1.out.kept kY⟩
    have lbase:w.heap.size≤Y.heap.size:=Nat.le_trans KR.out.size kY.size
    clear hy kY
    go_wp2_with (at_builtin;refine wpList_append_iv rfl (.tmp 31) (.tmp 35) rfl rfl (OW.out.kept (KZ.out.trans (kept_alloc _ _))) (IA.out.kept (kept_alloc _ _)) (blkI_new _ _ _ _ _ _ _) rfl lrow (Nat.le_trans lbase (by simp)) ?_;intro v' X' OX' gX')
    have K':=hid (OwnI.grown_kept (OW.out.kept (KZ.out.trans (kept_alloc _ _))) (KR.out.trans (KZ.out.trans (kept_alloc _ _))) gX')
    have OX:=hid OX'
    clear h0 h1 h2 f0 f1 f2 f3 f4 f5 gX' OX'
    go_roundw
    case rel=>exact ⟨i+1,_,_,by omega,by go_num,OX.out,pickR_step PK.out HX.out (.inl rfl),K'.out⟩
    case measure=>simp only [intOf];omega
   ·go_upto_region 7 with fail
    obtain ⟨-,-,-,-,e0,e1,e2⟩:=hy.facts
    go_upto_region 8 with fail
    change Code.wp _ _ _ _ (dyW Y wr.heap.size _ _ _)
    have KZ:=hid (dyW_kept (x:=.bool a.hi.neg) (y:=.slice A2 l2 q2) (z:=.int .i64 a.hi.e) kY (Nat.le_refl _))
    have HZ:=hid (hy.laid (.bool a.hi.neg) (.slice A2 l2 q2) (.int .i64 a.hi.e))
    clear h0 h1 h2 f0 f1 f2 f3 f4 f5 e0 e1 e2 htb hy kY HYb HY
    generalize dyW Y wr.heap.size (.bool a.hi.neg) (.slice A2 l2 q2) (.int .i64 a.hi.e)=Z at *
    obtain ⟨-,h0,h1,h2,-⟩:=HZ.out.facts
    have IA:Hid (IvR Z (.agg #[.bool a.hi.neg,.slice A2 l2 q2,.int .i64 a.hi.e,.bool a.hi.neg,.slice A2 l2 q2,.int .i64 a.hi.e]) ⟨a.hi,a.hi⟩):=hid ⟨_,_,_,_,_,_,rfl,D2.out.kept KZ.out,D2.out.kept KZ.out⟩
    have lbase:w.heap.size≤Z.heap.size:=Nat.le_trans KR.out.size KZ.out.size
    go_wp2_with (at_builtin;refine wpList_append_iv rfl (.tmp 31) (.tmp 35) rfl rfl (OW.out.kept (KZ.out.trans (kept_alloc _ _))) (IA.out.kept (kept_alloc _ _)) (blkI_new _ _ _ _ _ _ _) rfl lrow (Nat.le_trans lbase (by simp)) ?_;intro v' X' OX' gX')
    have K':=hid (OwnI.grown_kept (OW.out.kept (KZ.out.trans (kept_alloc _ _))) (KR.out.trans (KZ.out.trans (kept_alloc _ _))) gX')
    have OX:=hid OX'
    clear h0 h1 h2 gX' OX'
    go_roundw
    case rel=>exact ⟨i+1,_,_,by omega,by go_num,OX.out,pickR_step PK.out HX.out (.inr rfl),K'.out⟩
    case measure=>simp only [intOf];omega
  ·obtain rfl : n = i := by omega
   go_wp2_with fail
   have h:=OW.out.ivS
   obtain ⟨A9,c9,rfl,-,-⟩:=OW.out.ivS
   go_ret
   have hp:=PK.out
   rw [List.take_of_length_le (by have:=HN.out;omega)] at hp
   exact ⟨KR.out,_,rfl,r,h,hp,OW.out.base⟩
theorem pick_facts {l r:List RawI}(h:PickR l r)(hc:Cl l):LW r l∧Cl r∧r.all mayI=true:=by
 obtain ⟨h1,h2⟩:=h
 have key:∀ (i:Nat) b,r[i]?=some b→∃ a,l[i]?=some a∧(b=⟨a.lo,a.lo⟩∨b=⟨a.hi,a.hi⟩):=fun i b hb=>by
  have hi:=(List.getElem?_eq_some_iff.1 hb).1
  obtain ⟨a,ha⟩:∃ a,l[i]?=some a:=⟨_,List.getElem?_eq_getElem (by omega)⟩
  refine ⟨a,ha,?_⟩
  rcases h2 i a ha with h | h<;>rw [hb] at h<;>cases h
  ·exact .inl rfl
  ·exact .inr rfl
 have cl1:∀ a∈l,∀ b,(b=(⟨a.lo,a.lo⟩:RawI)∨b=⟨a.hi,a.hi⟩)→b.iv.Ok∧b.iv.raw=b∧Wth b.iv a.iv:=fun a ha b hb=>by
  obtain ⟨⟨o1,o2,o3⟩,o4⟩:=hc a ha
  have e1:a.lo.dy.raw=a.lo:=congrArg RawI.lo o4
  have e2:a.hi.dy.raw=a.hi:=congrArg RawI.hi o4
  rcases hb with rfl | rfl
  ·exact ⟨⟨o1,o1,Rat.le_refl⟩,by show RawI.mk a.lo.dy.raw a.lo.dy.raw=_;rw [e1],Rat.le_refl,o3⟩
  ·exact ⟨⟨o2,o2,Rat.le_refl⟩,by show RawI.mk a.hi.dy.raw a.hi.dy.raw=_;rw [e2],o3,Rat.le_refl⟩
 have hcl:Cl r:=fun b hb=>by
  obtain ⟨i,hi⟩:=List.getElem?_of_mem hb
  obtain ⟨a,ha,hab⟩:=key i b hi
  obtain ⟨c1,c2,-⟩:=cl1 a (List.mem_of_getElem? ha) b hab
  exact ⟨c1,c2⟩
 refine ⟨⟨h1,fun n=>?_⟩,hcl,List.all_eq_true.2 fun b hb=>?_⟩
 ·unfold atI
  rw [List.getD_eq_getElem?_getD,List.getD_eq_getElem?_getD]
  cases hr:r[n.toNat]? with
  | none =>
    rw [List.getElem?_eq_none (by have:=List.getElem?_eq_none_iff.1 hr;omega)]
    exact Wth.refl _
  | some b =>
    obtain ⟨a,ha,hab⟩:=key _ b hr
    rw [ha]
    exact (cl1 a (List.mem_of_getElem? ha) b hab).2.2
 ·obtain ⟨c1, c2⟩ := hcl b hb
  rw [←c2]
  exact mayI_raw c1
theorem corner_law {ls:List Ln}{outs:List Int}{e e':En}{n:Nat}(h:(tapeI ovI ls outs e n).k=0)(he:e.Cl)(he':e'.Cl)(hm:mayE e'=true)(hw:EnW e' e)(hk:∀ l∈ls,l.op=1→l.k.iv.Ok) :
 Lmb (tapeI ovI ls outs e' n).k∧((tapeI ovI ls outs e' n).k=0→LW (tapeI ovI ls outs e' n).v (tapeI ovI ls outs e n).v∧Cl (tapeI ovI ls outs e' n).v):=by
 obtain ⟨h1,h2,h3⟩:=tapeI_good h
 have e1:tapeI ovI ls outs e' n=linesI ovI e' n [] ls:=by
  unfold tapeI
  rw [if_pos ⟨h1.1,h1.2.1,by rw [hw.x.1,hw.u.1,hw.p.1];exact h1.2.2.1,hm⟩]
  rfl
 rw [e1,h3]
 rw [h3] at h
 obtain ⟨a,b⟩:=lines_win he' he hw (n:=n) (m:=n) (by omega) (Nat.le_refl _) (by omega) ls [] [] hk (fun a ha=>by cases ha) (fun a ha=>by cases ha) (LW.refl _) h
 exact ⟨a,fun h0=>⟨(b h0).1,(b h0).2.1⟩⟩
theorem env_set6 {w:World}{b:Nat}{n n':Bool}{A A':Option Addr}{l c l' c':Nat}{f f':Int}{s6 s7 s8:Value}{T:TypeId}(h:w.heap[b]?=some (.cells #[.bool n,.slice A l c,.int .i64 f,.bool n',.slice A' l' c',.int .i64 f',s6,s7,s8] T (0,0)))(z0 z1 z2 z3 z4 z5:Value) :
 ((((((w.setCell ⟨b,0,none⟩ z0).setCell ⟨b,1,none⟩ z1).setCell ⟨b,2,none⟩ z2).setCell ⟨b,3,none⟩ z3).setCell ⟨b,4,none⟩ z4).setCell ⟨b,5,none⟩ z5).heap[b]?=some (.cells #[z0,z1,z2,z3,z4,z5,s6,s7,s8] T (0,0)) ∧
 KB w [b] ((((((w.setCell ⟨b,0,none⟩ z0).setCell ⟨b,1,none⟩ z1).setCell ⟨b,2,none⟩ z2).setCell ⟨b,3,none⟩ z3).setCell ⟨b,4,none⟩ z4).setCell ⟨b,5,none⟩ z5):=by
 have e0:=block_setCell (i:=0) h z0
 have k0:KB w [b] _:=(KB.refl w [b]).setCell (by simp) (cell_of_block h 0 _ rfl) (noLimb_bool _) z0
 simp only [List.setIfInBounds_toArray,List.set_cons_zero] at e0
 have e1:=block_setCell (i:=1) e0 z1
 have k1:=k0.setCell (by simp) (cell_of_block e0 1 _ rfl) (noLimb_slice _ _ _) z1
 simp only [List.setIfInBounds_toArray,List.set_cons_zero,List.set_cons_succ] at e1
 have e2:=block_setCell (i:=2) e1 z2
 have k2:=k1.setCell (by simp) (cell_of_block e1 2 _ rfl) (noLimb_i64 _) z2
 simp only [List.setIfInBounds_toArray,List.set_cons_zero,List.set_cons_succ] at e2
 have e3:=block_setCell (i:=3) e2 z3
 have k3:=k2.setCell (by simp) (cell_of_block e2 3 _ rfl) (noLimb_bool _) z3
 simp only [List.setIfInBounds_toArray,List.set_cons_zero,List.set_cons_succ] at e3
 have e4:=block_setCell (i:=4) e3 z4
 have k4:=k3.setCell (by simp) (cell_of_block e3 4 _ rfl) (noLimb_slice _ _ _) z4
 simp only [List.setIfInBounds_toArray,List.set_cons_zero,List.set_cons_succ] at e4
 have e5:=block_setCell (i:=5) e4 z5
 have k5:=k4.setCell (by simp) (cell_of_block e4 5 _ rfl) (noLimb_i64 _) z5
 simp only [List.setIfInBounds_toArray,List.set_cons_zero,List.set_cons_succ] at e5
 exact ⟨e5,k5⟩
theorem IvS.kbOld {w0 w w':World}{X:List Nat}{v:Value}{l:List RawI}(h:IvS w0 v l)(k0:Kept w0 w)(k:KB w X w')(hX:∀ x∈X,w0.heap.size≤x):IvS w' v l :=
 h.kept (KB.kept k0 k hX)
theorem pick_one {t:RawI}{r:List RawI}(h:PickR [t] r):∃ x,r=[x]∧(x=⟨t.lo,t.lo⟩∨x=⟨t.hi,t.hi⟩):=by
 obtain ⟨h1,h2⟩:=h
 obtain ⟨x,rfl⟩:∃ x,r=[x]:=List.length_eq_one_iff.1 h1
 refine ⟨x,rfl,?_⟩
 rcases h2 0 t rfl with h | h<;>cases h
 ·exact .inl rfl
 ·exact .inr rfl
theorem holds_c {w:World}{vt ve:Value}{ls:List Ln}{outs:List Int}{e:En}{corner p:Int}(hv:TpR w vt ls outs)(he:EnR w ve e)(hok:LnOk ls)(hn:ls.length≤1000000000000000)(hno:outs.length≤1000000000000000)(hle:EnBig e)(hT:Tab w) :
 Calls Tryz.prog 10 #[vt,ve,.int .i64 corner,.int .i64 p] w (RetK (.bool true) w):=by
 have T:=hid hT
 have HTP:=hid hv
 have HEN:=hid he
 have OK:=hid hok
 have FC:=hid (fun w1 (k:Kept w w1)=>few_c (hv.kept k) hn hno hok)
 have EC:=hid (fun w1 (k:Kept w w1)=>envF_c (he.kept k) hle)
 obtain ⟨s,o,rfl,hls,hou⟩:=hv
 obtain ⟨x0,x1,x2,x3,x4,x5,sx,su,sp,rfl,ht,hx,hu,hp⟩:=he
 have HX:=hid hx
 have HU:=hid hu
 have HP:=hid hp
 have HTT:=hid ht
 have FI:=hid (fun w1 (k:Kept w w1)=>fewI_c (ht.kept k) hle.1)
 obtain ⟨TA,Tl,Tc,TA',Tl',Tc',ei,-,-⟩:=ivR_split ht
 injection ei with ei;injection ei with ei
 simp only [List.cons.injEq,and_true] at ei
 obtain ⟨rfl,rfl,rfl,rfl,rfl,rfl⟩:=ei
 obtain ⟨A,c,rfl,hc,-⟩:=hls
 obtain ⟨B,d,rfl,hd,-⟩:=hou
 obtain ⟨AX,cx,rfl,-,-⟩:=hx
 obtain ⟨AU,cu,rfl,-,-⟩:=hu
 obtain ⟨AP,cp,rfl,-,-⟩:=hp
 obtain ⟨W,hW,kW,hb,hb',lW⟩:=box2te w (.slice A ls.length c) (.slice B outs.length d) (.bool e.t.lo.neg) (.slice TA Tl Tc) (.int .i64 e.t.lo.e) (.bool e.t.hi.neg) (.slice TA' Tl' Tc') (.int .i64 e.t.hi.e) (.slice AX e.x.length cx) (.slice AU e.u.length cu) (.slice AP e.p.length cp)
 have HW:=hid hW
 have K:=hid kW
 have HB:=hid hb
 have HB':=hid hb'
 obtain ⟨c0,c1⟩:=cells2 hb
 obtain ⟨bf,hbf⟩:∃ b,fewT ls outs=b:=⟨_,rfl⟩
 rw [hbf] at FC
 obtain ⟨be,hbe⟩:∃ b,fewE e=b:=⟨_,rfl⟩
 rw [hbe] at EC
 have HBF:=hid hbf
 have HBE:=hid hbe
 clear hT hok hn hno hle ht hW kW hb hb' hbf hbe
 go_enter Tryz.func10,Tryz.ntmps10
 go_upto_region 1 with fail
 rw [←HW.out]
 go_wp2_with fail
 refine (FC.out _ K.out).mono ?_
 rintro ee w1 ⟨rfl,q⟩
 simp only []
 replace K:=hid (K.out.trans q)
 replace HB:=hid (blk_kept HB.out q)
 replace HB':=hid (blk_kept HB'.out q)
 clear q c0 c1 HW FC
 obtain ⟨d0,d1,d2,d3,d4,d5,d6,d7,d8⟩:=ln_cells HB'.out
 cases bf
 ·go_wp2_with fail
  refine (told8_c (T.out.kept K.out) opsA trivial).mono ?_
  rintro ee w2 ⟨rfl,q⟩
  simp only []
  go_wp2_with fail
  go_ret
  exact ⟨rfl,K.out.trans q⟩
 go_wp2_with fail
 refine (EC.out _ K.out).mono ?_
 rintro ee w2 ⟨rfl,q⟩
 simp only []
 replace K:=hid (K.out.trans q)
 replace HB:=hid (blk_kept HB.out q)
 replace HB':=hid (blk_kept HB'.out q)
 clear q d0 d1 d2 d3 d4 d5 d6 d7 d8 EC
 cases be
 ·go_wp2_with fail
  refine (told8_c (T.out.kept K.out) opsA trivial).mono ?_
  rintro ee w3 ⟨rfl,q⟩
  simp only []
  go_wp2_with fail
  go_ret
  exact ⟨rfl,K.out.trans q⟩
 obtain ⟨l40,o12,lk⟩:=fewT_facts HBF.out
 obtain ⟨le,lx8,lu8,lp8,lt6,lx6,lu6,lp6⟩:=fewE_lens HBE.out
 have LE:=hid le
 have L6:=hid (And.intro lt6 (And.intro lx6 (And.intro lu6 lp6)))
 obtain ⟨n,hnb,n1,n2⟩:=nb_ofT p 8 73 (by decide) (by decide)
 have hnb':wrap64 (8+wrap64 ((IntKind.u64.wrap p).tmod 73))=(n:Int):=hnb
 have VC:=hid (fun w1 (k:Kept w w1)=>eval_c (ov:=ovI) (p:=(n:Int)) (HTP.out.kept k) (HEN.out.kept k) OK.out LE.out (by omega) (by omega) (T.out.kept k) (fun _ _ _=>over_ov) opsA (fun _ _ _ _=>trivial))
 obtain ⟨G,hG⟩:∃ G,tapeI ovI ls outs e n=G:=⟨_,rfl⟩
 have HG:=hid hG
 obtain ⟨E,hE⟩:∃ E,evalI ovI ls outs e n=E:=⟨_,rfl⟩
 have HEV:=hid hE
 rw [hE] at VC
 clear hnb hG hE le lt6 lx6 lu6 lp6 lk
 obtain ⟨c0,c1⟩:=cells2 HB.out
 obtain ⟨d0,d1,d2,d3,d4,d5,d6,d7,d8⟩:=ln_cells HB'.out
 go_upto_region 4 with fail
 simp only [hnb']
 clear hnb'
 go_wp2_with fail
 refine (VC.out _ K.out).mono ?_
 rintro ee w3 ⟨q,v3,rfl,h3⟩
 simp only []
 replace K:=hid (K.out.trans q)
 replace HB:=hid (blk_kept HB.out q)
 replace HB':=hid (blk_kept HB'.out q)
 have H3:=hid h3
 obtain ⟨A3,c3,rfl,hc3,-⟩:=h3
 clear q c0 c1 d0 d1 d2 d3 d4 d5 d6 d7 d8 VC
 by_cases hk:E.k=0
 ·have gk : (E.k != 0) = false := by simp [hk]
  have hk2:G.k=0:=by rw [←HG.out,←evalI_k,HEV.out];exact hk
  have HK:=hid hk2
  have hev:=evalI_good (by rw [HG.out];exact HK.out)
  rw [HG.out,HEV.out] at hev
  have HEE:=hid hev
  clear hk hk2 hev
  obtain ⟨d0,d1,d2,d3,d4,d5,d6,d7,d8⟩:=ln_cells HB'.out
  obtain ⟨Y,hY,kY,hy,lY⟩:=boxEn w3 (.bool e.t.lo.neg) (.slice TA Tl Tc) (.int .i64 e.t.lo.e) (.bool e.t.hi.neg) (.slice TA' Tl' Tc') (.int .i64 e.t.hi.e) (.slice AX e.x.length cx) (.slice AU e.u.length cu) (.slice AP e.p.length cp)
  have HY:=hid hY
  have KY:=hid kY
  have HYB:=hid hy
  clear hY kY hy
  go_upto_region 9 with fail
  rw [←HY.out]
  clear gk d0 d1 d2 d3 d4 d5 d6 d7 d8 HY
  have HQB:=hid HB'.out
  replace HB:=hid (blk_kept HB.out KY.out)
  replace HB':=hid (blk_kept HB'.out KY.out)
  have lb3:w.heap.size≤w3.heap.size:=K.out.size
  replace K:=hid (K.out.trans KY.out)
  have NB:w3.heap.size<Y.heap.size:=lY
  have lbw:∀ x∈[w3.heap.size],w.heap.size≤x:=by simp;omega
  have J0:=hid (show PkJ w3.heap.size Y.heap.size (.bool e.t.lo.neg) (.slice TA Tl Tc) (.int .i64 e.t.lo.e) (.bool e.t.hi.neg) (.slice TA' Tl' Tc') (.int .i64 e.t.hi.e) e.x e.u e.p false false false Y from
   ⟨_,_,_,HYB.out,⟨noLimb_slice _ _ _,noLimb_slice _ _ _,noLimb_slice _ _ _⟩,fun h=>(by cases h),fun h=>(by cases h),fun h=>(by cases h)⟩)
  have NE:w.heap.size+1∉[w3.heap.size]:=by
   have h1:=(Array.getElem?_eq_some_iff.1 HQB.out).1
   simp
   omega
  have NBT:w.heap.size∉[w3.heap.size]:=by
   have h1:=(Array.getElem?_eq_some_iff.1 HQB.out).1
   simp
   omega
  have LB3:=hid (fun w1 (k:KB Y [w3.heap.size] w1)=>H3.out.kbOld KY.out k (by simp))
  have LBW:=hid lbw
  have LYY:=hid (Nat.le_refl Y.heap.size)
  clear lY lbw HYB
  generalize w3.heap.size=by' at *
  generalize hqb:w.heap.size+1=be at *
  generalize hys:Y.heap.size=SY at *
  have HYS:=hid hys
  clear hys
  refine region_linX (m:=20) (J:=fun L w=>KB Y [by'] w∧(fun L w=>PkJ by' SY (.bool e.t.lo.neg) (.slice TA Tl Tc) (.int .i64 e.t.lo.e) (.bool e.t.hi.neg) (.slice TA' Tl' Tc') (.int .i64 e.t.hi.e) e.x e.u e.p (L 15) (L 17) (L 19) w) L w) (l:=[(vP be 6),(vE (.slice AX e.x.length cx)),(vE (.int .u64 (IntKind.u64.wrap corner))),(fun v wv=>PkV e.x SY v wv),(vP be 7),(vE (.slice AU e.u.length cu)),(vE (.int .u64 (IntKind.u64.wrap corner))),(vE (.int .u64 (IntKind.u64.wrap corner/256))),(fun v wv=>PkV e.u SY v wv),(vP be 8),(vE (.slice AP e.p.length cp)),(vE (.int .u64 (IntKind.u64.wrap corner))),(vE (.int .u64 (IntKind.u64.wrap corner/65536))),(fun v wv=>PkV e.p SY v wv),(vP by' 6),(fun v _=>True),(vP by' 7),(fun v _=>True),(vP by' 8),(fun v _=>True)])
   (by kernel_rfl) rfl (by kernel_rfl) (by kernel_rfl) (by kernel_rfl) ⟨mE,mE,mE,fun v w w' k h=>PkV.kept h k,mE,mE,mE,mE,fun v w w' k h=>PkV.kept h k,mE,mE,mE,mE,fun v w w' k h=>PkV.kept h k,mE,fun v w w' k h=>by first | exact h | exact h.kept k | exact ⟨h.1,h.2.kept k⟩,mE,fun v w w' k h=>by first | exact h | exact h.kept k | exact ⟨h.1,h.2.kept k⟩,mE,fun v w w' k h=>by first | exact h | exact h.kept k | exact ⟨h.1,h.2.kept k⟩,trivial⟩ ⟨(KB.refl _ _).drew,(by exact PkJ.kept (Below.refl _ _).drew J0.out)⟩ (⟨
     (fun LF aF wF F=>by have FK:KB Y [by'] wF:=F.frame.1;have fj:=F.frame.2;refine .inl ⟨fun wq kq=>⟨FK.step kq,by exact PkJ.kept kq fj⟩,?_⟩;have s5:aF.tmps.getD 5 undef=(.pointer (some ⟨be,0,none⟩)):=F.o 5;exact sv rfl),(fun LF aF wF F=>by have FK:KB Y [by'] wF:=F.frame.1;have fj:=F.frame.2;refine .inl ⟨fun wq kq=>⟨FK.step kq,by exact PkJ.kept kq fj⟩,?_⟩;have s44:=F.v 0 44;have c0:=cell_atX HB'.out FK NE 6 _ rfl;exact sv rfl),(fun LF aF wF F=>by have FK:KB Y [by'] wF:=F.frame.1;have fj:=F.frame.2;refine .inl ⟨fun wq kq=>⟨FK.step kq,by exact PkJ.kept kq fj⟩,?_⟩;have s12:aF.tmps.getD 12 undef=(.int .u64 (IntKind.u64.wrap corner)):=F.o 12;exact sv rfl),(fun LF aF wF F=>by have FK:KB Y [by'] wF:=F.frame.1;have fj:=F.frame.2;refine .inl ⟨fun wq kq=>⟨FK.step kq,by exact PkJ.kept kq fj⟩,?_⟩;have s45:=F.v 1 45;have s46:=F.v 2 46;exact step_good (by simp [Region.wanted]) (by go_simp) (pick_c (k:=IntKind.u64.wrap corner) (HX.out.kept (KB.kept K.out FK LBW.out)) lx8) (fun _ _ h=>RetPk.good h (by rw [←HYS.out];exact FK.size)) (fun _ _ h=>h)),(fun LF aF wF F=>by have FK:KB Y [by'] wF:=F.frame.1;have fj:=F.frame.2;refine .inl ⟨fun wq kq=>⟨FK.step kq,by exact PkJ.kept kq fj⟩,?_⟩;have s5:aF.tmps.getD 5 undef=(.pointer (some ⟨be,0,none⟩)):=F.o 5;exact sv rfl),(fun LF aF wF F=>by have FK:KB Y [by'] wF:=F.frame.1;have fj:=F.frame.2;refine .inl ⟨fun wq kq=>⟨FK.step kq,by exact PkJ.kept kq fj⟩,?_⟩;have s48:=F.v 4 48;have c0:=cell_atX HB'.out FK NE 7 _ rfl;exact sv rfl),(fun LF aF wF F=>by have FK:KB Y [by'] wF:=F.frame.1;have fj:=F.frame.2;refine .inl ⟨fun wq kq=>⟨FK.step kq,by exact PkJ.kept kq fj⟩,?_⟩;have s12:aF.tmps.getD 12 undef=(.int .u64 (IntKind.u64.wrap corner)):=F.o 12;exact sv rfl),(fun LF aF wF F=>by have FK:KB Y [by'] wF:=F.frame.1;have fj:=F.frame.2;refine .inl ⟨fun wq kq=>⟨FK.step kq,by exact PkJ.kept kq fj⟩,?_⟩;have s50:=F.v 6 50;exact sw (by (first | (go_simp;done) | (go_simp;rfl))) rfl),(fun LF aF wF F=>by have FK:KB Y [by'] wF:=F.frame.1;have fj:=F.frame.2;refine .inl ⟨fun wq kq=>⟨FK.step kq,by exact PkJ.kept kq fj⟩,?_⟩;have s49:=F.v 5 49;have s51:=F.v 7 51;exact step_good (by simp [Region.wanted]) (by go_simp) (pick_c (k:=IntKind.u64.wrap corner/256) (HU.out.kept (KB.kept K.out FK LBW.out)) lu8) (fun _ _ h=>RetPk.good h (by rw [←HYS.out];exact FK.size)) (fun _ _ h=>h)),(fun LF aF wF F=>by have FK:KB Y [by'] wF:=F.frame.1;have fj:=F.frame.2;refine .inl ⟨fun wq kq=>⟨FK.step kq,by exact PkJ.kept kq fj⟩,?_⟩;have s5:aF.tmps.getD 5 undef=(.pointer (some ⟨be,0,none⟩)):=F.o 5;exact sv rfl),(fun LF aF wF F=>by have FK:KB Y [by'] wF:=F.frame.1;have fj:=F.frame.2;refine .inl ⟨fun wq kq=>⟨FK.step kq,by exact PkJ.kept kq fj⟩,?_⟩;have s53:=F.v 9 53;have c0:=cell_atX HB'.out FK NE 8 _ rfl;exact sv rfl),(fun LF aF wF F=>by have FK:KB Y [by'] wF:=F.frame.1;have fj:=F.frame.2;refine .inl ⟨fun wq kq=>⟨FK.step kq,by exact PkJ.kept kq fj⟩,?_⟩;have s12:aF.tmps.getD 12 undef=(.int .u64 (IntKind.u64.wrap corner)):=F.o 12;exact sv rfl),(fun LF aF wF F=>by have FK:KB Y [by'] wF:=F.frame.1;have fj:=F.frame.2;refine .inl ⟨fun wq kq=>⟨FK.step kq,by exact PkJ.kept kq fj⟩,?_⟩;have s55:=F.v 11 55;exact sw (by (first | (go_simp;done) | (go_simp;rfl))) rfl),(fun LF aF wF F=>by have FK:KB Y [by'] wF:=F.frame.1;have fj:=F.frame.2;refine .inl ⟨fun wq kq=>⟨FK.step kq,by exact PkJ.kept kq fj⟩,?_⟩;have s54:=F.v 10 54;have s56:=F.v 12 56;exact step_good (by simp [Region.wanted]) (by go_simp) (pick_c (k:=IntKind.u64.wrap corner/65536) (HP.out.kept (KB.kept K.out FK LBW.out)) lp8) (fun _ _ h=>RetPk.good h (by rw [←HYS.out];exact FK.size)) (fun _ _ h=>h)),(fun LF aF wF F=>by have FK:KB Y [by'] wF:=F.frame.1;have fj:=F.frame.2;refine .inl ⟨fun wq kq=>⟨FK.step kq,by exact PkJ.kept kq fj⟩,?_⟩;have s13:aF.tmps.getD 13 undef=(.pointer (some ⟨by',0,none⟩)):=F.o 13;exact sv rfl),(fun LF aF wF F=>by have FK:KB Y [by'] wF:=F.frame.1;have fj:=F.frame.2;refine .inr ?_;have s47:=F.p 3 47;have s58:=F.v 14 58;obtain ⟨s6,s7,s8,c6,c7,c8,g6,g7,g8⟩:=PkJ.cells fj;have hs9:=s47;obtain ⟨r9,⟨A9,q9,e9,-⟩,-⟩:=s47;rw [e9] at hs9;simp only [Array.getD_eq_getD_getElem?] at e9;have hst:=PkJ.st6 fj hs9 NB;exact stepG_store (w':=wF.setCell ⟨by',6,none⟩ _) (by simp [Region.wanted]) (by go_simp) ⟨FK.trans hst.2 (by simp),hst.1⟩ (stab_of _ ⟨.inr vS,.inr vS,.inr vS,.inr (fun u h=>by exact PkV.kb h hst.2 NB),.inr vS,.inr vS,.inr vS,.inr vS,.inr (fun u h=>by exact PkV.kb h hst.2 NB),.inr vS,.inr vS,.inr vS,.inr vS,.inr (fun u h=>by exact PkV.kb h hst.2 NB),.inr vS,.inl rfl,.inr vS,.inr (fun u h=>h),.inr vS,.inr (fun u h=>h),trivial⟩) trivial),(fun LF aF wF F=>by have FK:KB Y [by'] wF:=F.frame.1;have fj:=F.frame.2;refine .inl ⟨fun wq kq=>⟨FK.step kq,by exact PkJ.kept kq fj⟩,?_⟩;have s13:aF.tmps.getD 13 undef=(.pointer (some ⟨by',0,none⟩)):=F.o 13;exact sv rfl),(fun LF aF wF F=>by have FK:KB Y [by'] wF:=F.frame.1;have fj:=F.frame.2;refine .inr ?_;have s52:=F.p 8 52;have s59:=F.v 16 59;obtain ⟨s6,s7,s8,c6,c7,c8,g6,g7,g8⟩:=PkJ.cells fj;have hs9:=s52;obtain ⟨r9,⟨A9,q9,e9,-⟩,-⟩:=s52;rw [e9] at hs9;simp only [Array.getD_eq_getD_getElem?] at e9;have hst:=PkJ.st7 fj hs9 NB;exact stepG_store (w':=wF.setCell ⟨by',7,none⟩ _) (by simp [Region.wanted]) (by go_simp) ⟨FK.trans hst.2 (by simp),hst.1⟩ (stab_of _ ⟨.inr vS,.inr vS,.inr vS,.inr (fun u h=>by exact PkV.kb h hst.2 NB),.inr vS,.inr vS,.inr vS,.inr vS,.inr (fun u h=>by exact PkV.kb h hst.2 NB),.inr vS,.inr vS,.inr vS,.inr vS,.inr (fun u h=>by exact PkV.kb h hst.2 NB),.inr vS,.inr (fun u h=>h),.inr vS,.inl rfl,.inr vS,.inr (fun u h=>h),trivial⟩) trivial),(fun LF aF wF F=>by have FK:KB Y [by'] wF:=F.frame.1;have fj:=F.frame.2;refine .inl ⟨fun wq kq=>⟨FK.step kq,by exact PkJ.kept kq fj⟩,?_⟩;have s13:aF.tmps.getD 13 undef=(.pointer (some ⟨by',0,none⟩)):=F.o 13;exact sv rfl),(fun LF aF wF F=>by have FK:KB Y [by'] wF:=F.frame.1;have fj:=F.frame.2;refine .inr ?_;have s57:=F.p 13 57;have s60:=F.v 18 60;obtain ⟨s6,s7,s8,c6,c7,c8,g6,g7,g8⟩:=PkJ.cells fj;have hs9:=s57;obtain ⟨r9,⟨A9,q9,e9,-⟩,-⟩:=s57;rw [e9] at hs9;simp only [Array.getD_eq_getD_getElem?] at e9;have hst:=PkJ.st8 fj hs9 NB;exact stepG_store (w':=wF.setCell ⟨by',8,none⟩ _) (by simp [Region.wanted]) (by go_simp) ⟨FK.trans hst.2 (by simp),hst.1⟩ (stab_of _ ⟨.inr vS,.inr vS,.inr vS,.inr (fun u h=>by exact PkV.kb h hst.2 NB),.inr vS,.inr vS,.inr vS,.inr vS,.inr (fun u h=>by exact PkV.kb h hst.2 NB),.inr vS,.inr vS,.inr vS,.inr vS,.inr (fun u h=>by exact PkV.kb h hst.2 NB),.inr vS,.inr (fun u h=>h),.inr vS,.inr (fun u h=>h),.inr vS,.inl rfl,trivial⟩) trivial),
     trivial⟩) ?_
  intro u w4 L1 hL j1 hu
  obtain ⟨q,j1⟩:=j1
  have p47:=hp hu 3
  have p52:=hp hu 8
  have p57:=hp hu 13
  simp only [puts,slotOf,if_true,Act.put,z1,z2,z3,z4,z5,z6,z7,hv hu 0,hv hu 1,hv hu 2,hv hu 4,hv hu 5,hv hu 6,hv hu 7,hv hu 9,hv hu 10,hv hu 11,hv hu 12,hv hu 14,hv hu 16,hv hu 18]
  clear hu
  generalize u 3=v47 at *
  generalize u 8=v52 at *
  generalize u 13=v57 at *
  clear p47 p52 p57
  obtain ⟨s6,s7,s8,hb9,-,h6,h7,h8⟩:=j1
  have P6:=hid (h6 (hL 15 (by decide)))
  have P7:=hid (h7 (hL 17 (by decide)))
  have P8:=hid (h8 (hL 19 (by decide)))
  have HB9:=hid hb9
  have q45:=fun {w1:World} (k:Kept w4 w1)=>q.step k
  have HB'4:=hid (q.blk HB'.out NE)
  have HB4:=hid (q.blk HB.out NBT)
  have H34:=hid (LB3.out _ q)
  have K4:=hid (KB.kept K.out q LBW.out)
  clear h6 h7 h8 hL hb9 q HB HB' H3 K J0
  have PT:=hid (fun w1 (k:Kept w4 w1) v (hv:IvS w1 v [e.t])=>pick_c (k:=IntKind.u64.wrap corner/16777216) hv (by simp))
  obtain ⟨d0,d1,d2,d3,d4,d5,d6,d7,d8⟩:=ln_cells HB'4.out
  go_wp2_with fail
  refine (PT.out _ (kept_alloc _ _) _ (ivs_new (HTT.out.kept K4.out))).mono ?_
  rintro ee w5 ⟨q5,u5,rfl,r5,hu5,hp5,-⟩
  obtain ⟨rt,rfl,hrt⟩:=pick_one hp5
  obtain ⟨A5,c5,rfl,-,hA5⟩:=hu5
  obtain ⟨b5,o5,rfl,hd5⟩:=hA5 (by simp)
  obtain ⟨z0,z1,z2,z3,z4,z5,g0,g1,g2,g3,g4,g5,hI5⟩:=hd5 0 rt rfl
  obtain ⟨B1,m1,k1,B2,m2,k2,ez,-,-⟩:=ivR_split hI5
  injection ez with ez;injection ez with ez
  simp only [List.cons.injEq,and_true] at ez
  obtain ⟨rfl,rfl,rfl,rfl,rfl,rfl⟩:=ez
  rw [Nat.zero_mul,Nat.add_zero] at g0 g1 g2 g3 g4 g5
  simp only []
  have K45:=hid ((kept_alloc w4 (.cells #[.bool e.t.lo.neg,.slice TA Tl Tc,.int .i64 e.t.lo.e,.bool e.t.hi.neg,.slice TA' Tl' Tc',.int .i64 e.t.hi.e] 30)).trans q5)
  have HB95:=hid (blk_kept HB9.out K45.out)
  have I5:=hid hI5
  have HP5:=hid hp5
  have HRT:=hid hrt
  clear hd5 hp5 hI5 hA5 hrt q5 d0 d1 d2 d3 d4 d5 d6 d7 d8 PT
  have f0:=free_of_block HB95.out 0
  have f1:=free_of_block HB95.out 1
  have f2:=free_of_block HB95.out 2
  have f3:=free_of_block HB95.out 3
  have f4:=free_of_block HB95.out 4
  have f5:=free_of_block HB95.out 5
  obtain ⟨d0,d1,d2,d3,d4,d5,d6,d7,d8⟩:=ln_cells HB95.out
  go_upto_region 11 with fail
  obtain ⟨hbX,kbX⟩:=env_set6 HB95.out (.bool rt.lo.neg) (.slice B1 m1 k1) (.int .i64 rt.lo.e) (.bool rt.hi.neg) (.slice B2 m2 k2) (.int .i64 rt.hi.e)
  have qX:=(q45 K45.out).trans kbX (by simp)
  clear f0 f1 f2 f3 f4 f5 d0 d1 d2 d3 d4 d5 d6 d7 d8 g0 g1 g2 g3 g4 g5
  generalize (((((w5.setCell ⟨by',0,none⟩ (.bool rt.lo.neg)).setCell ⟨by',1,none⟩ (.slice B1 m1 k1)).setCell ⟨by',2,none⟩ (.int .i64 rt.lo.e)).setCell ⟨by',3,none⟩ (.bool rt.hi.neg)).setCell ⟨by',4,none⟩ (.slice B2 m2 k2)).setCell ⟨by',5,none⟩ (.int .i64 rt.hi.e)=X at *
  have K:=hid (KB.kept (K4.out.trans K45.out) kbX LBW.out)
  have HB:=hid (kbX.blk (blk_kept HB4.out K45.out) NBT)
  have HB':=hid (kbX.blk (blk_kept HB'4.out K45.out) NE)
  have H3X:=hid (LB3.out _ qX)
  have HBX:=hid hbX
  obtain ⟨rx,ix,px,-⟩:=(P6.out.kept K45.out).kb kbX NB
  obtain ⟨ru,iu,pu,-⟩:=(P7.out.kept K45.out).kb kbX NB
  obtain ⟨rp,ip,pp,-⟩:=(P8.out.kept K45.out).kb kbX NB
  obtain ⟨ec,kc,gc⟩:=tape_cl HTP.out HEN.out (by rw [HG.out];exact HK.out)
  obtain ⟨wx,cx',mx⟩:=pick_facts px ec.x
  obtain ⟨wu,cu',mu⟩:=pick_facts pu ec.u
  obtain ⟨wp,cp',mp⟩:=pick_facts pp ec.p
  obtain ⟨wt,ct',mt⟩:=pick_facts HP5.out (fun a ha=>by rw [List.mem_singleton.1 ha];exact ec.t)
  have hEN:EnR X (.agg #[.bool rt.lo.neg,.slice B1 m1 k1,.int .i64 rt.lo.e,.bool rt.hi.neg,.slice B2 m2 k2,.int .i64 rt.hi.e,s6,s7,s8]) ⟨rt,rx,ru,rp⟩:=⟨_,_,_,_,_,_,_,_,_,rfl,I5.out.kb kbX,ix,iu,ip⟩
  have hw:EnW ⟨rt,rx,ru,rp⟩ e:=⟨wt.2 0,wx,wu,wp⟩
  have hcl:En.Cl ⟨rt,rx,ru,rp⟩:=⟨ct' rt (by simp),cx',cu',cp'⟩
  have hme:mayE ⟨rt,rx,ru,rp⟩=true:=by
   unfold mayE
   simp only [Bool.and_eq_true]
   exact ⟨⟨⟨by simpa using mt,mx⟩,mu⟩,mp⟩
  have hle2:EnLens ⟨rt,rx,ru,rp⟩:=⟨lens_mono (cl_lens ct' rt (by simp)) (by decide),fun a ha=>lens_mono (cl_lens cx' a ha) (by decide),fun a ha=>lens_mono (cl_lens cu' a ha) (by decide),fun a ha=>lens_mono (cl_lens cp' a ha) (by decide),by have:=wx.1;simp only;omega,by have:=wu.1;simp only;omega,by have:=wp.1;simp only;omega⟩
  obtain ⟨lmb,law⟩:=corner_law (n:=n) (by rw [HG.out];exact HK.out) ec hcl hme hw kc
  rw [HG.out] at law gc
  have VC:=hid (eval_c (ov:=ovI) (p:=(n:Int)) (HTP.out.kept K.out) hEN OK.out hle2 (by omega) (by omega) (T.out.kept K.out) (fun _ _ _=>over_ov) opsA (fun _ _ _ _=>trivial))
  obtain ⟨G',hG'⟩:∃ G',tapeI ovI ls outs ⟨rt,rx,ru,rp⟩ n=G':=⟨_,rfl⟩
  rw [hG'] at lmb law
  obtain ⟨E',hE'⟩:∃ E',evalI ovI ls outs ⟨rt,rx,ru,rp⟩ n=E':=⟨_,rfl⟩
  rw [hE'] at VC
  have hk':E'.k=G'.k:=by rw [←hE',←hG',evalI_k]
  have HE':Hid (G'.k=0→E'=⟨outs.map fun n=>G'.v.getD n.toNat rzI,0⟩∧G'.v.length=ls.length):=hid (fun h0=>by
   have h1:=evalI_good (by rw [hG'];exact h0)
   rw [hG',hE'] at h1
   have h2:=(tapeI_good (by rw [hG'];exact h0)).2.1
   rw [hG'] at h2
   exact ⟨h1,h2⟩)
  have LAW:=hid law
  have GC:=hid gc
  obtain ⟨A6,q6,rfl,-,-⟩:=ix
  obtain ⟨A7,q7,rfl,-,-⟩:=iu
  obtain ⟨A8,q8,rfl,-,-⟩:=ip
  clear hG' hE' law gc hEN hw hcl hme hle2 wx cx' mx wu cu' mu wp cp' mp wt ct' mt px pu pp ec kc hbX kbX qX P6 P7 P8 HB4 HB'4 H34 HB95 HB9 I5 HP5 LB3 q45 K4 K45
  obtain ⟨c0,c1⟩:=cells2 HB.out
  obtain ⟨d0,d1,d2,d3,d4,d5,d6,d7,d8⟩:=ln_cells HBX.out
  go_wp2_with fail
  refine VC.out.mono ?_
  rintro ee w8 ⟨q,v8,rfl,h8⟩
  simp only []
  replace K:=hid (K.out.trans q)
  replace HB':=hid (blk_kept HB'.out q)
  replace H3X:=hid (H3X.out.kept q)
  have H8:=hid h8
  obtain ⟨A9,q9,rfl,-,-⟩:=h8
  clear q c0 c1 d0 d1 d2 d3 d4 d5 d6 d7 d8 VC HB HBX
  rw [hk']
  clear hk'
  rcases lmb with h0 | h0 | h0
  ·obtain ⟨hev, hgl⟩ := HE'.out h0
   obtain ⟨lw,clv⟩:=LAW.out h0
   have hEE:=HEE.out
   have HEV2:=hid hev
   subst hEE
   subst hev
   rw [h0]
   simp only [List.length_map]
   have H3:=H3X.out
   have H9:=H8.out
   simp only at H3 H9
   have HI3:=hid H3
   have HI9:=hid H9
   have LWv:=hid lw
   have CLv:=hid clv
   have LO:=hid o12
   clear H3 H9 H3X H8 HEE HEV HE' LAW h0 lw clv HEV2
   go_wp2_with fail
   go_loopw [16] (fun t wr=>∃ i:Nat,i≤outs.length∧t=.int .i64 i∧Kept w8 wr) (fun t _=>(outs.length-intOf t).toNat)
   case atStart=>exact ⟨0,Nat.zero_le _,rfl,Below.refl _ _⟩
   case round =>
    obtain ⟨i,hi,rfl,hkr⟩:=hrel
    have KR:=hid hkr
    clear hkr
    by_cases hin:i<outs.length
    ·obtain ⟨z, hz⟩ : ∃ z, outs[i]? = some z := ⟨_, List.getElem?_eq_getElem hin⟩
     have hmo:=(mayT_outs (tapeI_good (by rw [HG.out];exact HK.out)).1.2.2.1).2 z (List.mem_of_getElem? hz)
     obtain ⟨b6,o6,ra,hA6,-,hra,hat6⟩:=(HI9.out.kept KR.out).at (i:=i) (by rw [List.length_map];exact hin)
     obtain ⟨b3,o3,rb,hA3,-,hrb,hat3⟩:=(HI3.out.kept KR.out).at (i:=i) (by rw [List.length_map];exact hin)
     subst hA6 hA3
     simp only [List.getElem?_map,hz,Option.map_some,Option.some.injEq] at hra hrb
     have hw1:Wth ra.iv rb.iv:=by
      rw [←hra,←hrb]
      exact LWv.out.2 z
     have ca:ra.iv.Ok∧ra.iv.raw=ra:=by
      refine CLv.out ra ?_
      rw [←hra,List.getD_eq_getElem?_getD,List.getElem?_eq_getElem (by omega)]
      exact List.getElem_mem _
     have cb:rb.iv.Ok∧rb.iv.raw=rb:=by
      have:=LWv.out.1
      refine GC.out rb ?_
      rw [←hrb,List.getD_eq_getElem?_getD,List.getElem?_eq_getElem (by omega)]
      exact List.getElem_mem _
     have I6:=hid (fun w1 (q:Kept wr w1)=>hat6.kept q)
     have I3:=hid (fun w1 (q:Kept wr w1)=>hat3.kept q)
     have WC:=hid (fun w1 v u (hv:IvR w1 v ra) (hu:IvR w1 u rb)=>show Calls Tryz.prog 33 #[v,u] w1 (RetK (.bool true) w1) by
      have h:=within_c (hv.ivC ca.2) (hu.ivC cb.2) ca.1 cb.1
      rwa [(withinI_iff _ _).2 ⟨hw1.1,hw1.2⟩] at h)
     have HI:=hid hin
     clear hat6 hat3 hra hrb hz hmo hw1 ca cb
     go_wp2_with fail
     refine region_lin (m:=10) (V:=VL [(vE (.slice (some ⟨b6,o6,none⟩) outs.length q9)),(vE (.int .i64 (i:Int))),(vE (.pointer (some ⟨b6,o6+i*6,none⟩))),(fun v wv=>IvR wv v ra),(vE (.slice (some ⟨b3,o3,none⟩) outs.length c3)),(vE (.int .i64 (i:Int))),(vE (.pointer (some ⟨b3,o3+i*6,none⟩))),(fun v wv=>IvR wv v rb),(vE (.bool true)),(vE (.bool false))])
      (by kernel_rfl) rfl (by kernel_rfl) (by kernel_rfl) (by kernel_rfl) (mono_of _ ⟨mE,mE,mE,fun v w w' k h=>by first | exact h | exact h.kept k | exact ⟨h.1,h.2.kept k⟩,mE,mE,mE,fun v w w' k h=>by first | exact h | exact h.kept k | exact ⟨h.1,h.2.kept k⟩,mE,mE,trivial⟩) (steps_of ⟨
        (fun aF wF F=>by have s14:aF.tmps.getD 14 undef=(.slice (some ⟨b6,o6,none⟩) outs.length q9):=F.o 14;exact sv rfl),(fun aF wF F=>by have s16:aF.tmps.getD 16 undef=(.int .i64 (i:Int)):=F.o 16;exact sv rfl),(fun aF wF F=>by have s99:=F.v 0 99;have s100:=F.v 1 100;exact sw (by (have hi9:=HI.out;first | (go_simp;done) | (go_simp;omega))) rfl),(fun aF wF F=>by have s101:=F.v 2 101;obtain ⟨xx,yy,zz,xx',yy',zz',h0,h1,h2,h3,h4,h5,hI⟩:=(I6.out _ F.kept);exact step_val (by simp [Region.wanted]) (by go_simp) hI),(fun aF wF F=>by have s10:aF.tmps.getD 10 undef=(.slice (some ⟨b3,o3,none⟩) outs.length c3):=F.o 10;exact sv rfl),(fun aF wF F=>by have s16:aF.tmps.getD 16 undef=(.int .i64 (i:Int)):=F.o 16;exact sv rfl),(fun aF wF F=>by have s103:=F.v 4 103;have s104:=F.v 5 104;exact sw (by (have hi9:=HI.out;first | (go_simp;done) | (go_simp;omega))) rfl),(fun aF wF F=>by have s105:=F.v 6 105;obtain ⟨xx,yy,zz,xx',yy',zz',h0,h1,h2,h3,h4,h5,hI⟩:=(I3.out _ F.kept);exact step_val (by simp [Region.wanted]) (by go_simp) hI),(fun aF wF F=>by have s102:=F.p 3 102;have s106:=F.p 7 106;exact sK (WC.out _ _ _ s102 s106) fun _ _ h=>h),(fun aF wF F=>by have s107:=F.v 8 107;exact sv rfl),
        trivial⟩) ?_
     intro u w9 q hu
     have p102:=hp hu 3
     have p106:=hp hu 7
     simp only [puts,slotOf,if_true,Act.put,z1,z2,z3,z4,z5,z6,z7,hv hu 0,hv hu 1,hv hu 2,hv hu 4,hv hu 5,hv hu 6,hv hu 8,hv hu 9]
     clear hu
     generalize u 3=v102 at *
     generalize u 7=v106 at *
     clear p102 p106
     have K7:=hid (KR.out.trans q)
     clear q
     go_wp2_with fail
     go_roundw
     case rel=>exact ⟨i+1,by have:=HI.out;omega,by have:=LO.out;have:=HI.out;go_num,K7.out⟩
     case measure=>simp only [intOf];have:=HI.out;omega
    ·obtain rfl : outs.length = i := by omega
     go_wp2_with fail
     refine (told8_c (T.out.kept (K.out.trans KR.out)) opsA trivial).mono ?_
     rintro ee w9 ⟨rfl,q⟩
     simp only []
     have K9:=hid ((K.out.trans KR.out).trans q)
     have HB9':=hid (blk_kept HB'.out (KR.out.trans q))
     clear q
     obtain ⟨d0,d1,d2,d3,d4,d5,d6,d7,d8⟩:=ln_cells HB9'.out
     have hf:fewI e.t=true:=by
      have h:=L6.out.1
      unfold fewI fewRD
      rw [decide_eq_true (Nat.le_trans h.1 (by decide)),decide_eq_true (Nat.le_trans h.2 (by decide))]
      rfl
     have FI2:=FI.out _ K9.out
     rw [hf] at FI2
     have FI3:=hid FI2
     clear FI2 hf
     go_wp2_with fail
     refine FI3.out.mono ?_
     rintro ee w10 ⟨rfl,q⟩
     simp only []
     go_wp2_with fail
     go_ret
     exact ⟨rfl,K9.out.trans q⟩
  ·rw [h0]
   go_wp2_with fail
   refine (told8_c (T.out.kept K.out) opsA trivial).mono ?_
   rintro ee w9 ⟨rfl,q⟩
   simp only []
   go_wp2_with fail
   go_ret
   exact ⟨rfl,K.out.trans q⟩
  ·rw [h0]
   go_wp2_with fail
   refine (told8_c (T.out.kept K.out) opsA trivial).mono ?_
   rintro ee w9 ⟨rfl,q⟩
   simp only []
   go_wp2_with fail
   go_ret
   exact ⟨rfl,K.out.trans q⟩
 ·have gk : (E.k != 0) = true := by simp [hk]
  clear hk
  go_wp2_with fail
  refine (told8_c (T.out.kept K.out) opsA trivial).mono ?_
  rintro ee w5 ⟨rfl,q⟩
  simp only []
  go_wp2_with fail
  go_ret
  exact ⟨rfl,K.out.trans q⟩
end Go.Proofs.YtabjjdicffcolaaGreatDoor
