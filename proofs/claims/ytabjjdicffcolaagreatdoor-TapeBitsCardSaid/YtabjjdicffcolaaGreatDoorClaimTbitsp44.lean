/- TapeBits: with fewer bits a tape's values hold those with more. -/
import Derived.Test.YtabjjdicffcolaaGreatDoorClaimTbitsp29
import Derived.Test.YtabjjdicffcolaaGreatDoorClaimTbitsp33
import Derived.Test.YtabjjdicffcolaaGreatDoorClaimTbitsp38
import Derived.Test.YtabjjdicffcolaaGreatDoorClaimTbitsp40
import Derived.Test.YtabjjdicffcolaaGreatDoorClaimTbitsp41
import Derived.Test.YtabjjdicffcolaaGreatDoorClaimTbitsp42
import Derived.Test.YtabjjdicffcolaaGreatDoorClaimTbitsp43
set_option maxRecDepth 100000
set_option maxHeartbeats 16000000
namespace Go.Proofs.YtabjjdicffcolaaGreatDoor
open Go.Lib (hid)
open Go.RowKit
theorem lim_newB {w:World}{b n:Nat}{T:TypeId}(hn:n<18446744073709551616)(h:w.heap[b]?=some (.cells #[.int .u64 (n:Int)] T (0,0))):Lim w (.slice (some ⟨b,0,none⟩) 1 1) [n]:=by
 refine ⟨fun x hx=>by simp at hx;omega,some ⟨b,0,none⟩,1,rfl,Nat.le_refl _,fun _=>⟨b,0,rfl,(Array.getElem?_eq_some_iff.1 h).1,fun i hi=>?_⟩⟩;have hi:i<1:=hi;obtain rfl:i=0:=by omega
 exact cell_of_block h 0 _ rfl
theorem lnS_blkB {w:World}{b:Nat}{cs:Array Value}{T:TypeId}{ls:List Ln}(h:w.heap[b]?=some (.cells cs T (0,0)))(hc:RowC (CellL w) cs.toList ls):LnS w (.slice (some ⟨b,0,none⟩) ls.length ls.length) ls:=by
 refine ⟨_,_,rfl,Nat.le_refl _,fun _=>⟨b,0,rfl,fun i a hi=>?_⟩⟩;obtain ⟨cc,⟨x,y,z,x',y',z',rfl,hI⟩,hj⟩:=hc.at CellL.len i a hi;rw [Nat.zero_add];have hcl:∀ (j:Nat) u,cs.toList[j]?=some u→w.cell? ⟨b,j,none⟩=some u:=fun j u hu=>cell_of_block h j u (by rwa [Array.getElem?_toList] at hu)
 exact ⟨hcl _ _ (hj 0 (by decide)),hcl _ _ (hj 1 (by decide)),hcl _ _ (hj 2 (by decide)),x,y,z,x',y',z',hcl _ _ (hj 3 (by decide)),hcl _ _ (hj 4 (by decide)),hcl _ _ (hj 5 (by decide)),hcl _ _ (hj 6 (by decide)),hcl _ _ (hj 7 (by decide)),hcl _ _ (hj 8 (by decide)),hI⟩
theorem ivS_blkB {w:World}{b:Nat}{cs:Array Value}{T:TypeId}{l:List RawI}(h:w.heap[b]?=some (.cells cs T (0,0)))(hc:RowC (CellI w) cs.toList l):IvS w (.slice (some ⟨b,0,none⟩) l.length l.length) l:=by
 refine ⟨_,_,rfl,Nat.le_refl _,fun _=>⟨b,0,rfl,fun i a hi=>?_⟩⟩;obtain ⟨cc,⟨x,y,z,x',y',z',rfl,hI⟩,hj⟩:=hc.at CellI.len i a hi;rw [Nat.zero_add];have hcl:∀ (j:Nat) u,cs.toList[j]?=some u→w.cell? ⟨b,j,none⟩=some u:=fun j u hu=>cell_of_block h j u (by rwa [Array.getElem?_toList] at hu)
 exact ⟨x,y,z,x',y',z',hcl _ _ (hj 0 (by decide)),hcl _ _ (hj 1 (by decide)),hcl _ _ (hj 2 (by decide)),hcl _ _ (hj 3 (by decide)),hcl _ _ (hj 4 (by decide)),hcl _ _ (hj 5 (by decide)),hI⟩
theorem inS_blkB {w:World}{b:Nat}{T:TypeId}{ns:List Int}(h:w.heap[b]?=some (.cells (ns.map (Value.int .i64)).toArray T (0,0))):InS w (.slice (some ⟨b,0,none⟩) ns.length ns.length) ns :=
 ⟨_,_,rfl,Nat.le_refl _,fun _=>⟨b,0,rfl,fun i n hn=>by rw [Nat.zero_add];exact cell_of_block h i _ (by simp [hn])⟩⟩
theorem cellL_zB (w:World)(op a b:Int):CellL w [.int .i64 op,.int .i64 a,.int .i64 b,.bool false,.slice none 0 0,.int .i64 0,.bool false,.slice none 0 0,.int .i64 0] ⟨op,a,b,rzI⟩:=⟨_,_,_,_,_,_,rfl,_,_,_,_,_,_,rfl,dyR_zero _,dyR_zero _⟩
theorem boxT8 (w:World){A A':Option Addr}{l c l' c':Nat}(h:IvR w (.agg #[.bool false,.slice A l c,.int .i64 0,.bool false,.slice A' l' c',.int .i64 0]) o1R):∃ V,V=((w.alloc (.cells #[.int .i64 3,.int .i64 0,.int .i64 0,.bool false,.slice none 0 0,.int .i64 0,.bool false,.slice none 0 0,.int .i64 0,.int .i64 1,.int .i64 0,.int .i64 0,.bool false,.slice A l c,.int .i64 0,.bool false,.slice A' l' c',.int .i64 0,.int .i64 6,.int .i64 0,.int .i64 1,.bool false,.slice none 0 0,.int .i64 0,.bool false,.slice none 0 0,.int .i64 0,.int .i64 4,.int .i64 1,.int .i64 0,.bool false,.slice none 0 0,.int .i64 0,.bool false,.slice none 0 0,.int .i64 0] 52)).alloc
 (.cells #[.int .i64 2,.int .i64 3] 3)).alloc (.cells #[.slice (some ⟨w.heap.size,0,none⟩) 4 4,.slice (some ⟨w.heap.size+1,0,none⟩) 2 2] 25)∧Kept w V ∧
 V.heap[w.heap.size+1+1]?=some (.cells #[.slice (some ⟨w.heap.size,0,none⟩) 4 4,.slice (some ⟨w.heap.size+1,0,none⟩) 2 2] 25 (0,0)) ∧
 TpR V (.agg #[.slice (some ⟨w.heap.size,0,none⟩) 4 4,.slice (some ⟨w.heap.size+1,0,none⟩) 2 2]) t8L [2,3]:=by
 obtain ⟨w1,h1⟩:∃ w1,w1=w.alloc (.cells #[.int .i64 3,.int .i64 0,.int .i64 0,.bool false,.slice none 0 0,.int .i64 0,.bool false,.slice none 0 0,.int .i64 0,.int .i64 1,.int .i64 0,.int .i64 0,.bool false,.slice A l c,.int .i64 0,.bool false,.slice A' l' c',.int .i64 0,.int .i64 6,.int .i64 0,.int .i64 1,.bool false,.slice none 0 0,.int .i64 0,.bool false,.slice none 0 0,.int .i64 0,.int .i64 4,.int .i64 1,.int .i64 0,.bool false,.slice none 0 0,.int .i64 0,.bool false,.slice none 0 0,.int .i64 0] 52):=⟨_,rfl⟩;have k1:Kept w w1:=by rw [h1];exact kept_alloc _ _
 have s1:w1.heap.size=w.heap.size+1:=by rw [h1];simp
 have b1:=(congrArg (fun v:World=>v.heap[w.heap.size]?) h1).trans (heap_alloc_new _ _);rw [←h1];obtain ⟨w2,h2⟩:∃ w2,w2=w1.alloc (.cells #[.int .i64 2,.int .i64 3] 3):=⟨_,rfl⟩;have k2:Kept w1 w2:=by rw [h2];exact kept_alloc _ _
 have s2:w2.heap.size=w.heap.size+1+1:=by rw [h2,←s1];simp
 have b2:=(congrArg (fun v:World=>v.heap[w1.heap.size]?) h2).trans (heap_alloc_new _ _);rw [←h2];have k3:=kept_alloc w2 (.cells #[.slice (some ⟨w.heap.size,0,none⟩) 4 4,.slice (some ⟨w.heap.size+1,0,none⟩) 2 2] 25);refine ⟨_,rfl,(k1.trans k2).trans k3,?_,_,_,rfl,?_,?_⟩
 ·rw [←s2];exact heap_alloc_new _ _
 ·have hb := blk_kept b1 (k2.trans k3)
  exact lnS_blkB (ls:=t8L) hb (RowC.append (R:=CellL _) (l:=([⟨3,0,0,rzI⟩]:List Ln)) (m:=([⟨1,0,0,o1R⟩,⟨6,0,1,rzI⟩,⟨4,1,0,rzI⟩]:List Ln)) (xs:=[.int .i64 3,.int .i64 0,.int .i64 0,.bool false,.slice none 0 0,.int .i64 0,.bool false,.slice none 0 0,.int .i64 0]) (RowC.one (cellL_zB _ 3 0 0))
   (RowC.append (R:=CellL _) (l:=([⟨1,0,0,o1R⟩]:List Ln)) (m:=([⟨6,0,1,rzI⟩,⟨4,1,0,rzI⟩]:List Ln)) (xs:=[.int .i64 1,.int .i64 0,.int .i64 0,.bool false,.slice A l c,.int .i64 0,.bool false,.slice A' l' c',.int .i64 0]) (RowC.one ⟨_,_,_,_,_,_,rfl,h.kept ((k1.trans k2).trans k3)⟩)
   (RowC.append (R:=CellL _) (l:=([⟨6,0,1,rzI⟩]:List Ln)) (m:=([⟨4,1,0,rzI⟩]:List Ln)) (xs:=[.int .i64 6,.int .i64 0,.int .i64 1,.bool false,.slice none 0 0,.int .i64 0,.bool false,.slice none 0 0,.int .i64 0]) (RowC.one (cellL_zB _ 6 0 1)) (RowC.one (cellL_zB _ 4 1 0)))))
 ·have hb := blk_kept b2 k3;rw [s1] at hb;exact inS_blkB (ns:=[2,3]) hb
theorem boxE8 (w:World){A A':Option Addr}{l c l' c':Nat}(h:IvR w (.agg #[.bool false,.slice A l c,.int .i64 0,.bool false,.slice A' l' c',.int .i64 0]) o1R):∃ V,V=((w.alloc (.cells #[.bool false,.slice none 0 0,.int .i64 0,.bool false,.slice A' l' c',.int .i64 0] 30)).alloc
 (.cells #[.bool false,.slice A l c,.int .i64 0,.bool false,.slice A' l' c',.int .i64 0,.bool false,.slice A l c,.int .i64 0,.bool false,.slice A' l' c',.int .i64 0] 30)).alloc
 (.cells #[.bool false,.slice none 0 0,.int .i64 0,.bool false,.slice none 0 0,.int .i64 0,.slice (some ⟨w.heap.size,0,none⟩) 1 1,.slice (some ⟨w.heap.size+1,0,none⟩) 2 2,.slice none 0 0] 33)∧Kept w V ∧
 V.heap[w.heap.size+1+1]?=some (.cells #[.bool false,.slice none 0 0,.int .i64 0,.bool false,.slice none 0 0,.int .i64 0,.slice (some ⟨w.heap.size,0,none⟩) 1 1,.slice (some ⟨w.heap.size+1,0,none⟩) 2 2,.slice none 0 0] 33 (0,0)) ∧
 EnR V (.agg #[.bool false,.slice none 0 0,.int .i64 0,.bool false,.slice none 0 0,.int .i64 0,.slice (some ⟨w.heap.size,0,none⟩) 1 1,.slice (some ⟨w.heap.size+1,0,none⟩) 2 2,.slice none 0 0]) e8E:=by
 obtain ⟨w1,h1⟩:∃ w1,w1=w.alloc (.cells #[.bool false,.slice none 0 0,.int .i64 0,.bool false,.slice A' l' c',.int .i64 0] 30):=⟨_,rfl⟩;have k1:Kept w w1:=by rw [h1];exact kept_alloc _ _
 have s1:w1.heap.size=w.heap.size+1:=by rw [h1];simp
 have b1:=(congrArg (fun v:World=>v.heap[w.heap.size]?) h1).trans (heap_alloc_new _ _);rw [←h1];obtain ⟨w2,h2⟩:∃ w2,w2=w1.alloc (.cells #[.bool false,.slice A l c,.int .i64 0,.bool false,.slice A' l' c',.int .i64 0,.bool false,.slice A l c,.int .i64 0,.bool false,.slice A' l' c',.int .i64 0] 30):=⟨_,rfl⟩;have k2:Kept w1 w2:=by rw [h2];exact kept_alloc _ _
 have s2:w2.heap.size=w.heap.size+1+1:=by rw [h2,←s1];simp
 have b2:=(congrArg (fun v:World=>v.heap[w1.heap.size]?) h2).trans (heap_alloc_new _ _);rw [←h2];have k3:=kept_alloc w2 (.cells #[.bool false,.slice none 0 0,.int .i64 0,.bool false,.slice none 0 0,.int .i64 0,.slice (some ⟨w.heap.size,0,none⟩) 1 1,.slice (some ⟨w.heap.size+1,0,none⟩) 2 2,.slice none 0 0] 33);have hk:=h.kept ((k1.trans k2).trans k3);refine ⟨_,rfl,(k1.trans k2).trans k3,?_,_,_,_,_,_,_,_,_,_,rfl,⟨_,_,_,_,_,_,rfl,dyR_zero _,dyR_zero _⟩,?_,?_,ivS_nil _⟩
 ·rw [←s2];exact heap_alloc_new _ _
 ·have hb := blk_kept b1 (k2.trans k3);obtain ⟨x,y,z,x',y',z',ee,d1,d2⟩:=hk;simp only [Value.agg.injEq,Array.mk.injEq,List.cons.injEq,and_true] at ee;obtain ⟨rfl,rfl,rfl,rfl,rfl,rfl⟩:=ee;exact ivS_blkB (l:=e8E.x) hb (RowC.one ⟨_,_,_,_,_,_,rfl,_,_,_,_,_,_,rfl,dyR_zero _,d2⟩)
 ·have hb := blk_kept b2 k3;rw [s1] at hb;exact ivS_blkB (l:=e8E.u) hb (RowC.append (R:=CellI _) (l:=[o1R]) (m:=[o1R]) (xs:=[.bool false,.slice A l c,.int .i64 0,.bool false,.slice A' l' c',.int .i64 0]) (RowC.one ⟨_,_,_,_,_,_,rfl,hk⟩) (RowC.one ⟨_,_,_,_,_,_,rfl,hk⟩))
theorem RetN.good {ns:List Int}{w:World}{e:Ending}{w':World}(h:RetN ns w e w'):GoodEnd (fun v w=>InS w v ns) w e w':=by
 obtain ⟨k,v,e,h⟩:=h;exact ⟨v,e,k,h⟩
theorem t8_ok:LnOk t8L:=by
 intro l hl;unfold t8L at hl;simp only [List.mem_cons,List.not_mem_nil,or_false] at hl
 rcases hl with rfl | rfl | rfl | rfl<;>exact ⟨by decide,by decide,by decide,by decide⟩
theorem e8_lens:EnLens e8E:=by
 refine ⟨⟨by decide,by decide⟩,?_,?_,(by intro a ha;cases ha),by decide,by decide,by decide⟩
 ·intro a ha;rw [List.mem_singleton.1 ha];exact ⟨by decide,by decide⟩
 ·intro a ha;simp only [e8E,List.mem_cons,List.not_mem_nil,or_false] at ha
  rcases ha with rfl | rfl<;>exact ⟨by decide,by decide⟩
theorem e0_lens:EnLens ⟨rzI,[],[],[]⟩:=⟨⟨by decide,by decide⟩,(by intro a ha;cases ha),(by intro a ha;cases ha),(by intro a ha;cases ha),by decide,by decide,by decide⟩
theorem lnOk_nil:LnOk []:=fun l h=>by cases h
theorem told8_c {S:Int→Prop}{w:World}(hT:Tab w)(O:OpsC S)(h6:S 6):Calls Tryz.prog 29 #[] w (RetK (.bool true) w):=by
 have hov:∀ l∈t8L,l.op=13→OvC ovI:=fun _ _ _=>over_ov
 have hS:∀ l∈t8L,6≤l.op→l.op≤12→S l.op:=by
  intro l hl a b;unfold t8L at hl;simp only [List.mem_cons,List.not_mem_nil,or_false] at hl
  rcases hl with rfl | rfl | rfl | rfl
  ·exact absurd a (by decide)
  ·exact absurd a (by decide)
  ·exact h6
  ·exact absurd a (by decide)
 have E1:=hid (fun w1 (k:Kept w w1) vt ve (ht:TpR w1 vt t8L [2,3]) (he:EnR w1 ve e8E)=>show Calls Tryz.prog 17 #[vt,ve,.int .i64 20] w1 (RetLs ⟨[⟨⟨false,[1],0⟩,⟨false,[1],1⟩⟩,o1R],0⟩ w1) by
  have h:=eval_c (p:=20) ht he t8_ok e8_lens (by decide) (by decide) (hT.kept k) hov O hS
  rwa [t8_eval] at h)
 have E2:=hid (fun w1 (k:Kept w w1) vt ve (ht:TpR w1 vt t8L [2,3]) (he:EnR w1 ve ⟨rzI,[],[],[]⟩)=>show Calls Tryz.prog 17 #[vt,ve,.int .i64 20] w1 (RetLs ⟨[],1⟩ w1) by
  have h:=eval_c (p:=20) ht he t8_ok e0_lens (by decide) (by decide) (hT.kept k) hov O hS
  rwa [t8_none] at h)
 have U1:=hid (fun w1 vt (ht:TpR w1 vt t8L [2,3])=>show Calls Tryz.prog 31 #[vt,.int .i64 1] w1 (RetN [1] w1) by
  have h:=uses_c (k:=1) ht t8_ok (by decide) (by decide) (by decide) (by decide)
  rwa [t8_uses1] at h)
 have U0:=hid (fun w1 vt (ht:TpR w1 vt t8L [2,3])=>show Calls Tryz.prog 31 #[vt,.int .i64 0] w1 (RetN [] w1) by
  have h:=uses_c (k:=0) ht t8_ok (by decide) (by decide) (by decide) (by decide)
  rwa [t8_uses0] at h)
 have M1:=hid (fun w1 vt (ht:TpR w1 vt t8L [2,3])=>show Calls Tryz.prog 47 #[vt,.int .i64 1,.int .i64 2,.int .i64 0] w1 (RetK (.bool true) w1) by
  have h:=may_tc (x:=1) (u:=2) (p:=0) ht t8_ok (by decide) (by decide) (by decide) (by decide) (by decide)
  rwa [t8_may] at h)
 have M2:=hid (fun w1 vt (ht:TpR w1 vt t8L [2,3])=>show Calls Tryz.prog 47 #[vt,.int .i64 1,.int .i64 1,.int .i64 0] w1 (RetK (.bool false) w1) by
  have h:=may_tc (x:=1) (u:=1) (p:=0) ht t8_ok (by decide) (by decide) (by decide) (by decide) (by decide)
  rwa [t8_may1] at h)
 have M3:=hid (fun w1 vt (ht:TpR w1 vt [] [0])=>show Calls Tryz.prog 47 #[vt,.int .i64 0,.int .i64 0,.int .i64 0] w1 (RetK (.bool false) w1) by
  have h:=may_tc (x:=0) (u:=0) (p:=0) ht lnOk_nil (by decide) (by decide) (by decide) (by decide) (by decide)
  rwa [t8_may0] at h)
 clear hov hS O hT;obtain ⟨V,hV,kV,bV⟩:∃ V,V=w.alloc (.cells #[.int .u64 1] 55)∧Kept w V∧V.heap[w.heap.size]?=some (.cells #[.int .u64 1] 55 (0,0)):=⟨_,rfl,kept_alloc _ _,heap_alloc_new _ _⟩;have OF:=hid (iof_c (w:=V) (v:=.agg #[.bool false,.slice (some ⟨w.heap.size,0,none⟩) 1 1,.int .i64 0]) (r:=⟨false,[1],0⟩) ⟨_,rfl,lim_newB (n:=1) (by decide) bV,by decide,by decide⟩);have HV:=hid hV;have K:=hid kV;clear hV kV bV
 go_enter Tryz.func29,Tryz.ntmps29
 go_wp2_with fail;rw [←HV.out];refine OF.out.mono ?_;rintro e w1 ⟨q,u,rfl,hI⟩;obtain ⟨x,y,z,x',y',z',rfl,⟨s1,e1,hs1,-,-⟩,⟨s2,e2,hs2,-,-⟩⟩:=(show IvR w1 u o1R from hI);have hI':IvR w1 (.agg #[x,y,z,x',y',z']) o1R:=hI;obtain ⟨-,A,c,rfl,-,-⟩:=hs1;obtain ⟨-,A',c',rfl,-,-⟩:=hs2;injection e1 with e1;injection e1 with e1
 injection e2 with e2;injection e2 with e2
 simp only [List.cons.injEq,and_true] at e1 e2;obtain ⟨rfl,rfl,rfl⟩:=e1;obtain ⟨rfl,rfl,rfl⟩:=e2;have hI2:IvR w1 (.agg #[.bool false,.slice A 1 c,.int .i64 0,.bool false,.slice A' 1 c',.int .i64 0]) o1R:=hI';simp only [o1R];obtain ⟨V1,hV1,kV1,hb1,lV1⟩:=boxV w1 (.bool false) (.slice A 1 c) (.int .i64 0) (.bool false) (.slice A' 1 c') (.int .i64 0);have HV1:=hid hV1;replace K:=hid ((K.out.trans q).trans kV1);have B1:=hid hb1;have I1:=hid (hI2.kept kV1);clear hV1 hb1 hI hI' hI2 q kV1 OF HV
 go_upto_region 2 with fail
 rw [←HV1.out];clear HV1;obtain ⟨V2,hV2,kV2,hb2,ht2⟩:=boxT8 V1 I1.out;have HV2:=hid hV2;have T2:=hid ht2;have B2:=hid hb2;obtain ⟨-,a0,a1,a2,a3,a4,a5⟩:=B1.out.facts;replace K:=hid (K.out.trans kV2);replace B1:=hid (B1.out.kept kV2);replace I1:=hid (I1.out.kept kV2);clear hV2 hb2 ht2 kV2
 go_upto_region 3 with fail
 rw [←HV2.out];clear HV2 a0 a1 a2 a3 a4 a5;obtain ⟨-,a0,a1,a2,a3,a4,a5⟩:=B1.out.facts;obtain ⟨-,p0,p1,p2,p3,p4,p5⟩:=(B1.out.kept (kept_alloc V2 (.cells #[.bool false,.slice none 0 0,.int .i64 0,.bool false,.slice A' 1 c',.int .i64 0] 30))).facts;obtain ⟨V3,hV3,kV3,hb3,he3⟩:=boxE8 V2 I1.out;have HV3:=hid hV3;have B3:=hid hb3;have E3:=hid he3;replace K:=hid (K.out.trans kV3);replace B1:=hid (B1.out.kept kV3);replace B2:=hid (blk_kept B2.out kV3);have D1:Hid (DyR V3 (.agg #[.bool false,.slice A 1 c,.int .i64 0]) ⟨false,[1],0⟩):=hid (by
  obtain ⟨_,_,_,_,_,_,e9,d9,-⟩:=I1.out.kept kV3;simp only [Value.agg.injEq,Array.mk.injEq,List.cons.injEq,and_true] at e9;obtain ⟨rfl,rfl,rfl,rfl,rfl,rfl⟩:=e9;exact d9)
 replace I1:=hid (I1.out.kept kV3);replace T2:=hid (T2.out.kept kV3);clear hV3 hb3 he3 kV3
 go_upto_region 4 with fail
 rw [←HV3.out];clear HV3 a0 a1 a2 a3 a4 a5 p0 p1 p2 p3 p4 p5;obtain ⟨c0,c1⟩:=cells2 B2.out;obtain ⟨d0,d1,d2,d3,d4,d5,d6,d7,d8⟩:=ln_cells B3.out;generalize V2.heap.size+1+1=n3 at *;generalize V1.heap.size+1+1=n2 at *;generalize w1.heap.size=n1 at *;go_wp2_with fail;refine (E1.out _ K.out _ _ T2.out E3.out).mono ?_;rintro e w4 ⟨q,v4,rfl,h4⟩;simp only [];replace K:=hid (K.out.trans q);replace B1:=hid (B1.out.kept q);replace B2:=hid (blk_kept B2.out q);replace T2:=hid (T2.out.kept q);replace D1:=hid (D1.out.kept q);have H4:=hid h4;obtain ⟨A4,c4,rfl,-,-⟩:=h4;clear q c0 c1 d0 d1 d2 d3 d4 d5 d6 d7 d8 B3 E3 E1 I1
 obtain ⟨c0,c1⟩:=cells2 B2.out;go_wp2_with fail;refine (U1.out _ _ T2.out).mono ?_;rintro e w5 ⟨q,v6,rfl,h6⟩;simp only [];replace K:=hid (K.out.trans q);replace B1:=hid (B1.out.kept q);replace B2:=hid (blk_kept B2.out q);replace T2:=hid (T2.out.kept q);replace D1:=hid (D1.out.kept q);replace H4:=hid (H4.out.kept q);have H6:=hid h6;obtain ⟨A6,c6,rfl,-,-⟩:=h6;clear q c0 c1 U1;obtain ⟨c0,c1⟩:=cells2 B2.out;go_wp2_with fail;refine (E2.out _ K.out _ _ T2.out ⟨_,_,_,_,_,_,_,_,_,rfl,⟨_,_,_,_,_,_,rfl,dyR_zero _,dyR_zero _⟩,ivS_nil _,ivS_nil _,ivS_nil _⟩).mono ?_;rintro e w6 ⟨q,v7,rfl,h7⟩;simp only [];replace K:=hid (K.out.trans q)
 replace B1:=hid (B1.out.kept q);replace B2:=hid (blk_kept B2.out q);replace T2:=hid (T2.out.kept q);replace D1:=hid (D1.out.kept q);replace H4:=hid (H4.out.kept q);replace H6:=hid (H6.out.kept q);obtain ⟨A7,c7,rfl,-,-⟩:=h7;clear q c0 c1 E2;obtain ⟨A4',c4',e4,-,g4⟩:=H4.out;injection e4 with e4 _ _
 subst e4;obtain ⟨b4,o4,rfl,k4⟩:=g4 (by simp);obtain ⟨x0,x1,x2,x3,x4,x5,s0,s1,s2,s3,s4,s5,hI4⟩:=k4 0 _ rfl;obtain ⟨_,_,_,_,_,_,hh4,d4,⟨t5,e5,-,-,-⟩⟩:=hI4;simp only [Value.agg.injEq,List.cons.injEq,Array.mk.injEq,and_true] at hh4;obtain ⟨rfl,rfl,rfl,rfl,rfl,rfl⟩:=hh4;simp only [Value.agg.injEq,List.cons.injEq,Array.mk.injEq,and_true] at e5;obtain ⟨rfl,rfl,rfl⟩:=e5;rw [Nat.zero_mul,Nat.add_zero] at s0 s1 s2 s5;obtain ⟨A6',c6',e6,-,g6⟩:=H6.out;injection e6 with e6 _ _
 subst e6;obtain ⟨b6,o6,rfl,k6⟩:=g6 (by simp);have r0:=k6 0 _ rfl;rw [Nat.add_zero] at r0;have F4:=hid (And.intro s0 (And.intro s1 (And.intro s2 s5)));have F6:=hid r0;have D4:=hid d4;clear s0 s1 s2 s3 s4 s5 d4 k4 k6 g4 g6 r0 H4 H6
 go_upto_region 7 with fail
 refine region_lin (m:=61) (V:=VL [(vE (.int .i64 0)),(vE (.bool true)),(vE (.bool true)),(vE (.slice (some ⟨b4,o4,none⟩) 2 c4)),(vE (.int .i64 2)),(vE (.bool true)),(vE (.bool true)),(vE (.bool true)),(vE (.slice (some ⟨b4,o4,none⟩) 2 c4)),(vE (.pointer (some ⟨b4,o4,none⟩))),(vE (.pointer (some ⟨b4,o4,none⟩))),(vE (.agg #[x0,x1,x2])),(vP n1 0),(vE (.agg #[.bool false,.slice A 1 c,.int .i64 0])),(vE (.bool true)),(vE (.bool true)),(vE (.bool true)),(vE (.slice (some ⟨b4,o4,none⟩) 2 c4)),(vE (.pointer (some ⟨b4,o4,none⟩))),(vE (.pointer (some ⟨b4,o4+3,none⟩))),(vE (.pointer (some ⟨b4,o4+5,none⟩))),(vE (.int .i64 1)),(vE (.bool true)),(vE (.bool true)),(vE (.bool true)),(vE (.slice (some ⟨b6,o6,none⟩) 1 c6)),(vE (.int .i64 1)),(vE (.bool true)),(vE (.bool true)),(vE (.bool true)),(vE (.slice (some ⟨b6,o6,none⟩) 1 c6)),(vE (.pointer (some ⟨b6,o6,none⟩))),(vE (.int .i64 1)),(vE (.bool true)),(vE (.bool true)),(vE (.bool true)),(vE (.agg #[.slice (some ⟨V1.heap.size,0,none⟩) 4 4,.slice (some ⟨V1.heap.size+1,0,none⟩) 2 2])),(fun v wv=>InS wv v []),(vE (.int .i64 0)),(vE (.bool true)),(vE (.bool true)),(vE (.bool true)),(vE (.int .i64 1)),(vE (.bool true)),(vE (.bool true)),(vE (.bool true)),(vE (.agg #[.slice (some ⟨V1.heap.size,0,none⟩) 4 4,.slice (some ⟨V1.heap.size+1,0,none⟩) 2 2])),(vE (.bool true)),(vE (.bool true)),(vE (.bool true)),(vE (.agg #[.slice (some ⟨V1.heap.size,0,none⟩) 4 4,.slice (some ⟨V1.heap.size+1,0,none⟩) 2 2])),(vE (.bool false)),(vE (.bool true)),(vE (.bool true)),(vE (.bool true)),(fun v wv=>InS wv v [0]),(fun v wv=>TpR wv v [] [0]),(vE (.bool false)),(vE (.bool true)),(vE (.bool true)),(vE (.bool true))])
  (by kernel_rfl) rfl (by kernel_rfl) (by kernel_rfl) (by kernel_rfl) (mono_of _ ⟨mE,mE,mE,mE,mE,mE,mE,mE,mE,mE,mE,mE,mE,mE,mE,mE,mE,mE,mE,mE,mE,mE,mE,mE,mE,mE,mE,mE,mE,mE,mE,mE,mE,mE,mE,mE,mE,fun v w w' k h=>by first | exact h | exact h.kept k | exact ⟨h.1,h.2.kept k⟩,mE,mE,mE,mE,mE,mE,mE,mE,mE,mE,mE,mE,mE,mE,mE,mE,mE,fun v w w' k h=>by first | exact h | exact h.kept k | exact ⟨h.1,h.2.kept k⟩,fun v w w' k h=>by first | exact h | exact h.kept k | exact ⟨h.1,h.2.kept k⟩,mE,mE,mE,mE,trivial⟩) (steps_of ⟨
    (fun aF wF F=>by have s5:aF.tmps.getD 5 undef=(.int .i64 0):=F.o 5;exact sv rfl),(fun aF wF F=>by have s42:=F.v 0 42;exact sv rfl),(fun aF wF F=>by have s43:=F.v 1 43;exact sv rfl),(fun aF wF F=>by have s4:aF.tmps.getD 4 undef=(.slice (some ⟨b4,o4,none⟩) 2 c4):=F.o 4;have sg:=F.v 2 44;exact step_val ((wanted_guard rfl rfl sg).trans rfl) (by go_simp) rfl),(fun aF wF F=>by have s45:=F.v 3 45;have sg:=F.v 2 44;exact step_val ((wanted_guard rfl rfl sg).trans rfl) (by go_simp) rfl),(fun aF wF F=>by have s46:=F.v 4 46;have sg:=F.v 2 44;exact step_val ((wanted_guard rfl rfl sg).trans rfl) (by go_simp) rfl),(fun aF wF F=>by have s44:=F.v 2 44;have s47:=F.v 5 47;exact sv rfl),(fun aF wF F=>by have s48:=F.v 6 48;exact sv rfl),(fun aF wF F=>by have s4:aF.tmps.getD 4 undef=(.slice (some ⟨b4,o4,none⟩) 2 c4):=F.o 4;have sg:=F.v 7 49;exact step_val ((wanted_guard rfl rfl sg).trans rfl) (by go_simp) rfl),(fun aF wF F=>by have s50:=F.v 8 50;have sg:=F.v 7 49;exact step_val ((wanted_guard rfl rfl sg).trans rfl) (by go_simp) rfl),(fun aF wF F=>by have s51:=F.v 9 51;have sg:=F.v 7 49;exact step_val ((wanted_guard rfl rfl sg).trans rfl) (by go_simp) rfl),(fun aF wF F=>by have s52:=F.v 10 52;have sg:=F.v 7 49;exact step_val ((wanted_guard rfl rfl sg).trans rfl) (by (have n0:=(F.kept.cell (p:=⟨b4,o4,none⟩) (lt_of_cell F4.out.1)).trans F4.out.1;have n1:=(F.kept.cell (p:=⟨b4,o4+1,none⟩) (lt_of_cell F4.out.2.1)).trans F4.out.2.1;have n2:=(F.kept.cell (p:=⟨b4,o4+2,none⟩) (lt_of_cell F4.out.2.2.1)).trans F4.out.2.2.1;go_simp)) rfl),(fun aF wF F=>by have s1:aF.tmps.getD 1 undef=(.pointer (some ⟨n1,0,none⟩)):=F.o 1;have sg:=F.v 7 49;exact step_val ((wanted_guard rfl rfl sg).trans rfl) (by go_simp) rfl),(fun aF wF F=>by have s54:=F.v 12 54;have c0:=cell_at B1.out F.kept 0 _ rfl;have c1:=cell_at B1.out F.kept 1 _ rfl;have c2:=cell_at B1.out F.kept 2 _ rfl;have sg:=F.v 7 49;exact step_val ((wanted_guard rfl rfl sg).trans rfl) (by go_simp) rfl),(fun aF wF F=>by have s53:=F.v 11 53;have s55:=F.v 13 55;have sg:=F.v 7 49;exact step_good ((wanted_guard rfl rfl sg).trans rfl) (by go_simp) (dsame_c (D4.out.kept F.kept) (D1.out.kept F.kept) (by decide)) (fun _ _ h=>RetK.good h) (fun _ _ h=>h)),(fun aF wF F=>by have s49:=F.v 7 49;have s56:=F.v 14 56;exact sv rfl),(fun aF wF F=>by have s57:=F.v 15 57;exact sv rfl),(fun aF wF F=>by have s4:aF.tmps.getD 4 undef=(.slice (some ⟨b4,o4,none⟩) 2 c4):=F.o 4;have sg:=F.v 16 58;exact step_val ((wanted_guard rfl rfl sg).trans rfl) (by go_simp) rfl),(fun aF wF F=>by have s59:=F.v 17 59;have sg:=F.v 16 58;exact step_val ((wanted_guard rfl rfl sg).trans rfl) (by go_simp) rfl),(fun aF wF F=>by have s60:=F.v 18 60;have sg:=F.v 16 58;exact step_val ((wanted_guard rfl rfl sg).trans rfl) (by go_simp) rfl),(fun aF wF F=>by have s61:=F.v 19 61;have sg:=F.v 16 58;exact step_val ((wanted_guard rfl rfl sg).trans rfl) (by go_simp) rfl),(fun aF wF F=>by have s62:=F.v 20 62;have sg:=F.v 16 58;exact step_val ((wanted_guard rfl rfl sg).trans rfl) (by (have n0:=(F.kept.cell (p:=⟨b4,o4+5,none⟩) (lt_of_cell F4.out.2.2.2)).trans F4.out.2.2.2;go_simp)) rfl),(fun aF wF F=>by have s63:=F.v 21 63;have sg:=F.v 16 58;exact step_val ((wanted_guard rfl rfl sg).trans rfl) (by go_simp) rfl),(fun aF wF F=>by have s58:=F.v 16 58;have s64:=F.v 22 64;exact sv rfl),(fun aF wF F=>by have s65:=F.v 23 65;exact sv rfl),(fun aF wF F=>by have s6:aF.tmps.getD 6 undef=(.slice (some ⟨b6,o6,none⟩) 1 c6):=F.o 6;have sg:=F.v 24 66;exact step_val ((wanted_guard rfl rfl sg).trans rfl) (by go_simp) rfl),(fun aF wF F=>by have s67:=F.v 25 67;have sg:=F.v 24 66;exact step_val ((wanted_guard rfl rfl sg).trans rfl) (by go_simp) rfl),(fun aF wF F=>by have s68:=F.v 26 68;have sg:=F.v 24 66;exact step_val ((wanted_guard rfl rfl sg).trans rfl) (by go_simp) rfl),(fun aF wF F=>by have s66:=F.v 24 66;have s69:=F.v 27 69;exact sv rfl),(fun aF wF F=>by have s70:=F.v 28 70;exact sv rfl),(fun aF wF F=>by have s6:aF.tmps.getD 6 undef=(.slice (some ⟨b6,o6,none⟩) 1 c6):=F.o 6;have sg:=F.v 29 71;exact step_val ((wanted_guard rfl rfl sg).trans rfl) (by go_simp) rfl),(fun aF wF F=>by have s72:=F.v 30 72;have sg:=F.v 29 71;exact step_val ((wanted_guard rfl rfl sg).trans rfl) (by go_simp) rfl),(fun aF wF F=>by have s73:=F.v 31 73;have sg:=F.v 29 71;exact step_val ((wanted_guard rfl rfl sg).trans rfl) (by (have n0:=(F.kept.cell (p:=⟨b6,o6,none⟩) (lt_of_cell F6.out)).trans F6.out;go_simp)) rfl),(fun aF wF F=>by have s74:=F.v 32 74;have sg:=F.v 29 71;exact step_val ((wanted_guard rfl rfl sg).trans rfl) (by go_simp) rfl),(fun aF wF F=>by have s71:=F.v 29 71;have s75:=F.v 33 75;exact sv rfl),(fun aF wF F=>by have s76:=F.v 34 76;exact sv rfl),(fun aF wF F=>by have s2:aF.tmps.getD 2 undef=(.pointer (some ⟨n2,0,none⟩)):=F.o 2;have c0:=cell_at B2.out F.kept 0 _ rfl;have c1:=cell_at B2.out F.kept 1 _ rfl;have sg:=F.v 35 77;exact step_val ((wanted_guard rfl rfl sg).trans rfl) (by go_simp) rfl),(fun aF wF F=>by have s78:=F.v 36 78;have sg:=F.v 35 77;exact step_good ((wanted_guard rfl rfl sg).trans rfl) (by go_simp) (U0.out _ _ (T2.out.kept F.kept)) (fun _ _ h=>RetN.good h) (fun _ _ h=>h)),(fun aF wF F=>by have s79:=F.p 37 79;have sg:=F.v 35 77;exact step_val ((wanted_guard rfl rfl sg).trans rfl) (by (obtain ⟨A9,c9,e9,-,-⟩:=s79;simp only [Array.getD_eq_getD_getElem?] at e9;go_simp)) rfl),(fun aF wF F=>by have s80:=F.v 38 80;have sg:=F.v 35 77;exact step_val ((wanted_guard rfl rfl sg).trans rfl) (by go_simp) rfl),(fun aF wF F=>by have s77:=F.v 35 77;have s81:=F.v 39 81;exact sv rfl),(fun aF wF F=>by have s82:=F.v 40 82;exact sv rfl),(fun aF wF F=>by have s8:aF.tmps.getD 8 undef=(.int .i64 1):=F.o 8;have sg:=F.v 41 83;exact step_val ((wanted_guard rfl rfl sg).trans rfl) (by go_simp) rfl),(fun aF wF F=>by have s84:=F.v 42 84;have sg:=F.v 41 83;exact step_val ((wanted_guard rfl rfl sg).trans rfl) (by go_simp) rfl),(fun aF wF F=>by have s83:=F.v 41 83;have s85:=F.v 43 85;exact sv rfl),(fun aF wF F=>by have s86:=F.v 44 86;exact sv rfl),(fun aF wF F=>by have s2:aF.tmps.getD 2 undef=(.pointer (some ⟨n2,0,none⟩)):=F.o 2;have c0:=cell_at B2.out F.kept 0 _ rfl;have c1:=cell_at B2.out F.kept 1 _ rfl;have sg:=F.v 45 87;exact step_val ((wanted_guard rfl rfl sg).trans rfl) (by go_simp) rfl),(fun aF wF F=>by have s88:=F.v 46 88;have sg:=F.v 45 87;exact step_good ((wanted_guard rfl rfl sg).trans rfl) (by go_simp) (M1.out _ _ (T2.out.kept F.kept)) (fun _ _ h=>RetK.good h) (fun _ _ h=>h)),(fun aF wF F=>by have s87:=F.v 45 87;have s89:=F.v 47 89;exact sv rfl),(fun aF wF F=>by have s90:=F.v 48 90;exact sv rfl),(fun aF wF F=>by have s2:aF.tmps.getD 2 undef=(.pointer (some ⟨n2,0,none⟩)):=F.o 2;have c0:=cell_at B2.out F.kept 0 _ rfl;have c1:=cell_at B2.out F.kept 1 _ rfl;have sg:=F.v 49 91;exact step_val ((wanted_guard rfl rfl sg).trans rfl) (by go_simp) rfl),(fun aF wF F=>by have s92:=F.v 50 92;have sg:=F.v 49 91;exact step_good ((wanted_guard rfl rfl sg).trans rfl) (by go_simp) (M2.out _ _ (T2.out.kept F.kept)) (fun _ _ h=>RetK.good h) (fun _ _ h=>h)),(fun aF wF F=>by have s93:=F.v 51 93;have sg:=F.v 49 91;exact step_val ((wanted_guard rfl rfl sg).trans rfl) (by go_simp) rfl),(fun aF wF F=>by have s91:=F.v 49 91;have s94:=F.v 52 94;exact sv rfl),(fun aF wF F=>by have s95:=F.v 53 95;exact sv rfl),(fun aF wF F=>by have sg:=F.v 54 96;exact step_new ((wanted_guard rfl rfl sg).trans rfl) (by first | (go_simp;done) | (go_simp;rfl)) (kept_alloc _ _) (inS_blkB (ns:=[0]) (heap_alloc_new _ _))),(fun aF wF F=>by have s97:=F.p 55 97;have sg:=F.v 54 96;have hs:=s97;obtain ⟨A9,c9,e9,-,-⟩:=s97;rw [e9] at hs;simp only [Array.getD_eq_getD_getElem?] at e9;exact step_val ((wanted_guard rfl rfl sg).trans rfl) (by go_simp) ⟨_,_,rfl,⟨none,0,rfl,Nat.le_refl _,fun h=>absurd h (by simp)⟩,hs⟩),(fun aF wF F=>by have s98:=F.p 56 98;have sg:=F.v 54 96;exact step_good ((wanted_guard rfl rfl sg).trans rfl) (by go_simp) (M3.out _ _ s98) (fun _ _ h=>RetK.good h) (fun _ _ h=>h)),(fun aF wF F=>by have s99:=F.v 57 99;have sg:=F.v 54 96;exact step_val ((wanted_guard rfl rfl sg).trans rfl) (by go_simp) rfl),(fun aF wF F=>by have s96:=F.v 54 96;have s100:=F.v 58 100;exact sv rfl),(fun aF wF F=>by have s101:=F.v 59 101;exact sv rfl),
    trivial⟩) ?_
 intro u w8 q hu;have p79:=hp hu 37;have p97:=hp hu 55;have p98:=hp hu 56;simp only [puts,slotOf,if_true,Act.put,z1,z2,z3,z4,z5,z6,z7,hv hu 0,hv hu 1,hv hu 2,hv hu 3,hv hu 4,hv hu 5,hv hu 6,hv hu 7,hv hu 8,hv hu 9,hv hu 10,hv hu 11,hv hu 12,hv hu 13,hv hu 14,hv hu 15,hv hu 16,hv hu 17,hv hu 18,hv hu 19,hv hu 20,hv hu 21,hv hu 22,hv hu 23,hv hu 24,hv hu 25,hv hu 26,hv hu 27,hv hu 28,hv hu 29,hv hu 30,hv hu 31,hv hu 32,hv hu 33,hv hu 34,hv hu 35,hv hu 36,hv hu 38,hv hu 39,hv hu 40,hv hu 41,hv hu 42,hv hu 43,hv hu 44,hv hu 45,hv hu 46,hv hu 47,hv hu 48,hv hu 49,hv hu 50,hv hu 51,hv hu 52,hv hu 53,hv hu 54,hv hu 57,hv hu 58,hv hu 59,hv hu 60]
 clear hu;generalize u 37=v79 at *;generalize u 55=v97 at *;generalize u 56=v98 at *;go_wp2_with fail;go_ret;exact ⟨rfl,K.out.trans q⟩
theorem nb_ofT (p:Int)(c m:Nat)(hm:0<m)(hs:c+m≤1000):∃ n:Nat,wrap64 ((c:Int)+wrap64 ((IntKind.u64.wrap p).tmod (m:Int)))=(n:Int)∧c≤n∧n<c+m:=by
 rw [IntKind.wrap_u64];have h0:0≤p%18446744073709551616:=Int.emod_nonneg _ (by decide);rw [Int.tmod_eq_emod_of_nonneg h0];have h1:0≤p%18446744073709551616%(m:Int):=Int.emod_nonneg _ (by omega);have h2:p%18446744073709551616%(m:Int)<m:=Int.emod_lt_of_pos _ (by omega);generalize p%18446744073709551616%(m:Int)=x at *;refine ⟨(c+x).toNat,?_,by omega,by omega⟩;unfold wrap64;omega
theorem lens_mono {a:RawI}{k m:Nat}(h:a.lens k)(hk:k≤m):a.lens m:=⟨Nat.le_trans h.1 hk,Nat.le_trans h.2 hk⟩
theorem fewE_lens {e:En}(h:fewE e=true):EnLens e∧e.x.length≤8∧e.u.length≤8∧e.p.length≤8∧e.t.lens 6∧(∀ a∈e.x,a.lens 6)∧(∀ a∈e.u,a.lens 6)∧∀ a∈e.p,a.lens 6:=by
 unfold fewE at h;simp only [Bool.and_eq_true] at h;obtain ⟨⟨⟨h1,h2⟩,h3⟩,h4⟩:=h;obtain ⟨-,a1⟩:=fewR_facts h1;obtain ⟨l2,a2⟩:=fewR_facts h2;obtain ⟨l3,a3⟩:=fewR_facts h3;obtain ⟨l4,a4⟩:=fewR_facts h4;have at':=a1 e.t (by simp);exact ⟨⟨lens_mono at' (by decide),fun a ha=>lens_mono (a2 a ha) (by decide),fun a ha=>lens_mono (a3 a ha) (by decide),fun a ha=>lens_mono (a4 a ha) (by decide),by omega,by omega,by omega⟩,l2,l3,l4,at',a2,a3,a4⟩
def SA (_:Int):Prop:=True
theorem opsA:OpsC SA:=⟨fun _ _ _ _ _ _ _=>Add_k,fun _ _ _ _ _ _ _=>Sub_k,fun _ _ _ _ _ _ _=>Mul_k,fun _ _ _ _ _ _ _=>Div_k,fun _ _ _ _ _=>Neg_k,fun _ _ _ _ _=>Sqr_k,fun _ _ _ _ _=>Sqrt_k⟩
theorem LnS.take {w:World}{A:Option Addr}{c:Nat}{ls:List Ln}(h:LnS w (.slice A ls.length c) ls){k:Nat}(hk:k≤ls.length):LnS w (.slice A k c) (ls.take k):=by
 obtain ⟨A',c',e,hc,hA⟩:=h;injection e with e1 e2 e3
 subst e1 e3;have hl:(ls.take k).length=k:=by rw [List.length_take];omega
 refine ⟨A,c,by rw [hl],by omega,fun h0=>?_⟩;obtain ⟨b,off,rfl,hd⟩:=hA (by omega);refine ⟨b,off,rfl,fun i l hi=>hd i l ?_⟩;have:=(List.getElem?_eq_some_iff.1 hi).1
 rwa [List.getElem?_take_of_lt (by omega)] at hi
theorem IvS.take {w:World}{A:Option Addr}{n c:Nat}{l:List RawI}(h:IvS w (.slice A n c) l){k:Nat}(hk:k≤l.length):IvS w (.slice A k c) (l.take k):=by
 obtain ⟨A',c',e,hc,hA⟩:=h;injection e with e1 e2 e3
 subst e1 e3;have hl:(l.take k).length=k:=by rw [List.length_take];omega
 refine ⟨A,c,by rw [hl],by omega,fun h0=>?_⟩;obtain ⟨b,off,rfl,hd⟩:=hA (by omega);refine ⟨b,off,rfl,fun i a hi=>hd i a ?_⟩;have:=(List.getElem?_eq_some_iff.1 hi).1
 rwa [List.getElem?_take_of_lt (by omega)] at hi
theorem lines_cl {e:En}{p:Nat}(he:e.Cl)(p1:1≤p)(p2:p≤300):∀ (ls:List Ln) (out:List RawI),(∀ l∈ls,l.op=1→l.k.iv.Ok)→Cl out→Cl (linesI ovI e p out ls).v
 | [],out,_,ho=>ho
 | l :: ls, out, hk, ho => by
   rw [linesI]
   split
   ·exact lines_cl he p1 p2 ls _ (fun l hl=>hk l (List.mem_cons_of_mem _ hl)) (line_cl he ho (hk l (List.mem_cons_self ..)) p1 p2)
   ·intro a ha;cases ha
theorem env_cl {w:World}{ve:Value}{e:En}(he:EnR w ve e)(h:mayE e=true):e.Cl:=by
 obtain ⟨x0,x1,x2,x3,x4,x5,sx,su,sp,rfl,ht,hx,hu,hp⟩:=he;unfold mayE at h;simp only [Bool.and_eq_true] at h;exact ⟨ht.clean h.1.1.1,hx.cl h.1.1.2,hu.cl h.1.2,hp.cl h.2⟩
theorem const_ok {w:World}{vt:Value}{ls:List Ln}{outs:List Int}{x u p:Int}(hv:TpR w vt ls outs)(h:mayT ls outs x u p=true):∀ l∈ls,l.op=1→l.k.iv.Ok∧l.k.iv.raw=l.k:=by
 obtain ⟨s,o,rfl,⟨A,c,rfl,hc,hA⟩,-⟩:=hv;intro l hl h1;obtain ⟨i,hi⟩:=List.getElem?_of_mem hl;obtain ⟨b,off,rfl,hd⟩:=hA (by have:=(List.getElem?_eq_some_iff.1 hi).1;omega);obtain ⟨-,-,-,y0,y1,y2,y3,y4,y5,-,-,-,-,-,-,hI⟩:=hd i l hi;exact hI.clean (mayT_const h l hl h1)
theorem tape_cl {w:World}{vt ve:Value}{ls:List Ln}{outs:List Int}{e:En}{n:Nat}(hv:TpR w vt ls outs)(he:EnR w ve e)(h:(tapeI ovI ls outs e n).k=0):e.Cl∧(∀ l∈ls,l.op=1→l.k.iv.Ok)∧Cl (tapeI ovI ls outs e n).v:=by
 obtain ⟨h1,h2,h3⟩:=tapeI_good h;have c1:=env_cl he h1.2.2.2;have c2:=fun l hl h0=>(const_ok hv h1.2.2.1 l hl h0).1
 refine ⟨c1,c2,?_⟩;rw [h3];exact lines_cl c1 (by omega) (by omega) ls [] c2 (fun a ha=>by cases ha)
theorem bits_of (q:Int)(n:Nat)(h1:2≤n)(h2:n≤900):∃ m:Nat,wrap64 (2+wrap64 ((IntKind.u64.wrap q).tmod ((n:Int)-1)))=(m:Int)∧2≤m∧m≤n:=by
 obtain ⟨m,e,a,b⟩:=nb_ofT q 2 (n-1) (by omega) (by omega);refine ⟨m,?_,a,by omega⟩;rw [←e];have:((n-1:Nat):Int)=(n:Int)-1:=by omega
 rw [this]
 rfl
theorem bits_law {ls:List Ln}{outs:List Int}{e:En}{n m:Nat}(h:(tapeI ovI ls outs e n).k=0)(h':(tapeI ovI ls outs e m).k=0)(he:e.Cl)(hk:∀ l∈ls,l.op=1→l.k.iv.Ok)(m1:1≤m)(hn:m≤n)(n2:n≤300) :
 LW (tapeI ovI ls outs e n).v (tapeI ovI ls outs e m).v∧Cl (tapeI ovI ls outs e n).v∧Cl (tapeI ovI ls outs e m).v:=by
 obtain ⟨-,-,h3⟩:=tapeI_good h;obtain ⟨-,-,h3'⟩:=tapeI_good h';rw [h3] at h ⊢;rw [h3'] at h' ⊢;exact (lines_win he he (.refl e) m1 hn n2 ls [] [] hk (fun a ha=>by cases ha) (fun a ha=>by cases ha) (LW.refl _) h').2 h
theorem wi_c {w:World}{v u:Value}{a b:RawI}(hv:IvR w v a)(hu:IvR w u b)(ha:a.iv.Ok∧a.iv.raw=a)(hb:b.iv.Ok∧b.iv.raw=b)(h:Wth a.iv b.iv) :
 Calls Tryz.prog 16 #[v,u] w (RetK (.bool true) w):=qwithin_c (hv.ivC ha.2) (hu.ivC hb.2) ha.1 hb.1 h.1 h.2
theorem tbits_c {w:World}{vt ve:Value}{ls:List Ln}{outs:List Int}{e:En}{p q0:Int}(hv:TpR w vt ls outs)(he:EnR w ve e)(hok:LnOk ls)(hn:ls.length≤1000000000000000)(hno:outs.length≤1000000000000000)(hle:EnBig e)(hT:Tab w) :
 Calls Tryz.prog 9 #[vt,ve,.int .i64 p,.int .i64 q0] w (RetK (.bool true) w):=by
 have T:=hid hT;have HTP:=hid hv;have HEN:=hid he;have OK:=hid hok;have FC:=hid (fun w1 (k:Kept w w1)=>few_c (hv.kept k) hn hno hok);have EC:=hid (fun w1 (k:Kept w w1)=>envF_c (he.kept k) hle);obtain ⟨s,o,rfl,hls,hou⟩:=hv;obtain ⟨x0,x1,x2,x3,x4,x5,sx,su,sp,rfl,ht,hx,hu,hp⟩:=he;have HLS:=hid hls;have HO:=hid hou;obtain ⟨A,c,rfl,hc,-⟩:=hls;obtain ⟨B,d,rfl,hd,-⟩:=hou;obtain ⟨AX,cx,rfl,-,-⟩:=hx;obtain ⟨AU,cu,rfl,-,-⟩:=hu;obtain ⟨AP,cp,rfl,-,-⟩:=hp;obtain ⟨W,hW,kW,hb,hb',lW⟩:=box2te w (.slice A ls.length c) (.slice B outs.length d) x0 x1 x2 x3 x4 x5 (.slice AX e.x.length cx) (.slice AU e.u.length cu) (.slice AP e.p.length cp)
 have HW:=hid hW;have K:=hid kW;have HB:=hid hb;have HB':=hid hb';obtain ⟨c0,c1⟩:=cells2 hb;obtain ⟨bf,hbf⟩:∃ b,fewT ls outs=b:=⟨_,rfl⟩;rw [hbf] at FC;obtain ⟨be,hbe⟩:∃ b,fewE e=b:=⟨_,rfl⟩;rw [hbe] at EC;have HBF:=hid hbf;have HBE:=hid hbe;clear hT hok hn hno hle ht hW kW hb hb' hbf hbe
 go_enter Tryz.func9,Tryz.ntmps9
 go_upto_region 1 with fail
 rw [←HW.out];go_wp2_with fail;refine (FC.out _ K.out).mono ?_;rintro ee w1 ⟨rfl,q⟩;simp only [];replace K:=hid (K.out.trans q);replace HB:=hid (blk_kept HB.out q);replace HB':=hid (blk_kept HB'.out q);clear q c0 c1 HW FC;obtain ⟨d0,d1,d2,d3,d4,d5,d6,d7,d8⟩:=ln_cells HB'.out;cases bf
 ·go_wp2_with fail;refine (told8_c (T.out.kept K.out) opsA trivial).mono ?_;rintro ee w2 ⟨rfl,q⟩;simp only [];go_wp2_with fail;go_ret;exact ⟨rfl,K.out.trans q⟩
 go_wp2_with fail;refine (EC.out _ K.out).mono ?_;rintro ee w2 ⟨rfl,q⟩;simp only [];replace K:=hid (K.out.trans q);replace HB:=hid (blk_kept HB.out q);replace HB':=hid (blk_kept HB'.out q);clear q d0 d1 d2 d3 d4 d5 d6 d7 d8 EC;cases be
 ·go_wp2_with fail;refine (told8_c (T.out.kept K.out) opsA trivial).mono ?_;rintro ee w3 ⟨rfl,q⟩;simp only [];go_wp2_with fail;go_ret;exact ⟨rfl,K.out.trans q⟩
 obtain ⟨l40,o12,lk⟩:=fewT_facts HBF.out;have LE:=hid (fewE_lens HBE.out).1;obtain ⟨n,hnb,n1,n2⟩:=nb_ofT p 2 79 (by decide) (by decide);have hnb':wrap64 (2+wrap64 ((IntKind.u64.wrap p).tmod 79))=(n:Int):=hnb;obtain ⟨m,hmb,m1,m2⟩:=bits_of q0 n n1 (by omega);have NM:=hid (And.intro n2 (And.intro m1 m2));have LC:=hid (fun w1 (k:Kept w w1)=>lines_c (ov:=ovI) (p:=(n:Int)) (HTP.out.kept k) (HEN.out.kept k) OK.out LE.out (by omega) (by omega) (T.out.kept k) (fun _ _ _=>over_ov) opsA (fun _ _ _ _=>trivial));have LM:=hid (fun w1 (k:Kept w w1)=>lines_c (ov:=ovI) (p:=(m:Int)) (HTP.out.kept k) (HEN.out.kept k) OK.out LE.out (by omega) (by omega) (T.out.kept k) (fun _ _ _=>over_ov) opsA (fun _ _ _ _=>trivial))
 obtain ⟨G,hG⟩:∃ G,tapeI ovI ls outs e n=G:=⟨_,rfl⟩;obtain ⟨M,hM⟩:∃ M,tapeI ovI ls outs e m=M:=⟨_,rfl⟩;have HG:=hid hG;have HM:=hid hM;rw [hG] at LC;rw [hM] at LM;have hw1:wrap64 ((n:Int)-1)=(n:Int)-1:=by unfold wrap64;omega
 have hw2:IntKind.u64.wrap ((n:Int)-1)=(n:Int)-1:=by rw [IntKind.wrap_u64];omega
 have hw3:((n:Int)-1==0)=false:=by simp;omega
 have hw4:¬(n:Int)-1=0:=by omega
 have HMB:=hid hmb;clear hnb hG hM hmb;obtain ⟨c0,c1⟩:=cells2 HB.out;obtain ⟨d0,d1,d2,d3,d4,d5,d6,d7,d8⟩:=ln_cells HB'.out
 go_upto_region 4 with fail
 simp only [hnb'];clear hnb'
 go_upto_region 5 with fail

 simp only [HMB.out];clear hw1 hw2 hw3 hw4 HMB;go_wp2_with fail;refine (LC.out _ K.out).mono ?_;rintro ee w3 ⟨q,v3,rfl,h3⟩;simp only [];replace K:=hid (K.out.trans q);replace HB:=hid (blk_kept HB.out q);replace HB':=hid (blk_kept HB'.out q);have H3:=hid h3;obtain ⟨A3,c3,rfl,hc3,-⟩:=h3;clear q c0 c1 d0 d1 d2 d3 d4 d5 d6 d7 d8 LC;obtain ⟨c0,c1⟩:=cells2 HB.out;obtain ⟨d0,d1,d2,d3,d4,d5,d6,d7,d8⟩:=ln_cells HB'.out;go_wp2_with fail;refine (LM.out _ K.out).mono ?_;rintro ee w4 ⟨q,v4,rfl,h4⟩;simp only [];replace K:=hid (K.out.trans q);replace H3:=hid (H3.out.kept q);have H4:=hid h4;obtain ⟨A4,c4,rfl,hc4,-⟩:=h4
 clear q c0 c1 d0 d1 d2 d3 d4 d5 d6 d7 d8 LM HB HB'
 by_cases hk:G.k=0
 ·by_cases hk' : M.k = 0
  ·obtain ⟨ec, kc, -⟩ := tape_cl HTP.out HEN.out (by rw [HG.out]; exact hk);have hlaw:=bits_law (by rw [HG.out];exact hk) (by rw [HM.out];exact hk') ec kc (by have:=NM.out;omega) (by have:=NM.out;omega) (by have:=NM.out;omega);rw [HG.out,HM.out] at hlaw;have hlv:G.v.length=ls.length:=by
    have:=tapeI_good (by rw [HG.out];exact hk);rw [HG.out] at this;exact this.2.1
   have hlm:M.v.length=ls.length:=hlaw.1.1▸hlv;rw [hlv,hlm];have LAW:=hid hlaw;have gk:(G.k != 0)=false:=by simp [hk]
   have gm:(M.k != 0)=false:=by simp [hk']
   have L40:=hid (And.intro l40 (And.intro hlv hlm));clear hk hk' ec kc hlaw hlv hlm;go_wp2_with fail;clear gk gm
   go_loopw [15] (fun t wr=>∃ i:Nat,i≤ls.length∧t=.int .i64 i∧Kept w4 wr) (fun t _=>(ls.length-intOf t).toNat)
   case atStart=>exact ⟨0,Nat.zero_le _,rfl,Below.refl _ _⟩
   case round =>
    obtain ⟨i,hi,rfl,hkr⟩:=hrel;have KR:=hid hkr;clear hkr
    by_cases hin:i<ls.length
    ·obtain ⟨b3, o3, ra, rfl, -, hra, hat3⟩ := (H3.out.kept KR.out).at (i := i) (by have := L40.out; omega);obtain ⟨b4,o4,rb,rfl,-,hrb,hat4⟩:=(H4.out.kept KR.out).at (i:=i) (by have:=L40.out;omega);have hw:=LAW.out.1.2 (i:Int);unfold atI at hw;rw [List.getD_eq_getElem?_getD,List.getD_eq_getElem?_getD,Int.toNat_natCast,hra,hrb] at hw;have I3:=hid (fun w1 (q:Kept wr w1)=>hat3.kept q);have I4:=hid (fun w1 (q:Kept wr w1)=>hat4.kept q);have WC:=hid (fun w1 v u (hv:IvR w1 v ra) (hu:IvR w1 u rb)=>wi_c hv hu (LAW.out.2.1 ra (List.mem_of_getElem? hra)) (LAW.out.2.2 rb (List.mem_of_getElem? hrb)) hw);have HI:=hid hin
     clear hat3 hat4 hra hrb hw;go_wp2_with fail
     refine region_lin (m:=10) (V:=VL [(vE (.slice (some ⟨b3,o3,none⟩) ls.length c3)),(vE (.int .i64 (i:Int))),(vE (.pointer (some ⟨b3,o3+i*6,none⟩))),(fun v wv=>IvR wv v ra),(vE (.slice (some ⟨b4,o4,none⟩) ls.length c4)),(vE (.int .i64 (i:Int))),(vE (.pointer (some ⟨b4,o4+i*6,none⟩))),(fun v wv=>IvR wv v rb),(vE (.bool true)),(vE (.bool false))])
      (by kernel_rfl) rfl (by kernel_rfl) (by kernel_rfl) (by kernel_rfl) (mono_of _ ⟨mE,mE,mE,fun v w w' k h=>by first | exact h | exact h.kept k | exact ⟨h.1,h.2.kept k⟩,mE,mE,mE,fun v w w' k h=>by first | exact h | exact h.kept k | exact ⟨h.1,h.2.kept k⟩,mE,mE,trivial⟩) (steps_of ⟨
        (fun aF wF F=>by have s11:aF.tmps.getD 11 undef=(.slice (some ⟨b3,o3,none⟩) ls.length c3):=F.o 11;exact sv rfl),(fun aF wF F=>by have s15:aF.tmps.getD 15 undef=(.int .i64 (i:Int)):=F.o 15;exact sv rfl),(fun aF wF F=>by have s71:=F.v 0 71;have s72:=F.v 1 72;exact sw (by (have hi9:=HI.out;first | (go_simp;done) | (go_simp;omega))) rfl),(fun aF wF F=>by have s73:=F.v 2 73;obtain ⟨xx,yy,zz,xx',yy',zz',h0,h1,h2,h3,h4,h5,hI⟩:=(I3.out _ F.kept);exact step_val (by simp [Region.wanted]) (by go_simp) hI),(fun aF wF F=>by have s13:aF.tmps.getD 13 undef=(.slice (some ⟨b4,o4,none⟩) ls.length c4):=F.o 13;exact sv rfl),(fun aF wF F=>by have s15:aF.tmps.getD 15 undef=(.int .i64 (i:Int)):=F.o 15;exact sv rfl),(fun aF wF F=>by have s75:=F.v 4 75;have s76:=F.v 5 76;exact sw (by (have hi9:=HI.out;first | (go_simp;done) | (go_simp;omega))) rfl),(fun aF wF F=>by have s77:=F.v 6 77;obtain ⟨xx,yy,zz,xx',yy',zz',h0,h1,h2,h3,h4,h5,hI⟩:=(I4.out _ F.kept);exact step_val (by simp [Region.wanted]) (by go_simp) hI),(fun aF wF F=>by have s74:=F.p 3 74;have s78:=F.p 7 78;exact sK (WC.out _ _ _ s74 s78) fun _ _ h=>h),(fun aF wF F=>by have s79:=F.v 8 79;exact sv rfl),
        trivial⟩) ?_
     intro u w7 q hu;have p74:=hp hu 3;have p78:=hp hu 7;simp only [puts,slotOf,if_true,Act.put,z1,z2,z3,z4,z5,z6,z7,hv hu 0,hv hu 1,hv hu 2,hv hu 4,hv hu 5,hv hu 6,hv hu 8,hv hu 9];clear hu;generalize u 3=v74 at *;generalize u 7=v78 at *;clear p74 p78;have K7:=hid (KR.out.trans q);clear q;go_wp2_with fail
     go_roundw
     case rel=>exact ⟨i+1,by have:=HI.out;omega,by have:=L40.out;have:=HI.out;go_num,K7.out⟩
     case measure=>simp only [intOf];have:=HI.out;omega
    ·obtain rfl : ls.length = i := by omega
     go_wp2_with fail;refine (told8_c (T.out.kept (K.out.trans KR.out)) opsA trivial).mono ?_;rintro ee w7 ⟨rfl,q⟩;simp only [];go_wp2_with fail;go_ret;exact ⟨rfl,(K.out.trans KR.out).trans q⟩
  ·have gk : (G.k != 0) = false := by simp [hk]
   have gm:(M.k != 0)=true:=by simp [hk']
   clear hk hk';go_wp2_with fail;refine (told8_c (T.out.kept K.out) opsA trivial).mono ?_;rintro ee w5 ⟨rfl,q⟩;simp only [];go_wp2_with fail;go_ret;exact ⟨rfl,K.out.trans q⟩
 ·have gk : (G.k != 0) = true := by simp [hk]
  clear hk;go_wp2_with fail;refine (told8_c (T.out.kept K.out) opsA trivial).mono ?_;rintro ee w5 ⟨rfl,q⟩;simp only [];go_wp2_with fail;go_ret;exact ⟨rfl,K.out.trans q⟩
end Go.Proofs.YtabjjdicffcolaaGreatDoor
