/- Laws of layer 8: what they share; TapeFront. -/
import Derived.Test.YtabjjdicffcolaaGreatDoorClaimTusesp40
import Derived.Test.YtabjjdicffcolaaGreatDoorClaimTusesp41
import Derived.Test.YtabjjdicffcolaaGreatDoorClaimTusesp42
set_option maxRecDepth 100000
set_option maxHeartbeats 16000000
namespace Go.Proofs.YtabjjdicffcolaaGreatDoor
open Go.Lib (hid)
open Go.RowKit
theorem Ab6 {w:World}{b n:Nat}{T:TypeId}(hn:n<18446744073709551616)(h:w.heap[b]?=some (.cells #[.int .u64 (n:Int)] T (0,0))):Lim w (.slice (some ⟨b,0,none⟩) 1 1) [n]:=by
 refine ⟨fun x hx=>by simp at hx;omega,some ⟨b,0,none⟩,1,rfl,Nat.le_refl _,fun _=>⟨b,0,rfl,(Array.getElem?_eq_some_iff.1 h).1,fun i hi=>?_⟩⟩;have hi:i<1:=hi;obtain rfl:i=0:=by omega
 exact Ae h 0 _ rfl
theorem Ac0 {w:World}{b:Nat}{cs:Array Value}{T:TypeId}{ls:List Ln}(h:w.heap[b]?=some (.cells cs T (0,0)))(hc:RowC (CellL w) cs.toList ls):LnS w (.slice (some ⟨b,0,none⟩) ls.length ls.length) ls:=by
 refine ⟨_,_,rfl,Nat.le_refl _,fun _=>⟨b,0,rfl,fun i a hi=>?_⟩⟩;obtain ⟨cc,⟨x,y,z,x',y',z',rfl,hI⟩,hj⟩:=hc.at CellL.len i a hi;rw [Nat.zero_add];have hcl:∀ (j:Nat) u,cs.toList[j]?=some u→w.cell? ⟨b,j,none⟩=some u:=fun j u hu=>Ae h j u (by rwa [Array.getElem?_toList] at hu)
 exact ⟨hcl _ _ (hj 0 (by decide)),hcl _ _ (hj 1 (by decide)),hcl _ _ (hj 2 (by decide)),x,y,z,x',y',z',hcl _ _ (hj 3 (by decide)),hcl _ _ (hj 4 (by decide)),hcl _ _ (hj 5 (by decide)),hcl _ _ (hj 6 (by decide)),hcl _ _ (hj 7 (by decide)),hcl _ _ (hj 8 (by decide)),hI⟩
theorem Wf {w:World}{b:Nat}{cs:Array Value}{T:TypeId}{l:List RawI}(h:w.heap[b]?=some (.cells cs T (0,0)))(hc:RowC (CellI w) cs.toList l):IvS w (.slice (some ⟨b,0,none⟩) l.length l.length) l:=by
 refine ⟨_,_,rfl,Nat.le_refl _,fun _=>⟨b,0,rfl,fun i a hi=>?_⟩⟩;obtain ⟨cc,⟨x,y,z,x',y',z',rfl,hI⟩,hj⟩:=hc.at CellI.len i a hi;rw [Nat.zero_add];have hcl:∀ (j:Nat) u,cs.toList[j]?=some u→w.cell? ⟨b,j,none⟩=some u:=fun j u hu=>Ae h j u (by rwa [Array.getElem?_toList] at hu)
 exact ⟨x,y,z,x',y',z',hcl _ _ (hj 0 (by decide)),hcl _ _ (hj 1 (by decide)),hcl _ _ (hj 2 (by decide)),hcl _ _ (hj 3 (by decide)),hcl _ _ (hj 4 (by decide)),hcl _ _ (hj 5 (by decide)),hI⟩
theorem Wo {w:World}{b:Nat}{T:TypeId}{ns:List Int}(h:w.heap[b]?=some (.cells (ns.map (Value.int .i64)).toArray T (0,0))):InS w (.slice (some ⟨b,0,none⟩) ns.length ns.length) ns :=
 ⟨_,_,rfl,Nat.le_refl _,fun _=>⟨b,0,rfl,fun i n hn=>by rw [Nat.zero_add];exact Ae h i _ (by simp [hn])⟩⟩
theorem Qc (w:World)(op a b:Int):CellL w [.int .i64 op,.int .i64 a,.int .i64 b,.bool false,.slice none 0 0,.int .i64 0,.bool false,.slice none 0 0,.int .i64 0] ⟨op,a,b,rzI⟩:=⟨_,_,_,_,_,_,rfl,_,_,_,_,_,_,rfl,Bv _,Bv _⟩
theorem Ajv (w:World){A A':Option Addr}{l c l' c':Nat}(h:IvR w (.agg #[.bool false,.slice A l c,.int .i64 0,.bool false,.slice A' l' c',.int .i64 0]) o1R):∃ V,V=((w.alloc (.cells #[.int .i64 3,.int .i64 0,.int .i64 0,.bool false,.slice none 0 0,.int .i64 0,.bool false,.slice none 0 0,.int .i64 0,.int .i64 1,.int .i64 0,.int .i64 0,.bool false,.slice A l c,.int .i64 0,.bool false,.slice A' l' c',.int .i64 0,.int .i64 6,.int .i64 0,.int .i64 1,.bool false,.slice none 0 0,.int .i64 0,.bool false,.slice none 0 0,.int .i64 0,.int .i64 4,.int .i64 1,.int .i64 0,.bool false,.slice none 0 0,.int .i64 0,.bool false,.slice none 0 0,.int .i64 0] 52)).alloc
 (.cells #[.int .i64 2,.int .i64 3] 3)).alloc (.cells #[.slice (some ⟨w.heap.size,0,none⟩) 4 4,.slice (some ⟨w.heap.size+1,0,none⟩) 2 2] 25)∧Kept w V ∧
 V.heap[w.heap.size+1+1]?=some (.cells #[.slice (some ⟨w.heap.size,0,none⟩) 4 4,.slice (some ⟨w.heap.size+1,0,none⟩) 2 2] 25 (0,0)) ∧
 TpR V (.agg #[.slice (some ⟨w.heap.size,0,none⟩) 4 4,.slice (some ⟨w.heap.size+1,0,none⟩) 2 2]) t8L [2,3]:=by
 obtain ⟨w1,h1⟩:∃ w1,w1=w.alloc (.cells #[.int .i64 3,.int .i64 0,.int .i64 0,.bool false,.slice none 0 0,.int .i64 0,.bool false,.slice none 0 0,.int .i64 0,.int .i64 1,.int .i64 0,.int .i64 0,.bool false,.slice A l c,.int .i64 0,.bool false,.slice A' l' c',.int .i64 0,.int .i64 6,.int .i64 0,.int .i64 1,.bool false,.slice none 0 0,.int .i64 0,.bool false,.slice none 0 0,.int .i64 0,.int .i64 4,.int .i64 1,.int .i64 0,.bool false,.slice none 0 0,.int .i64 0,.bool false,.slice none 0 0,.int .i64 0] 52):=⟨_,rfl⟩;have k1:Kept w w1:=by rw [h1];exact Aa _ _
 have s1:w1.heap.size=w.heap.size+1:=by rw [h1];simp
 have b1:=(congrArg (fun v:World=>v.heap[w.heap.size]?) h1).trans (heap_alloc_new _ _);rw [←h1];obtain ⟨w2,h2⟩:∃ w2,w2=w1.alloc (.cells #[.int .i64 2,.int .i64 3] 3):=⟨_,rfl⟩;have k2:Kept w1 w2:=by rw [h2];exact Aa _ _
 have s2:w2.heap.size=w.heap.size+1+1:=by rw [h2,←s1];simp
 have b2:=(congrArg (fun v:World=>v.heap[w1.heap.size]?) h2).trans (heap_alloc_new _ _);rw [←h2];have k3:=Aa w2 (.cells #[.slice (some ⟨w.heap.size,0,none⟩) 4 4,.slice (some ⟨w.heap.size+1,0,none⟩) 2 2] 25);refine ⟨_,rfl,(k1.trans k2).trans k3,?_,_,_,rfl,?_,?_⟩
 ·rw [←s2];exact heap_alloc_new _ _
 ·have hb := Ar       b1 (k2.trans k3)
  exact Ac0 (ls:=t8L) hb (RowC.append (R:=CellL _) (l:=([⟨3,0,0,rzI⟩]:List Ln)) (m:=([⟨1,0,0,o1R⟩,⟨6,0,1,rzI⟩,⟨4,1,0,rzI⟩]:List Ln)) (xs:=[.int .i64 3,.int .i64 0,.int .i64 0,.bool false,.slice none 0 0,.int .i64 0,.bool false,.slice none 0 0,.int .i64 0]) (RowC.one (Qc _ 3 0 0))
   (RowC.append (R:=CellL _) (l:=([⟨1,0,0,o1R⟩]:List Ln)) (m:=([⟨6,0,1,rzI⟩,⟨4,1,0,rzI⟩]:List Ln)) (xs:=[.int .i64 1,.int .i64 0,.int .i64 0,.bool false,.slice A l c,.int .i64 0,.bool false,.slice A' l' c',.int .i64 0]) (RowC.one ⟨_,_,_,_,_,_,rfl,h.kept ((k1.trans k2).trans k3)⟩)
   (RowC.append (R:=CellL _) (l:=([⟨6,0,1,rzI⟩]:List Ln)) (m:=([⟨4,1,0,rzI⟩]:List Ln)) (xs:=[.int .i64 6,.int .i64 0,.int .i64 1,.bool false,.slice none 0 0,.int .i64 0,.bool false,.slice none 0 0,.int .i64 0]) (RowC.one (Qc _ 6 0 1)) (RowC.one (Qc _ 4 1 0)))))
 ·have hb := Ar b2 k3;rw [s1] at hb;exact Wo (ns:=[2,3]) hb
theorem Aj7 (w:World){A A':Option Addr}{l c l' c':Nat}(h:IvR w (.agg #[.bool false,.slice A l c,.int .i64 0,.bool false,.slice A' l' c',.int .i64 0]) o1R):∃ V,V=((w.alloc (.cells #[.bool false,.slice none 0 0,.int .i64 0,.bool false,.slice A' l' c',.int .i64 0] 30)).alloc
 (.cells #[.bool false,.slice A l c,.int .i64 0,.bool false,.slice A' l' c',.int .i64 0,.bool false,.slice A l c,.int .i64 0,.bool false,.slice A' l' c',.int .i64 0] 30)).alloc
 (.cells #[.bool false,.slice none 0 0,.int .i64 0,.bool false,.slice none 0 0,.int .i64 0,.slice (some ⟨w.heap.size,0,none⟩) 1 1,.slice (some ⟨w.heap.size+1,0,none⟩) 2 2,.slice none 0 0] 33)∧Kept w V ∧
 V.heap[w.heap.size+1+1]?=some (.cells #[.bool false,.slice none 0 0,.int .i64 0,.bool false,.slice none 0 0,.int .i64 0,.slice (some ⟨w.heap.size,0,none⟩) 1 1,.slice (some ⟨w.heap.size+1,0,none⟩) 2 2,.slice none 0 0] 33 (0,0)) ∧
 EnR V (.agg #[.bool false,.slice none 0 0,.int .i64 0,.bool false,.slice none 0 0,.int .i64 0,.slice (some ⟨w.heap.size,0,none⟩) 1 1,.slice (some ⟨w.heap.size+1,0,none⟩) 2 2,.slice none 0 0]) e8E:=by
 obtain ⟨w1,h1⟩:∃ w1,w1=w.alloc (.cells #[.bool false,.slice none 0 0,.int .i64 0,.bool false,.slice A' l' c',.int .i64 0] 30):=⟨_,rfl⟩;have k1:Kept w w1:=by rw [h1];exact Aa _ _
 have s1:w1.heap.size=w.heap.size+1:=by rw [h1];simp
 have b1:=(congrArg (fun v:World=>v.heap[w.heap.size]?) h1).trans (heap_alloc_new _ _);rw [←h1];obtain ⟨w2,h2⟩:∃ w2,w2=w1.alloc (.cells #[.bool false,.slice A l c,.int .i64 0,.bool false,.slice A' l' c',.int .i64 0,.bool false,.slice A l c,.int .i64 0,.bool false,.slice A' l' c',.int .i64 0] 30):=⟨_,rfl⟩;have k2:Kept w1 w2:=by rw [h2];exact Aa _ _
 have s2:w2.heap.size=w.heap.size+1+1:=by rw [h2,←s1];simp
 have b2:=(congrArg (fun v:World=>v.heap[w1.heap.size]?) h2).trans (heap_alloc_new _ _);rw [←h2];have k3:=Aa w2 (.cells #[.bool false,.slice none 0 0,.int .i64 0,.bool false,.slice none 0 0,.int .i64 0,.slice (some ⟨w.heap.size,0,none⟩) 1 1,.slice (some ⟨w.heap.size+1,0,none⟩) 2 2,.slice none 0 0] 33);have hk:=h.kept ((k1.trans k2).trans k3);refine ⟨_,rfl,(k1.trans k2).trans k3,?_,_,_,_,_,_,_,_,_,_,rfl,⟨_,_,_,_,_,_,rfl,Bv _,Bv _⟩,?_,?_,Jg _⟩
 ·rw [←s2];exact heap_alloc_new _ _
 ·have hb := Ar b1 (k2.trans k3);obtain ⟨x,y,z,x',y',z',ee,d1,d2⟩:=hk;simp only [Value.agg.injEq,Array.mk.injEq,List.cons.injEq,and_true] at ee;obtain ⟨rfl,rfl,rfl,rfl,rfl,rfl⟩:=ee;exact Wf (l:=e8E.x) hb (RowC.one ⟨_,_,_,_,_,_,rfl,_,_,_,_,_,_,rfl,Bv _,d2⟩)
 ·have hb := Ar b2 k3;rw [s1] at hb;exact Wf (l:=e8E.u) hb (RowC.append (R:=CellI _) (l:=[o1R]) (m:=[o1R]) (xs:=[.bool false,.slice A l c,.int .i64 0,.bool false,.slice A' l' c',.int .i64 0]) (RowC.one ⟨_,_,_,_,_,_,rfl,hk⟩) (RowC.one ⟨_,_,_,_,_,_,rfl,hk⟩))
theorem RetN.good {ns:List Int}{w:World}{e:Ending}{w':World}(h:RetN ns w e w'):Ge (fun v w=>InS w v ns) w e w':=by
 obtain ⟨k,v,e,h⟩:=h;exact ⟨v,e,k,h⟩
theorem Tf:Pg t8L:=by
 intro l hl;unfold t8L at hl;simp only [List.mem_cons,List.not_mem_nil,or_false] at hl
 rcases hl with rfl | rfl | rfl | rfl<;>exact ⟨by decide,by decide,by decide,by decide⟩
theorem Agt:M4 e8E:=by
 refine ⟨⟨by decide,by decide⟩,?_,?_,(by intro a ha;cases ha),by decide,by decide,by decide⟩
 ·intro a ha;rw [List.mem_singleton.1 ha];exact ⟨by decide,by decide⟩
 ·intro a ha;simp only [e8E,List.mem_cons,List.not_mem_nil,or_false] at ha
  rcases ha with rfl | rfl<;>exact ⟨by decide,by decide⟩
theorem Aft:M4 ⟨rzI,[],[],[]⟩:=⟨⟨by decide,by decide⟩,(by intro a ha;cases ha),(by intro a ha;cases ha),(by intro a ha;cases ha),by decide,by decide,by decide⟩
theorem Ad8:Pg []:=fun l h=>by cases h
theorem Kc {S:Int→Prop}{w:World}(hT:Tab w)(O:Adi S)(h6:S 6):Calls Tryz.prog 29 #[] w (RetK (.bool true) w):=by
 have hov:∀ l∈t8L,l.op=13→OvC ovI:=fun _ _ _=>Um
 have hS:∀ l∈t8L,6≤l.op→l.op≤12→S l.op:=by
  intro l hl a b;unfold t8L at hl;simp only [List.mem_cons,List.not_mem_nil,or_false] at hl
  rcases hl with rfl | rfl | rfl | rfl
  ·exact absurd a (by decide)
  ·exact absurd a (by decide)
  ·exact h6
  ·exact absurd a (by decide)
 have E1:=hid (fun w1 (k:Kept w w1) vt ve (ht:TpR w1 vt t8L [2,3]) (he:EnR w1 ve e8E)=>show Calls Tryz.prog 17 #[vt,ve,.int .i64 20] w1 (Ze ⟨[⟨⟨false,[1],0⟩,⟨false,[1],1⟩⟩,o1R],0⟩ w1) by
  have h:=Tq (p:=20) ht he Tf Agt (by decide) (by decide) (hT.kept k) hov O hS
  rwa [Agg] at h)
 have E2:=hid (fun w1 (k:Kept w w1) vt ve (ht:TpR w1 vt t8L [2,3]) (he:EnR w1 ve ⟨rzI,[],[],[]⟩)=>show Calls Tryz.prog 17 #[vt,ve,.int .i64 20] w1 (Ze ⟨[],1⟩ w1) by
  have h:=Tq (p:=20) ht he Tf Aft (by decide) (by decide) (hT.kept k) hov O hS
  rwa [Afx] at h)
 have U1:=hid (fun w1 vt (ht:TpR w1 vt t8L [2,3])=>show Calls Tryz.prog 31 #[vt,.int .i64 1] w1 (RetN [1] w1) by
  have h:=Xo (k:=1) ht Tf (by decide) (by decide) (by decide) (by decide)
  rwa [Aeq] at h)
 have U0:=hid (fun w1 vt (ht:TpR w1 vt t8L [2,3])=>show Calls Tryz.prog 31 #[vt,.int .i64 0] w1 (RetN [] w1) by
  have h:=Xo (k:=0) ht Tf (by decide) (by decide) (by decide) (by decide)
  rwa [Ab5] at h)
 have M1:=hid (fun w1 vt (ht:TpR w1 vt t8L [2,3])=>show Calls Tryz.prog 47 #[vt,.int .i64 1,.int .i64 2,.int .i64 0] w1 (RetK (.bool true) w1) by
  have h:=Rb (x:=1) (u:=2) (p:=0) ht Tf (by decide) (by decide) (by decide) (by decide) (by decide)
  rwa [Ajh] at h)
 have M2:=hid (fun w1 vt (ht:TpR w1 vt t8L [2,3])=>show Calls Tryz.prog 47 #[vt,.int .i64 1,.int .i64 1,.int .i64 0] w1 (RetK (.bool false) w1) by
  have h:=Rb (x:=1) (u:=1) (p:=0) ht Tf (by decide) (by decide) (by decide) (by decide) (by decide)
  rwa [Ag5] at h)
 have M3:=hid (fun w1 vt (ht:TpR w1 vt [] [0])=>show Calls Tryz.prog 47 #[vt,.int .i64 0,.int .i64 0,.int .i64 0] w1 (RetK (.bool false) w1) by
  have h:=Rb (x:=0) (u:=0) (p:=0) ht Ad8 (by decide) (by decide) (by decide) (by decide) (by decide)
  rwa [Agu] at h)
 clear hov hS O hT;obtain ⟨V,hV,kV,bV⟩:∃ V,V=w.alloc (.cells #[.int .u64 1] 55)∧Kept w V∧V.heap[w.heap.size]?=some (.cells #[.int .u64 1] 55 (0,0)):=⟨_,rfl,Aa _ _,heap_alloc_new _ _⟩;have OF:=hid (Akb (w:=V) (v:=.agg #[.bool false,.slice (some ⟨w.heap.size,0,none⟩) 1 1,.int .i64 0]) (r:=⟨false,[1],0⟩) ⟨_,rfl,Ab6 (n:=1) (by decide) bV,by decide,by decide⟩);have HV:=hid hV;have K:=hid kV;clear hV kV bV
 go_enter Tryz.func29,Tryz.ntmps29
 go_wp2_with fail;rw [←HV.out];refine OF.out.mono ?_;rintro e w1 ⟨q,u,rfl,hI⟩;obtain ⟨x,y,z,x',y',z',rfl,⟨s1,e1,hs1,-,-⟩,⟨s2,e2,hs2,-,-⟩⟩:=(show IvR w1 u o1R from hI);have hI':IvR w1 (.agg #[x,y,z,x',y',z']) o1R:=hI;obtain ⟨-,A,c,rfl,-,-⟩:=hs1;obtain ⟨-,A',c',rfl,-,-⟩:=hs2;injection e1 with e1;injection e1 with e1
 injection e2 with e2;injection e2 with e2
 simp only [List.cons.injEq,and_true] at e1 e2;obtain ⟨rfl,rfl,rfl⟩:=e1;obtain ⟨rfl,rfl,rfl⟩:=e2;have hI2:IvR w1 (.agg #[.bool false,.slice A 1 c,.int .i64 0,.bool false,.slice A' 1 c',.int .i64 0]) o1R:=hI';simp only [o1R];obtain ⟨V1,hV1,kV1,hb1,lV1⟩:=Aid w1 (.bool false) (.slice A 1 c) (.int .i64 0) (.bool false) (.slice A' 1 c') (.int .i64 0);have HV1:=hid hV1;replace K:=hid ((K.out.trans q).trans kV1);have B1:=hid hb1;have I1:=hid (hI2.kept kV1);clear hV1 hb1 hI hI' hI2 q kV1 OF HV
 go_upto_region 2 with fail
 rw [←HV1.out];clear HV1;obtain ⟨V2,hV2,kV2,hb2,ht2⟩:=Ajv V1 I1.out;have HV2:=hid hV2;have T2:=hid ht2;have B2:=hid hb2;obtain ⟨-,a0,a1,a2,a3,a4,a5⟩:=B1.out.facts;replace K:=hid (K.out.trans kV2);replace B1:=hid (B1.out.kept kV2);replace I1:=hid (I1.out.kept kV2);clear hV2 hb2 ht2 kV2
 go_upto_region 3 with fail
 rw [←HV2.out];clear HV2 a0 a1 a2 a3 a4 a5;obtain ⟨-,a0,a1,a2,a3,a4,a5⟩:=B1.out.facts;obtain ⟨-,p0,p1,p2,p3,p4,p5⟩:=(B1.out.kept (Aa V2 (.cells #[.bool false,.slice none 0 0,.int .i64 0,.bool false,.slice A' 1 c',.int .i64 0] 30))).facts;obtain ⟨V3,hV3,kV3,hb3,he3⟩:=Aj7 V2 I1.out;have HV3:=hid hV3;have B3:=hid hb3;have E3:=hid he3;replace K:=hid (K.out.trans kV3);replace B1:=hid (B1.out.kept kV3);replace B2:=hid (Ar B2.out kV3);have D1:Hid (DyR V3 (.agg #[.bool false,.slice A 1 c,.int .i64 0]) ⟨false,[1],0⟩):=hid (by
  obtain ⟨_,_,_,_,_,_,e9,d9,-⟩:=I1.out.kept kV3;simp only [Value.agg.injEq,Array.mk.injEq,List.cons.injEq,and_true] at e9;obtain ⟨rfl,rfl,rfl,rfl,rfl,rfl⟩:=e9;exact d9)
 replace I1:=hid (I1.out.kept kV3);replace T2:=hid (T2.out.kept kV3);clear hV3 hb3 he3 kV3
 go_upto_region 4 with fail
 rw [←HV3.out];clear HV3 a0 a1 a2 a3 a4 a5 p0 p1 p2 p3 p4 p5;obtain ⟨c0,c1⟩:=Cn B2.out;obtain ⟨d0,d1,d2,d3,d4,d5,d6,d7,d8⟩:=Be B3.out;generalize V2.heap.size+1+1=n3 at *;generalize V1.heap.size+1+1=n2 at *;generalize w1.heap.size=n1 at *;go_wp2_with fail;refine (E1.out _ K.out _ _ T2.out E3.out).mono ?_;rintro e w4 ⟨q,v4,rfl,h4⟩;simp only [];replace K:=hid (K.out.trans q);replace B1:=hid (B1.out.kept q);replace B2:=hid (Ar B2.out q);replace T2:=hid (T2.out.kept q);replace D1:=hid (D1.out.kept q);have H4:=hid h4;obtain ⟨A4,c4,rfl,-,-⟩:=h4;clear q c0 c1 d0 d1 d2 d3 d4 d5 d6 d7 d8 B3 E3 E1 I1
 obtain ⟨c0,c1⟩:=Cn B2.out;go_wp2_with fail;refine (U1.out _ _ T2.out).mono ?_;rintro e w5 ⟨q,v6,rfl,h6⟩;simp only [];replace K:=hid (K.out.trans q);replace B1:=hid (B1.out.kept q);replace B2:=hid (Ar B2.out q);replace T2:=hid (T2.out.kept q);replace D1:=hid (D1.out.kept q);replace H4:=hid (H4.out.kept q);have H6:=hid h6;obtain ⟨A6,c6,rfl,-,-⟩:=h6;clear q c0 c1 U1;obtain ⟨c0,c1⟩:=Cn B2.out;go_wp2_with fail;refine (E2.out _ K.out _ _ T2.out ⟨_,_,_,_,_,_,_,_,_,rfl,⟨_,_,_,_,_,_,rfl,Bv _,Bv _⟩,Jg _,Jg _,Jg _⟩).mono ?_;rintro e w6 ⟨q,v7,rfl,h7⟩;simp only [];replace K:=hid (K.out.trans q)
 replace B1:=hid (B1.out.kept q);replace B2:=hid (Ar B2.out q);replace T2:=hid (T2.out.kept q);replace D1:=hid (D1.out.kept q);replace H4:=hid (H4.out.kept q);replace H6:=hid (H6.out.kept q);obtain ⟨A7,c7,rfl,-,-⟩:=h7;clear q c0 c1 E2;obtain ⟨A4',c4',e4,-,g4⟩:=H4.out;injection e4 with e4 _ _
 subst e4;obtain ⟨b4,o4,rfl,k4⟩:=g4 (by simp);obtain ⟨x0,x1,x2,x3,x4,x5,s0,s1,s2,s3,s4,s5,hI4⟩:=k4 0 _ rfl;obtain ⟨_,_,_,_,_,_,hh4,d4,⟨t5,e5,-,-,-⟩⟩:=hI4;simp only [Value.agg.injEq,List.cons.injEq,Array.mk.injEq,and_true] at hh4;obtain ⟨rfl,rfl,rfl,rfl,rfl,rfl⟩:=hh4;simp only [Value.agg.injEq,List.cons.injEq,Array.mk.injEq,and_true] at e5;obtain ⟨rfl,rfl,rfl⟩:=e5;rw [Nat.zero_mul,Nat.add_zero] at s0 s1 s2 s5;obtain ⟨A6',c6',e6,-,g6⟩:=H6.out;injection e6 with e6 _ _
 subst e6;obtain ⟨b6,o6,rfl,k6⟩:=g6 (by simp);have r0:=k6 0 _ rfl;rw [Nat.add_zero] at r0;have F4:=hid (And.intro s0 (And.intro s1 (And.intro s2 s5)));have F6:=hid r0;have D4:=hid d4;clear s0 s1 s2 s3 s4 s5 d4 k4 k6 g4 g6 r0 H4 H6
 go_upto_region 7 with fail
 refine Bk (m:=61) (V:=VL [(vE (.int .i64 0)),(vE (.bool true)),(vE (.bool true)),(vE (.slice (some ⟨b4,o4,none⟩) 2 c4)),(vE (.int .i64 2)),(vE (.bool true)),(vE (.bool true)),(vE (.bool true)),(vE (.slice (some ⟨b4,o4,none⟩) 2 c4)),(vE (.pointer (some ⟨b4,o4,none⟩))),(vE (.pointer (some ⟨b4,o4,none⟩))),(vE (.agg #[x0,x1,x2])),(vP n1 0),(vE (.agg #[.bool false,.slice A 1 c,.int .i64 0])),(vE (.bool true)),(vE (.bool true)),(vE (.bool true)),(vE (.slice (some ⟨b4,o4,none⟩) 2 c4)),(vE (.pointer (some ⟨b4,o4,none⟩))),(vE (.pointer (some ⟨b4,o4+3,none⟩))),(vE (.pointer (some ⟨b4,o4+5,none⟩))),(vE (.int .i64 1)),(vE (.bool true)),(vE (.bool true)),(vE (.bool true)),(vE (.slice (some ⟨b6,o6,none⟩) 1 c6)),(vE (.int .i64 1)),(vE (.bool true)),(vE (.bool true)),(vE (.bool true)),(vE (.slice (some ⟨b6,o6,none⟩) 1 c6)),(vE (.pointer (some ⟨b6,o6,none⟩))),(vE (.int .i64 1)),(vE (.bool true)),(vE (.bool true)),(vE (.bool true)),(vE (.agg #[.slice (some ⟨V1.heap.size,0,none⟩) 4 4,.slice (some ⟨V1.heap.size+1,0,none⟩) 2 2])),(fun v wv=>InS wv v []),(vE (.int .i64 0)),(vE (.bool true)),(vE (.bool true)),(vE (.bool true)),(vE (.int .i64 1)),(vE (.bool true)),(vE (.bool true)),(vE (.bool true)),(vE (.agg #[.slice (some ⟨V1.heap.size,0,none⟩) 4 4,.slice (some ⟨V1.heap.size+1,0,none⟩) 2 2])),(vE (.bool true)),(vE (.bool true)),(vE (.bool true)),(vE (.agg #[.slice (some ⟨V1.heap.size,0,none⟩) 4 4,.slice (some ⟨V1.heap.size+1,0,none⟩) 2 2])),(vE (.bool false)),(vE (.bool true)),(vE (.bool true)),(vE (.bool true)),(fun v wv=>InS wv v [0]),(fun v wv=>TpR wv v [] [0]),(vE (.bool false)),(vE (.bool true)),(vE (.bool true)),(vE (.bool true))])
  (by kernel_rfl) rfl (by kernel_rfl) (by kernel_rfl) (by kernel_rfl) (Au _ ⟨mE,mE,mE,mE,mE,mE,mE,mE,mE,mE,mE,mE,mE,mE,mE,mE,mE,mE,mE,mE,mE,mE,mE,mE,mE,mE,mE,mE,mE,mE,mE,mE,mE,mE,mE,mE,mE,fun v w w' k h=>by first | exact h | exact h.kept k | exact ⟨h.1,h.2.kept k⟩,mE,mE,mE,mE,mE,mE,mE,mE,mE,mE,mE,mE,mE,mE,mE,mE,mE,fun v w w' k h=>by first | exact h | exact h.kept k | exact ⟨h.1,h.2.kept k⟩,fun v w w' k h=>by first | exact h | exact h.kept k | exact ⟨h.1,h.2.kept k⟩,mE,mE,mE,mE,trivial⟩) (Al ⟨
    (fun aF wF F=>by have s5:aF.tmps.getD 5 undef=(.int .i64 0):=F.o 5;exact sv rfl),(fun aF wF F=>by have s42:=F.v 0 42;exact sv rfl),(fun aF wF F=>by have s43:=F.v 1 43;exact sv rfl),(fun aF wF F=>by have s4:aF.tmps.getD 4 undef=(.slice (some ⟨b4,o4,none⟩) 2 c4):=F.o 4;have sg:=F.v 2 44;exact Ah ((Ab rfl rfl sg).trans rfl) (by go_simp) rfl),(fun aF wF F=>by have s45:=F.v 3 45;have sg:=F.v 2 44;exact Ah ((Ab rfl rfl sg).trans rfl) (by go_simp) rfl),(fun aF wF F=>by have s46:=F.v 4 46;have sg:=F.v 2 44;exact Ah ((Ab rfl rfl sg).trans rfl) (by go_simp) rfl),(fun aF wF F=>by have s44:=F.v 2 44;have s47:=F.v 5 47;exact sv rfl),(fun aF wF F=>by have s48:=F.v 6 48;exact sv rfl),(fun aF wF F=>by have s4:aF.tmps.getD 4 undef=(.slice (some ⟨b4,o4,none⟩) 2 c4):=F.o 4;have sg:=F.v 7 49;exact Ah ((Ab rfl rfl sg).trans rfl) (by go_simp) rfl),(fun aF wF F=>by have s50:=F.v 8 50;have sg:=F.v 7 49;exact Ah ((Ab rfl rfl sg).trans rfl) (by go_simp) rfl),(fun aF wF F=>by have s51:=F.v 9 51;have sg:=F.v 7 49;exact Ah ((Ab rfl rfl sg).trans rfl) (by go_simp) rfl),(fun aF wF F=>by have s52:=F.v 10 52;have sg:=F.v 7 49;exact Ah ((Ab rfl rfl sg).trans rfl) (by (have n0:=(F.kept.cell (p:=⟨b4,o4,none⟩) (Ax F4.out.1)).trans F4.out.1;have n1:=(F.kept.cell (p:=⟨b4,o4+1,none⟩) (Ax F4.out.2.1)).trans F4.out.2.1;have n2:=(F.kept.cell (p:=⟨b4,o4+2,none⟩) (Ax F4.out.2.2.1)).trans F4.out.2.2.1;go_simp)) rfl),(fun aF wF F=>by have s1:aF.tmps.getD 1 undef=(.pointer (some ⟨n1,0,none⟩)):=F.o 1;have sg:=F.v 7 49;exact Ah ((Ab rfl rfl sg).trans rfl) (by go_simp) rfl),(fun aF wF F=>by have s54:=F.v 12 54;have c0:=Ad B1.out F.kept 0 _ rfl;have c1:=Ad B1.out F.kept 1 _ rfl;have c2:=Ad B1.out F.kept 2 _ rfl;have sg:=F.v 7 49;exact Ah ((Ab rfl rfl sg).trans rfl) (by go_simp) rfl),(fun aF wF F=>by have s53:=F.v 11 53;have s55:=F.v 13 55;have sg:=F.v 7 49;exact Aw ((Ab rfl rfl sg).trans rfl) (by go_simp) (Po (D4.out.kept F.kept) (D1.out.kept F.kept) (by decide)) (fun _ _ h=>RetK.good h) (fun _ _ h=>h)),(fun aF wF F=>by have s49:=F.v 7 49;have s56:=F.v 14 56;exact sv rfl),(fun aF wF F=>by have s57:=F.v 15 57;exact sv rfl),(fun aF wF F=>by have s4:aF.tmps.getD 4 undef=(.slice (some ⟨b4,o4,none⟩) 2 c4):=F.o 4;have sg:=F.v 16 58;exact Ah ((Ab rfl rfl sg).trans rfl) (by go_simp) rfl),(fun aF wF F=>by have s59:=F.v 17 59;have sg:=F.v 16 58;exact Ah ((Ab rfl rfl sg).trans rfl) (by go_simp) rfl),(fun aF wF F=>by have s60:=F.v 18 60;have sg:=F.v 16 58;exact Ah ((Ab rfl rfl sg).trans rfl) (by go_simp) rfl),(fun aF wF F=>by have s61:=F.v 19 61;have sg:=F.v 16 58;exact Ah ((Ab rfl rfl sg).trans rfl) (by go_simp) rfl),(fun aF wF F=>by have s62:=F.v 20 62;have sg:=F.v 16 58;exact Ah ((Ab rfl rfl sg).trans rfl) (by (have n0:=(F.kept.cell (p:=⟨b4,o4+5,none⟩) (Ax F4.out.2.2.2)).trans F4.out.2.2.2;go_simp)) rfl),(fun aF wF F=>by have s63:=F.v 21 63;have sg:=F.v 16 58;exact Ah ((Ab rfl rfl sg).trans rfl) (by go_simp) rfl),(fun aF wF F=>by have s58:=F.v 16 58;have s64:=F.v 22 64;exact sv rfl),(fun aF wF F=>by have s65:=F.v 23 65;exact sv rfl),(fun aF wF F=>by have s6:aF.tmps.getD 6 undef=(.slice (some ⟨b6,o6,none⟩) 1 c6):=F.o 6;have sg:=F.v 24 66;exact Ah ((Ab rfl rfl sg).trans rfl) (by go_simp) rfl),(fun aF wF F=>by have s67:=F.v 25 67;have sg:=F.v 24 66;exact Ah ((Ab rfl rfl sg).trans rfl) (by go_simp) rfl),(fun aF wF F=>by have s68:=F.v 26 68;have sg:=F.v 24 66;exact Ah ((Ab rfl rfl sg).trans rfl) (by go_simp) rfl),(fun aF wF F=>by have s66:=F.v 24 66;have s69:=F.v 27 69;exact sv rfl),(fun aF wF F=>by have s70:=F.v 28 70;exact sv rfl),(fun aF wF F=>by have s6:aF.tmps.getD 6 undef=(.slice (some ⟨b6,o6,none⟩) 1 c6):=F.o 6;have sg:=F.v 29 71;exact Ah ((Ab rfl rfl sg).trans rfl) (by go_simp) rfl),(fun aF wF F=>by have s72:=F.v 30 72;have sg:=F.v 29 71;exact Ah ((Ab rfl rfl sg).trans rfl) (by go_simp) rfl),(fun aF wF F=>by have s73:=F.v 31 73;have sg:=F.v 29 71;exact Ah ((Ab rfl rfl sg).trans rfl) (by (have n0:=(F.kept.cell (p:=⟨b6,o6,none⟩) (Ax F6.out)).trans F6.out;go_simp)) rfl),(fun aF wF F=>by have s74:=F.v 32 74;have sg:=F.v 29 71;exact Ah ((Ab rfl rfl sg).trans rfl) (by go_simp) rfl),(fun aF wF F=>by have s71:=F.v 29 71;have s75:=F.v 33 75;exact sv rfl),(fun aF wF F=>by have s76:=F.v 34 76;exact sv rfl),(fun aF wF F=>by have s2:aF.tmps.getD 2 undef=(.pointer (some ⟨n2,0,none⟩)):=F.o 2;have c0:=Ad B2.out F.kept 0 _ rfl;have c1:=Ad B2.out F.kept 1 _ rfl;have sg:=F.v 35 77;exact Ah ((Ab rfl rfl sg).trans rfl) (by go_simp) rfl),(fun aF wF F=>by have s78:=F.v 36 78;have sg:=F.v 35 77;exact Aw ((Ab rfl rfl sg).trans rfl) (by go_simp) (U0.out _ _ (T2.out.kept F.kept)) (fun _ _ h=>RetN.good h) (fun _ _ h=>h)),(fun aF wF F=>by have s79:=F.p 37 79;have sg:=F.v 35 77;exact Ah ((Ab rfl rfl sg).trans rfl) (by (obtain ⟨A9,c9,e9,-,-⟩:=s79;simp only [Array.getD_eq_getD_getElem?] at e9;go_simp)) rfl),(fun aF wF F=>by have s80:=F.v 38 80;have sg:=F.v 35 77;exact Ah ((Ab rfl rfl sg).trans rfl) (by go_simp) rfl),(fun aF wF F=>by have s77:=F.v 35 77;have s81:=F.v 39 81;exact sv rfl),(fun aF wF F=>by have s82:=F.v 40 82;exact sv rfl),(fun aF wF F=>by have s8:aF.tmps.getD 8 undef=(.int .i64 1):=F.o 8;have sg:=F.v 41 83;exact Ah ((Ab rfl rfl sg).trans rfl) (by go_simp) rfl),(fun aF wF F=>by have s84:=F.v 42 84;have sg:=F.v 41 83;exact Ah ((Ab rfl rfl sg).trans rfl) (by go_simp) rfl),(fun aF wF F=>by have s83:=F.v 41 83;have s85:=F.v 43 85;exact sv rfl),(fun aF wF F=>by have s86:=F.v 44 86;exact sv rfl),(fun aF wF F=>by have s2:aF.tmps.getD 2 undef=(.pointer (some ⟨n2,0,none⟩)):=F.o 2;have c0:=Ad B2.out F.kept 0 _ rfl;have c1:=Ad B2.out F.kept 1 _ rfl;have sg:=F.v 45 87;exact Ah ((Ab rfl rfl sg).trans rfl) (by go_simp) rfl),(fun aF wF F=>by have s88:=F.v 46 88;have sg:=F.v 45 87;exact Aw ((Ab rfl rfl sg).trans rfl) (by go_simp) (M1.out _ _ (T2.out.kept F.kept)) (fun _ _ h=>RetK.good h) (fun _ _ h=>h)),(fun aF wF F=>by have s87:=F.v 45 87;have s89:=F.v 47 89;exact sv rfl),(fun aF wF F=>by have s90:=F.v 48 90;exact sv rfl),(fun aF wF F=>by have s2:aF.tmps.getD 2 undef=(.pointer (some ⟨n2,0,none⟩)):=F.o 2;have c0:=Ad B2.out F.kept 0 _ rfl;have c1:=Ad B2.out F.kept 1 _ rfl;have sg:=F.v 49 91;exact Ah ((Ab rfl rfl sg).trans rfl) (by go_simp) rfl),(fun aF wF F=>by have s92:=F.v 50 92;have sg:=F.v 49 91;exact Aw ((Ab rfl rfl sg).trans rfl) (by go_simp) (M2.out _ _ (T2.out.kept F.kept)) (fun _ _ h=>RetK.good h) (fun _ _ h=>h)),(fun aF wF F=>by have s93:=F.v 51 93;have sg:=F.v 49 91;exact Ah ((Ab rfl rfl sg).trans rfl) (by go_simp) rfl),(fun aF wF F=>by have s91:=F.v 49 91;have s94:=F.v 52 94;exact sv rfl),(fun aF wF F=>by have s95:=F.v 53 95;exact sv rfl),(fun aF wF F=>by have sg:=F.v 54 96;exact Ck ((Ab rfl rfl sg).trans rfl) (by first | (go_simp;done) | (go_simp;rfl)) (Aa _ _) (Wo (ns:=[0]) (heap_alloc_new _ _))),(fun aF wF F=>by have s97:=F.p 55 97;have sg:=F.v 54 96;have hs:=s97;obtain ⟨A9,c9,e9,-,-⟩:=s97;rw [e9] at hs;simp only [Array.getD_eq_getD_getElem?] at e9;exact Ah ((Ab rfl rfl sg).trans rfl) (by go_simp) ⟨_,_,rfl,⟨none,0,rfl,Nat.le_refl _,fun h=>absurd h (by simp)⟩,hs⟩),(fun aF wF F=>by have s98:=F.p 56 98;have sg:=F.v 54 96;exact Aw ((Ab rfl rfl sg).trans rfl) (by go_simp) (M3.out _ _ s98) (fun _ _ h=>RetK.good h) (fun _ _ h=>h)),(fun aF wF F=>by have s99:=F.v 57 99;have sg:=F.v 54 96;exact Ah ((Ab rfl rfl sg).trans rfl) (by go_simp) rfl),(fun aF wF F=>by have s96:=F.v 54 96;have s100:=F.v 58 100;exact sv rfl),(fun aF wF F=>by have s101:=F.v 59 101;exact sv rfl),
    trivial⟩) ?_
 intro u w8 q hu;have p79:=hp hu 37;have p97:=hp hu 55;have p98:=hp hu 56;simp only [Bc,Am,if_true,Act.put,z1,z2,z3,z4,z5,z6,z7,hv hu 0,hv hu 1,hv hu 2,hv hu 3,hv hu 4,hv hu 5,hv hu 6,hv hu 7,hv hu 8,hv hu 9,hv hu 10,hv hu 11,hv hu 12,hv hu 13,hv hu 14,hv hu 15,hv hu 16,hv hu 17,hv hu 18,hv hu 19,hv hu 20,hv hu 21,hv hu 22,hv hu 23,hv hu 24,hv hu 25,hv hu 26,hv hu 27,hv hu 28,hv hu 29,hv hu 30,hv hu 31,hv hu 32,hv hu 33,hv hu 34,hv hu 35,hv hu 36,hv hu 38,hv hu 39,hv hu 40,hv hu 41,hv hu 42,hv hu 43,hv hu 44,hv hu 45,hv hu 46,hv hu 47,hv hu 48,hv hu 49,hv hu 50,hv hu 51,hv hu 52,hv hu 53,hv hu 54,hv hu 57,hv hu 58,hv hu 59,hv hu 60]
 clear hu;generalize u 37=v79 at *;generalize u 55=v97 at *;generalize u 56=v98 at *;go_wp2_with fail;go_ret;exact ⟨rfl,K.out.trans q⟩
theorem Aep (p:Int)(c m:Nat)(hm:0<m)(hs:c+m≤1000):∃ n:Nat,wrap64 ((c:Int)+wrap64 ((IntKind.u64.wrap p).tmod (m:Int)))=(n:Int)∧c≤n∧n<c+m:=by
 rw [IntKind.wrap_u64];have h0:0≤p%18446744073709551616:=Int.emod_nonneg _ (by decide);rw [Int.tmod_eq_emod_of_nonneg h0];have h1:0≤p%18446744073709551616%(m:Int):=Int.emod_nonneg _ (by omega);have h2:p%18446744073709551616%(m:Int)<m:=Int.emod_lt_of_pos _ (by omega);generalize p%18446744073709551616%(m:Int)=x at *;refine ⟨(c+x).toNat,?_,by omega,by omega⟩;unfold wrap64;omega
theorem Il {a:RawI}{k m:Nat}(h:a.lens k)(hk:k≤m):a.lens m:=⟨Nat.le_trans h.1 hk,Nat.le_trans h.2 hk⟩
theorem Aax {e:En}(h:Aeu e=true):M4 e∧e.x.length≤8∧e.u.length≤8∧e.p.length≤8∧e.t.lens 6∧(∀ a∈e.x,a.lens 6)∧(∀ a∈e.u,a.lens 6)∧∀ a∈e.p,a.lens 6:=by
 unfold Aeu at h;simp only [Bool.and_eq_true] at h;obtain ⟨⟨⟨h1,h2⟩,h3⟩,h4⟩:=h;obtain ⟨-,a1⟩:=I2 h1;obtain ⟨l2,a2⟩:=I2 h2;obtain ⟨l3,a3⟩:=I2 h3;obtain ⟨l4,a4⟩:=I2 h4;have at':=a1 e.t (by simp);exact ⟨⟨Il at' (by decide),fun a ha=>Il (a2 a ha) (by decide),fun a ha=>Il (a3 a ha) (by decide),fun a ha=>Il (a4 a ha) (by decide),by omega,by omega,by omega⟩,l2,l3,l4,at',a2,a3,a4⟩
def SA (_:Int):Prop:=True
theorem Tt:Adi SA:=⟨fun _ _ _ _ _ _ _=>Aj8,fun _ _ _ _ _ _ _=>Ajy,fun _ _ _ _ _ _ _=>Aj0,fun _ _ _ _ _ _ _=>Ajs,fun _ _ _ _ _=>Akj,fun _ _ _ _ _=>Ajo,fun _ _ _ _ _=>Aiv⟩
theorem LnS.take {w:World}{A:Option Addr}{c:Nat}{ls:List Ln}(h:LnS w (.slice A ls.length c) ls){k:Nat}(hk:k≤ls.length):LnS w (.slice A k c) (ls.take k):=by
 obtain ⟨A',c',e,hc,hA⟩:=h;injection e with e1 e2 e3
 subst e1 e3;have hl:(ls.take k).length=k:=by rw [List.length_take];omega
 refine ⟨A,c,by rw [hl],by omega,fun h0=>?_⟩;obtain ⟨b,off,rfl,hd⟩:=hA (by omega);refine ⟨b,off,rfl,fun i l hi=>hd i l ?_⟩;have:=(List.getElem?_eq_some_iff.1 hi).1
 rwa [List.getElem?_take_of_lt (by omega)] at hi
theorem IvS.take {w:World}{A:Option Addr}{n c:Nat}{l:List RawI}(h:IvS w (.slice A n c) l){k:Nat}(hk:k≤l.length):IvS w (.slice A k c) (l.take k):=by
 obtain ⟨A',c',e,hc,hA⟩:=h;injection e with e1 e2 e3
 subst e1 e3;have hl:(l.take k).length=k:=by rw [List.length_take];omega
 refine ⟨A,c,by rw [hl],by omega,fun h0=>?_⟩;obtain ⟨b,off,rfl,hd⟩:=hA (by omega);refine ⟨b,off,rfl,fun i a hi=>hd i a ?_⟩;have:=(List.getElem?_eq_some_iff.1 hi).1
 rwa [List.getElem?_take_of_lt (by omega)] at hi
theorem Zi {ov:Iv→Nat→Outc Iv}{ls:List Ln}{outs:List Int}{e:En}{p:Int}:(Mq ov ls outs e p).k=(E8 ov ls outs e p).k:=by
 unfold Mq
 split
 ·rename_i h;exact h.symm
 ·rfl
theorem Qo {ov:Iv→Nat→Outc Iv}{ls:List Ln}{outs:List Int}{e:En}{p:Int}(h:(E8 ov ls outs e p).k=0):Mq ov ls outs e p=⟨outs.map fun n=>(E8 ov ls outs e p).v.getD n.toNat rzI,0⟩:=by
 unfold Mq;rw [if_pos h]
theorem Wl {e:En}{p:Nat}(he:e.Cl)(p1:1≤p)(p2:p≤300):∀ (ls:List Ln) (out:List RawI),(∀ l∈ls,l.op=1→l.k.iv.Ok)→Cl out→Cl (Di ovI e p out ls).v
 | [],out,_,ho=>ho
 | l :: ls, out, hk, ho => by
   rw [Di]
   split
   ·exact Wl he p1 p2 ls _ (fun l hl=>hk l (List.mem_cons_of_mem _ hl)) (Agw he ho (hk l (List.mem_cons_self ..)) p1 p2)
   ·intro a ha;cases ha
theorem Abk {a:Iv}(h:a.Ok):a.raw.lens 64:=⟨h.lo.len,h.hi.len⟩
theorem Ae5 {l:List RawI}(h:Cl l):∀ a∈l,a.lens 64:=fun a ha=>by
 obtain ⟨h1,h2⟩:=h a ha;rw [←h2];exact Abk h1
theorem Ai8 {w:World}{ve:Value}{e:En}(he:EnR w ve e)(h:Rj e=true):e.Cl:=by
 obtain ⟨x0,x1,x2,x3,x4,x5,sx,su,sp,rfl,ht,hx,hu,hp⟩:=he;unfold Rj at h;simp only [Bool.and_eq_true] at h;exact ⟨ht.clean h.1.1.1,hx.cl h.1.1.2,hu.cl h.1.2,hp.cl h.2⟩
theorem Ae0 {w:World}{vt:Value}{ls:List Ln}{outs:List Int}{x u p:Int}(hv:TpR w vt ls outs)(h:Ex ls outs x u p=true):∀ l∈ls,l.op=1→l.k.iv.Ok∧l.k.iv.raw=l.k:=by
 obtain ⟨s,o,rfl,⟨A,c,rfl,hc,hA⟩,-⟩:=hv;intro l hl h1;obtain ⟨i,hi⟩:=List.getElem?_of_mem hl;obtain ⟨b,off,rfl,hd⟩:=hA (by have:=(List.getElem?_eq_some_iff.1 hi).1;omega);obtain ⟨-,-,-,y0,y1,y2,y3,y4,y5,-,-,-,-,-,-,hI⟩:=hd i l hi;exact hI.clean (Xt h l hl h1)
theorem Af4 {w:World}{vt ve:Value}{ls:List Ln}{outs:List Int}{e:En}{n:Nat}(hv:TpR w vt ls outs)(he:EnR w ve e)(h:(E8 ovI ls outs e n).k=0):e.Cl∧(∀ l∈ls,l.op=1→l.k.iv.Ok)∧Cl (E8 ovI ls outs e n).v:=by
 obtain ⟨h1,h2,h3⟩:=Hg h;have c1:=Ai8 he h1.2.2.2;have c2:=fun l hl h0=>(Ae0 hv h1.2.2.1 l hl h0).1
 refine ⟨c1,c2,?_⟩;rw [h3];exact Wl c1 (by omega) (by omega) ls [] c2 (fun a ha=>by cases ha)
end Go.Proofs.YtabjjdicffcolaaGreatDoor
