/- Contracts of package tape: Uses. -/
import Derived.Test.YtabjjdicffcolaaGreatDoorClaimTusesp39
import Derived.Shelf.Sort.Plain
import Derived.Shelf.Slices.In.CompactI
import Derived.Shelf.Slices.In.SortNone
import Derived.Sort.OwnSortedInts
import Derived.Lib.OwnBridge
set_option maxRecDepth 100000
set_option maxHeartbeats 16000000
namespace Go.Proofs.YtabjjdicffcolaaGreatDoor
open Go.Lib (hid)
open Go.RowKit Go.Shelf
def R9:Go.Shelf.Ren:=⟨fun | 189=>66 | 125=>104 | 257=>103 | 128=>154 | 129=>155 | 294=>145 | 295=>146 | 296=>147 | 297=>148 | 298=>149 | 299=>150 | 216=>151 | 300=>152 | 301=>153 | 328=>186 | 329=>187 | 330=>188 | 331=>189 | 332=>190 | 215=>191 | 343=>204 | n=>n,fun | 28=>23 | 3=>3 | 46=>37 | 0=>0 | 51=>154 | 53=>55 | 4=>4 | 183=>148 | 182=>147 | 131=>131 | 5=>5 | 9=>9 | 218=>176 | 222=>180 | 228=>192 | 229=>193 | n=>n,fun | n=>n⟩
theorem Sn:Go.Proofs.Lays.n189 Tryz.prog R9 where
 mixed:=by kernel_rfl
 f125:=Tryz.func104.trans (congrArg some (by kernel_rfl))
 f128:=Tryz.func154.trans (congrArg some (by kernel_rfl))
 f129:=Tryz.func155.trans (congrArg some (by kernel_rfl))
 f189:=Tryz.func66.trans (congrArg some (by kernel_rfl))
 f215:=Tryz.func191.trans (congrArg some (by kernel_rfl))
 f216:=Tryz.func151.trans (congrArg some (by kernel_rfl))
 f257:=Tryz.func103.trans (congrArg some (by kernel_rfl))
 f294:=Tryz.func145.trans (congrArg some (by kernel_rfl))
 f295:=Tryz.func146.trans (congrArg some (by kernel_rfl))
 f296:=Tryz.func147.trans (congrArg some (by kernel_rfl))
 f297:=Tryz.func148.trans (congrArg some (by kernel_rfl))
 f298:=Tryz.func149.trans (congrArg some (by kernel_rfl))
 f299:=Tryz.func150.trans (congrArg some (by kernel_rfl))
 f300:=Tryz.func152.trans (congrArg some (by kernel_rfl))
 f301:=Tryz.func153.trans (congrArg some (by kernel_rfl))
 f328:=Tryz.func186.trans (congrArg some (by kernel_rfl))
 f329:=Tryz.func187.trans (congrArg some (by kernel_rfl))
 f330:=Tryz.func188.trans (congrArg some (by kernel_rfl))
 f331:=Tryz.func189.trans (congrArg some (by kernel_rfl))
 f332:=Tryz.func190.trans (congrArg some (by kernel_rfl))
 f343:=Tryz.func204.trans (congrArg some (by kernel_rfl))
 t0:=Tryz.underlying0
 a0:=Tryz.isAgg0
 z0:=Tryz.sizeOf0
 v0:=Tryz.zeroValue0
 t3:=Tryz.underlying3
 a3:=Tryz.isAgg3
 z3:=Tryz.sizeOf3
 v3:=Tryz.zeroValue3
 t4:=Tryz.underlying4
 a4:=Tryz.isAgg4
 z4:=Tryz.sizeOf4
 v4:=Tryz.zeroValue4
 t5:=Tryz.underlying5
 a5:=Tryz.isAgg5
 z5:=Tryz.sizeOf5
 v5:=Tryz.zeroValue5
 t9:=Tryz.underlying9
 a9:=Tryz.isAgg9
 z9:=Tryz.sizeOf9
 v9:=Tryz.zeroValue9
 t28:=Tryz.underlying23
 a28:=Tryz.isAgg23
 z28:=Tryz.sizeOf23
 v28:=Tryz.zeroValue23
 t46:=Tryz.underlying37
 a46:=Tryz.isAgg37
 z46:=Tryz.sizeOf37
 v46:=Tryz.zeroValue37
 t51:=Tryz.underlying154
 a51:=Tryz.isAgg154
 z51:=Tryz.sizeOf154
 v51:=Tryz.zeroValue154
 t53:=Tryz.underlying55
 a53:=Tryz.isAgg55
 z53:=Tryz.sizeOf55
 v53:=Tryz.zeroValue55
 t131:=Tryz.underlying131
 a131:=Tryz.isAgg131
 z131:=Tryz.sizeOf131
 v131:=Tryz.zeroValue131
 t182:=Tryz.underlying147
 a182:=Tryz.isAgg147
 z182:=Tryz.sizeOf147
 v182:=Tryz.zeroValue147
 t183:=Tryz.underlying148
 a183:=Tryz.isAgg148
 z183:=Tryz.sizeOf148
 v183:=Tryz.zeroValue148
 t218:=Tryz.underlying176
 a218:=Tryz.isAgg176
 z218:=Tryz.sizeOf176
 v218:=Tryz.zeroValue176
 t222:=Tryz.underlying180
 a222:=Tryz.isAgg180
 z222:=Tryz.sizeOf180
 v222:=Tryz.zeroValue180
 t228:=Tryz.underlying192
 a228:=Tryz.isAgg192
 z228:=Tryz.sizeOf192
 v228:=Tryz.zeroValue192
 t229:=Tryz.underlying193
 a229:=Tryz.isAgg193
 z229:=Tryz.sizeOf193
 v229:=Tryz.zeroValue193
def O0:Go.Shelf.Ren:=⟨fun | 20=>67 | n=>n,fun | 22=>23 | 3=>3 | 4=>4 | 0=>0 | n=>n,fun | n=>n⟩
theorem Np:Go.Proofs.Lays2.n20 Tryz.prog O0 where
 mixed:=by kernel_rfl
 f20:=Tryz.func67.trans (congrArg some (by kernel_rfl))
 t0:=Tryz.underlying0
 a0:=Tryz.isAgg0
 z0:=Tryz.sizeOf0
 v0:=Tryz.zeroValue0
 t3:=Tryz.underlying3
 a3:=Tryz.isAgg3
 z3:=Tryz.sizeOf3
 v3:=Tryz.zeroValue3
 t4:=Tryz.underlying4
 a4:=Tryz.isAgg4
 z4:=Tryz.sizeOf4
 v4:=Tryz.zeroValue4
 t22:=Tryz.underlying23
 a22:=Tryz.isAgg23
 z22:=Tryz.sizeOf23
 v22:=Tryz.zeroValue23
 i3:=by kernel_rfl
def BRow (w:World) (b:Nat) (l:List Bool):Prop:=w.heap[b]?=some (.cells ((l.map Value.bool).toArray) 4 (0,0))
theorem BRow.lt {w:World}{b:Nat}{l:List Bool}(h:BRow w b l):b<w.heap.size:=(Array.getElem?_eq_some_iff.1 h).1
theorem BRow.cell {w:World}{b:Nat}{l:List Bool}(h:BRow w b l){i:Nat}(hi:i<l.length):w.cell? ⟨b,i,none⟩=some (.bool (l.getD i false)) :=
 Ae h i _ (by simp [List.getD,hi])
theorem BRow.free {w:World}{b:Nat}{l:List Bool}(h:BRow w b l)(i:Nat):w.frozen? ⟨b,i,none⟩=false:=Ay h i
theorem BRow.kept {w w':World}{b:Nat}{l:List Bool}(h:BRow w b l)(k:Kept w w'):BRow w' b l:=(k.block b h.lt).trans h
theorem BRow.grown {w w':World}{b:Nat}{l:List Bool}{row:Option Nat}(h:BRow w b l)(k:w.grownBy w' row)(hne:some b≠row):BRow w' b l:=(k.block b h.lt hne).trans h
theorem BRow.set {w:World}{b:Nat}{l:List Bool}(h:BRow w b l)(i:Nat)(x:Bool):BRow (w.setCell ⟨b,i,none⟩ (.bool x)) b (l.set i x):=by
 have:=Bb (i:=i) h (.bool x);unfold BRow;rw [this,List.map_set,List.setIfInBounds_toArray]
theorem Aju:(Tryz.prog.info? 4).map (fun i=>(i.zero,i.size,i.bytes))=some (some (.bool false),1,1):=by kernel_rfl
theorem Yg (w:World){n:Nat}(hn:n≤1000000000):∃ V,(Instr.makeSlice 93 (.int .i64 n) (.int .i64 n)).run Tryz.prog w=.ok (.slice (some ⟨w.heap.size,0,none⟩) n n) V∧Kept w V∧w.heap.size<V.heap.size∧BRow V w.heap.size (List.replicate n false):=by
 obtain ⟨i0,hi,hz0,hz1,hz2⟩:=info_parts Aju;have hr:=run_make (P:=Tryz.prog) w 93 4 i0 _ Tryz.underlying93 hi hz0 .i64 .i64 n n (by omega) (Int.le_refl _) (by rw [hz2];omega) (by omega);simp only [Int.toNat_natCast] at hr;refine ⟨_,hr,Aa _ _,by simp,?_⟩;unfold BRow;rw [heap_alloc_new]
 congr 2
 rw [hz1,Nat.mul_one]
 apply Array.ext
 ·rw [size_madeCells];simp
 ·intro j h1 h2
  simp [madeCells,Value.cells,Nat.mod_one]
def OwnN (w:World) (base:Nat) (v:Value) (ns:List Int):Prop:=w.ownsRow base 3 1 v ns.length (ns.map (Value.int .i64))
theorem OwnN.nil (w:World)(base:Nat):OwnN w base (.slice none 0 0) []:=World.ownsRow_nil _ _ _ _
theorem OwnN.block {w w':World}{base:Nat}{v:Value}{ns:List Int}(h:OwnN w base v ns)(k:∀ g,v.ownBlock=some g→w'.heap[g]?=w.heap[g]?):OwnN w' base v ns:=by
 obtain ⟨h1,h2⟩:=h;refine ⟨h1,?_⟩
 rcases h2 with hn | ⟨g,cap,cur,rfl,hb,hg,rest⟩
 ·exact .inl hn
 ·exact .inr ⟨g,cap,cur,rfl,hb,(k g rfl).trans hg,rest⟩
theorem OwnN.kept {w w':World}{base:Nat}{v:Value}{ns:List Int}(h:OwnN w base v ns)(k:Kept w w'):OwnN w' base v ns:=h.block fun g hg=>k.block g (h.lt g hg).2
theorem OwnN.set {w:World}{base b i:Nat}{v x:Value}{ns:List Int}(h:OwnN w base v ns)(hb:b<base):OwnN (w.setCell ⟨b,i,none⟩ x) base v ns :=
 h.block fun g hg=>Below.heap_setCell _ _ _ _ (by have:=(h.lt g hg).1;show g≠b;omega)
theorem OwnN.inS {w:World}{base:Nat}{v:Value}{ns:List Int}(h:OwnN w base v ns):InS w v ns:=by
 have hc:=fun g hg=>World.ownsRow.cells h (g:=g) hg
 obtain ⟨h1,h2⟩:=h
 rcases h2 with ⟨rfl,hn⟩ | ⟨g,cap,cur,rfl,hb,hg,h3,-⟩
 ·rw [List.length_eq_zero_iff.1 hn];exact ⟨none,0,rfl,Nat.le_refl _,fun h=>absurd h (by simp)⟩
 ·refine ⟨some ⟨g, 0, none⟩, cap, rfl, h3, fun _ => ⟨g, 0, rfl, fun i n hi => ?_⟩⟩;have:=hc g rfl i (.int .i64 n) (by rw [List.getElem?_map,hi];rfl);rw [Go.WideShapes.add_plain] at this;exact this
theorem Aj5:(Tryz.prog.info? 3).map (fun i=>(i.zero,i.size,i.bytes))=some (some (.int .i64 0),1,8):=by kernel_rfl
theorem Pk {w:World}{ops:Array Oper}{rest:List Oper}{o:Oper}{a:Act}{Q:Exit→Act→World→Prop}(hgd:o.guard=none)(s x:Operand)
 (ho:o.op=.call { callee:=.builtin .append,args:=#[s,x],argTypes:=#[23,23] })
 {base:Nat} {v:Value} {ns:List Int} (hs:a.eval s=v) (hown:OwnN w base v ns) {z:Int} {b:Nat} (hb:w.cell? ⟨b,0,none⟩=some (.int .i64 z)) (hx:a.eval x=.slice (some ⟨b,0,none⟩) 1 1)
 (hl:ns.length≤1000000) (hbase:base≤w.heap.size)
 (h:∀ v' w',OwnN w' base v' (ns++[z])→w.grownBy w' v.ownBlock→wpList Tryz.prog ops Q rest (a.put o.dst v') w'):wpList Tryz.prog ops Q (o::rest) a w:=by
 obtain ⟨i0,hi,hz0,hz1,hz2⟩:=info_parts Aj5;refine wpList_append_own w hgd s x _ ho base 3 i0 _ 1 8 Tryz.underlying23 hi hz0 hz1 hz2 rfl (by decide) v ns.length _ hs hown _ 1 1 [.int .i64 z] hx rfl ?_ (by intro y hy;simp only [List.mem_singleton] at hy;rw [hy];rfl) (by unfold maxLen;omega) (by omega) hbase ?_
 ·intro j y hy;rw [Go.WideShapes.add_plain]
  rcases j with _ | j
  ·cases hy;exact hb
  ·simp at hy
 ·intro v' w' q1 q2 _;exact h v' w' (by unfold OwnN;rw [List.length_append,List.map_append];exact q1) q2
def RetN (ns:List Int) (w:World) (e:Ending) (w':World):Prop:=Kept w w'∧∃ v,e=.returned v∧InS w' v ns
open Go.Sort in
theorem Aih {w:World}{base:Nat}{v:Value}{ns:List Int}(h:OwnN w base v ns)(hl:ns.length≤1000000):Calls Tryz.prog 66 #[v] w fun e w' =>
 e=.returned (.tuple #[])∧OwnN w' base v (ns.mergeSort fun x y=>decide (x≤y))∧w.grownBy w' v.ownBlock:=by
 by_cases h0:ns=[]
 ·subst h0;obtain ⟨p,cap,rfl⟩:∃ p cap,v=.slice p 0 cap:=by
   rcases h.2 with ⟨rfl,-⟩ | ⟨g,cap,cur,rfl,-⟩
   ·exact ⟨none,0,rfl⟩
   ·exact ⟨_,cap,rfl⟩
  have hc:Calls Tryz.prog 66 #[.slice p 0 cap] w _:=calls_of_every_depth fun D=>AnyS.slices_Sort_int_none_in Sn D p cap w
  refine hc.mono ?_;rintro e w' ⟨rfl,rfl⟩;exact ⟨rfl,by rw [List.mergeSort_nil];exact h,rfl,rfl,rfl,Nat.le_refl _,fun k _ _=>rfl⟩
 ·have hn : ns.length ≠ 0 := fun e => h0 (List.length_eq_zero_iff.1 e)
  have hv:v≠.slice none 0 0:=by
   rintro rfl
   rcases h.2 with ⟨-,e⟩ | ⟨g,cap,cur,e,-⟩
   ·exact hn e
   ·cases e
  obtain ⟨g,cap,rfl,hbg,hgl,hncap,hcm,-,hH⟩:=Go.Lib.holds_of_ownsRow (enc:=Value.int .i64) h hv;have hc:Calls Tryz.prog 66 #[.slice (some ⟨g,0,none⟩) ns.length cap] w _:=Any.slices_Sort_int Sn g 0 cap ns w hH hgl (by omega);refine hc.mono ?_;rintro e w' ⟨rfl,n,os,rfl⟩;have hl2:(ns.mergeSort fun x y=>decide (x≤y)).length=ns.length:=List.length_mergeSort ns;obtain ⟨-,⟨e,-⟩ | ⟨g',cap',cur,e,hb1,hb2,hb3,hb4,hb5,-⟩⟩:=h
  ·cases e
  ·injection e with e1 e2 e3
   injection e1 with e1
   injection e1 with e1
   subst e1 e3;refine ⟨rfl,?_,grownBy_sortedI _⟩;unfold OwnN;rw [hl2];exact ownsRow_sortedI hl2 hb1 hb2 hb3 hb4 hb5
open Go.Sort in
theorem Abm {w:World}{base:Nat}{v:Value}{ns:List Int}(h:OwnN w base v ns)(hl:ns.length≤1000000):Calls Tryz.prog 67 #[v] w fun e w' =>
 ∃ v',e=.returned v'∧InS w' v' (Go.Lib.compact ns)∧w.grownBy w' v.ownBlock:=by
 by_cases h0:ns=[]
 ·subst h0;obtain ⟨p,cap,rfl⟩:∃ p cap,v=.slice p 0 cap:=by
   rcases h.2 with ⟨rfl,-⟩ | ⟨g,cap,cur,rfl,-⟩
   ·exact ⟨none,0,rfl⟩
   ·exact ⟨_,cap,rfl⟩
  have hc:Calls Tryz.prog 67 #[.slice p 0 cap] w _:=calls_of_every_depth fun D=>AnyS.slices_Compact_int_empty_in Np D p cap w
  refine hc.mono ?_;rintro e w' ⟨rfl,rfl⟩;exact ⟨_,rfl,⟨p,cap,rfl,Nat.zero_le _,fun h=>absurd h (by decide)⟩,rfl,rfl,rfl,Nat.le_refl _,fun k _ _=>rfl⟩
 ·have hn : ns.length ≠ 0 := fun e => h0 (List.length_eq_zero_iff.1 e)
  have hv:v≠.slice none 0 0:=by
   rintro rfl
   rcases h.2 with ⟨-,e⟩ | ⟨g,cap,cur,e,-⟩
   ·exact hn e
   ·cases e
  obtain ⟨g,cap,rfl,hbg,hgl,hncap,hcm,-,hH⟩:=Go.Lib.holds_of_ownsRow (enc:=Value.int .i64) h hv;have hc:Calls Tryz.prog 67 #[.slice (some ⟨g,0,none⟩) ns.length cap] w _:=calls_of_every_depth fun D=>AnyS.slices_Compact_int_in Np D g 0 cap ns w hH (by omega) hncap
  refine hc.mono ?_;rintro e w' ⟨rfl,q,rfl⟩;have hcl:=Go.Lib.compact_length_le ns;have hc2:=Go.Lib.ownsRow_putRow (q:=q) (k:=(Go.Lib.compact ns).length) (ys:=Go.Lib.compact ns++List.replicate (ns.length-(Go.Lib.compact ns).length) 0) h (by simp;omega) hcl;rw [List.take_left] at hc2;refine ⟨_,rfl,OwnN.inS (base:=base) hc2,rfl,rfl,rfl,?_,fun k hk hne=>?_⟩
  ·simp [putRow,mapBlock,Sort.ahead]
  ·have : g ≠ k := fun e => hne (by rw [e]; rfl)
   simp [putRow,mapBlock,Sort.ahead,Array.getElem?_modify,this]
theorem W9 {ls:List Ln}{outs:List Int}{x u p:Int}(h:Ex ls outs x u p=true){i:Nat}{l:Ln}(hi:ls[i]?=some l):Ff l i x u p=true:=by
 unfold Ex at h;simp only [Bool.and_eq_true] at h;have:=(D8 x u p ls 0).1 h.1.2 i l hi
 rwa [Nat.zero_add] at this
theorem Ad2 {ls:List Ln}{i:Nat}{l:Ln}(h:ls[i]?=some l)(st:List Bool × List Int):J6 ls i st=if st.1.getD i false=false then st else if l.op=4 then (st.1,st.2++[l.a]) else
 if 0<Ce l.op then ((st.1.set l.a.toNat true).set l.b.toNat ((st.1.set l.a.toNat true).getD l.b.toNat false||decide (1<Ce l.op)),st.2) else st:=by
 unfold J6;rw [h]
theorem Wz {l:Ln}{i:Nat}{x u p:Int}(h:Ff l i x u p=true)(hp:0<Ce l.op):0≤l.a∧l.a<i∧0≤l.b∧l.b<i:=by
 obtain ⟨op,a,b,k⟩:=l;have h1:op≠1∧op≠2∧op≠3∧op≠4∧op≠5:=by
  unfold Ce at hp;refine ⟨?_,?_,?_,?_,?_⟩<;>rintro rfl<;>simp at hp
 obtain ⟨a1,a2,a3,a4,-⟩:=Ahv h h1.1 h1.2.1 h1.2.2.1 h1.2.2.2.1 h1.2.2.2.2;exact ⟨a1,a2,a3,a4⟩
theorem Xo {w:World}{v:Value}{ls:List Ln}{outs:List Int}{k:Int}(hv:TpR w v ls outs)(hok:Pg ls)(hn:ls.length≤1000)(hno:outs.length≤1000)(k1:-9223372036854775808≤k)(k2:k≤9223372036854775807) :
 Calls Tryz.prog 31 #[v,.int .i64 k] w (RetN (Ic ls outs k) w):=by
 have MT:=hid (fun w1 (q:Kept w w1)=>Rb (x:=9223372036854775807) (u:=9223372036854775807) (p:=9223372036854775807) (hv.kept q) hok (by omega) (by omega) (by decide) (by decide) (by decide));obtain ⟨s,o,rfl,hls,hou⟩:=hv;have HO:=hid hou;obtain ⟨A,c,rfl,hc,hA⟩:=hls;have HA:=hid hA;clear hA;obtain ⟨B,d,rfl,-,-⟩:=hou;obtain ⟨W,hW,kW,hb,lW⟩:=Ach w (.slice A ls.length c) (.slice B outs.length d);have HW:=hid hW;have K:=hid kW;have HB:=hid hb;obtain ⟨c0,c1⟩:=Cn hb;have BC:=hid (fun w1=>Me k outs.length w1);obtain ⟨R,hR⟩:∃ R,Ic ls outs k=R:=⟨_,rfl⟩;rw [hR];obtain ⟨bt,hbt⟩:∃ b,Bz k outs.length=b:=⟨_,rfl⟩
 rw [hbt] at BC;obtain ⟨mt,hmt⟩:∃ b,Ex ls outs 9223372036854775807 9223372036854775807 9223372036854775807=b:=⟨_,rfl⟩;rw [hmt] at MT;have HBT:=hid hbt;have HMT:Hid (Ex ls outs big big big=mt):=hid hmt;have HR:=hid hR;obtain ⟨n,hn'⟩:∃ n,n=ls.length:=⟨_,rfl⟩;obtain ⟨no,hno'⟩:∃ n,n=outs.length:=⟨_,rfl⟩;rw [←hn'] at hn hc HW HB c0 MT HA ⊢;rw [←hno'] at hno HW HB BC HBT c1 MT ⊢;have HN:=hid hn';have HNO:=hid hno';have OK:=hid hok;clear hW kW hb hbt hmt hR hn' hno' hok
 go_enter Tryz.func31,Tryz.ntmps31
 go_upto_region 1 with fail
 rw [←HW.out];go_wp2_with fail;refine (MT.out _ K.out).mono ?_;rintro e w1 ⟨rfl,q⟩;simp only [];replace K:=hid (K.out.trans q);replace HB:=hid (Ar HB.out q);clear q c0 c1 HW MT;obtain ⟨c0,c1⟩:=Cn HB.out;cases mt
 ·go_wp2_with fail;go_ret;have e:R=[]:=by
   rw [←HR.out];unfold Ic;rw [if_neg (by rw [HMT.out];simp)]
  subst e;exact ⟨K.out,_,rfl,none,0,rfl,Nat.le_refl _,fun h=>absurd h (by simp)⟩
 go_wp2_with fail;refine (BC.out _).mono ?_;rintro e w2 ⟨rfl,q⟩;simp only [];replace K:=hid (K.out.trans q);replace HB:=hid (Ar HB.out q);clear q c0 c1 BC;obtain ⟨c0,c1⟩:=Cn HB.out;cases bt
 ·go_wp2_with fail;go_ret;have e:R=[]:=by
   have h:=HBT.out;rw [←HR.out];unfold Ic;rw [if_neg (by intro h2;unfold Bz at h;simp at h;have:=HNO.out;omega)]
  subst e;exact ⟨K.out,_,rfl,none,0,rfl,Nat.le_refl _,fun h=>absurd h (by simp)⟩
 obtain ⟨kk,rfl⟩:∃ kk:Nat,k=(kk:Int):=⟨k.toNat,by have h:=HBT.out;unfold Bz at h;simp at h;omega⟩;have hkn:kk<no:=by have h:=HBT.out;unfold Bz at h;simp at h;omega
 obtain ⟨z,hz⟩:∃ z,outs[kk]?=some z:=⟨_,List.getElem?_eq_getElem (by have:=HNO.out;omega)⟩;obtain ⟨z1,z2⟩:=(Io HMT.out).2 z (List.mem_of_getElem? hz);obtain ⟨zo,rfl⟩:∃ zo:Nat,z=(zo:Int):=⟨z.toNat,by omega⟩;have hzn:zo<n:=by have:=HN.out;omega
 have HRR:Hid (R=Go.Lib.compact ((Tu ls zo).mergeSort fun x y=>decide (x≤y))):=hid (by
  rw [←HR.out];unfold Ic;rw [if_pos ⟨HMT.out,by omega,by have:=HNO.out;omega⟩];rw [List.getD_eq_getElem?_getD,Int.toNat_natCast,hz]
  rfl)
 have lb:=(Array.getElem?_eq_some_iff.1 HB.out).1;obtain ⟨bl,ol,rfl,hdl⟩:=HA.out (by omega);have HDL:=hid hdl;clear hdl HA;obtain ⟨V,hmk,kV,lV,bV⟩:=Yg w2 (n:=n) (by omega);obtain ⟨B',d',eo,-,hBo⟩:=HO.out.kept (K.out.trans kV);injection eo with eo1 eo2 eo3
 subst eo1;obtain ⟨bo,oo,rfl,ho⟩:=hBo (by have:=HNO.out;omega);have ho0:=ho kk _ hz;have BV:=hid bV;have bc:=bV.cell (i:=zo) (by simp;omega);have bf:=bV.free zo;replace K:=hid (K.out.trans kV);replace HB:=hid (Ar HB.out kV);clear eo2 eo3 ho hBo z1 z2 kV bV HR HBT
 go_upto_region 4 with fail
 clear c0 c1;obtain ⟨c0,c1⟩:=Cn HB.out
 go_upto_region 5 with fail
 have B1:=hid (BV.out.set zo true);have HB1:=hid (Ba (b':=w2.heap.size) (i:=zo) HB.out (by omega) (.bool true));have K1:=hid (K.out.setCell (p:=⟨w2.heap.size,zo,none⟩) (by show w.heap.size≤w2.heap.size;omega) (.bool true));have lV1:w2.heap.size<(V.setCell ⟨w2.heap.size,zo,none⟩ (.bool true)).heap.size:=B1.out.lt;clear c0 c1 bc bf ho0 hmk K HB BV lV;generalize V.setCell ⟨w2.heap.size,zo,none⟩ (.bool true)=V1 at *;generalize w2.heap.size=nb at *;obtain ⟨F,hF⟩:∃ F,Lj ls n ((List.replicate n false).set zo true,[])=F:=⟨_,rfl⟩;have HF:=hid hF;have HRF:Hid (R=Go.Lib.compact (F.2.mergeSort fun x y=>decide (x≤y))):=hid (by
  rw [HRR.out,←hF];unfold Tu;rw [←HN.out])
 clear hF HRR;obtain ⟨c0,c1⟩:=Cn HB1.out;go_wp2_with fail;clear c0 c1
 go_loopw [6,7] (fun v t wr=>∃ (i:Nat) (j:Int) (need:List Bool) (out:List Int),i≤n∧t=.int .i64 j∧j=(i:Int)-1∧Lj ls i (need,out)=F∧need.length=n∧out.length+i≤n∧BRow wr nb need ∧
  OwnN wr V1.heap.size v out∧Kept w wr∧wr.heap[w.heap.size]?=some (.cells #[.slice (some ⟨bl,ol,none⟩) n c,.slice (some ⟨bo,oo,none⟩) no d] 25 (0,0))∧V1.heap.size≤wr.heap.size) (fun _ t _=>(intOf t+1).toNat)
 case atStart=>exact ⟨n,(n:Int)-1,_,[],Nat.le_refl _,by first | rfl | go_num,rfl,HF.out,by simp,by simp,B1.out,OwnN.nil _ _,K1.out,HB1.out,Nat.le_refl _⟩
 case round =>
  obtain ⟨i,j,need,out,hi,rfl,hj,hback,hlen,hol,hbr,hown,hKr,hBr,hsz⟩:=hrel;have KR:=hid hKr;have BR:=hid hbr;have OW:=hid hown;have HBR:=hid hBr;have BK:=hid hback;have LN:=hid hlen;obtain ⟨c0,c1⟩:=Cn hBr;clear hback hbr hown hKr hBr hlen
  rcases i with _ | i
  ·obtain rfl : j = -1 := by omega
   clear hj;have hFo:F=(need,out):=BK.out.symm;have HRO:Hid (R=Go.Lib.compact (out.mergeSort fun x y=>decide (x≤y))):=hid (by rw [HRF.out,hFo]);have SC:=hid (Aih OW.out (by omega));clear hFo c0 c1;go_wp2_with fail;refine SC.out.mono ?_;rintro e w3 ⟨rfl,hs,gs⟩;simp only [];have K3:=hid (Below.grown KR.out gs KR.out.size (fun g hg=>by have:=(OW.out.lt g hg).1;omega));have CC:=hid (Abm hs (by rw [List.length_mergeSort];omega));have OW3:=hid hs;have hss:=gs.size;clear hs gs SC;go_wp2_with fail;refine CC.out.mono ?_;rintro e w4 ⟨v4,rfl,hin,gs⟩;simp only [];have K4:=hid (Below.grown K3.out gs (by have:=KR.out.size;omega) (fun g hg=>by have:=(OW3.out.lt g hg).1;omega))
   have HIN:=hid hin;clear hin gs CC;obtain ⟨A4,c4,rfl,-,-⟩:=HIN.out;go_wp2_with fail;go_ret;have e:=HRO.out;subst e;exact ⟨K4.out,_,rfl,HIN.out⟩
  ·obtain rfl : j = (i : Int) := by omega
   clear hj;obtain ⟨l,hl⟩:∃ l,ls[i]?=some l:=⟨_,List.getElem?_eq_getElem (by have:=HN.out;omega)⟩;have hat:=(HDL.out i l hl).kept KR.out;have hml:=W9 HMT.out hl;have BK2:Hid (Lj ls i (J6 ls i (need,out))=F):=hid BK.out;obtain ⟨op,la,lb',lk⟩:=l;obtain ⟨e0,e1,e2,y0,y1,y2,y3,y4,y5,g0,g1,g2,g3,g4,g5,hI⟩:=hat;obtain ⟨A1,l1,q1,A2,l2,q2,ei,-,-⟩:=Az hI;injection ei with ei;injection ei with ei
   simp only [List.cons.injEq,and_true] at ei;obtain ⟨rfl,rfl,rfl,rfl,rfl,rfl⟩:=ei;clear hI;simp only at e0 e1 e2;have HL:=hid hl;have HML:=hid hml;have bn:=BR.out.cell (i:=i) (by have:=LN.out;omega);obtain ⟨nd,hnd⟩:∃ b,need.getD i false=b:=⟨_,rfl⟩;rw [hnd] at bn;have HND:=hid hnd;obtain ⟨pp,hpp⟩:∃ q,Ce op=q:=⟨_,rfl⟩;have PC:=hid (fun w1=>show Calls Tryz.prog 65 #[.int .i64 op] w1 (RetK (.int .i64 pp) w1) by rw [←hpp];exact Zp op w1);have HPP:=hid hpp;clear hl hml hnd hpp;obtain ⟨Y,hY,kY,hy,lY⟩:=Aix wr (.int .i64 op) (.int .i64 la) (.int .i64 lb') (.bool lk.lo.neg) (.slice A1 l1 q1) (.int .i64 lk.lo.e) (.bool lk.hi.neg) (.slice A2 l2 q2) (.int .i64 lk.hi.e)
   have HY:=hid hY;clear hY
   go_upto_region 10 with fail
   rw [←HY.out];clear c0 c1 e0 e1 e2 g0 g1 g2 g3 g4 g5 bn;obtain ⟨f0,f1,f2,f3,f4,f5,f6,f7,f8⟩:=Be hy;go_wp2_with fail;refine (PC.out _).mono ?_;rintro e w3 ⟨rfl,q⟩;simp only [];have kk3:=kY.trans q;have K3:=hid (KR.out.trans kk3);have BR3:=hid (BR.out.kept kk3);have OW3:=hid (OW.out.kept kk3);have HB3:=hid (Ar HBR.out kk3);have HY3:=hid (Ar hy q);have sz3:=kk3.size;have hbb:wr.heap.size<w3.heap.size:=Nat.lt_of_lt_of_le lY q.size;clear f0 f1 f2 f3 f4 f5 f6 f7 f8 hy kY q kk3 HY PC lY;generalize wr.heap.size=yb at *;obtain ⟨c0,c1⟩:=Cn HB3.out;obtain ⟨f0,f1,f2,f3,f4,f5,f6,f7,f8⟩:=Be HY3.out
   have bn:=BR3.out.cell (i:=i) (by have:=LN.out;omega);rw [HND.out] at bn;have HST:=hid (Ad2 HL.out (need,out));cases nd
   ·go_wp2_with fail
    go_roundw
    case rel =>
     refine ⟨i,(i:Int)-1,need,out,by omega,by go_num,rfl,?_,LN.out,by omega,BR3.out,OW3.out,K3.out,HB3.out,by omega⟩;rw [←BK2.out,HST.out,if_pos HND.out]
    case measure=>simp only [intOf];omega
   ·by_cases h4 : op = 4
    ·subst h4;have hst:J6    ls i (need,out)=(need,out++[la]):=by
      rw [HST.out,if_neg (by rw [HND.out];decide),if_pos rfl]
     have HST2:=hid hst;have hlo:out.length≤1000000:=by omega
     have hba:V1.heap.size≤(w3.alloc (.cells #[.int .i64 la] 3)).heap.size:=by simp;omega
     clear hst HST
     go_wp2_with (at_builtin;refine Pk rfl (.tmp 58) (.tmp 61) rfl rfl (OW3.out.kept (Aa _ _)) (Ae (heap_alloc_new w3 (.cells #[.int .i64 la] 3)) 0 _ rfl) rfl hlo hba ?_;intro v' X' OX' gX')
     have OX:=hid OX';have ne1:some nb≠Value.ownBlock u6:=fun e=>by have:=(OW3.out.lt nb e.symm).1;omega
     have BX:=hid ((BR3.out.kept (Aa _ _)).grown gX' ne1);have ne2:some w.heap.size≠Value.ownBlock u6:=fun e=>by have:=(OW3.out.lt _ e.symm).1;omega
     have HX:=hid ((gX'.block _ (Nat.lt_of_lt_of_le (Array.getElem?_eq_some_iff.1 HB3.out).1 (Aa w3 _).size) ne2).trans (Ar HB3.out (Aa _ _)));have KX:=hid (Below.grown (K3.out.trans (Aa w3 (.cells #[.int .i64 la] 3))) gX' (by have:=K3.out.size;simp;omega) (fun g hg=>by have:=(OW3.out.lt g hg).1;omega));have hsX:=gX'.size;clear gX' OX' ne1 ne2
     go_roundw
     case rel =>
      refine ⟨i,(i:Int)-1,need,out++[la],by omega,by go_num,rfl,?_,LN.out,by simp;omega,BX.out,OX.out,KX.out,HX.out,by omega⟩;rw [←BK2.out,HST2.out]
     case measure=>simp only [intOf];omega
    ·have g4 : (op == 4) = false := by simp [h4]
     by_cases hp:0<pp
     ·have gp : decide (0 < pp) = true := by simp [hp]
      obtain ⟨a1,a2,a3,a4⟩:=Wz HML.out (by rw [HPP.out];exact hp);simp only at a1 a2 a3 a4;obtain ⟨ka,rfl⟩:∃ ka:Nat,la=(ka:Int):=⟨la.toNat,by omega⟩;obtain ⟨kb,rfl⟩:∃ kb:Nat,lb'=(kb:Int):=⟨lb'.toNat,by omega⟩;have hst:J6 ls i (need,out)=((need.set ka true).set kb ((need.set ka true).getD kb false||decide (1<pp)),out):=by
       rw [HST.out,if_neg (by rw [HND.out];decide),if_neg h4,HPP.out,if_pos hp]
       rfl
      have HST2:=hid hst;have bna:=BR3.out.cell (i:=ka) (by have:=LN.out;omega);have bfa:=BR3.out.free ka;have LA:Hid (ka<i∧kb<i):=hid (by omega);have lka:ka<n:=by omega
      have lkb:kb<n:=by omega
      clear hst HST a1 a2 a3 a4
      go_upto_region 16 with fail
      have BX:=hid (BR3.out.set ka true);have OX:=hid (OW3.out.set (i:=ka) (x:=.bool true) lV1);have HX:=hid (Ba (b':=nb) (i:=ka) HB3.out (by omega) (.bool true));have KX:=hid (K3.out.setCell (p:=⟨nb,ka,none⟩) (by show w.heap.size≤nb;omega) (.bool true));have HYX:=hid (Ba (b':=nb) (i:=ka) HY3.out (by omega) (.bool true));have hsX:(w3.setCell ⟨nb,ka,none⟩ (.bool true)).heap.size=w3.heap.size:=by simp [World.setCell]
      clear c0 c1 f0 f1 f2 f3 f4 f5 f6 f7 f8 bn bna bfa;generalize w3.setCell ⟨nb,ka,none⟩ (.bool true)=X1 at *;obtain ⟨f0,f1,f2,f3,f4,f5,f6,f7,f8⟩:=Be HYX.out;have bnb:=BX.out.cell (i:=kb) (by have:=LN.out;simp;omega);have bfb:=BX.out.free kb;obtain ⟨nv,hnv⟩:∃ b,(need.set ka true).getD kb false=b:=⟨_,rfl⟩;rw [hnv] at bnb;have HNV:=hid hnv;clear hnv;cases nv
      ·obtain ⟨pv, hpv⟩ : ∃ b, decide (1 < pp) = b := ⟨_, rfl⟩
       go_region
       have K9:=KX.out.setCell (p:=⟨nb,kb,none⟩) (by show w.heap.size≤nb;omega) (.bool pv);have H9:=Ba (b':=nb) (i:=kb) HX.out (by omega) (.bool pv);have S9:(X1.setCell ⟨nb,kb,none⟩ (.bool pv)).heap.size=X1.heap.size:=by simp [World.setCell]
       have L9:=LA.out;go_wp2_with fail;refine ⟨⟨i,_,(need.set ka true).set kb pv,out,by omega,rfl,rfl,?_,by rw [List.length_set,List.length_set];exact LN.out,by omega,BX.out.set kb pv,OX.out.set lV1,⟨K9.os,K9.tape,K9.output,K9.size,K9.block⟩,H9,?_⟩,by simp only [intOf];omega⟩
       ·rw [← BK2.out, HST2.out, HNV.out, hpv]
        rfl
       ·show V1.heap.size ≤ (X1.setCell ⟨nb, kb, none⟩ (.bool pv)).heap.size
        omega
      ·go_region
       have K9:=KX.out.setCell (p:=⟨nb,kb,none⟩) (by show w.heap.size≤nb;omega) (.bool true);have H9:=Ba (b':=nb) (i:=kb) HX.out (by omega) (.bool true);have S9:(X1.setCell ⟨nb,kb,none⟩ (.bool true)).heap.size=X1.heap.size:=by simp [World.setCell]
       have L9:=LA.out;go_wp2_with fail;refine ⟨⟨i,_,(need.set ka true).set kb true,out,by omega,rfl,rfl,?_,by rw [List.length_set,List.length_set];exact LN.out,by omega,BX.out.set kb true,OX.out.set lV1,⟨K9.os,K9.tape,K9.output,K9.size,K9.block⟩,H9,?_⟩,by simp only [intOf];omega⟩
       ·rw [← BK2.out, HST2.out, HNV.out]
        rfl
       ·show V1.heap.size ≤ (X1.setCell ⟨nb, kb, none⟩ (.bool true)).heap.size
        omega
     ·have gp : decide (0 < pp) = false := by simp [hp]
      go_wp2_with fail
      go_roundw
      case rel =>
       refine ⟨i,(i:Int)-1,need,out,by omega,by go_num,rfl,?_,LN.out,by omega,BR3.out,OW3.out,K3.out,HB3.out,by omega⟩;rw [←BK2.out,HST.out,if_neg (by rw [HND.out];decide),if_neg h4,HPP.out,if_neg hp]
      case measure=>simp only [intOf];omega
end Go.Proofs.YtabjjdicffcolaaGreatDoor
