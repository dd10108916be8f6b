/- Words and contracts, part 16. -/
import Derived.Test.YtinbgjcooolbiaaGreatDoorClaimAsksp15
import Derived.Defers
import Derived.Recover
set_option maxRecDepth 100000
set_option maxHeartbeats 0
namespace Go.Proofs.YtinbgjcooolbiaaGreatDoor
open Go.Lib (hid)
open Go.RowKit
theorem Fw:∀ (fn:Fn) (first cap:Array Value) (w:World),(Instr.makeFunc fn first cap).run Tryz.prog w=.ok (.func fn first cap) w:=fun _ _ _ _=>rfl
theorem Ek {P:Program}{Q:Exit→Act→List Frame→World→Prop}{a:Act}{cs cs':List Frame}{w w':World}{id:Nat}{o:Oper}{l:List Oper}{y:Code}{v:Value}
 (ho:o.guard=none) (hr:(execOp a.eval o).run P w=.ok .recover w')
 (hc:(match recoverD cs with | some (v',cs'')=>v'=v∧cs''=cs' | none=>v=.nilIface∧cs'=cs))
 (h:wpList P (o::l).toArray (Exit.then (y.wp P (fun e a w=>Q e a cs' w)) (fun e a w=>Q e a cs' w)) l (a.put o.dst v) w') :
 (Code.seq (.region id (o::l).toArray false) y).wpS P Q a cs w:=by
 apply wpS_seq;intro b k hb _;have h1:wpOps P (o::l).toArray (Exit.then (y.wp P (fun e a w=>Q e a cs' w)) (fun e a w=>Q e a cs' w)) (List.range' 1 l.length) (a.put o.dst v) w':=by
  rw [wpOps_eq_wpList l 1 (by intro j;simp [Nat.add_comm 1 j])];exact h
 obtain ⟨e,a',w'',hq,harr⟩:=wp_ops _ _ _ h1 b k cs';have hw:Region.wanted o (yielded (o::l).toArray a.tmps)=true:=by simp [Region.wanted,ho]
 have hi:(o::l).toArray[0]?=some o:=by simp
 have hg:=stepG_op (P:=P) (b:=b) (k:=k) (cs:=cs) (w:=w) (rest:=List.range' 1 l.length) hi hw;have hfin:(b.at a (.inRegion (o::l).toArray (0::List.range' 1 l.length)::k)).finish v=b.at (a.put o.dst v) (.inRegion (o::l).toArray (List.range' 1 l.length)::k):=by
  rw [Frame.finish_at,hi];rfl
 have htr:=tryRecover_deferred (fr:=b.at a (.inRegion (o::l).toArray (0::List.range' 1 l.length)::k)) hb cs;have hstep:step P (lone (b.at a (.inRegion (o::l).toArray (0::List.range' 1 l.length)::k)) cs w)=.next (lone (b.at (a.put o.dst v) (.inRegion (o::l).toArray (List.range' 1 l.length)::k)) cs' w'):=by
  refine step_lone_go ?_;rw [hg,←hfin];cases hrec:recoverD cs with
  | none =>
    rw [hrec] at hc htr;obtain ⟨rfl,rfl⟩:=hc;simp only [Frame.at] at htr ⊢;simp [stepG.apply,hr,htr]
  | some p =>
    obtain ⟨v1,cs1⟩:=p;rw [hrec] at hc htr;obtain ⟨rfl,rfl⟩:=hc;simp only [Frame.at] at htr ⊢;simp [stepG.apply,hr,htr]
 refine ⟨e,a',cs',w'',?_,.of_steps (.head step_region (.one (by rw [List.range_eq_range',List.size_toArray,List.length_cons,List.range'_succ];exact hstep))) harr⟩;cases e<;>first | exact hq | exact wpS_of_wp hq
theorem Ae {w:World}{b:Nat}{cs:Array Value}{t:TypeId}(h:w.heap[b]?=some (.cells cs t (0,0)))(i:Nat)(v:Value)(hi:cs[i]?=some v) :
 w.cell? ⟨b,i,none⟩=some v:=by
 simp [World.cell?,h,hi]
theorem As {w:World}{b:Nat}{cs:Array Value}{t:TypeId}(h:w.heap[b]?=some (.cells cs t (0,0)))(i:Nat) :
 w.frozen? ⟨b,i,none⟩=false:=by
 simp [World.frozen?,h]
def Tk (w:World) (b2 b3:Nat) (T:TypeId) (k:Int):World :=
 ((((w.setCell ⟨b2,0,none⟩ (.bool false)).setCell ⟨b2,1,none⟩ (.slice none 0 0)).setCell ⟨b2,2,none⟩ (.int .i64 0)).setCell ⟨b3,0,none⟩ (.int .i64 k)).alloc (.cells #[.int .i64 k] T)
theorem Ly (k:Int)(w:World):(Instr.typeAssert (.iface 114 (.agg #[.int .i64 k])) 20 114 true).run Tryz.prog w=.ok (.tuple #[.agg #[.int .i64 k],.bool true]) w:=by
 kernel_rfl
theorem M8 (w:World):(Instr.typeAssert .nilIface 20 114 true).run Tryz.prog w=.ok (.tuple #[.agg #[.int .i64 0],.bool false]) w:=by
 kernel_rfl
theorem R6 (b2 b3:Nat)(w:World)(k:Int)(x y z q:Value)
 (h0:w.heap[b2]?=some (.cells #[x,y,z] 24 (0,0))) (h1:w.heap[b3]?=some (.cells #[q] 3 (0,0))) (hne:¬b2=b3) :
 CallsD Tryz.prog 137 #[.pointer (some ⟨b2,0,none⟩),.pointer (some ⟨b3,0,none⟩)] (.panicking (Cd 114 k)) w fun e u' w' =>
  e=.returned (.tuple #[])∧u'=.panicking [{ v:=.iface 114 (.agg #[.int .i64 k]),recovered:=true }]∧w'=(Tk w b2 b3 114 k).drew:=by
 have ha:=Ly k;have l2:b2<w.heap.size:=(Array.getElem?_eq_some_iff.1 h0).1;have l3:b3<w.heap.size:=(Array.getElem?_eq_some_iff.1 h1).1;have n2:¬b2=w.heap.size:=by omega
 have n3:¬b3=w.heap.size:=by omega
 have n2':¬w.heap.size=b2:=by omega
 have n3':¬w.heap.size=b3:=by omega
 have hne':¬b3=b2:=fun h=>hne h.symm
 have c20:=Ae h0 0 x rfl;have c21:=Ae h0 1 y rfl;have c22:=Ae h0 2 z rfl;have c30:=Ae h1 0 q rfl;have f20:=As h0 0;have f21:=As h0 1;have f22:=As h0 2;have f30:=As h1 0;refine callsD_of_wpS Tryz.func137 rfl fun c₀ cs hu=>?_
 simp only [Tryz.ntmps137,List.size_toArray,List.length_cons,List.length_nil,Nat.reduceAdd,Nat.reduceSub,Array.replicate_succ,
  Array.replicate_zero,List.push_toArray,List.append_toArray,List.nil_append,List.cons_append]
 refine Ek (v:=.iface 114 (.agg #[.int .i64 k])) (cs':={ c₀ with mode:=.panicking [{ v:=.iface 114 (.agg #[.int .i64 k]),recovered:=true }] }::cs) (w':=w) rfl ?_ ?_ ?_
 ·simp [go_sem]
 ·rw [recoverD,hu];exact ⟨rfl,rfl⟩
 go_wp2_with fail;go_region;exact ⟨rfl,_,rfl,_,results_none rfl _ _ _,rfl,rfl,rfl⟩
theorem R7 (b2 b3:Nat)(w:World) :
 CallsD Tryz.prog 137 #[.pointer (some ⟨b2,0,none⟩),.pointer (some ⟨b3,0,none⟩)] .returning w fun e u' w' =>
  e=.returned (.tuple #[])∧u'=.returning∧w'=w.alloc (.cells #[.int .i64 0] 114):=by
 have ha:=M8;refine callsD_of_wpS Tryz.func137 rfl fun c₀ cs hu=>?_
 simp only [Tryz.ntmps137,List.size_toArray,List.length_cons,List.length_nil,Nat.reduceAdd,Nat.reduceSub,Array.replicate_succ,
  Array.replicate_zero,List.push_toArray,List.append_toArray,List.nil_append,List.cons_append]
 refine Ek (v:=.nilIface) (cs':=c₀::cs) (w':=w) rfl ?_ ?_ ?_
 ·simp [go_sem]
 ·rw [recoverD,hu];exact ⟨rfl,rfl⟩
 go_wp2_with fail;exact ⟨rfl,.returning,by rw [←hu],_,results_none rfl _ _ _,rfl,rfl,rfl⟩
def Goes (T:TypeId) (o:Outc Raw) (w:World) (e:Ending) (w':World):Prop :=
 Kept w w'∧((o.k=0∧∃ v,e=.returned v∧DyR w' v o.v)∨(o.k≠0∧e=.panicked (Cd T o.k)))
def RetE (o:Outc Raw) (w:World) (e:Ending) (w':World):Prop :=
 Kept w w'∧∃ v,e=.returned (.tuple #[v,.int .i64 o.k])∧DyR w' v o.v
theorem Bi {w:World}{b i:Nat}{cs:Array Value}{t:TypeId}(h:w.heap[b]?=some (.cells cs t (0,0)))(v:Value):(w.setCell ⟨b,i,none⟩ v).heap[b]?=some (.cells (cs.setIfInBounds i v) t (0,0)):=by
 simp only [World.setCell,Array.getElem?_modify,h];simp
theorem Bm {w:World}{b b' i:Nat}{x:Obj}(h:w.heap[b]?=some x)(hne:¬b=b')(v:Value):(w.setCell ⟨b',i,none⟩ v).heap[b]?=some x:=by
 rw [Below.heap_setCell _ _ _ _ hne,h]
def Dt (w:World) (b2 b3:Nat) (x y z q:Value) (o:Obj):World :=
 ((((w.setCell ⟨b2,0,none⟩ x).setCell ⟨b2,1,none⟩ y).setCell ⟨b2,2,none⟩ z).setCell ⟨b3,0,none⟩ q).alloc o
theorem Hx {w:World}{b2 b3:Nat}{x y z q x' y' z' q':Value}{T T':TypeId}{o:Obj}
 (h0:w.heap[b2]?=some (.cells #[x,y,z] T (0,0))) (h1:w.heap[b3]?=some (.cells #[q] T' (0,0))) (hne:¬b2=b3) :
 (Dt w b2 b3 x' y' z' q' o).cell? ⟨b2,0,none⟩=some x'∧(Dt w b2 b3 x' y' z' q' o).cell? ⟨b2,1,none⟩=some y' ∧
 (Dt w b2 b3 x' y' z' q' o).cell? ⟨b2,2,none⟩=some z'∧(Dt w b2 b3 x' y' z' q' o).cell? ⟨b3,0,none⟩=some q':=by
 have l2:b2<w.heap.size:=(Array.getElem?_eq_some_iff.1 h0).1;have l3:b3<w.heap.size:=(Array.getElem?_eq_some_iff.1 h1).1;have g0:(Dt w b2 b3 x' y' z' q' o).heap[b2]?=some (.cells #[x',y',z'] T (0,0)):=by
  unfold Dt;rw [Below.heap_alloc _ _ _ (by simp [World.setCell,l2])];exact Bm (Bi (Bi (Bi h0 _) _) _) hne _
 have g1:(Dt w b2 b3 x' y' z' q' o).heap[b3]?=some (.cells #[q'] T' (0,0)):=by
  unfold Dt;rw [Below.heap_alloc _ _ _ (by simp [World.setCell,l3])];exact Bi (Bm (Bm (Bm h1 (fun h=>hne h.symm) _) (fun h=>hne h.symm) _) (fun h=>hne h.symm) _) _
 exact ⟨Ae g0 0 _ rfl,Ae g0 1 _ rfl,Ae g0 2 _ rfl,Ae g1 0 _ rfl⟩
theorem I5 {w0 w:World}{b2 b3:Nat}{x y z q:Value}{o:Obj}(h:Kept w0 w)(h2:w0.heap.size≤b2)(h3:w0.heap.size≤b3):Kept w0 (Dt w b2 b3 x y z q o) :=
 ((((h.setCell (p:=⟨b2,0,none⟩) h2 x).setCell (p:=⟨b2,1,none⟩) h2 y).setCell (p:=⟨b2,2,none⟩) h2 z).setCell (p:=⟨b3,0,none⟩) h3 q).alloc (by simpa [World.setCell] using h.size) o
theorem Lim.laid {w:World}{s:Value}{xs:List Nat}{b2 b3:Nat}{x y z q x' y' z' q':Value}{T T':TypeId}{o:Obj}(h:Lim w s xs)
 (h0:w.heap[b2]?=some (.cells #[x,y,z] T (0,0))) (h1:w.heap[b3]?=some (.cells #[q] T' (0,0)))
 (hx:∀ n,¬x=.int .u64 n) (hy:∀ n,¬y=.int .u64 n) (hz:∀ n,¬z=.int .u64 n) (hq:∀ n,¬q=.int .u64 n) :
 Lim (Dt w b2 b3 x' y' z' q' o) s xs:=by
 obtain ⟨hsm,A,c,rfl,hc,hA⟩:=h;refine ⟨hsm,A,c,rfl,hc,fun hp=>?_⟩;obtain ⟨b,off,rfl,hb,hcell⟩:=hA hp;have n2:¬b=b2:=by
  rintro rfl;have h5:=hcell 0 hp;simp only [World.cell?,h0] at h5;rcases off with _ | _ | _ | off
  ·simp at h5;exact hx _ h5
  ·simp at h5;exact hy _ h5
  ·simp at h5;exact hz _ h5
  ·simp at h5
 have n3:¬b=b3:=by
  rintro rfl;have h5:=hcell 0 hp;simp only [World.cell?,h1] at h5;rcases off with _ | off
  ·simp at h5;exact hq _ h5
  ·simp at h5
 have e:(Dt w b2 b3 x' y' z' q' o).heap[b]?=w.heap[b]?:=by
  unfold Dt;rw [Below.heap_alloc _ _ _ (by simpa [World.setCell] using hb),Below.heap_setCell _ _ _ _ n3,Below.heap_setCell _ _ _ _ n2,Below.heap_setCell _ _ _ _ n2,Below.heap_setCell _ _ _ _ n2]
 refine ⟨b,off,rfl,?_,fun i hi=>?_⟩
 ·unfold Dt;simp [World.setCell];omega
 ·rw [←hcell i hi];simp only [World.cell?,e]
def rz:Raw:=⟨false,[],0⟩
theorem Wk {w:World}{K:Nat}{cap:Array Value}{o:Outc Raw}(h:∀ w1,Kept w w1→Calls Tryz.prog K cap w1 (Goes 114 o w1))(hz:o.k≠0→o.v=rz)
 (hk:∀ w,(callFunc K cap).run Tryz.prog w=.ok (.enter K cap) w) :
 Calls Tryz.prog 109 #[.func (.func K) #[] cap] w (RetE o w):=by
 have hmf:=Fw;have HH:=hid h;clear h
 go_enter_defers Tryz.func109,Tryz.ntmps109
 go_wp2_with fail;have k1:Kept w ((w.alloc (.cells #[.bool false,.slice none 0 0,.int .i64 0] 24)).alloc (.cells #[.int .i64 0] 3)):=((Below.refl _ _).alloc (Nat.le_refl _) _).alloc (by simp) _;refine (HH.out _ k1).mono ?_;have b0:((w.alloc (.cells #[.bool false,.slice none 0 0,.int .i64 0] 24)).alloc (.cells #[.int .i64 0] 3)).heap[w.heap.size]?=some (.cells #[.bool false,.slice none 0 0,.int .i64 0] 24 (0,0)):=by
  rw [Below.heap_alloc _ _ _ (by simp)];exact heap_alloc_new _ _
 have b1:((w.alloc (.cells #[.bool false,.slice none 0 0,.int .i64 0] 24)).alloc (.cells #[.int .i64 0] 3)).heap[w.heap.size+1]?=some (.cells #[.int .i64 0] 3 (0,0)):=by
  have:=heap_alloc_new (w.alloc (.cells #[.bool false,.slice none 0 0,.int .i64 0] 24)) (.cells #[.int .i64 0] 3);simpa using this
 rintro e w1 ⟨q,hq⟩;have c0:=(q.block w.heap.size (by simp;omega)).trans b0;have c1:=(q.block (w.heap.size+1) (by simp)).trans b1;have k2:=k1.trans q;clear q b0 b1 k1 HH;have hs1:w.heap.size+1<w1.heap.size:=(Array.getElem?_eq_some_iff.1 c1).1;have hs0:w.heap.size<w1.heap.size:=by omega
 have n1:¬w.heap.size=w1.heap.size:=by omega
 have n2:¬w.heap.size+1=w1.heap.size:=by omega
 have n3:¬w.heap.size=w.heap.size+1:=by omega
 have n4:¬w.heap.size+1=w.heap.size:=by omega
 have c20:w1.cell? ⟨w.heap.size,0,none⟩=some (.bool false):=Ae c0 0 _ rfl;have c21:w1.cell? ⟨w.heap.size,1,none⟩=some (.slice none 0 0):=Ae c0 1 _ rfl;have c22:w1.cell? ⟨w.heap.size,2,none⟩=some (.int .i64 0):=Ae c0 2 _ rfl;have c30:w1.cell? ⟨w.heap.size+1,0,none⟩=some (.int .i64 0):=Ae c1 0 _ rfl;have f20:=As c0 0;have f21:=As c0 1;have f22:=As c0 2;have f30:=As c1 0;have KK:=hid k2;have HQ:=hid hq;clear k2 hq;rcases HQ.out with ⟨h0,v,rfl,hv⟩ | ⟨h0,rfl⟩
 ·obtain ⟨s,rfl,hs,e1,e2⟩:=hv;have HS:=hid hs;obtain ⟨_,A,c,rfl,_⟩:=hs;clear HQ;simp only [];go_wp2_with fail;refine leaves_cons (f:=137) (args:=#[.pointer (some ⟨w.heap.size,0,none⟩),.pointer (some ⟨w.heap.size+1,0,none⟩)]) (by simp) (by simp [go_sem]) ?_;refine (R7 _ _ _).mono ?_;rintro e u' w2 ⟨rfl,rfl,rfl⟩;obtain ⟨d0,d1,d2,d3⟩:=Hx (x':=.bool o.v.neg) (y':=.slice A o.v.m.length c) (z':=.int .i64 o.v.e) (q':=.int .i64 0) (o:=.cells #[.int .i64 0] 114) c0 c1 n3;refine ⟨.tuple #[.agg #[.bool o.v.neg,.slice A o.v.m.length c,.int .i64 o.v.e],.int .i64 0],?_,?_⟩
  ·change (results Tryz.f109 _).run Tryz.prog (Dt w1 w.heap.size (w.heap.size+1) (.bool o.v.neg) (.slice A o.v.m.length c) (.int .i64 o.v.e) (.int .i64 0) (.cells #[.int .i64 0] 114))=.ok _ (Dt w1 w.heap.size (w.heap.size+1) (.bool o.v.neg) (.slice A o.v.m.length c) (.int .i64 o.v.e) (.int .i64 0) (.cells #[.int .i64 0] 114));generalize Dt w1 w.heap.size (w.heap.size+1) (.bool o.v.neg) (.slice A o.v.m.length c) (.int .i64 o.v.e) (.int .i64 0) (.cells #[.int .i64 0] 114)=W at *;simp [results,Tryz.results109,go_sem,d0,d1,d2,d3]
  ·refine ⟨I5 KK.out (Nat.le_refl _) (Nat.le_succ _),_,by rw [h0],?_⟩;exact ⟨_,rfl,HS.out.laid c0 c1 (by simp) (by simp) (by simp) (by simp),e1,e2⟩
 ·clear HQ;simp only [];refine leaves_cons (f:=137) (args:=#[.pointer (some ⟨w.heap.size,0,none⟩),.pointer (some ⟨w.heap.size+1,0,none⟩)]) (by simp) (by simp [go_sem]) ?_;refine (R6 _ _ _ _ _ _ _ _ c0 c1 n3).mono ?_;rintro e u' w2 ⟨rfl,rfl,rfl⟩;obtain ⟨d0,d1,d2,d3⟩:=Hx (x':=.bool false) (y':=.slice none 0 0) (z':=.int .i64 0) (q':=.int .i64 o.k) (o:=.cells #[.int .i64 o.k] 114) c0 c1 n3;refine ⟨.tuple #[.agg #[.bool false,.slice none 0 0,.int .i64 0],.int .i64 o.k],?_,?_⟩
  ·change (results Tryz.f109 _).run Tryz.prog (Dt w1 w.heap.size (w.heap.size+1) (.bool false) (.slice none 0 0) (.int .i64 0) (.int .i64 o.k) (.cells #[.int .i64 o.k] 114)).drew=.ok _ (Dt w1 w.heap.size (w.heap.size+1) (.bool false) (.slice none 0 0) (.int .i64 0) (.int .i64 o.k) (.cells #[.int .i64 o.k] 114)).drew;generalize Dt w1 w.heap.size (w.heap.size+1) (.bool false) (.slice none 0 0) (.int .i64 0) (.int .i64 o.k) (.cells #[.int .i64 o.k] 114)=W at *;simp [results,Tryz.results109,go_sem,d0,d1,d2,d3]
  ·refine ⟨(I5 KK.out (Nat.le_refl _) (Nat.le_succ _)).drew,_,rfl,?_⟩;rw [hz h0];exact ⟨_,rfl,⟨(by intro i hi;cases hi),none,0,rfl,Nat.le_refl _,fun h=>absurd h (Nat.lt_irrefl 0)⟩,by decide,by decide⟩
def Blk (w:World) (b:Nat) (x y z:Value):Prop:=w.heap[b]?=some (.cells #[x,y,z] 24 (0,0))
theorem Blk.facts {w:World}{b:Nat}{x y z:Value}(h:Blk w b x y z):b<w.heap.size∧w.cell? ⟨b,0,none⟩=some x∧w.cell? ⟨b,1,none⟩=some y∧w.cell? ⟨b,2,none⟩=some z ∧
 w.frozen? ⟨b,0,none⟩=false∧w.frozen? ⟨b,1,none⟩=false∧w.frozen? ⟨b,2,none⟩=false :=
 ⟨(Array.getElem?_eq_some_iff.1 h).1,Ae h 0 _ rfl,Ae h 1 _ rfl,Ae h 2 _ rfl,As h 0,As h 1,As h 2⟩
theorem Blk.kept {w w1:World}{b:Nat}{x y z:Value}(h:Blk w b x y z)(k:Kept w w1):Blk w1 b x y z :=
 (k.block b (Array.getElem?_eq_some_iff.1 h).1).trans h
theorem blk_new (w:World)(x y z:Value):Blk (w.alloc (.cells #[x,y,z] 24)) w.heap.size x y z:=heap_alloc_new _ _
theorem Aw {w:World}{b:Nat}{x y z:Value}(h:Blk w b x y z)(o:Obj):Blk (w.alloc o) b x y z :=
 h.kept ((Below.refl _ _).alloc (Nat.le_refl _) _)
theorem Ad (w:World)(o:Obj):Kept w (w.alloc o):=(Below.refl _ _).alloc (Nat.le_refl _) _
def dyW (w:World) (b:Nat) (x y z:Value):World:=((w.setCell ⟨b,0,none⟩ x).setCell ⟨b,1,none⟩ y).setCell ⟨b,2,none⟩ z
theorem Blk.laid {w:World}{b:Nat}{x y z:Value}(h:Blk w b x y z)(x' y' z':Value):Blk (dyW w b x' y' z') b x' y' z' :=
 Bi (Bi (Bi h _) _) _
theorem Blk.laid_other {w:World}{b b':Nat}{x y z:Value}(h:Blk w b x y z)(hne:¬b=b')(x' y' z':Value):Blk (dyW w b' x' y' z') b x y z :=
 Bm (Bm (Bm h hne _) hne _) hne _
theorem Al {w0 w:World}{b:Nat}{x y z:Value}(h:Kept w0 w)(h2:w0.heap.size≤b):Kept w0 (dyW w b x y z) :=
 ((h.setCell (p:=⟨b,0,none⟩) h2 x).setCell (p:=⟨b,1,none⟩) h2 y).setCell (p:=⟨b,2,none⟩) h2 z
def Bo (x:Value):Prop:=∀ n,¬x=.int .u64 n
theorem Ah (b:Bool):Bo (.bool b):=fun _ h=>by cases h
theorem Af (a:Option Addr)(n c:Nat):Bo (.slice a n c):=fun _ h=>by cases h
theorem Ai (n:Int):Bo (.int .i64 n):=fun _ h=>by cases h
theorem Lim.noLimb {w:World}{s:Value}{xs:List Nat}(h:Lim w s xs):Bo s:=by
 obtain ⟨_,A,c,rfl,_⟩:=h;exact Af _ _ _
theorem Lim.dyW {w:World}{s:Value}{xs:List Nat}{b2:Nat}{x y z x' y' z':Value}(h:Lim w s xs)(h0:Blk w b2 x y z)(hx:Bo x)(hy:Bo y)(hz:Bo z) :
 Lim (dyW w b2 x' y' z') s xs:=by
 obtain ⟨hsm,A,c,rfl,hc,hA⟩:=h;refine ⟨hsm,A,c,rfl,hc,fun hp=>?_⟩;obtain ⟨b,off,rfl,hb,hcell⟩:=hA hp;have n2:¬b=b2:=by
  rintro rfl;have h5:=hcell 0 hp;simp only [World.cell?,show w.heap[b]?=_ from h0] at h5;rcases off with _ | _ | _ | off
  ·simp at h5;exact hx _ h5
  ·simp at h5;exact hy _ h5
  ·simp at h5;exact hz _ h5
  ·simp at h5
 have e:(Go.Proofs.YtinbgjcooolbiaaGreatDoor.dyW w b2 x' y' z').heap[b]?=w.heap[b]?:=by
  unfold Go.Proofs.YtinbgjcooolbiaaGreatDoor.dyW;rw [Below.heap_setCell _ _ _ _ n2,Below.heap_setCell _ _ _ _ n2,Below.heap_setCell _ _ _ _ n2]
 refine ⟨b,off,rfl,?_,fun i hi=>?_⟩
 ·unfold Go.Proofs.YtinbgjcooolbiaaGreatDoor.dyW;simpa [World.setCell] using hb
 ·rw [←hcell i hi];simp only [World.cell?,e]
theorem Lim.setCell {w:World}{s:Value}{xs:List Nat}{b i:Nat}{x:Value}(h:Lim w s xs)(hc:w.cell? ⟨b,i,none⟩=some x)(hx:Bo x)(y:Value) :
 Lim (w.setCell ⟨b,i,none⟩ y) s xs:=by
 obtain ⟨hsm,A,c,rfl,hc',hA⟩:=h;refine ⟨hsm,A,c,rfl,hc',fun hp=>?_⟩;obtain ⟨b0,off,rfl,hb,hcell⟩:=hA hp;refine ⟨b0,off,rfl,by simpa [World.setCell] using hb,fun k hk=>?_⟩;rw [World.cell?_setCell_other]
 ·exact hcell k hk
 ·intro he;injection he with he1 he2
  subst he1 he2;rw [hcell k hk] at hc;injection hc with hc
  exact hx _ hc.symm
theorem Db (w:World)(o:Obj)(x y z:Value):Blk ((w.alloc o).alloc (.cells #[x,y,z] 24)) (w.heap.size+1) x y z:=by
 have:=blk_new (w.alloc o) x y z;simpa using this
theorem Vz (w:World)(o o':Obj)(x y z:Value):Blk (((w.alloc o).alloc o').alloc (.cells #[x,y,z] 24)) (w.heap.size+2) x y z:=by
 have:=blk_new ((w.alloc o).alloc o') x y z;simpa using this
theorem Bt {fn:Func}{R:Ending→World→Prop}{a:Act}{w:World}{b t:Nat}{x y z:Value}(h:Blk w b x y z)
 (hres:fn.results=#[.cell t 24]) (ht:a.tmps.getD t undef=.pointer (some ⟨b,0,none⟩)) (hd:a.defers=[]) (hR:R (.returned (.agg #[x,y,z])) w) :
 bodyPost Tryz.prog fn R .ret a w:=by
 obtain ⟨_,c0,c1,c2,_⟩:=h.facts;refine bodyPost_ret (v:=.agg #[x,y,z]) ?_ hd hR;have ht2:a.tmps[t]?.getD undef=.pointer (some ⟨b,0,none⟩):=by simpa using ht
 simp [results,hres,ht2,go_sem,c0,c1,c2]
theorem Bx {fn:Func}{R:Ending→World→Prop}{a:Act}{w:World}{b t u:Nat}{x y z:Value}(h:Blk w b x y z)
 (hres:fn.results=#[.cell t 24,.tmp u]) (ht:a.tmps.getD t undef=.pointer (some ⟨b,0,none⟩)) (hd:a.defers=[])
 (hR:R (.returned (.tuple #[.agg #[x,y,z],a.tmps.getD u undef])) w) :
 bodyPost Tryz.prog fn R .ret a w:=by
 obtain ⟨_,c0,c1,c2,_⟩:=h.facts;refine bodyPost_ret (v:=.tuple #[.agg #[x,y,z],a.tmps.getD u undef]) ?_ hd hR;have ht2:a.tmps[t]?.getD undef=.pointer (some ⟨b,0,none⟩):=by simpa using ht
 simp [results,hres,ht2,go_sem,c0,c1,c2]
def Rj (r:Raw):Int:=if Em r=false∨r.m.length=0 then 0 else if r.neg then -1 else 1
theorem L5 {w:World}{v:Value}{r:Raw}(hv:DyR w v r)(hl:r.m.length≤17592186044416) :
 Calls Tryz.prog 24 #[v] w (RetK (.int .i64 (Rj r)) w):=by
 have hm:=fun w1 (k:Kept w w1)=>Jj (hv.kept k) hl
 obtain ⟨neg,m,e⟩:=r;obtain ⟨s,rfl,hs,h1,h2⟩:=hv;obtain ⟨_,A,c,rfl,hc,_⟩:=hs;simp only at hc h1 h2 hl ⊢;unfold Rj;simp only;have HM:=hid hm;clear hm;generalize hb:Em ⟨neg,m,e⟩=bm at *;cases bm
 ·rw [if_pos (Or.inl rfl)];go_enter Tryz.func24,Tryz.ntmps24
  go_wp2_with (go_at_call 66;refine (HM.out _ (Ad _ _)).mono ?_;rintro e w1 ⟨rfl,q⟩)
  go_ret;exact ⟨rfl,(Ad _ _).trans q⟩
 ·clear hb;generalize m.length=l at *;by_cases h0:l=0
  ·rw [if_pos (Or.inr h0)];subst h0;clear hl hc;go_enter Tryz.func24,Tryz.ntmps24
   go_wp2_with (go_at_call 66;refine (HM.out _ (Ad _ _)).mono ?_;rintro e w1 ⟨rfl,q⟩;obtain ⟨_,c0,c1,c2,_⟩:=((blk_new _ _ _ _).kept q).facts)
   go_ret;exact ⟨rfl,(Ad _ _).trans q⟩
  ·rw [if_neg (by rintro (h | h);exact absurd h (by decide);exact h0 h)];have e0:(((l:Nat):Int)==0)=false:=by rw [beq_eq_false_iff_ne];omega
   have HL:=hid h0;clear h0
   cases neg<;>(
    go_enter Tryz.func24,Tryz.ntmps24
    go_wp2_with (go_at_call 66;refine (HM.out _ (Ad _ _)).mono ?_;rintro e w1 ⟨rfl,q⟩;obtain ⟨_,c0,c1,c2,_⟩:=((blk_new _ _ _ _).kept q).facts)
    go_ret;exact ⟨rfl,(Ad _ _).trans q⟩)
def RetD (r:Raw) (w:World) (e:Ending) (w':World):Prop:=Kept w w'∧∃ v,e=.returned v∧DyR w' v r
theorem Mm {w:World}{v:Value}{r:Raw}(hv:DyR w v r)(hl:r.m.length≤1000000) :
 Calls Tryz.prog 108 #[v] w (RetD r w):=by
 obtain ⟨neg,m,e⟩:=r;obtain ⟨s,rfl,hs,h1,h2⟩:=hv;simp only at hs h1 h2 hl ⊢;have hm:=fun w1 (k:Kept w w1)=>O8 (hs.kept k) hl
 obtain ⟨_,A,c,rfl,hc,_⟩:=hs;have HM:=hid hm;clear hm hl hc;go_enter Tryz.func108,Tryz.ntmps108
 go_wp2_with (go_at_call 111;refine (HM.out _ ((Ad _ _).trans (Ad _ _))).mono ?_;rintro e w1 ⟨u,rfl,hu,q⟩;obtain ⟨_,A',c',rfl,_⟩:=id hu;have HU:=hid hu;clear hu;have b0:=(Aw (blk_new _ _ _ _) _).kept q;have b1:=(Db _ _ _ _ _).kept q;obtain ⟨_,c0,c1,c2,f0,f1,f2⟩:=b0.facts;obtain ⟨_,d0,d1,d2,g0,g1,g2⟩:=b1.facts)
 have hd:=HU.out.setCell c1 (Af _ _ _) (.slice A' m.length c');have b3:Blk (w1.setCell ⟨w.heap.size,1,none⟩ (.slice A' m.length c')) (w.heap.size+1) (.bool false) (.slice none 0 0) (.int .i64 0):=Bm (b:=w.heap.size+1) (b':=w.heap.size) b1 (by omega) _;refine Bt (Blk.laid (b:=w.heap.size+1) b3 _ _ _) rfl rfl rfl ⟨?_,_,rfl,_,rfl,hd.dyW b3 (Ah _) (Af _ _ _) (Ai _),h1,h2⟩;exact Al ((((Ad _ _).trans (Ad _ _)).trans q).setCell (Nat.le_refl _) _) (Nat.le_succ _)
def Z7 (r:Raw):Raw:=if Em r=true∧0<r.m.length then ⟨!r.neg,r.m,r.e⟩ else r
theorem Sd {w:World}{v:Value}{r:Raw}(hv:DyR w v r)(hl:r.m.length≤1000000) :
 Calls Tryz.prog 62 #[v] w (RetD (Z7 r) w):=by
 have hm:=fun w1 (k:Kept w w1)=>Mm (hv.kept k) hl
 have hmay:=fun w1 v1 (h:DyR w1 v1 r)=>Jj h (by omega)
 obtain ⟨neg,m,e⟩:=r;obtain ⟨s,rfl,hs,h1,h2⟩:=hv;simp only at hs h1 h2 hl ⊢;obtain ⟨_,A,c,rfl,hc,_⟩:=hs;have HM:=hid hm;have HY:=hid hmay;clear hm hmay hl hc;unfold Z7;simp only;generalize hb:Em ⟨neg,m,e⟩=bm at *;have hnot:∀ (x:Bool) (w:World),(Op.unary .not (.bool x)).run Tryz.prog w=.ok (.bool (!x)) w:=fun _ _=>rfl
 cases bm
 ·rw [if_neg (by rintro ⟨h,_⟩;cases h)];clear hb;go_enter Tryz.func62,Tryz.ntmps62
  go_wp2_with (first
   | (go_at_call 108;refine (HM.out _ ((Ad _ _).trans (Ad _ _))).mono ?_;rintro e w1 ⟨q,u,rfl,⟨s',rfl,hu,h3,h4⟩⟩;simp only at hu h3 h4;obtain ⟨_,A',c',rfl,_⟩:=id hu;have HU:=hid hu;clear hu;have b0:=(Aw (blk_new _ _ _ _) _).kept q;have b1:=(Db _ _ _ _ _).kept q;obtain ⟨_,c0,c1,c2,f0,f1,f2⟩:=b0.facts;obtain ⟨_,d0,d1,d2,g0,g1,g2⟩:=b1.facts)
   | (go_at_call 66;have HB:=hid b0;have HD:=hid b1;have HQ:=hid q;clear c0 c1 c2 f0 f1 f2 d0 d1 d2 g0 g1 g2 b0 b1 q;refine (HY.out (dyW w1 w.heap.size (.bool neg) (.slice A' m.length c') (.int .i64 e)) _ ⟨_,rfl,HU.out.dyW HB.out (Ah _) (Af _ _ _) (Ai _),h3,h4⟩).mono ?_;rintro e w2 ⟨rfl,q2⟩;have b2:=(Blk.laid HB.out (.bool neg) (.slice A' m.length c') (.int .i64 e)).kept q2;have b3:=(Blk.laid_other (b':=w.heap.size) HD.out (by omega) (.bool neg) (.slice A' m.length c') (.int .i64 e)).kept q2;obtain ⟨_,c0,c1,c2,f0,f1,f2⟩:=b2.facts;obtain ⟨_,d0,d1,d2,g0,g1,g2⟩:=b3.facts))
  refine Bt (Blk.laid (b:=w.heap.size+1) b3 _ _ _) rfl rfl rfl ⟨?_,_,rfl,_,rfl,((HU.out.dyW HB.out (Ah _) (Af _ _ _) (Ai _)).kept q2).dyW b3 (Ah _) (Af _ _ _) (Ai _),h1,h2⟩;exact Al ((Al (((Ad _ _).trans (Ad _ _)).trans HQ.out) (Nat.le_refl _)).trans q2) (Nat.le_succ _)
 ·by_cases h0:m.length=0
  ·rw [if_neg (by rintro ⟨_,h⟩;omega)];obtain rfl:=List.eq_nil_of_length_eq_zero h0;clear h0 hb;go_enter Tryz.func62,Tryz.ntmps62
   go_wp2_with (first
    | (go_at_call 108;refine (HM.out _ ((Ad _ _).trans (Ad _ _))).mono ?_;rintro e w1 ⟨q,u,rfl,⟨s',rfl,hu,h3,h4⟩⟩;simp only at hu h3 h4;obtain ⟨_,A',c',rfl,_⟩:=id hu;replace hu:Lim w1 (.slice A' 0 c') []:=hu;have HU:=hid hu;clear hu;have b0:=(Aw (blk_new _ _ _ _) _).kept q;have b1:=(Db _ _ _ _ _).kept q;obtain ⟨_,c0,c1,c2,f0,f1,f2⟩:=b0.facts;obtain ⟨_,d0,d1,d2,g0,g1,g2⟩:=b1.facts)
    | (go_at_call 66;have HB:=hid b0;have HD:=hid b1;have HQ:=hid q;clear c0 c1 c2 f0 f1 f2 d0 d1 d2 g0 g1 g2 b0 b1 q;refine (HY.out (dyW w1 w.heap.size (.bool neg) (.slice A' 0 c') (.int .i64 e)) _ ⟨_,rfl,HU.out.dyW HB.out (Ah _) (Af _ _ _) (Ai _),h3,h4⟩).mono ?_;rintro e w2 ⟨rfl,q2⟩;have b2:=(Blk.laid HB.out (.bool neg) (.slice A' 0 c') (.int .i64 e)).kept q2;have b3:=(Blk.laid_other (b':=w.heap.size) HD.out (by omega) (.bool neg) (.slice A' 0 c') (.int .i64 e)).kept q2;obtain ⟨_,c0,c1,c2,f0,f1,f2⟩:=b2.facts;obtain ⟨_,d0,d1,d2,g0,g1,g2⟩:=b3.facts))
   refine Bt (Blk.laid (b:=w.heap.size+1) b3 _ _ _) rfl rfl rfl ⟨?_,_,rfl,_,rfl,((HU.out.dyW HB.out (Ah _) (Af _ _ _) (Ai _)).kept q2).dyW b3 (Ah _) (Af _ _ _) (Ai _),h1,h2⟩;exact Al ((Al (((Ad _ _).trans (Ad _ _)).trans HQ.out) (Nat.le_refl _)).trans q2) (Nat.le_succ _)
  ·rw [if_pos ⟨rfl,by omega⟩];obtain ⟨l,hml⟩:∃ l,m.length=l:=⟨_,rfl⟩;rw [hml] at h0 HM;have hl0:0<l:=by omega
   clear h0 hb;go_enter Tryz.func62,Tryz.ntmps62
   go_wp2_with (first
   | (go_at_call 108;refine (HM.out _ ((Ad _ _).trans (Ad _ _))).mono ?_;rintro e w1 ⟨q,u,rfl,⟨s',rfl,hu,h3,h4⟩⟩;simp only at hu h3 h4;obtain ⟨_,A',c',rfl,_⟩:=id hu;rw [hml] at hu;have HU:=hid hu;clear hu;have b0:=(Aw (blk_new _ _ _ _) _).kept q;have b1:=(Db _ _ _ _ _).kept q;obtain ⟨_,c0,c1,c2,f0,f1,f2⟩:=b0.facts;obtain ⟨_,d0,d1,d2,g0,g1,g2⟩:=b1.facts)
   | (go_at_call 66;have HB:=hid b0;have HD:=hid b1;have HQ:=hid q;clear c0 c1 c2 f0 f1 f2 d0 d1 d2 g0 g1 g2 b0 b1 q;refine (HY.out (dyW w1 w.heap.size (.bool neg) (.slice A' l c') (.int .i64 e)) _ ⟨_,rfl,HU.out.dyW HB.out (Ah _) (Af _ _ _) (Ai _),h3,h4⟩).mono ?_;rintro e w2 ⟨rfl,q2⟩;have b2:=(Blk.laid HB.out (.bool neg) (.slice A' l c') (.int .i64 e)).kept q2;have b3:=(Blk.laid_other (b':=w.heap.size) HD.out (by omega) (.bool neg) (.slice A' l c') (.int .i64 e)).kept q2;obtain ⟨_,c0,c1,c2,f0,f1,f2⟩:=b2.facts;obtain ⟨_,d0,d1,d2,g0,g1,g2⟩:=b3.facts))
   have b4:Blk (w2.setCell ⟨w.heap.size,0,none⟩ (.bool !neg)) (w.heap.size+1) (.bool false) (.slice none 0 0) (.int .i64 0):=Bm (b:=w.heap.size+1) (b':=w.heap.size) b3 (by omega) _;have hd:=((HU.out.dyW HB.out (Ah _) (Af _ _ _) (Ai _)).kept q2).setCell c0 (Ah _) (.bool !neg);refine Bt (Blk.laid (b:=w.heap.size+1) b4 _ _ _) rfl rfl rfl ⟨?_,_,rfl,_,rfl,hd.dyW b4 (Ah _) (Af _ _ _) (Ai _),h1,h2⟩;exact Al (((Al (((Ad _ _).trans (Ad _ _)).trans HQ.out) (Nat.le_refl _)).trans q2).setCell (Nat.le_refl _) _) (Nat.le_succ _)
end Go.Proofs.YtinbgjcooolbiaaGreatDoor
