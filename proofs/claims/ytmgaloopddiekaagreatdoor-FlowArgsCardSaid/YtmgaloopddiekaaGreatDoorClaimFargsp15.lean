/- Words and contracts, part 15. -/
import Derived.Test.YtmgaloopddiekaaGreatDoorClaimFargsp14
import Derived.Defers
import Derived.Recover
set_option maxRecDepth 100000
set_option maxHeartbeats 0
namespace Go.Proofs.YtmgaloopddiekaaGreatDoor
open Go.Lib (hid)
open Go.RowKit
theorem Es:∀ (fn:Fn) (first cap:Array Value) (w:World),(Instr.makeFunc fn first cap).run Tryz.prog w=.ok (.func fn first cap) w:=fun _ _ _ _=>rfl
theorem Ct {P:Program}{Q:Exit→Act→List Frame→World→Prop}{a:Act}{cs cs':List Frame}{w w':World}{id:Nat}{o:Oper}{l:List Oper}{y:Code}{v:Value}
 (ho:o.guard=none) (hr:(execOp a.eval o).run P w=.ok .recover w')
 (hc:(match recoverD cs with | some (v',cs'')=>v'=v∧cs''=cs' | none=>v=.nilIface∧cs'=cs))
 (h:wpList P (o::l).toArray (Exit.then (y.wp P (fun e a w=>Q e a cs' w)) (fun e a w=>Q e a cs' w)) l (a.put o.dst v) w') :
 (Code.seq (.region id (o::l).toArray false) y).wpS P Q a cs w:=by
 apply wpS_seq;intro b k hb _;have h1:wpOps P (o::l).toArray (Exit.then (y.wp P (fun e a w=>Q e a cs' w)) (fun e a w=>Q e a cs' w)) (List.range' 1 l.length) (a.put o.dst v) w':=by
  rw [wpOps_eq_wpList l 1 (by intro j;simp [Nat.add_comm 1 j])];exact h
 obtain ⟨e,a',w'',hq,harr⟩:=wp_ops _ _ _ h1 b k cs';have hw:Region.wanted o (yielded (o::l).toArray a.tmps)=true:=by simp [Region.wanted,ho]
 have hi:(o::l).toArray[0]?=some o:=by simp
 have hg:=stepG_op (P:=P) (b:=b) (k:=k) (cs:=cs) (w:=w) (rest:=List.range' 1 l.length) hi hw;have hfin:(b.at a (.inRegion (o::l).toArray (0::List.range' 1 l.length)::k)).finish v=b.at (a.put o.dst v) (.inRegion (o::l).toArray (List.range' 1 l.length)::k):=by
  rw [Frame.finish_at,hi];rfl
 have htr:=tryRecover_deferred (fr:=b.at a (.inRegion (o::l).toArray (0::List.range' 1 l.length)::k)) hb cs;have hstep:step P (lone (b.at a (.inRegion (o::l).toArray (0::List.range' 1 l.length)::k)) cs w)=.next (lone (b.at (a.put o.dst v) (.inRegion (o::l).toArray (List.range' 1 l.length)::k)) cs' w'):=by
  refine step_lone_go ?_;rw [hg,←hfin];cases hrec:recoverD cs with
  | none =>
    rw [hrec] at hc htr;obtain ⟨rfl,rfl⟩:=hc;simp only [Frame.at] at htr ⊢;simp [stepG.apply,hr,htr]
  | some p =>
    obtain ⟨v1,cs1⟩:=p;rw [hrec] at hc htr;obtain ⟨rfl,rfl⟩:=hc;simp only [Frame.at] at htr ⊢;simp [stepG.apply,hr,htr]
 refine ⟨e,a',cs',w'',?_,.of_steps (.head step_region (.one (by rw [List.range_eq_range',List.size_toArray,List.length_cons,List.range'_succ];exact hstep))) harr⟩;cases e<;>first | exact hq | exact wpS_of_wp hq
theorem Ag {w:World}{b:Nat}{cs:Array Value}{t:TypeId}(h:w.heap[b]?=some (.cells cs t (0,0)))(i:Nat)(v:Value)(hi:cs[i]?=some v) :
 w.cell? ⟨b,i,none⟩=some v:=by
 simp [World.cell?,h,hi]
theorem Am {w:World}{b:Nat}{cs:Array Value}{t:TypeId}(h:w.heap[b]?=some (.cells cs t (0,0)))(i:Nat) :
 w.frozen? ⟨b,i,none⟩=false:=by
 simp [World.frozen?,h]
def Yb (w:World) (b2 b3:Nat) (T:TypeId) (k:Int):World :=
 ((((w.setCell ⟨b2,0,none⟩ (.bool false)).setCell ⟨b2,1,none⟩ (.slice none 0 0)).setCell ⟨b2,2,none⟩ (.int .i64 0)).setCell ⟨b3,0,none⟩ (.int .i64 k)).alloc (.cells #[.int .i64 k] T)
theorem Oh (k:Int)(w:World):(Instr.typeAssert (.iface 155 (.agg #[.int .i64 k])) 20 155 true).run Tryz.prog w=.ok (.tuple #[.agg #[.int .i64 k],.bool true]) w:=by
 kernel_rfl
theorem Qc (w:World):(Instr.typeAssert .nilIface 20 155 true).run Tryz.prog w=.ok (.tuple #[.agg #[.int .i64 0],.bool false]) w:=by
 kernel_rfl
theorem Wb (b2 b3:Nat)(w:World)(k:Int)(x y z q:Value)
 (h0:w.heap[b2]?=some (.cells #[x,y,z] 30 (0,0))) (h1:w.heap[b3]?=some (.cells #[q] 3 (0,0))) (hne:¬b2=b3) :
 CallsD Tryz.prog 137 #[.pointer (some ⟨b2,0,none⟩),.pointer (some ⟨b3,0,none⟩)] (.panicking (Ch 155 k)) w fun e u' w' =>
  e=.returned (.tuple #[])∧u'=.panicking [{ v:=.iface 155 (.agg #[.int .i64 k]),recovered:=true }]∧w'=(Yb w b2 b3 155 k).drew:=by
 have ha:=Oh k;have l2:b2<w.heap.size:=(Array.getElem?_eq_some_iff.1 h0).1;have l3:b3<w.heap.size:=(Array.getElem?_eq_some_iff.1 h1).1;have n2:¬b2=w.heap.size:=by omega
 have n3:¬b3=w.heap.size:=by omega
 have n2':¬w.heap.size=b2:=by omega
 have n3':¬w.heap.size=b3:=by omega
 have hne':¬b3=b2:=fun h=>hne h.symm
 have c20:=Ag h0 0 x rfl;have c21:=Ag h0 1 y rfl;have c22:=Ag h0 2 z rfl;have c30:=Ag h1 0 q rfl;have f20:=Am h0 0;have f21:=Am h0 1;have f22:=Am h0 2;have f30:=Am h1 0;refine callsD_of_wpS Tryz.func137 rfl fun c₀ cs hu=>?_
 simp only [Tryz.ntmps137,List.size_toArray,List.length_cons,List.length_nil,Nat.reduceAdd,Nat.reduceSub,Array.replicate_succ,
  Array.replicate_zero,List.push_toArray,List.append_toArray,List.nil_append,List.cons_append]
 refine Ct (v:=.iface 155 (.agg #[.int .i64 k])) (cs':={ c₀ with mode:=.panicking [{ v:=.iface 155 (.agg #[.int .i64 k]),recovered:=true }] }::cs) (w':=w) rfl ?_ ?_ ?_
 ·simp [go_sem]
 ·rw [recoverD,hu];exact ⟨rfl,rfl⟩
 go_wp2_with fail;go_region;exact ⟨rfl,_,rfl,_,results_none rfl _ _ _,rfl,rfl,rfl⟩
theorem Wc (b2 b3:Nat)(w:World) :
 CallsD Tryz.prog 137 #[.pointer (some ⟨b2,0,none⟩),.pointer (some ⟨b3,0,none⟩)] .returning w fun e u' w' =>
  e=.returned (.tuple #[])∧u'=.returning∧w'=w.alloc (.cells #[.int .i64 0] 155):=by
 have ha:=Qc;refine callsD_of_wpS Tryz.func137 rfl fun c₀ cs hu=>?_
 simp only [Tryz.ntmps137,List.size_toArray,List.length_cons,List.length_nil,Nat.reduceAdd,Nat.reduceSub,Array.replicate_succ,
  Array.replicate_zero,List.push_toArray,List.append_toArray,List.nil_append,List.cons_append]
 refine Ct (v:=.nilIface) (cs':=c₀::cs) (w':=w) rfl ?_ ?_ ?_
 ·simp [go_sem]
 ·rw [recoverD,hu];exact ⟨rfl,rfl⟩
 go_wp2_with fail;exact ⟨rfl,.returning,by rw [←hu],_,results_none rfl _ _ _,rfl,rfl,rfl⟩
def Goes (T:TypeId) (o:Outc Raw) (w:World) (e:Ending) (w':World):Prop :=
 Kept w w'∧((o.k=0∧∃ v,e=.returned v∧DyR w' v o.v)∨(o.k≠0∧e=.panicked (Ch T o.k)))
def RetE (o:Outc Raw) (w:World) (e:Ending) (w':World):Prop :=
 Kept w w'∧∃ v,e=.returned (.tuple #[v,.int .i64 o.k])∧DyR w' v o.v
theorem Av {w:World}{b i:Nat}{cs:Array Value}{t:TypeId}(h:w.heap[b]?=some (.cells cs t (0,0)))(v:Value):(w.setCell ⟨b,i,none⟩ v).heap[b]?=some (.cells (cs.setIfInBounds i v) t (0,0)):=by
 simp only [World.setCell,Array.getElem?_modify,h];simp
theorem Aw {w:World}{b b' i:Nat}{x:Obj}(h:w.heap[b]?=some x)(hne:¬b=b')(v:Value):(w.setCell ⟨b',i,none⟩ v).heap[b]?=some x:=by
 rw [Below.heap_setCell _ _ _ _ hne,h]
def Er (w:World) (b2 b3:Nat) (x y z q:Value) (o:Obj):World :=
 ((((w.setCell ⟨b2,0,none⟩ x).setCell ⟨b2,1,none⟩ y).setCell ⟨b2,2,none⟩ z).setCell ⟨b3,0,none⟩ q).alloc o
theorem J0 {w:World}{b2 b3:Nat}{x y z q x' y' z' q':Value}{T T':TypeId}{o:Obj}
 (h0:w.heap[b2]?=some (.cells #[x,y,z] T (0,0))) (h1:w.heap[b3]?=some (.cells #[q] T' (0,0))) (hne:¬b2=b3) :
 (Er w b2 b3 x' y' z' q' o).cell? ⟨b2,0,none⟩=some x'∧(Er w b2 b3 x' y' z' q' o).cell? ⟨b2,1,none⟩=some y' ∧
 (Er w b2 b3 x' y' z' q' o).cell? ⟨b2,2,none⟩=some z'∧(Er w b2 b3 x' y' z' q' o).cell? ⟨b3,0,none⟩=some q':=by
 have l2:b2<w.heap.size:=(Array.getElem?_eq_some_iff.1 h0).1;have l3:b3<w.heap.size:=(Array.getElem?_eq_some_iff.1 h1).1;have g0:(Er w b2 b3 x' y' z' q' o).heap[b2]?=some (.cells #[x',y',z'] T (0,0)):=by
  unfold Er;rw [Below.heap_alloc _ _ _ (by simp [World.setCell,l2])];exact Aw (Av (Av (Av h0 _) _) _) hne _
 have g1:(Er w b2 b3 x' y' z' q' o).heap[b3]?=some (.cells #[q'] T' (0,0)):=by
  unfold Er;rw [Below.heap_alloc _ _ _ (by simp [World.setCell,l3])];exact Av (Aw (Aw (Aw h1 (fun h=>hne h.symm) _) (fun h=>hne h.symm) _) (fun h=>hne h.symm) _) _
 exact ⟨Ag g0 0 _ rfl,Ag g0 1 _ rfl,Ag g0 2 _ rfl,Ag g1 0 _ rfl⟩
theorem Lb {w0 w:World}{b2 b3:Nat}{x y z q:Value}{o:Obj}(h:Kept w0 w)(h2:w0.heap.size≤b2)(h3:w0.heap.size≤b3):Kept w0 (Er w b2 b3 x y z q o) :=
 ((((h.setCell (p:=⟨b2,0,none⟩) h2 x).setCell (p:=⟨b2,1,none⟩) h2 y).setCell (p:=⟨b2,2,none⟩) h2 z).setCell (p:=⟨b3,0,none⟩) h3 q).alloc (by simpa [World.setCell] using h.size) o
theorem Lim.laid {w:World}{s:Value}{xs:List Nat}{b2 b3:Nat}{x y z q x' y' z' q':Value}{T T':TypeId}{o:Obj}(h:Lim w s xs)
 (h0:w.heap[b2]?=some (.cells #[x,y,z] T (0,0))) (h1:w.heap[b3]?=some (.cells #[q] T' (0,0)))
 (hx:∀ n,¬x=.int .u64 n) (hy:∀ n,¬y=.int .u64 n) (hz:∀ n,¬z=.int .u64 n) (hq:∀ n,¬q=.int .u64 n) :
 Lim (Er w b2 b3 x' y' z' q' o) s xs:=by
 obtain ⟨hsm,A,c,rfl,hc,hA⟩:=h;refine ⟨hsm,A,c,rfl,hc,fun hp=>?_⟩;obtain ⟨b,off,rfl,hb,hcell⟩:=hA hp;have n2:¬b=b2:=by
  rintro rfl;have h5:=hcell 0 hp;simp only [World.cell?,h0] at h5;rcases off with _ | _ | _ | off
  ·simp at h5;exact hx _ h5
  ·simp at h5;exact hy _ h5
  ·simp at h5;exact hz _ h5
  ·simp at h5
 have n3:¬b=b3:=by
  rintro rfl;have h5:=hcell 0 hp;simp only [World.cell?,h1] at h5;rcases off with _ | off
  ·simp at h5;exact hq _ h5
  ·simp at h5
 have e:(Er w b2 b3 x' y' z' q' o).heap[b]?=w.heap[b]?:=by
  unfold Er;rw [Below.heap_alloc _ _ _ (by simpa [World.setCell] using hb),Below.heap_setCell _ _ _ _ n3,Below.heap_setCell _ _ _ _ n2,Below.heap_setCell _ _ _ _ n2,Below.heap_setCell _ _ _ _ n2]
 refine ⟨b,off,rfl,?_,fun i hi=>?_⟩
 ·unfold Er;simp [World.setCell];omega
 ·rw [←hcell i hi];simp only [World.cell?,e]
def rz:Raw:=⟨false,[],0⟩
theorem Abr {w:World}{K:Nat}{cap:Array Value}{o:Outc Raw}(h:∀ w1,Kept w w1→Calls Tryz.prog K cap w1 (Goes 155 o w1))(hz:o.k≠0→o.v=rz)
 (hk:∀ w,(callFunc K cap).run Tryz.prog w=.ok (.enter K cap) w) :
 Calls Tryz.prog 101 #[.func (.func K) #[] cap] w (RetE o w):=by
 have hmf:=Es;have HH:=hid h;clear h
 go_enter_defers Tryz.func101,Tryz.ntmps101
 go_wp2_with fail;have k1:Kept w ((w.alloc (.cells #[.bool false,.slice none 0 0,.int .i64 0] 30)).alloc (.cells #[.int .i64 0] 3)):=((Below.refl _ _).alloc (Nat.le_refl _) _).alloc (by simp) _;refine (HH.out _ k1).mono ?_;have b0:((w.alloc (.cells #[.bool false,.slice none 0 0,.int .i64 0] 30)).alloc (.cells #[.int .i64 0] 3)).heap[w.heap.size]?=some (.cells #[.bool false,.slice none 0 0,.int .i64 0] 30 (0,0)):=by
  rw [Below.heap_alloc _ _ _ (by simp)];exact heap_alloc_new _ _
 have b1:((w.alloc (.cells #[.bool false,.slice none 0 0,.int .i64 0] 30)).alloc (.cells #[.int .i64 0] 3)).heap[w.heap.size+1]?=some (.cells #[.int .i64 0] 3 (0,0)):=by
  have:=heap_alloc_new (w.alloc (.cells #[.bool false,.slice none 0 0,.int .i64 0] 30)) (.cells #[.int .i64 0] 3);simpa using this
 rintro e w1 ⟨q,hq⟩;have c0:=(q.block w.heap.size (by simp;omega)).trans b0;have c1:=(q.block (w.heap.size+1) (by simp)).trans b1;have k2:=k1.trans q;clear q b0 b1 k1 HH;have hs1:w.heap.size+1<w1.heap.size:=(Array.getElem?_eq_some_iff.1 c1).1;have hs0:w.heap.size<w1.heap.size:=by omega
 have n1:¬w.heap.size=w1.heap.size:=by omega
 have n2:¬w.heap.size+1=w1.heap.size:=by omega
 have n3:¬w.heap.size=w.heap.size+1:=by omega
 have n4:¬w.heap.size+1=w.heap.size:=by omega
 have c20:w1.cell? ⟨w.heap.size,0,none⟩=some (.bool false):=Ag c0 0 _ rfl;have c21:w1.cell? ⟨w.heap.size,1,none⟩=some (.slice none 0 0):=Ag c0 1 _ rfl;have c22:w1.cell? ⟨w.heap.size,2,none⟩=some (.int .i64 0):=Ag c0 2 _ rfl;have c30:w1.cell? ⟨w.heap.size+1,0,none⟩=some (.int .i64 0):=Ag c1 0 _ rfl;have f20:=Am c0 0;have f21:=Am c0 1;have f22:=Am c0 2;have f30:=Am c1 0;have KK:=hid k2;have HQ:=hid hq;clear k2 hq;rcases HQ.out with ⟨h0,v,rfl,hv⟩ | ⟨h0,rfl⟩
 ·obtain ⟨s,rfl,hs,e1,e2⟩:=hv;have HS:=hid hs;obtain ⟨_,A,c,rfl,_⟩:=hs;clear HQ;simp only [];go_wp2_with fail;refine leaves_cons (f:=137) (args:=#[.pointer (some ⟨w.heap.size,0,none⟩),.pointer (some ⟨w.heap.size+1,0,none⟩)]) (by simp) (by simp [go_sem]) ?_;refine (Wc _ _ _).mono ?_;rintro e u' w2 ⟨rfl,rfl,rfl⟩;obtain ⟨d0,d1,d2,d3⟩:=J0 (x':=.bool o.v.neg) (y':=.slice A o.v.m.length c) (z':=.int .i64 o.v.e) (q':=.int .i64 0) (o:=.cells #[.int .i64 0] 155) c0 c1 n3;refine ⟨.tuple #[.agg #[.bool o.v.neg,.slice A o.v.m.length c,.int .i64 o.v.e],.int .i64 0],?_,?_⟩
  ·change (results Tryz.f101 _).run Tryz.prog (Er w1 w.heap.size (w.heap.size+1) (.bool o.v.neg) (.slice A o.v.m.length c) (.int .i64 o.v.e) (.int .i64 0) (.cells #[.int .i64 0] 155))=.ok _ (Er w1 w.heap.size (w.heap.size+1) (.bool o.v.neg) (.slice A o.v.m.length c) (.int .i64 o.v.e) (.int .i64 0) (.cells #[.int .i64 0] 155));generalize Er w1 w.heap.size (w.heap.size+1) (.bool o.v.neg) (.slice A o.v.m.length c) (.int .i64 o.v.e) (.int .i64 0) (.cells #[.int .i64 0] 155)=W at *;simp [results,Tryz.results101,go_sem,d0,d1,d2,d3]
  ·refine ⟨Lb KK.out (Nat.le_refl _) (Nat.le_succ _),_,by rw [h0],?_⟩;exact ⟨_,rfl,HS.out.laid c0 c1 (by simp) (by simp) (by simp) (by simp),e1,e2⟩
 ·clear HQ;simp only [];refine leaves_cons (f:=137) (args:=#[.pointer (some ⟨w.heap.size,0,none⟩),.pointer (some ⟨w.heap.size+1,0,none⟩)]) (by simp) (by simp [go_sem]) ?_;refine (Wb _ _ _ _ _ _ _ _ c0 c1 n3).mono ?_;rintro e u' w2 ⟨rfl,rfl,rfl⟩;obtain ⟨d0,d1,d2,d3⟩:=J0 (x':=.bool false) (y':=.slice none 0 0) (z':=.int .i64 0) (q':=.int .i64 o.k) (o:=.cells #[.int .i64 o.k] 155) c0 c1 n3;refine ⟨.tuple #[.agg #[.bool false,.slice none 0 0,.int .i64 0],.int .i64 o.k],?_,?_⟩
  ·change (results Tryz.f101 _).run Tryz.prog (Er w1 w.heap.size (w.heap.size+1) (.bool false) (.slice none 0 0) (.int .i64 0) (.int .i64 o.k) (.cells #[.int .i64 o.k] 155)).drew=.ok _ (Er w1 w.heap.size (w.heap.size+1) (.bool false) (.slice none 0 0) (.int .i64 0) (.int .i64 o.k) (.cells #[.int .i64 o.k] 155)).drew;generalize Er w1 w.heap.size (w.heap.size+1) (.bool false) (.slice none 0 0) (.int .i64 0) (.int .i64 o.k) (.cells #[.int .i64 o.k] 155)=W at *;simp [results,Tryz.results101,go_sem,d0,d1,d2,d3]
  ·refine ⟨(Lb KK.out (Nat.le_refl _) (Nat.le_succ _)).drew,_,rfl,?_⟩;rw [hz h0];exact ⟨_,rfl,⟨(by intro i hi;cases hi),none,0,rfl,Nat.le_refl _,fun h=>absurd h (Nat.lt_irrefl 0)⟩,by decide,by decide⟩
def Blk (w:World) (b:Nat) (x y z:Value):Prop:=w.heap[b]?=some (.cells #[x,y,z] 30 (0,0))
theorem Blk.facts {w:World}{b:Nat}{x y z:Value}(h:Blk w b x y z):b<w.heap.size∧w.cell? ⟨b,0,none⟩=some x∧w.cell? ⟨b,1,none⟩=some y∧w.cell? ⟨b,2,none⟩=some z ∧
 w.frozen? ⟨b,0,none⟩=false∧w.frozen? ⟨b,1,none⟩=false∧w.frozen? ⟨b,2,none⟩=false :=
 ⟨(Array.getElem?_eq_some_iff.1 h).1,Ag h 0 _ rfl,Ag h 1 _ rfl,Ag h 2 _ rfl,Am h 0,Am h 1,Am h 2⟩
theorem Blk.kept {w w1:World}{b:Nat}{x y z:Value}(h:Blk w b x y z)(k:Kept w w1):Blk w1 b x y z :=
 (k.block b (Array.getElem?_eq_some_iff.1 h).1).trans h
theorem blk_new (w:World)(x y z:Value):Blk (w.alloc (.cells #[x,y,z] 30)) w.heap.size x y z:=heap_alloc_new _ _
theorem Bn {w:World}{b:Nat}{x y z:Value}(h:Blk w b x y z)(o:Obj):Blk (w.alloc o) b x y z :=
 h.kept ((Below.refl _ _).alloc (Nat.le_refl _) _)
theorem Ad (w:World)(o:Obj):Kept w (w.alloc o):=(Below.refl _ _).alloc (Nat.le_refl _) _
def dyW (w:World) (b:Nat) (x y z:Value):World:=((w.setCell ⟨b,0,none⟩ x).setCell ⟨b,1,none⟩ y).setCell ⟨b,2,none⟩ z
theorem Blk.laid {w:World}{b:Nat}{x y z:Value}(h:Blk w b x y z)(x' y' z':Value):Blk (dyW w b x' y' z') b x' y' z' :=
 Av (Av (Av h _) _) _
theorem Blk.laid_other {w:World}{b b':Nat}{x y z:Value}(h:Blk w b x y z)(hne:¬b=b')(x' y' z':Value):Blk (dyW w b' x' y' z') b x y z :=
 Aw (Aw (Aw h hne _) hne _) hne _
theorem Bj {w0 w:World}{b:Nat}{x y z:Value}(h:Kept w0 w)(h2:w0.heap.size≤b):Kept w0 (dyW w b x y z) :=
 ((h.setCell (p:=⟨b,0,none⟩) h2 x).setCell (p:=⟨b,1,none⟩) h2 y).setCell (p:=⟨b,2,none⟩) h2 z
def Bv (x:Value):Prop:=∀ n,¬x=.int .u64 n
theorem An (b:Bool):Bv (.bool b):=fun _ h=>by cases h
theorem Ak (a:Option Addr)(n c:Nat):Bv (.slice a n c):=fun _ h=>by cases h
theorem Aq (n:Int):Bv (.int .i64 n):=fun _ h=>by cases h
theorem Lim.noLimb {w:World}{s:Value}{xs:List Nat}(h:Lim w s xs):Bv s:=by
 obtain ⟨_,A,c,rfl,_⟩:=h;exact Ak _ _ _
theorem Lim.dyW {w:World}{s:Value}{xs:List Nat}{b2:Nat}{x y z x' y' z':Value}(h:Lim w s xs)(h0:Blk w b2 x y z)(hx:Bv x)(hy:Bv y)(hz:Bv z) :
 Lim (dyW w b2 x' y' z') s xs:=by
 obtain ⟨hsm,A,c,rfl,hc,hA⟩:=h;refine ⟨hsm,A,c,rfl,hc,fun hp=>?_⟩;obtain ⟨b,off,rfl,hb,hcell⟩:=hA hp;have n2:¬b=b2:=by
  rintro rfl;have h5:=hcell 0 hp;simp only [World.cell?,show w.heap[b]?=_ from h0] at h5;rcases off with _ | _ | _ | off
  ·simp at h5;exact hx _ h5
  ·simp at h5;exact hy _ h5
  ·simp at h5;exact hz _ h5
  ·simp at h5
 have e:(Go.Proofs.YtmgaloopddiekaaGreatDoor.dyW w b2 x' y' z').heap[b]?=w.heap[b]?:=by
  unfold Go.Proofs.YtmgaloopddiekaaGreatDoor.dyW;rw [Below.heap_setCell _ _ _ _ n2,Below.heap_setCell _ _ _ _ n2,Below.heap_setCell _ _ _ _ n2]
 refine ⟨b,off,rfl,?_,fun i hi=>?_⟩
 ·unfold Go.Proofs.YtmgaloopddiekaaGreatDoor.dyW;simpa [World.setCell] using hb
 ·rw [←hcell i hi];simp only [World.cell?,e]
theorem Lim.setCell {w:World}{s:Value}{xs:List Nat}{b i:Nat}{x:Value}(h:Lim w s xs)(hc:w.cell? ⟨b,i,none⟩=some x)(hx:Bv x)(y:Value) :
 Lim (w.setCell ⟨b,i,none⟩ y) s xs:=by
 obtain ⟨hsm,A,c,rfl,hc',hA⟩:=h;refine ⟨hsm,A,c,rfl,hc',fun hp=>?_⟩;obtain ⟨b0,off,rfl,hb,hcell⟩:=hA hp;refine ⟨b0,off,rfl,by simpa [World.setCell] using hb,fun k hk=>?_⟩;rw [World.cell?_setCell_other]
 ·exact hcell k hk
 ·intro he;injection he with he1 he2
  subst he1 he2;rw [hcell k hk] at hc;injection hc with hc
  exact hx _ hc.symm
theorem C8 (w:World)(o:Obj)(x y z:Value):Blk ((w.alloc o).alloc (.cells #[x,y,z] 30)) (w.heap.size+1) x y z:=by
 have:=blk_new (w.alloc o) x y z;simpa using this
theorem Aba (w:World)(o o':Obj)(x y z:Value):Blk (((w.alloc o).alloc o').alloc (.cells #[x,y,z] 30)) (w.heap.size+2) x y z:=by
 have:=blk_new ((w.alloc o).alloc o') x y z;simpa using this
theorem Co {fn:Func}{R:Ending→World→Prop}{a:Act}{w:World}{b t:Nat}{x y z:Value}(h:Blk w b x y z)
 (hres:fn.results=#[.cell t 30]) (ht:a.tmps.getD t undef=.pointer (some ⟨b,0,none⟩)) (hd:a.defers=[]) (hR:R (.returned (.agg #[x,y,z])) w) :
 bodyPost Tryz.prog fn R .ret a w:=by
 obtain ⟨_,c0,c1,c2,_⟩:=h.facts;refine bodyPost_ret (v:=.agg #[x,y,z]) ?_ hd hR;have ht2:a.tmps[t]?.getD undef=.pointer (some ⟨b,0,none⟩):=by simpa using ht
 simp [results,hres,ht2,go_sem,c0,c1,c2]
theorem Hd {fn:Func}{R:Ending→World→Prop}{a:Act}{w:World}{b t u:Nat}{x y z:Value}(h:Blk w b x y z)
 (hres:fn.results=#[.cell t 30,.tmp u]) (ht:a.tmps.getD t undef=.pointer (some ⟨b,0,none⟩)) (hd:a.defers=[])
 (hR:R (.returned (.tuple #[.agg #[x,y,z],a.tmps.getD u undef])) w) :
 bodyPost Tryz.prog fn R .ret a w:=by
 obtain ⟨_,c0,c1,c2,_⟩:=h.facts;refine bodyPost_ret (v:=.tuple #[.agg #[x,y,z],a.tmps.getD u undef]) ?_ hd hR;have ht2:a.tmps[t]?.getD undef=.pointer (some ⟨b,0,none⟩):=by simpa using ht
 simp [results,hres,ht2,go_sem,c0,c1,c2]
def Jr (r:Raw):Int:=if Di r=false∨r.m.length=0 then 0 else if r.neg then -1 else 1
theorem Mp {w:World}{v:Value}{r:Raw}(hv:DyR w v r)(hl:r.m.length≤17592186044416) :
 Calls Tryz.prog 63 #[v] w (RetK (.int .i64 (Jr r)) w):=by
 have hm:=fun w1 (k:Kept w w1)=>J9 (hv.kept k) hl
 obtain ⟨neg,m,e⟩:=r;obtain ⟨s,rfl,hs,h1,h2⟩:=hv;obtain ⟨_,A,c,rfl,hc,_⟩:=hs;simp only at hc h1 h2 hl ⊢;unfold Jr;simp only;have HM:=hid hm;clear hm;generalize hb:Di ⟨neg,m,e⟩=bm at *;cases bm
 ·rw [if_pos (Or.inl rfl)];go_enter Tryz.func63,Tryz.ntmps63
  go_wp2_with (go_at_call 51;refine (HM.out _ (Ad _ _)).mono ?_;rintro e w1 ⟨rfl,q⟩)
  go_ret;exact ⟨rfl,(Ad _ _).trans q⟩
 ·clear hb;generalize m.length=l at *;by_cases h0:l=0
  ·rw [if_pos (Or.inr h0)];subst h0;clear hl hc;go_enter Tryz.func63,Tryz.ntmps63
   go_wp2_with (go_at_call 51;refine (HM.out _ (Ad _ _)).mono ?_;rintro e w1 ⟨rfl,q⟩;obtain ⟨_,c0,c1,c2,_⟩:=((blk_new _ _ _ _).kept q).facts)
   go_ret;exact ⟨rfl,(Ad _ _).trans q⟩
  ·rw [if_neg (by rintro (h | h);exact absurd h (by decide);exact h0 h)];have e0:(((l:Nat):Int)==0)=false:=by rw [beq_eq_false_iff_ne];omega
   have HL:=hid h0;clear h0
   cases neg<;>(
    go_enter Tryz.func63,Tryz.ntmps63
    go_wp2_with (go_at_call 51;refine (HM.out _ (Ad _ _)).mono ?_;rintro e w1 ⟨rfl,q⟩;obtain ⟨_,c0,c1,c2,_⟩:=((blk_new _ _ _ _).kept q).facts)
    go_ret;exact ⟨rfl,(Ad _ _).trans q⟩)
def RetD (r:Raw) (w:World) (e:Ending) (w':World):Prop:=Kept w w'∧∃ v,e=.returned v∧DyR w' v r
theorem Pg {w:World}{v:Value}{r:Raw}(hv:DyR w v r)(hl:r.m.length≤1000000) :
 Calls Tryz.prog 134 #[v] w (RetD r w):=by
 obtain ⟨neg,m,e⟩:=r;obtain ⟨s,rfl,hs,h1,h2⟩:=hv;simp only at hs h1 h2 hl ⊢;have hm:=fun w1 (k:Kept w w1)=>Sj (hs.kept k) hl
 obtain ⟨_,A,c,rfl,hc,_⟩:=hs;have HM:=hid hm;clear hm hl hc;go_enter Tryz.func134,Tryz.ntmps134
 go_wp2_with (go_at_call 150;refine (HM.out _ ((Ad _ _).trans (Ad _ _))).mono ?_;rintro e w1 ⟨u,rfl,hu,q⟩;obtain ⟨_,A',c',rfl,_⟩:=id hu;have HU:=hid hu;clear hu;have b0:=(Bn (blk_new _ _ _ _) _).kept q;have b1:=(C8 _ _ _ _ _).kept q;obtain ⟨_,c0,c1,c2,f0,f1,f2⟩:=b0.facts;obtain ⟨_,d0,d1,d2,g0,g1,g2⟩:=b1.facts)
 have hd:=HU.out.setCell c1 (Ak _ _ _) (.slice A' m.length c');have b3:Blk (w1.setCell ⟨w.heap.size,1,none⟩ (.slice A' m.length c')) (w.heap.size+1) (.bool false) (.slice none 0 0) (.int .i64 0):=Aw (b:=w.heap.size+1) (b':=w.heap.size) b1 (by omega) _;refine Co (Blk.laid (b:=w.heap.size+1) b3 _ _ _) rfl rfl rfl ⟨?_,_,rfl,_,rfl,hd.dyW b3 (An _) (Ak _ _ _) (Aq _),h1,h2⟩;exact Bj ((((Ad _ _).trans (Ad _ _)).trans q).setCell (Nat.le_refl _) _) (Nat.le_succ _)
def Af6 (r:Raw):Raw:=if Di r=true∧0<r.m.length then ⟨!r.neg,r.m,r.e⟩ else r
theorem Ahs {w:World}{v:Value}{r:Raw}(hv:DyR w v r)(hl:r.m.length≤1000000) :
 Calls Tryz.prog 153 #[v] w (RetD (Af6 r) w):=by
 have hm:=fun w1 (k:Kept w w1)=>Pg (hv.kept k) hl
 have hmay:=fun w1 v1 (h:DyR w1 v1 r)=>J9 h (by omega)
 obtain ⟨neg,m,e⟩:=r;obtain ⟨s,rfl,hs,h1,h2⟩:=hv;simp only at hs h1 h2 hl ⊢;obtain ⟨_,A,c,rfl,hc,_⟩:=hs;have HM:=hid hm;have HY:=hid hmay;clear hm hmay hl hc;unfold Af6;simp only;generalize hb:Di ⟨neg,m,e⟩=bm at *;have hnot:∀ (x:Bool) (w:World),(Op.unary .not (.bool x)).run Tryz.prog w=.ok (.bool (!x)) w:=fun _ _=>rfl
 cases bm
 ·rw [if_neg (by rintro ⟨h,_⟩;cases h)];clear hb;go_enter Tryz.func153,Tryz.ntmps153
  go_wp2_with (first
   | (go_at_call 134;refine (HM.out _ ((Ad _ _).trans (Ad _ _))).mono ?_;rintro e w1 ⟨q,u,rfl,⟨s',rfl,hu,h3,h4⟩⟩;simp only at hu h3 h4;obtain ⟨_,A',c',rfl,_⟩:=id hu;have HU:=hid hu;clear hu;have b0:=(Bn (blk_new _ _ _ _) _).kept q;have b1:=(C8 _ _ _ _ _).kept q;obtain ⟨_,c0,c1,c2,f0,f1,f2⟩:=b0.facts;obtain ⟨_,d0,d1,d2,g0,g1,g2⟩:=b1.facts)
   | (go_at_call 51;have HB:=hid b0;have HD:=hid b1;have HQ:=hid q;clear c0 c1 c2 f0 f1 f2 d0 d1 d2 g0 g1 g2 b0 b1 q;refine (HY.out (dyW w1 w.heap.size (.bool neg) (.slice A' m.length c') (.int .i64 e)) _ ⟨_,rfl,HU.out.dyW HB.out (An _) (Ak _ _ _) (Aq _),h3,h4⟩).mono ?_;rintro e w2 ⟨rfl,q2⟩;have b2:=(Blk.laid HB.out (.bool neg) (.slice A' m.length c') (.int .i64 e)).kept q2;have b3:=(Blk.laid_other (b':=w.heap.size) HD.out (by omega) (.bool neg) (.slice A' m.length c') (.int .i64 e)).kept q2;obtain ⟨_,c0,c1,c2,f0,f1,f2⟩:=b2.facts;obtain ⟨_,d0,d1,d2,g0,g1,g2⟩:=b3.facts))
  refine Co (Blk.laid (b:=w.heap.size+1) b3 _ _ _) rfl rfl rfl ⟨?_,_,rfl,_,rfl,((HU.out.dyW HB.out (An _) (Ak _ _ _) (Aq _)).kept q2).dyW b3 (An _) (Ak _ _ _) (Aq _),h1,h2⟩;exact Bj ((Bj (((Ad _ _).trans (Ad _ _)).trans HQ.out) (Nat.le_refl _)).trans q2) (Nat.le_succ _)
 ·by_cases h0:m.length=0
  ·rw [if_neg (by rintro ⟨_,h⟩;omega)];obtain rfl:=List.eq_nil_of_length_eq_zero h0;clear h0 hb;go_enter Tryz.func153,Tryz.ntmps153
   go_wp2_with (first
    | (go_at_call 134;refine (HM.out _ ((Ad _ _).trans (Ad _ _))).mono ?_;rintro e w1 ⟨q,u,rfl,⟨s',rfl,hu,h3,h4⟩⟩;simp only at hu h3 h4;obtain ⟨_,A',c',rfl,_⟩:=id hu;replace hu:Lim w1 (.slice A' 0 c') []:=hu;have HU:=hid hu;clear hu;have b0:=(Bn (blk_new _ _ _ _) _).kept q;have b1:=(C8 _ _ _ _ _).kept q;obtain ⟨_,c0,c1,c2,f0,f1,f2⟩:=b0.facts;obtain ⟨_,d0,d1,d2,g0,g1,g2⟩:=b1.facts)
    | (go_at_call 51;have HB:=hid b0;have HD:=hid b1;have HQ:=hid q;clear c0 c1 c2 f0 f1 f2 d0 d1 d2 g0 g1 g2 b0 b1 q;refine (HY.out (dyW w1 w.heap.size (.bool neg) (.slice A' 0 c') (.int .i64 e)) _ ⟨_,rfl,HU.out.dyW HB.out (An _) (Ak _ _ _) (Aq _),h3,h4⟩).mono ?_;rintro e w2 ⟨rfl,q2⟩;have b2:=(Blk.laid HB.out (.bool neg) (.slice A' 0 c') (.int .i64 e)).kept q2;have b3:=(Blk.laid_other (b':=w.heap.size) HD.out (by omega) (.bool neg) (.slice A' 0 c') (.int .i64 e)).kept q2;obtain ⟨_,c0,c1,c2,f0,f1,f2⟩:=b2.facts;obtain ⟨_,d0,d1,d2,g0,g1,g2⟩:=b3.facts))
   refine Co (Blk.laid (b:=w.heap.size+1) b3 _ _ _) rfl rfl rfl ⟨?_,_,rfl,_,rfl,((HU.out.dyW HB.out (An _) (Ak _ _ _) (Aq _)).kept q2).dyW b3 (An _) (Ak _ _ _) (Aq _),h1,h2⟩;exact Bj ((Bj (((Ad _ _).trans (Ad _ _)).trans HQ.out) (Nat.le_refl _)).trans q2) (Nat.le_succ _)
  ·rw [if_pos ⟨rfl,by omega⟩];obtain ⟨l,hml⟩:∃ l,m.length=l:=⟨_,rfl⟩;rw [hml] at h0 HM;have hl0:0<l:=by omega
   clear h0 hb;go_enter Tryz.func153,Tryz.ntmps153
   go_wp2_with (first
   | (go_at_call 134;refine (HM.out _ ((Ad _ _).trans (Ad _ _))).mono ?_;rintro e w1 ⟨q,u,rfl,⟨s',rfl,hu,h3,h4⟩⟩;simp only at hu h3 h4;obtain ⟨_,A',c',rfl,_⟩:=id hu;rw [hml] at hu;have HU:=hid hu;clear hu;have b0:=(Bn (blk_new _ _ _ _) _).kept q;have b1:=(C8 _ _ _ _ _).kept q;obtain ⟨_,c0,c1,c2,f0,f1,f2⟩:=b0.facts;obtain ⟨_,d0,d1,d2,g0,g1,g2⟩:=b1.facts)
   | (go_at_call 51;have HB:=hid b0;have HD:=hid b1;have HQ:=hid q;clear c0 c1 c2 f0 f1 f2 d0 d1 d2 g0 g1 g2 b0 b1 q;refine (HY.out (dyW w1 w.heap.size (.bool neg) (.slice A' l c') (.int .i64 e)) _ ⟨_,rfl,HU.out.dyW HB.out (An _) (Ak _ _ _) (Aq _),h3,h4⟩).mono ?_;rintro e w2 ⟨rfl,q2⟩;have b2:=(Blk.laid HB.out (.bool neg) (.slice A' l c') (.int .i64 e)).kept q2;have b3:=(Blk.laid_other (b':=w.heap.size) HD.out (by omega) (.bool neg) (.slice A' l c') (.int .i64 e)).kept q2;obtain ⟨_,c0,c1,c2,f0,f1,f2⟩:=b2.facts;obtain ⟨_,d0,d1,d2,g0,g1,g2⟩:=b3.facts))
   have b4:Blk (w2.setCell ⟨w.heap.size,0,none⟩ (.bool !neg)) (w.heap.size+1) (.bool false) (.slice none 0 0) (.int .i64 0):=Aw (b:=w.heap.size+1) (b':=w.heap.size) b3 (by omega) _;have hd:=((HU.out.dyW HB.out (An _) (Ak _ _ _) (Aq _)).kept q2).setCell c0 (An _) (.bool !neg);refine Co (Blk.laid (b:=w.heap.size+1) b4 _ _ _) rfl rfl rfl ⟨?_,_,rfl,_,rfl,hd.dyW b4 (An _) (Ak _ _ _) (Aq _),h1,h2⟩;exact Bj (((Bj (((Ad _ _).trans (Ad _ _)).trans HQ.out) (Nat.le_refl _)).trans q2).setCell (Nat.le_refl _) _) (Nat.le_succ _)
def Rl (T:TypeId) (b:Bool) (k:Int):Ending:=match b with | true=>.returned (.tuple #[]) | false=>.panicked (Ch T k)
theorem I7 (b:Bool)(k:Int)(w:World):Calls Tryz.prog 103 #[.bool b,.int .i64 k] w fun e w'=>e=Rl 155 b k∧w=w':=by
 cases b
 ·exact Ac3 k w
 ·exact Af4 k w
theorem Blk.drewN {w:World}{b:Nat}{x y z:Value}(h:Blk w b x y z)(n:Nat):Blk (w.drewN n) b x y z:=h
theorem DyR.shape {w:World}{v:Value}{r:Raw}(h:DyR w v r) :
 ∃ A l c,v=.agg #[.bool r.neg,.slice A l c,.int .i64 r.e]∧l=r.m.length∧Lim w (.slice A l c) r.m∧-9223372036854775808≤r.e∧r.e≤9223372036854775807:=by
 obtain ⟨s,rfl,hs,h1,h2⟩:=h;obtain ⟨_,A,c,rfl,_⟩:=id hs;exact ⟨A,_,c,rfl,rfl,hs,h1,h2⟩
theorem Lim.shape {w:World}{v:Value}{xs:List Nat}(h:Lim w v xs):∃ A l c,v=.slice A l c∧l=xs.length∧Lim w (.slice A l c) xs:=by
 obtain ⟨_,A,c,rfl,_⟩:=id h;exact ⟨A,_,c,rfl,rfl,h⟩
theorem Lim.dyR {w:World}{A:Option Addr}{l c:Nat}{r:Raw}(h:Lim w (.slice A l c) r.m)(h1:-9223372036854775808≤r.e)(h2:r.e≤9223372036854775807) :
 DyR w (.agg #[.bool r.neg,.slice A l c,.int .i64 r.e]) r:=⟨_,rfl,h,h1,h2⟩
def Outc.raw (o:Outc Dy):Outc Raw:=⟨o.v.raw,o.k⟩
theorem Hq:dz.raw=rz:=by simp [dz,Dy.raw,rz,Bd]
theorem Vv (n:Nat)(h:n≠0):tz n<64*(limbs n).length:=by
 refine Ahc n _ h ?_;have:=Ci n;rw [Nat.pow_mul];exact this
theorem Abw {w:World}{A:Option Addr}{c:Nat}{neg:Bool}{e:Int} :
 Calls Tryz.prog 104 #[.bool neg,.slice A 0 c,.int .i64 e] w (Goes 155 ⟨rz,0⟩ w):=by
 obtain ⟨_,c0,c1,c2,f0,f1,f2⟩:=(blk_new w (.bool false) (.slice none 0 0) (.int .i64 0)).facts;go_enter Tryz.func104,Tryz.ntmps104;go_wp2_with fail;refine Co (blk_new _ _ _ _) rfl rfl rfl ⟨Ad _ _,.inl ⟨rfl,_,rfl,_,rfl,Lim.nil _ _ _,by decide,by decide⟩⟩
theorem Abv {w:World}{v:Value}{n:Nat}{neg:Bool}{e:Int}(hv:Lim w v (limbs n))(hl:(limbs n).length≤90000)(e1:-9223372036854775808≤e)(e2:e≤9223372036854775807)(hT:Tab w) :
 Calls Tryz.prog 104 #[.bool neg,v,.int .i64 e] w (Goes 155 (Cr neg n e).raw w):=by
 obtain ⟨A,l,c,rfl,hll,hv⟩:=hv.shape;by_cases h0:n=0
 ·subst h0;rw [Bd] at hll;simp only [List.length_nil] at hll;subst hll;have:(Cr neg 0 e).raw=⟨rz,0⟩:=by simp [Cr,Outc.raw,good,Hq]
  rw [this];exact Abw
 ·have hz:=fun w1 (k:Kept w w1)=>Zc      (hv.kept k) (by omega) h0 (hT.kept k)
  have hzb:=Vv n h0;have hr:=fun w1 (k:Kept w w1)=>S8 (hv.kept k) (tz n) (by omega) (by omega)
  have hl0:=Bq n h0;have hzb2:tz n≤6400000:=by omega
  rw [←hll] at hl0;have HZ:=hid hz;have HR:=hid hr;unfold Cr;rw [if_neg h0];clear hz hr hv hzb hll hl hT h0;have hraw:(good (⟨neg,n/2^tz n,e+tz n⟩:Dy)).raw=⟨⟨neg,limbs (n/2^tz n),e+tz n⟩,0⟩:=rfl;have hb2:(bad 2).raw=⟨rz,2⟩:=by rw [bad,Outc.raw,Hq]
  have hb3:(bad 3).raw=⟨rz,3⟩:=by rw [bad,Outc.raw,Hq]
  have HW:=hid hraw;have HB2:=hid hb2;have HB3:=hid hb3;clear hraw hb2 hb3;generalize limbs (n/2^tz n)=xs at *;generalize n/2^tz n=n' at *;generalize tz n=z at *;obtain ⟨q,hq⟩:∃ q,xs.length=q:=⟨_,rfl⟩;rw [hq];by_cases h1:64<q
  ·rw [if_pos h1,HB2.out];have h1':decide ((q:Int)≤64)=false:=by simp;omega
   clear h1;go_enter Tryz.func104,Tryz.ntmps104
   go_wp2_with (first
    | (go_at_call 138;refine (HZ.out _ (Ad _ _)).mono ?_;rintro e w1 ⟨rfl,qz,rfl⟩)
    | (go_at_call 139;refine (HR.out _ (Kept.drewN (Ad _ _) _)).mono ?_;rintro e w1 ⟨u,rfl,hu,qk⟩;obtain ⟨A',l',c',rfl,hl',hu⟩:=hu.shape;rw [hq] at hl';cases hl';have HU:=hid hu;clear hu;have b0:=((blk_new _ _ _ _).drewN _).kept qk;obtain ⟨_,c0,c1,c2,f0,f1,f2⟩:=b0.facts)
    | (go_at_call 103;refine (I7 _ _ _).mono ?_;rintro e w1 ⟨he,rfl⟩;first | (obtain rfl:e=.returned (.tuple #[]):=he) | (obtain rfl:e=.panicked (Ch 155 _):=he)))
   exact ⟨rfl,(Kept.drewN (Ad _ _) _).trans qk,.inr ⟨by decide,rfl⟩⟩
  ·rw [if_neg h1];have h1':decide ((q:Int)≤64)=true:=by simp;omega
   clear h1;by_cases h2:1048576<e
   ·rw [if_pos (Or.inl h2),HB3.out];have h2':decide (e≤1048576)=false:=by simp;omega
    clear h2;go_enter Tryz.func104,Tryz.ntmps104
    go_wp2_with (first
     | (go_at_call 138;refine (HZ.out _ (Ad _ _)).mono ?_;rintro e w1 ⟨rfl,qz,rfl⟩)
     | (go_at_call 139;refine (HR.out _ (Kept.drewN (Ad _ _) _)).mono ?_;rintro e w1 ⟨u,rfl,hu,qk⟩;obtain ⟨A',l',c',rfl,hl',hu⟩:=hu.shape;rw [hq] at hl';cases hl';have HU:=hid hu;clear hu;have b0:=((blk_new _ _ _ _).drewN _).kept qk;obtain ⟨_,c0,c1,c2,f0,f1,f2⟩:=b0.facts)
     | (go_at_call 103;refine (I7 _ _ _).mono ?_;rintro e w1 ⟨he,rfl⟩;first | (obtain rfl:e=.returned (.tuple #[]):=he) | (obtain rfl:e=.panicked (Ch 155 _):=he)))
    exact ⟨rfl,(Kept.drewN (Ad _ _) _).trans qk,.inr ⟨by decide,rfl⟩⟩
   ·have h2':decide (e≤1048576)=true:=by simp;omega
    by_cases h3:e < -1048576-(z:Int)
    ·rw [if_pos (Or.inr h3),HB3.out];have h3':decide (-1048576-(z:Int)≤e)=false:=by simp;omega
     clear h2 h3;go_enter Tryz.func104,Tryz.ntmps104
     go_wp2_with (first
      | (go_at_call 138;refine (HZ.out _ (Ad _ _)).mono ?_;rintro e w1 ⟨rfl,qz,rfl⟩)
      | (go_at_call 139;refine (HR.out _ (Kept.drewN (Ad _ _) _)).mono ?_;rintro e w1 ⟨u,rfl,hu,qk⟩;obtain ⟨A',l',c',rfl,hl',hu⟩:=hu.shape;rw [hq] at hl';cases hl';have HU:=hid hu;clear hu;have b0:=((blk_new _ _ _ _).drewN _).kept qk;obtain ⟨_,c0,c1,c2,f0,f1,f2⟩:=b0.facts)
      | (go_at_call 103;refine (I7 _ _ _).mono ?_;rintro e w1 ⟨he,rfl⟩;first | (obtain rfl:e=.returned (.tuple #[]):=he) | (obtain rfl:e=.panicked (Ch 155 _):=he)))
     exact ⟨rfl,(Kept.drewN (Ad _ _) _).trans qk,.inr ⟨by decide,rfl⟩⟩
    ·have h3':decide (-1048576-(z:Int)≤e)=true:=by simp;omega
     rw [if_neg (by omega)];have hez1:-9223372036854775808≤e+(z:Int):=by omega
     have hez2:e+(z:Int)≤9223372036854775807:=by omega
     by_cases h4:1048576<e+(z:Int)
     ·rw [if_pos h4,HB3.out];have h4':decide (e+(z:Int)≤1048576)=false:=by simp;omega
      clear h4;go_enter Tryz.func104,Tryz.ntmps104
      go_wp2_with (first
       | (go_at_call 138;refine (HZ.out _ (Ad _ _)).mono ?_;rintro e w1 ⟨rfl,qz,rfl⟩)
       | (go_at_call 139;refine (HR.out _ (Kept.drewN (Ad _ _) _)).mono ?_;rintro e w1 ⟨u,rfl,hu,qk⟩;obtain ⟨A',l',c',rfl,hl',hu⟩:=hu.shape;rw [hq] at hl';cases hl';have HU:=hid hu;clear hu;have b0:=((blk_new _ _ _ _).drewN _).kept qk;obtain ⟨_,c0,c1,c2,f0,f1,f2⟩:=b0.facts)
       | (go_at_call 103;refine (I7 _ _ _).mono ?_;rintro e w1 ⟨he,rfl⟩;first | (obtain rfl:e=.returned (.tuple #[]):=he) | (obtain rfl:e=.panicked (Ch 155 _):=he)))
      exact ⟨rfl,(Kept.drewN (Ad _ _) _).trans qk,.inr ⟨by decide,rfl⟩⟩
     ·rw [if_neg h4,HW.out];have h4':decide (e+(z:Int)≤1048576)=true:=by simp;omega
      clear h4;go_enter Tryz.func104,Tryz.ntmps104
      go_wp2_with (first
       | (go_at_call 138;refine (HZ.out _ (Ad _ _)).mono ?_;rintro e w1 ⟨rfl,qz,rfl⟩)
       | (go_at_call 139;refine (HR.out _ (Kept.drewN (Ad _ _) _)).mono ?_;rintro e w1 ⟨u,rfl,hu,qk⟩;obtain ⟨A',l',c',rfl,hl',hu⟩:=hu.shape;rw [hq] at hl';cases hl';have HU:=hid hu;clear hu;have b0:=((blk_new _ _ _ _).drewN _).kept qk;obtain ⟨_,c0,c1,c2,f0,f1,f2⟩:=b0.facts)
       | (go_at_call 103;refine (I7 _ _ _).mono ?_;rintro e w1 ⟨he,rfl⟩;first | (obtain rfl:e=.returned (.tuple #[]):=he) | (obtain rfl:e=.panicked (Ch 155 _):=he)))
      refine Co (Blk.laid b0 _ _ _) rfl rfl rfl ⟨Bj ((Kept.drewN (Ad _ _) _).trans qk) (Nat.le_refl _),.inl ⟨rfl,_,rfl,(HU.out.dyW b0 (An _) (Ak _ _ _) (Aq _)).dyR (r:=⟨neg,xs,e+z⟩) hez1 hez2⟩⟩
theorem Goes.of {T:TypeId}{o:Outc Raw}{w w1 w':World}{e:Ending}(h:Goes T o w1 e w')(k:Kept w w1):Goes T o w e w':=⟨k.trans h.1,h.2⟩
theorem Ahu {w:World}{v:Value}{n:Nat}{neg:Bool}{e:Int}{b0 b1 b2:Nat}(hv:Lim w v (limbs n))(hl:(limbs n).length≤90000)(e1:-9223372036854775808≤e)(e2:e≤9223372036854775807)(hT:Tab w)
 (c0:w.cell? ⟨b0,0,none⟩=some (.bool neg)) (c1:w.cell? ⟨b1,0,none⟩=some v) (c2:w.cell? ⟨b2,0,none⟩=some (.int .i64 e)) :
 Calls Tryz.prog 149 #[.pointer (some ⟨b0,0,none⟩),.pointer (some ⟨b1,0,none⟩),.pointer (some ⟨b2,0,none⟩)] w (Goes 155 (Cr neg n e).raw w):=by
 have hf:=fun w1 (k:Kept w w1)=>Abv (neg:=neg) (hv.kept k) hl e1 e2 (hT.kept k)
 have l0:=Bg c0;have l1:=Bg c1;have l2:=Bg c2;simp only at l0 l1 l2;have HF:=hid hf;obtain ⟨A,l,c,rfl,hll,hv⟩:=hv.shape;clear hf hv hll hl hT;generalize Cr neg n e=o at *;go_enter Tryz.func149,Tryz.ntmps149;go_wp2_with fail;refine (HF.out _ (Ad _ _)).mono ?_;rintro e w1 ⟨qk,⟨h0,u,rfl,hd⟩ | ⟨h0,rfl⟩⟩
 ·obtain ⟨A',l',c',rfl,-,hd,g1,g2⟩:=hd.shape;have b0:=(blk_new _ _ _ _).kept qk;obtain ⟨_,c0,c1,c2,f0,f1,f2⟩:=b0.facts;have HD:=hid hd;clear hd;simp only [];go_wp2_with fail;exact Co (Blk.laid b0 _ _ _) rfl rfl rfl ⟨Bj ((Ad _ _).trans qk) (Nat.le_refl _),.inl ⟨h0,_,rfl,(HD.out.dyW b0 (An _) (Ak _ _ _) (Aq _)).dyR g1 g2⟩⟩
 ·exact ⟨rfl,(Ad _ _).trans qk,.inr ⟨h0,rfl⟩⟩
theorem Adc (w:World)(x:Value)(T:TypeId):(w.alloc (.cells #[x] T)).cell? ⟨w.heap.size,0,none⟩=some x:=Ag (heap_alloc_new _ _) 0 _ rfl
theorem Ah9 (w:World)(o:Obj)(x:Value)(T:TypeId):((w.alloc o).alloc (.cells #[x] T)).cell? ⟨w.heap.size+1,0,none⟩=some x:=by
 have:=Adc (w.alloc o) x T;simp only [World.size_alloc] at this;exact this
theorem Af7 (w:World)(o o':Obj)(x:Value)(T:TypeId):(((w.alloc o).alloc o').alloc (.cells #[x] T)).cell? ⟨w.heap.size+1+1,0,none⟩=some x:=by
 have:=Adc ((w.alloc o).alloc o') x T;simp only [World.size_alloc] at this;exact this
theorem Pb (w:World)(o o' o'':Obj)(x y z:Value):Blk ((((w.alloc o).alloc o').alloc o'').alloc (.cells #[x,y,z] 30)) (w.heap.size+1+1+1) x y z:=by
 have:=blk_new (((w.alloc o).alloc o').alloc o'') x y z;simp only [World.size_alloc] at this;exact this
theorem Bc {w w1:World}{b:Nat}{x:Value}(k:Kept w w1)(h:w.cell? ⟨b,0,none⟩=some x):w1.cell? ⟨b,0,none⟩=some x:=(k.cell (p:=⟨b,0,none⟩) (Bg h)).trans h
theorem Abu (neg:Bool)(n:Nat)(e:Int):(Cr neg n e).raw.k≠0→(Cr neg n e).raw.v=rz:=by
 intro h;rw [Outc.raw] at h ⊢;rw [(Gh neg n e).2 h,Hq]
theorem Agv {w:World}{v:Value}{n:Nat}{neg:Bool}{e:Int}(hv:Lim w v (limbs n))(hl:(limbs n).length≤90000)(e1:-9223372036854775808≤e)(e2:e≤9223372036854775807)(hT:Tab w) :
 Calls Tryz.prog 113 #[.bool neg,v,.int .i64 e] w (RetE (Cr neg n e).raw w):=by
 have hmf:=Es;have hf:=fun (W:World) (k:Kept w W) (H:Nat) (c0:W.cell? ⟨H,0,none⟩=some (.bool neg)) (c1:W.cell? ⟨H+1,0,none⟩=some v) (c2:W.cell? ⟨H+1+1,0,none⟩=some (.int .i64 e)) =>
  Abr (w:=W) (K:=149) (cap:=#[.pointer (some ⟨H,0,none⟩),.pointer (some ⟨H+1,0,none⟩),.pointer (some ⟨H+1+1,0,none⟩)])
   (fun W1 k1=>Ahu (neg:=neg) (hv.kept (k.trans k1)) hl e1 e2 (hT.kept (k.trans k1)) (Bc k1 c0) (Bc k1 c1) (Bc k1 c2)) (Abu neg n e) (fun _=>rfl)
 have HF:=hid hf;obtain ⟨A,l,c,rfl,hll,hv⟩:=hv.shape;clear hf hv hll hl hT;generalize Cr neg n e=o at *;go_enter Tryz.func113,Tryz.ntmps113;go_wp2_with fail;refine (HF.out _ ?k _ ?c0 ?c1 ?c2).mono ?m
 case k=>exact (((Ad _ _).trans (Ad _ _)).trans (Ad _ _)).trans (Ad _ _)
 case c0=>exact Bc (Ad _ _) (Bc (Ad _ _) (Bc (Ad _ _) (Adc _ _ _)))
 case c1=>exact Bc (Ad _ _) (Bc (Ad _ _) (Ah9 _ _ _ _))
 case c2=>exact Bc (Ad _ _) (Af7 _ _ _ _ _)
 case m =>
  rintro e w1 ⟨qk,u,rfl,hd⟩;obtain ⟨A',l',c',rfl,-,hd,g1,g2⟩:=hd.shape;have b0:=(Pb _ _ _ _ _ _ _).kept qk;obtain ⟨_,c0,c1,c2,f0,f1,f2⟩:=b0.facts;have HD:=hid hd;clear hd;simp only [];go_wp2_with fail;exact Hd (Blk.laid b0 _ _ _) rfl rfl rfl ⟨Bj (((((Ad _ _).trans (Ad _ _)).trans (Ad _ _)).trans (Ad _ _)).trans qk) (by omega),_,rfl,(HD.out.dyW b0 (An _) (Ak _ _ _) (Aq _)).dyR g1 g2⟩
theorem Afs (w:World)(o:Obj)(k:Nat)(hk:k<18446744073709551616):Lim ((w.alloc o).alloc (.cells #[.int .u64 k] 54)) (.slice (some ⟨w.heap.size+1,0,none⟩) 1 1) [k]:=by
 refine ⟨fun x hx=>by simp at hx;omega,_,1,rfl,Nat.le_refl _,fun _=>⟨_,_,rfl,by simp,fun i hi=>?_⟩⟩;have:i=0:=by simp at hi;exact hi
 subst this;exact Ah9 w o (.int .u64 k) 54
theorem Add {w:World}{o:Obj}{k:Nat}(hk:k<18446744073709551616) :
 Calls Tryz.prog 114 #[.slice (some ⟨w.heap.size+1,0,none⟩) 1 1] ((w.alloc o).alloc (.cells #[.int .u64 k] 54)) (RetLim (limbs k) ((w.alloc o).alloc (.cells #[.int .u64 k] 54))):=by
 have h:=Af9 (Afs w o k hk) (by simp);have e:val [k]=k:=by simp [val]
 rwa [e] at h
theorem Us (k:Nat)(hk:k<18446744073709551616):(limbs k).length≤90000:=by
 have:=Dw k 1 (by simpa using hk);omega
theorem Vx {w:World}{k:Nat}{e:Int}(hk:k<9223372036854775808)(e1:-9223372036854775808≤e)(e2:e≤9223372036854775807)(hT:Tab w) :
 Calls Tryz.prog 75 #[.int .i64 k,.int .i64 e] w (RetE (Cr false k e).raw w):=by
 have hw:IntKind.u64.wrap (k:Int)=k:=by simp [IntKind.wrap_u64];omega
 have hf:=fun W v (k1:Kept w W) (hv:Lim W v (limbs k))=>Agv (neg:=false) hv (Us k (by omega)) e1 e2 (hT.kept k1)
 have hlt:decide ((k:Int)<0)=false:=by simp
 have HK:=hid hk;have HF:=hid hf;clear hk hf hT e1 e2;generalize Cr false k e=o at *;go_enter Tryz.func75,Tryz.ntmps75
 go_wp2_with (first
  | (go_at_call 114;refine (Add (by have:=HK.out;omega)).mono ?_;rintro e w1 ⟨u,rfl,hu,qk⟩;have HU:=hid hu;clear hu)
  | (go_at_call 113;refine (HF.out _ _ (((Ad _ _).trans (Ad _ _)).trans qk) HU.out).mono ?_;rintro e w2 ⟨qk2,u,rfl,hd⟩;obtain ⟨A',l',c',rfl,-,hd,g1,g2⟩:=hd.shape;have b0:=((Bn (blk_new _ _ _ _) _).kept qk).kept qk2;obtain ⟨_,c0,c1,c2,f0,f1,f2⟩:=b0.facts;have HD:=hid hd;clear hd))
 exact Hd (Blk.laid b0 _ _ _) rfl rfl rfl ⟨Bj ((((Ad _ _).trans (Ad _ _)).trans qk).trans qk2) (Nat.le_refl _),_,rfl,(HD.out.dyW b0 (An _) (Ak _ _ _) (Aq _)).dyR g1 g2⟩
def Ny (a b:Raw) (o:Outc Raw):Outc Raw:=if Di a&&Di b then o else ⟨rz,1⟩
theorem Aip {w:World}{va vb:Value}{a b:Raw}{o:Outc Raw}{K b0 b1 b2:Nat}(ha:DyR w va a)(hb:DyR w vb b)(la:a.m.length≤17592186044416)(lb:b.m.length≤17592186044416)
 (h:∀ W,Kept w W→Di a=true→Di b=true→Calls Tryz.prog K #[va,vb] W (Goes 155 o W))
 (hk:∀ w,(callFunc K #[va,vb]).run Tryz.prog w=.ok (.enter K #[va,vb]) w)
 (h0:∃ x y z,va=.agg #[x,y,z]∧Blk w b0 x y z) (h1:∃ x y z,vb=.agg #[x,y,z]∧Blk w b1 x y z) (h2:w.cell? ⟨b2,0,none⟩=some (.func (.func K) #[] #[])) :
 Calls Tryz.prog 133 #[.pointer (some ⟨b0,0,none⟩),.pointer (some ⟨b1,0,none⟩),.pointer (some ⟨b2,0,none⟩)] w (Goes 155 (Ny a b o) w):=by
 have hma:=fun w1 (k:Kept w w1)=>J9 (ha.kept k) la
 have hmb:=fun w1 (k:Kept w w1)=>J9 (hb.kept k) lb
 obtain ⟨x,y,z,rfl,h0⟩:=h0;obtain ⟨x',y',z',rfl,h1⟩:=h1;unfold Ny;clear ha hb la lb;have HA:=hid hma;have HB:=hid hmb;have HH:=hid h;have HK:=hid hk;have H0:=hid h0;have H1:=hid h1;have H2:=hid h2;obtain ⟨l0,c0,c1,c2,-⟩:=h0.facts;obtain ⟨l1,d0,d1,d2,-⟩:=h1.facts;have l2:=Bg h2;simp only at l2;clear hma hmb h hk h0 h1;cases hba:Di a
 ·rw [if_neg (by simp)];rw [hba] at HA;go_enter Tryz.func133,Tryz.ntmps133
  go_wp2_with (first
   | (go_at_call 51;refine (HA.out _ (Ad _ _)).mono ?_;rintro e w1 ⟨rfl,qk⟩)
   | (go_at_call 103;refine (I7 _ _ _).mono ?_;rintro e w1 ⟨he,rfl⟩;first | (obtain rfl:e=.returned (.tuple #[]):=he) | (obtain rfl:e=.panicked (Ch 155 _):=he)))
  exact ⟨rfl,(Ad _ _).trans qk,.inr ⟨by decide,rfl⟩⟩
 ·rw [hba] at HA;cases hbb:Di b
  ·rw [if_neg (by simp)];rw [hbb] at HB;go_enter Tryz.func133,Tryz.ntmps133;go_wp2_with fail;refine (HA.out _ (Ad _ _)).mono ?_;rintro e w1 ⟨rfl,qk⟩;obtain ⟨-,d0,d1,d2,-⟩:=(H1.out.kept ((Ad _ _).trans qk)).facts;simp only [];go_wp2_with fail;refine (HB.out _ ((Ad _ _).trans qk)).mono ?_;rintro e w2 ⟨rfl,qk2⟩;simp only [];go_wp2_with fail;refine (I7 _ _ _).mono ?_;rintro e w3 ⟨he,rfl⟩;obtain rfl:e=.panicked (Ch 155 _):=he;exact ⟨rfl,((Ad _ _).trans qk).trans qk2,.inr ⟨by decide,rfl⟩⟩
  ·rw [if_pos (by simp)];rw [hbb] at HB;go_enter Tryz.func133,Tryz.ntmps133;go_wp2_with fail;refine (HA.out _ (Ad _ _)).mono ?_;rintro e w1 ⟨rfl,qk⟩;obtain ⟨-,d0,d1,d2,-⟩:=(H1.out.kept ((Ad _ _).trans qk)).facts;simp only [];go_wp2_with fail;refine (HB.out _ ((Ad _ _).trans qk)).mono ?_;rintro e w2 ⟨rfl,qk2⟩;clear d0 d1 d2 c0 c1 c2;have k2:=((Ad w _).trans qk).trans qk2;obtain ⟨-,d0,d1,d2,-⟩:=(H1.out.kept k2).facts;obtain ⟨-,c0,c1,c2,-⟩:=(H0.out.kept k2).facts;have cf:=Bc k2 H2.out;simp only []
   go_wp2_with (go_at_call 103;refine (I7 _ _ _).mono ?_;rintro e w3 ⟨he,rfl⟩;obtain rfl:e=.returned (.tuple #[]):=he;have hk:=HK.out)
   refine (HH.out _ k2 hba hbb).mono ?_;rintro e w3 ⟨q3,⟨g0,u,rfl,hd⟩ | ⟨g0,rfl⟩⟩
   ·obtain ⟨A',l',c',rfl,-,hd,g1,g2⟩:=hd.shape;have r0:=(((blk_new _ _ _ _).kept qk).kept qk2).kept q3;clear d0 d1 d2 c0 c1 c2;obtain ⟨_,c0,c1,c2,f0,f1,f2⟩:=r0.facts;have HD:=hid hd;clear hd;simp only [];go_wp2_with fail;exact Co (Blk.laid r0 _ _ _) rfl rfl rfl ⟨Bj (k2.trans q3) (Nat.le_refl _),.inl ⟨g0,_,rfl,(HD.out.dyW r0 (An _) (Ak _ _ _) (Aq _)).dyR g1 g2⟩⟩
   ·exact ⟨rfl,k2.trans q3,.inr ⟨g0,rfl⟩⟩
theorem Aem {a b:Raw}{o:Outc Raw}(hz:o.k≠0→o.v=rz):(Ny a b o).k≠0→(Ny a b o).v=rz:=by
 unfold Ny;split
 ·exact hz
 ·intro _;rfl
theorem Aen {w:World}{va vb:Value}{a b:Raw}{o:Outc Raw}{K:Nat}(ha:DyR w va a)(hb:DyR w vb b)(la:a.m.length≤17592186044416)(lb:b.m.length≤17592186044416)
 (h:∀ W,Kept w W→Di a=true→Di b=true→Calls Tryz.prog K #[va,vb] W (Goes 155 o W)) (hz:o.k≠0→o.v=rz)
 (hk:∀ w,(callFunc K #[va,vb]).run Tryz.prog w=.ok (.enter K #[va,vb]) w) :
 Calls Tryz.prog 98 #[va,vb,.func (.func K) #[] #[]] w (RetE (Ny a b o) w):=by
 have hmf:=Es;have hf:=fun (W:World) (k:Kept w W) (H:Nat) (c0:∃ x y z,va=.agg #[x,y,z]∧Blk W H x y z) (c1:∃ x y z,vb=.agg #[x,y,z]∧Blk W (H+1) x y z) (c2:W.cell? ⟨H+1+1,0,none⟩=some (.func (.func K) #[] #[])) =>
  Abr (w:=W) (K:=133) (cap:=#[.pointer (some ⟨H,0,none⟩),.pointer (some ⟨H+1,0,none⟩),.pointer (some ⟨H+1+1,0,none⟩)])
   (fun W1 k1=>Aip (ha.kept (k.trans k1)) (hb.kept (k.trans k1)) la lb (fun W2 k2=>h W2 ((k.trans k1).trans k2)) hk (by obtain ⟨x,y,z,e,h⟩:=c0;exact ⟨x,y,z,e,h.kept k1⟩) (by obtain ⟨x,y,z,e,h⟩:=c1;exact ⟨x,y,z,e,h.kept k1⟩) (Bc k1 c2))
   (Aem hz) (fun _=>rfl)
 have HF:=hid hf;clear hf h hk hz la lb;generalize Ny a b o=o' at *;obtain ⟨A,l,c,rfl,-,-,-,-⟩:=ha.shape;obtain ⟨A2,l2,c2,rfl,-,-,-,-⟩:=hb.shape;clear ha hb;generalize a.neg=n1 at *;generalize a.e=e1 at *;generalize b.neg=n2 at *;generalize b.e=e2 at *;go_enter Tryz.func98,Tryz.ntmps98;go_wp2_with fail;refine (HF.out _ ?k _ ?c0 ?c1 ?c2).mono ?m
 case k=>exact (((Ad _ _).trans (Ad _ _)).trans (Ad _ _)).trans (Ad _ _)
 case c0=>exact ⟨_,_,_,rfl,Bn (Bn (Bn (blk_new _ _ _ _) _) _) _⟩
 case c1=>exact ⟨_,_,_,rfl,Bn (Bn (C8 _ _ _ _ _) _) _⟩
 case c2=>exact Bc (Ad _ _) (Af7 _ _ _ _ _)
 case m =>
  rintro e w1 ⟨qk,u,rfl,hd⟩;obtain ⟨A',l',c',rfl,-,hd,g1,g2⟩:=hd.shape;have b0:=(Pb _ _ _ _ _ _ _).kept qk;obtain ⟨_,c0,c1,c2,f0,f1,f2⟩:=b0.facts;have HD:=hid hd;clear hd;simp only [];go_wp2_with fail;exact Hd (Blk.laid b0 _ _ _) rfl rfl rfl ⟨Bj (((((Ad _ _).trans (Ad _ _)).trans (Ad _ _)).trans (Ad _ _)).trans qk) (by omega),_,rfl,(HD.out.dyW b0 (An _) (Ak _ _ _) (Aq _)).dyR g1 g2⟩
end Go.Proofs.YtmgaloopddiekaaGreatDoor
