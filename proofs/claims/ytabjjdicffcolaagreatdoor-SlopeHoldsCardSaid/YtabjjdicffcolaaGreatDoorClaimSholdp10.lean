/- Words and contracts, part 10. -/
import Derived.Test.YtabjjdicffcolaaGreatDoorClaimSholdp09
import Derived.KernelRfl
set_option maxRecDepth 100000
set_option maxHeartbeats 0
namespace Go.Proofs.YtabjjdicffcolaaGreatDoor
open Go.Lib (hid)
open Go.RowKit
variable {α:Type} {a x y:Dy} {e:Ending} {xs:List Nat} {b b2 c c2 j l l2 m n:Nat} {A A' A2:Option Addr} {r:Raw} {T:TypeId} {s va vb x' x0 x1 x2 y' z z':Value} {W w w' w1:World}
section
variable {P:Program} {ops:Array Oper} {Q:Exit→Act→World→Prop} {md:Region.Mode}
def VL (l:List (Value→World→Prop)):Nat→Value→World→Prop:=fun i v w=>(l.getD i (fun _ _=>True)) v w
def Ke (p:Value→World→Prop):Prop:=∀ v w w',Kept w w'→p v w→p v w'
def Jm:List (Value→World→Prop)→Prop
 | []=>True
 | p::l=>Ke p∧Jm l
theorem Io:∀ (l:List (Value→World→Prop)),Jm l→∀ i v w w',Kept w w'→VL l i v w→VL l i v w'
 | [],_,_,_,_,_,_,_=>trivial
 | _::_,h,0,v,w,w',k,hv=>h.1 v w w' k hv
 | _::l,h,i+1,v,w,w',k,hv=>Io l h.2 i v w w' k hv
def Jc (P:Program) (md:Region.Mode) (ops:Array Oper) (Q:Exit→Act→World→Prop) (m:Nat) (V:Nat→Value→World→Prop) (a0:Act) (W:World):Nat→Nat→List Oper→Prop
 | _,0,_=>True
 | _,_+1,[]=>True
 | i,k+1,o::l=>(∀ a w,Finds md ops m V a0 W i a w→Bf P ops Q V i o a w)∧Jc P md ops Q m V a0 W (i+1) k l
theorem Zk {m:Nat}{V:Nat→Value→World→Prop}{a0:Act}{W:World}:∀ (k i0:Nat) (l:List Oper),Jc P md ops Q m V a0 W i0 k l →
 ∀ i o,i<k→l[i]?=some o→∀ a w,Finds md ops m V a0 W (i0+i) a w→Bf P ops Q V (i0+i) o a w
 | 0,_,_,_,_,_,hi,_=>absurd hi (Nat.not_lt_zero _)
 | k+1,_,[],_,_,_,_,ho=>by simp at ho
 | k + 1, i0, x :: l, h, 0, o, _, ho => by
   simp at ho;subst ho;exact h.1
 | k + 1, i0, x :: l, h, i + 1, o, hi, ho => by
   have:=Zk k (i0+1) l h.2 i o (by omega) (by simpa using ho);have e:i0+1+i=i0+(i+1):=by omega
   rw [e] at this;exact this
theorem K8 {m:Nat}{V:Nat→Value→World→Prop}{a0:Act}{W:World}(h:Jc P md ops Q m V a0 W 0 m ops.toList) :
 ∀ i o,i<m→ops[i]?=some o→∀ a w,Finds md ops m V a0 W i a w→Bf P ops Q V i o a w:=by
 intro i o hi ho;have:=Zk m 0 ops.toList h i o hi (by simpa using ho);simpa using this
theorem Ar {V:Nat→Value→World→Prop}{i:Nat}{o:Oper}{a:Act}{w:World}{v:Value}(hw:Region.wanted o (yielded ops a.tmps)=true)
 (h:(execOp a.eval o).run P w=.ok (.value v) w) (hv:V i v w):Bf P ops Q V i o a w:=by
 unfold Bf;rw [if_pos hw];unfold Oper.wp;rw [h];exact ⟨v,rfl,Below.refl _ _,hv⟩
theorem Aj {o:Oper}{tmps:Array Value}{g t:Nat}{b v:Bool}(hg:o.guard=some (g,b))(hs:Al ops g=some t)(hv:tmps.getD t undef=.bool v):Region.wanted o (yielded ops tmps)=(v==b):=by
 have h1:tmps[t]?=some (.bool v):=by
  rw [Array.getD_eq_getD_getElem?] at hv;cases h:tmps[t]? with
  | none=>rw [h] at hv;cases hv
  | some x=>rw [h] at hv;simp at hv;rw [hv]
 unfold Al at hs;simp only [Region.wanted,hg,yielded,hs,Option.bind_some,h1];cases v<;>cases b<;>rfl
theorem Zi {V:Nat→Value→World→Prop}{i:Nat}{o:Oper}{a:Act}{w:World}
 (h:Region.wanted o (yielded ops a.tmps)=false) (hv:V i undef w):Bf P ops Q V i o a w:=by
 unfold Bf;rw [if_neg (by rw [h];simp)];exact hv
theorem Pv {V:Nat→Value→World→Prop}{i:Nat}{o:Oper}{a:Act}{w w':World}{v:Value}(hw:Region.wanted o (yielded ops a.tmps)=true)
 (h:(execOp a.eval o).run P w=.ok (.value v) w') (hk:Kept w w') (hv:V i v w'):Bf P ops Q V i o a w:=by
 unfold Bf;rw [if_pos hw];unfold Oper.wp;rw [h];exact ⟨v,rfl,hk,hv⟩
theorem Nu {V:Nat→Value→World→Prop}{i:Nat}{o:Oper}{a:Act}{w:World}{f:FuncId}{args:Array Value}{R:Ending→World→Prop}(hw:Region.wanted o (yielded ops a.tmps)=true)
 (h:(execOp a.eval o).run P w=.ok (.enter f args) w) (hc:Calls P f args w R)
 (hr:∀ e w',R e w'→(∃ v,e=.returned v∧Kept w w'∧V i v w')∨(∃ c,e=.panicked c∧Q (.panic c) a w')):Bf P ops Q V i o a w:=by
 unfold Bf;rw [if_pos hw];unfold Oper.wp;rw [h];refine Calls.mono hc (fun e w' he=>?_);rcases hr e w' he with ⟨v,rfl,hk,hv⟩ | ⟨c,rfl,hq⟩
 ·exact ⟨v,rfl,hk,hv⟩
 ·exact hq
end
theorem Ai {cs:Array Value}(h:W.heap[b]?=some (.cells cs T (0,0)))(k:Kept W w)(i:Nat)(v:Value)(hi:cs[i]?=some v):w.cell? ⟨b,i,none⟩=some v :=
 Ae ((k.block b (Array.getElem?_eq_some_iff.1 h).1).trans h) i v hi
def Fk (p:Value→World→Prop) (w:World) (e:Ending) (w':World):Prop:=∃ v,e=.returned v∧Kept w w'∧p v w'
theorem RetQ.good {v:Value}(h:RetQ v w e w'):Fk (fun u _=>u=v) w e w':=by
 obtain ⟨he,n,rfl⟩:=h;exact ⟨v,he,Kept.drewN (Below.refl _ _) n,rfl⟩
theorem RetK.good {v:Value}(h:RetK v w e w'):Fk (fun u _=>u=v) w e w':=⟨v,h.1,h.2,rfl⟩
theorem RetLim.good (h:RetLim xs w e w'):Fk (fun u w=>Lim w u xs) w e w':=by
 obtain ⟨v,he,hl,k⟩:=h;exact ⟨v,he,k,hl⟩
theorem RetD.good (h:RetD r w e w'):Fk (fun u w=>DyR w u r) w e w':=by
 obtain ⟨k,v,he,hl⟩:=h;exact ⟨v,he,k,hl⟩
theorem RetE.good {o:Outc Raw}(h:RetE o w e w'):Fk (fun u w=>∃ d,u=.tuple #[d,.int .i64 o.k]∧DyR w d o.v) w e w':=by
 obtain ⟨k,v,he,hl⟩:=h;exact ⟨_,he,k,v,rfl,hl⟩
theorem RetQR.good (h:RetQR n m w e w'):Fk (fun u w=>∃ q r,u=.tuple #[q,r]∧Lim w q (limbs (n/m))∧Lim w r (limbs (n%m))) w e w':=by
 obtain ⟨q,r,he,h1,h2,k⟩:=h;exact ⟨_,he,k,q,r,rfl,h1,h2⟩
section
variable {P:Program} {ops:Array Oper} {Q:Exit→Act→World→Prop}
theorem Av {V:Nat→Value→World→Prop}{i:Nat}{o:Oper}{a:Act}{w:World}{f:FuncId}{args:Array Value}{R:Ending→World→Prop}{p:Value→World→Prop}(hw:Region.wanted o (yielded ops a.tmps)=true)
 (h:(execOp a.eval o).run P w=.ok (.enter f args) w) (hc:Calls P f args w R)
 (hr:∀ e w',R e w'→Fk p w e w') (hp:∀ v w',p v w'→V i v w'):Bf P ops Q V i o a w :=
 Nu hw h hc fun e w' he=>by
  obtain ⟨v,he,k,hv⟩:=hr e w' he;exact .inl ⟨v,he,k,hp v w' hv⟩
theorem Aei {V:Nat→Value→World→Prop}{i:Nat}{o:Oper}{a:Act}{w:World}{f:FuncId}{args:Array Value}{T:TypeId}{t:Outc Raw}(hw:Region.wanted o (yielded ops a.tmps)=true)
 (h:(execOp a.eval o).run P w=.ok (.enter f args) w) (hc:Calls P f args w (Goes T t w))
 (hp:∀ v w',Kept w w'→t.k=0→DyR w' v t.v→V i v w') (hq:∀ w',Kept w w'→t.k≠0→Q (.panic (Dc T t.k)) a w'):Bf P ops Q V i o a w :=
 Nu hw h hc fun e w' he=>by
  obtain ⟨k,⟨h0,v,he,hd⟩ | ⟨h0,he⟩⟩:=he
  ·exact .inl ⟨v,he,k,hp v w' k h0 hd⟩
  ·exact .inr ⟨_,he,hq w' k h0⟩
end
theorem zlA (xs:List α)(i:Nat)(a:α):xs.toArray.setIfInBounds i a=(xs.set i a).toArray:=List.setIfInBounds_toArray ..
theorem zlB (a b:α)(l:List α):(a::l).set 0 b=b::l:=List.set_cons_zero ..
theorem zlC (a b:α)(l:List α)(n:Nat):(a::l).set (n+1) b=a::l.set n b:=List.set_cons_succ ..
theorem zlD (xs:List α)(i:Nat):xs.toArray[i]?=xs[i]?:=List.getElem?_toArray ..
theorem zlE (a:α)(l:List α):(a::l)[0]?=some a:=List.getElem?_cons_zero ..
theorem zlF (a:α)(l:List α)(i:Nat):(a::l)[i+1]?=l[i]?:=List.getElem?_cons_succ ..
theorem zlG {β:Type}(f:α→Option β)(a:α):(some a).bind f=f a:=Option.bind_some ..
def vE (x:Value):Value→World→Prop:=fun v _=>v=x
abbrev vP (b o:Nat):Value→World→Prop:=vE (.pointer (some ⟨b,o,none⟩))
theorem mE {x:Value}:Ke (vE x):=fun _ _ _ _ h=>h
theorem mD :Ke (fun v w=>DyR w v r):=fun _ _ _ k h=>h.kept k
theorem mL {r:List Nat}:Ke (fun v w=>Lim w v r):=fun _ _ _ k h=>h.kept k
theorem F5 {p:Prop}(h:Nonempty p):p:=h.elim id
instance monoL0:Nonempty (Jm []):=⟨trivial⟩
instance monoL1 {p:Value→World→Prop} {l:List (Value→World→Prop)} [h:Nonempty (Ke p)] [h':Nonempty (Jm l)]:Nonempty (Jm (p::l)):=⟨⟨F5 h,F5 h'⟩⟩
instance iE {x:Value}:Nonempty (Ke (vE x)):=⟨mE⟩
instance iC {c:Value→Prop}:Nonempty (Ke fun v _=>c v):=⟨fun _ _ _ _ h=>h⟩
instance iD {r:Raw}:Nonempty (Ke fun v w=>DyR w v r):=⟨mD⟩
instance iL {r:List Nat}:Nonempty (Ke fun v w=>Lim w v r):=⟨mL⟩
instance iA {c:Prop} {p:Value→World→Prop} [h:Nonempty (Ke p)]:Nonempty (Ke fun v w=>c∧p v w):=⟨fun v w w' k q=>⟨q.1,F5 h v w w' k q.2⟩⟩
instance iB {c:Prop} {p:Value→World→Prop} [h:Nonempty (Ke p)]:Nonempty (Ke fun v w=>p v w∧c):=⟨fun v w w' k q=>⟨F5 h v w w' k q.1,q.2⟩⟩
instance iX {f:Value→Value} {p:Value→World→Prop} [h:Nonempty (Ke p)]:Nonempty (Ke fun v w=>∃ d,v=f d∧p d w):=⟨fun _ w w' k q=>by obtain ⟨d,e,q⟩:=q;exact ⟨d,e,F5 h d w w' k q⟩⟩
instance iN {S:Nat} {x y z:Value}:Nonempty (Ke fun v w=>∃ b,v=.pointer (some ⟨b,0,none⟩)∧S≤b∧Blk w b x y z):=⟨fun _ _ _ k q=>by obtain ⟨b,e,q1,q2⟩:=q;exact ⟨b,e,q1,q2.kept k⟩⟩
theorem c6 {x3 x4 x5:Value}(h:W.heap[b]?=some (.cells #[x0,x1,x2,x3,x4,x5] T (0,0)))(k:Kept W w) :
 w.cell? ⟨b,0,none⟩=some x0∧w.cell? ⟨b,1,none⟩=some x1∧w.cell? ⟨b,2,none⟩=some x2∧w.cell? ⟨b,3,none⟩=some x3∧w.cell? ⟨b,4,none⟩=some x4∧w.cell? ⟨b,5,none⟩=some x5 :=
 ⟨Ai h k 0 _ rfl,Ai h k 1 _ rfl,Ai h k 2 _ rfl,Ai h k 3 _ rfl,Ai h k 4 _ rfl,Ai h k 5 _ rfl⟩
theorem c3 (h:W.heap[b]?=some (.cells #[x0,x1,x2] T (0,0)))(k:Kept W w) :
 w.cell? ⟨b,0,none⟩=some x0∧w.cell? ⟨b,1,none⟩=some x1∧w.cell? ⟨b,2,none⟩=some x2 :=
 ⟨Ai h k 0 _ rfl,Ai h k 1 _ rfl,Ai h k 2 _ rfl⟩
section
variable {P:Program} {ops:Array Oper} {Q:Exit→Act→World→Prop} {id:Nat} {o o':Oper} {a0:Act} {W:World}
theorem rgL (m:Nat)(l:List (Value→World→Prop))(hs:Jc P .any ops Q m (VL l) a0 W 0 m ops.toList)(he:∀ u w,Kept W w→(∀ i,i<m→VL l i (u i) w)→Q .normal (Ax ops (fun _=>true) u m a0) w)(hM:Nonempty (Jm l):=by infer_instance)
 (hm:P.follows .mixedOrders=true:=by kernel_rfl) (hz:m=ops.size:=by exact rfl) (ha:Bs ops m=true:=by kernel_rfl) (hi:Cw ops m a0.tmps.size=true:=by kernel_rfl) (hb:Dr .any ops=true:=by kernel_rfl):(Code.region id ops true).wp P Q a0 W :=
 Aa8 hm hz ha hi hb (Io l (F5 hM)) (K8 hs) he
theorem Ny (m:Nat)(l:List (Value→World→Prop))(hs:Jc P .any ops Q m (VL l) a0 W 0 m ops.toList)(he:∀ u w,Kept W w→(∀ i,i<m→VL l i (u i) w)→o.wp P (Ax ops (fun _=>true) u m a0) w (Q .normal) Q)(hM:Nonempty (Jm l):=by infer_instance)
 (hm:P.follows .mixedOrders=true:=by kernel_rfl) (hz:m+1=ops.size:=by exact rfl) (ho:ops[m]?=some o:=by exact rfl) (hg:o.guard=none:=by exact rfl) (ha:Bs ops m=true:=by kernel_rfl) (hi:Cw ops m a0.tmps.size=true:=by kernel_rfl)
 (ht:Ja .any ops m=true:=by kernel_rfl) (hb:Dr .any ops=true:=by kernel_rfl):(Code.region id ops true).wp P Q a0 W :=
 Yw hm hz ho hg ha hi ht hb (Io l (F5 hM)) (K8 hs) he
theorem Ub (m:Nat)(l:List (Value→World→Prop))(hs:Jc P .any ops Q m (VL l) a0 W 0 m ops.toList)(he:∀ u w,Kept W w→(∀ i,i<m→VL l i (u i) w)→o.wp P (Ax ops (fun _=>true) u m a0) w (fun a w=>o'.wp P a w (Q .normal) Q) Q ∧
 (Bi .any ops (m+1) m=true∨o'.wp P (Ax ops (fun _=>true) u m a0) w (fun a w=>o.wp P a w (Q .normal) Q) Q)) (hM:Nonempty (Jm l):=by infer_instance)
 (hm:P.follows .mixedOrders=true:=by kernel_rfl) (hz:m+2=ops.size:=by exact rfl) (ho:ops[m]?=some o:=by exact rfl) (hg:o.guard=none:=by exact rfl) (ho':ops[m+1]?=some o':=by exact rfl) (hg':o'.guard=none:=by exact rfl) (ha:Bs ops m=true:=by kernel_rfl)
 (hi:Cw ops m a0.tmps.size=true:=by kernel_rfl) (ht:Ja .any ops m=true:=by kernel_rfl) (hb:Dr .any ops=true:=by kernel_rfl):(Code.region id ops true).wp P Q a0 W :=
 Yx hm hz ho hg ho' hg' ha hi ht hb (Io l (F5 hM)) (K8 hs) he
end
section
variable {P:Program} {ops:Array Oper} {Q:Exit→Act→World→Prop} {md:Region.Mode} {m i:Nat} {l:List (Value→World→Prop)} {a0 a:Act} {W w:World}
theorem Finds.v (F:Finds md ops m (VL l) a0 W i a w)(j t:Nat){x:Value}(h:l.getD j (fun _ _=>True)=vE x:=by exact rfl)(h1:Bi md ops i j=true:=by kernel_rfl)(h2:Al ops j=some t:=by exact rfl):a.tmps.getD t undef=x:=by
 have h3:=F.done j t h1 h2;unfold VL at h3;rw [h] at h3;exact h3
theorem Finds.p (F:Finds md ops m (VL l) a0 W i a w)(j t:Nat){p:Value→World→Prop}(h:l.getD j (fun _ _=>True)=p:=by exact rfl)(h1:Bi md ops i j=true:=by kernel_rfl)(h2:Al ops j=some t:=by exact rfl):p (a.tmps.getD t undef) w:=by
 have h3:=F.done j t h1 h2;unfold VL at h3;rw [h] at h3;exact h3
theorem Finds.q {V:Nat→Value→World→Prop}(F:Finds md ops m V a0 W i a w)(t:Nat)(x:Value)(h:Eu md ops m i t=true:=by kernel_rfl)(e:a0.tmps.getD t undef=x:=by exact rfl):a.tmps.getD t undef=x:=(F.old t h).trans e
theorem Finds.o {V:Nat→Value→World→Prop}(F:Finds md ops m V a0 W i a w)(t:Nat)(h:Eu md ops m i t=true:=by kernel_rfl):a.tmps.getD t undef=a0.tmps.getD t undef:=F.old t h
theorem hv {u:Nat→Value}(hu:∀ i,i<m→VL l i (u i) w)(i:Nat){x:Value}(h:l.getD i (fun _ _=>True)=vE x:=by exact rfl)(h2:i<m:=by decide):u i=x:=by
 have h3:=hu i h2;unfold VL at h3;rw [h] at h3;exact h3
theorem hp {u:Nat→Value}(hu:∀ i,i<m→VL l i (u i) w)(i:Nat){p:Value→World→Prop}(h:l.getD i (fun _ _=>True)=p:=by exact rfl)(h2:i<m:=by decide):p (u i) w:=by
 have h3:=hu i h2;unfold VL at h3;rw [h] at h3;exact h3
variable {V:Nat→Value→World→Prop} {o:Oper} {v:Value} {f:FuncId} {args:Array Value}
theorem sv (hv:V i v w)(hw:Region.wanted o (yielded ops a.tmps)=true:=by simp [Region.wanted])(h:(execOp a.eval o).run P w=.ok (.value v) w:=by go_simp):Bf P ops Q V i o a w:=Ar hw h hv
theorem sw (h:(execOp a.eval o).run P w=.ok (.value v) w)(hv:V i v w)(hw:Region.wanted o (yielded ops a.tmps)=true:=by simp [Region.wanted]):Bf P ops Q V i o a w:=Ar hw h hv
theorem sx (hv:V i v w)(hw:Region.wanted o (yielded ops a.tmps)=true:=by simp [Region.wanted])(h:(execOp a.eval o).run P w=.ok (.value v) w:=by exact rfl):Bf P ops Q V i o a w:=Ar hw h hv
theorem sNa {x:Obj}{v:Value}(hv:V i v (w.alloc x))(hw:Region.wanted o (yielded ops a.tmps)=true:=by simp [Region.wanted])(h:(execOp a.eval o).run P w=.ok (.value v) (w.alloc x):=by first | (go_simp;done) | (go_simp;rfl)):Bf P ops Q V i o a w:=Pv hw h (Ad _ _) hv
theorem sN {x:Obj}{v:Value}(hv:V i v (w.alloc x))(hw:Region.wanted o (yielded ops a.tmps)=true:=by simp [Region.wanted])(h:(execOp a.eval o).run P w=.ok (.value v) (w.alloc x):=by go_simp):Bf P ops Q V i o a w:=Pv hw h (Ad _ _) hv
theorem sQ {x:Value}(hc:Calls P f args w (RetQ x w))(hp:∀ v w',v=x→V i v w')(hw:Region.wanted o (yielded ops a.tmps)=true:=by simp [Region.wanted])(h:(execOp a.eval o).run P w=.ok (.enter f args) w:=by go_simp):Bf P ops Q V i o a w :=
 Av hw h hc (fun _ _ h=>RetQ.good h) hp
theorem sK {x:Value}(hc:Calls P f args w (RetK x w))(hp:∀ v w',v=x→V i v w')(hw:Region.wanted o (yielded ops a.tmps)=true:=by simp [Region.wanted])(h:(execOp a.eval o).run P w=.ok (.enter f args) w:=by go_simp):Bf P ops Q V i o a w :=
 Av hw h hc (fun _ _ h=>RetK.good h) hp
theorem sL {x:List Nat}(hc:Calls P f args w (RetLim x w))(hp:∀ v w',Lim w' v x→V i v w')(hw:Region.wanted o (yielded ops a.tmps)=true:=by simp [Region.wanted])(h:(execOp a.eval o).run P w=.ok (.enter f args) w:=by go_simp):Bf P ops Q V i o a w :=
 Av hw h hc (fun _ _ h=>RetLim.good h) hp
theorem sD {x:Raw}(hc:Calls P f args w (RetD x w))(hp:∀ v w',DyR w' v x→V i v w')(hw:Region.wanted o (yielded ops a.tmps)=true:=by simp [Region.wanted])(h:(execOp a.eval o).run P w=.ok (.enter f args) w:=by go_simp):Bf P ops Q V i o a w :=
 Av hw h hc (fun _ _ h=>RetD.good h) hp
theorem sE {x:Outc Raw}(hc:Calls P f args w (RetE x w))(hp:∀ v w',(∃ d,v=.tuple #[d,.int .i64 x.k]∧DyR w' d x.v)→V i v w')(hw:Region.wanted o (yielded ops a.tmps)=true:=by simp [Region.wanted])(h:(execOp a.eval o).run P w=.ok (.enter f args) w:=by go_simp):Bf P ops Q V i o a w :=
 Av hw h hc (fun _ _ h=>RetE.good h) hp
theorem sG {T:TypeId}{t:Outc Raw}(hc:Calls P f args w (Goes T t w))(hp:∀ v w',Kept w w'→t.k=0→DyR w' v t.v→V i v w')(hq:∀ w',Kept w w'→t.k≠0→Q (.panic (Dc T t.k)) a w')(hw:Region.wanted o (yielded ops a.tmps)=true:=by simp [Region.wanted])(h:(execOp a.eval o).run P w=.ok (.enter f args) w:=by go_simp):Bf P ops Q V i o a w :=
 Aei hw h hc hp hq
theorem gv (j t:Nat){x:Value}{y:Value}(h:l.getD j (fun _ _=>True)=vE x:=by exact rfl)(h1:Bi md ops i j=true:=by kernel_rfl)(h2:Al ops j=some t:=by exact rfl)(hy:l.getD i (fun _ _=>True)=vE y:=by exact rfl)(hg:o.guard=none:=by exact rfl)(hx:∀ (a:Act) (w:World),a.tmps.getD t undef=x→(execOp a.eval o).run P w=.ok (.value y) w:=by intro aF wF s;go_simp):∀ a w,Finds md ops m (VL l) a0 W i a w→Bf P ops Q (VL l) i o a w:=fun a w F=>Ar (by simp [Region.wanted,hg]) (hx a w (F.v j t h h1 h2)) (by unfold VL;rw [hy];rfl)
theorem gq (t:Nat){x:Value}{y:Value}(h:Eu md ops m i t=true:=by kernel_rfl)(h1:a0.tmps.getD t undef=x:=by exact rfl)(hy:l.getD i (fun _ _=>True)=vE y:=by exact rfl)(hg:o.guard=none:=by exact rfl)(hx:∀ (a:Act) (w:World),a.tmps.getD t undef=x→(execOp a.eval o).run P w=.ok (.value y) w:=by intro aF wF s;go_simp):∀ a w,Finds md ops m (VL l) a0 W i a w→Bf P ops Q (VL l) i o a w:=fun a w F=>Ar (by simp [Region.wanted,hg]) (hx a w ((F.old t h).trans h1)) (by unfold VL;rw [hy];rfl)
theorem gm (j t:Nat){p:Value→World→Prop}(h:l.getD j (fun _ _=>True)=p:=by exact rfl)(hy:l.getD i (fun _ _=>True)=p:=by exact rfl)(h1:Bi md ops i j=true:=by kernel_rfl)(h2:Al ops j=some t:=by exact rfl)(hg:o.guard=none:=by exact rfl)(hx:∀ (a:Act) (w:World),(execOp a.eval o).run P w=.ok (.value (a.tmps.getD t undef)) w:=by intro _ _;exact rfl):∀ a w,Finds md ops m (VL l) a0 W i a w→Bf P ops Q (VL l) i o a w:=fun a w F=>Ar (by simp [Region.wanted,hg]) (hx a w) (by unfold VL;rw [hy];exact F.p j t h h1 h2)
theorem gvv (j t j' t':Nat){x x':Value}{y:Value}(h:l.getD j (fun _ _=>True)=vE x:=by exact rfl)(h1:Bi md ops i j=true:=by kernel_rfl)(h2:Al ops j=some t:=by exact rfl)(h':l.getD j' (fun _ _=>True)=vE x':=by exact rfl)(h'1:Bi md ops i j'=true:=by kernel_rfl)(h'2:Al ops j'=some t':=by exact rfl)(hy:l.getD i (fun _ _=>True)=vE y:=by exact rfl)(hg:o.guard=none:=by exact rfl)(hx:∀ (a:Act) (w:World),a.tmps.getD t undef=x→a.tmps.getD t' undef=x'→(execOp a.eval o).run P w=.ok (.value y) w:=by intro aF wF s s';go_simp):∀ a w,Finds md ops m (VL l) a0 W i a w→Bf P ops Q (VL l) i o a w:=fun a w F=>Ar (by simp [Region.wanted,hg]) (hx a w (F.v j t h h1 h2) (F.v j' t' h' h'1 h'2)) (by unfold VL;rw [hy];rfl)
theorem gvl (j t:Nat){x:Value}{p:World→Prop}{y:Value}(c:∀ w,Kept W w→p w)(h:l.getD j (fun _ _=>True)=vE x:=by exact rfl)(h1:Bi md ops i j=true:=by kernel_rfl)(h2:Al ops j=some t:=by exact rfl)(hy:l.getD i (fun _ _=>True)=vE y:=by exact rfl)(hg:o.guard=none:=by exact rfl)(hx:∀ (a:Act) (w:World),a.tmps.getD t undef=x→p w→(execOp a.eval o).run P w=.ok (.value y) w:=by intro aF wF s c;go_simp):∀ a w,Finds md ops m (VL l) a0 W i a w→Bf P ops Q (VL l) i o a w:=fun a w F=>Ar (by simp [Region.wanted,hg]) (hx a w (F.v j t h h1 h2) (c w F.kept)) (by unfold VL;rw [hy];rfl)
theorem gql (t:Nat){x:Value}{p:World→Prop}{y:Value}(c:∀ w,Kept W w→p w)(h:Eu md ops m i t=true:=by kernel_rfl)(h1:a0.tmps.getD t undef=x:=by exact rfl)(hy:l.getD i (fun _ _=>True)=vE y:=by exact rfl)(hg:o.guard=none:=by exact rfl)(hx:∀ (a:Act) (w:World),a.tmps.getD t undef=x→p w→(execOp a.eval o).run P w=.ok (.value y) w:=by intro aF wF s c;go_simp):∀ a w,Finds md ops m (VL l) a0 W i a w→Bf P ops Q (VL l) i o a w:=fun a w F=>Ar (by simp [Region.wanted,hg]) (hx a w ((F.old t h).trans h1) (c w F.kept)) (by unfold VL;rw [hy];rfl)
theorem so (j t:Nat){b v:Bool}(hs:Al ops j=some t:=by exact rfl)(hv:l.getD j (fun _ _=>True)=vE (.bool v):=by exact rfl)(hl:l.getD i (fun _ _=>True)=vE undef:=by exact rfl)(hg:o.guard=some (j,b):=by exact rfl)(hb:(v==b)=false:=by exact rfl)
 (h1:Bi md ops i j=true:=by kernel_rfl):∀ a w,Finds md ops m (VL l) a0 W i a w→Bf P ops Q (VL l) i o a w:=fun _ _ F =>
 Zi ((Aj hg hs (F.v j t hv h1 hs)).trans hb) (by unfold VL;rw [hl];rfl)
end
structure Box3 (W:World) (n:Nat) (x y z x' y' z':Value):Prop where
 b0:Blk W n x y z
 b1:Blk W (n+1) x' y' z'
 b2:Blk W (n+1+1) (.bool false) (.slice none 0 0) (.int .i64 0)
theorem Box3.kept {x y:Value}(h:Box3 W n x y z x' y' z')(k:Kept W w):Box3 w n x y z x' y' z' :=
 ⟨h.b0.kept k,h.b1.kept k,h.b2.kept k⟩
theorem Dd (n k:Nat)(h:bl n≤64*k):(limbs n).length≤k:=by
 refine Cv _ _ ?_;have h1:=Ba n;have h2:2^bl n≤2^(64*k):=Nat.pow_le_pow_right (by decide) h;have h3:(18446744073709551616:Nat)^k=2^(64*k):=by rw [Nat.pow_mul]
 omega
theorem Cq (n k:Nat)(h:(limbs n).length≤k):bl n≤64*k:=by
 refine Fl _ _ ?_;have h1:=Ce n;have h2:(18446744073709551616:Nat)^(limbs n).length≤18446744073709551616^k:=Nat.pow_le_pow_right (by decide) h;have h3:(18446744073709551616:Nat)^k=2^(64*k):=by rw [Nat.pow_mul]
 omega
theorem Ae2 (n m k:Nat)(hn:bl n≤k)(hm:bl m≤k):bl (n+m)≤k+1:=by
 refine Fl _ _ ?_;have h1:=Ba n;have h2:=Ba m;have h3:2^bl n≤2^k:=Nat.pow_le_pow_right (by decide) hn;have h4:2^bl m≤2^k:=Nat.pow_le_pow_right (by decide) hm;rw [Nat.pow_succ];omega
structure SumIn (w W:World) (n:Nat) (A A2:Option Addr) (l c l2 c2:Nat) (a b:Dy):Prop where
 box:Box3 W n (.bool a.neg) (.slice A l c) (.int .i64 a.e) (.bool b.neg) (.slice A2 l2 c2) (.int .i64 b.e)
 la:Lim W (.slice A l c) (limbs a.m)
 lb:Lim W (.slice A2 l2 c2) (limbs b.m)
 kept:Kept w W
 base:w.heap.size≤n
 tab:Tab w
 oka:a.Ok
 okb:b.Ok
 ma:a.m≠0
 ge:b.e≤a.e
theorem SumIn.size {b:Dy}(h:SumIn w W n A A2 l c l2 c2 a b)(k:Kept W w') :
 Calls Tryz.prog 112 #[.slice A l c] w' (RetQ (.int .i64 (bl a.m)) w'):=L7 (h.la.kept k) (by have:=h.oka.len;omega)
theorem SumIn.blX {b:Dy}(h:SumIn w W n A A2 l c l2 c2 a b)(hj:j≤4097):bl (a.m*2^j)≤8193:=by
 rw [Fq _ _ h.ma];have:=Cq a.m 64 h.oka.len;omega
theorem SumIn.left {b:Dy}(h:SumIn w W n A A2 l c l2 c2 a b)(k:Kept W w')(hj:j≤4097) :
 Calls Tryz.prog 114 #[.slice A l c,.int .i64 j] w' (RetLim (limbs (a.m*2^j)) w'):=Mq (h.la.kept k) j (by have:=h.oka.len;omega) (by omega)
theorem SumIn.plus {b:Dy}(h:SumIn w W n A A2 l c l2 c2 a b)(k:Kept W w')(hj:j≤4097){v:Value}(hv:Lim w' v (limbs (a.m*2^j))) :
 Calls Tryz.prog 194 #[v,.slice A2 l2 c2] w' (RetLim (limbs (a.m*2^j+b.m)) w'):=by
 have h1:=Dd _ 129 (by have:=h.blX hj;omega:bl (a.m*2^j)≤64*129);have h2:=h.okb.len;exact Aa4 hv (h.lb.kept k) (by omega) (by omega)
theorem SumIn.fits {b:Dy}(h:SumIn w W n A A2 l c l2 c2 a b)(k:Kept W w')(hm:bl m≤8194){v:Value}(hv:Lim w' v (limbs m))(s:Bool) :
 Calls Tryz.prog 80 #[.bool s,v,.int .i64 b.e] w' (Goes 129 (Bu s m b.e).raw w'):=by
 have h1:=Dd m 129 (by omega);have h2:=h.okb.lo;have h3:=h.okb.hi;exact Ab9 hv (by omega) (by omega) (by omega) (h.tab.kept (h.kept.trans k))
theorem SumIn.blSum {b:Dy}(h:SumIn w W n A A2 l c l2 c2 a b)(hj:j≤4097):bl (a.m*2^j+b.m)≤8194 :=
 Ae2 _ _ 8193 (h.blX hj) (by have:=Cq b.m 64 h.okb.len;omega)
theorem SumIn.order {b:Dy}(h:SumIn w W n A A2 l c l2 c2 a b)(k:Kept W w')(hj:j≤4097){v:Value}(hv:Lim w' v (limbs (a.m*2^j))) :
 Calls Tryz.prog 113 #[v,.slice A2 l2 c2] w' (RetQ (.int .i64 (Du (a.m*2^j) b.m)) w'):=by
 have h1:=Dd _ 129 (by have:=h.blX hj;omega:bl (a.m*2^j)≤64*129);have h2:=h.okb.len;exact L3 hv (h.lb.kept k) (by omega) (by omega)
theorem SumIn.minus {b:Dy}(h:SumIn w W n A A2 l c l2 c2 a b)(k:Kept W w')(hj:j≤4097){v:Value}(hv:Lim w' v (limbs (a.m*2^j)))(hle:b.m≤a.m*2^j) :
 Calls Tryz.prog 199 #[v,.slice A2 l2 c2] w' (RetLim (limbs (a.m*2^j-b.m)) w'):=by
 have h1:=Dd _ 129 (by have:=h.blX hj;omega:bl (a.m*2^j)≤64*129);exact Acd hv (h.lb.kept k) (by omega) hle
theorem SumIn.minus' {b:Dy}(h:SumIn w W n A A2 l c l2 c2 a b)(k:Kept W w'){v:Value}(hv:Lim w' v (limbs (a.m*2^j)))(hle:a.m*2^j≤b.m) :
 Calls Tryz.prog 199 #[.slice A2 l2 c2,v] w' (RetLim (limbs (b.m-a.m*2^j)) w') :=
 Acd (h.lb.kept k) hv (by have:=h.okb.len;omega) hle
theorem Adx (k:Int)(w:World):Calls Tryz.prog 118 #[.bool true,.int .i64 k] w (RetK (.tuple #[]) w):=(Hv true k w).mono fun _ _ ⟨he,hw⟩=>⟨he,hw▸Below.refl _ _⟩
theorem Ajd (b:Bool)(k:Int)(w:World):Calls Tryz.prog 118 #[.bool b,.int .i64 k] w fun e w'=>(∃ v,e=.returned v∧Kept w w'∧(b=true∧v=.tuple #[]))∨(∃ c,e=.panicked c∧(b=false∧c=Dc 129 k∧w=w')) :=
 (Hv b k w).mono fun e w' ⟨he,hw⟩=>by
   subst hw;cases b
   ·exact .inr ⟨_,he,rfl,rfl,rfl⟩
   ·exact .inl ⟨_,he,Below.refl _ _,rfl,rfl⟩
theorem SumIn.close {b:Dy}(h:SumIn w W n A A2 l c l2 c2 a b)(k:Kept W w1){o:Outc Dy}{l' c':Nat}(h0:o.raw.k=0)
 (hd:Lim w1 (.slice A' l' c') o.raw.v.m) (g1:-9223372036854775808≤o.raw.v.e) (g2:o.raw.v.e≤9223372036854775807) :
 Goes 129 o.raw w (.returned (.agg #[.bool o.raw.v.neg,.slice A' l' c',.int .i64 o.raw.v.e])) (dyW w1 (n+1+1) (.bool o.raw.v.neg) (.slice A' l' c') (.int .i64 o.raw.v.e)) :=
 ⟨An (h.kept.trans k) (by have:=h.base;omega),.inl ⟨h0,_,rfl,(hd.dyW (h.box.b2.kept k) (Ah _) (Ag _ _ _) (Af _)).dyR g1 g2⟩⟩
theorem Ec {v:Value}{o:Outc Dy}(h:DyR w v o.raw.v):∃ A l c,v=.agg #[.bool o.raw.v.neg,.slice A l c,.int .i64 o.raw.v.e]∧Lim w (.slice A l c) o.raw.v.m∧-9223372036854775808≤o.raw.v.e∧o.raw.v.e≤9223372036854775807:=by
 obtain ⟨A,l,c,rfl,-,h1,h2,h3⟩:=h.shape;exact ⟨A,l,c,rfl,h1,h2,h3⟩
theorem Ahk (ha:DyR w va x.raw)(hb:DyR w vb y.raw)(hx:x.Ok)(hy:y.Ok)(hT:Tab w)(hx0:x.m≠0)(hy0:y.m≠0) :
 Calls Tryz.prog 177 #[va,vb] w (Goes 129 (Dq x y).raw w):=by
 unfold Dq;rw [if_neg hx0,if_neg hy0];obtain ⟨A,l,c,rfl,hl,ha,-,-⟩:=ha.shape;obtain ⟨A2,l2,c2,rfl,hl2,hb,-,-⟩:=hb.shape;have l0:((l:Int)==0)=false:=by have:=Bc x.m hx0;rw [beq_eq_false_iff_ne,hl];simp only [Dy.raw];omega
 have l02:((l2:Int)==0)=false:=by have:=Bc y.m hy0;rw [beq_eq_false_iff_ne,hl2];simp only [Dy.raw];omega
 clear hl hl2;have LA:=hid ha;have LB:=hid hb;have HT:=hid hT;have HX:=hid hx;have HY:=hid hy;have HX0:=hid hx0;have HY0:=hid hy0;clear ha hb hT hx0 hy0;have x1:=hx.lo;have x2:=hx.hi;have y1:=hy.lo;have y2:=hy.hi;clear hx hy;simp only [Dy.raw] at *;obtain ⟨o,ho⟩:∃ o,o=(if x.e<y.e then J7 y x else J7 x y):=⟨_,rfl⟩;rw [←ho];have HO:=hid ho;clear ho;go_enter Tryz.func177,Tryz.ntmps177
 go_upto_if 22 with fail
 go_cut [] (fun wx=>∃ (a b:Dy) (A A2:Option Addr) (l c l2 c2:Nat),SumIn w wx w.heap.size A A2 l c l2 c2 a b∧o=J7 a b)
 case first =>
  go_wp2_with fail
  ·rename_i hlt;obtain ⟨W,hW,kW,B0,B1,B2⟩:=Kf w (.bool y.neg) (.slice A2 l2 c2) (.int .i64 y.e) (.bool x.neg) (.slice A l c) (.int .i64 x.e);have hs:SumIn w W w.heap.size A2 A l2 c2 l c y x:=⟨⟨B0,B1,B2⟩,LB.out.kept kW,LA.out.kept kW,kW,Nat.le_refl _,HT.out,HY.out,HX.out,HY0.out,by omega⟩;have HS:=hid hs;have HW:=hid hW;have HL:=hid hlt;clear hs hW kW B0 B1 B2 hlt
   go_meet
   rw [←HW.out];exact ⟨y,x,_,_,_,_,_,_,HS.out,HO.out.trans (if_pos HL.out)⟩
  ·rename_i hlt;obtain ⟨W,hW,kW,B0,B1,B2⟩:=Kf w (.bool x.neg) (.slice A l c) (.int .i64 x.e) (.bool y.neg) (.slice A2 l2 c2) (.int .i64 y.e);have hs:SumIn w W w.heap.size A A2 l c l2 c2 x y:=⟨⟨B0,B1,B2⟩,LA.out.kept kW,LB.out.kept kW,kW,Nat.le_refl _,HT.out,HX.out,HY.out,HX0.out,by omega⟩;have HS:=hid hs;have HW:=hid hW;have HL:=hid hlt;clear hs hW kW B0 B1 B2 hlt
   go_meet
   rw [←HW.out];exact ⟨x,y,_,_,_,_,_,_,HS.out,HO.out.trans (if_neg (by have:=HL.out;omega))⟩
 clear LA LB HT HX HY HX0 HY0 l0 l02 x1 x2 y1 y2 ha hb;obtain ⟨a,b,A,A2,l,c,l2,c2,hs,ho⟩:=hcut;clear HO;have HO:=hid ho;have HS:=hid hs;clear ho hs;generalize wc=W at *;obtain ⟨j,hj⟩:∃ j:Nat,a.e-b.e=j:=⟨(a.e-b.e).toNat,by have:=HS.out.ge;omega⟩;have HJ:=hid hj;go_upto_region 7 with fail
 go_cut [] (fun wx=>Kept W wx∧j≤4097∧J7 a b=if a.neg=b.neg then Bu a.neg (a.m*2^j+b.m) b.e else if b.m≤a.m*2^j then Bu a.neg (a.m*2^j-b.m) b.e else Bu b.neg (b.m-a.m*2^j) b.e)
 case first =>
  have hjt:(a.e-b.e).toNat=j:=by omega
  have a1:=HS.out.oka.lo;have a2:=HS.out.oka.hi;have b1:=HS.out.okb.lo;have b2:=HS.out.okb.hi;have hbl:=Cq a.m 64 HS.out.oka.len;have hws:IntKind.i64.wrap (a.e-b.e)=(j:Int):=by rw [hj];simp [IntKind.wrap_i64];omega
  have hwt:IntKind.i64.wrap (4097-(bl a.m:Int))=4097-(bl a.m:Int):=by simp [IntKind.wrap_i64];omega
  by_cases he:a.e=b.e
  ·have hj0:j≤4097:=by omega
   have hsc:J7 a b=if a.neg=b.neg then Bu a.neg (a.m*2^j+b.m) b.e else if b.m≤a.m*2^j then Bu a.neg (a.m*2^j-b.m) b.e else Bu b.neg (b.m-a.m*2^j) b.e:=by
    unfold J7;rw [if_neg (fun h=>h.1 he),hjt]
   have he':(a.e==b.e)=true:=by rw [beq_iff_eq];exact he
   have HSC:=hid hsc;have HJ0:=hid hj0;clear hj hjt a1 a2 b1 b2 hbl he hj0 hsc hwt
   refine rgL 18 ([(vP w.heap.size 2),(vE (.int .i64 a.e)),(vP (w.heap.size+1) 2),(vE (.int .i64 b.e)),(vE (.bool true)),(vE (.bool true)),(vE undef),(vE undef),(vE undef),(vE undef),(vE undef),(vE undef),(vE undef),(vE undef),(vE undef),(vE undef),(vE (.bool true)),(vE (.tuple #[]))])
    ⟨
     (gq 2),(gvl 0 25 fun _ k=>Ai HS.out.box.b0 k 2 _ rfl),(gq 3),(gvl 2 27 fun _ k=>Ai HS.out.box.b1 k 2 _ rfl),(gvv 1 26 3 28),(gv 4 29),(so 5 30),(so 5 30),(so 5 30),(so 5 30),(so 5 30),(so 5 30),(so 5 30),(so 5 30),(so 5 30),(so 5 30),(gvv 5 30 15 40),(fun aF wF F=>by have s41:=F.v 16 41;exact sK (Adx 2 _) fun _ _ h=>h),
     trivial⟩ ?_
   intro u w1 k1 hu;simp only [Ax,Al,if_true,Act.put,zlA,zlB,zlC,zlD,zlE,zlF,zlG,hv hu 0,hv hu 1,hv hu 2,hv hu 3,hv hu 4,hv hu 5,hv hu 6,hv hu 7,hv hu 8,hv hu 9,hv hu 10,hv hu 11,hv hu 12,hv hu 13,hv hu 14,hv hu 15,hv hu 16,hv hu 17];clear hu;go_wp2_with fail
   go_meet
   exact ⟨k1,HJ0.out,HSC.out⟩
  ·have he':(a.e==b.e)=false:=by rw [beq_eq_false_iff_ne];exact he
   obtain ⟨bb,hbb⟩:∃ bb,decide ((j:Int)≤4097-(bl a.m:Int))=bb:=⟨_,rfl⟩;have HE:=hid he;have HT:=hid hjt;have HB:=hid hbl;clear he hj hjt hbl a1 a2 b1 b2;have hpan:∀ w2,Kept W w2→bb=false→Goes 129 o.raw w (.panicked (Dc 129 2)) w2:=by
    intro w2 k2 hb;rw [HO.out];have hc:¬a.e=b.e∧4097-(bl a.m:Int)<a.e-b.e:=⟨HE.out,by have:=HJ.out;rw [hb] at hbb;simp at hbb;omega⟩;unfold J7;rw [if_pos hc];exact ⟨HS.out.kept.trans k2,.inr ⟨by decide,rfl⟩⟩
   have HP:=hid hpan;clear hpan
   refine rgL 18 ([(vP w.heap.size 2),(vE (.int .i64 a.e)),(vP (w.heap.size+1) 2),(vE (.int .i64 b.e)),(vE (.bool false)),(vE (.bool false)),(vP w.heap.size 2),(vE (.int .i64 a.e)),(vP (w.heap.size+1) 2),(vE (.int .i64 b.e)),(vE (.int .i64 j)),(vP w.heap.size 1),(vE (.slice A l c)),(vE (.int .i64 (bl a.m))),(vE (.int .i64 (4097-(bl a.m:Int)))),(vE (.bool bb)),(vE (.bool bb)),(fun v _=>bb=true∧v=.tuple #[])])
    ⟨
     (gq 2),(gvl 0 25 fun _ k=>Ai HS.out.box.b0 k 2 _ rfl),(gq 3),(gvl 2 27 fun _ k=>Ai HS.out.box.b1 k 2 _ rfl),(gvv 1 26 3 28),(gv 4 29),(fun aF wF F=>by have s2:=F.q 2 (.pointer (some ⟨w.heap.size,0,none⟩));have sg:=F.v 5 30;exact Ar ((Aj rfl rfl sg).trans rfl) (by go_simp) rfl),(fun aF wF F=>by have s31:=F.v 6 31;have c0:=Ai HS.out.box.b0 F.kept 2 _ rfl;have sg:=F.v 5 30;exact Ar ((Aj rfl rfl sg).trans rfl) (by go_simp) rfl),(fun aF wF F=>by have s3:=F.q 3 (.pointer (some ⟨w.heap.size+1,0,none⟩));have sg:=F.v 5 30;exact Ar ((Aj rfl rfl sg).trans rfl) (by go_simp) rfl),(fun aF wF F=>by have s33:=F.v 8 33;have c0:=Ai HS.out.box.b1 F.kept 2 _ rfl;have sg:=F.v 5 30;exact Ar ((Aj rfl rfl sg).trans rfl) (by go_simp) rfl),(fun aF wF F=>by have s32:=F.v 7 32;have s34:=F.v 9 34;have sg:=F.v 5 30;exact Ar ((Aj rfl rfl sg).trans rfl) (by go_simp) rfl),(fun aF wF F=>by have s2:=F.q 2 (.pointer (some ⟨w.heap.size,0,none⟩));have sg:=F.v 5 30;exact Ar ((Aj rfl rfl sg).trans rfl) (by go_simp) rfl),(fun aF wF F=>by have s36:=F.v 11 36;have c0:=Ai HS.out.box.b0 F.kept 1 _ rfl;have sg:=F.v 5 30;exact Ar ((Aj rfl rfl sg).trans rfl) (by go_simp) rfl),(fun aF wF F=>by have s37:=F.v 12 37;have sg:=F.v 5 30;exact Av ((Aj rfl rfl sg).trans rfl) (by go_simp) (HS.out.size F.kept) (fun _ _ h=>RetQ.good h) (fun _ _ h=>h)),(fun aF wF F=>by have s38:=F.v 13 38;have sg:=F.v 5 30;exact Ar ((Aj rfl rfl sg).trans rfl) (by go_simp) rfl),(fun aF wF F=>by have s35:=F.v 10 35;have s39:=F.v 14 39;have sg:=F.v 5 30;exact Ar ((Aj rfl rfl sg).trans rfl) (by go_simp) rfl),(gvv 5 30 15 40),(fun aF wF F=>by have s41:=F.v 16 41;exact Nu (by simp [Region.wanted]) (by go_simp) (Ajd bb 2 _) (fun e w2 h=>h.imp (fun ⟨v,he,hk,hv⟩=>⟨v,he,hk,hv⟩) (fun ⟨c,he,h0,hc,hw2⟩=>⟨c,he,F.defers,by subst hc;exact HP.out w2 (hw2▸F.kept) h0⟩))),
     trivial⟩ ?_
   intro u w1 k1 hu;have p42:=hp hu 17;simp only [Ax,Al,if_true,Act.put,zlA,zlB,zlC,zlD,zlE,zlF,zlG,hv hu 0,hv hu 1,hv hu 2,hv hu 3,hv hu 4,hv hu 5,hv hu 6,hv hu 7,hv hu 8,hv hu 9,hv hu 10,hv hu 11,hv hu 12,hv hu 13,hv hu 14,hv hu 15,hv hu 16];clear hu;generalize u 17=v42 at *;go_wp2_with fail
   go_meet
   have h1:=p42.1;have h2:=HJ.out;rw [h1] at hbb;simp at hbb;refine ⟨k1,by omega,?_⟩;unfold J7;rw [if_neg (by omega),HT.out]
 obtain ⟨k1,hj0,hsc⟩:=hcut;have HSC:=hid (HO.out.trans hsc);clear HJ;have HJ:=hid hj0;have hws:IntKind.i64.wrap (a.e-b.e)=(j:Int):=by
  have:=HS.out.oka.lo;have:=HS.out.oka.hi;have:=HS.out.okb.lo;have:=HS.out.okb.hi;rw [hj];simp [IntKind.wrap_i64];omega
 clear hj0 hsc hj;generalize wc=w1 at *;go_upto_region 8 with fail;by_cases hn:a.neg=b.neg
 ·have hso:=HSC.out;rw [if_pos hn] at hso;subst hso;have hnb:(a.neg==b.neg)=true:=by simp [hn]
  clear hn;obtain ⟨-,a0,a1,a2,-⟩:=(HS.out.box.b0.kept k1).facts;obtain ⟨-,b0,b1,b2,-⟩:=(HS.out.box.b1.kept k1).facts;have K1:=hid k1;clear k1
  go_wp2_with (first
   | (go_at_call 114;refine (HS.out.left K1.out HJ.out).mono ?_;clear a0 a1 a2 b0 b1 b2;rintro e w2 ⟨X,rfl,hX,q2⟩;have LX:=hid hX;have KX:=hid (K1.out.trans q2);obtain ⟨-,a0,a1,a2,-⟩:=(HS.out.box.b0.kept KX.out).facts;obtain ⟨-,b0,b1,b2,-⟩:=(HS.out.box.b1.kept KX.out).facts;clear hX q2)
   | (go_at_call 113;refine (HS.out.order KX.out HJ.out LX.out).mono ?_;rintro e w2 ⟨rfl,q,rfl⟩;replace LX:=hid (LX.out.drewN q);replace KX:=hid (Kept.drewN KX.out q)))
  clear hnb a0 a1 a2 b0 b1 b2
  refine Ny 9 ([(vP w.heap.size 0),(vE (.bool a.neg)),(vE X),(vP (w.heap.size+1) 1),(vE (.slice A2 l2 c2)),(fun v wv=>Lim wv v (limbs (a.m*2^j+b.m))),(vP (w.heap.size+1) 2),(vE (.int .i64 b.e)),(fun v wv=>((Bu a.neg (a.m*2^j+b.m) b.e).raw).k=0∧DyR wv v ((Bu a.neg (a.m*2^j+b.m) b.e).raw).v)])
   ⟨
    (gq 2),(gvl 0 57 fun _ k=>Ai (HS.out.box.b0.kept KX.out) k 0 _ rfl),(gq 5),(gq 3),(gvl 3 60 fun _ k=>Ai (HS.out.box.b1.kept KX.out) k 1 _ rfl),(fun aF wF F=>by have s59:=F.v 2 59;have s61:=F.v 4 61;exact sL (HS.out.plus (KX.out.trans F.kept) HJ.out (LX.out.kept F.kept)) fun _ _ h=>h),(gq 3),(gvl 6 63 fun _ k=>Ai (HS.out.box.b1.kept KX.out) k 2 _ rfl),(fun aF wF F=>by have s58:=F.v 1 58;have s62:=F.p 5 62;have s64:=F.v 7 64;exact sG (HS.out.fits (KX.out.trans F.kept) (HS.out.blSum HJ.out) s62 a.neg) (fun _ _ _ h0 h=>⟨h0,h⟩) (fun w2 k2 h0=>⟨F.defers,⟨HS.out.kept.trans (KX.out.trans (F.kept.trans k2)),.inr ⟨h0,rfl⟩⟩⟩)),
    trivial⟩ ?_
  intro u w1 k1 hu;have p62:=hp hu 5;have p65:=hp hu 8;simp only [Ax,Al,if_true,Act.put,zlA,zlB,zlC,zlD,zlE,zlF,zlG,hv hu 0,hv hu 1,hv hu 2,hv hu 3,hv hu 4,hv hu 6,hv hu 7];clear hu;generalize u 5=v62,u 8=v65 at *;obtain ⟨h0,hd⟩:=p65;obtain ⟨A',l',c',rfl,hd,g1,g2⟩:=Ec hd;have hr:=HS.out.close (Kept.trans KX.out k1) h0 hd g1 g2;have hb:=HS.out.box.b2.kept (Kept.trans KX.out k1);have HR:=hid hr;have HB:=hid hb;clear hr hd g1 g2 h0;obtain ⟨_,c0,c1,c2,f0,f1,f2⟩:=hb.facts;clear hb;go_simp;go_wp2_with fail;exact Cc (HB.out.laid _ _ _) rfl rfl rfl HR.out
 ·have hso:=HSC.out;rw [if_neg hn] at hso;have hnb:(a.neg==b.neg)=false:=by simp [hn]
  clear hn;by_cases hle:b.m≤a.m*2^j
  ·rw [if_pos hle] at hso;subst hso;have hcm:decide (0≤Du (a.m*2^j) b.m)=true:=by unfold Du;rw [if_neg (by omega)];split<;>rfl
   have HL:=hid hle;clear hle;obtain ⟨-,a0,a1,a2,-⟩:=(HS.out.box.b0.kept k1).facts;obtain ⟨-,b0,b1,b2,-⟩:=(HS.out.box.b1.kept k1).facts;have K1:=hid k1;clear k1
   go_wp2_with (first
    | (go_at_call 114;refine (HS.out.left K1.out HJ.out).mono ?_;clear a0 a1 a2 b0 b1 b2;rintro e w2 ⟨X,rfl,hX,q2⟩;have LX:=hid hX;have KX:=hid (K1.out.trans q2);obtain ⟨-,a0,a1,a2,-⟩:=(HS.out.box.b0.kept KX.out).facts;obtain ⟨-,b0,b1,b2,-⟩:=(HS.out.box.b1.kept KX.out).facts;clear hX q2)
    | (go_at_call 113;refine (HS.out.order KX.out HJ.out LX.out).mono ?_;rintro e w2 ⟨rfl,q,rfl⟩;replace LX:=hid (LX.out.drewN q);replace KX:=hid (Kept.drewN KX.out q)))
   clear hnb hcm a0 a1 a2 b0 b1 b2
   refine Ny 9 ([(vP w.heap.size 0),(vE (.bool a.neg)),(vE X),(vP (w.heap.size+1) 1),(vE (.slice A2 l2 c2)),(fun v wv=>Lim wv v (limbs (a.m*2^j-b.m))),(vP (w.heap.size+1) 2),(vE (.int .i64 b.e)),(fun v wv=>((Bu a.neg (a.m*2^j-b.m) b.e).raw).k=0∧DyR wv v ((Bu a.neg (a.m*2^j-b.m) b.e).raw).v)])
    ⟨
     (gq 2),(gvl 0 72 fun _ k=>Ai (HS.out.box.b0.kept KX.out) k 0 _ rfl),(gq 5),(gq 3),(gvl 3 75 fun _ k=>Ai (HS.out.box.b1.kept KX.out) k 1 _ rfl),(fun aF wF F=>by have s74:=F.v 2 74;have s76:=F.v 4 76;exact sL (HS.out.minus (KX.out.trans F.kept) HJ.out (LX.out.kept F.kept) HL.out) fun _ _ h=>h),(gq 3),(gvl 6 78 fun _ k=>Ai (HS.out.box.b1.kept KX.out) k 2 _ rfl),(fun aF wF F=>by have s73:=F.v 1 73;have s77:=F.p 5 77;have s79:=F.v 7 79;exact sG (HS.out.fits (KX.out.trans F.kept) (Nat.le_trans (Gn (Nat.sub_le _ _)) (Nat.le_succ_of_le (HS.out.blX HJ.out))) s77 a.neg) (fun _ _ _ h0 h=>⟨h0,h⟩) (fun w2 k2 h0=>⟨F.defers,⟨HS.out.kept.trans (KX.out.trans (F.kept.trans k2)),.inr ⟨h0,rfl⟩⟩⟩)),
     trivial⟩ ?_
   intro u w1 k1 hu;have p77:=hp hu 5;have p80:=hp hu 8;simp only [Ax,Al,if_true,Act.put,zlA,zlB,zlC,zlD,zlE,zlF,zlG,hv hu 0,hv hu 1,hv hu 2,hv hu 3,hv hu 4,hv hu 6,hv hu 7];clear hu;generalize u 5=v77,u 8=v80 at *;obtain ⟨h0,hd⟩:=p80;obtain ⟨A',l',c',rfl,hd,g1,g2⟩:=Ec hd;have hr:=HS.out.close (Kept.trans KX.out k1) h0 hd g1 g2;have hb:=HS.out.box.b2.kept (Kept.trans KX.out k1);have HR:=hid hr;have HB:=hid hb;clear hr hd g1 g2 h0;obtain ⟨_,c0,c1,c2,f0,f1,f2⟩:=hb.facts;clear hb;go_simp;go_wp2_with fail;exact Cc (HB.out.laid _ _ _) rfl rfl rfl HR.out
  ·rw [if_neg hle] at hso;subst hso;have hcm:decide (0≤Du (a.m*2^j) b.m)=false:=by unfold Du;rw [if_pos (by omega)];rfl
   have HL:=hid (show a.m*2^j≤b.m by omega);clear hle;obtain ⟨-,a0,a1,a2,-⟩:=(HS.out.box.b0.kept k1).facts;obtain ⟨-,b0,b1,b2,-⟩:=(HS.out.box.b1.kept k1).facts;have K1:=hid k1;clear k1
   go_wp2_with (first
    | (go_at_call 114;refine (HS.out.left K1.out HJ.out).mono ?_;clear a0 a1 a2 b0 b1 b2;rintro e w2 ⟨X,rfl,hX,q2⟩;have LX:=hid hX;have KX:=hid (K1.out.trans q2);obtain ⟨-,a0,a1,a2,-⟩:=(HS.out.box.b0.kept KX.out).facts;obtain ⟨-,b0,b1,b2,-⟩:=(HS.out.box.b1.kept KX.out).facts;clear hX q2)
    | (go_at_call 113;refine (HS.out.order KX.out HJ.out LX.out).mono ?_;rintro e w2 ⟨rfl,q,rfl⟩;replace LX:=hid (LX.out.drewN q);replace KX:=hid (Kept.drewN KX.out q)))
   clear hnb hcm a0 a1 a2 b0 b1 b2
   refine Ny 9 ([(vP (w.heap.size+1) 0),(vE (.bool b.neg)),(vP (w.heap.size+1) 1),(vE (.slice A2 l2 c2)),(vE X),(fun v wv=>Lim wv v (limbs (b.m-a.m*2^j))),(vP (w.heap.size+1) 2),(vE (.int .i64 b.e)),(fun v wv=>((Bu b.neg (b.m-a.m*2^j) b.e).raw).k=0∧DyR wv v ((Bu b.neg (b.m-a.m*2^j) b.e).raw).v)])
    ⟨
     (gq 3),(gvl 0 81 fun _ k=>Ai (HS.out.box.b1.kept KX.out) k 0 _ rfl),(gq 3),(gvl 2 83 fun _ k=>Ai (HS.out.box.b1.kept KX.out) k 1 _ rfl),(gq 5),(fun aF wF F=>by have s84:=F.v 3 84;have s85:=F.v 4 85;exact sL (HS.out.minus' (KX.out.trans F.kept) (LX.out.kept F.kept) HL.out) fun _ _ h=>h),(gq 3),(gvl 6 87 fun _ k=>Ai (HS.out.box.b1.kept KX.out) k 2 _ rfl),(fun aF wF F=>by have s82:=F.v 1 82;have s86:=F.p 5 86;have s88:=F.v 7 88;exact sG (HS.out.fits (KX.out.trans F.kept) (Nat.le_trans (Cq b.m 64 HS.out.okb.len |> fun h=>Nat.le_trans (Gn (Nat.sub_le _ _)) h) (by decide)) s86 b.neg) (fun _ _ _ h0 h=>⟨h0,h⟩) (fun w2 k2 h0=>⟨F.defers,⟨HS.out.kept.trans (KX.out.trans (F.kept.trans k2)),.inr ⟨h0,rfl⟩⟩⟩)),
     trivial⟩ ?_
   intro u w1 k1 hu;have p86:=hp hu 5;have p89:=hp hu 8;simp only [Ax,Al,if_true,Act.put,zlA,zlB,zlC,zlD,zlE,zlF,zlG,hv hu 0,hv hu 1,hv hu 2,hv hu 3,hv hu 4,hv hu 6,hv hu 7];clear hu;generalize u 5=v86,u 8=v89 at *;obtain ⟨h0,hd⟩:=p89;obtain ⟨A',l',c',rfl,hd,g1,g2⟩:=Ec hd;have hr:=HS.out.close (Kept.trans KX.out k1) h0 hd g1 g2;have hb:=HS.out.box.b2.kept (Kept.trans KX.out k1);have HR:=hid hr;have HB:=hid hb;clear hr hd g1 g2 h0;obtain ⟨_,c0,c1,c2,f0,f1,f2⟩:=hb.facts;clear hb;go_simp;go_wp2_with fail;exact Cc (HB.out.laid _ _ _) rfl rfl rfl HR.out
theorem Ds (h:x.Ok):x.raw.m.length≤64:=h.len
theorem Akt (ha:DyR w va x.raw)(hb:DyR w vb y.raw)(hx:x.Ok)(hy:y.Ok)(hT:Tab w) :
 Calls Tryz.prog 177 #[va,vb] w (Goes 129 (Dq x y).raw w):=by
 by_cases hx0:x.m=0
 ·unfold Dq;rw [if_pos hx0,show (good y).raw=⟨y.raw,0⟩ from rfl];have hc:=fun w1 (k:Kept w w1)=>R9 (hb.kept k) (by have:=Ds hy;omega)
  obtain ⟨A,l,c,rfl,hl,-,-,-⟩:=ha.shape;obtain ⟨A2,l2,c2,rfl,-,-,g1,g2⟩:=hb.shape;have hl0:l=0:=by rw [hl];simp only [Dy.raw];rw [hx0,Au];rfl
  subst hl0;have HC:=hid hc;clear hc hl ha hb hx hx0 hT hy;generalize hn:x.raw.neg=n1,x.raw.e=e1 at *;clear hn;generalize y.raw=r at *;obtain ⟨W,hW,kW,B0,B1,B2⟩:=Kf w (.bool n1) (.slice A 0 c) (.int .i64 e1) (.bool r.neg) (.slice A2 l2 c2) (.int .i64 r.e);have HW:=hid hW;have HK:=hid kW;have HB:=hid B2;clear hW kW B0 B1 B2;go_enter Tryz.func177,Tryz.ntmps177
  go_wp2_with (go_at_call 181;rw [←HW.out];refine (HC.out _ HK.out).mono ?_;rintro e w1 ⟨q,u,rfl,hd⟩;obtain ⟨A',l',c',rfl,-,hd,g3,g4⟩:=hd.shape;have HD:=hid hd;have hb2:=HB.out.kept q;obtain ⟨_,c0,c1,c2,f0,f1,f2⟩:=hb2.facts;have HB2:=hid hb2;clear hd hb2)
  exact Cc (HB2.out.laid _ _ _) rfl rfl rfl ⟨An (HK.out.trans q) (by omega),.inl ⟨rfl,_,rfl,(HD.out.dyW HB2.out (Ah _) (Ag _ _ _) (Af _)).dyR g3 g4⟩⟩
 ·by_cases hy0:y.m=0
  ·unfold Dq;rw [if_neg hx0,if_pos hy0,show (good x).raw=⟨x.raw,0⟩ from rfl];have hc:=fun w1 (k:Kept w w1)=>R9 (ha.kept k) (by have:=Ds hx;omega)
   obtain ⟨A,l,c,rfl,hl1,-,-,-⟩:=ha.shape;obtain ⟨A2,l2,c2,rfl,hl,-,g1,g2⟩:=hb.shape;have hl0:l2=0:=by rw [hl];simp only [Dy.raw];rw [hy0,Au];rfl
   subst hl0;have l0:((l:Int)==0)=false:=by have:=Bc x.m hx0;rw [beq_eq_false_iff_ne,hl1];simp only [Dy.raw];omega
   have HC:=hid hc;clear hc hl hl1 ha hb hx hx0 hT hy hy0;generalize hn:y.raw.neg=n2,y.raw.e=e2 at *;clear hn;generalize x.raw=r at *;obtain ⟨W,hW,kW,B0,B1,B2⟩:=Kf w (.bool r.neg) (.slice A l c) (.int .i64 r.e) (.bool n2) (.slice A2 0 c2) (.int .i64 e2);have HW:=hid hW;have HK:=hid kW;have HB:=hid B2;clear hW kW B0 B1 B2;go_enter Tryz.func177,Tryz.ntmps177
   go_wp2_with (go_at_call 181;rw [←HW.out];refine (HC.out _ HK.out).mono ?_;rintro e w1 ⟨q,u,rfl,hd⟩;obtain ⟨A',l',c',rfl,-,hd,g3,g4⟩:=hd.shape;have HD:=hid hd;have hb2:=HB.out.kept q;obtain ⟨_,c0,c1,c2,f0,f1,f2⟩:=hb2.facts;have HB2:=hid hb2;clear hd hb2)
   exact Cc (HB2.out.laid _ _ _) rfl rfl rfl ⟨An (HK.out.trans q) (by omega),.inl ⟨rfl,_,rfl,(HD.out.dyW HB2.out (Ah _) (Ag _ _ _) (Af _)).dyR g3 g4⟩⟩
  ·exact Ahk ha hb hx hy hT hx0 hy0
theorem Pm (d:Dy)(h:d.Ok):Ajg d.raw=(Cu d).raw:=by
 unfold Ajg Cu;by_cases h0:d.m=0
 ·rw [if_pos h0,if_neg];rintro ⟨_,h1⟩;simp only [Dy.raw] at h1;rw [h0,Au] at h1;exact absurd h1 (Nat.lt_irrefl 0)
 ·rw [if_neg h0,if_pos ⟨h.may,Bc d.m h0⟩];rfl
theorem Amf (ha:DyR w va x.raw)(hb:DyR w vb y.raw)(hx:x.Ok)(hy:y.Ok)(hT:Tab w) :
 Calls Tryz.prog 178 #[va,vb] w (Goes 129 (Dq x (Cu y)).raw w):=by
 have hn:=fun w1 (k:Kept w w1)=>Vw (hb.kept k) (by have:=Ds hy;omega)
 rw [Pm y hy] at hn;have hs:=fun w1 u (k:Kept w w1) (hu:DyR w1 u (Cu y).raw)=>Akt (ha.kept k) hu hx (Iq hy) (hT.kept k)
 obtain ⟨A,l,c,rfl,-,-,-,-⟩:=ha.shape;obtain ⟨A2,l2,c2,rfl,-,-,-,-⟩:=hb.shape;have HN:=hid hn;have HS:=hid hs;clear hn hs ha hb hx hy hT;generalize x.raw.neg=n1,x.raw.e=e1,y.raw.neg=n2,y.raw.e=e2 at *;generalize (Cu y).raw=r at *;generalize Dq x (Cu y)=o at *;obtain ⟨W,hW,kW,B0,B1,B2⟩:=Kf w (.bool n1) (.slice A l c) (.int .i64 e1) (.bool n2) (.slice A2 l2 c2) (.int .i64 e2);have HW:=hid hW;have HK:=hid kW;have HB0:=hid B0;have HB1:=hid B1;have HB2:=hid B2;clear hW kW B0 B1 B2;go_enter Tryz.func178,Tryz.ntmps178;go_wp2_with fail;rw [←HW.out]
 refine Ny 4 ([(vE (.agg #[.bool n1,.slice A l c,.int .i64 e1])),(vE (.agg #[.bool n2,.slice A2 l2 c2,.int .i64 e2])),(fun v wv=>DyR wv v r),(fun v wv=>o.raw.k=0∧DyR wv v o.raw.v)])
  ⟨
   (gql 2 fun _ k=>c3 HB0.out k),(gql 3 fun _ k=>c3 HB1.out k),(fun aF wF F=>by have s6:=F.v 1 6;exact sD (HN.out _ (HK.out.trans F.kept)) fun _ _ h=>h),(fun aF wF F=>by have s5:=F.v 0 5;have s7:=F.p 2 7;exact sG (HS.out _ _ (HK.out.trans F.kept) s7) (fun _ _ _ h0 h=>⟨h0,h⟩) (fun w2 k2 h0=>⟨F.defers,⟨HK.out.trans (F.kept.trans k2),.inr ⟨h0,rfl⟩⟩⟩)),
   trivial⟩ ?_
 intro u w1 k1 hu;have p7:=hp hu 2;have p8:=hp hu 3;simp only [Ax,Al,if_true,Act.put,zlA,zlB,zlC,zlD,zlE,zlF,zlG,hv hu 0,hv hu 1];clear hu;generalize u 2=v7,u 3=v8 at *;obtain ⟨h0,hd⟩:=p8;obtain ⟨A',l',c',rfl,hd,g1,g2⟩:=Ec hd;have hb:=HB2.out.kept k1;obtain ⟨_,c0,c1,c2,f0,f1,f2⟩:=hb.facts;have HD:=hid hd;have H0:=hid h0;have HB:=hid hb;have K1:=hid k1;clear hd h0 hb k1 p7;go_simp;go_wp2_with fail;exact Cc (HB.out.laid _ _ _) rfl rfl rfl ⟨An (HK.out.trans K1.out) (by omega),.inl ⟨H0.out,_,rfl,(HD.out.dyW HB.out (Ah _) (Ag _ _ _) (Af _)).dyR g1 g2⟩⟩
theorem Abj (ha:DyR w va x.raw)(hb:DyR w vb y.raw)(hx:x.Ok)(hy:y.Ok)(hT:Tab w) :
 Calls Tryz.prog 133 #[va,vb] w (RetE (Dq x y).raw w):=by
 have hf:=fun w1 (k:Kept w w1)=>Aht (K:=177) (o:=(Dq x y).raw) (ha.kept k) (hb.kept k) (by have:=Ds hx;omega) (by have:=Ds hy;omega)
  (fun W k1 _ _=>Akt (ha.kept (k.trans k1)) (hb.kept (k.trans k1)) hx hy (hT.kept (k.trans k1)))
  (fun h=>by have:=Jh hx hy;show ((Dq x y).v).raw=rz;rw [this.2 h,Fg]) (fun _=>rfl)
 have e:Qu x.raw y.raw (Dq x y).raw=(Dq x y).raw:=by unfold Qu;rw [hx.may,hy.may];rfl
 rw [e] at hf;obtain ⟨A,l,c,rfl,-,-,-,-⟩:=ha.shape;obtain ⟨A2,l2,c2,rfl,-,-,-,-⟩:=hb.shape;have HF:=hid hf;clear hf ha hb hx hy hT e;generalize (Dq x y).raw=o at *;generalize x.raw.neg=n1,x.raw.e=e1,y.raw.neg=n2,y.raw.e=e2 at *;obtain ⟨W,hW,kW,B0,B1,B2⟩:=Kf w (.bool n1) (.slice A l c) (.int .i64 e1) (.bool n2) (.slice A2 l2 c2) (.int .i64 e2);have HW:=hid hW;have HK:=hid kW;have HB:=hid B2;clear hW kW B0 B1 B2;go_enter Tryz.func133,Tryz.ntmps133
 go_wp2_with (go_at_call 176;rw [←HW.out];refine (HF.out _ HK.out).mono ?_;rintro e w1 ⟨q,u,rfl,hd⟩;obtain ⟨A',l',c',rfl,-,hd,g3,g4⟩:=hd.shape;have HD:=hid hd;have hb2:=HB.out.kept q;obtain ⟨_,c0,c1,c2,f0,f1,f2⟩:=hb2.facts;have HB2:=hid hb2;clear hd hb2)
 exact Ed (HB2.out.laid _ _ _) rfl rfl rfl ⟨An (HK.out.trans q) (by omega),_,rfl,(HD.out.dyW HB2.out (Ah _) (Ag _ _ _) (Af _)).dyR g3 g4⟩
theorem Akh (ha:DyR w va x.raw)(hb:DyR w vb y.raw)(hx:x.Ok)(hy:y.Ok)(hT:Tab w) :
 Calls Tryz.prog 135 #[va,vb] w (RetE (Dq x (Cu y)).raw w):=by
 have hf:=fun w1 (k:Kept w w1)=>Aht (K:=178) (o:=(Dq x (Cu y)).raw) (ha.kept k) (hb.kept k) (by have:=Ds hx;omega) (by have:=Ds hy;omega)
  (fun W k1 _ _=>Amf (ha.kept (k.trans k1)) (hb.kept (k.trans k1)) hx hy (hT.kept (k.trans k1)))
  (fun h=>by have:=Jh hx (Iq hy);show ((Dq x (Cu y)).v).raw=rz;rw [this.2 h,Fg]) (fun _=>rfl)
 have e:Qu x.raw y.raw (Dq x (Cu y)).raw=(Dq x (Cu y)).raw:=by unfold Qu;rw [hx.may,hy.may];rfl
 rw [e] at hf;obtain ⟨A,l,c,rfl,-,-,-,-⟩:=ha.shape;obtain ⟨A2,l2,c2,rfl,-,-,-,-⟩:=hb.shape;have HF:=hid hf;clear hf ha hb hx hy hT e;generalize (Dq x (Cu y)).raw=o at *;generalize x.raw.neg=n1,x.raw.e=e1,y.raw.neg=n2,y.raw.e=e2 at *;obtain ⟨W,hW,kW,B0,B1,B2⟩:=Kf w (.bool n1) (.slice A l c) (.int .i64 e1) (.bool n2) (.slice A2 l2 c2) (.int .i64 e2);have HW:=hid hW;have HK:=hid kW;have HB:=hid B2;clear hW kW B0 B1 B2;go_enter Tryz.func135,Tryz.ntmps135
 go_wp2_with (go_at_call 176;rw [←HW.out];refine (HF.out _ HK.out).mono ?_;rintro e w1 ⟨q,u,rfl,hd⟩;obtain ⟨A',l',c',rfl,-,hd,g3,g4⟩:=hd.shape;have HD:=hid hd;have hb2:=HB.out.kept q;obtain ⟨_,c0,c1,c2,f0,f1,f2⟩:=hb2.facts;have HB2:=hid hb2;clear hd hb2)
 exact Ed (HB2.out.laid _ _ _) rfl rfl rfl ⟨An (HK.out.trans q) (by omega),_,rfl,(HD.out.dyW HB2.out (Ah _) (Ag _ _ _) (Af _)).dyR g3 g4⟩
theorem Qw (ha:DyR w va x.raw)(hb:DyR w vb y.raw)(hx:x.Ok)(hy:y.Ok)(hT:Tab w) :
 Calls Tryz.prog 137 #[va,vb] w (RetE (Bt x y).raw w):=by
 have hf:=fun w1 (k:Kept w w1)=>Aht (K:=179) (o:=(Bt x y).raw) (ha.kept k) (hb.kept k) (by have:=Ds hx;omega) (by have:=Ds hy;omega)
  (fun W k1 _ _=>Alv (ha.kept (k.trans k1)) (hb.kept (k.trans k1)) hx hy (hT.kept (k.trans k1)))
  (fun h=>by have:=Ip x y;show ((Bt x y).v).raw=rz;rw [this.2 h,Fg]) (fun _=>rfl)
 have e:Qu x.raw y.raw (Bt x y).raw=(Bt x y).raw:=by unfold Qu;rw [hx.may,hy.may];rfl
 rw [e] at hf;obtain ⟨A,l,c,rfl,-,-,-,-⟩:=ha.shape;obtain ⟨A2,l2,c2,rfl,-,-,-,-⟩:=hb.shape;have HF:=hid hf;clear hf ha hb hx hy hT e;generalize (Bt x y).raw=o at *;generalize x.raw.neg=n1,x.raw.e=e1,y.raw.neg=n2,y.raw.e=e2 at *;obtain ⟨W,hW,kW,B0,B1,B2⟩:=Kf w (.bool n1) (.slice A l c) (.int .i64 e1) (.bool n2) (.slice A2 l2 c2) (.int .i64 e2);have HW:=hid hW;have HK:=hid kW;have HB:=hid B2;clear hW kW B0 B1 B2;go_enter Tryz.func137,Tryz.ntmps137
 go_wp2_with (go_at_call 176;rw [←HW.out];refine (HF.out _ HK.out).mono ?_;rintro e w1 ⟨q,u,rfl,hd⟩;obtain ⟨A',l',c',rfl,-,hd,g3,g4⟩:=hd.shape;have HD:=hid hd;have hb2:=HB.out.kept q;obtain ⟨_,c0,c1,c2,f0,f1,f2⟩:=hb2.facts;have HB2:=hid hb2;clear hd hb2)
 exact Ed (HB2.out.laid _ _ _) rfl rfl rfl ⟨An (HK.out.trans q) (by omega),_,rfl,(HD.out.dyW HB2.out (Ah _) (Ag _ _ _) (Af _)).dyR g3 g4⟩
theorem P8 (w:World)(x y z x' y' z':Value):∃ W,W=(w.alloc (.cells #[x,y,z] 28)).alloc (.cells #[x',y',z'] 28) ∧
 Kept w W∧Blk W w.heap.size x y z∧Blk W (w.heap.size+1) x' y' z' :=
 ⟨_,rfl,(Ad _ _).trans (Ad _ _),Bb (blk_new _ _ _ _) _,D8 _ _ _ _ _⟩
theorem Aii (ha:DyR w va x.raw)(hb:DyR w vb y.raw)(hx:x.Ok)(hy:y.Ok)(hx0:x.m≠0)(hy0:y.m≠0) :
 Calls Tryz.prog 77 #[va,vb] w (RetK (.int .i64 (Gl x y)) w):=by
 obtain ⟨A,l,c,rfl,-,ha,-,-⟩:=ha.shape;obtain ⟨A2,l2,c2,rfl,-,hb,-,-⟩:=hb.shape;have hs1:=fun w1 (k:Kept w w1)=>L7 (ha.kept k) (by have:=hx.len;omega)
 have hs2:=fun w1 (k:Kept w w1)=>L7 (hb.kept k) (by have:=hy.len;omega)
 have bx:=Cq x.m 64 hx.len;have bY:=Cq y.m 64 hy.len;have x1:=hx.lo;have x2:=hx.hi;have y1:=hy.lo;have y2:=hy.hi;obtain ⟨j1,hj1⟩:∃ j:Nat,x.e-min x.e y.e=j:=⟨(x.e-min x.e y.e).toNat,by omega⟩;obtain ⟨j2,hj2⟩:∃ j:Nat,y.e-min x.e y.e=j:=⟨(y.e-min x.e y.e).toNat,by omega⟩;have b1:j1≤2097152:=by omega
 have b2:j2≤2097152:=by omega
 have hl1:=fun w1 (k:Kept w w1)=>Mq (ha.kept k) j1 (by have:=hx.len;omega) (by omega)
 have hl2:=fun w1 (k:Kept w w1)=>Mq (hb.kept k) j2 (by have:=hy.len;omega) (by omega)
 have lx:(limbs (x.m*2^j1)).length≤40000:=Dd _ _ (by rw [Fq _ _ hx0];omega);have ly:(limbs (y.m*2^j2)).length≤40000:=Dd _ _ (by rw [Fq _ _ hy0];omega);have ho:=fun w1 v u (h1:Lim w1 v (limbs (x.m*2^j1))) (h2:Lim w1 u (limbs (y.m*2^j2)))=>L3 h1 h2 (by omega) (by omega)
 have hwx:IntKind.i64.wrap ((bl x.m:Int)+x.e)=(bl x.m:Int)+x.e:=by simp [IntKind.wrap_i64];omega
 have hwy:IntKind.i64.wrap ((bl y.m:Int)+y.e)=(bl y.m:Int)+y.e:=by simp [IntKind.wrap_i64];omega
 have hw1:IntKind.i64.wrap (x.e-min x.e y.e)=(j1:Int):=by rw [hj1];simp [IntKind.wrap_i64];omega
 have hw2:IntKind.i64.wrap (y.e-min x.e y.e)=(j2:Int):=by rw [hj2];simp [IntKind.wrap_i64];omega
 have hD:Gl x y=if (bl x.m:Int)+x.e<bl y.m+y.e then -1 else if (bl y.m:Int)+y.e<bl x.m+x.e then 1 else Du (x.m*2^j1) (y.m*2^j2):=by
  unfold Gl;rw [hj1,hj2];rfl
 have HD:=hid hD;have H1:=hid hs1;have H2:=hid hs2;have L1:=hid hl1;have L2:=hid hl2;have HO:=hid ho;clear hD hs1 hs2 hl1 hl2 ho lx ly ha hb bx bY x1 x2 y1 y2 hx hy hx0 hy0 b1 b2 hj1 hj2;generalize limbs (x.m*2^j1)=xs at *;generalize limbs (y.m*2^j2)=ys at *;generalize Du (x.m*2^j1) (y.m*2^j2)=cc at *;obtain ⟨sx,hsx⟩:∃ sx,(bl x.m:Int)+x.e=sx:=⟨_,rfl⟩;obtain ⟨sy,hsy⟩:∃ sy,(bl y.m:Int)+y.e=sy:=⟨_,rfl⟩;rw [hsx,hsy] at HD;rw [hsx] at hwx;rw [hsy] at hwy;have HX:=hid hsx;have HY:=hid hsy;clear hsx hsy;obtain ⟨lo,hlo⟩:∃ lo,min x.e y.e=lo:=⟨_,rfl⟩;rw [hlo] at hw1 hw2;have HL:=hid hlo;clear hlo;generalize bl x.m=bx at *
 generalize bl y.m=bY at *;have hsz:=HD.out;generalize Gl x y=res at *;simp only [Dy.raw] at *;generalize x.neg=n1,x.e=e1,y.neg=n2,y.e=e2 at *;clear HD;obtain ⟨W,hW,kW,B0,B1⟩:=P8 w (.bool n1) (.slice A l c) (.int .i64 e1) (.bool n2) (.slice A2 l2 c2) (.int .i64 e2);have HW:=hid hW;have HK:=hid kW;have HB0:=hid B0;have HB1':=hid B1;clear hW kW B0 B1;by_cases h1:sx<sy
 ·rw [if_pos h1] at hsz;subst hsz;have d1:decide (sx<sy)=true:=by simp [h1]
  clear h1;go_enter Tryz.func77,Tryz.ntmps77;go_wp2_with fail;rw [←HW.out]
  refine rgL 14 ([(vP w.heap.size 1),(vE (.slice A l c)),(vE (.int .i64 bx)),(vP w.heap.size 2),(vE (.int .i64 e1)),(vE (.int .i64 sx)),(vP (w.heap.size+1) 1),(vE (.slice A2 l2 c2)),(vE (.int .i64 bY)),(vP (w.heap.size+1) 2),(vE (.int .i64 e2)),(vE (.int .i64 sy)),(vE (.int .i64 sx)),(vE (.int .i64 sy))])
   ⟨
    (gq 2),(gvl 0 8 fun _ k=>Ai HB0.out k 1 _ rfl),(fun aF wF F=>by have s9:=F.v 1 9;exact sQ (H1.out _ (HK.out.trans F.kept)) fun _ _ h=>h),(gq 2),(gvl 3 11 fun _ k=>Ai HB0.out k 2 _ rfl),(fun aF wF F=>by have s10:=F.v 2 10;have s12:=F.v 4 12;exact sw (by have:=HX.out;go_simp) rfl),(gq 3),(gvl 6 14 fun _ k=>Ai HB1'.out k 1 _ rfl),(fun aF wF F=>by have s15:=F.v 7 15;exact sQ (H2.out _ (HK.out.trans F.kept)) fun _ _ h=>h),(gq 3),(gvl 9 17 fun _ k=>Ai HB1'.out k 2 _ rfl),(fun aF wF F=>by have s16:=F.v 8 16;have s18:=F.v 10 18;exact sw (by have:=HY.out;go_simp) rfl),(gv 5 13),(gv 11 19),
    trivial⟩ ?_
  intro u w1 k1 hu;simp only [Ax,Al,if_true,Act.put,zlA,zlB,zlC,zlD,zlE,zlF,zlG,hv hu 0,hv hu 1,hv hu 2,hv hu 3,hv hu 4,hv hu 5,hv hu 6,hv hu 7,hv hu 8,hv hu 9,hv hu 10,hv hu 11,hv hu 12,hv hu 13];clear hu;go_wp2_with fail;go_ret;exact ⟨rfl,HK.out.trans k1⟩
 ·rw [if_neg h1] at hsz;have d1:decide (sx<sy)=false:=by simp;omega
  clear h1;by_cases h2:sy<sx
  ·rw [if_pos h2] at hsz;subst hsz;have d2:decide (sy<sx)=true:=by simp [h2]
   clear h2;go_enter Tryz.func77,Tryz.ntmps77;go_wp2_with fail;rw [←HW.out]
   refine rgL 14 ([(vP w.heap.size 1),(vE (.slice A l c)),(vE (.int .i64 bx)),(vP w.heap.size 2),(vE (.int .i64 e1)),(vE (.int .i64 sx)),(vP (w.heap.size+1) 1),(vE (.slice A2 l2 c2)),(vE (.int .i64 bY)),(vP (w.heap.size+1) 2),(vE (.int .i64 e2)),(vE (.int .i64 sy)),(vE (.int .i64 sx)),(vE (.int .i64 sy))])
    ⟨
     (gq 2),(gvl 0 8 fun _ k=>Ai HB0.out k 1 _ rfl),(fun aF wF F=>by have s9:=F.v 1 9;exact sQ (H1.out _ (HK.out.trans F.kept)) fun _ _ h=>h),(gq 2),(gvl 3 11 fun _ k=>Ai HB0.out k 2 _ rfl),(fun aF wF F=>by have s10:=F.v 2 10;have s12:=F.v 4 12;exact sw (by have:=HX.out;go_simp) rfl),(gq 3),(gvl 6 14 fun _ k=>Ai HB1'.out k 1 _ rfl),(fun aF wF F=>by have s15:=F.v 7 15;exact sQ (H2.out _ (HK.out.trans F.kept)) fun _ _ h=>h),(gq 3),(gvl 9 17 fun _ k=>Ai HB1'.out k 2 _ rfl),(fun aF wF F=>by have s16:=F.v 8 16;have s18:=F.v 10 18;exact sw (by have:=HY.out;go_simp) rfl),(gv 5 13),(gv 11 19),
     trivial⟩ ?_
   intro u w1 k1 hu;simp only [Ax,Al,if_true,Act.put,zlA,zlB,zlC,zlD,zlE,zlF,zlG,hv hu 0,hv hu 1,hv hu 2,hv hu 3,hv hu 4,hv hu 5,hv hu 6,hv hu 7,hv hu 8,hv hu 9,hv hu 10,hv hu 11,hv hu 12,hv hu 13];clear hu;go_wp2_with fail;go_ret;exact ⟨rfl,HK.out.trans k1⟩
  ·rw [if_neg h2] at hsz;subst hsz;have d2:decide (sy<sx)=false:=by simp;omega
   clear h2;go_enter Tryz.func77,Tryz.ntmps77;go_wp2_with fail;rw [←HW.out]
   refine rgL 14 ([(vP w.heap.size 1),(vE (.slice A l c)),(vE (.int .i64 bx)),(vP w.heap.size 2),(vE (.int .i64 e1)),(vE (.int .i64 sx)),(vP (w.heap.size+1) 1),(vE (.slice A2 l2 c2)),(vE (.int .i64 bY)),(vP (w.heap.size+1) 2),(vE (.int .i64 e2)),(vE (.int .i64 sy)),(vE (.int .i64 sx)),(vE (.int .i64 sy))])
    ⟨
     (gq 2),(gvl 0 8 fun _ k=>Ai HB0.out k 1 _ rfl),(fun aF wF F=>by have s9:=F.v 1 9;exact sQ (H1.out _ (HK.out.trans F.kept)) fun _ _ h=>h),(gq 2),(gvl 3 11 fun _ k=>Ai HB0.out k 2 _ rfl),(fun aF wF F=>by have s10:=F.v 2 10;have s12:=F.v 4 12;exact sw (by have:=HX.out;go_simp) rfl),(gq 3),(gvl 6 14 fun _ k=>Ai HB1'.out k 1 _ rfl),(fun aF wF F=>by have s15:=F.v 7 15;exact sQ (H2.out _ (HK.out.trans F.kept)) fun _ _ h=>h),(gq 3),(gvl 9 17 fun _ k=>Ai HB1'.out k 2 _ rfl),(fun aF wF F=>by have s16:=F.v 8 16;have s18:=F.v 10 18;exact sw (by have:=HY.out;go_simp) rfl),(gv 5 13),(gv 11 19),
     trivial⟩ ?_
   intro u w1 k1 hu;simp only [Ax,Al,if_true,Act.put,zlA,zlB,zlC,zlD,zlE,zlF,zlG,hv hu 0,hv hu 1,hv hu 2,hv hu 3,hv hu 4,hv hu 5,hv hu 6,hv hu 7,hv hu 8,hv hu 9,hv hu 10,hv hu 11,hv hu 12,hv hu 13];clear hu;obtain ⟨-,a0,a1,a2,-⟩:=(HB0.out.kept k1).facts;obtain ⟨-,b0,b1,b2,-⟩:=(HB1'.out.kept k1).facts;go_wp2_with fail;rw [HL.out];have K1:=hid k1;clear a0 a1 a2 b0 b1 b2 k1 hwx hwy d1 d2
   refine rgL 16 ([(vP w.heap.size 1),(vE (.slice A l c)),(vP w.heap.size 2),(vE (.int .i64 e1)),(vE (.int .i64 lo)),(vE (.int .i64 j1)),(fun v wv=>Lim wv v (xs)),(vP (w.heap.size+1) 1),(vE (.slice A2 l2 c2)),(vP (w.heap.size+1) 2),(vE (.int .i64 e2)),(vE (.int .i64 lo)),(vE (.int .i64 j2)),(fun v wv=>Lim wv v (ys)),(vE (.int .i64 res)),(vE (.int .i64 res))])
    ⟨
     (gq 2),(gvl 0 33 fun _ k=>Ai (HB0.out.kept K1.out) k 1 _ rfl),(gq 2),(gvl 2 35 fun _ k=>Ai (HB0.out.kept K1.out) k 2 _ rfl),(gq 7),(gvv 3 36 4 37),(fun aF wF F=>by have s34:=F.v 1 34;have s38:=F.v 5 38;exact sL (L1.out _ (HK.out.trans (K1.out.trans F.kept))) fun _ _ h=>h),(gq 3),(gvl 7 40 fun _ k=>Ai (HB1'.out.kept K1.out) k 1 _ rfl),(gq 3),(gvl 9 42 fun _ k=>Ai (HB1'.out.kept K1.out) k 2 _ rfl),(gq 7),(gvv 10 43 11 44),(fun aF wF F=>by have s41:=F.v 8 41;have s45:=F.v 12 45;exact sL (L2.out _ (HK.out.trans (K1.out.trans F.kept))) fun _ _ h=>h),(fun aF wF F=>by have s39:=F.p 6 39;have s46:=F.p 13 46;exact sQ (HO.out _ _ _ s39 s46) fun _ _ h=>h),(gv 14 47),
     trivial⟩ ?_
   intro u w1 k1 hu;have p39:=hp hu 6;have p46:=hp hu 13;simp only [Ax,Al,if_true,Act.put,zlA,zlB,zlC,zlD,zlE,zlF,zlG,hv hu 0,hv hu 1,hv hu 2,hv hu 3,hv hu 4,hv hu 5,hv hu 7,hv hu 8,hv hu 9,hv hu 10,hv hu 11,hv hu 12,hv hu 14,hv hu 15];clear hu;generalize u 6=v39,u 13=v46 at *;clear p39 p46;go_wp2_with fail;go_ret;exact ⟨rfl,HK.out.trans (K1.out.trans k1)⟩
theorem M4 (d:Dy)(h:d.Ok):Aed d.raw=sg d:=by
 unfold Aed sg;by_cases h0:d.m=0
 ·rw [if_pos h0,if_pos (Or.inr (by simp only [Dy.raw];rw [h0,Au];rfl))]
 ·rw [if_neg h0,if_neg]
  ·rfl
  ·rintro (h1 | h1)
   ·rw [h.may] at h1;cases h1
   ·have:=Bc d.m h0;simp only [Dy.raw] at h1;omega
theorem Og (ha:DyR w va x.raw)(hb:DyR w vb y.raw)(hx:x.Ok)(hy:y.Ok) :
 Calls Tryz.prog 40 #[va,vb] w (RetK (.int .i64 (Cg x.q y.q)) w):=by
 have lx:=Ds hx;have ly:=Ds hy;have s1:=fun w1 (k:Kept w w1)=>Vx (ha.kept k) (by omega)
 have s2:=fun w1 (k:Kept w w1)=>Vx (hb.kept k) (by omega)
 have m1:=fun w1 (k:Kept w w1)=>Ms (ha.kept k) (by omega)
 have m2:=fun w1 (k:Kept w w1)=>Ms (hb.kept k) (by omega)
 have hsz:=fun w1 (k:Kept w w1) (h1:x.m≠0) (h2:y.m≠0)=>Aii (ha.kept k) (hb.kept k) hx hy h1 h2
 rw [M4 x hx] at s1;rw [M4 y hy] at s2;rw [hx.may] at m1;rw [hy.may] at m2;have g1:=@Z9 x y;have g2:=@Ae9 x y;have g3:=@Xg x y;have c1:=I0 x;have c2:=I0 y;have z1:sg x≠0→x.m≠0:=fun h h0=>h (by unfold sg;rw [if_pos h0])
 have z2:sg y≠0→y.m≠0:=fun h h0=>h (by unfold sg;rw [if_pos h0])
 have hsr:Gl x y=-1∨Gl x y=0∨Gl x y=1:=by
  unfold Gl Du;split
  ·exact .inl rfl
  ·split
   ·exact .inr (.inr rfl)
   ·split
    ·exact .inl rfl
    ·split
     ·exact .inr (.inl rfl)
     ·exact .inr (.inr rfl)
 obtain ⟨A,l,c,rfl,-,ha,-,-⟩:=ha.shape;obtain ⟨A2,l2,c2',rfl,-,hb,-,-⟩:=hb.shape;have S1:=hid s1;have S2:=hid s2;have M1:=hid m1;have M2:=hid m2;have HZ:=hid hsz;have G1:=hid g1;have G2:=hid g2;have G3:=hid g3;have Z1:=hid z1;have Z2:=hid z2;have C1:=hid c1;have C2:=hid c2;have HR:=hid hsr;clear s1 s2 m1 m2 hsz g1 g2 g3 z1 z2 c1 c2 hsr ha hb lx ly hx hy;generalize Cg x.q y.q=res at *;simp only [Dy.raw] at *;generalize x.neg=n1,x.e=e1,y.neg=n2,y.e=e2 at *;generalize Gl x y=zz at *;generalize sg x=g at *;generalize sg y=g' at *;obtain ⟨W,hW,kW,B0,B1⟩:=P8 w (.bool n1) (.slice A l c) (.int .i64 e1) (.bool n2) (.slice A2 l2 c2') (.int .i64 e2)
 have HW:=hid hW;have HK:=hid kW;have HB0:=hid B0;have HB1':=hid B1;clear hW kW B0 B1;by_cases h1:g<g'
 ·have hr:=G1.out h1;subst hr;have d1:(g==g')=false:=by rw [beq_eq_false_iff_ne];omega
  have d2:decide (g<g')=true:=by simp [h1]
  clear h1;go_enter Tryz.func40,Tryz.ntmps40;go_wp2_with fail;rw [←HW.out]
  refine rgL 6 ([(vE (.agg #[.bool n1,.slice A l c,.int .i64 e1])),(vE (.int .i64 g)),(vE (.agg #[.bool n2,.slice A2 l2 c2',.int .i64 e2])),(vE (.int .i64 g')),(vE (.int .i64 g)),(vE (.int .i64 g'))])
   ⟨
    (gql 2 fun _ k=>c3 HB0.out k),(fun aF wF F=>by have s7:=F.v 0 7;exact sK (S1.out _ (HK.out.trans F.kept)) fun _ _ h=>h),(gql 3 fun _ k=>c3 HB1'.out k),(fun aF wF F=>by have s9:=F.v 2 9;exact sK (S2.out _ (HK.out.trans F.kept)) fun _ _ h=>h),(gv 1 8),(gv 3 10),
    trivial⟩ ?_
  intro u w1 k1 hu;simp only [Ax,Al,if_true,Act.put,zlA,zlB,zlC,zlD,zlE,zlF,zlG,hv hu 0,hv hu 1,hv hu 2,hv hu 3,hv hu 4,hv hu 5];clear hu;have KX:=hid k1;obtain ⟨-,a0,a1,a2,-⟩:=(HB0.out.kept k1).facts;obtain ⟨-,b0,b1,b2,-⟩:=(HB1'.out.kept k1).facts;clear k1 u;go_wp2_with fail;refine (M1.out _ (HK.out.trans KX.out)).mono ?_;rintro e w2 ⟨rfl,q⟩;replace KX:=hid (KX.out.trans q);clear a0 a1 a2 b0 b1 b2 q;obtain ⟨-,a0,a1,a2,-⟩:=(HB0.out.kept KX.out).facts;obtain ⟨-,b0,b1,b2,-⟩:=(HB1'.out.kept KX.out).facts;simp only [];go_wp2_with fail;refine (M2.out _ (HK.out.trans KX.out)).mono ?_;rintro e w3 ⟨rfl,q⟩
  replace KX:=hid (KX.out.trans q);clear a0 a1 a2 b0 b1 b2 q;obtain ⟨-,a0,a1,a2,-⟩:=(HB0.out.kept KX.out).facts;obtain ⟨-,b0,b1,b2,-⟩:=(HB1'.out.kept KX.out).facts;simp only [];go_wp2_with fail;go_ret;exact ⟨rfl,HK.out.trans KX.out⟩
 ·have d2:decide (g<g')=false:=by simp;omega
  by_cases h2:g=g'
  ·have hr:=G3.out h2;obtain rfl:=h2;have d1:(g==g)=true:=by rw [beq_iff_eq]
   by_cases h3:g=0
   ·rw [if_pos h3] at hr;subst hr;have d3:(g==0)=true:=by rw [beq_iff_eq];exact h3
    clear h1 h3;go_enter Tryz.func40,Tryz.ntmps40;go_wp2_with fail;rw [←HW.out]
    refine rgL 6 ([(vE (.agg #[.bool n1,.slice A l c,.int .i64 e1])),(vE (.int .i64 g)),(vE (.agg #[.bool n2,.slice A2 l2 c2',.int .i64 e2])),(vE (.int .i64 g)),(vE (.int .i64 g)),(vE (.int .i64 g))])
     ⟨
      (gql 2 fun _ k=>c3 HB0.out k),(fun aF wF F=>by have s7:=F.v 0 7;exact sK (S1.out _ (HK.out.trans F.kept)) fun _ _ h=>h),(gql 3 fun _ k=>c3 HB1'.out k),(fun aF wF F=>by have s9:=F.v 2 9;exact sK (S2.out _ (HK.out.trans F.kept)) fun _ _ h=>h),(gv 1 8),(gv 3 10),
      trivial⟩ ?_
    intro u w1 k1 hu;simp only [Ax,Al,if_true,Act.put,zlA,zlB,zlC,zlD,zlE,zlF,zlG,hv hu 0,hv hu 1,hv hu 2,hv hu 3,hv hu 4,hv hu 5];clear hu;have KX:=hid k1;obtain ⟨-,a0,a1,a2,-⟩:=(HB0.out.kept k1).facts;obtain ⟨-,b0,b1,b2,-⟩:=(HB1'.out.kept k1).facts;clear k1 u;go_wp2_with fail;refine (M1.out _ (HK.out.trans KX.out)).mono ?_;rintro e w2 ⟨rfl,q⟩;replace KX:=hid (KX.out.trans q);clear a0 a1 a2 b0 b1 b2 q;obtain ⟨-,a0,a1,a2,-⟩:=(HB0.out.kept KX.out).facts;obtain ⟨-,b0,b1,b2,-⟩:=(HB1'.out.kept KX.out).facts;simp only [];go_wp2_with fail;refine (M2.out _ (HK.out.trans KX.out)).mono ?_;rintro e w3 ⟨rfl,q⟩
    replace KX:=hid (KX.out.trans q);clear a0 a1 a2 b0 b1 b2 q;obtain ⟨-,a0,a1,a2,-⟩:=(HB0.out.kept KX.out).facts;obtain ⟨-,b0,b1,b2,-⟩:=(HB1'.out.kept KX.out).facts;simp only [];go_wp2_with fail;go_ret;exact ⟨rfl,HK.out.trans KX.out⟩
   ·rw [if_neg h3] at hr;subst hr;have d3:(g==0)=false:=by rw [beq_eq_false_iff_ne];exact h3
    have hz:=fun w1 k=>HZ.out w1 k (Z1.out h3) (Z2.out h3)
    have hw:wrap64 (g*zz)=g*zz:=by
     rcases C1.out with h | h | h<;>rcases HR.out with h' | h' | h'<;>rw [h,h']<;>first | rfl | decide | simp [wrap64]
    clear HZ;have HZ:=hid hz;clear h1 h3 hz;go_enter Tryz.func40,Tryz.ntmps40;go_wp2_with fail;rw [←HW.out]
    refine rgL 6 ([(vE (.agg #[.bool n1,.slice A l c,.int .i64 e1])),(vE (.int .i64 g)),(vE (.agg #[.bool n2,.slice A2 l2 c2',.int .i64 e2])),(vE (.int .i64 g)),(vE (.int .i64 g)),(vE (.int .i64 g))])
     ⟨
      (gql 2 fun _ k=>c3 HB0.out k),(fun aF wF F=>by have s7:=F.v 0 7;exact sK (S1.out _ (HK.out.trans F.kept)) fun _ _ h=>h),(gql 3 fun _ k=>c3 HB1'.out k),(fun aF wF F=>by have s9:=F.v 2 9;exact sK (S2.out _ (HK.out.trans F.kept)) fun _ _ h=>h),(gv 1 8),(gv 3 10),
      trivial⟩ ?_
    intro u w1 k1 hu;simp only [Ax,Al,if_true,Act.put,zlA,zlB,zlC,zlD,zlE,zlF,zlG,hv hu 0,hv hu 1,hv hu 2,hv hu 3,hv hu 4,hv hu 5];clear hu;have KX:=hid k1;obtain ⟨-,a0,a1,a2,-⟩:=(HB0.out.kept k1).facts;obtain ⟨-,b0,b1,b2,-⟩:=(HB1'.out.kept k1).facts;clear k1 u;go_wp2_with fail;refine (M1.out _ (HK.out.trans KX.out)).mono ?_;rintro e w2 ⟨rfl,q⟩;replace KX:=hid (KX.out.trans q);clear a0 a1 a2 b0 b1 b2 q;obtain ⟨-,a0,a1,a2,-⟩:=(HB0.out.kept KX.out).facts;obtain ⟨-,b0,b1,b2,-⟩:=(HB1'.out.kept KX.out).facts;simp only [];go_wp2_with fail;refine (M2.out _ (HK.out.trans KX.out)).mono ?_;rintro e w3 ⟨rfl,q⟩
    replace KX:=hid (KX.out.trans q);clear a0 a1 a2 b0 b1 b2 q;obtain ⟨-,a0,a1,a2,-⟩:=(HB0.out.kept KX.out).facts;obtain ⟨-,b0,b1,b2,-⟩:=(HB1'.out.kept KX.out).facts;simp only []
    go_wp2_with (go_at_call 77;refine (HZ.out _ (HK.out.trans KX.out)).mono ?_;rintro e w2 ⟨rfl,q⟩;have KY:=hid (KX.out.trans q))
    go_ret;exact ⟨show Ending.returned (.int .i64 (wrap64 (g*zz)))=_ from by rw [hw],HK.out.trans KY.out⟩
  ·have hr:=G2.out (by omega);subst hr;have d1:(g==g')=false:=by rw [beq_eq_false_iff_ne];exact h2
   clear h1 h2;go_enter Tryz.func40,Tryz.ntmps40;go_wp2_with fail;rw [←HW.out]
   refine rgL 6 ([(vE (.agg #[.bool n1,.slice A l c,.int .i64 e1])),(vE (.int .i64 g)),(vE (.agg #[.bool n2,.slice A2 l2 c2',.int .i64 e2])),(vE (.int .i64 g')),(vE (.int .i64 g)),(vE (.int .i64 g'))])
    ⟨
     (gql 2 fun _ k=>c3 HB0.out k),(fun aF wF F=>by have s7:=F.v 0 7;exact sK (S1.out _ (HK.out.trans F.kept)) fun _ _ h=>h),(gql 3 fun _ k=>c3 HB1'.out k),(fun aF wF F=>by have s9:=F.v 2 9;exact sK (S2.out _ (HK.out.trans F.kept)) fun _ _ h=>h),(gv 1 8),(gv 3 10),
     trivial⟩ ?_
   intro u w1 k1 hu;simp only [Ax,Al,if_true,Act.put,zlA,zlB,zlC,zlD,zlE,zlF,zlG,hv hu 0,hv hu 1,hv hu 2,hv hu 3,hv hu 4,hv hu 5];clear hu;have KX:=hid k1;obtain ⟨-,a0,a1,a2,-⟩:=(HB0.out.kept k1).facts;obtain ⟨-,b0,b1,b2,-⟩:=(HB1'.out.kept k1).facts;clear k1 u;go_wp2_with fail;refine (M1.out _ (HK.out.trans KX.out)).mono ?_;rintro e w2 ⟨rfl,q⟩;replace KX:=hid (KX.out.trans q);clear a0 a1 a2 b0 b1 b2 q;obtain ⟨-,a0,a1,a2,-⟩:=(HB0.out.kept KX.out).facts;obtain ⟨-,b0,b1,b2,-⟩:=(HB1'.out.kept KX.out).facts;simp only [];go_wp2_with fail;refine (M2.out _ (HK.out.trans KX.out)).mono ?_;rintro e w3 ⟨rfl,q⟩
   replace KX:=hid (KX.out.trans q);clear a0 a1 a2 b0 b1 b2 q;obtain ⟨-,a0,a1,a2,-⟩:=(HB0.out.kept KX.out).facts;obtain ⟨-,b0,b1,b2,-⟩:=(HB1'.out.kept KX.out).facts;simp only [];go_wp2_with fail;go_ret;exact ⟨rfl,HK.out.trans KX.out⟩
theorem Af5 {neg:Bool}{m:List Nat}{e:Int}(h:Nx m=false∨e < -1048576∨1048576<e):Ew ⟨neg,m,e⟩=false:=by
 unfold Ew;simp only;split
 ·rename_i h0;have hm:Nx m=true:=by unfold Nx;simp [h0]
  have he:¬e=0:=by
   rcases h with h | h | h
   ·rw [hm] at h;cases h
   ·omega
   ·omega
  simp [he]
 ·rcases h with h | h | h
  ·simp [h]
  ·have:¬-1048576≤e:=by omega
   simp [this]
  ·have:¬e≤1048576:=by omega
   simp [this]
theorem S6 {v:Value}(hv:DyR w v r)(hl:r.m.length≤17592186044416) :
 Calls Tryz.prog 74 #[v] w (RetK (.bool (Ew r)) w):=by
 obtain ⟨neg,m,e⟩:=r;obtain ⟨s,rfl,hs,h1,h2⟩:=hv;simp only at hs h1 h2 hl ⊢;have hm:=fun w1 (k:Kept w w1)=>Ajn (hs.kept k) hl
 obtain ⟨hsm,A,c,rfl,hc,hA⟩:=hs;have HM:=hid hm;have HO:=hid (@Af5 neg m e);clear hm;obtain ⟨bm,hbm⟩:∃ b,Nx m=b:=⟨_,rfl⟩;rw [hbm] at HM HO;by_cases hbad:bm=false∨e < -1048576∨1048576<e
 ·rw [HO.out hbad];have hb2:Hid (bm=false∨e < -1048576∨1048576<e):=hbad;clear HO hbad hA hsm hbm h1 h2;generalize m.length=l at *;rcases hb2.out with rfl | hb | hb
  ·clear hb2;go_enter Tryz.func74,Tryz.ntmps74
   go_wp2_with (go_at_call 108;refine (HM.out _ (Ad _ _)).mono ?_;rintro e w1 ⟨rfl,q,rfl⟩)
   go_ret;exact ⟨rfl,(Ad _ _).drewN _⟩
  ·clear hb2;have d1:decide (e < -1048576)=true:=by simp [hb]
   cases bm<;>(
    go_enter Tryz.func74,Tryz.ntmps74
    go_wp2_with (go_at_call 108;refine (HM.out _ (Ad _ _)).mono ?_;rintro e w1 ⟨rfl,q,rfl⟩)
    go_ret;exact ⟨rfl,(Ad _ _).drewN _⟩)
  ·clear hb2;have d1:decide (e < -1048576)=false:=by simp;omega
   have d2:decide (1048576<e)=true:=by simp [hb]
   cases bm<;>(
    go_enter Tryz.func74,Tryz.ntmps74
    go_wp2_with (go_at_call 108;refine (HM.out _ (Ad _ _)).mono ?_;rintro e w1 ⟨rfl,q,rfl⟩)
    go_ret;exact ⟨rfl,(Ad _ _).drewN _⟩)
 ·obtain rfl:bm=true:=by cases bm<;>simp_all
  have e1:-1048576≤e:=by
   by_cases h:-1048576≤e
   ·exact h
   ·exact absurd (.inr (.inl (by omega))) hbad
  have e2:e≤1048576:=by
   by_cases h:e≤1048576
   ·exact h
   ·exact absurd (.inr (.inr (by omega))) hbad
  have d1:decide (e < -1048576)=false:=by simp;omega
  have d2:decide (1048576<e)=false:=by simp;omega
  clear hbad HO;unfold Ew;simp only;by_cases h0:m.length=0
  ·rw [if_pos h0];clear hsm hA hbm;rw [h0];have HL:=hid h0;clear h0 hl hc e1 e2 h1 h2
   cases neg<;>(
    go_enter Tryz.func74,Tryz.ntmps74
    go_wp2_with (go_at_call 108;rw [HL.out] at HM;refine (HM.out _ (Ad _ _)).mono ?_;rintro e w1 ⟨rfl,q,rfl⟩)
    go_ret;exact ⟨rfl,(Ad _ _).drewN _⟩)
  ·rw [if_neg h0,hbm,decide_eq_true e1,decide_eq_true e2,Bool.and_true,Bool.and_true,Bool.true_and];obtain ⟨b,off,rfl,hb,hcell⟩:=hA (by omega);have hc0:=hcell 0 (by omega);have hlt0:=nth_lt hsm 0;have e0:(((m.length:Nat):Int)==0)=false:=by rw [beq_eq_false_iff_ne];omega
   have hl0:0<m.length:=by omega
   clear hcell hA hsm h0 e1 e2 hbm;have eand:bits .and .u64 ((nth m 0:Nat):Int) 1=((nth m 0%2:Nat):Int):=by
    have h:=bits_and_u64_nat (nth m 0) 1 hlt0 (by omega);rw [Nat.and_one_is_mod] at h;exact h
   have eb:(nth m 0%2==1)=(((nth m 0%2:Nat):Int)==1):=by
    rcases Nat.mod_two_eq_zero_or_one (nth m 0) with h | h<;>rw [h]<;>rfl
   rw [eb];rw [Nat.add_zero] at hc0;generalize nth m 0%2=y at *;generalize nth m 0=x at *;generalize m.length=l at *;clear eb;have HC:=hid (fun w1 (k:Kept w w1)=>(k.cell (p:=⟨b,off,none⟩) hb).trans hc0);clear hc0;go_enter Tryz.func74,Tryz.ntmps74
   go_wp2_with (go_at_call 108;refine (HM.out _ (Ad _ _)).mono ?_;rintro e w1 ⟨rfl,q,rfl⟩;have hcc:=HC.out _ ((Ad w (.cells #[.bool neg,.slice (some ⟨b,off,none⟩) l c,.int .i64 e] 28)).drewN q))
   go_ret;exact ⟨rfl,(Ad _ _).drewN _⟩
theorem Acp {v:Value}(hv:DyR w v r)(hl:r.m.length≤17592186044416) :
 Calls Tryz.prog 109 #[v] w (RetK (.int .i64 (Aed r)) w):=by
 have hm:=fun w1 (k:Kept w w1)=>S6 (hv.kept k) hl
 obtain ⟨neg,m,e⟩:=r;obtain ⟨s,rfl,hs,h1,h2⟩:=hv;obtain ⟨_,A,c,rfl,hc,_⟩:=hs;simp only at hc h1 h2 hl ⊢;unfold Aed;simp only;have HM:=hid hm;clear hm;generalize hb:Ew ⟨neg,m,e⟩=bm at *;cases bm
 ·rw [if_pos (Or.inl rfl)];go_enter Tryz.func109,Tryz.ntmps109
  go_wp2_with (go_at_call 74;refine (HM.out _ (Ad _ _)).mono ?_;rintro e w1 ⟨rfl,q⟩)
  go_ret;exact ⟨rfl,(Ad _ _).trans q⟩
 ·clear hb;generalize m.length=l at *;by_cases h0:l=0
  ·rw [if_pos (Or.inr h0)];subst h0;clear hl hc;go_enter Tryz.func109,Tryz.ntmps109
   go_wp2_with (go_at_call 74;refine (HM.out _ (Ad _ _)).mono ?_;rintro e w1 ⟨rfl,q⟩;obtain ⟨_,c0,c1,c2,_⟩:=((blk_new _ _ _ _).kept q).facts)
   go_ret;exact ⟨rfl,(Ad _ _).trans q⟩
  ·rw [if_neg (by rintro (h | h);exact absurd h (by decide);exact h0 h)];have e0:(((l:Nat):Int)==0)=false:=by rw [beq_eq_false_iff_ne];omega
   have HL:=hid h0;clear h0
   cases neg<;>(
    go_enter Tryz.func109,Tryz.ntmps109
    go_wp2_with (go_at_call 74;refine (HM.out _ (Ad _ _)).mono ?_;rintro e w1 ⟨rfl,q⟩;obtain ⟨_,c0,c1,c2,_⟩:=((blk_new _ _ _ _).kept q).facts)
    go_ret;exact ⟨rfl,(Ad _ _).trans q⟩)
namespace Dg
theorem RetLim.good (h:RetLim xs w e w'):Fk (fun u w=>Lim w u xs) w e w':=by
 obtain ⟨v,he,hl,hk⟩:=h;exact ⟨v,he,hk,hl⟩
def DN (w:World) (v:Value) (b:Bool) (n:Nat) (e:Int):Prop:=∃ A l c,v=.agg #[.bool b,.slice A l c,.int .i64 e]∧Lim w (.slice A l c) (limbs n)
theorem DN.kept {v:Value}{b:Bool}{e:Int}(h:DN w v b n e)(k:Kept w w'):DN w' v b n e:=by
 obtain ⟨A,l,c,rfl,h⟩:=h;exact ⟨A,l,c,rfl,h.kept k⟩
def RetN (b:Bool) (n:Nat) (e:Int) (w:World) (x:Ending) (w':World):Prop:=Kept w w'∧∃ v,x=.returned v∧DN w' v b n e
theorem RetN.good {b:Bool}{e:Int}{x:Ending}(h:RetN b n e w x w'):Fk (fun u w=>DN w u b n e) w x w':=by
 obtain ⟨k,v,he,hl⟩:=h;exact ⟨v,he,k,hl⟩
theorem Lim.shape {v:Value}(h:Lim w v xs):∃ A c,v=.slice A xs.length c:=by
 obtain ⟨_,A,c,rfl,-,-⟩:=h;exact ⟨A,c,rfl⟩
def Blk (w:World) (b:Nat) (x y z:Value):Prop:=w.heap[b]?=some (.cells #[x,y,z] 123 (0,0))
theorem Blk.facts {x y:Value}(h:Blk w b x y z):b<w.heap.size∧w.cell? ⟨b,0,none⟩=some x∧w.cell? ⟨b,1,none⟩=some y∧w.cell? ⟨b,2,none⟩=some z ∧
 w.frozen? ⟨b,0,none⟩=false∧w.frozen? ⟨b,1,none⟩=false∧w.frozen? ⟨b,2,none⟩=false :=
 ⟨(Array.getElem?_eq_some_iff.1 h).1,Ae h 0 _ rfl,Ae h 1 _ rfl,Ae h 2 _ rfl,Ap h 0,Ap h 1,Ap h 2⟩
theorem Blk.kept {x y:Value}(h:Blk w b x y z)(k:Kept w w1):Blk w1 b x y z :=
 (k.block b (Array.getElem?_eq_some_iff.1 h).1).trans h
theorem blk_new (w:World)(x y z:Value):Blk (w.alloc (.cells #[x,y,z] 123)) w.heap.size x y z:=heap_alloc_new _ _
theorem Blk.laid {x y:Value}(h:Blk w b x y z)(x' y' z':Value):Blk (dyW w b x' y' z') b x' y' z' :=
 Aw (Aw (Aw h _) _) _
theorem Anl {fn:Func}{R:Ending→World→Prop}{a:Act}{t:Nat}{x y:Value}(h:Blk w b x y z)
 (hres:fn.results=#[.cell t 123]) (ht:a.tmps.getD t undef=.pointer (some ⟨b,0,none⟩)) (hd:a.defers=[]) (hR:R (.returned (.agg #[x,y,z])) w) :
 bodyPost Tryz.prog fn R .ret a w:=by
 obtain ⟨_,c0,c1,c2,_⟩:=h.facts;refine bodyPost_ret (v:=.agg #[x,y,z]) ?_ hd hR;have ht2:a.tmps[t]?.getD undef=.pointer (some ⟨b,0,none⟩):=by simpa using ht
 simp [results,hres,ht2,go_sem,c0,c1,c2]
theorem Lim.dyW {x y:Value}(h:Lim w s xs)(h0:w.heap[b2]?=some (.cells #[x,y,z] T (0,0)))(hx:∀ n,¬x=.int .u32 n)(hy:∀ n,¬y=.int .u32 n)(hz:∀ n,¬z=.int .u32 n) :
 Lim (dyW w b2 x' y' z') s xs:=by
 obtain ⟨hsm,A,c,rfl,hc,hA⟩:=h;refine ⟨hsm,A,c,rfl,hc,fun hp=>?_⟩;obtain ⟨b,off,rfl,hb,hcell⟩:=hA hp;have n2:¬b=b2:=by
  rintro rfl;have h5:=hcell 0 hp;simp only [World.cell?,h0] at h5;rcases off with _ | _ | _ | off
  ·simp at h5;exact hx _ h5
  ·simp at h5;exact hy _ h5
  ·simp at h5;exact hz _ h5
  ·simp at h5
 have e:(Go.Proofs.YtabjjdicffcolaaGreatDoor.dyW w b2 x' y' z').heap[b]?=w.heap[b]?:=by
  unfold Go.Proofs.YtabjjdicffcolaaGreatDoor.dyW;rw [Below.heap_setCell _ _ _ _ n2,Below.heap_setCell _ _ _ _ n2,Below.heap_setCell _ _ _ _ n2]
 refine ⟨b,off,rfl,?_,fun i hi=>?_⟩
 ·unfold Go.Proofs.YtabjjdicffcolaaGreatDoor.dyW;simpa [World.setCell] using hb
 ·rw [←hcell i hi];simp only [World.cell?,e]
theorem Alb (w:World)(x y z p q r:Value):∃ W,W=(w.alloc (.cells #[x,y,z] 28)).alloc (.cells #[p,q,r] 123) ∧
 Kept w W∧Go.Proofs.YtabjjdicffcolaaGreatDoor.Blk W w.heap.size x y z∧Blk W (w.heap.size+1) p q r:=by
 refine ⟨_,rfl,(Ad _ _).trans (Ad _ _),Bb (Go.Proofs.YtabjjdicffcolaaGreatDoor.blk_new _ _ _ _) _,?_⟩;have:=blk_new (w.alloc (.cells #[x,y,z] 28)) p q r;simpa using this
theorem of_c {v:Value}(hv:DyR w v r)(hl:r.m.length≤100000) :
 Calls Tryz.prog 111 #[v] w (RetN r.neg (Go.Proofs.YtabjjdicffcolaaGreatDoor.val r.m) r.e w):=by
 obtain ⟨A,l,c,rfl,-,hs,-,-⟩:=hv.shape;have C:=hid (fun w1 (k:Kept w w1)=>All (hs.kept k) hl);clear hv hs hl;generalize Go.Proofs.YtabjjdicffcolaaGreatDoor.val r.m=n at *;generalize r.neg=b,r.e=e at *;obtain ⟨W,hW,kW,BA,BB⟩:=Alb w (.bool b) (.slice A l c) (.int .i64 e) (.bool false) (.slice none 0 0) (.int .i64 0);have HW:=hid hW;have K:=hid kW;have HA:=hid BA;have HB:=hid BB;clear hW kW BA BB;go_enter Tryz.func111,Tryz.ntmps111;go_wp2_with fail;rw [←HW.out]
 refine Ny 8 ([(vP w.heap.size 0),(vE (.bool b)),(vP w.heap.size 1),(vE (.slice A l c)),(fun v wv=>Lim wv v (limbs n)),(vP w.heap.size 2),(vE (.int .i64 e)),(fun v wv=>DN wv v b n e)])
  (hM:=⟨⟨mE,mE,mE,mE,fun v w w' k h=>Lim.kept h k,mE,mE,fun v w w' k h=>by first | exact h | exact h.kept k | exact ⟨h.1,h.2.kept k⟩,trivial⟩⟩) ⟨
    (gq 1),(gvl 0 3 fun _ k=>Ai HA.out k 0 _ rfl),(gq 1),(gvl 2 5 fun _ k=>Ai HA.out k 1 _ rfl),(fun aF wF F=>by have s6:=F.v 3 6;exact Av (by simp [Region.wanted]) (by go_simp) (C.out _ (K.out.trans F.kept)) (fun _ _ h=>(RetLim.good h)) (fun _ _ h=>h)),(gq 1),(gvl 5 8 fun _ k=>Ai HA.out k 2 _ rfl),(fun aF wF F=>by have s4:=F.v 1 4;have s7:=F.p 4 7;have s9:=F.v 6 9;simp only [Array.getD_eq_getD_getElem?] at s4;simp only [Array.getD_eq_getD_getElem?] at s9;obtain ⟨X1,X2,ee⟩:=s7.shape;rw [ee] at s7;simp only [Array.getD_eq_getD_getElem?] at ee;exact sv ⟨_,_,_,rfl,s7⟩),
    trivial⟩ ?_
 intro u w1 k1 hu;have p7:=hp hu 4;have p10:=hp hu 7;simp only [Ax,Al,if_true,Act.put,zlA,zlB,zlC,zlD,zlE,zlF,zlG,hv hu 0,hv hu 1,hv hu 2,hv hu 3,hv hu 5,hv hu 6];clear hu;generalize u 4=v7,u 7=v10 at *;obtain ⟨A1,l1,c1,rfl,z1⟩:=p10;have hx:=HB.out.kept k1;obtain ⟨-,x0,x1,x2,f0,f1,f2⟩:=hx.facts;clear p7;have Z:=hid z1;have HX:=hid hx;have KK:=hid (K.out.trans k1);clear z1 hx k1;go_wp2_with fail;exact Anl (HX.out.laid _ _ _) rfl rfl rfl ⟨An KK.out (by omega),_,rfl,_,_,_,rfl,Z.out.dyW HX.out (by simp) (by simp) (by simp)⟩
end Dg
end Go.Proofs.YtabjjdicffcolaaGreatDoor
