/- Words and contracts, part 18. -/
import Derived.Test.YtmgaloopddiekaaGreatDoorClaimFargsp16
import Derived.Test.YtmgaloopddiekaaGreatDoorClaimFargsp17
import Derived.KernelRfl
set_option maxRecDepth 100000
set_option maxHeartbeats 0
namespace Go.Proofs.YtmgaloopddiekaaGreatDoor
open Go.Lib (hid)
open Go.RowKit
section
variable {P:Program} {ops:Array Oper} {Q:Exit→Act→World→Prop} {md:Region.Mode}
def VL (l:List (Value→World→Prop)):Nat→Value→World→Prop:=fun i v w=>(l.getD i (fun _ _=>True)) v w
def I6 (p:Value→World→Prop):Prop:=∀ v w w',Kept w w'→p v w→p v w'
def Je:List (Value→World→Prop)→Prop
 | []=>True
 | p::l=>I6 p∧Je l
theorem Hc:∀ (l:List (Value→World→Prop)),Je l→∀ i v w w',Kept w w'→VL l i v w→VL l i v w'
 | [],_,_,_,_,_,_,_=>trivial
 | _::_,h,0,v,w,w',k,hv=>h.1 v w w' k hv
 | _::l,h,i+1,v,w,w',k,hv=>Hc l h.2 i v w w' k hv
def Hw (P:Program) (md:Region.Mode) (ops:Array Oper) (Q:Exit→Act→World→Prop) (m:Nat) (V:Nat→Value→World→Prop) (a0:Act) (W:World):Nat→Nat→List Oper→Prop
 | _,0,_=>True
 | _,_+1,[]=>True
 | i,k+1,o::l=>(∀ a w,Finds md ops m V a0 W i a w→Bp P ops Q V i o a w)∧Hw P md ops Q m V a0 W (i+1) k l
theorem Vr {m:Nat}{V:Nat→Value→World→Prop}{a0:Act}{W:World}:∀ (k i0:Nat) (l:List Oper),Hw P md ops Q m V a0 W i0 k l →
 ∀ i o,i<k→l[i]?=some o→∀ a w,Finds md ops m V a0 W (i0+i) a w→Bp P ops Q V (i0+i) o a w
 | 0,_,_,_,_,_,hi,_=>absurd hi (Nat.not_lt_zero _)
 | k+1,_,[],_,_,_,_,ho=>by simp at ho
 | k + 1, i0, x :: l, h, 0, o, _, ho => by
   simp at ho;subst ho;exact h.1
 | k + 1, i0, x :: l, h, i + 1, o, hi, ho => by
   have:=Vr k (i0+1) l h.2 i o (by omega) (by simpa using ho);have e:i0+1+i=i0+(i+1):=by omega
   rw [e] at this;exact this
theorem Ho {m:Nat}{V:Nat→Value→World→Prop}{a0:Act}{W:World}(h:Hw P md ops Q m V a0 W 0 m ops.toList) :
 ∀ i o,i<m→ops[i]?=some o→∀ a w,Finds md ops m V a0 W i a w→Bp P ops Q V i o a w:=by
 intro i o hi ho;have:=Vr m 0 ops.toList h i o hi (by simpa using ho);simpa using this
theorem A0 {V:Nat→Value→World→Prop}{i:Nat}{o:Oper}{a:Act}{w:World}{v:Value}(hw:Region.wanted o (yielded ops a.tmps)=true)
 (h:(execOp a.eval o).run P w=.ok (.value v) w) (hv:V i v w):Bp P ops Q V i o a w:=by
 unfold Bp;rw [if_pos hw];unfold Oper.wp;rw [h];exact ⟨v,rfl,Below.refl _ _,hv⟩
theorem Al {o:Oper}{tmps:Array Value}{g t:Nat}{b v:Bool}(hg:o.guard=some (g,b))(hs:Au ops g=some t)(hv:tmps.getD t undef=.bool v):Region.wanted o (yielded ops tmps)=(v==b):=by
 have h1:tmps[t]?=some (.bool v):=by
  rw [Array.getD_eq_getD_getElem?] at hv;cases h:tmps[t]? with
  | none=>rw [h] at hv;cases hv
  | some x=>rw [h] at hv;simp at hv;rw [hv]
 unfold Au at hs;simp only [Region.wanted,hg,yielded,hs,Option.bind_some,h1];cases v<;>cases b<;>rfl
theorem Vq {V:Nat→Value→World→Prop}{i:Nat}{o:Oper}{a:Act}{w:World}
 (h:Region.wanted o (yielded ops a.tmps)=false) (hv:V i undef w):Bp P ops Q V i o a w:=by
 unfold Bp;rw [if_neg (by rw [h];simp)];exact hv
theorem Kt {V:Nat→Value→World→Prop}{i:Nat}{o:Oper}{a:Act}{w w':World}{v:Value}(hw:Region.wanted o (yielded ops a.tmps)=true)
 (h:(execOp a.eval o).run P w=.ok (.value v) w') (hk:Kept w w') (hv:V i v w'):Bp P ops Q V i o a w:=by
 unfold Bp;rw [if_pos hw];unfold Oper.wp;rw [h];exact ⟨v,rfl,hk,hv⟩
theorem Ia {V:Nat→Value→World→Prop}{i:Nat}{o:Oper}{a:Act}{w:World}{f:FuncId}{args:Array Value}{R:Ending→World→Prop}(hw:Region.wanted o (yielded ops a.tmps)=true)
 (h:(execOp a.eval o).run P w=.ok (.enter f args) w) (hc:Calls P f args w R)
 (hr:∀ e w',R e w'→(∃ v,e=.returned v∧Kept w w'∧V i v w')∨(∃ c,e=.panicked c∧Q (.panic c) a w')):Bp P ops Q V i o a w:=by
 unfold Bp;rw [if_pos hw];unfold Oper.wp;rw [h];refine Calls.mono hc (fun e w' he=>?_);rcases hr e w' he with ⟨v,rfl,hk,hv⟩ | ⟨c,rfl,hq⟩
 ·exact ⟨v,rfl,hk,hv⟩
 ·exact hq
end
theorem Ai {W w:World}{b:Nat}{cs:Array Value}{T:TypeId}(h:W.heap[b]?=some (.cells cs T (0,0)))(k:Kept W w)(i:Nat)(v:Value)(hi:cs[i]?=some v):w.cell? ⟨b,i,none⟩=some v :=
 Ag ((k.block b (Array.getElem?_eq_some_iff.1 h).1).trans h) i v hi
def Ex (p:Value→World→Prop) (w:World) (e:Ending) (w':World):Prop:=∃ v,e=.returned v∧Kept w w'∧p v w'
theorem RetQ.good {v:Value}{w w':World}{e:Ending}(h:RetQ v w e w'):Ex (fun u _=>u=v) w e w':=by
 obtain ⟨he,n,rfl⟩:=h;exact ⟨v,he,Kept.drewN (Below.refl _ _) n,rfl⟩
theorem RetK.good {v:Value}{w w':World}{e:Ending}(h:RetK v w e w'):Ex (fun u _=>u=v) w e w':=⟨v,h.1,h.2,rfl⟩
theorem RetLim.good {xs:List Nat}{w w':World}{e:Ending}(h:RetLim xs w e w'):Ex (fun u w=>Lim w u xs) w e w':=by
 obtain ⟨v,he,hl,k⟩:=h;exact ⟨v,he,k,hl⟩
theorem RetD.good {r:Raw}{w w':World}{e:Ending}(h:RetD r w e w'):Ex (fun u w=>DyR w u r) w e w':=by
 obtain ⟨k,v,he,hl⟩:=h;exact ⟨v,he,k,hl⟩
theorem RetE.good {o:Outc Raw}{w w':World}{e:Ending}(h:RetE o w e w'):Ex (fun u w=>∃ d,u=.tuple #[d,.int .i64 o.k]∧DyR w d o.v) w e w':=by
 obtain ⟨k,v,he,hl⟩:=h;exact ⟨_,he,k,v,rfl,hl⟩
theorem RetQR.good {n m:Nat}{w w':World}{e:Ending}(h:RetQR n m w e w'):Ex (fun u w=>∃ q r,u=.tuple #[q,r]∧Lim w q (limbs (n/m))∧Lim w r (limbs (n%m))) w e w':=by
 obtain ⟨q,r,he,h1,h2,k⟩:=h;exact ⟨_,he,k,q,r,rfl,h1,h2⟩
section
variable {P:Program} {ops:Array Oper} {Q:Exit→Act→World→Prop}
theorem Bi {V:Nat→Value→World→Prop}{i:Nat}{o:Oper}{a:Act}{w:World}{f:FuncId}{args:Array Value}{R:Ending→World→Prop}{p:Value→World→Prop}(hw:Region.wanted o (yielded ops a.tmps)=true)
 (h:(execOp a.eval o).run P w=.ok (.enter f args) w) (hc:Calls P f args w R)
 (hr:∀ e w',R e w'→Ex p w e w') (hp:∀ v w',p v w'→V i v w'):Bp P ops Q V i o a w :=
 Ia hw h hc fun e w' he=>by
  obtain ⟨v,he,k,hv⟩:=hr e w' he;exact .inl ⟨v,he,k,hp v w' hv⟩
theorem Aas {V:Nat→Value→World→Prop}{i:Nat}{o:Oper}{a:Act}{w:World}{f:FuncId}{args:Array Value}{T:TypeId}{t:Outc Raw}(hw:Region.wanted o (yielded ops a.tmps)=true)
 (h:(execOp a.eval o).run P w=.ok (.enter f args) w) (hc:Calls P f args w (Goes T t w))
 (hp:∀ v w',Kept w w'→t.k=0→DyR w' v t.v→V i v w') (hq:∀ w',Kept w w'→t.k≠0→Q (.panic (Ch T t.k)) a w'):Bp P ops Q V i o a w :=
 Ia hw h hc fun e w' he=>by
  obtain ⟨k,⟨h0,v,he,hd⟩ | ⟨h0,he⟩⟩:=he
  ·exact .inl ⟨v,he,k,hp v w' k h0 hd⟩
  ·exact .inr ⟨_,he,hq w' k h0⟩
end
theorem zlA {α:Type}(xs:List α)(i:Nat)(a:α):xs.toArray.setIfInBounds i a=(xs.set i a).toArray:=List.setIfInBounds_toArray ..
theorem zlB {α:Type}(a b:α)(l:List α):(a::l).set 0 b=b::l:=List.set_cons_zero ..
theorem zlC {α:Type}(a b:α)(l:List α)(n:Nat):(a::l).set (n+1) b=a::l.set n b:=List.set_cons_succ ..
theorem zlD {α:Type}(xs:List α)(i:Nat):xs.toArray[i]?=xs[i]?:=List.getElem?_toArray ..
theorem zlE {α:Type}(a:α)(l:List α):(a::l)[0]?=some a:=List.getElem?_cons_zero ..
theorem zlF {α:Type}(a:α)(l:List α)(i:Nat):(a::l)[i+1]?=l[i]?:=List.getElem?_cons_succ ..
theorem zlG {α β:Type}(f:α→Option β)(a:α):(some a).bind f=f a:=Option.bind_some ..
def vE (x:Value):Value→World→Prop:=fun v _=>v=x
abbrev vP (b o:Nat):Value→World→Prop:=vE (.pointer (some ⟨b,o,none⟩))
theorem mE {x:Value}:I6 (vE x):=fun _ _ _ _ h=>h
theorem mD {r:Raw}:I6 (fun v w=>DyR w v r):=fun _ _ _ k h=>h.kept k
theorem mL {r:List Nat}:I6 (fun v w=>Lim w v r):=fun _ _ _ k h=>h.kept k
theorem Fl {p:Prop}(h:Nonempty p):p:=h.elim id
instance monoL0:Nonempty (Je []):=⟨trivial⟩
instance monoL1 {p:Value→World→Prop} {l:List (Value→World→Prop)} [h:Nonempty (I6 p)] [h':Nonempty (Je l)]:Nonempty (Je (p::l)):=⟨⟨Fl h,Fl h'⟩⟩
instance iE {x:Value}:Nonempty (I6 (vE x)):=⟨mE⟩
instance iC {c:Value→Prop}:Nonempty (I6 fun v _=>c v):=⟨fun _ _ _ _ h=>h⟩
instance iD {r:Raw}:Nonempty (I6 fun v w=>DyR w v r):=⟨mD⟩
instance iL {r:List Nat}:Nonempty (I6 fun v w=>Lim w v r):=⟨mL⟩
instance iA {c:Prop} {p:Value→World→Prop} [h:Nonempty (I6 p)]:Nonempty (I6 fun v w=>c∧p v w):=⟨fun v w w' k q=>⟨q.1,Fl h v w w' k q.2⟩⟩
instance iB {c:Prop} {p:Value→World→Prop} [h:Nonempty (I6 p)]:Nonempty (I6 fun v w=>p v w∧c):=⟨fun v w w' k q=>⟨Fl h v w w' k q.1,q.2⟩⟩
instance iX {f:Value→Value} {p:Value→World→Prop} [h:Nonempty (I6 p)]:Nonempty (I6 fun v w=>∃ d,v=f d∧p d w):=⟨fun _ w w' k q=>by obtain ⟨d,e,q⟩:=q;exact ⟨d,e,Fl h d w w' k q⟩⟩
instance iN {S:Nat} {x y z:Value}:Nonempty (I6 fun v w=>∃ b,v=.pointer (some ⟨b,0,none⟩)∧S≤b∧Blk w b x y z):=⟨fun _ _ _ k q=>by obtain ⟨b,e,q1,q2⟩:=q;exact ⟨b,e,q1,q2.kept k⟩⟩
theorem c6 {W w:World}{b:Nat}{x0 x1 x2 x3 x4 x5:Value}{T:TypeId}(h:W.heap[b]?=some (.cells #[x0,x1,x2,x3,x4,x5] T (0,0)))(k:Kept W w) :
 w.cell? ⟨b,0,none⟩=some x0∧w.cell? ⟨b,1,none⟩=some x1∧w.cell? ⟨b,2,none⟩=some x2∧w.cell? ⟨b,3,none⟩=some x3∧w.cell? ⟨b,4,none⟩=some x4∧w.cell? ⟨b,5,none⟩=some x5 :=
 ⟨Ai h k 0 _ rfl,Ai h k 1 _ rfl,Ai h k 2 _ rfl,Ai h k 3 _ rfl,Ai h k 4 _ rfl,Ai h k 5 _ rfl⟩
theorem c3 {W w:World}{b:Nat}{x0 x1 x2:Value}{T:TypeId}(h:W.heap[b]?=some (.cells #[x0,x1,x2] T (0,0)))(k:Kept W w) :
 w.cell? ⟨b,0,none⟩=some x0∧w.cell? ⟨b,1,none⟩=some x1∧w.cell? ⟨b,2,none⟩=some x2 :=
 ⟨Ai h k 0 _ rfl,Ai h k 1 _ rfl,Ai h k 2 _ rfl⟩
section
variable {P:Program} {ops:Array Oper} {Q:Exit→Act→World→Prop} {id:Nat} {o o':Oper} {a0:Act} {W:World}
theorem rgL (m:Nat)(l:List (Value→World→Prop))(hs:Hw P .any ops Q m (VL l) a0 W 0 m ops.toList)(he:∀ u w,Kept W w→(∀ i,i<m→VL l i (u i) w)→Q .normal (Bl ops (fun _=>true) u m a0) w)(hM:Nonempty (Je l):=by infer_instance)
 (hm:P.follows .mixedOrders=true:=by kernel_rfl) (hz:m=ops.size:=by exact rfl) (ha:Cb ops m=true:=by kernel_rfl) (hi:Cy ops m a0.tmps.size=true:=by kernel_rfl) (hb:Dc .any ops=true:=by kernel_rfl):(Code.region id ops true).wp P Q a0 W :=
 Xh hm hz ha hi hb (Hc l (Fl hM)) (Ho hs) he
theorem Nb (m:Nat)(l:List (Value→World→Prop))(hs:Hw P .any ops Q m (VL l) a0 W 0 m ops.toList)(he:∀ u w,Kept W w→(∀ i,i<m→VL l i (u i) w)→o.wp P (Bl ops (fun _=>true) u m a0) w (Q .normal) Q)(hM:Nonempty (Je l):=by infer_instance)
 (hm:P.follows .mixedOrders=true:=by kernel_rfl) (hz:m+1=ops.size:=by exact rfl) (ho:ops[m]?=some o:=by exact rfl) (hg:o.guard=none:=by exact rfl) (ha:Cb ops m=true:=by kernel_rfl) (hi:Cy ops m a0.tmps.size=true:=by kernel_rfl)
 (ht:Jb .any ops m=true:=by kernel_rfl) (hb:Dc .any ops=true:=by kernel_rfl):(Code.region id ops true).wp P Q a0 W :=
 Vc hm hz ho hg ha hi ht hb (Hc l (Fl hM)) (Ho hs) he
theorem Aac (m:Nat)(l:List (Value→World→Prop))(hs:Hw P .any ops Q m (VL l) a0 W 0 m ops.toList)(he:∀ u w,Kept W w→(∀ i,i<m→VL l i (u i) w)→o.wp P (Bl ops (fun _=>true) u m a0) w (fun a w=>o'.wp P a w (Q .normal) Q) Q ∧
 (Bm .any ops (m+1) m=true∨o'.wp P (Bl ops (fun _=>true) u m a0) w (fun a w=>o.wp P a w (Q .normal) Q) Q)) (hM:Nonempty (Je l):=by infer_instance)
 (hm:P.follows .mixedOrders=true:=by kernel_rfl) (hz:m+2=ops.size:=by exact rfl) (ho:ops[m]?=some o:=by exact rfl) (hg:o.guard=none:=by exact rfl) (ho':ops[m+1]?=some o':=by exact rfl) (hg':o'.guard=none:=by exact rfl) (ha:Cb ops m=true:=by kernel_rfl)
 (hi:Cy ops m a0.tmps.size=true:=by kernel_rfl) (ht:Jb .any ops m=true:=by kernel_rfl) (hb:Dc .any ops=true:=by kernel_rfl):(Code.region id ops true).wp P Q a0 W :=
 Vd hm hz ho hg ho' hg' ha hi ht hb (Hc l (Fl hM)) (Ho hs) he
end
section
variable {P:Program} {ops:Array Oper} {Q:Exit→Act→World→Prop} {md:Region.Mode} {m i:Nat} {l:List (Value→World→Prop)} {a0 a:Act} {W w:World}
theorem Finds.v (F:Finds md ops m (VL l) a0 W i a w)(j t:Nat){x:Value}(h:l.getD j (fun _ _=>True)=vE x:=by exact rfl)(h1:Bm md ops i j=true:=by kernel_rfl)(h2:Au ops j=some t:=by exact rfl):a.tmps.getD t undef=x:=by
 have h3:=F.done j t h1 h2;unfold VL at h3;rw [h] at h3;exact h3
theorem Finds.p (F:Finds md ops m (VL l) a0 W i a w)(j t:Nat){p:Value→World→Prop}(h:l.getD j (fun _ _=>True)=p:=by exact rfl)(h1:Bm md ops i j=true:=by kernel_rfl)(h2:Au ops j=some t:=by exact rfl):p (a.tmps.getD t undef) w:=by
 have h3:=F.done j t h1 h2;unfold VL at h3;rw [h] at h3;exact h3
theorem Finds.q {V:Nat→Value→World→Prop}(F:Finds md ops m V a0 W i a w)(t:Nat)(x:Value)(h:Ef md ops m i t=true:=by kernel_rfl)(e:a0.tmps.getD t undef=x:=by exact rfl):a.tmps.getD t undef=x:=(F.old t h).trans e
theorem Finds.o {V:Nat→Value→World→Prop}(F:Finds md ops m V a0 W i a w)(t:Nat)(h:Ef md ops m i t=true:=by kernel_rfl):a.tmps.getD t undef=a0.tmps.getD t undef:=F.old t h
theorem hv {u:Nat→Value}(hu:∀ i,i<m→VL l i (u i) w)(i:Nat){x:Value}(h:l.getD i (fun _ _=>True)=vE x:=by exact rfl)(h2:i<m:=by decide):u i=x:=by
 have h3:=hu i h2;unfold VL at h3;rw [h] at h3;exact h3
theorem hp {u:Nat→Value}(hu:∀ i,i<m→VL l i (u i) w)(i:Nat){p:Value→World→Prop}(h:l.getD i (fun _ _=>True)=p:=by exact rfl)(h2:i<m:=by decide):p (u i) w:=by
 have h3:=hu i h2;unfold VL at h3;rw [h] at h3;exact h3
variable {V:Nat→Value→World→Prop} {o:Oper} {v:Value} {f:FuncId} {args:Array Value}
theorem sv (hv:V i v w)(hw:Region.wanted o (yielded ops a.tmps)=true:=by simp [Region.wanted])(h:(execOp a.eval o).run P w=.ok (.value v) w:=by go_simp):Bp P ops Q V i o a w:=A0 hw h hv
theorem sw (h:(execOp a.eval o).run P w=.ok (.value v) w)(hv:V i v w)(hw:Region.wanted o (yielded ops a.tmps)=true:=by simp [Region.wanted]):Bp P ops Q V i o a w:=A0 hw h hv
theorem sx (hv:V i v w)(hw:Region.wanted o (yielded ops a.tmps)=true:=by simp [Region.wanted])(h:(execOp a.eval o).run P w=.ok (.value v) w:=by exact rfl):Bp P ops Q V i o a w:=A0 hw h hv
theorem sNa {x:Obj}{v:Value}(hv:V i v (w.alloc x))(hw:Region.wanted o (yielded ops a.tmps)=true:=by simp [Region.wanted])(h:(execOp a.eval o).run P w=.ok (.value v) (w.alloc x):=by first | (go_simp;done) | (go_simp;rfl)):Bp P ops Q V i o a w:=Kt hw h (Ad _ _) hv
theorem sN {x:Obj}{v:Value}(hv:V i v (w.alloc x))(hw:Region.wanted o (yielded ops a.tmps)=true:=by simp [Region.wanted])(h:(execOp a.eval o).run P w=.ok (.value v) (w.alloc x):=by go_simp):Bp P ops Q V i o a w:=Kt hw h (Ad _ _) hv
theorem sQ {x:Value}(hc:Calls P f args w (RetQ x w))(hp:∀ v w',v=x→V i v w')(hw:Region.wanted o (yielded ops a.tmps)=true:=by simp [Region.wanted])(h:(execOp a.eval o).run P w=.ok (.enter f args) w:=by go_simp):Bp P ops Q V i o a w :=
 Bi hw h hc (fun _ _ h=>RetQ.good h) hp
theorem sK {x:Value}(hc:Calls P f args w (RetK x w))(hp:∀ v w',v=x→V i v w')(hw:Region.wanted o (yielded ops a.tmps)=true:=by simp [Region.wanted])(h:(execOp a.eval o).run P w=.ok (.enter f args) w:=by go_simp):Bp P ops Q V i o a w :=
 Bi hw h hc (fun _ _ h=>RetK.good h) hp
theorem sL {x:List Nat}(hc:Calls P f args w (RetLim x w))(hp:∀ v w',Lim w' v x→V i v w')(hw:Region.wanted o (yielded ops a.tmps)=true:=by simp [Region.wanted])(h:(execOp a.eval o).run P w=.ok (.enter f args) w:=by go_simp):Bp P ops Q V i o a w :=
 Bi hw h hc (fun _ _ h=>RetLim.good h) hp
theorem sD {x:Raw}(hc:Calls P f args w (RetD x w))(hp:∀ v w',DyR w' v x→V i v w')(hw:Region.wanted o (yielded ops a.tmps)=true:=by simp [Region.wanted])(h:(execOp a.eval o).run P w=.ok (.enter f args) w:=by go_simp):Bp P ops Q V i o a w :=
 Bi hw h hc (fun _ _ h=>RetD.good h) hp
theorem sE {x:Outc Raw}(hc:Calls P f args w (RetE x w))(hp:∀ v w',(∃ d,v=.tuple #[d,.int .i64 x.k]∧DyR w' d x.v)→V i v w')(hw:Region.wanted o (yielded ops a.tmps)=true:=by simp [Region.wanted])(h:(execOp a.eval o).run P w=.ok (.enter f args) w:=by go_simp):Bp P ops Q V i o a w :=
 Bi hw h hc (fun _ _ h=>RetE.good h) hp
theorem sG {T:TypeId}{t:Outc Raw}(hc:Calls P f args w (Goes T t w))(hp:∀ v w',Kept w w'→t.k=0→DyR w' v t.v→V i v w')(hq:∀ w',Kept w w'→t.k≠0→Q (.panic (Ch T t.k)) a w')(hw:Region.wanted o (yielded ops a.tmps)=true:=by simp [Region.wanted])(h:(execOp a.eval o).run P w=.ok (.enter f args) w:=by go_simp):Bp P ops Q V i o a w :=
 Aas hw h hc hp hq
theorem gv (j t:Nat){x:Value}{y:Value}(h:l.getD j (fun _ _=>True)=vE x:=by exact rfl)(h1:Bm md ops i j=true:=by kernel_rfl)(h2:Au ops j=some t:=by exact rfl)(hy:l.getD i (fun _ _=>True)=vE y:=by exact rfl)(hg:o.guard=none:=by exact rfl)(hx:∀ (a:Act) (w:World),a.tmps.getD t undef=x→(execOp a.eval o).run P w=.ok (.value y) w:=by intro aF wF s;go_simp):∀ a w,Finds md ops m (VL l) a0 W i a w→Bp P ops Q (VL l) i o a w:=fun a w F=>A0 (by simp [Region.wanted,hg]) (hx a w (F.v j t h h1 h2)) (by unfold VL;rw [hy];rfl)
theorem gq (t:Nat){x:Value}{y:Value}(h:Ef md ops m i t=true:=by kernel_rfl)(h1:a0.tmps.getD t undef=x:=by exact rfl)(hy:l.getD i (fun _ _=>True)=vE y:=by exact rfl)(hg:o.guard=none:=by exact rfl)(hx:∀ (a:Act) (w:World),a.tmps.getD t undef=x→(execOp a.eval o).run P w=.ok (.value y) w:=by intro aF wF s;go_simp):∀ a w,Finds md ops m (VL l) a0 W i a w→Bp P ops Q (VL l) i o a w:=fun a w F=>A0 (by simp [Region.wanted,hg]) (hx a w ((F.old t h).trans h1)) (by unfold VL;rw [hy];rfl)
theorem gm (j t:Nat){p:Value→World→Prop}(h:l.getD j (fun _ _=>True)=p:=by exact rfl)(hy:l.getD i (fun _ _=>True)=p:=by exact rfl)(h1:Bm md ops i j=true:=by kernel_rfl)(h2:Au ops j=some t:=by exact rfl)(hg:o.guard=none:=by exact rfl)(hx:∀ (a:Act) (w:World),(execOp a.eval o).run P w=.ok (.value (a.tmps.getD t undef)) w:=by intro _ _;exact rfl):∀ a w,Finds md ops m (VL l) a0 W i a w→Bp P ops Q (VL l) i o a w:=fun a w F=>A0 (by simp [Region.wanted,hg]) (hx a w) (by unfold VL;rw [hy];exact F.p j t h h1 h2)
theorem gvv (j t j' t':Nat){x x':Value}{y:Value}(h:l.getD j (fun _ _=>True)=vE x:=by exact rfl)(h1:Bm md ops i j=true:=by kernel_rfl)(h2:Au ops j=some t:=by exact rfl)(h':l.getD j' (fun _ _=>True)=vE x':=by exact rfl)(h'1:Bm md ops i j'=true:=by kernel_rfl)(h'2:Au ops j'=some t':=by exact rfl)(hy:l.getD i (fun _ _=>True)=vE y:=by exact rfl)(hg:o.guard=none:=by exact rfl)(hx:∀ (a:Act) (w:World),a.tmps.getD t undef=x→a.tmps.getD t' undef=x'→(execOp a.eval o).run P w=.ok (.value y) w:=by intro aF wF s s';go_simp):∀ a w,Finds md ops m (VL l) a0 W i a w→Bp P ops Q (VL l) i o a w:=fun a w F=>A0 (by simp [Region.wanted,hg]) (hx a w (F.v j t h h1 h2) (F.v j' t' h' h'1 h'2)) (by unfold VL;rw [hy];rfl)
theorem gvl (j t:Nat){x:Value}{p:World→Prop}{y:Value}(c:∀ w,Kept W w→p w)(h:l.getD j (fun _ _=>True)=vE x:=by exact rfl)(h1:Bm md ops i j=true:=by kernel_rfl)(h2:Au ops j=some t:=by exact rfl)(hy:l.getD i (fun _ _=>True)=vE y:=by exact rfl)(hg:o.guard=none:=by exact rfl)(hx:∀ (a:Act) (w:World),a.tmps.getD t undef=x→p w→(execOp a.eval o).run P w=.ok (.value y) w:=by intro aF wF s c;go_simp):∀ a w,Finds md ops m (VL l) a0 W i a w→Bp P ops Q (VL l) i o a w:=fun a w F=>A0 (by simp [Region.wanted,hg]) (hx a w (F.v j t h h1 h2) (c w F.kept)) (by unfold VL;rw [hy];rfl)
theorem gql (t:Nat){x:Value}{p:World→Prop}{y:Value}(c:∀ w,Kept W w→p w)(h:Ef md ops m i t=true:=by kernel_rfl)(h1:a0.tmps.getD t undef=x:=by exact rfl)(hy:l.getD i (fun _ _=>True)=vE y:=by exact rfl)(hg:o.guard=none:=by exact rfl)(hx:∀ (a:Act) (w:World),a.tmps.getD t undef=x→p w→(execOp a.eval o).run P w=.ok (.value y) w:=by intro aF wF s c;go_simp):∀ a w,Finds md ops m (VL l) a0 W i a w→Bp P ops Q (VL l) i o a w:=fun a w F=>A0 (by simp [Region.wanted,hg]) (hx a w ((F.old t h).trans h1) (c w F.kept)) (by unfold VL;rw [hy];rfl)
theorem so (j t:Nat){b v:Bool}(hs:Au ops j=some t:=by exact rfl)(hv:l.getD j (fun _ _=>True)=vE (.bool v):=by exact rfl)(hl:l.getD i (fun _ _=>True)=vE undef:=by exact rfl)(hg:o.guard=some (j,b):=by exact rfl)(hb:(v==b)=false:=by exact rfl)
 (h1:Bm md ops i j=true:=by kernel_rfl):∀ a w,Finds md ops m (VL l) a0 W i a w→Bp P ops Q (VL l) i o a w:=fun _ _ F =>
 Vq ((Al hg hs (F.v j t hv h1 hs)).trans hb) (by unfold VL;rw [hl];rfl)
end
structure Box3 (W:World) (n:Nat) (x y z x' y' z':Value):Prop where
 b0:Blk W n x y z
 b1:Blk W (n+1) x' y' z'
 b2:Blk W (n+1+1) (.bool false) (.slice none 0 0) (.int .i64 0)
theorem Box3.kept {W w:World}{n:Nat}{x y z x' y' z':Value}(h:Box3 W n x y z x' y' z')(k:Kept W w):Box3 w n x y z x' y' z' :=
 ⟨h.b0.kept k,h.b1.kept k,h.b2.kept k⟩
theorem Dk (n k:Nat)(h:bl n≤64*k):(limbs n).length≤k:=by
 refine Dw _ _ ?_;have h1:=Cm n;have h2:2^bl n≤2^(64*k):=Nat.pow_le_pow_right (by decide) h;have h3:(18446744073709551616:Nat)^k=2^(64*k):=by rw [Nat.pow_mul]
 omega
theorem Eb (n k:Nat)(h:(limbs n).length≤k):bl n≤64*k:=by
 refine N3 _ _ ?_;have h1:=Ci n;have h2:(18446744073709551616:Nat)^(limbs n).length≤18446744073709551616^k:=Nat.pow_le_pow_right (by decide) h;have h3:(18446744073709551616:Nat)^k=2^(64*k):=by rw [Nat.pow_mul]
 omega
theorem Aa9 (n m k:Nat)(hn:bl n≤k)(hm:bl m≤k):bl (n+m)≤k+1:=by
 refine N3 _ _ ?_;have h1:=Cm n;have h2:=Cm m;have h3:2^bl n≤2^k:=Nat.pow_le_pow_right (by decide) hn;have h4:2^bl m≤2^k:=Nat.pow_le_pow_right (by decide) hm;rw [Nat.pow_succ];omega
structure SumIn (w W:World) (n:Nat) (A A2:Option Addr) (l c l2 c2:Nat) (a b:Dy):Prop where
 box:Box3 W n (.bool a.neg) (.slice A l c) (.int .i64 a.e) (.bool b.neg) (.slice A2 l2 c2) (.int .i64 b.e)
 la:Lim W (.slice A l c) (limbs a.m)
 lb:Lim W (.slice A2 l2 c2) (limbs b.m)
 kept:Kept w W
 base:w.heap.size≤n
 tab:Tab w
 oka:a.Ok
 okb:b.Ok
 ma:a.m≠0
 ge:b.e≤a.e
theorem SumIn.size {w W w':World}{n:Nat}{A A2:Option Addr}{l c l2 c2:Nat}{a b:Dy}(h:SumIn w W n A A2 l c l2 c2 a b)(k:Kept W w') :
 Calls Tryz.prog 127 #[.slice A l c] w' (RetQ (.int .i64 (bl a.m)) w'):=Kr (h.la.kept k) (by have:=h.oka.len;omega)
theorem SumIn.blX {w W:World}{n:Nat}{A A2:Option Addr}{l c l2 c2:Nat}{a b:Dy}(h:SumIn w W n A A2 l c l2 c2 a b){j:Nat}(hj:j≤4097):bl (a.m*2^j)≤8193:=by
 rw [Gu _ _ h.ma];have:=Eb a.m 64 h.oka.len;omega
theorem SumIn.left {w W w':World}{n:Nat}{A A2:Option Addr}{l c l2 c2:Nat}{a b:Dy}(h:SumIn w W n A A2 l c l2 c2 a b)(k:Kept W w'){j:Nat}(hj:j≤4097) :
 Calls Tryz.prog 129 #[.slice A l c,.int .i64 j] w' (RetLim (limbs (a.m*2^j)) w'):=Nn (h.la.kept k) j (by have:=h.oka.len;omega) (by omega)
theorem SumIn.plus {w W w':World}{n:Nat}{A A2:Option Addr}{l c l2 c2:Nat}{a b:Dy}(h:SumIn w W n A A2 l c l2 c2 a b)(k:Kept W w'){j:Nat}(hj:j≤4097){v:Value}(hv:Lim w' v (limbs (a.m*2^j))) :
 Calls Tryz.prog 135 #[v,.slice A2 l2 c2] w' (RetLim (limbs (a.m*2^j+b.m)) w'):=by
 have h1:=Dk _ 129 (by have:=h.blX hj;omega:bl (a.m*2^j)≤64*129);have h2:=h.okb.len;exact Adl hv (h.lb.kept k) (by omega) (by omega)
theorem SumIn.fits {w W w':World}{n:Nat}{A A2:Option Addr}{l c l2 c2:Nat}{a b:Dy}(h:SumIn w W n A A2 l c l2 c2 a b)(k:Kept W w'){m:Nat}(hm:bl m≤8194){v:Value}(hv:Lim w' v (limbs m))(s:Bool) :
 Calls Tryz.prog 104 #[.bool s,v,.int .i64 b.e] w' (Goes 155 (Cr s m b.e).raw w'):=by
 have h1:=Dk m 129 (by omega);have h2:=h.okb.lo;have h3:=h.okb.hi;exact Abv hv (by omega) (by omega) (by omega) (h.tab.kept (h.kept.trans k))
theorem SumIn.blSum {w W:World}{n:Nat}{A A2:Option Addr}{l c l2 c2:Nat}{a b:Dy}(h:SumIn w W n A A2 l c l2 c2 a b){j:Nat}(hj:j≤4097):bl (a.m*2^j+b.m)≤8194 :=
 Aa9 _ _ 8193 (h.blX hj) (by have:=Eb b.m 64 h.okb.len;omega)
theorem SumIn.order {w W w':World}{n:Nat}{A A2:Option Addr}{l c l2 c2:Nat}{a b:Dy}(h:SumIn w W n A A2 l c l2 c2 a b)(k:Kept W w'){j:Nat}(hj:j≤4097){v:Value}(hv:Lim w' v (limbs (a.m*2^j))) :
 Calls Tryz.prog 128 #[v,.slice A2 l2 c2] w' (RetQ (.int .i64 (Ea (a.m*2^j) b.m)) w'):=by
 have h1:=Dk _ 129 (by have:=h.blX hj;omega:bl (a.m*2^j)≤64*129);have h2:=h.okb.len;exact M5 hv (h.lb.kept k) (by omega) (by omega)
theorem SumIn.minus {w W w':World}{n:Nat}{A A2:Option Addr}{l c l2 c2:Nat}{a b:Dy}(h:SumIn w W n A A2 l c l2 c2 a b)(k:Kept W w'){j:Nat}(hj:j≤4097){v:Value}(hv:Lim w' v (limbs (a.m*2^j)))(hle:b.m≤a.m*2^j) :
 Calls Tryz.prog 136 #[v,.slice A2 l2 c2] w' (RetLim (limbs (a.m*2^j-b.m)) w'):=by
 have h1:=Dk _ 129 (by have:=h.blX hj;omega:bl (a.m*2^j)≤64*129);exact Yt hv (h.lb.kept k) (by omega) hle
theorem SumIn.minus' {w W w':World}{n:Nat}{A A2:Option Addr}{l c l2 c2:Nat}{a b:Dy}(h:SumIn w W n A A2 l c l2 c2 a b)(k:Kept W w'){j:Nat}{v:Value}(hv:Lim w' v (limbs (a.m*2^j)))(hle:a.m*2^j≤b.m) :
 Calls Tryz.prog 136 #[.slice A2 l2 c2,v] w' (RetLim (limbs (b.m-a.m*2^j)) w') :=
 Yt (h.lb.kept k) hv (by have:=h.okb.len;omega) hle
theorem Z5 (k:Int)(w:World):Calls Tryz.prog 103 #[.bool true,.int .i64 k] w (RetK (.tuple #[]) w):=(I7 true k w).mono fun _ _ ⟨he,hw⟩=>⟨he,hw▸Below.refl _ _⟩
theorem Af3 (b:Bool)(k:Int)(w:World):Calls Tryz.prog 103 #[.bool b,.int .i64 k] w fun e w'=>(∃ v,e=.returned v∧Kept w w'∧(b=true∧v=.tuple #[]))∨(∃ c,e=.panicked c∧(b=false∧c=Ch 155 k∧w=w')) :=
 (I7 b k w).mono fun e w' ⟨he,hw⟩=>by
   subst hw;cases b
   ·exact .inr ⟨_,he,rfl,rfl,rfl⟩
   ·exact .inl ⟨_,he,Below.refl _ _,rfl,rfl⟩
theorem SumIn.close {w W w1:World}{n:Nat}{A A2:Option Addr}{l c l2 c2:Nat}{a b:Dy}(h:SumIn w W n A A2 l c l2 c2 a b)(k:Kept W w1){o:Outc Dy}{A':Option Addr}{l' c':Nat}(h0:o.raw.k=0)
 (hd:Lim w1 (.slice A' l' c') o.raw.v.m) (g1:-9223372036854775808≤o.raw.v.e) (g2:o.raw.v.e≤9223372036854775807) :
 Goes 155 o.raw w (.returned (.agg #[.bool o.raw.v.neg,.slice A' l' c',.int .i64 o.raw.v.e])) (dyW w1 (n+1+1) (.bool o.raw.v.neg) (.slice A' l' c') (.int .i64 o.raw.v.e)) :=
 ⟨Bj (h.kept.trans k) (by have:=h.base;omega),.inl ⟨h0,_,rfl,(hd.dyW (h.box.b2.kept k) (An _) (Ak _ _ _) (Aq _)).dyR g1 g2⟩⟩
theorem Eu {w:World}{v:Value}{o:Outc Dy}(h:DyR w v o.raw.v):∃ A l c,v=.agg #[.bool o.raw.v.neg,.slice A l c,.int .i64 o.raw.v.e]∧Lim w (.slice A l c) o.raw.v.m∧-9223372036854775808≤o.raw.v.e∧o.raw.v.e≤9223372036854775807:=by
 obtain ⟨A,l,c,rfl,-,h1,h2,h3⟩:=h.shape;exact ⟨A,l,c,rfl,h1,h2,h3⟩
theorem Aeg {w:World}{va vb:Value}{x y:Dy}(ha:DyR w va x.raw)(hb:DyR w vb y.raw)(hx:x.Ok)(hy:y.Ok)(hT:Tab w)(hx0:x.m≠0)(hy0:y.m≠0) :
 Calls Tryz.prog 99 #[va,vb] w (Goes 155 (Du x y).raw w):=by
 unfold Du;rw [if_neg hx0,if_neg hy0];obtain ⟨A,l,c,rfl,hl,ha,-,-⟩:=ha.shape;obtain ⟨A2,l2,c2,rfl,hl2,hb,-,-⟩:=hb.shape;have l0:((l:Int)==0)=false:=by have:=Bq x.m hx0;rw [beq_eq_false_iff_ne,hl];simp only [Dy.raw];omega
 have l02:((l2:Int)==0)=false:=by have:=Bq y.m hy0;rw [beq_eq_false_iff_ne,hl2];simp only [Dy.raw];omega
 clear hl hl2;have LA:=hid ha;have LB:=hid hb;have HT:=hid hT;have HX:=hid hx;have HY:=hid hy;have HX0:=hid hx0;have HY0:=hid hy0;clear ha hb hT hx0 hy0;have x1:=hx.lo;have x2:=hx.hi;have y1:=hy.lo;have y2:=hy.hi;clear hx hy;simp only [Dy.raw] at *;obtain ⟨o,ho⟩:∃ o,o=(if x.e<y.e then Md y x else Md x y):=⟨_,rfl⟩;rw [←ho];have HO:=hid ho;clear ho;go_enter Tryz.func99,Tryz.ntmps99
 go_upto_if 22 with fail
 go_cut [] (fun wx=>∃ (a b:Dy) (A A2:Option Addr) (l c l2 c2:Nat),SumIn w wx w.heap.size A A2 l c l2 c2 a b∧o=Md a b)
 case first =>
  go_wp2_with fail
  ·rename_i hlt;obtain ⟨W,hW,kW,B0,B1,B2⟩:=Ie w (.bool y.neg) (.slice A2 l2 c2) (.int .i64 y.e) (.bool x.neg) (.slice A l c) (.int .i64 x.e);have hs:SumIn w W w.heap.size A2 A l2 c2 l c y x:=⟨⟨B0,B1,B2⟩,LB.out.kept kW,LA.out.kept kW,kW,Nat.le_refl _,HT.out,HY.out,HX.out,HY0.out,by omega⟩;have HS:=hid hs;have HW:=hid hW;have HL:=hid hlt;clear hs hW kW B0 B1 B2 hlt
   go_meet
   rw [←HW.out];exact ⟨y,x,_,_,_,_,_,_,HS.out,HO.out.trans (if_pos HL.out)⟩
  ·rename_i hlt;obtain ⟨W,hW,kW,B0,B1,B2⟩:=Ie w (.bool x.neg) (.slice A l c) (.int .i64 x.e) (.bool y.neg) (.slice A2 l2 c2) (.int .i64 y.e);have hs:SumIn w W w.heap.size A A2 l c l2 c2 x y:=⟨⟨B0,B1,B2⟩,LA.out.kept kW,LB.out.kept kW,kW,Nat.le_refl _,HT.out,HX.out,HY.out,HX0.out,by omega⟩;have HS:=hid hs;have HW:=hid hW;have HL:=hid hlt;clear hs hW kW B0 B1 B2 hlt
   go_meet
   rw [←HW.out];exact ⟨x,y,_,_,_,_,_,_,HS.out,HO.out.trans (if_neg (by have:=HL.out;omega))⟩
 clear LA LB HT HX HY HX0 HY0 l0 l02 x1 x2 y1 y2 ha hb;obtain ⟨a,b,A,A2,l,c,l2,c2,hs,ho⟩:=hcut;clear HO;have HO:=hid ho;have HS:=hid hs;clear ho hs;generalize wc=W at *;obtain ⟨j,hj⟩:∃ j:Nat,a.e-b.e=j:=⟨(a.e-b.e).toNat,by have:=HS.out.ge;omega⟩;have HJ:=hid hj;go_upto_region 7 with fail
 go_cut [] (fun wx=>Kept W wx∧j≤4097∧Md a b=if a.neg=b.neg then Cr a.neg (a.m*2^j+b.m) b.e else if b.m≤a.m*2^j then Cr a.neg (a.m*2^j-b.m) b.e else Cr b.neg (b.m-a.m*2^j) b.e)
 case first =>
  have hjt:(a.e-b.e).toNat=j:=by omega
  have a1:=HS.out.oka.lo;have a2:=HS.out.oka.hi;have b1:=HS.out.okb.lo;have b2:=HS.out.okb.hi;have hbl:=Eb a.m 64 HS.out.oka.len;have hws:IntKind.i64.wrap (a.e-b.e)=(j:Int):=by rw [hj];simp [IntKind.wrap_i64];omega
  have hwt:IntKind.i64.wrap (4097-(bl a.m:Int))=4097-(bl a.m:Int):=by simp [IntKind.wrap_i64];omega
  by_cases he:a.e=b.e
  ·have hj0:j≤4097:=by omega
   have hsc:Md a b=if a.neg=b.neg then Cr a.neg (a.m*2^j+b.m) b.e else if b.m≤a.m*2^j then Cr a.neg (a.m*2^j-b.m) b.e else Cr b.neg (b.m-a.m*2^j) b.e:=by
    unfold Md;rw [if_neg (fun h=>h.1 he),hjt]
   have he':(a.e==b.e)=true:=by rw [beq_iff_eq];exact he
   have HSC:=hid hsc;have HJ0:=hid hj0;clear hj hjt a1 a2 b1 b2 hbl he hj0 hsc hwt
   refine rgL 18 ([(vP w.heap.size 2),(vE (.int .i64 a.e)),(vP (w.heap.size+1) 2),(vE (.int .i64 b.e)),(vE (.bool true)),(vE (.bool true)),(vE undef),(vE undef),(vE undef),(vE undef),(vE undef),(vE undef),(vE undef),(vE undef),(vE undef),(vE undef),(vE (.bool true)),(vE (.tuple #[]))])
    ⟨
     (gq 2),(gvl 0 25 fun _ k=>Ai HS.out.box.b0 k 2 _ rfl),(gq 3),(gvl 2 27 fun _ k=>Ai HS.out.box.b1 k 2 _ rfl),(gvv 1 26 3 28),(gv 4 29),(so 5 30),(so 5 30),(so 5 30),(so 5 30),(so 5 30),(so 5 30),(so 5 30),(so 5 30),(so 5 30),(so 5 30),(gvv 5 30 15 40),(fun aF wF F=>by have s41:=F.v 16 41;exact sK (Z5 2 _) fun _ _ h=>h),
     trivial⟩ ?_
   intro u w1 k1 hu;simp only [Bl,Au,if_true,Act.put,zlA,zlB,zlC,zlD,zlE,zlF,zlG,hv hu 0,hv hu 1,hv hu 2,hv hu 3,hv hu 4,hv hu 5,hv hu 6,hv hu 7,hv hu 8,hv hu 9,hv hu 10,hv hu 11,hv hu 12,hv hu 13,hv hu 14,hv hu 15,hv hu 16,hv hu 17];clear hu;go_wp2_with fail
   go_meet
   exact ⟨k1,HJ0.out,HSC.out⟩
  ·have he':(a.e==b.e)=false:=by rw [beq_eq_false_iff_ne];exact he
   obtain ⟨bb,hbb⟩:∃ bb,decide ((j:Int)≤4097-(bl a.m:Int))=bb:=⟨_,rfl⟩;have HE:=hid he;have HT:=hid hjt;have HB:=hid hbl;clear he hj hjt hbl a1 a2 b1 b2;have hpan:∀ w2,Kept W w2→bb=false→Goes 155 o.raw w (.panicked (Ch 155 2)) w2:=by
    intro w2 k2 hb;rw [HO.out];have hc:¬a.e=b.e∧4097-(bl a.m:Int)<a.e-b.e:=⟨HE.out,by have:=HJ.out;rw [hb] at hbb;simp at hbb;omega⟩;unfold Md;rw [if_pos hc];exact ⟨HS.out.kept.trans k2,.inr ⟨by decide,rfl⟩⟩
   have HP:=hid hpan;clear hpan
   refine rgL 18 ([(vP w.heap.size 2),(vE (.int .i64 a.e)),(vP (w.heap.size+1) 2),(vE (.int .i64 b.e)),(vE (.bool false)),(vE (.bool false)),(vP w.heap.size 2),(vE (.int .i64 a.e)),(vP (w.heap.size+1) 2),(vE (.int .i64 b.e)),(vE (.int .i64 j)),(vP w.heap.size 1),(vE (.slice A l c)),(vE (.int .i64 (bl a.m))),(vE (.int .i64 (4097-(bl a.m:Int)))),(vE (.bool bb)),(vE (.bool bb)),(fun v _=>bb=true∧v=.tuple #[])])
    ⟨
     (gq 2),(gvl 0 25 fun _ k=>Ai HS.out.box.b0 k 2 _ rfl),(gq 3),(gvl 2 27 fun _ k=>Ai HS.out.box.b1 k 2 _ rfl),(gvv 1 26 3 28),(gv 4 29),(fun aF wF F=>by have s2:=F.q 2 (.pointer (some ⟨w.heap.size,0,none⟩));have sg:=F.v 5 30;exact A0 ((Al rfl rfl sg).trans rfl) (by go_simp) rfl),(fun aF wF F=>by have s31:=F.v 6 31;have c0:=Ai HS.out.box.b0 F.kept 2 _ rfl;have sg:=F.v 5 30;exact A0 ((Al rfl rfl sg).trans rfl) (by go_simp) rfl),(fun aF wF F=>by have s3:=F.q 3 (.pointer (some ⟨w.heap.size+1,0,none⟩));have sg:=F.v 5 30;exact A0 ((Al rfl rfl sg).trans rfl) (by go_simp) rfl),(fun aF wF F=>by have s33:=F.v 8 33;have c0:=Ai HS.out.box.b1 F.kept 2 _ rfl;have sg:=F.v 5 30;exact A0 ((Al rfl rfl sg).trans rfl) (by go_simp) rfl),(fun aF wF F=>by have s32:=F.v 7 32;have s34:=F.v 9 34;have sg:=F.v 5 30;exact A0 ((Al rfl rfl sg).trans rfl) (by go_simp) rfl),(fun aF wF F=>by have s2:=F.q 2 (.pointer (some ⟨w.heap.size,0,none⟩));have sg:=F.v 5 30;exact A0 ((Al rfl rfl sg).trans rfl) (by go_simp) rfl),(fun aF wF F=>by have s36:=F.v 11 36;have c0:=Ai HS.out.box.b0 F.kept 1 _ rfl;have sg:=F.v 5 30;exact A0 ((Al rfl rfl sg).trans rfl) (by go_simp) rfl),(fun aF wF F=>by have s37:=F.v 12 37;have sg:=F.v 5 30;exact Bi ((Al rfl rfl sg).trans rfl) (by go_simp) (HS.out.size F.kept) (fun _ _ h=>RetQ.good h) (fun _ _ h=>h)),(fun aF wF F=>by have s38:=F.v 13 38;have sg:=F.v 5 30;exact A0 ((Al rfl rfl sg).trans rfl) (by go_simp) rfl),(fun aF wF F=>by have s35:=F.v 10 35;have s39:=F.v 14 39;have sg:=F.v 5 30;exact A0 ((Al rfl rfl sg).trans rfl) (by go_simp) rfl),(gvv 5 30 15 40),(fun aF wF F=>by have s41:=F.v 16 41;exact Ia (by simp [Region.wanted]) (by go_simp) (Af3 bb 2 _) (fun e w2 h=>h.imp (fun ⟨v,he,hk,hv⟩=>⟨v,he,hk,hv⟩) (fun ⟨c,he,h0,hc,hw2⟩=>⟨c,he,F.defers,by subst hc;exact HP.out w2 (hw2▸F.kept) h0⟩))),
     trivial⟩ ?_
   intro u w1 k1 hu;have p42:=hp hu 17;simp only [Bl,Au,if_true,Act.put,zlA,zlB,zlC,zlD,zlE,zlF,zlG,hv hu 0,hv hu 1,hv hu 2,hv hu 3,hv hu 4,hv hu 5,hv hu 6,hv hu 7,hv hu 8,hv hu 9,hv hu 10,hv hu 11,hv hu 12,hv hu 13,hv hu 14,hv hu 15,hv hu 16];clear hu;generalize u 17=v42 at *;go_wp2_with fail
   go_meet
   have h1:=p42.1;have h2:=HJ.out;rw [h1] at hbb;simp at hbb;refine ⟨k1,by omega,?_⟩;unfold Md;rw [if_neg (by omega),HT.out]
 obtain ⟨k1,hj0,hsc⟩:=hcut;have HSC:=hid (HO.out.trans hsc);clear HJ;have HJ:=hid hj0;have hws:IntKind.i64.wrap (a.e-b.e)=(j:Int):=by
  have:=HS.out.oka.lo;have:=HS.out.oka.hi;have:=HS.out.okb.lo;have:=HS.out.okb.hi;rw [hj];simp [IntKind.wrap_i64];omega
 clear hj0 hsc hj;generalize wc=w1 at *;go_upto_region 8 with fail;by_cases hn:a.neg=b.neg
 ·have hso:=HSC.out;rw [if_pos hn] at hso;subst hso;have hnb:(a.neg==b.neg)=true:=by simp [hn]
  clear hn;obtain ⟨-,a0,a1,a2,-⟩:=(HS.out.box.b0.kept k1).facts;obtain ⟨-,b0,b1,b2,-⟩:=(HS.out.box.b1.kept k1).facts;have K1:=hid k1;clear k1
  go_wp2_with (first
   | (go_at_call 129;refine (HS.out.left K1.out HJ.out).mono ?_;clear a0 a1 a2 b0 b1 b2;rintro e w2 ⟨X,rfl,hX,q2⟩;have LX:=hid hX;have KX:=hid (K1.out.trans q2);obtain ⟨-,a0,a1,a2,-⟩:=(HS.out.box.b0.kept KX.out).facts;obtain ⟨-,b0,b1,b2,-⟩:=(HS.out.box.b1.kept KX.out).facts;clear hX q2)
   | (go_at_call 128;refine (HS.out.order KX.out HJ.out LX.out).mono ?_;rintro e w2 ⟨rfl,q,rfl⟩;replace LX:=hid (LX.out.drewN q);replace KX:=hid (Kept.drewN KX.out q)))
  clear hnb a0 a1 a2 b0 b1 b2
  refine Nb 9 ([(vP w.heap.size 0),(vE (.bool a.neg)),(vE X),(vP (w.heap.size+1) 1),(vE (.slice A2 l2 c2)),(fun v wv=>Lim wv v (limbs (a.m*2^j+b.m))),(vP (w.heap.size+1) 2),(vE (.int .i64 b.e)),(fun v wv=>((Cr a.neg (a.m*2^j+b.m) b.e).raw).k=0∧DyR wv v ((Cr a.neg (a.m*2^j+b.m) b.e).raw).v)])
   ⟨
    (gq 2),(gvl 0 57 fun _ k=>Ai (HS.out.box.b0.kept KX.out) k 0 _ rfl),(gq 5),(gq 3),(gvl 3 60 fun _ k=>Ai (HS.out.box.b1.kept KX.out) k 1 _ rfl),(fun aF wF F=>by have s59:=F.v 2 59;have s61:=F.v 4 61;exact sL (HS.out.plus (KX.out.trans F.kept) HJ.out (LX.out.kept F.kept)) fun _ _ h=>h),(gq 3),(gvl 6 63 fun _ k=>Ai (HS.out.box.b1.kept KX.out) k 2 _ rfl),(fun aF wF F=>by have s58:=F.v 1 58;have s62:=F.p 5 62;have s64:=F.v 7 64;exact sG (HS.out.fits (KX.out.trans F.kept) (HS.out.blSum HJ.out) s62 a.neg) (fun _ _ _ h0 h=>⟨h0,h⟩) (fun w2 k2 h0=>⟨F.defers,⟨HS.out.kept.trans (KX.out.trans (F.kept.trans k2)),.inr ⟨h0,rfl⟩⟩⟩)),
    trivial⟩ ?_
  intro u w1 k1 hu;have p62:=hp hu 5;have p65:=hp hu 8;simp only [Bl,Au,if_true,Act.put,zlA,zlB,zlC,zlD,zlE,zlF,zlG,hv hu 0,hv hu 1,hv hu 2,hv hu 3,hv hu 4,hv hu 6,hv hu 7];clear hu;generalize u 5=v62,u 8=v65 at *;obtain ⟨h0,hd⟩:=p65;obtain ⟨A',l',c',rfl,hd,g1,g2⟩:=Eu hd;have hr:=HS.out.close (Kept.trans KX.out k1) h0 hd g1 g2;have hb:=HS.out.box.b2.kept (Kept.trans KX.out k1);have HR:=hid hr;have HB:=hid hb;clear hr hd g1 g2 h0;obtain ⟨_,c0,c1,c2,f0,f1,f2⟩:=hb.facts;clear hb;go_simp;go_wp2_with fail;exact Co (HB.out.laid _ _ _) rfl rfl rfl HR.out
 ·have hso:=HSC.out;rw [if_neg hn] at hso;have hnb:(a.neg==b.neg)=false:=by simp [hn]
  clear hn;by_cases hle:b.m≤a.m*2^j
  ·rw [if_pos hle] at hso;subst hso;have hcm:decide (0≤Ea (a.m*2^j) b.m)=true:=by unfold Ea;rw [if_neg (by omega)];split<;>rfl
   have HL:=hid hle;clear hle;obtain ⟨-,a0,a1,a2,-⟩:=(HS.out.box.b0.kept k1).facts;obtain ⟨-,b0,b1,b2,-⟩:=(HS.out.box.b1.kept k1).facts;have K1:=hid k1;clear k1
   go_wp2_with (first
    | (go_at_call 129;refine (HS.out.left K1.out HJ.out).mono ?_;clear a0 a1 a2 b0 b1 b2;rintro e w2 ⟨X,rfl,hX,q2⟩;have LX:=hid hX;have KX:=hid (K1.out.trans q2);obtain ⟨-,a0,a1,a2,-⟩:=(HS.out.box.b0.kept KX.out).facts;obtain ⟨-,b0,b1,b2,-⟩:=(HS.out.box.b1.kept KX.out).facts;clear hX q2)
    | (go_at_call 128;refine (HS.out.order KX.out HJ.out LX.out).mono ?_;rintro e w2 ⟨rfl,q,rfl⟩;replace LX:=hid (LX.out.drewN q);replace KX:=hid (Kept.drewN KX.out q)))
   clear hnb hcm a0 a1 a2 b0 b1 b2
   refine Nb 9 ([(vP w.heap.size 0),(vE (.bool a.neg)),(vE X),(vP (w.heap.size+1) 1),(vE (.slice A2 l2 c2)),(fun v wv=>Lim wv v (limbs (a.m*2^j-b.m))),(vP (w.heap.size+1) 2),(vE (.int .i64 b.e)),(fun v wv=>((Cr a.neg (a.m*2^j-b.m) b.e).raw).k=0∧DyR wv v ((Cr a.neg (a.m*2^j-b.m) b.e).raw).v)])
    ⟨
     (gq 2),(gvl 0 72 fun _ k=>Ai (HS.out.box.b0.kept KX.out) k 0 _ rfl),(gq 5),(gq 3),(gvl 3 75 fun _ k=>Ai (HS.out.box.b1.kept KX.out) k 1 _ rfl),(fun aF wF F=>by have s74:=F.v 2 74;have s76:=F.v 4 76;exact sL (HS.out.minus (KX.out.trans F.kept) HJ.out (LX.out.kept F.kept) HL.out) fun _ _ h=>h),(gq 3),(gvl 6 78 fun _ k=>Ai (HS.out.box.b1.kept KX.out) k 2 _ rfl),(fun aF wF F=>by have s73:=F.v 1 73;have s77:=F.p 5 77;have s79:=F.v 7 79;exact sG (HS.out.fits (KX.out.trans F.kept) (Nat.le_trans (Oo (Nat.sub_le _ _)) (Nat.le_succ_of_le (HS.out.blX HJ.out))) s77 a.neg) (fun _ _ _ h0 h=>⟨h0,h⟩) (fun w2 k2 h0=>⟨F.defers,⟨HS.out.kept.trans (KX.out.trans (F.kept.trans k2)),.inr ⟨h0,rfl⟩⟩⟩)),
     trivial⟩ ?_
   intro u w1 k1 hu;have p77:=hp hu 5;have p80:=hp hu 8;simp only [Bl,Au,if_true,Act.put,zlA,zlB,zlC,zlD,zlE,zlF,zlG,hv hu 0,hv hu 1,hv hu 2,hv hu 3,hv hu 4,hv hu 6,hv hu 7];clear hu;generalize u 5=v77,u 8=v80 at *;obtain ⟨h0,hd⟩:=p80;obtain ⟨A',l',c',rfl,hd,g1,g2⟩:=Eu hd;have hr:=HS.out.close (Kept.trans KX.out k1) h0 hd g1 g2;have hb:=HS.out.box.b2.kept (Kept.trans KX.out k1);have HR:=hid hr;have HB:=hid hb;clear hr hd g1 g2 h0;obtain ⟨_,c0,c1,c2,f0,f1,f2⟩:=hb.facts;clear hb;go_simp;go_wp2_with fail;exact Co (HB.out.laid _ _ _) rfl rfl rfl HR.out
  ·rw [if_neg hle] at hso;subst hso;have hcm:decide (0≤Ea (a.m*2^j) b.m)=false:=by unfold Ea;rw [if_pos (by omega)];rfl
   have HL:=hid (show a.m*2^j≤b.m by omega);clear hle;obtain ⟨-,a0,a1,a2,-⟩:=(HS.out.box.b0.kept k1).facts;obtain ⟨-,b0,b1,b2,-⟩:=(HS.out.box.b1.kept k1).facts;have K1:=hid k1;clear k1
   go_wp2_with (first
    | (go_at_call 129;refine (HS.out.left K1.out HJ.out).mono ?_;clear a0 a1 a2 b0 b1 b2;rintro e w2 ⟨X,rfl,hX,q2⟩;have LX:=hid hX;have KX:=hid (K1.out.trans q2);obtain ⟨-,a0,a1,a2,-⟩:=(HS.out.box.b0.kept KX.out).facts;obtain ⟨-,b0,b1,b2,-⟩:=(HS.out.box.b1.kept KX.out).facts;clear hX q2)
    | (go_at_call 128;refine (HS.out.order KX.out HJ.out LX.out).mono ?_;rintro e w2 ⟨rfl,q,rfl⟩;replace LX:=hid (LX.out.drewN q);replace KX:=hid (Kept.drewN KX.out q)))
   clear hnb hcm a0 a1 a2 b0 b1 b2
   refine Nb 9 ([(vP (w.heap.size+1) 0),(vE (.bool b.neg)),(vP (w.heap.size+1) 1),(vE (.slice A2 l2 c2)),(vE X),(fun v wv=>Lim wv v (limbs (b.m-a.m*2^j))),(vP (w.heap.size+1) 2),(vE (.int .i64 b.e)),(fun v wv=>((Cr b.neg (b.m-a.m*2^j) b.e).raw).k=0∧DyR wv v ((Cr b.neg (b.m-a.m*2^j) b.e).raw).v)])
    ⟨
     (gq 3),(gvl 0 81 fun _ k=>Ai (HS.out.box.b1.kept KX.out) k 0 _ rfl),(gq 3),(gvl 2 83 fun _ k=>Ai (HS.out.box.b1.kept KX.out) k 1 _ rfl),(gq 5),(fun aF wF F=>by have s84:=F.v 3 84;have s85:=F.v 4 85;exact sL (HS.out.minus' (KX.out.trans F.kept) (LX.out.kept F.kept) HL.out) fun _ _ h=>h),(gq 3),(gvl 6 87 fun _ k=>Ai (HS.out.box.b1.kept KX.out) k 2 _ rfl),(fun aF wF F=>by have s82:=F.v 1 82;have s86:=F.p 5 86;have s88:=F.v 7 88;exact sG (HS.out.fits (KX.out.trans F.kept) (Nat.le_trans (Eb b.m 64 HS.out.okb.len |> fun h=>Nat.le_trans (Oo (Nat.sub_le _ _)) h) (by decide)) s86 b.neg) (fun _ _ _ h0 h=>⟨h0,h⟩) (fun w2 k2 h0=>⟨F.defers,⟨HS.out.kept.trans (KX.out.trans (F.kept.trans k2)),.inr ⟨h0,rfl⟩⟩⟩)),
     trivial⟩ ?_
   intro u w1 k1 hu;have p86:=hp hu 5;have p89:=hp hu 8;simp only [Bl,Au,if_true,Act.put,zlA,zlB,zlC,zlD,zlE,zlF,zlG,hv hu 0,hv hu 1,hv hu 2,hv hu 3,hv hu 4,hv hu 6,hv hu 7];clear hu;generalize u 5=v86,u 8=v89 at *;obtain ⟨h0,hd⟩:=p89;obtain ⟨A',l',c',rfl,hd,g1,g2⟩:=Eu hd;have hr:=HS.out.close (Kept.trans KX.out k1) h0 hd g1 g2;have hb:=HS.out.box.b2.kept (Kept.trans KX.out k1);have HR:=hid hr;have HB:=hid hb;clear hr hd g1 g2 h0;obtain ⟨_,c0,c1,c2,f0,f1,f2⟩:=hb.facts;clear hb;go_simp;go_wp2_with fail;exact Co (HB.out.laid _ _ _) rfl rfl rfl HR.out
end Go.Proofs.YtmgaloopddiekaaGreatDoor
