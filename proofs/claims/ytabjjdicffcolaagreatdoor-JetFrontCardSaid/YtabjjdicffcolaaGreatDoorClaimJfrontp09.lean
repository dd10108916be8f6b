/- Words and contracts, part 9. -/
import Derived.Test.YtabjjdicffcolaaGreatDoorClaimJfrontp08
import Derived.KernelRfl
set_option maxRecDepth 100000
set_option maxHeartbeats 0
namespace Go.Proofs.YtabjjdicffcolaaGreatDoor
open Go.RowKit
variable {α:Type} {cap cs:Array Value} {a b x y:Dy} {e:Ending} {K c c2 j l l2 m n:Nat} {A A' A2:Option Addr} {o:Outc Dy} {r:Raw} {T:TypeId} {va vb x0 x1 x2:Value} {W w w' w1:World}
section
variable {P:Program} {ops:Array Oper} {Q:Exit->Act->World->Prop} {md:Region.Mode}
def VL (l:List (Value->World->Prop)):Nat->Value->World->Prop:=λi v w=>(l.getD i (λ_ _=>True)) v w
def Lv (p:Value->World->Prop):Prop:=∀ v w w',Kept w w'->p v w->p v w'
def Ld:List (Value->World->Prop)->Prop
 | []=>True
 | p::l=>Lv p/\Ld l
theorem Ke:∀ (l:List (Value->World->Prop)),Ld l->∀ i v w w',Kept w w'->VL l i v w->VL l i v w'
 | [],_,_,_,_,_,_,_=>trivial
 | _::_,h,0,v,w,w',k,hv=>h.1 v w w' k hv
 | _::l,h,i+1,v,w,w',k,hv=>Ke l h.2 i v w w' k hv
def J8 (P:Program) (md:Region.Mode) (ops:Array Oper) (Q:Exit->Act->World->Prop) (m:Nat) (V:Nat->Value->World->Prop) (a0:Act) (W:World):Nat->Nat->List Oper->Prop
 | _,0,_=>True
 | _,_+1,[]=>True
 | i,k+1,o::l=>(∀ a w,Finds md ops m V a0 W i a w->Bo P ops Q V i o a w)/\J8 P md ops Q m V a0 W (i+1) k l
theorem bN {m:Nat}{V:Nat->Value->World->Prop}{a0:Act}{W:World}:∀ (k i0:Nat) (l:List Oper),J8 P md ops Q m V a0 W i0 k l ->
 ∀ i o,i<k->l[i]?=some o->∀ a w,Finds md ops m V a0 W (i0+i) a w->Bo P ops Q V (i0+i) o a w
 | 0,_,_,_,_,_,hi,_=>absurd hi (Nat.not_lt_zero _)
 | k+1,_,[],_,_,_,_,ho=>by simp at ho
 | k + 1, i0, x :: l, h, 0, o, _, ho => by
   simp at ho;subst ho;exact h.1
 | k + 1, i0, x :: l, h, i + 1, o, hi, ho => by
   have:=bN k (i0+1) l h.2 i o (by omega) (by simpa using ho);have e:i0+1+i=i0+(i+1):=by omega
   rw [e] at this;exact this
theorem Mo {m:Nat}{V:Nat->Value->World->Prop}{a0:Act}{W:World}(h:J8 P md ops Q m V a0 W 0 m ops.toList) :
 ∀ i o,i<m->ops[i]?=some o->∀ a w,Finds md ops m V a0 W i a w->Bo P ops Q V i o a w:=by
 intro i o hi ho;have:=bN m 0 ops.toList h i o hi (by simpa using ho);simpa using this
theorem Bc {V:Nat->Value->World->Prop}{i:Nat}{o:Oper}{a:Act}{w:World}{v:Value}(hw:Region.wanted o (yielded ops a.tmps)=true)
 (h:(execOp a.eval o).run P w=.ok (.value v) w) (hv:V i v w):Bo P ops Q V i o a w:=by
 unfold Bo;rw [Ak hw];unfold Oper.wp;rw [h];exact ⟨v,rfl,Below.refl _ _,hv⟩
theorem Am {o:Oper}{tmps:Array Value}{g t:Nat}{b v:Bool}(hg:o.guard=some (g,b))(hs:Ap ops g=some t)(hv:tmps.getD t undef=.bool v):Region.wanted o (yielded ops tmps)=(v==b):=by
 have h1:tmps[t]?=some (.bool v):=by
  rw [Cv] at hv;cases h:tmps[t]? with
  | none=>rw [h] at hv;cases hv
  | some x=>rw [h] at hv;simp at hv;rw [hv]
 unfold Ap at hs;simp only [Region.wanted,hg,yielded,hs,Option.bind_some,h1];cases v<;>cases b<;>rfl
theorem Jt {V:Nat->Value->World->Prop}{i:Nat}{o:Oper}{a:Act}{w:World}
 (h:Region.wanted o (yielded ops a.tmps)=false) (hv:V i undef w):Bo P ops Q V i o a w:=by
 unfold Bo;rw [Af (by rw [h];simp)];exact hv
theorem K8 {V:Nat->Value->World->Prop}{i:Nat}{o:Oper}{a:Act}{w w':World}{v:Value}(hw:Region.wanted o (yielded ops a.tmps)=true)
 (h:(execOp a.eval o).run P w=.ok (.value v) w') (hk:Kept w w') (hv:V i v w'):Bo P ops Q V i o a w:=by
 unfold Bo;rw [Ak hw];unfold Oper.wp;rw [h];exact ⟨v,rfl,hk,hv⟩
theorem Gb {V:Nat->Value->World->Prop}{i:Nat}{o:Oper}{a:Act}{w:World}{f:FuncId}{args:Array Value}{R:Ending->World->Prop}(hw:Region.wanted o (yielded ops a.tmps)=true)
 (h:(execOp a.eval o).run P w=.ok (.enter f args) w) (hc:Calls P f args w R)
 (hr:∀ e w',R e w'->(∃ v,e=.returned v/\Kept w w'/\V i v w')\/(∃ c,e=.panicked c/\Q (.panic c) a w')):Bo P ops Q V i o a w:=by
 unfold Bo;rw [Ak hw];unfold Oper.wp;rw [h];refine Calls.mono hc (λe w' he=>?_);rcases hr e w' he with ⟨v,rfl,hk,hv⟩ | ⟨c,rfl,hq⟩
 ·exact ⟨v,rfl,hk,hv⟩
 ·exact hq
end
theorem Ai {b:Nat}(h:W.heap[b]?=some (.cells cs T (0,0)))(k:Kept W w)(i:Nat)(v:Value)(hi:cs[i]?=some v):w.cell? ⟨b,i,none⟩=some v :=
 Ae ((k.block b (Bi h).1).trans h) i v hi
def J7 (p:Value->World->Prop) (w:World) (e:Ending) (w':World):Prop:=∃ v,e=.returned v/\Kept w w'/\p v w'
theorem RetQ.good {v:Value}(h:RetQ v w e w'):J7 (λu _=>u=v) w e w':=by
 obtain ⟨he,n,rfl⟩:=h;exact ⟨v,he,Kept.drewN (Below.refl _ _) n,rfl⟩
theorem RetK.good {v:Value}(h:RetK v w e w'):J7 (λu _=>u=v) w e w':=⟨v,h.1,h.2,rfl⟩
theorem RetLim.good {xs:List Nat}(h:RetLim xs w e w'):J7 (λu w=>Lim w u xs) w e w':=by
 obtain ⟨v,he,hl,k⟩:=h;exact ⟨v,he,k,hl⟩
theorem RetD.good (h:RetD r w e w'):J7 (λu w=>DyR w u r) w e w':=by
 obtain ⟨k,v,he,hl⟩:=h;exact ⟨v,he,k,hl⟩
theorem RetE.good {o:Outc Raw}(h:RetE o w e w'):J7 (λu w=>∃ d,u=.tuple #[d,.int .i64 o.k]/\DyR w d o.v) w e w':=by
 obtain ⟨k,v,he,hl⟩:=h;exact ⟨_,he,k,v,rfl,hl⟩
theorem RetQR.good (h:RetQR n m w e w'):J7 (λu w=>∃ q r,u=.tuple #[q,r]/\Lim w q (Al (n/m))/\Lim w r (Al (n%m))) w e w':=by
 obtain ⟨q,r,he,h1,h2,k⟩:=h;exact ⟨_,he,k,q,r,rfl,h1,h2⟩
section
variable {P:Program} {ops:Array Oper} {Q:Exit->Act->World->Prop}
theorem Ax {V:Nat->Value->World->Prop}{i:Nat}{o:Oper}{a:Act}{w:World}{f:FuncId}{args:Array Value}{R:Ending->World->Prop}{p:Value->World->Prop}(hw:Region.wanted o (yielded ops a.tmps)=true)
 (h:(execOp a.eval o).run P w=.ok (.enter f args) w) (hc:Calls P f args w R)
 (hr:∀ e w',R e w'->J7 p w e w') (hp:∀ v w',p v w'->V i v w'):Bo P ops Q V i o a w :=
 Gb hw h hc λe w' he=>by
  obtain ⟨v,he,k,hv⟩:=hr e w' he;exact .inl ⟨v,he,k,hp v w' hv⟩
theorem ic {V:Nat->Value->World->Prop}{i:Nat}{o:Oper}{a:Act}{w:World}{f:FuncId}{args:Array Value}{T:TypeId}{t:Outc Raw}(hw:Region.wanted o (yielded ops a.tmps)=true)
 (h:(execOp a.eval o).run P w=.ok (.enter f args) w) (hc:Calls P f args w (J6 T t w))
 (hp:∀ v w',Kept w w'->t.k=0->DyR w' v t.v->V i v w') (hq:∀ w',Kept w w'->t.k≠0->Q (.panic (By T t.k)) a w'):Bo P ops Q V i o a w :=
 Gb hw h hc λe w' he=>by
  obtain ⟨k,⟨h0,v,he,hd⟩ | ⟨h0,he⟩⟩:=he
  ·exact .inl ⟨v,he,k,hp v w' k h0 hd⟩
  ·exact .inr ⟨_,he,hq w' k h0⟩
end
theorem zlA (xs:List α)(i:Nat)(a:α):xs.toArray.setIfInBounds i a=(xs.set i a).toArray:=List.setIfInBounds_toArray ..
theorem zlB (a b:α)(l:List α):(a::l).set 0 b=b::l:=List.set_cons_zero ..
theorem zlC (a b:α)(l:List α)(n:Nat):(a::l).set (n+1) b=a::l.set n b:=List.set_cons_succ ..
theorem zlD (xs:List α)(i:Nat):xs.toArray[i]?=xs[i]?:=List.getElem?_toArray ..
theorem zlE (a:α)(l:List α):(a::l)[0]?=some a:=List.getElem?_cons_zero ..
theorem zlF (a:α)(l:List α)(i:Nat):(a::l)[i+1]?=l[i]?:=List.getElem?_cons_succ ..
theorem zlG {β:Type}(f:α->Option β)(a:α):(some a).bind f=f a:=Option.bind_some ..
def vE (x:Value):Value->World->Prop:=λv _=>v=x
abbrev vP (b o:Nat):Value->World->Prop:=vE (.pointer (some ⟨b,o,none⟩))
theorem mE {x:Value}:Lv (vE x):=λ_ _ _ _ h=>h
theorem mD :Lv (λv w=>DyR w v r):=λ_ _ _ k h=>h.kept k
theorem mL {r:List Nat}:Lv (λv w=>Lim w v r):=λ_ _ _ k h=>h.kept k
theorem Gy {p:Prop}(h:Nonempty p):p:=h.elim id
instance monoL0:Nonempty (Ld []):=⟨trivial⟩
instance monoL1 {p:Value->World->Prop} {l:List (Value->World->Prop)} [h:Nonempty (Lv p)] [h':Nonempty (Ld l)]:Nonempty (Ld (p::l)):=⟨⟨Gy h,Gy h'⟩⟩
instance iE {x:Value}:Nonempty (Lv (vE x)):=⟨mE⟩
instance iC {c:Value->Prop}:Nonempty (Lv λv _=>c v):=⟨λ_ _ _ _ h=>h⟩
instance iD {r:Raw}:Nonempty (Lv λv w=>DyR w v r):=⟨mD⟩
instance iL {r:List Nat}:Nonempty (Lv λv w=>Lim w v r):=⟨mL⟩
instance iA {c:Prop} {p:Value->World->Prop} [h:Nonempty (Lv p)]:Nonempty (Lv λv w=>c/\p v w):=⟨λv w w' k q=>⟨q.1,Gy h v w w' k q.2⟩⟩
instance iB {c:Prop} {p:Value->World->Prop} [h:Nonempty (Lv p)]:Nonempty (Lv λv w=>p v w/\c):=⟨λv w w' k q=>⟨Gy h v w w' k q.1,q.2⟩⟩
instance iX {f:Value->Value} {p:Value->World->Prop} [h:Nonempty (Lv p)]:Nonempty (Lv λv w=>∃ d,v=f d/\p d w):=⟨λ_ w w' k q=>by obtain ⟨d,e,q⟩:=q;exact ⟨d,e,Gy h d w w' k q⟩⟩
instance iN {S:Nat} {x y z:Value}:Nonempty (Lv λv w=>∃ b,v=.pointer (some ⟨b,0,none⟩)/\S<=b/\Blk w b x y z):=⟨λ_ _ _ k q=>by obtain ⟨b,e,q1,q2⟩:=q;exact ⟨b,e,q1,q2.kept k⟩⟩
theorem c6 {b:Nat}{x3 x4 x5:Value}(h:W.heap[b]?=some (.cells #[x0,x1,x2,x3,x4,x5] T (0,0)))(k:Kept W w) :
 w.cell? ⟨b,0,none⟩=some x0/\w.cell? ⟨b,1,none⟩=some x1/\w.cell? ⟨b,2,none⟩=some x2/\w.cell? ⟨b,3,none⟩=some x3/\w.cell? ⟨b,4,none⟩=some x4/\w.cell? ⟨b,5,none⟩=some x5 :=
 ⟨Ai h k 0 _ rfl,Ai h k 1 _ rfl,Ai h k 2 _ rfl,Ai h k 3 _ rfl,Ai h k 4 _ rfl,Ai h k 5 _ rfl⟩
theorem c3 {b:Nat}(h:W.heap[b]?=some (.cells #[x0,x1,x2] T (0,0)))(k:Kept W w) :
 w.cell? ⟨b,0,none⟩=some x0/\w.cell? ⟨b,1,none⟩=some x1/\w.cell? ⟨b,2,none⟩=some x2 :=
 ⟨Ai h k 0 _ rfl,Ai h k 1 _ rfl,Ai h k 2 _ rfl⟩
section
variable {P:Program} {ops:Array Oper} {Q:Exit->Act->World->Prop} {id:Nat} {o o':Oper} {a0:Act} {W:World}
theorem Sv (m:Nat)(l:List (Value->World->Prop))(hs:J8 P .any ops Q m (VL l) a0 W 0 m ops.toList)(he:∀ u w,Kept W w->(∀ i,i<m->VL l i (u i) w)->Q .normal (Bb ops (λ_=>true) u m a0) w)(hM:Nonempty (Ld l):=by infer_instance)
 (hm:P.follows .mixedOrders=true:=by kernel_rfl) (hz:m=ops.size:=by exact rfl) (ha:Cg ops m=true:=by kernel_rfl) (hi:Dv ops m a0.tmps.size=true:=by kernel_rfl) (hb:Er .any ops=true:=by kernel_rfl):(Code.region id ops true).wp P Q a0 W :=
 dD hm hz ha hi hb (Ke l (Gy hM)) (Mo hs) he
theorem Ih (m:Nat)(l:List (Value->World->Prop))(hs:J8 P .any ops Q m (VL l) a0 W 0 m ops.toList)(he:∀ u w,Kept W w->(∀ i,i<m->VL l i (u i) w)->o.wp P (Bb ops (λ_=>true) u m a0) w (Q .normal) Q)(hM:Nonempty (Ld l):=by infer_instance)
 (hm:P.follows .mixedOrders=true:=by kernel_rfl) (hz:m+1=ops.size:=by exact rfl) (ho:ops[m]?=some o:=by exact rfl) (hg:o.guard=none:=by exact rfl) (ha:Cg ops m=true:=by kernel_rfl) (hi:Dv ops m a0.tmps.size=true:=by kernel_rfl)
 (ht:L5 .any ops m=true:=by kernel_rfl) (hb:Er .any ops=true:=by kernel_rfl):(Code.region id ops true).wp P Q a0 W :=
 aT hm hz ho hg ha hi ht hb (Ke l (Gy hM)) (Mo hs) he
theorem Qp (m:Nat)(l:List (Value->World->Prop))(hs:J8 P .any ops Q m (VL l) a0 W 0 m ops.toList)(he:∀ u w,Kept W w->(∀ i,i<m->VL l i (u i) w)->o.wp P (Bb ops (λ_=>true) u m a0) w (λa w=>o'.wp P a w (Q .normal) Q) Q /\
 (Bu .any ops (m+1) m=true\/o'.wp P (Bb ops (λ_=>true) u m a0) w (λa w=>o.wp P a w (Q .normal) Q) Q)) (hM:Nonempty (Ld l):=by infer_instance)
 (hm:P.follows .mixedOrders=true:=by kernel_rfl) (hz:m+2=ops.size:=by exact rfl) (ho:ops[m]?=some o:=by exact rfl) (hg:o.guard=none:=by exact rfl) (ho':ops[m+1]?=some o':=by exact rfl) (hg':o'.guard=none:=by exact rfl) (ha:Cg ops m=true:=by kernel_rfl)
 (hi:Dv ops m a0.tmps.size=true:=by kernel_rfl) (ht:L5 .any ops m=true:=by kernel_rfl) (hb:Er .any ops=true:=by kernel_rfl):(Code.region id ops true).wp P Q a0 W :=
 aU hm hz ho hg ho' hg' ha hi ht hb (Ke l (Gy hM)) (Mo hs) he
end
section
variable {P:Program} {ops:Array Oper} {Q:Exit->Act->World->Prop} {md:Region.Mode} {m i:Nat} {l:List (Value->World->Prop)} {a0 a:Act} {W w:World}
theorem Finds.v (F:Finds md ops m (VL l) a0 W i a w)(j t:Nat){x:Value}(h:l.getD j (λ_ _=>True)=vE x:=by exact rfl)(h1:Bu md ops i j=true:=by kernel_rfl)(h2:Ap ops j=some t:=by exact rfl):a.tmps.getD t undef=x:=by
 have h3:=F.done j t h1 h2;unfold VL at h3;rw [h] at h3;exact h3
theorem Finds.p (F:Finds md ops m (VL l) a0 W i a w)(j t:Nat){p:Value->World->Prop}(h:l.getD j (λ_ _=>True)=p:=by exact rfl)(h1:Bu md ops i j=true:=by kernel_rfl)(h2:Ap ops j=some t:=by exact rfl):p (a.tmps.getD t undef) w:=by
 have h3:=F.done j t h1 h2;unfold VL at h3;rw [h] at h3;exact h3
theorem Finds.q {V:Nat->Value->World->Prop}(F:Finds md ops m V a0 W i a w)(t:Nat)(x:Value)(h:G4 md ops m i t=true:=by kernel_rfl)(e:a0.tmps.getD t undef=x:=by exact rfl):a.tmps.getD t undef=x:=(F.old t h).trans e
theorem hv {u:Nat->Value}(hu:∀ i,i<m->VL l i (u i) w)(i:Nat){x:Value}(h:l.getD i (λ_ _=>True)=vE x:=by exact rfl)(h2:i<m:=by decide):u i=x:=by
 have h3:=hu i h2;unfold VL at h3;rw [h] at h3;exact h3
theorem hp {u:Nat->Value}(hu:∀ i,i<m->VL l i (u i) w)(i:Nat){p:Value->World->Prop}(h:l.getD i (λ_ _=>True)=p:=by exact rfl)(h2:i<m:=by decide):p (u i) w:=by
 have h3:=hu i h2;unfold VL at h3;rw [h] at h3;exact h3
variable {V:Nat->Value->World->Prop} {o:Oper} {v:Value} {f:FuncId} {args:Array Value}
theorem sv (hv:V i v w)(hw:Region.wanted o (yielded ops a.tmps)=true:=by simp [Region.wanted])(h:(execOp a.eval o).run P w=.ok (.value v) w:=by go_simp):Bo P ops Q V i o a w:=Bc hw h hv
theorem sw (h:(execOp a.eval o).run P w=.ok (.value v) w)(hv:V i v w)(hw:Region.wanted o (yielded ops a.tmps)=true:=by simp [Region.wanted]):Bo P ops Q V i o a w:=Bc hw h hv
theorem sx (hv:V i v w)(hw:Region.wanted o (yielded ops a.tmps)=true:=by simp [Region.wanted])(h:(execOp a.eval o).run P w=.ok (.value v) w:=by exact rfl):Bo P ops Q V i o a w:=Bc hw h hv
theorem Zm {x:Obj}{v:Value}(hv:V i v (w.alloc x))(hw:Region.wanted o (yielded ops a.tmps)=true:=by simp [Region.wanted])(h:(execOp a.eval o).run P w=.ok (.value v) (w.alloc x):=by first | (go_simp;done) | (go_simp;rfl)):Bo P ops Q V i o a w:=K8 hw h (Ab _ _) hv
theorem sN {x:Obj}{v:Value}(hv:V i v (w.alloc x))(hw:Region.wanted o (yielded ops a.tmps)=true:=by simp [Region.wanted])(h:(execOp a.eval o).run P w=.ok (.value v) (w.alloc x):=by go_simp):Bo P ops Q V i o a w:=K8 hw h (Ab _ _) hv
theorem sQ {x:Value}(hc:Calls P f args w (RetQ x w))(hp:∀ v w',v=x->V i v w')(hw:Region.wanted o (yielded ops a.tmps)=true:=by simp [Region.wanted])(h:(execOp a.eval o).run P w=.ok (.enter f args) w:=by go_simp):Bo P ops Q V i o a w :=
 Ax hw h hc (λ_ _ h=>RetQ.good h) hp
theorem sK {x:Value}(hc:Calls P f args w (RetK x w))(hp:∀ v w',v=x->V i v w')(hw:Region.wanted o (yielded ops a.tmps)=true:=by simp [Region.wanted])(h:(execOp a.eval o).run P w=.ok (.enter f args) w:=by go_simp):Bo P ops Q V i o a w :=
 Ax hw h hc (λ_ _ h=>RetK.good h) hp
theorem sL {x:List Nat}(hc:Calls P f args w (RetLim x w))(hp:∀ v w',Lim w' v x->V i v w')(hw:Region.wanted o (yielded ops a.tmps)=true:=by simp [Region.wanted])(h:(execOp a.eval o).run P w=.ok (.enter f args) w:=by go_simp):Bo P ops Q V i o a w :=
 Ax hw h hc (λ_ _ h=>RetLim.good h) hp
theorem sD {x:Raw}(hc:Calls P f args w (RetD x w))(hp:∀ v w',DyR w' v x->V i v w')(hw:Region.wanted o (yielded ops a.tmps)=true:=by simp [Region.wanted])(h:(execOp a.eval o).run P w=.ok (.enter f args) w:=by go_simp):Bo P ops Q V i o a w :=
 Ax hw h hc (λ_ _ h=>RetD.good h) hp
theorem sE {x:Outc Raw}(hc:Calls P f args w (RetE x w))(hp:∀ v w',(∃ d,v=.tuple #[d,.int .i64 x.k]/\DyR w' d x.v)->V i v w')(hw:Region.wanted o (yielded ops a.tmps)=true:=by simp [Region.wanted])(h:(execOp a.eval o).run P w=.ok (.enter f args) w:=by go_simp):Bo P ops Q V i o a w :=
 Ax hw h hc (λ_ _ h=>RetE.good h) hp
theorem sG {T:TypeId}{t:Outc Raw}(hc:Calls P f args w (J6 T t w))(hp:∀ v w',Kept w w'->t.k=0->DyR w' v t.v->V i v w')(hq:∀ w',Kept w w'->t.k≠0->Q (.panic (By T t.k)) a w')(hw:Region.wanted o (yielded ops a.tmps)=true:=by simp [Region.wanted])(h:(execOp a.eval o).run P w=.ok (.enter f args) w:=by go_simp):Bo P ops Q V i o a w :=
 ic hw h hc hp hq
theorem gv (j t:Nat){x:Value}{y:Value}(h:l.getD j (λ_ _=>True)=vE x:=by exact rfl)(h1:Bu md ops i j=true:=by kernel_rfl)(h2:Ap ops j=some t:=by exact rfl)(hy:l.getD i (λ_ _=>True)=vE y:=by exact rfl)(hg:o.guard=none:=by exact rfl)(hx:∀ (a:Act) (w:World),a.tmps.getD t undef=x->(execOp a.eval o).run P w=.ok (.value y) w:=by intro aF wF s;go_simp):∀ a w,Finds md ops m (VL l) a0 W i a w->Bo P ops Q (VL l) i o a w:=λa w F=>Bc (by simp [Region.wanted,hg]) (hx a w (F.v j t h h1 h2)) (by unfold VL;rw [hy];rfl)
theorem gq (t:Nat){x:Value}{y:Value}(h:G4 md ops m i t=true:=by kernel_rfl)(h1:a0.tmps.getD t undef=x:=by exact rfl)(hy:l.getD i (λ_ _=>True)=vE y:=by exact rfl)(hg:o.guard=none:=by exact rfl)(hx:∀ (a:Act) (w:World),a.tmps.getD t undef=x->(execOp a.eval o).run P w=.ok (.value y) w:=by intro aF wF s;go_simp):∀ a w,Finds md ops m (VL l) a0 W i a w->Bo P ops Q (VL l) i o a w:=λa w F=>Bc (by simp [Region.wanted,hg]) (hx a w ((F.old t h).trans h1)) (by unfold VL;rw [hy];rfl)
theorem gm (j t:Nat){p:Value->World->Prop}(h:l.getD j (λ_ _=>True)=p:=by exact rfl)(hy:l.getD i (λ_ _=>True)=p:=by exact rfl)(h1:Bu md ops i j=true:=by kernel_rfl)(h2:Ap ops j=some t:=by exact rfl)(hg:o.guard=none:=by exact rfl)(hx:∀ (a:Act) (w:World),(execOp a.eval o).run P w=.ok (.value (a.tmps.getD t undef)) w:=by intro _ _;exact rfl):∀ a w,Finds md ops m (VL l) a0 W i a w->Bo P ops Q (VL l) i o a w:=λa w F=>Bc (by simp [Region.wanted,hg]) (hx a w) (by unfold VL;rw [hy];exact F.p j t h h1 h2)
theorem Hz (j t j' t':Nat){x x':Value}{y:Value}(h:l.getD j (λ_ _=>True)=vE x:=by exact rfl)(h1:Bu md ops i j=true:=by kernel_rfl)(h2:Ap ops j=some t:=by exact rfl)(h':l.getD j' (λ_ _=>True)=vE x':=by exact rfl)(h'1:Bu md ops i j'=true:=by kernel_rfl)(h'2:Ap ops j'=some t':=by exact rfl)(hy:l.getD i (λ_ _=>True)=vE y:=by exact rfl)(hg:o.guard=none:=by exact rfl)(hx:∀ (a:Act) (w:World),a.tmps.getD t undef=x->a.tmps.getD t' undef=x'->(execOp a.eval o).run P w=.ok (.value y) w:=by intro aF wF s s';go_simp):∀ a w,Finds md ops m (VL l) a0 W i a w->Bo P ops Q (VL l) i o a w:=λa w F=>Bc (by simp [Region.wanted,hg]) (hx a w (F.v j t h h1 h2) (F.v j' t' h' h'1 h'2)) (by unfold VL;rw [hy];rfl)
theorem Ie (j t:Nat){x:Value}{p:World->Prop}{y:Value}(c:∀ w,Kept W w->p w)(h:l.getD j (λ_ _=>True)=vE x:=by exact rfl)(h1:Bu md ops i j=true:=by kernel_rfl)(h2:Ap ops j=some t:=by exact rfl)(hy:l.getD i (λ_ _=>True)=vE y:=by exact rfl)(hg:o.guard=none:=by exact rfl)(hx:∀ (a:Act) (w:World),a.tmps.getD t undef=x->p w->(execOp a.eval o).run P w=.ok (.value y) w:=by intro aF wF s c;go_simp):∀ a w,Finds md ops m (VL l) a0 W i a w->Bo P ops Q (VL l) i o a w:=λa w F=>Bc (by simp [Region.wanted,hg]) (hx a w (F.v j t h h1 h2) (c w F.kept)) (by unfold VL;rw [hy];rfl)
theorem E3 (t:Nat){x:Value}{p:World->Prop}{y:Value}(c:∀ w,Kept W w->p w)(h:G4 md ops m i t=true:=by kernel_rfl)(h1:a0.tmps.getD t undef=x:=by exact rfl)(hy:l.getD i (λ_ _=>True)=vE y:=by exact rfl)(hg:o.guard=none:=by exact rfl)(hx:∀ (a:Act) (w:World),a.tmps.getD t undef=x->p w->(execOp a.eval o).run P w=.ok (.value y) w:=by intro aF wF s c;go_simp):∀ a w,Finds md ops m (VL l) a0 W i a w->Bo P ops Q (VL l) i o a w:=λa w F=>Bc (by simp [Region.wanted,hg]) (hx a w ((F.old t h).trans h1) (c w F.kept)) (by unfold VL;rw [hy];rfl)
theorem so (j t:Nat){b v:Bool}(hs:Ap ops j=some t:=by exact rfl)(hv:l.getD j (λ_ _=>True)=vE (.bool v):=by exact rfl)(hl:l.getD i (λ_ _=>True)=vE undef:=by exact rfl)(hg:o.guard=some (j,b):=by exact rfl)(hb:(v==b)=false:=by exact rfl)
 (h1:Bu md ops i j=true:=by kernel_rfl):∀ a w,Finds md ops m (VL l) a0 W i a w->Bo P ops Q (VL l) i o a w:=λ_ _ F =>
 Jt ((Am hg hs (F.v j t hv h1 hs)).trans hb) (by unfold VL;rw [hl];rfl)
end
structure sd (W:World) (n:Nat) (x y z x' y' z':Value):Prop where
 b0:Blk W n x y z
 b1:Blk W (n+1) x' y' z'
 b2:Blk W (n+1+1) (.bool false) (.slice none 0 0) (.int .i64 0)
theorem Dt (n k:Nat)(h:bl n<=64*k):(Al n).length<=k:=by
 refine Dk _ _ ?_;have h1:=Bm n;have h2:2^bl n<=2^(64*k):=Ee (by decide) h;have h3:(18446744073709551616:Nat)^k=2^(64*k):=by rw [Nat.pow_mul]
 omega
theorem Dw (n k:Nat)(h:(Al n).length<=k):bl n<=64*k:=by
 refine Gl _ _ ?_;have h1:=Di n;have h2:(18446744073709551616:Nat)^(Al n).length<=18446744073709551616^k:=Ee (by decide) h;have h3:(18446744073709551616:Nat)^k=2^(64*k):=by rw [Nat.pow_mul]
 omega
theorem i8 (n m k:Nat)(hn:bl n<=k)(hm:bl m<=k):bl (n+m)<=k+1:=by
 refine Gl _ _ ?_;have h1:=Bm n;have h2:=Bm m;have h3:2^bl n<=2^k:=Ee (by decide) hn;have h4:2^bl m<=2^k:=Ee (by decide) hm;rw [Nat.pow_succ];omega
structure SumIn (w W:World) (n:Nat) (A A2:Option Addr) (l c l2 c2:Nat) (a b:Dy):Prop where
 box:sd W n (.bool a.neg) (.slice A l c) (.int .i64 a.e) (.bool b.neg) (.slice A2 l2 c2) (.int .i64 b.e)
 la:Lim W (.slice A l c) (Al a.m)
 lb:Lim W (.slice A2 l2 c2) (Al b.m)
 kept:Kept w W
 base:w.heap.size<=n
 tab:Tab w
 oka:a.Ok
 okb:b.Ok
 ma:a.m≠0
 ge:b.e<=a.e
theorem SumIn.size (h:SumIn w W n A A2 l c l2 c2 a b)(k:Kept W w') :
 Calls Tryz.prog 112 #[.slice A l c] w' (RetQ (.int .i64 (bl a.m)) w'):=Nk (h.la.kept k) (by have:=h.oka.len;omega)
theorem SumIn.blX (h:SumIn w W n A A2 l c l2 c2 a b)(hj:j<=4097):bl (a.m*2^j)<=8193:=by
 rw [Iu _ _ h.ma];have:=Dw a.m 64 h.oka.len;omega
theorem SumIn.left (h:SumIn w W n A A2 l c l2 c2 a b)(k:Kept W w')(hj:j<=4097) :
 Calls Tryz.prog 114 #[.slice A l c,.int .i64 j] w' (RetLim (Al (a.m*2^j)) w'):=Oc (h.la.kept k) j (by have:=h.oka.len;omega) (by omega)
theorem SumIn.plus (h:SumIn w W n A A2 l c l2 c2 a b)(k:Kept W w')(hj:j<=4097){v:Value}(hv:Lim w' v (Al (a.m*2^j))) :
 Calls Tryz.prog 194 #[v,.slice A2 l2 c2] w' (RetLim (Al (a.m*2^j+b.m)) w'):=by
 have h1:=Dt _ 129 (by have:=h.blX hj;omega:bl (a.m*2^j)<=64*129);have h2:=h.okb.len;exact dx hv (h.lb.kept k) (by omega) (by omega)
theorem SumIn.fits (h:SumIn w W n A A2 l c l2 c2 a b)(k:Kept W w')(hm:bl m<=8194){v:Value}(hv:Lim w' v (Al m))(s:Bool) :
 Calls Tryz.prog 80 #[.bool s,v,.int .i64 b.e] w' (J6 129 (Ck s m b.e).raw w'):=by
 have h1:=Dt m 129 (by omega);have h2:=h.okb.lo;have h3:=h.okb.hi;exact fi hv (by omega) (by omega) (by omega) (h.tab.kept (h.kept.trans k))
theorem SumIn.blSum (h:SumIn w W n A A2 l c l2 c2 a b)(hj:j<=4097):bl (a.m*2^j+b.m)<=8194 :=
 i8 _ _ 8193 (h.blX hj) (by have:=Dw b.m 64 h.okb.len;omega)
theorem SumIn.order (h:SumIn w W n A A2 l c l2 c2 a b)(k:Kept W w')(hj:j<=4097){v:Value}(hv:Lim w' v (Al (a.m*2^j))) :
 Calls Tryz.prog 113 #[v,.slice A2 l2 c2] w' (RetQ (.int .i64 (Fx (a.m*2^j) b.m)) w'):=by
 have h1:=Dt _ 129 (by have:=h.blX hj;omega:bl (a.m*2^j)<=64*129);have h2:=h.okb.len;exact Nc hv (h.lb.kept k) (by omega) (by omega)
theorem SumIn.minus (h:SumIn w W n A A2 l c l2 c2 a b)(k:Kept W w')(hj:j<=4097){v:Value}(hv:Lim w' v (Al (a.m*2^j)))(hle:b.m<=a.m*2^j) :
 Calls Tryz.prog 199 #[v,.slice A2 l2 c2] w' (RetLim (Al (a.m*2^j-b.m)) w'):=by
 have h1:=Dt _ 129 (by have:=h.blX hj;omega:bl (a.m*2^j)<=64*129);exact fo hv (h.lb.kept k) (by omega) hle
theorem SumIn.minus' (h:SumIn w W n A A2 l c l2 c2 a b)(k:Kept W w'){v:Value}(hv:Lim w' v (Al (a.m*2^j)))(hle:a.m*2^j<=b.m) :
 Calls Tryz.prog 199 #[.slice A2 l2 c2,v] w' (RetLim (Al (b.m-a.m*2^j)) w') :=
 fo (h.lb.kept k) hv (by have:=h.okb.len;omega) hle
theorem gC (k:Int)(w:World):Calls Tryz.prog 118 #[.bool true,.int .i64 k] w (RetK (.tuple #[]) w):=(I3 true k w).mono λ_ _ ⟨he,hw⟩=>⟨he,hw▸Below.refl _ _⟩
theorem mZ (b:Bool)(k:Int)(w:World):Calls Tryz.prog 118 #[.bool b,.int .i64 k] w λe w'=>(∃ v,e=.returned v/\Kept w w'/\(b=true/\v=.tuple #[]))\/(∃ c,e=.panicked c/\(b=false/\c=By 129 k/\w=w')) :=
 (I3 b k w).mono λe w' ⟨he,hw⟩=>by
   subst hw;cases b
   ·exact .inr ⟨_,he,rfl,rfl,rfl⟩
   ·exact .inl ⟨_,he,Below.refl _ _,rfl,rfl⟩
theorem SumIn.close (h:SumIn w W n A A2 l c l2 c2 a b)(k:Kept W w1){l' c':Nat}(h0:o.raw.k=0)
 (hd:Lim w1 (.slice A' l' c') o.raw.v.m) (g1:-9223372036854775808<=o.raw.v.e) (g2:o.raw.v.e<=9223372036854775807) :
 J6 129 o.raw w (.returned (.agg #[.bool o.raw.v.neg,.slice A' l' c',.int .i64 o.raw.v.e])) (dyW w1 (n+1+1) (.bool o.raw.v.neg) (.slice A' l' c') (.int .i64 o.raw.v.e)) :=
 ⟨Au (h.kept.trans k) (by have:=h.base;omega),.inl ⟨h0,_,rfl,(hd.dyW (h.box.b2.kept k) (Ah _) (Ag _ _ _) (Aj _)).dyR g1 g2⟩⟩
theorem Et {v:Value}(h:DyR w v o.raw.v):∃ A l c,v=.agg #[.bool o.raw.v.neg,.slice A l c,.int .i64 o.raw.v.e]/\Lim w (.slice A l c) o.raw.v.m/\-9223372036854775808<=o.raw.v.e/\o.raw.v.e<=9223372036854775807:=by
 obtain ⟨A,l,c,rfl,-,h1,h2,h3⟩:=h.shape;exact ⟨A,l,c,rfl,h1,h2,h3⟩
theorem kS (ha:DyR w va x.raw)(hb:DyR w vb y.raw)(hx:x.Ok)(hy:y.Ok)(hT:Tab w)(hx0:x.m≠0)(hy0:y.m≠0) :
 Calls Tryz.prog 177 #[va,vb] w (J6 129 (Ey x y).raw w):=by
 unfold Ey;rw [Af hx0,Af hy0];obtain ⟨A,l,c,rfl,hl,ha,-,-⟩:=ha.shape;obtain ⟨A2,l2,c2,rfl,hl2,hb,-,-⟩:=hb.shape;have l0:((l:Int)==0)=false:=by have:=Br x.m hx0;rw [Ek,hl];simp only [Dy.raw];omega
 have l02:((l2:Int)==0)=false:=by have:=Br y.m hy0;rw [Ek,hl2];simp only [Dy.raw];omega
 clear hl hl2;have LA:=Ad ha;have LB:=Ad hb;have HT:=Ad hT;have HX:=Ad hx;have HY:=Ad hy;have HX0:=Ad hx0;have HY0:=Ad hy0;clear ha hb hT hx0 hy0;have x1:=hx.lo;have x2:=hx.hi;have y1:=hy.lo;have y2:=hy.hi;clear hx hy;simp only [Dy.raw] at *;obtain ⟨o,ho⟩:∃ o,o=(if x.e<y.e then Oz y x else Oz x y):=⟨_,rfl⟩;rw [<-ho];have HO:=Ad ho;clear ho;go_enter Tryz.func177,Tryz.ntmps177
 go_upto_if 22 with fail
 go_cut [] (λwx=>∃ (a b:Dy) (A A2:Option Addr) (l c l2 c2:Nat),SumIn w wx w.heap.size A A2 l c l2 c2 a b/\o=Oz a b)
 case first =>
  go_wp2_with fail
  ·rename_i hlt;obtain ⟨W,hW,kW,B0,B1,B2⟩:=Lw w (.bool y.neg) (.slice A2 l2 c2) (.int .i64 y.e) (.bool x.neg) (.slice A l c) (.int .i64 x.e);have hs:SumIn w W w.heap.size A2 A l2 c2 l c y x:=⟨⟨B0,B1,B2⟩,LB.out.kept kW,LA.out.kept kW,kW,Aq _,HT.out,HY.out,HX.out,HY0.out,by omega⟩;have HS:=Ad hs;have HW:=Ad hW;have HL:=Ad hlt;clear hs hW kW B0 B1 B2 hlt
   go_meet
   rw [<-HW.o];exact ⟨y,x,_,_,_,_,_,_,HS.o,HO.o.trans (Ak HL.o)⟩
  ·rename_i hlt;obtain ⟨W,hW,kW,B0,B1,B2⟩:=Lw w (.bool x.neg) (.slice A l c) (.int .i64 x.e) (.bool y.neg) (.slice A2 l2 c2) (.int .i64 y.e);have hs:SumIn w W w.heap.size A A2 l c l2 c2 x y:=⟨⟨B0,B1,B2⟩,LA.out.kept kW,LB.out.kept kW,kW,Aq _,HT.out,HX.out,HY.out,HX0.out,by omega⟩;have HS:=Ad hs;have HW:=Ad hW;have HL:=Ad hlt;clear hs hW kW B0 B1 B2 hlt
   go_meet
   rw [<-HW.o];exact ⟨x,y,_,_,_,_,_,_,HS.o,HO.o.trans (Af (by have:=HL.o;omega))⟩
 clear LA LB HT HX HY HX0 HY0 l0 l02 x1 x2 y1 y2 ha hb;obtain ⟨a,b,A,A2,l,c,l2,c2,hs,ho⟩:=hcut;clear HO;have HO:=Ad ho;have HS:=Ad hs;clear ho hs;generalize wc=W at *;obtain ⟨j,hj⟩:∃ j:Nat,a.e-b.e=j:=⟨(a.e-b.e).toNat,by have:=HS.o.ge;omega⟩;have HJ:=Ad hj;go_upto_region 7 with fail
 go_cut [] (λwx=>Kept W wx/\j<=4097/\Oz a b=if a.neg=b.neg then Ck a.neg (a.m*2^j+b.m) b.e else if b.m<=a.m*2^j then Ck a.neg (a.m*2^j-b.m) b.e else Ck b.neg (b.m-a.m*2^j) b.e)
 case first =>
  have hjt:(a.e-b.e).toNat=j:=by omega
  have a1:=HS.o.oka.lo;have a2:=HS.o.oka.hi;have b1:=HS.o.okb.lo;have b2:=HS.o.okb.hi;have hbl:=Dw a.m 64 HS.o.oka.len;have hws:IntKind.i64.wrap (a.e-b.e)=(j:Int):=by rw [hj];simp [IntKind.wrap_i64];omega
  have hwt:IntKind.i64.wrap (4097-(bl a.m:Int))=4097-(bl a.m:Int):=by simp [IntKind.wrap_i64];omega
  by_cases he:a.e=b.e
  ·have hj0:j≤4097:=by omega
   have hsc:Oz a b=if a.neg=b.neg then Ck a.neg (a.m*2^j+b.m) b.e else if b.m<=a.m*2^j then Ck a.neg (a.m*2^j-b.m) b.e else Ck b.neg (b.m-a.m*2^j) b.e:=by
    unfold Oz;rw [Af (λh=>h.1 he),hjt]
   have he':(a.e==b.e)=true:=by rw [beq_iff_eq];exact he
   have HSC:=Ad hsc;have HJ0:=Ad hj0;clear hj hjt a1 a2 b1 b2 hbl he hj0 hsc hwt
   refine Sv 18 ([(vP w.heap.size 2),(vE (.int .i64 a.e)),(vP (w.heap.size+1) 2),(vE (.int .i64 b.e)),(vE (.bool true)),(vE (.bool true)),(vE undef),(vE undef),(vE undef),(vE undef),(vE undef),(vE undef),(vE undef),(vE undef),(vE undef),(vE undef),(vE (.bool true)),(vE (.tuple #[]))])
    ⟨
     (gq 2),(Ie 0 25 λ_ k=>Ai HS.o.box.b0 k 2 _ rfl),(gq 3),(Ie 2 27 λ_ k=>Ai HS.o.box.b1 k 2 _ rfl),(Hz 1 26 3 28),(gv 4 29),(so 5 30),(so 5 30),(so 5 30),(so 5 30),(so 5 30),(so 5 30),(so 5 30),(so 5 30),(so 5 30),(so 5 30),(Hz 5 30 15 40),(λaF wF F=>by have s41:=F.v 16 41;exact sK (gC 2 _) λ_ _ h=>h),
     trivial⟩ ?_
   intro u w1 k1 hu;simp only [Bb,Ap,Act.put,Ep,hv hu 0,hv hu 1,hv hu 2,hv hu 3,hv hu 4,hv hu 5,hv hu 6,hv hu 7,hv hu 8,hv hu 9,hv hu 10,hv hu 11,hv hu 12,hv hu 13,hv hu 14,hv hu 15,hv hu 16,hv hu 17];clear hu;go_wp2_with fail
   go_meet
   exact ⟨k1,HJ0.o,HSC.o⟩
  ·have he':(a.e==b.e)=false:=by rw [Ek];exact he
   obtain ⟨bb,hbb⟩:∃ bb,decide ((j:Int)<=4097-(bl a.m:Int))=bb:=⟨_,rfl⟩;have HE:=Ad he;have HT:=Ad hjt;have HB:=Ad hbl;clear he hj hjt hbl a1 a2 b1 b2;have hpan:∀ w2,Kept W w2->bb=false->J6 129 o.raw w (.panicked (By 129 2)) w2:=by
    intro w2 k2 hb;rw [HO.o];have hc:¬a.e=b.e/\4097-(bl a.m:Int)<a.e-b.e:=⟨HE.o,by have:=HJ.o;rw [hb] at hbb;simp at hbb;omega⟩;unfold Oz;rw [Ak hc];exact ⟨HS.o.kept.trans k2,.inr ⟨by decide,rfl⟩⟩
   have HP:=Ad hpan;clear hpan
   refine Sv 18 ([(vP w.heap.size 2),(vE (.int .i64 a.e)),(vP (w.heap.size+1) 2),(vE (.int .i64 b.e)),(vE (.bool false)),(vE (.bool false)),(vP w.heap.size 2),(vE (.int .i64 a.e)),(vP (w.heap.size+1) 2),(vE (.int .i64 b.e)),(vE (.int .i64 j)),(vP w.heap.size 1),(vE (.slice A l c)),(vE (.int .i64 (bl a.m))),(vE (.int .i64 (4097-(bl a.m:Int)))),(vE (.bool bb)),(vE (.bool bb)),(λv _=>bb=true/\v=.tuple #[])])
    ⟨
     (gq 2),(Ie 0 25 λ_ k=>Ai HS.o.box.b0 k 2 _ rfl),(gq 3),(Ie 2 27 λ_ k=>Ai HS.o.box.b1 k 2 _ rfl),(Hz 1 26 3 28),(gv 4 29),(λaF wF F=>by have s2:=F.q 2 (.pointer (some ⟨w.heap.size,0,none⟩));have sg:=F.v 5 30;exact Bc ((Am rfl rfl sg).trans rfl) (by go_simp) rfl),(λaF wF F=>by have s31:=F.v 6 31;have c0:=Ai HS.o.box.b0 F.kept 2 _ rfl;have sg:=F.v 5 30;exact Bc ((Am rfl rfl sg).trans rfl) (by go_simp) rfl),(λaF wF F=>by have s3:=F.q 3 (.pointer (some ⟨w.heap.size+1,0,none⟩));have sg:=F.v 5 30;exact Bc ((Am rfl rfl sg).trans rfl) (by go_simp) rfl),(λaF wF F=>by have s33:=F.v 8 33;have c0:=Ai HS.o.box.b1 F.kept 2 _ rfl;have sg:=F.v 5 30;exact Bc ((Am rfl rfl sg).trans rfl) (by go_simp) rfl),(λaF wF F=>by have s32:=F.v 7 32;have s34:=F.v 9 34;have sg:=F.v 5 30;exact Bc ((Am rfl rfl sg).trans rfl) (by go_simp) rfl),(λaF wF F=>by have s2:=F.q 2 (.pointer (some ⟨w.heap.size,0,none⟩));have sg:=F.v 5 30;exact Bc ((Am rfl rfl sg).trans rfl) (by go_simp) rfl),(λaF wF F=>by have s36:=F.v 11 36;have c0:=Ai HS.o.box.b0 F.kept 1 _ rfl;have sg:=F.v 5 30;exact Bc ((Am rfl rfl sg).trans rfl) (by go_simp) rfl),(λaF wF F=>by have s37:=F.v 12 37;have sg:=F.v 5 30;exact Ax ((Am rfl rfl sg).trans rfl) (by go_simp) (HS.o.size F.kept) (λ_ _ h=>RetQ.good h) (λ_ _ h=>h)),(λaF wF F=>by have s38:=F.v 13 38;have sg:=F.v 5 30;exact Bc ((Am rfl rfl sg).trans rfl) (by go_simp) rfl),(λaF wF F=>by have s35:=F.v 10 35;have s39:=F.v 14 39;have sg:=F.v 5 30;exact Bc ((Am rfl rfl sg).trans rfl) (by go_simp) rfl),(Hz 5 30 15 40),(λaF wF F=>by have s41:=F.v 16 41;exact Gb (by simp [Region.wanted]) (by go_simp) (mZ bb 2 _) (λe w2 h=>h.imp (λ⟨v,he,hk,hv⟩=>⟨v,he,hk,hv⟩) (λ⟨c,he,h0,hc,hw2⟩=>⟨c,he,F.defers,by subst hc;exact HP.o w2 (hw2▸F.kept) h0⟩))),
     trivial⟩ ?_
   intro u w1 k1 hu;have p42:=hp hu 17;simp only [Bb,Ap,Act.put,Ep,hv hu 0,hv hu 1,hv hu 2,hv hu 3,hv hu 4,hv hu 5,hv hu 6,hv hu 7,hv hu 8,hv hu 9,hv hu 10,hv hu 11,hv hu 12,hv hu 13,hv hu 14,hv hu 15,hv hu 16];clear hu;generalize u 17=v42 at *;go_wp2_with fail
   go_meet
   have h1:=p42.1;have h2:=HJ.o;rw [h1] at hbb;simp at hbb;refine ⟨k1,by omega,?_⟩;unfold Oz;rw [Af (by omega),HT.o]
 obtain ⟨k1,hj0,hsc⟩:=hcut;have HSC:=Ad (HO.o.trans hsc);clear HJ;have HJ:=Ad hj0;have hws:IntKind.i64.wrap (a.e-b.e)=(j:Int):=by
  have:=HS.o.oka.lo;have:=HS.o.oka.hi;have:=HS.o.okb.lo;have:=HS.o.okb.hi;rw [hj];simp [IntKind.wrap_i64];omega
 clear hj0 hsc hj;generalize wc=w1 at *;go_upto_region 8 with fail;by_cases hn:a.neg=b.neg
 ·have hso:=HSC.out;rw [Ak hn] at hso;subst hso;have hnb:(a.neg==b.neg)=true:=by simp [hn]
  clear hn;obtain ⟨-,a0,a1,a2,-⟩:=(HS.o.box.b0.kept k1).facts;obtain ⟨-,b0,b1,b2,-⟩:=(HS.o.box.b1.kept k1).facts;have K1:=Ad k1;clear k1
  go_wp2_with (first
   | (go_at_call 114;refine (HS.o.left K1.o HJ.o).mono ?_;clear a0 a1 a2 b0 b1 b2;rintro e w2 ⟨X,rfl,hX,q2⟩;have LX:=Ad hX;have KX:=Ad (K1.o.trans q2);obtain ⟨-,a0,a1,a2,-⟩:=(HS.o.box.b0.kept KX.o).facts;obtain ⟨-,b0,b1,b2,-⟩:=(HS.o.box.b1.kept KX.o).facts;clear hX q2)
   | (go_at_call 113;refine (HS.o.order KX.o HJ.o LX.o).mono ?_;rintro e w2 ⟨rfl,q,rfl⟩;replace LX:=Ad (LX.o.drewN q);replace KX:=Ad (Kept.drewN KX.o q)))
  clear hnb a0 a1 a2 b0 b1 b2
  refine Ih 9 ([(vP w.heap.size 0),(vE (.bool a.neg)),(vE X),(vP (w.heap.size+1) 1),(vE (.slice A2 l2 c2)),(λv wv=>Lim wv v (Al (a.m*2^j+b.m))),(vP (w.heap.size+1) 2),(vE (.int .i64 b.e)),(λv wv=>((Ck a.neg (a.m*2^j+b.m) b.e).raw).k=0/\DyR wv v ((Ck a.neg (a.m*2^j+b.m) b.e).raw).v)])
   ⟨
    (gq 2),(Ie 0 57 λ_ k=>Ai (HS.o.box.b0.kept KX.o) k 0 _ rfl),(gq 5),(gq 3),(Ie 3 60 λ_ k=>Ai (HS.o.box.b1.kept KX.o) k 1 _ rfl),(λaF wF F=>by have s59:=F.v 2 59;have s61:=F.v 4 61;exact sL (HS.o.plus (KX.o.trans F.kept) HJ.o (LX.o.kept F.kept)) λ_ _ h=>h),(gq 3),(Ie 6 63 λ_ k=>Ai (HS.o.box.b1.kept KX.o) k 2 _ rfl),(λaF wF F=>by have s58:=F.v 1 58;have s62:=F.p 5 62;have s64:=F.v 7 64;exact sG (HS.o.fits (KX.o.trans F.kept) (HS.o.blSum HJ.o) s62 a.neg) (λ_ _ _ h0 h=>⟨h0,h⟩) (λw2 k2 h0=>⟨F.defers,⟨HS.o.kept.trans (KX.o.trans (F.kept.trans k2)),.inr ⟨h0,rfl⟩⟩⟩)),
    trivial⟩ ?_
  intro u w1 k1 hu;have p62:=hp hu 5;have p65:=hp hu 8;simp only [Bb,Ap,Act.put,Ep,hv hu 0,hv hu 1,hv hu 2,hv hu 3,hv hu 4,hv hu 6,hv hu 7];clear hu;generalize u 5=v62,u 8=v65 at *;obtain ⟨h0,hd⟩:=p65;obtain ⟨A',l',c',rfl,hd,g1,g2⟩:=Et hd;have hr:=HS.o.close (Kept.trans KX.o k1) h0 hd g1 g2;have hb:=HS.o.box.b2.kept (Kept.trans KX.o k1);have HR:=Ad hr;have HB:=Ad hb;clear hr hd g1 g2 h0;obtain ⟨_,c0,c1,c2,f0,f1,f2⟩:=hb.facts;clear hb;go_simp;go_wp2_with fail;exact Ct (HB.o.laid _ _ _) rfl rfl rfl HR.o
 ·have hso:=HSC.out;rw [Af hn] at hso;have hnb:(a.neg==b.neg)=false:=by simp [hn]
  clear hn;by_cases hle:b.m<=a.m*2^j
  ·rw [Ak hle] at hso;subst hso;have hcm:decide (0≤Fx (a.m*2^j) b.m)=true:=by unfold Fx;rw [Af (by omega)];split<;>rfl
   have HL:=Ad hle;clear hle;obtain ⟨-,a0,a1,a2,-⟩:=(HS.o.box.b0.kept k1).facts;obtain ⟨-,b0,b1,b2,-⟩:=(HS.o.box.b1.kept k1).facts;have K1:=Ad k1;clear k1
   go_wp2_with (first
    | (go_at_call 114;refine (HS.o.left K1.o HJ.o).mono ?_;clear a0 a1 a2 b0 b1 b2;rintro e w2 ⟨X,rfl,hX,q2⟩;have LX:=Ad hX;have KX:=Ad (K1.o.trans q2);obtain ⟨-,a0,a1,a2,-⟩:=(HS.o.box.b0.kept KX.o).facts;obtain ⟨-,b0,b1,b2,-⟩:=(HS.o.box.b1.kept KX.o).facts;clear hX q2)
    | (go_at_call 113;refine (HS.o.order KX.o HJ.o LX.o).mono ?_;rintro e w2 ⟨rfl,q,rfl⟩;replace LX:=Ad (LX.o.drewN q);replace KX:=Ad (Kept.drewN KX.o q)))
   clear hnb hcm a0 a1 a2 b0 b1 b2
   refine Ih 9 ([(vP w.heap.size 0),(vE (.bool a.neg)),(vE X),(vP (w.heap.size+1) 1),(vE (.slice A2 l2 c2)),(λv wv=>Lim wv v (Al (a.m*2^j-b.m))),(vP (w.heap.size+1) 2),(vE (.int .i64 b.e)),(λv wv=>((Ck a.neg (a.m*2^j-b.m) b.e).raw).k=0/\DyR wv v ((Ck a.neg (a.m*2^j-b.m) b.e).raw).v)])
    ⟨
     (gq 2),(Ie 0 72 λ_ k=>Ai (HS.o.box.b0.kept KX.o) k 0 _ rfl),(gq 5),(gq 3),(Ie 3 75 λ_ k=>Ai (HS.o.box.b1.kept KX.o) k 1 _ rfl),(λaF wF F=>by have s74:=F.v 2 74;have s76:=F.v 4 76;exact sL (HS.o.minus (KX.o.trans F.kept) HJ.o (LX.o.kept F.kept) HL.o) λ_ _ h=>h),(gq 3),(Ie 6 78 λ_ k=>Ai (HS.o.box.b1.kept KX.o) k 2 _ rfl),(λaF wF F=>by have s73:=F.v 1 73;have s77:=F.p 5 77;have s79:=F.v 7 79;exact sG (HS.o.fits (KX.o.trans F.kept) (Bp (Ka (Nat.sub_le _ _)) (Nat.le_succ_of_le (HS.o.blX HJ.o))) s77 a.neg) (λ_ _ _ h0 h=>⟨h0,h⟩) (λw2 k2 h0=>⟨F.defers,⟨HS.o.kept.trans (KX.o.trans (F.kept.trans k2)),.inr ⟨h0,rfl⟩⟩⟩)),
     trivial⟩ ?_
   intro u w1 k1 hu;have p77:=hp hu 5;have p80:=hp hu 8;simp only [Bb,Ap,Act.put,Ep,hv hu 0,hv hu 1,hv hu 2,hv hu 3,hv hu 4,hv hu 6,hv hu 7];clear hu;generalize u 5=v77,u 8=v80 at *;obtain ⟨h0,hd⟩:=p80;obtain ⟨A',l',c',rfl,hd,g1,g2⟩:=Et hd;have hr:=HS.o.close (Kept.trans KX.o k1) h0 hd g1 g2;have hb:=HS.o.box.b2.kept (Kept.trans KX.o k1);have HR:=Ad hr;have HB:=Ad hb;clear hr hd g1 g2 h0;obtain ⟨_,c0,c1,c2,f0,f1,f2⟩:=hb.facts;clear hb;go_simp;go_wp2_with fail;exact Ct (HB.o.laid _ _ _) rfl rfl rfl HR.o
  ·rw [Af hle] at hso;subst hso;have hcm:decide (0≤Fx (a.m*2^j) b.m)=false:=by unfold Fx;rw [Ak (by omega)];rfl
   have HL:=Ad (show a.m*2^j<=b.m by omega);clear hle;obtain ⟨-,a0,a1,a2,-⟩:=(HS.o.box.b0.kept k1).facts;obtain ⟨-,b0,b1,b2,-⟩:=(HS.o.box.b1.kept k1).facts;have K1:=Ad k1;clear k1
   go_wp2_with (first
    | (go_at_call 114;refine (HS.o.left K1.o HJ.o).mono ?_;clear a0 a1 a2 b0 b1 b2;rintro e w2 ⟨X,rfl,hX,q2⟩;have LX:=Ad hX;have KX:=Ad (K1.o.trans q2);obtain ⟨-,a0,a1,a2,-⟩:=(HS.o.box.b0.kept KX.o).facts;obtain ⟨-,b0,b1,b2,-⟩:=(HS.o.box.b1.kept KX.o).facts;clear hX q2)
    | (go_at_call 113;refine (HS.o.order KX.o HJ.o LX.o).mono ?_;rintro e w2 ⟨rfl,q,rfl⟩;replace LX:=Ad (LX.o.drewN q);replace KX:=Ad (Kept.drewN KX.o q)))
   clear hnb hcm a0 a1 a2 b0 b1 b2
   refine Ih 9 ([(vP (w.heap.size+1) 0),(vE (.bool b.neg)),(vP (w.heap.size+1) 1),(vE (.slice A2 l2 c2)),(vE X),(λv wv=>Lim wv v (Al (b.m-a.m*2^j))),(vP (w.heap.size+1) 2),(vE (.int .i64 b.e)),(λv wv=>((Ck b.neg (b.m-a.m*2^j) b.e).raw).k=0/\DyR wv v ((Ck b.neg (b.m-a.m*2^j) b.e).raw).v)])
    ⟨
     (gq 3),(Ie 0 81 λ_ k=>Ai (HS.o.box.b1.kept KX.o) k 0 _ rfl),(gq 3),(Ie 2 83 λ_ k=>Ai (HS.o.box.b1.kept KX.o) k 1 _ rfl),(gq 5),(λaF wF F=>by have s84:=F.v 3 84;have s85:=F.v 4 85;exact sL (HS.o.minus' (KX.o.trans F.kept) (LX.o.kept F.kept) HL.o) λ_ _ h=>h),(gq 3),(Ie 6 87 λ_ k=>Ai (HS.o.box.b1.kept KX.o) k 2 _ rfl),(λaF wF F=>by have s82:=F.v 1 82;have s86:=F.p 5 86;have s88:=F.v 7 88;exact sG (HS.o.fits (KX.o.trans F.kept) (Bp (Dw b.m 64 HS.o.okb.len |> λh=>Bp (Ka (Nat.sub_le _ _)) h) (by decide)) s86 b.neg) (λ_ _ _ h0 h=>⟨h0,h⟩) (λw2 k2 h0=>⟨F.defers,⟨HS.o.kept.trans (KX.o.trans (F.kept.trans k2)),.inr ⟨h0,rfl⟩⟩⟩)),
     trivial⟩ ?_
   intro u w1 k1 hu;have p86:=hp hu 5;have p89:=hp hu 8;simp only [Bb,Ap,Act.put,Ep,hv hu 0,hv hu 1,hv hu 2,hv hu 3,hv hu 4,hv hu 6,hv hu 7];clear hu;generalize u 5=v86,u 8=v89 at *;obtain ⟨h0,hd⟩:=p89;obtain ⟨A',l',c',rfl,hd,g1,g2⟩:=Et hd;have hr:=HS.o.close (Kept.trans KX.o k1) h0 hd g1 g2;have hb:=HS.o.box.b2.kept (Kept.trans KX.o k1);have HR:=Ad hr;have HB:=Ad hb;clear hr hd g1 g2 h0;obtain ⟨_,c0,c1,c2,f0,f1,f2⟩:=hb.facts;clear hb;go_simp;go_wp2_with fail;exact Ct (HB.o.laid _ _ _) rfl rfl rfl HR.o
theorem Eb (h:x.Ok):x.raw.m.length<=64:=h.len
theorem oQ (ha:DyR w va x.raw)(hb:DyR w vb y.raw)(hx:x.Ok)(hy:y.Ok)(hT:Tab w) :
 Calls Tryz.prog 177 #[va,vb] w (J6 129 (Ey x y).raw w):=by
 by_cases hx0:x.m=0
 ·unfold Ey;rw [Ak hx0,show (good y).raw=⟨y.raw,0⟩ from rfl];have hc:=fun w1 (k:Kept w w1)=>Ud (hb.kept k) (by have:=Eb hy;omega)
  obtain ⟨A,l,c,rfl,hl,-,-,-⟩:=ha.shape;obtain ⟨A2,l2,c2,rfl,-,-,g1,g2⟩:=hb.shape;have hl0:l=0:=by rw [hl];simp only [Dy.raw];rw [hx0,Be];rfl
  subst hl0;have HC:=Ad hc;clear hc hl ha hb hx hx0 hT hy;generalize hn:x.raw.neg=n1,x.raw.e=e1 at *;clear hn;generalize y.raw=r at *;obtain ⟨W,hW,kW,B0,B1,B2⟩:=Lw w (.bool n1) (.slice A 0 c) (.int .i64 e1) (.bool r.neg) (.slice A2 l2 c2) (.int .i64 r.e);have HW:=Ad hW;have HK:=Ad kW;have HB:=Ad B2;clear hW kW B0 B1 B2;go_enter Tryz.func177,Tryz.ntmps177
  go_wp2_with (go_at_call 181;rw [<-HW.o];refine (HC.o _ HK.o).mono ?_;rintro e w1 ⟨q,u,rfl,hd⟩;obtain ⟨A',l',c',rfl,-,hd,g3,g4⟩:=hd.shape;have HD:=Ad hd;have hb2:=HB.o.kept q;obtain ⟨_,c0,c1,c2,f0,f1,f2⟩:=hb2.facts;have HB2:=Ad hb2;clear hd hb2)
  exact Ct (HB2.o.laid _ _ _) rfl rfl rfl ⟨Au (HK.o.trans q) (by omega),.inl ⟨rfl,_,rfl,(HD.o.dyW HB2.o (Ah _) (Ag _ _ _) (Aj _)).dyR g3 g4⟩⟩
 ·by_cases hy0:y.m=0
  ·unfold Ey;rw [Af hx0,Ak hy0,show (good x).raw=⟨x.raw,0⟩ from rfl];have hc:=fun w1 (k:Kept w w1)=>Ud (ha.kept k) (by have:=Eb hx;omega)
   obtain ⟨A,l,c,rfl,hl1,-,-,-⟩:=ha.shape;obtain ⟨A2,l2,c2,rfl,hl,-,g1,g2⟩:=hb.shape;have hl0:l2=0:=by rw [hl];simp only [Dy.raw];rw [hy0,Be];rfl
   subst hl0;have l0:((l:Int)==0)=false:=by have:=Br x.m hx0;rw [Ek,hl1];simp only [Dy.raw];omega
   have HC:=Ad hc;clear hc hl hl1 ha hb hx hx0 hT hy hy0;generalize hn:y.raw.neg=n2,y.raw.e=e2 at *;clear hn;generalize x.raw=r at *;obtain ⟨W,hW,kW,B0,B1,B2⟩:=Lw w (.bool r.neg) (.slice A l c) (.int .i64 r.e) (.bool n2) (.slice A2 0 c2) (.int .i64 e2);have HW:=Ad hW;have HK:=Ad kW;have HB:=Ad B2;clear hW kW B0 B1 B2;go_enter Tryz.func177,Tryz.ntmps177
   go_wp2_with (go_at_call 181;rw [<-HW.o];refine (HC.o _ HK.o).mono ?_;rintro e w1 ⟨q,u,rfl,hd⟩;obtain ⟨A',l',c',rfl,-,hd,g3,g4⟩:=hd.shape;have HD:=Ad hd;have hb2:=HB.o.kept q;obtain ⟨_,c0,c1,c2,f0,f1,f2⟩:=hb2.facts;have HB2:=Ad hb2;clear hd hb2)
   exact Ct (HB2.o.laid _ _ _) rfl rfl rfl ⟨Au (HK.o.trans q) (by omega),.inl ⟨rfl,_,rfl,(HD.o.dyW HB2.o (Ah _) (Ag _ _ _) (Aj _)).dyR g3 g4⟩⟩
  ·exact kS ha hb hx hy hT hx0 hy0
theorem Rd (d:Dy)(h:d.Ok):ni d.raw=(Ff d).raw:=by
 unfold ni Ff;by_cases h0:d.m=0
 ·rw [Ak h0,Af];rintro ⟨_,h1⟩;simp only [Dy.raw] at h1;rw [h0,Be] at h1;exact absurd h1 (Nat.lt_irrefl 0)
 ·rw [Af h0,Ak ⟨h.may,Br d.m h0⟩];rfl
theorem qC (ha:DyR w va x.raw)(hb:DyR w vb y.raw)(hx:x.Ok)(hy:y.Ok)(hT:Tab w) :
 Calls Tryz.prog 178 #[va,vb] w (J6 129 (Ey x (Ff y)).raw w):=by
 have hn:=λw1 (k:Kept w w1)=>Yf (hb.kept k) (by have:=Eb hy;omega)
 rw [Rd y hy] at hn;have hs:=λw1 u (k:Kept w w1) (hu:DyR w1 u (Ff y).raw)=>oQ (ha.kept k) hu hx (Kg hy) (hT.kept k)
 obtain ⟨A,l,c,rfl,-,-,-,-⟩:=ha.shape;obtain ⟨A2,l2,c2,rfl,-,-,-,-⟩:=hb.shape;have HN:=Ad hn;have HS:=Ad hs;clear hn hs ha hb hx hy hT;generalize x.raw.neg=n1,x.raw.e=e1,y.raw.neg=n2,y.raw.e=e2 at *;generalize (Ff y).raw=r at *;generalize Ey x (Ff y)=o at *;obtain ⟨W,hW,kW,B0,B1,B2⟩:=Lw w (.bool n1) (.slice A l c) (.int .i64 e1) (.bool n2) (.slice A2 l2 c2) (.int .i64 e2);have HW:=Ad hW;have HK:=Ad kW;have HB0:=Ad B0;have HB1:=Ad B1;have HB2:=Ad B2;clear hW kW B0 B1 B2;go_enter Tryz.func178,Tryz.ntmps178;go_wp2_with fail;rw [<-HW.o]
 refine Ih 4 ([(vE (.agg #[.bool n1,.slice A l c,.int .i64 e1])),(vE (.agg #[.bool n2,.slice A2 l2 c2,.int .i64 e2])),(λv wv=>DyR wv v r),(λv wv=>o.raw.k=0/\DyR wv v o.raw.v)])
  ⟨
   (E3 2 λ_ k=>c3 HB0.o k),(E3 3 λ_ k=>c3 HB1.o k),(λaF wF F=>by have s6:=F.v 1 6;exact sD (HN.o _ (HK.o.trans F.kept)) λ_ _ h=>h),(λaF wF F=>by have s5:=F.v 0 5;have s7:=F.p 2 7;exact sG (HS.o _ _ (HK.o.trans F.kept) s7) (λ_ _ _ h0 h=>⟨h0,h⟩) (λw2 k2 h0=>⟨F.defers,⟨HK.o.trans (F.kept.trans k2),.inr ⟨h0,rfl⟩⟩⟩)),
   trivial⟩ ?_
 intro u w1 k1 hu;have p7:=hp hu 2;have p8:=hp hu 3;simp only [Bb,Ap,Act.put,Ep,hv hu 0,hv hu 1];clear hu;generalize u 2=v7,u 3=v8 at *;obtain ⟨h0,hd⟩:=p8;obtain ⟨A',l',c',rfl,hd,g1,g2⟩:=Et hd;have hb:=HB2.o.kept k1;obtain ⟨_,c0,c1,c2,f0,f1,f2⟩:=hb.facts;have HD:=Ad hd;have H0:=Ad h0;have HB:=Ad hb;have K1:=Ad k1;clear hd h0 hb k1 p7;go_simp;go_wp2_with fail;exact Ct (HB.o.laid _ _ _) rfl rfl rfl ⟨Au (HK.o.trans K1.o) (by omega),.inl ⟨H0.o,_,rfl,(HD.o.dyW HB.o (Ah _) (Ag _ _ _) (Aj _)).dyR g1 g2⟩⟩
theorem eh (ha:DyR w va x.raw)(hb:DyR w vb y.raw)(hx:x.Ok)(hy:y.Ok)(hT:Tab w) :
 Calls Tryz.prog 133 #[va,vb] w (RetE (Ey x y).raw w):=by
 have hf:=λw1 (k:Kept w w1)=>ll (K:=177) (o:=(Ey x y).raw) (ha.kept k) (hb.kept k) (by have:=Eb hx;omega) (by have:=Eb hy;omega)
  (λW k1 _ _=>oQ (ha.kept (k.trans k1)) (hb.kept (k.trans k1)) hx hy (hT.kept (k.trans k1)))
  (λh=>by have:=Ls hx hy;show ((Ey x y).v).raw=rz;rw [this.2 h,Ge]) (λ_=>rfl)
 have e:So x.raw y.raw (Ey x y).raw=(Ey x y).raw:=by unfold So;rw [hx.may,hy.may];rfl
 rw [e] at hf;obtain ⟨A,l,c,rfl,-,-,-,-⟩:=ha.shape;obtain ⟨A2,l2,c2,rfl,-,-,-,-⟩:=hb.shape;have HF:=Ad hf;clear hf ha hb hx hy hT e;generalize (Ey x y).raw=o at *;generalize x.raw.neg=n1,x.raw.e=e1,y.raw.neg=n2,y.raw.e=e2 at *;obtain ⟨W,hW,kW,B0,B1,B2⟩:=Lw w (.bool n1) (.slice A l c) (.int .i64 e1) (.bool n2) (.slice A2 l2 c2) (.int .i64 e2);have HW:=Ad hW;have HK:=Ad kW;have HB:=Ad B2;clear hW kW B0 B1 B2;go_enter Tryz.func133,Tryz.ntmps133
 go_wp2_with (go_at_call 176;rw [<-HW.o];refine (HF.o _ HK.o).mono ?_;rintro e w1 ⟨q,u,rfl,hd⟩;obtain ⟨A',l',c',rfl,-,hd,g3,g4⟩:=hd.shape;have HD:=Ad hd;have hb2:=HB.o.kept q;obtain ⟨_,c0,c1,c2,f0,f1,f2⟩:=hb2.facts;have HB2:=Ad hb2;clear hd hb2)
 exact Fa (HB2.o.laid _ _ _) rfl rfl rfl ⟨Au (HK.o.trans q) (by omega),_,rfl,(HD.o.dyW HB2.o (Ah _) (Ag _ _ _) (Aj _)).dyR g3 g4⟩
theorem oz (ha:DyR w va x.raw)(hb:DyR w vb y.raw)(hx:x.Ok)(hy:y.Ok)(hT:Tab w) :
 Calls Tryz.prog 135 #[va,vb] w (RetE (Ey x (Ff y)).raw w):=by
 have hf:=λw1 (k:Kept w w1)=>ll (K:=178) (o:=(Ey x (Ff y)).raw) (ha.kept k) (hb.kept k) (by have:=Eb hx;omega) (by have:=Eb hy;omega)
  (λW k1 _ _=>qC (ha.kept (k.trans k1)) (hb.kept (k.trans k1)) hx hy (hT.kept (k.trans k1)))
  (λh=>by have:=Ls hx (Kg hy);show ((Ey x (Ff y)).v).raw=rz;rw [this.2 h,Ge]) (λ_=>rfl)
 have e:So x.raw y.raw (Ey x (Ff y)).raw=(Ey x (Ff y)).raw:=by unfold So;rw [hx.may,hy.may];rfl
 rw [e] at hf;obtain ⟨A,l,c,rfl,-,-,-,-⟩:=ha.shape;obtain ⟨A2,l2,c2,rfl,-,-,-,-⟩:=hb.shape;have HF:=Ad hf;clear hf ha hb hx hy hT e;generalize (Ey x (Ff y)).raw=o at *;generalize x.raw.neg=n1,x.raw.e=e1,y.raw.neg=n2,y.raw.e=e2 at *;obtain ⟨W,hW,kW,B0,B1,B2⟩:=Lw w (.bool n1) (.slice A l c) (.int .i64 e1) (.bool n2) (.slice A2 l2 c2) (.int .i64 e2);have HW:=Ad hW;have HK:=Ad kW;have HB:=Ad B2;clear hW kW B0 B1 B2;go_enter Tryz.func135,Tryz.ntmps135
 go_wp2_with (go_at_call 176;rw [<-HW.o];refine (HF.o _ HK.o).mono ?_;rintro e w1 ⟨q,u,rfl,hd⟩;obtain ⟨A',l',c',rfl,-,hd,g3,g4⟩:=hd.shape;have HD:=Ad hd;have hb2:=HB.o.kept q;obtain ⟨_,c0,c1,c2,f0,f1,f2⟩:=hb2.facts;have HB2:=Ad hb2;clear hd hb2)
 exact Fa (HB2.o.laid _ _ _) rfl rfl rfl ⟨Au (HK.o.trans q) (by omega),_,rfl,(HD.o.dyW HB2.o (Ah _) (Ag _ _ _) (Aj _)).dyR g3 g4⟩
theorem Sq (ha:DyR w va x.raw)(hb:DyR w vb y.raw)(hx:x.Ok)(hy:y.Ok)(hT:Tab w) :
 Calls Tryz.prog 137 #[va,vb] w (RetE (Ch x y).raw w):=by
 have hf:=λw1 (k:Kept w w1)=>ll (K:=179) (o:=(Ch x y).raw) (ha.kept k) (hb.kept k) (by have:=Eb hx;omega) (by have:=Eb hy;omega)
  (λW k1 _ _=>pT (ha.kept (k.trans k1)) (hb.kept (k.trans k1)) hx hy (hT.kept (k.trans k1)))
  (λh=>by have:=Kf x y;show ((Ch x y).v).raw=rz;rw [this.2 h,Ge]) (λ_=>rfl)
 have e:So x.raw y.raw (Ch x y).raw=(Ch x y).raw:=by unfold So;rw [hx.may,hy.may];rfl
 rw [e] at hf;obtain ⟨A,l,c,rfl,-,-,-,-⟩:=ha.shape;obtain ⟨A2,l2,c2,rfl,-,-,-,-⟩:=hb.shape;have HF:=Ad hf;clear hf ha hb hx hy hT e;generalize (Ch x y).raw=o at *;generalize x.raw.neg=n1,x.raw.e=e1,y.raw.neg=n2,y.raw.e=e2 at *;obtain ⟨W,hW,kW,B0,B1,B2⟩:=Lw w (.bool n1) (.slice A l c) (.int .i64 e1) (.bool n2) (.slice A2 l2 c2) (.int .i64 e2);have HW:=Ad hW;have HK:=Ad kW;have HB:=Ad B2;clear hW kW B0 B1 B2;go_enter Tryz.func137,Tryz.ntmps137
 go_wp2_with (go_at_call 176;rw [<-HW.o];refine (HF.o _ HK.o).mono ?_;rintro e w1 ⟨q,u,rfl,hd⟩;obtain ⟨A',l',c',rfl,-,hd,g3,g4⟩:=hd.shape;have HD:=Ad hd;have hb2:=HB.o.kept q;obtain ⟨_,c0,c1,c2,f0,f1,f2⟩:=hb2.facts;have HB2:=Ad hb2;clear hd hb2)
 exact Fa (HB2.o.laid _ _ _) rfl rfl rfl ⟨Au (HK.o.trans q) (by omega),_,rfl,(HD.o.dyW HB2.o (Ah _) (Ag _ _ _) (Aj _)).dyR g3 g4⟩
theorem T8 (w:World)(x y z x' y' z':Value):∃ W,W=(w.alloc (.cells #[x,y,z] 28)).alloc (.cells #[x',y',z'] 28) /\
 Kept w W/\Blk W w.heap.size x y z/\Blk W (w.heap.size+1) x' y' z' :=
 ⟨_,rfl,(Ab _ _).trans (Ab _ _),Bl (Bz _ _ _ _) _,Em _ _ _ _ _⟩
theorem mh (ha:DyR w va x.raw)(hb:DyR w vb y.raw)(hx:x.Ok)(hy:y.Ok)(hx0:x.m≠0)(hy0:y.m≠0) :
 Calls Tryz.prog 77 #[va,vb] w (RetK (.int .i64 (Ns x y)) w):=by
 obtain ⟨A,l,c,rfl,-,ha,-,-⟩:=ha.shape;obtain ⟨A2,l2,c2,rfl,-,hb,-,-⟩:=hb.shape;have hs1:=λw1 (k:Kept w w1)=>Nk (ha.kept k) (by have:=hx.len;omega)
 have hs2:=λw1 (k:Kept w w1)=>Nk (hb.kept k) (by have:=hy.len;omega)
 have bx:=Dw x.m 64 hx.len;have bY:=Dw y.m 64 hy.len;have x1:=hx.lo;have x2:=hx.hi;have y1:=hy.lo;have y2:=hy.hi;obtain ⟨j1,hj1⟩:∃ j:Nat,x.e-min x.e y.e=j:=⟨(x.e-min x.e y.e).toNat,by omega⟩;obtain ⟨j2,hj2⟩:∃ j:Nat,y.e-min x.e y.e=j:=⟨(y.e-min x.e y.e).toNat,by omega⟩;have b1:j1<=2097152:=by omega
 have b2:j2<=2097152:=by omega
 have hl1:=λw1 (k:Kept w w1)=>Oc (ha.kept k) j1 (by have:=hx.len;omega) (by omega)
 have hl2:=λw1 (k:Kept w w1)=>Oc (hb.kept k) j2 (by have:=hy.len;omega) (by omega)
 have lx:(Al (x.m*2^j1)).length<=40000:=Dt _ _ (by rw [Iu _ _ hx0];omega);have ly:(Al (y.m*2^j2)).length<=40000:=Dt _ _ (by rw [Iu _ _ hy0];omega);have ho:=λw1 v u (h1:Lim w1 v (Al (x.m*2^j1))) (h2:Lim w1 u (Al (y.m*2^j2)))=>Nc h1 h2 (by omega) (by omega)
 have hwx:IntKind.i64.wrap ((bl x.m:Int)+x.e)=(bl x.m:Int)+x.e:=by simp [IntKind.wrap_i64];omega
 have hwy:IntKind.i64.wrap ((bl y.m:Int)+y.e)=(bl y.m:Int)+y.e:=by simp [IntKind.wrap_i64];omega
 have hw1:IntKind.i64.wrap (x.e-min x.e y.e)=(j1:Int):=by rw [hj1];simp [IntKind.wrap_i64];omega
 have hw2:IntKind.i64.wrap (y.e-min x.e y.e)=(j2:Int):=by rw [hj2];simp [IntKind.wrap_i64];omega
 have hD:Ns x y=if (bl x.m:Int)+x.e<bl y.m+y.e then -1 else if (bl y.m:Int)+y.e<bl x.m+x.e then 1 else Fx (x.m*2^j1) (y.m*2^j2):=by
  unfold Ns;rw [hj1,hj2];rfl
 have HD:=Ad hD;have H1:=Ad hs1;have H2:=Ad hs2;have L1:=Ad hl1;have L2:=Ad hl2;have HO:=Ad ho;clear hD hs1 hs2 hl1 hl2 ho lx ly ha hb bx bY x1 x2 y1 y2 hx hy hx0 hy0 b1 b2 hj1 hj2;generalize Al (x.m*2^j1)=xs at *;generalize Al (y.m*2^j2)=ys at *;generalize Fx (x.m*2^j1) (y.m*2^j2)=cc at *;obtain ⟨sx,hsx⟩:∃ sx,(bl x.m:Int)+x.e=sx:=⟨_,rfl⟩;obtain ⟨sy,hsy⟩:∃ sy,(bl y.m:Int)+y.e=sy:=⟨_,rfl⟩;rw [hsx,hsy] at HD;rw [hsx] at hwx;rw [hsy] at hwy;have HX:=Ad hsx;have HY:=Ad hsy;clear hsx hsy;obtain ⟨lo,hlo⟩:∃ lo,min x.e y.e=lo:=⟨_,rfl⟩;rw [hlo] at hw1 hw2;have HL:=Ad hlo;clear hlo;generalize bl x.m=bx at *
 generalize bl y.m=bY at *;have hsz:=HD.o;generalize Ns x y=res at *;simp only [Dy.raw] at *;generalize x.neg=n1,x.e=e1,y.neg=n2,y.e=e2 at *;clear HD;obtain ⟨W,hW,kW,B0,B1⟩:=T8 w (.bool n1) (.slice A l c) (.int .i64 e1) (.bool n2) (.slice A2 l2 c2) (.int .i64 e2);have HW:=Ad hW;have HK:=Ad kW;have HB0:=Ad B0;have HB1':=Ad B1;clear hW kW B0 B1;by_cases h1:sx<sy
 ·rw [Ak h1] at hsz;subst hsz;have d1:decide (sx<sy)=true:=by simp [h1]
  clear h1;go_enter Tryz.func77,Tryz.ntmps77;go_wp2_with fail;rw [<-HW.o]
  refine Sv 14 ([(vP w.heap.size 1),(vE (.slice A l c)),(vE (.int .i64 bx)),(vP w.heap.size 2),(vE (.int .i64 e1)),(vE (.int .i64 sx)),(vP (w.heap.size+1) 1),(vE (.slice A2 l2 c2)),(vE (.int .i64 bY)),(vP (w.heap.size+1) 2),(vE (.int .i64 e2)),(vE (.int .i64 sy)),(vE (.int .i64 sx)),(vE (.int .i64 sy))])
   ⟨
    (gq 2),(Ie 0 8 λ_ k=>Ai HB0.o k 1 _ rfl),(λaF wF F=>by have s9:=F.v 1 9;exact sQ (H1.o _ (HK.o.trans F.kept)) λ_ _ h=>h),(gq 2),(Ie 3 11 λ_ k=>Ai HB0.o k 2 _ rfl),(λaF wF F=>by have s10:=F.v 2 10;have s12:=F.v 4 12;exact sw (by have:=HX.o;go_simp) rfl),(gq 3),(Ie 6 14 λ_ k=>Ai HB1'.o k 1 _ rfl),(λaF wF F=>by have s15:=F.v 7 15;exact sQ (H2.o _ (HK.o.trans F.kept)) λ_ _ h=>h),(gq 3),(Ie 9 17 λ_ k=>Ai HB1'.o k 2 _ rfl),(λaF wF F=>by have s16:=F.v 8 16;have s18:=F.v 10 18;exact sw (by have:=HY.o;go_simp) rfl),(gv 5 13),(gv 11 19),
    trivial⟩ ?_
  intro u w1 k1 hu;simp only [Bb,Ap,Act.put,Ep,hv hu 0,hv hu 1,hv hu 2,hv hu 3,hv hu 4,hv hu 5,hv hu 6,hv hu 7,hv hu 8,hv hu 9,hv hu 10,hv hu 11,hv hu 12,hv hu 13];clear hu;go_wp2_with fail;go_ret;exact ⟨rfl,HK.o.trans k1⟩
 ·rw [Af    h1] at hsz;have d1:decide (sx<sy)=false:=by simp;omega
  clear h1;by_cases h2:sy<sx
  ·rw [Ak h2] at hsz;subst hsz;have d2:decide (sy<sx)=true:=by simp [h2]
   clear h2;go_enter Tryz.func77,Tryz.ntmps77;go_wp2_with fail;rw [<-HW.o]
   refine Sv 14 ([(vP w.heap.size 1),(vE (.slice A l c)),(vE (.int .i64 bx)),(vP w.heap.size 2),(vE (.int .i64 e1)),(vE (.int .i64 sx)),(vP (w.heap.size+1) 1),(vE (.slice A2 l2 c2)),(vE (.int .i64 bY)),(vP (w.heap.size+1) 2),(vE (.int .i64 e2)),(vE (.int .i64 sy)),(vE (.int .i64 sx)),(vE (.int .i64 sy))])
    ⟨
     (gq 2),(Ie 0 8 λ_ k=>Ai HB0.o k 1 _ rfl),(λaF wF F=>by have s9:=F.v 1 9;exact sQ (H1.o _ (HK.o.trans F.kept)) λ_ _ h=>h),(gq 2),(Ie 3 11 λ_ k=>Ai HB0.o k 2 _ rfl),(λaF wF F=>by have s10:=F.v 2 10;have s12:=F.v 4 12;exact sw (by have:=HX.o;go_simp) rfl),(gq 3),(Ie 6 14 λ_ k=>Ai HB1'.o k 1 _ rfl),(λaF wF F=>by have s15:=F.v 7 15;exact sQ (H2.o _ (HK.o.trans F.kept)) λ_ _ h=>h),(gq 3),(Ie 9 17 λ_ k=>Ai HB1'.o k 2 _ rfl),(λaF wF F=>by have s16:=F.v 8 16;have s18:=F.v 10 18;exact sw (by have:=HY.o;go_simp) rfl),(gv 5 13),(gv 11 19),
     trivial⟩ ?_
   intro u w1 k1 hu;simp only [Bb,Ap,Act.put,Ep,hv hu 0,hv hu 1,hv hu 2,hv hu 3,hv hu 4,hv hu 5,hv hu 6,hv hu 7,hv hu 8,hv hu 9,hv hu 10,hv hu 11,hv hu 12,hv hu 13];clear hu;go_wp2_with fail;go_ret;exact ⟨rfl,HK.o.trans k1⟩
  ·rw [Af h2] at hsz;subst hsz;have d2:decide (sy<sx)=false:=by simp;omega
   clear h2;go_enter Tryz.func77,Tryz.ntmps77;go_wp2_with fail;rw [<-HW.o]
   refine Sv 14 ([(vP w.heap.size 1),(vE (.slice A l c)),(vE (.int .i64 bx)),(vP w.heap.size 2),(vE (.int .i64 e1)),(vE (.int .i64 sx)),(vP (w.heap.size+1) 1),(vE (.slice A2 l2 c2)),(vE (.int .i64 bY)),(vP (w.heap.size+1) 2),(vE (.int .i64 e2)),(vE (.int .i64 sy)),(vE (.int .i64 sx)),(vE (.int .i64 sy))])
    ⟨
     (gq 2),(Ie 0 8 λ_ k=>Ai HB0.o k 1 _ rfl),(λaF wF F=>by have s9:=F.v 1 9;exact sQ (H1.o _ (HK.o.trans F.kept)) λ_ _ h=>h),(gq 2),(Ie 3 11 λ_ k=>Ai HB0.o k 2 _ rfl),(λaF wF F=>by have s10:=F.v 2 10;have s12:=F.v 4 12;exact sw (by have:=HX.o;go_simp) rfl),(gq 3),(Ie 6 14 λ_ k=>Ai HB1'.o k 1 _ rfl),(λaF wF F=>by have s15:=F.v 7 15;exact sQ (H2.o _ (HK.o.trans F.kept)) λ_ _ h=>h),(gq 3),(Ie 9 17 λ_ k=>Ai HB1'.o k 2 _ rfl),(λaF wF F=>by have s16:=F.v 8 16;have s18:=F.v 10 18;exact sw (by have:=HY.o;go_simp) rfl),(gv 5 13),(gv 11 19),
     trivial⟩ ?_
   intro u w1 k1 hu;simp only [Bb,Ap,Act.put,Ep,hv hu 0,hv hu 1,hv hu 2,hv hu 3,hv hu 4,hv hu 5,hv hu 6,hv hu 7,hv hu 8,hv hu 9,hv hu 10,hv hu 11,hv hu 12,hv hu 13];clear hu;obtain ⟨-,a0,a1,a2,-⟩:=(HB0.o.kept k1).facts;obtain ⟨-,b0,b1,b2,-⟩:=(HB1'.o.kept k1).facts;go_wp2_with fail;rw [HL.o];have K1:=Ad k1;clear a0 a1 a2 b0 b1 b2 k1 hwx hwy d1 d2
   refine Sv 16 ([(vP w.heap.size 1),(vE (.slice A l c)),(vP w.heap.size 2),(vE (.int .i64 e1)),(vE (.int .i64 lo)),(vE (.int .i64 j1)),(λv wv=>Lim wv v (xs)),(vP (w.heap.size+1) 1),(vE (.slice A2 l2 c2)),(vP (w.heap.size+1) 2),(vE (.int .i64 e2)),(vE (.int .i64 lo)),(vE (.int .i64 j2)),(λv wv=>Lim wv v (ys)),(vE (.int .i64 res)),(vE (.int .i64 res))])
    ⟨
     (gq 2),(Ie 0 33 λ_ k=>Ai (HB0.o.kept K1.o) k 1 _ rfl),(gq 2),(Ie 2 35 λ_ k=>Ai (HB0.o.kept K1.o) k 2 _ rfl),(gq 7),(Hz 3 36 4 37),(λaF wF F=>by have s34:=F.v 1 34;have s38:=F.v 5 38;exact sL (L1.o _ (HK.o.trans (K1.o.trans F.kept))) λ_ _ h=>h),(gq 3),(Ie 7 40 λ_ k=>Ai (HB1'.o.kept K1.o) k 1 _ rfl),(gq 3),(Ie 9 42 λ_ k=>Ai (HB1'.o.kept K1.o) k 2 _ rfl),(gq 7),(Hz 10 43 11 44),(λaF wF F=>by have s41:=F.v 8 41;have s45:=F.v 12 45;exact sL (L2.o _ (HK.o.trans (K1.o.trans F.kept))) λ_ _ h=>h),(λaF wF F=>by have s39:=F.p 6 39;have s46:=F.p 13 46;exact sQ (HO.o _ _ _ s39 s46) λ_ _ h=>h),(gv 14 47),
     trivial⟩ ?_
   intro u w1 k1 hu;have p39:=hp hu 6;have p46:=hp hu 13;simp only [Bb,Ap,Act.put,Ep,hv hu 0,hv hu 1,hv hu 2,hv hu 3,hv hu 4,hv hu 5,hv hu 7,hv hu 8,hv hu 9,hv hu 10,hv hu 11,hv hu 12,hv hu 14,hv hu 15];clear hu;generalize u 6=v39,u 13=v46 at *;clear p39 p46;go_wp2_with fail;go_ret;exact ⟨rfl,HK.o.trans (K1.o.trans k1)⟩
theorem Vj (d:Dy)(h:d.Ok):nQ d.raw=sg d:=by
 unfold nQ sg;by_cases h0:d.m=0
 ·rw [Ak h0,Ak (Or.inr (by simp only [Dy.raw];rw [h0,Be];rfl))]
 ·rw [Af h0,Af]
  ·rfl
  ·rintro (h1 | h1)
   ·rw [h.may] at h1;cases h1
   ·have:=Br d.m h0;simp only [Dy.raw] at h1;omega
theorem N5 (ha:DyR w va x.raw)(hb:DyR w vb y.raw)(hx:x.Ok)(hy:y.Ok) :
 Calls Tryz.prog 40 #[va,vb] w (RetK (.int .i64 (Dh x.q y.q)) w):=by
 have lx:=Eb hx;have ly:=Eb hy;have s1:=λw1 (k:Kept w w1)=>Yh (ha.kept k) (by omega)
 have s2:=λw1 (k:Kept w w1)=>Yh (hb.kept k) (by omega)
 have m1:=λw1 (k:Kept w w1)=>Od (ha.kept k) (by omega)
 have m2:=λw1 (k:Kept w w1)=>Od (hb.kept k) (by omega)
 have hsz:=λw1 (k:Kept w w1) (h1:x.m≠0) (h2:y.m≠0)=>mh (ha.kept k) (hb.kept k) hx hy h1 h2
 rw [Vj x hx] at s1;rw [Vj y hy] at s2;rw [hx.may] at m1;rw [hy.may] at m2;have g1:=@iR x y;have g2:=@pE x y;have g3:=@iS x y;have c1:=Ml x;have c2:=Ml y;have z1:sg x≠0->x.m≠0:=λh h0=>h (by unfold sg;rw [Ak h0])
 have z2:sg y≠0->y.m≠0:=λh h0=>h (by unfold sg;rw [Ak h0])
 have hsr:Ns x y=-1\/Ns x y=0\/Ns x y=1:=by
  unfold Ns Fx;split
  ·exact .inl rfl
  ·split
   ·exact .inr (.inr rfl)
   ·split
    ·exact .inl rfl
    ·split
     ·exact .inr (.inl rfl)
     ·exact .inr (.inr rfl)
 obtain ⟨A,l,c,rfl,-,ha,-,-⟩:=ha.shape;obtain ⟨A2,l2,c2',rfl,-,hb,-,-⟩:=hb.shape;have S1:=Ad s1;have S2:=Ad s2;have M1:=Ad m1;have M2:=Ad m2;have HZ:=Ad hsz;have G1:=Ad g1;have G2:=Ad g2;have G3:=Ad g3;have Z1:=Ad z1;have Z2:=Ad z2;have C1:=Ad c1;have C2:=Ad c2;have HR:=Ad hsr;clear s1 s2 m1 m2 hsz g1 g2 g3 z1 z2 c1 c2 hsr ha hb lx ly hx hy;generalize Dh x.q y.q=res at *;simp only [Dy.raw] at *;generalize x.neg=n1,x.e=e1,y.neg=n2,y.e=e2 at *;generalize Ns x y=zz at *;generalize sg x=g at *;generalize sg y=g' at *;obtain ⟨W,hW,kW,B0,B1⟩:=T8 w (.bool n1) (.slice A l c) (.int .i64 e1) (.bool n2) (.slice A2 l2 c2') (.int .i64 e2)
 have HW:=Ad hW;have HK:=Ad kW;have HB0:=Ad B0;have HB1':=Ad B1;clear hW kW B0 B1;by_cases h1:g<g'
 ·have hr:=G1.out h1;subst hr;have d1:(g==g')=false:=by rw [Ek];omega
  have d2:decide (g<g')=true:=by simp [h1]
  clear h1;go_enter Tryz.func40,Tryz.ntmps40;go_wp2_with fail;rw [<-HW.o]
  refine Sv 6 ([(vE (.agg #[.bool n1,.slice A l c,.int .i64 e1])),(vE (.int .i64 g)),(vE (.agg #[.bool n2,.slice A2 l2 c2',.int .i64 e2])),(vE (.int .i64 g')),(vE (.int .i64 g)),(vE (.int .i64 g'))])
   ⟨
    (E3 2 λ_ k=>c3 HB0.o k),(λaF wF F=>by have s7:=F.v 0 7;exact sK (S1.o _ (HK.o.trans F.kept)) λ_ _ h=>h),(E3 3 λ_ k=>c3 HB1'.o k),(λaF wF F=>by have s9:=F.v 2 9;exact sK (S2.o _ (HK.o.trans F.kept)) λ_ _ h=>h),(gv 1 8),(gv 3 10),
    trivial⟩ ?_
  intro u w1 k1 hu;simp only [Bb,Ap,Act.put,Ep,hv hu 0,hv hu 1,hv hu 2,hv hu 3,hv hu 4,hv hu 5];clear hu;have KX:=Ad k1;obtain ⟨-,a0,a1,a2,-⟩:=(HB0.o.kept k1).facts;obtain ⟨-,b0,b1,b2,-⟩:=(HB1'.o.kept k1).facts;clear k1 u;go_wp2_with fail;refine (M1.o _ (HK.o.trans KX.o)).mono ?_;rintro e w2 ⟨rfl,q⟩;replace KX:=Ad (KX.o.trans q);clear a0 a1 a2 b0 b1 b2 q;obtain ⟨-,a0,a1,a2,-⟩:=(HB0.o.kept KX.o).facts;obtain ⟨-,b0,b1,b2,-⟩:=(HB1'.o.kept KX.o).facts;simp only [];go_wp2_with fail;refine (M2.o _ (HK.o.trans KX.o)).mono ?_;rintro e w3 ⟨rfl,q⟩
  replace KX:=Ad (KX.o.trans q);clear a0 a1 a2 b0 b1 b2 q;obtain ⟨-,a0,a1,a2,-⟩:=(HB0.o.kept KX.o).facts;obtain ⟨-,b0,b1,b2,-⟩:=(HB1'.o.kept KX.o).facts;simp only [];go_wp2_with fail;go_ret;exact ⟨rfl,HK.o.trans KX.o⟩
 ·have d2:decide (g<g')=false:=by simp;omega
  by_cases h2:g=g'
  ·have hr:=G3.out h2;obtain rfl:=h2;have d1:(g==g)=true:=by rw [beq_iff_eq]
   by_cases h3:g=0
   ·rw [Ak h3] at hr;subst hr;have d3:(g==0)=true:=by rw [beq_iff_eq];exact h3
    clear h1 h3;go_enter Tryz.func40,Tryz.ntmps40;go_wp2_with fail;rw [<-HW.o]
    refine Sv 6 ([(vE (.agg #[.bool n1,.slice A l c,.int .i64 e1])),(vE (.int .i64 g)),(vE (.agg #[.bool n2,.slice A2 l2 c2',.int .i64 e2])),(vE (.int .i64 g)),(vE (.int .i64 g)),(vE (.int .i64 g))])
     ⟨
      (E3 2 λ_ k=>c3 HB0.o k),(λaF wF F=>by have s7:=F.v 0 7;exact sK (S1.o _ (HK.o.trans F.kept)) λ_ _ h=>h),(E3 3 λ_ k=>c3 HB1'.o k),(λaF wF F=>by have s9:=F.v 2 9;exact sK (S2.o _ (HK.o.trans F.kept)) λ_ _ h=>h),(gv 1 8),(gv 3 10),
      trivial⟩ ?_
    intro u w1 k1 hu;simp only [Bb,Ap,Act.put,Ep,hv hu 0,hv hu 1,hv hu 2,hv hu 3,hv hu 4,hv hu 5];clear hu;have KX:=Ad k1;obtain ⟨-,a0,a1,a2,-⟩:=(HB0.o.kept k1).facts;obtain ⟨-,b0,b1,b2,-⟩:=(HB1'.o.kept k1).facts;clear k1 u;go_wp2_with fail;refine (M1.o _ (HK.o.trans KX.o)).mono ?_;rintro e w2 ⟨rfl,q⟩;replace KX:=Ad (KX.o.trans q);clear a0 a1 a2 b0 b1 b2 q;obtain ⟨-,a0,a1,a2,-⟩:=(HB0.o.kept KX.o).facts;obtain ⟨-,b0,b1,b2,-⟩:=(HB1'.o.kept KX.o).facts;simp only [];go_wp2_with fail;refine (M2.o _ (HK.o.trans KX.o)).mono ?_;rintro e w3 ⟨rfl,q⟩
    replace KX:=Ad (KX.o.trans q);clear a0 a1 a2 b0 b1 b2 q;obtain ⟨-,a0,a1,a2,-⟩:=(HB0.o.kept KX.o).facts;obtain ⟨-,b0,b1,b2,-⟩:=(HB1'.o.kept KX.o).facts;simp only [];go_wp2_with fail;go_ret;exact ⟨rfl,HK.o.trans KX.o⟩
   ·rw [Af h3] at hr;subst hr;have d3:(g==0)=false:=by rw [Ek];exact h3
    have hz:=λw1 k=>HZ.o w1 k (Z1.o h3) (Z2.o h3)
    have hw:wrap64 (g*zz)=g*zz:=by
     rcases C1.o with h | h | h<;>rcases HR.o with h' | h' | h'<;>rw [h,h']<;>first | rfl | decide | simp [wrap64]
    clear HZ;have HZ:=Ad hz;clear h1 h3 hz;go_enter Tryz.func40,Tryz.ntmps40;go_wp2_with fail;rw [<-HW.o]
    refine Sv 6 ([(vE (.agg #[.bool n1,.slice A l c,.int .i64 e1])),(vE (.int .i64 g)),(vE (.agg #[.bool n2,.slice A2 l2 c2',.int .i64 e2])),(vE (.int .i64 g)),(vE (.int .i64 g)),(vE (.int .i64 g))])
     ⟨
      (E3 2 λ_ k=>c3 HB0.o k),(λaF wF F=>by have s7:=F.v 0 7;exact sK (S1.o _ (HK.o.trans F.kept)) λ_ _ h=>h),(E3 3 λ_ k=>c3 HB1'.o k),(λaF wF F=>by have s9:=F.v 2 9;exact sK (S2.o _ (HK.o.trans F.kept)) λ_ _ h=>h),(gv 1 8),(gv 3 10),
      trivial⟩ ?_
    intro u w1 k1 hu;simp only [Bb,Ap,Act.put,Ep,hv hu 0,hv hu 1,hv hu 2,hv hu 3,hv hu 4,hv hu 5];clear hu;have KX:=Ad k1;obtain ⟨-,a0,a1,a2,-⟩:=(HB0.o.kept k1).facts;obtain ⟨-,b0,b1,b2,-⟩:=(HB1'.o.kept k1).facts;clear k1 u;go_wp2_with fail;refine (M1.o _ (HK.o.trans KX.o)).mono ?_;rintro e w2 ⟨rfl,q⟩;replace KX:=Ad (KX.o.trans q);clear a0 a1 a2 b0 b1 b2 q;obtain ⟨-,a0,a1,a2,-⟩:=(HB0.o.kept KX.o).facts;obtain ⟨-,b0,b1,b2,-⟩:=(HB1'.o.kept KX.o).facts;simp only [];go_wp2_with fail;refine (M2.o _ (HK.o.trans KX.o)).mono ?_;rintro e w3 ⟨rfl,q⟩
    replace KX:=Ad (KX.o.trans q);clear a0 a1 a2 b0 b1 b2 q;obtain ⟨-,a0,a1,a2,-⟩:=(HB0.o.kept KX.o).facts;obtain ⟨-,b0,b1,b2,-⟩:=(HB1'.o.kept KX.o).facts;simp only []
    go_wp2_with (go_at_call 77;refine (HZ.o _ (HK.o.trans KX.o)).mono ?_;rintro e w2 ⟨rfl,q⟩;have KY:=Ad (KX.o.trans q))
    go_ret;exact ⟨show Ending.returned (.int .i64 (wrap64 (g*zz)))=_ from by rw [hw],HK.o.trans KY.o⟩
  ·have hr:=G2.out (by omega);subst hr;have d1:(g==g')=false:=by rw [Ek];exact h2
   clear h1 h2;go_enter Tryz.func40,Tryz.ntmps40;go_wp2_with fail;rw [<-HW.o]
   refine Sv 6 ([(vE (.agg #[.bool n1,.slice A l c,.int .i64 e1])),(vE (.int .i64 g)),(vE (.agg #[.bool n2,.slice A2 l2 c2',.int .i64 e2])),(vE (.int .i64 g')),(vE (.int .i64 g)),(vE (.int .i64 g'))])
    ⟨
     (E3 2 λ_ k=>c3 HB0.o k),(λaF wF F=>by have s7:=F.v 0 7;exact sK (S1.o _ (HK.o.trans F.kept)) λ_ _ h=>h),(E3 3 λ_ k=>c3 HB1'.o k),(λaF wF F=>by have s9:=F.v 2 9;exact sK (S2.o _ (HK.o.trans F.kept)) λ_ _ h=>h),(gv 1 8),(gv 3 10),
     trivial⟩ ?_
   intro u w1 k1 hu;simp only [Bb,Ap,Act.put,Ep,hv hu 0,hv hu 1,hv hu 2,hv hu 3,hv hu 4,hv hu 5];clear hu;have KX:=Ad k1;obtain ⟨-,a0,a1,a2,-⟩:=(HB0.o.kept k1).facts;obtain ⟨-,b0,b1,b2,-⟩:=(HB1'.o.kept k1).facts;clear k1 u;go_wp2_with fail;refine (M1.o _ (HK.o.trans KX.o)).mono ?_;rintro e w2 ⟨rfl,q⟩;replace KX:=Ad (KX.o.trans q);clear a0 a1 a2 b0 b1 b2 q;obtain ⟨-,a0,a1,a2,-⟩:=(HB0.o.kept KX.o).facts;obtain ⟨-,b0,b1,b2,-⟩:=(HB1'.o.kept KX.o).facts;simp only [];go_wp2_with fail;refine (M2.o _ (HK.o.trans KX.o)).mono ?_;rintro e w3 ⟨rfl,q⟩
   replace KX:=Ad (KX.o.trans q);clear a0 a1 a2 b0 b1 b2 q;obtain ⟨-,a0,a1,a2,-⟩:=(HB0.o.kept KX.o).facts;obtain ⟨-,b0,b1,b2,-⟩:=(HB1'.o.kept KX.o).facts;simp only [];go_wp2_with fail;go_ret;exact ⟨rfl,HK.o.trans KX.o⟩
theorem jT (k:Int)(w:World):Calls Tryz.prog 174 #[.bool true,.int .i64 k] w λe w'=>e=.returned (.tuple #[])/\w=w':=by
 go_enter Tryz.func174,Tryz.ntmps174;go_wp2
 go_end0
 exact ⟨rfl,rfl⟩
theorem gB (k:Int)(w:World):Calls Tryz.prog 174 #[.bool false,.int .i64 k] w λe w'=>e=.panicked (By 185 k)/\w=w':=by
 go_enter Tryz.func174,Tryz.ntmps174;go_wp2;exact ⟨rfl,rfl,rfl⟩
theorem Gg (b:Bool)(k:Int)(w:World):Calls Tryz.prog 174 #[.bool b,.int .i64 k] w λe w'=>e=aB 185 b k/\w=w':=by
 cases b
 ·exact gB k w
 ·exact jT k w
theorem Sk (k:Int)(w:World):(Instr.typeAssert (.iface 185 (.agg #[.int .i64 k])) 20 185 true).run Tryz.prog w=.ok (.tuple #[.agg #[.int .i64 k],.bool true]) w:=by
 kernel_rfl
theorem Tc (w:World):(Instr.typeAssert .nilIface 20 185 true).run Tryz.prog w=.ok (.tuple #[.agg #[.int .i64 0],.bool false]) w:=by
 kernel_rfl
theorem Zv (b2 b3:Nat)(w:World)(k:Int)(x y z q:Value)
 (h0:w.heap[b2]?=some (.cells #[x,y,z] 28 (0,0))) (h1:w.heap[b3]?=some (.cells #[q] 3 (0,0))) (hne:¬b2=b3) :
 CallsD Tryz.prog 193 #[.pointer (some ⟨b2,0,none⟩),.pointer (some ⟨b3,0,none⟩)] (.panicking (By 185 k)) w λe u' w' =>
  e=.returned (.tuple #[])/\u'=.panicking [{ v:=.iface 185 (.agg #[.int .i64 k]),recovered:=true }]/\w'=(ev w b2 b3 185 k).drew:=by
 have ha:=Sk k;have l2:b2<w.heap.size:=(Bi h0).1;have l3:b3<w.heap.size:=(Bi h1).1;have n2:¬b2=w.heap.size:=by omega
 have n3:¬b3=w.heap.size:=by omega
 have n2':¬w.heap.size=b2:=by omega
 have n3':¬w.heap.size=b3:=by omega
 have hne':¬b3=b2:=λh=>hne h.symm
 have c20:=Ae h0 0 x rfl;have c21:=Ae h0 1 y rfl;have c22:=Ae h0 2 z rfl;have c30:=Ae h1 0 q rfl;have f20:=Aw h0 0;have f21:=Aw h0 1;have f22:=Aw h0 2;have f30:=Aw h1 0;refine callsD_of_wpS Tryz.func193 rfl λc₀ cs hu=>?_
 simp only [Tryz.ntmps193,List.size_toArray,List.length_cons,List.length_nil,Nat.reduceAdd,Nat.reduceSub,Array.replicate_succ,
  Array.replicate_zero,List.push_toArray,List.append_toArray,List.nil_append,List.cons_append]
 refine Fb (v:=.iface 185 (.agg #[.int .i64 k])) (cs':={ c₀ with mode:=.panicking [{ v:=.iface 185 (.agg #[.int .i64 k]),recovered:=true }] }::cs) (w':=w) rfl ?_ ?_ ?_
 ·simp [go_sem]
 ·rw [recoverD,hu];exact ⟨rfl,rfl⟩
 go_wp2_with fail;go_region;exact ⟨rfl,_,rfl,_,results_none rfl _ _ _,rfl,rfl,rfl⟩
theorem Zw (b2 b3:Nat)(w:World) :
 CallsD Tryz.prog 193 #[.pointer (some ⟨b2,0,none⟩),.pointer (some ⟨b3,0,none⟩)] .returning w λe u' w' =>
  e=.returned (.tuple #[])/\u'=.returning/\w'=w.alloc (.cells #[.int .i64 0] 185):=by
 have ha:=Tc;refine callsD_of_wpS Tryz.func193 rfl λc₀ cs hu=>?_
 simp only [Tryz.ntmps193,List.size_toArray,List.length_cons,List.length_nil,Nat.reduceAdd,Nat.reduceSub,Array.replicate_succ,
  Array.replicate_zero,List.push_toArray,List.append_toArray,List.nil_append,List.cons_append]
 refine Fb (v:=.nilIface) (cs':=c₀::cs) (w':=w) rfl ?_ ?_ ?_
 ·simp [go_sem]
 ·rw [recoverD,hu];exact ⟨rfl,rfl⟩
 go_wp2_with fail;exact ⟨rfl,.returning,by rw [<-hu],_,results_none rfl _ _ _,rfl,rfl,rfl⟩
theorem Yj {o:Outc Raw}(h:∀ w1,Kept w w1->Calls Tryz.prog K cap w1 (J6 185 o w1))(hz:o.k≠0->o.v=rz)
 (hk:∀ w,(callFunc K cap).run Tryz.prog w=.ok (.enter K cap) w) :
 Calls Tryz.prog 168 #[.func (.func K) #[] cap] w (RetE o w):=by
 have hmf:=Hf;have HH:=Ad h;clear h
 go_enter_defers Tryz.func168,Tryz.ntmps168
 go_wp2_with fail;have k1:Kept w ((w.alloc (.cells #[.bool false,.slice none 0 0,.int .i64 0] 28)).alloc (.cells #[.int .i64 0] 3)):=((Below.refl _ _).alloc (Aq _) _).alloc (by simp) _;refine (HH.o _ k1).mono ?_;have b0:((w.alloc (.cells #[.bool false,.slice none 0 0,.int .i64 0] 28)).alloc (.cells #[.int .i64 0] 3)).heap[w.heap.size]?=some (.cells #[.bool false,.slice none 0 0,.int .i64 0] 28 (0,0)):=by
  rw [Below.heap_alloc _ _ _ (by simp)];exact heap_alloc_new _ _
 have b1:((w.alloc (.cells #[.bool false,.slice none 0 0,.int .i64 0] 28)).alloc (.cells #[.int .i64 0] 3)).heap[w.heap.size+1]?=some (.cells #[.int .i64 0] 3 (0,0)):=by
  have:=heap_alloc_new (w.alloc (.cells #[.bool false,.slice none 0 0,.int .i64 0] 28)) (.cells #[.int .i64 0] 3);simpa using this
 rintro e w1 ⟨q,hq⟩;have c0:=(q.block w.heap.size (by simp;omega)).trans b0;have c1:=(q.block (w.heap.size+1) (by simp)).trans b1;have k2:=k1.trans q;clear q b0 b1 k1 HH;have hs1:w.heap.size+1<w1.heap.size:=(Bi c1).1;have hs0:w.heap.size<w1.heap.size:=by omega
 have n1:¬w.heap.size=w1.heap.size:=by omega
 have n2:¬w.heap.size+1=w1.heap.size:=by omega
 have n3:¬w.heap.size=w.heap.size+1:=by omega
 have n4:¬w.heap.size+1=w.heap.size:=by omega
 have c20:w1.cell? ⟨w.heap.size,0,none⟩=some (.bool false):=Ae c0 0 _ rfl;have c21:w1.cell? ⟨w.heap.size,1,none⟩=some (.slice none 0 0):=Ae c0 1 _ rfl;have c22:w1.cell? ⟨w.heap.size,2,none⟩=some (.int .i64 0):=Ae c0 2 _ rfl;have c30:w1.cell? ⟨w.heap.size+1,0,none⟩=some (.int .i64 0):=Ae c1 0 _ rfl;have f20:=Aw c0 0;have f21:=Aw c0 1;have f22:=Aw c0 2;have f30:=Aw c1 0;have KK:=Ad k2;have HQ:=Ad hq;clear k2 hq;rcases HQ.o with ⟨h0,v,rfl,hv⟩ | ⟨h0,rfl⟩
 ·obtain ⟨s,rfl,hs,e1,e2⟩:=hv;have HS:=Ad hs;obtain ⟨_,A,c,rfl,_⟩:=hs;clear HQ;simp only [];go_wp2_with fail;refine leaves_cons (f:=193) (args:=#[.pointer (some ⟨w.heap.size,0,none⟩),.pointer (some ⟨w.heap.size+1,0,none⟩)]) (by simp) (by simp [go_sem]) ?_;refine (Zw _ _ _).mono ?_;rintro e u' w2 ⟨rfl,rfl,rfl⟩;obtain ⟨d0,d1,d2,d3⟩:=M5 (x':=.bool o.v.neg) (y':=.slice A o.v.m.length c) (z':=.int .i64 o.v.e) (q':=.int .i64 0) (o:=.cells #[.int .i64 0] 185) c0 c1 n3;refine ⟨.tuple #[.agg #[.bool o.v.neg,.slice A o.v.m.length c,.int .i64 o.v.e],.int .i64 0],?_,?_⟩
  ·change (results Tryz.f168 _).run Tryz.prog (F7 w1 w.heap.size (w.heap.size+1) (.bool o.v.neg) (.slice A o.v.m.length c) (.int .i64 o.v.e) (.int .i64 0) (.cells #[.int .i64 0] 185))=.ok _ (F7 w1 w.heap.size (w.heap.size+1) (.bool o.v.neg) (.slice A o.v.m.length c) (.int .i64 o.v.e) (.int .i64 0) (.cells #[.int .i64 0] 185));generalize F7 w1 w.heap.size (w.heap.size+1) (.bool o.v.neg) (.slice A o.v.m.length c) (.int .i64 o.v.e) (.int .i64 0) (.cells #[.int .i64 0] 185)=W at *;simp [results,Tryz.results168,go_sem,d0,d1,d2,d3]
  ·refine ⟨Pg KK.o (Aq _) (Nat.le_succ _),_,by rw [h0],?_⟩;exact ⟨_,rfl,HS.o.laid c0 c1 (by simp) (by simp) (by simp) (by simp),e1,e2⟩
 ·clear HQ;simp only [];refine leaves_cons (f:=193) (args:=#[.pointer (some ⟨w.heap.size,0,none⟩),.pointer (some ⟨w.heap.size+1,0,none⟩)]) (by simp) (by simp [go_sem]) ?_;refine (Zv _ _ _ _ _ _ _ _ c0 c1 n3).mono ?_;rintro e u' w2 ⟨rfl,rfl,rfl⟩;obtain ⟨d0,d1,d2,d3⟩:=M5 (x':=.bool false) (y':=.slice none 0 0) (z':=.int .i64 0) (q':=.int .i64 o.k) (o:=.cells #[.int .i64 o.k] 185) c0 c1 n3;refine ⟨.tuple #[.agg #[.bool false,.slice none 0 0,.int .i64 0],.int .i64 o.k],?_,?_⟩
  ·change (results Tryz.f168 _).run Tryz.prog (F7 w1 w.heap.size (w.heap.size+1) (.bool false) (.slice none 0 0) (.int .i64 0) (.int .i64 o.k) (.cells #[.int .i64 o.k] 185)).drew=.ok _ (F7 w1 w.heap.size (w.heap.size+1) (.bool false) (.slice none 0 0) (.int .i64 0) (.int .i64 o.k) (.cells #[.int .i64 o.k] 185)).drew;generalize F7 w1 w.heap.size (w.heap.size+1) (.bool false) (.slice none 0 0) (.int .i64 0) (.int .i64 o.k) (.cells #[.int .i64 o.k] 185)=W at *;simp [results,Tryz.results168,go_sem,d0,d1,d2,d3]
  ·refine ⟨(Pg KK.o (Aq _) (Nat.le_succ _)).drew,_,rfl,?_⟩;rw [hz h0];exact ⟨_,rfl,⟨(by intro i hi;cases hi),none,0,rfl,Aq _,λh=>absurd h (Nat.lt_irrefl 0)⟩,by decide,by decide⟩
theorem Uz (k:Int)(w:World):Calls Tryz.prog 174 #[.bool true,.int .i64 k] w (RetK (.tuple #[]) w):=(Gg true k w).mono λ_ _ ⟨he,hw⟩=>⟨he,hw▸Below.refl _ _⟩
def DyAt (w:World) (b o:Nat) (d:Dy):Prop:=∃ s,w.cell? ⟨b,o,none⟩=some (.bool d.neg)/\w.cell? ⟨b,o+1,none⟩=some s/\w.cell? ⟨b,o+2,none⟩=some (.int .i64 d.e)/\DyR w (.agg #[.bool d.neg,s,.int .i64 d.e]) d.raw
theorem DyAt.kept {b o:Nat}{d:Dy}(h:DyAt w b o d)(k:Kept w w'):DyAt w' b o d:=by
 obtain ⟨s,h0,h1,h2,hd⟩:=h;have hb:=Av h0;exact ⟨s,(k.cell (p:=⟨b,o,none⟩) hb).trans h0,(k.cell (p:=⟨b,o+1,none⟩) hb).trans h1,(k.cell (p:=⟨b,o+2,none⟩) hb).trans h2,hd.kept k⟩
def DyS (w:World) (v:Value) (l:List Dy):Prop:=∃ A c,v=.slice A l.length c/\l.length<=c/\(0<l.length->∃ b off,A=some ⟨b,off,none⟩/\∀ i d,l[i]?=some d->DyAt w b (off+i*3) d)
theorem DyS.kept {v:Value}{l:List Dy}(h:DyS w v l)(k:Kept w w'):DyS w' v l:=by
 obtain ⟨A,c,rfl,hc,hA⟩:=h;refine ⟨A,c,rfl,hc,λh0=>?_⟩;obtain ⟨b,off,rfl,hd⟩:=hA h0;exact ⟨b,off,rfl,λi d hi=>(hd i d hi).kept k⟩
def qn (l:List Dy):Prop:=∀ d∈l,Dy.Ok d
theorem dG {v:Value}{p:Int}{l:List Dy}(hv:DyS w v l)(hl:qn l)(hn:l.length<=1000)(p1:1<=p)(p2:p<=2000) :
 Calls Tryz.prog 170 #[.int .i64 p,v] w (RetK (.tuple #[]) w):=by
 obtain ⟨A,c,rfl,hc,hA⟩:=hv;have d1:decide (1<=p)=true:=by simp [p1]
 have d2:decide (p<=2000)=true:=by simp [p2]
 have HA:=Ad hA;have HL:=Ad hl;clear hA hl;have hbase:Kept w w:=Below.refl _ _;obtain ⟨n,hn'⟩:∃ n,n=l.length:=⟨_,rfl⟩;rw [<-hn'] at hc hn HA ⊢;have HN:=Ad hn';clear hn';go_enter Tryz.func170,Tryz.ntmps170
 go_wp2_with (go_at_call 174;refine (Uz 1 _).mono ?_;rintro e w1 ⟨rfl,q⟩;have K1:=Ad q;clear q)
 go_loopw [15] (λt wr=>∃ k:Nat,k<=n/\t=.int .i64 k/\Kept w wr) (λt _=>(n-intOf t).toNat)
 case atStart=>exact ⟨0,Nat.zero_le _,rfl,K1.o⟩
 case round =>
  obtain ⟨k,hk,rfl,hK⟩:=hrel;have HK:=Ad hK;clear hK;by_cases hlt:k<n
  ·obtain ⟨b,off,rfl,hd⟩:=HA.out (by omega);obtain ⟨d,hdk⟩:∃ d,l[k]?=some d:=⟨_,Cd (by have:=HN.out;omega)⟩;obtain ⟨s,h0,h1,h2,hR⟩:=(hd k d hdk).kept HK.out;have hok:=HL.out d (Dc hdk);have hm:=fun w1 (q:Kept wr w1)=>Od (hR.kept q) (by have:=Eb hok;omega)
   rw [hok.may] at hm;have HM:=Ad hm;obtain ⟨A1,l1,c1,es,-,-,-,-⟩:=hR.shape;injection es with es
   injection es with es
   simp only [List.cons.injEq,and_true] at es;obtain rfl:=es.2.1;clear es;clear hm hd hdk hok hR;generalize d.neg=ng,d.e=eg at *
   go_wp2_with (first
    | (go_at_call 53;refine (HM.o _ (Ab _ _)).mono ?_;rintro e w2 ⟨rfl,q⟩;have Q:=Ad ((Ab _ _).trans q);clear q)
    | (go_at_call 174;refine (Uz 1 _).mono ?_;rintro e w3 ⟨rfl,q⟩;have Q3:=Ad q;clear q))
   go_roundw
   case rel=>exact ⟨k+1,by omega,by go_num,(HK.o.trans Q.o).trans Q3.o⟩
   case measure=>simp [intOf];omega
  ·obtain rfl:k=n:=by omega
   go_wp2
   go_end0
   exact ⟨rfl,HK.o⟩
theorem Gt (w:World)(k:Nat)(hk:k<18446744073709551616)(h0:k≠0):Lim (w.alloc (.cells #[.int .u64 k] 55)) (.slice (some ⟨w.heap.size,0,none⟩) 1 1) (Al k):=by
 rw [Iw k h0 hk];exact Yt hk (by simp) (jX _ _ _) 1 (Aq _)
theorem El (w:World):Blk (w.alloc (.cells #[.bool false,.slice none 0 0,.int .i64 0] 28)) w.heap.size (.bool false) (.slice none 0 0) (.int .i64 0):=Bz _ _ _ _
structure CutIn (w:World) (v:Value) (m:Nat) (e:Int) (p:Nat):Prop where
 lim:Lim w v (Al m)
 len:(Al m).length<=20000
 e1:-1000000000<=e
 e2:e<=1000000000
 p1:1<=p
 p2:p<=2000
 tab:Tab w
theorem CutIn.bl {v:Value}{e:Int}{p:Nat}(h:CutIn w v m e p):bl m<=1280000:=by
 have:=Dw m 20000 h.len;omega
theorem CutIn.fits {v u:Value}{e:Int}{p:Nat}(h:CutIn w v m e p)(k:Kept w w1)(hu:Lim w1 u (Al n))(hn:n<=m+1)(hj:j<=1280000)(neg:Bool) :
 Calls Tryz.prog 41 #[.bool neg,u,.int .i64 (e+j)] w1 (RetE (Ck neg n (e+j)).raw w1):=by
 have h1:_root_.Go.Proofs.YtabjjdicffcolaaGreatDoor.bl n<=1280001:=Bp (Ka hn) (i8 m 1 1280000 h.bl (by decide));have h2:=Dt n 20001 (by omega);have:=h.e1;have:=h.e2;exact ou hu (by omega) (by omega) (by omega) (h.tab.kept k)
theorem Ye (m:Nat)(rest:Bool)(p:Nat)(aw:Bool)(r':Bool)(hr:(Jx m rest p).1=r'):Fd m rest p aw=if (r'&&aw)=true then m/2^(bl m-p)+1 else m/2^(bl m-p):=by
 unfold Fd;rw [hr];rfl
theorem Fu {k:Int}(h:e=aB T (o.raw.k==0) k):(o.k=0/\e=.returned (.tuple #[]))\/(o.k≠0/\e=.panicked (By T k)):=by
 by_cases hk:o.k=0
 ·left;refine ⟨hk,?_⟩;rw [h,show (o.raw.k==0)=true by rw [beq_iff_eq];exact hk];rfl
 ·right;refine ⟨hk,?_⟩;rw [h,show (o.raw.k==0)=false by rw [Ek];exact hk];rfl
theorem iT {v:Value}{p:Nat}{e:Int}(neg rest up:Bool)(h:CutIn w v m e p) :
 Calls Tryz.prog 171 #[.bool neg,v,.int .i64 e,.bool rest,.int .i64 p,.bool up] w (J6 185 (Kc neg m e rest p up).raw w):=by
 have hbl:=h.bl;have p1:=h.p1;have p2:=h.p2;have e1:=h.e1;have e2:=h.e2;have hsz:=λw1 (k:Kept w w1)=>Nk (h.lim.kept k) (by have:=h.len;omega)
 have hri:=λw1 (k:Kept w w1) (j:Nat) (hj:j<=1280000)=>Ts (h.lim.kept k) j (by have:=h.len;omega) (by omega)
 have hze:=λw1 (k:Kept w w1) (h0:m≠0)=>fL (h.lim.kept k) (by have:=h.len;omega) h0 (h.tab.kept k)
 have hpl:=λw1 u n (hu:Lim w1 u (Al n)) (hn:n<=m) (u1:Value) (hu1:Lim w1 u1 (Al 1))=>dx hu hu1 (by have h1:=Dt n 20000 (by have:=Ka hn;omega);omega) (by rw [Iw 1 (by decide) (by decide)];decide)
 have hfi:=λw1 u n (j:Nat) (k:Kept w w1) (hu:Lim w1 u (Al n)) (hn:n<=m+1) (hj:j<=1280000)=>h.fits k hu hn hj neg
 have HSZ:=Ad hsz;have HRI:=Ad hri;have HZE:=Ad hze;have HPL:=Ad hpl;have HFI:=Ad hfi;have HLI:=Ad h.lim;obtain ⟨A,l,c,rfl,-,-⟩:=h.lim.shape;clear hsz hri hze hpl hfi h;unfold Kc;obtain ⟨aw,haw⟩:∃ aw,(up != neg)=aw:=⟨_,rfl⟩;rw [haw];have hnb1:((!up)==neg)=aw:=by rw [<-haw];cases up<;>cases neg<;>rfl
 have hnb2:(!(up==neg))=aw:=by rw [<-haw];cases up<;>cases neg<;>rfl
 clear haw;obtain ⟨W,hW⟩:∃ W,W=w.alloc (.cells #[.bool false,.slice none 0 0,.int .i64 0] 28):=⟨_,rfl⟩;have HK:=Ad (show Kept w W by rw [hW];exact Ab _ _);have HB:=Ad (show Blk W w.heap.size (.bool false) (.slice none 0 0) (.int .i64 0) by rw [hW];exact El w);have HW:=Ad hW;clear hW;by_cases hn:p<bl m
 ·obtain ⟨j,hj⟩:∃ j,bl m-p=j:=⟨_,rfl⟩;have hws:IntKind.i64.wrap ((bl m:Int)-(p:Int))=(j:Int):=by simp [IntKind.wrap_i64];omega
  have hwe:IntKind.i64.wrap (e+(j:Int))=e+(j:Int):=by simp [IntKind.wrap_i64];omega
  have HM0:=Ad (show m≠0 by rintro rfl;rw [Hi] at hn;omega);have HJ:=Ad (show j<=1280000 by omega);have hd:decide (0<j)=true:=by simp;omega
  cases hrest:rest
  ·obtain ⟨bz,hbz⟩:∃ bz,decide (tz m<j)=bz:=⟨_,rfl⟩;have hc:(Jx m false p).1=bz:=by
    unfold Jx;simp only [hj];rw [hd,hbz,Bool.false_or,Bool.true_and]
   rw [Ye m false p aw bz hc,hj];clear hc hj hrest hn;cases bz
   ·rw [Bool.false_and,Af (by decide)];obtain ⟨o,ho⟩:∃ o,o=Ck neg (m/2^j) (e+((j:Nat):Int)):=⟨_,rfl⟩;have hf2:=fun w1 u (k:Kept w w1) (hu:Lim w1 u (Al (m/2^j)))=>HFI.out w1 u (m/2^j) j k hu (Nat.le_succ_of_le (Nat.div_le_self _ _)) HJ.out
    rw [<-ho] at hf2 ⊢
    skip
    have HF2:=Ad hf2;clear ho hf2;go_enter Tryz.func171,Tryz.ntmps171
    go_wp2_with (first
     | (go_at_call 112;rw [<-HW.o];refine (HSZ.o _ HK.o).mono ?_;rintro e w1 ⟨rfl,q,hq⟩;have K:=Ad (show Kept W w1 from hq▸Kept.drewN (Below.refl W.heap.size W) q);clear hq;replace HW:True:=trivial;have LX:=Ad (HLI.o.kept (HK.o.trans K.o)))
     | (go_at_call 116;refine (HZE.o _ (HK.o.trans K.o) HM0.o).mono ?_;rintro e w1 ⟨rfl,q,hq⟩;replace K:=Ad (show Kept W w1 from hq▸Kept.drewN K.o q);clear hq)
     | (go_at_call 117;refine (HRI.o _ (HK.o.trans K.o) _ HJ.o).mono ?_;rintro e w1 ⟨X,rfl,hX,q⟩;replace K:=Ad (K.o.trans q);replace LX:=Ad hX;clear hX q)
     | (go_at_call 194;refine (HPL.o _ _ _ (LX.o.kept (Ab _ _)) (by first | exact Nat.div_le_self _ _ | exact Aq _) _ (Gt _ 1 (by decide) (by decide))).mono ?_;rintro e w1 ⟨X,rfl,hX,q⟩;replace K:=Ad (K.o.trans ((Ab _ _).trans q));replace LX:=Ad hX;clear hX q)
     | (go_at_call 41;refine (HF2.o _ _ (HK.o.trans K.o) LX.o).mono ?_;rintro e w2 ⟨q,u,rfl,hd⟩;obtain ⟨A',l',c',rfl,-,hd,g1,g2⟩:=hd.shape;have HD:=Ad hd;replace K:=Ad (K.o.trans q);clear hd q;have hb:=HB.o.kept K.o;obtain ⟨hsz,c0,c1,c2,f0,f1,f2⟩:=hb.facts;have HB2:=Ad hb;clear hb)
     | (go_at_call 174;refine (Gg _ _ _).mono ?_;rintro e w3 ⟨he,rfl⟩;rcases Fu he with ⟨hk,rfl⟩ | ⟨hk,rfl⟩<;>(have HKK:=Ad hk;clear hk he)))
    ·exact Ct (Bl (HB2.o.laid _ _ _) _) rfl rfl rfl ⟨(Au (HK.o.trans K.o) (Aq _)).trans (Ab _ _),.inl ⟨HKK.o,_,rfl,((HD.o.dyW HB2.o (Ah _) (Ag _ _ _) (Aj _)).kept (Ab _ _)).dyR g1 g2⟩⟩
    ·exact ⟨rfl,(HK.o.trans K.o).trans (Ab _ _),.inr ⟨HKK.o,rfl⟩⟩
   ·cases aw
    ·rw [Bool.true_and,Af (by decide)];obtain ⟨o,ho⟩:∃ o,o=Ck neg (m/2^j) (e+((j:Nat):Int)):=⟨_,rfl⟩;have hf2:=fun w1 u (k:Kept w w1) (hu:Lim w1 u (Al (m/2^j)))=>HFI.out w1 u (m/2^j) j k hu (Nat.le_succ_of_le (Nat.div_le_self _ _)) HJ.out
     rw [<-ho] at hf2 ⊢
     skip
     have HF2:=Ad hf2;clear ho hf2;go_enter Tryz.func171,Tryz.ntmps171
     go_wp2_with (first
      | (go_at_call 112;rw [<-HW.o];refine (HSZ.o _ HK.o).mono ?_;rintro e w1 ⟨rfl,q,hq⟩;have K:=Ad (show Kept W w1 from hq▸Kept.drewN (Below.refl W.heap.size W) q);clear hq;replace HW:True:=trivial;have LX:=Ad (HLI.o.kept (HK.o.trans K.o)))
      | (go_at_call 116;refine (HZE.o _ (HK.o.trans K.o) HM0.o).mono ?_;rintro e w1 ⟨rfl,q,hq⟩;replace K:=Ad (show Kept W w1 from hq▸Kept.drewN K.o q);clear hq)
      | (go_at_call 117;refine (HRI.o _ (HK.o.trans K.o) _ HJ.o).mono ?_;rintro e w1 ⟨X,rfl,hX,q⟩;replace K:=Ad (K.o.trans q);replace LX:=Ad hX;clear hX q)
      | (go_at_call 194;refine (HPL.o _ _ _ (LX.o.kept (Ab _ _)) (by first | exact Nat.div_le_self _ _ | exact Aq _) _ (Gt _ 1 (by decide) (by decide))).mono ?_;rintro e w1 ⟨X,rfl,hX,q⟩;replace K:=Ad (K.o.trans ((Ab _ _).trans q));replace LX:=Ad hX;clear hX q)
      | (go_at_call 41;refine (HF2.o _ _ (HK.o.trans K.o) LX.o).mono ?_;rintro e w2 ⟨q,u,rfl,hd⟩;obtain ⟨A',l',c',rfl,-,hd,g1,g2⟩:=hd.shape;have HD:=Ad hd;replace K:=Ad (K.o.trans q);clear hd q;have hb:=HB.o.kept K.o;obtain ⟨hsz,c0,c1,c2,f0,f1,f2⟩:=hb.facts;have HB2:=Ad hb;clear hb)
      | (go_at_call 174;refine (Gg _ _ _).mono ?_;rintro e w3 ⟨he,rfl⟩;rcases Fu he with ⟨hk,rfl⟩ | ⟨hk,rfl⟩<;>(have HKK:=Ad hk;clear hk he)))
     ·exact Ct (Bl (HB2.o.laid _ _ _) _) rfl rfl rfl ⟨(Au (HK.o.trans K.o) (Aq _)).trans (Ab _ _),.inl ⟨HKK.o,_,rfl,((HD.o.dyW HB2.o (Ah _) (Ag _ _ _) (Aj _)).kept (Ab _ _)).dyR g1 g2⟩⟩
     ·exact ⟨rfl,(HK.o.trans K.o).trans (Ab _ _),.inr ⟨HKK.o,rfl⟩⟩
    ·rw [Bool.true_and,Ak rfl];obtain ⟨o,ho⟩:∃ o,o=Ck neg (m/2^j+1) (e+((j:Nat):Int)):=⟨_,rfl⟩;have hf2:=fun w1 u (k:Kept w w1) (hu:Lim w1 u (Al (m/2^j+1)))=>HFI.out w1 u (m/2^j+1) j k hu (Nat.succ_le_succ (Nat.div_le_self _ _)) HJ.out
     rw [<-ho] at hf2 ⊢
     skip
     have HF2:=Ad hf2;clear ho hf2;go_enter Tryz.func171,Tryz.ntmps171
     go_wp2_with (first
      | (go_at_call 112;rw [<-HW.o];refine (HSZ.o _ HK.o).mono ?_;rintro e w1 ⟨rfl,q,hq⟩;have K:=Ad (show Kept W w1 from hq▸Kept.drewN (Below.refl W.heap.size W) q);clear hq;replace HW:True:=trivial;have LX:=Ad (HLI.o.kept (HK.o.trans K.o)))
      | (go_at_call 116;refine (HZE.o _ (HK.o.trans K.o) HM0.o).mono ?_;rintro e w1 ⟨rfl,q,hq⟩;replace K:=Ad (show Kept W w1 from hq▸Kept.drewN K.o q);clear hq)
      | (go_at_call 117;refine (HRI.o _ (HK.o.trans K.o) _ HJ.o).mono ?_;rintro e w1 ⟨X,rfl,hX,q⟩;replace K:=Ad (K.o.trans q);replace LX:=Ad hX;clear hX q)
      | (go_at_call 194;refine (HPL.o _ _ _ (LX.o.kept (Ab _ _)) (by first | exact Nat.div_le_self _ _ | exact Aq _) _ (Gt _ 1 (by decide) (by decide))).mono ?_;rintro e w1 ⟨X,rfl,hX,q⟩;replace K:=Ad (K.o.trans ((Ab _ _).trans q));replace LX:=Ad hX;clear hX q)
      | (go_at_call 41;refine (HF2.o _ _ (HK.o.trans K.o) LX.o).mono ?_;rintro e w2 ⟨q,u,rfl,hd⟩;obtain ⟨A',l',c',rfl,-,hd,g1,g2⟩:=hd.shape;have HD:=Ad hd;replace K:=Ad (K.o.trans q);clear hd q;have hb:=HB.o.kept K.o;obtain ⟨hsz,c0,c1,c2,f0,f1,f2⟩:=hb.facts;have HB2:=Ad hb;clear hb)
      | (go_at_call 174;refine (Gg _ _ _).mono ?_;rintro e w3 ⟨he,rfl⟩;rcases Fu he with ⟨hk,rfl⟩ | ⟨hk,rfl⟩<;>(have HKK:=Ad hk;clear hk he)))
     ·exact Ct (Bl (HB2.o.laid _ _ _) _) rfl rfl rfl ⟨(Au (HK.o.trans K.o) (Aq _)).trans (Ab _ _),.inl ⟨HKK.o,_,rfl,((HD.o.dyW HB2.o (Ah _) (Ag _ _ _) (Aj _)).kept (Ab _ _)).dyR g1 g2⟩⟩
     ·exact ⟨rfl,(HK.o.trans K.o).trans (Ab _ _),.inr ⟨HKK.o,rfl⟩⟩
  ·have hc:(Jx m true p).1=true:=by
    unfold Jx;simp
   rw [Ye m true p aw true hc,hj];clear hc hj hrest hn;cases aw
   ·rw [Bool.true_and,Af (by decide)];obtain ⟨o,ho⟩:∃ o,o=Ck neg (m/2^j) (e+((j:Nat):Int)):=⟨_,rfl⟩;have hf2:=fun w1 u (k:Kept w w1) (hu:Lim w1 u (Al (m/2^j)))=>HFI.out w1 u (m/2^j) j k hu (Nat.le_succ_of_le (Nat.div_le_self _ _)) HJ.out
    rw [<-ho] at hf2 ⊢
    skip
    have HF2:=Ad hf2;clear ho hf2;go_enter Tryz.func171,Tryz.ntmps171
    go_wp2_with (first
     | (go_at_call 112;rw [<-HW.o];refine (HSZ.o _ HK.o).mono ?_;rintro e w1 ⟨rfl,q,hq⟩;have K:=Ad (show Kept W w1 from hq▸Kept.drewN (Below.refl W.heap.size W) q);clear hq;replace HW:True:=trivial;have LX:=Ad (HLI.o.kept (HK.o.trans K.o)))
     | (go_at_call 116;refine (HZE.o _ (HK.o.trans K.o) HM0.o).mono ?_;rintro e w1 ⟨rfl,q,hq⟩;replace K:=Ad (show Kept W w1 from hq▸Kept.drewN K.o q);clear hq)
     | (go_at_call 117;refine (HRI.o _ (HK.o.trans K.o) _ HJ.o).mono ?_;rintro e w1 ⟨X,rfl,hX,q⟩;replace K:=Ad (K.o.trans q);replace LX:=Ad hX;clear hX q)
     | (go_at_call 194;refine (HPL.o _ _ _ (LX.o.kept (Ab _ _)) (by first | exact Nat.div_le_self _ _ | exact Aq _) _ (Gt _ 1 (by decide) (by decide))).mono ?_;rintro e w1 ⟨X,rfl,hX,q⟩;replace K:=Ad (K.o.trans ((Ab _ _).trans q));replace LX:=Ad hX;clear hX q)
     | (go_at_call 41;refine (HF2.o _ _ (HK.o.trans K.o) LX.o).mono ?_;rintro e w2 ⟨q,u,rfl,hd⟩;obtain ⟨A',l',c',rfl,-,hd,g1,g2⟩:=hd.shape;have HD:=Ad hd;replace K:=Ad (K.o.trans q);clear hd q;have hb:=HB.o.kept K.o;obtain ⟨hsz,c0,c1,c2,f0,f1,f2⟩:=hb.facts;have HB2:=Ad hb;clear hb)
     | (go_at_call 174;refine (Gg _ _ _).mono ?_;rintro e w3 ⟨he,rfl⟩;rcases Fu he with ⟨hk,rfl⟩ | ⟨hk,rfl⟩<;>(have HKK:=Ad hk;clear hk he)))
    ·exact Ct (Bl (HB2.o.laid _ _ _) _) rfl rfl rfl ⟨(Au (HK.o.trans K.o) (Aq _)).trans (Ab _ _),.inl ⟨HKK.o,_,rfl,((HD.o.dyW HB2.o (Ah _) (Ag _ _ _) (Aj _)).kept (Ab _ _)).dyR g1 g2⟩⟩
    ·exact ⟨rfl,(HK.o.trans K.o).trans (Ab _ _),.inr ⟨HKK.o,rfl⟩⟩
   ·rw [Bool.true_and,Ak rfl];obtain ⟨o,ho⟩:∃ o,o=Ck neg (m/2^j+1) (e+((j:Nat):Int)):=⟨_,rfl⟩;have hf2:=fun w1 u (k:Kept w w1) (hu:Lim w1 u (Al (m/2^j+1)))=>HFI.out w1 u (m/2^j+1) j k hu (Nat.succ_le_succ (Nat.div_le_self _ _)) HJ.out
    rw [<-ho] at hf2 ⊢
    skip
    have HF2:=Ad hf2;clear ho hf2;go_enter Tryz.func171,Tryz.ntmps171
    go_wp2_with (first
     | (go_at_call 112;rw [<-HW.o];refine (HSZ.o _ HK.o).mono ?_;rintro e w1 ⟨rfl,q,hq⟩;have K:=Ad (show Kept W w1 from hq▸Kept.drewN (Below.refl W.heap.size W) q);clear hq;replace HW:True:=trivial;have LX:=Ad (HLI.o.kept (HK.o.trans K.o)))
     | (go_at_call 116;refine (HZE.o _ (HK.o.trans K.o) HM0.o).mono ?_;rintro e w1 ⟨rfl,q,hq⟩;replace K:=Ad (show Kept W w1 from hq▸Kept.drewN K.o q);clear hq)
     | (go_at_call 117;refine (HRI.o _ (HK.o.trans K.o) _ HJ.o).mono ?_;rintro e w1 ⟨X,rfl,hX,q⟩;replace K:=Ad (K.o.trans q);replace LX:=Ad hX;clear hX q)
     | (go_at_call 194;refine (HPL.o _ _ _ (LX.o.kept (Ab _ _)) (by first | exact Nat.div_le_self _ _ | exact Aq _) _ (Gt _ 1 (by decide) (by decide))).mono ?_;rintro e w1 ⟨X,rfl,hX,q⟩;replace K:=Ad (K.o.trans ((Ab _ _).trans q));replace LX:=Ad hX;clear hX q)
     | (go_at_call 41;refine (HF2.o _ _ (HK.o.trans K.o) LX.o).mono ?_;rintro e w2 ⟨q,u,rfl,hd⟩;obtain ⟨A',l',c',rfl,-,hd,g1,g2⟩:=hd.shape;have HD:=Ad hd;replace K:=Ad (K.o.trans q);clear hd q;have hb:=HB.o.kept K.o;obtain ⟨hsz,c0,c1,c2,f0,f1,f2⟩:=hb.facts;have HB2:=Ad hb;clear hb)
     | (go_at_call 174;refine (Gg _ _ _).mono ?_;rintro e w3 ⟨he,rfl⟩;rcases Fu he with ⟨hk,rfl⟩ | ⟨hk,rfl⟩<;>(have HKK:=Ad hk;clear hk he)))
    ·exact Ct (Bl (HB2.o.laid _ _ _) _) rfl rfl rfl ⟨(Au (HK.o.trans K.o) (Aq _)).trans (Ab _ _),.inl ⟨HKK.o,_,rfl,((HD.o.dyW HB2.o (Ah _) (Ag _ _ _) (Aj _)).kept (Ab _ _)).dyR g1 g2⟩⟩
    ·exact ⟨rfl,(HK.o.trans K.o).trans (Ab _ _),.inr ⟨HKK.o,rfl⟩⟩
 ·have hj:bl m-p=0:=by omega
  obtain ⟨i0,hi0⟩:∃ i0:Int,(bl m:Int)-(p:Int)=i0:=⟨_,rfl⟩;have hws:IntKind.i64.wrap ((bl m:Int)-(p:Int))=i0:=by rw [<-hi0];simp [IntKind.wrap_i64];omega
  have hj0:decide ((0:Int)<i0)=false:=by simp;omega
  have hc:(Jx m rest p).1=rest:=by
   unfold Jx;simp only [hj];simp
  rw [Ye m rest p aw rest hc,hj];rw [Nat.pow_zero,Nat.div_one];have HJ:=Ad (show (0:Nat)<=1280000 by omega);clear hc hj hn hi0;cases rest
  ·rw [Bool.false_and,Af (by decide)];obtain ⟨o,ho⟩:∃ o,o=Ck neg m (e+((0:Nat):Int)):=⟨_,rfl⟩;have hf2:=fun w1 u (k:Kept w w1) (hu:Lim w1 u (Al m))=>HFI.out w1 u m 0 k hu (Nat.le_succ _) HJ.out
   rw [<-ho] at hf2 ⊢;simp only [Int.natCast_zero,Int.add_zero] at hf2 ho;have HF2:=Ad hf2;clear ho hf2;go_enter Tryz.func171,Tryz.ntmps171
   go_wp2_with (first
    | (go_at_call 112;rw [<-HW.o];refine (HSZ.o _ HK.o).mono ?_;rintro e w1 ⟨rfl,q,hq⟩;have K:=Ad (show Kept W w1 from hq▸Kept.drewN (Below.refl W.heap.size W) q);clear hq;replace HW:True:=trivial;have LX:=Ad (HLI.o.kept (HK.o.trans K.o)))
    | (go_at_call 116;refine (HZE.o _ (HK.o.trans K.o) HM0.o).mono ?_;rintro e w1 ⟨rfl,q,hq⟩;replace K:=Ad (show Kept W w1 from hq▸Kept.drewN K.o q);clear hq)
    | (go_at_call 117;refine (HRI.o _ (HK.o.trans K.o) _ HJ.o).mono ?_;rintro e w1 ⟨X,rfl,hX,q⟩;replace K:=Ad (K.o.trans q);replace LX:=Ad hX;clear hX q)
    | (go_at_call 194;refine (HPL.o _ _ _ (LX.o.kept (Ab _ _)) (by first | exact Nat.div_le_self _ _ | exact Aq _) _ (Gt _ 1 (by decide) (by decide))).mono ?_;rintro e w1 ⟨X,rfl,hX,q⟩;replace K:=Ad (K.o.trans ((Ab _ _).trans q));replace LX:=Ad hX;clear hX q)
    | (go_at_call 41;refine (HF2.o _ _ (HK.o.trans K.o) LX.o).mono ?_;rintro e w2 ⟨q,u,rfl,hd⟩;obtain ⟨A',l',c',rfl,-,hd,g1,g2⟩:=hd.shape;have HD:=Ad hd;replace K:=Ad (K.o.trans q);clear hd q;have hb:=HB.o.kept K.o;obtain ⟨hsz,c0,c1,c2,f0,f1,f2⟩:=hb.facts;have HB2:=Ad hb;clear hb)
    | (go_at_call 174;refine (Gg _ _ _).mono ?_;rintro e w3 ⟨he,rfl⟩;rcases Fu he with ⟨hk,rfl⟩ | ⟨hk,rfl⟩<;>(have HKK:=Ad hk;clear hk he)))
   ·exact Ct (Bl (HB2.o.laid _ _ _) _) rfl rfl rfl ⟨(Au (HK.o.trans K.o) (Aq _)).trans (Ab _ _),.inl ⟨HKK.o,_,rfl,((HD.o.dyW HB2.o (Ah _) (Ag _ _ _) (Aj _)).kept (Ab _ _)).dyR g1 g2⟩⟩
   ·exact ⟨rfl,(HK.o.trans K.o).trans (Ab _ _),.inr ⟨HKK.o,rfl⟩⟩
  ·cases aw
   ·rw [Bool.true_and,Af (by decide)];obtain ⟨o,ho⟩:∃ o,o=Ck neg m (e+((0:Nat):Int)):=⟨_,rfl⟩;have hf2:=fun w1 u (k:Kept w w1) (hu:Lim w1 u (Al m))=>HFI.out w1 u m 0 k hu (Nat.le_succ _) HJ.out
    rw [<-ho] at hf2 ⊢;simp only [Int.natCast_zero,Int.add_zero] at hf2 ho;have HF2:=Ad hf2;clear ho hf2;go_enter Tryz.func171,Tryz.ntmps171
    go_wp2_with (first
     | (go_at_call 112;rw [<-HW.o];refine (HSZ.o _ HK.o).mono ?_;rintro e w1 ⟨rfl,q,hq⟩;have K:=Ad (show Kept W w1 from hq▸Kept.drewN (Below.refl W.heap.size W) q);clear hq;replace HW:True:=trivial;have LX:=Ad (HLI.o.kept (HK.o.trans K.o)))
     | (go_at_call 116;refine (HZE.o _ (HK.o.trans K.o) HM0.o).mono ?_;rintro e w1 ⟨rfl,q,hq⟩;replace K:=Ad (show Kept W w1 from hq▸Kept.drewN K.o q);clear hq)
     | (go_at_call 117;refine (HRI.o _ (HK.o.trans K.o) _ HJ.o).mono ?_;rintro e w1 ⟨X,rfl,hX,q⟩;replace K:=Ad (K.o.trans q);replace LX:=Ad hX;clear hX q)
     | (go_at_call 194;refine (HPL.o _ _ _ (LX.o.kept (Ab _ _)) (by first | exact Nat.div_le_self _ _ | exact Aq _) _ (Gt _ 1 (by decide) (by decide))).mono ?_;rintro e w1 ⟨X,rfl,hX,q⟩;replace K:=Ad (K.o.trans ((Ab _ _).trans q));replace LX:=Ad hX;clear hX q)
     | (go_at_call 41;refine (HF2.o _ _ (HK.o.trans K.o) LX.o).mono ?_;rintro e w2 ⟨q,u,rfl,hd⟩;obtain ⟨A',l',c',rfl,-,hd,g1,g2⟩:=hd.shape;have HD:=Ad hd;replace K:=Ad (K.o.trans q);clear hd q;have hb:=HB.o.kept K.o;obtain ⟨hsz,c0,c1,c2,f0,f1,f2⟩:=hb.facts;have HB2:=Ad hb;clear hb)
     | (go_at_call 174;refine (Gg _ _ _).mono ?_;rintro e w3 ⟨he,rfl⟩;rcases Fu he with ⟨hk,rfl⟩ | ⟨hk,rfl⟩<;>(have HKK:=Ad hk;clear hk he)))
    ·exact Ct (Bl (HB2.o.laid _ _ _) _) rfl rfl rfl ⟨(Au (HK.o.trans K.o) (Aq _)).trans (Ab _ _),.inl ⟨HKK.o,_,rfl,((HD.o.dyW HB2.o (Ah _) (Ag _ _ _) (Aj _)).kept (Ab _ _)).dyR g1 g2⟩⟩
    ·exact ⟨rfl,(HK.o.trans K.o).trans (Ab _ _),.inr ⟨HKK.o,rfl⟩⟩
   ·rw [Bool.true_and,Ak rfl];obtain ⟨o,ho⟩:∃ o,o=Ck neg (m+1) (e+((0:Nat):Int)):=⟨_,rfl⟩;have hf2:=fun w1 u (k:Kept w w1) (hu:Lim w1 u (Al (m+1)))=>HFI.out w1 u (m+1) 0 k hu (Aq _) HJ.out
    rw [<-ho] at hf2 ⊢;simp only [Int.natCast_zero,Int.add_zero] at hf2 ho;have HF2:=Ad hf2;clear ho hf2;go_enter Tryz.func171,Tryz.ntmps171
    go_wp2_with (first
     | (go_at_call 112;rw [<-HW.o];refine (HSZ.o _ HK.o).mono ?_;rintro e w1 ⟨rfl,q,hq⟩;have K:=Ad (show Kept W w1 from hq▸Kept.drewN (Below.refl W.heap.size W) q);clear hq;replace HW:True:=trivial;have LX:=Ad (HLI.o.kept (HK.o.trans K.o)))
     | (go_at_call 116;refine (HZE.o _ (HK.o.trans K.o) HM0.o).mono ?_;rintro e w1 ⟨rfl,q,hq⟩;replace K:=Ad (show Kept W w1 from hq▸Kept.drewN K.o q);clear hq)
     | (go_at_call 117;refine (HRI.o _ (HK.o.trans K.o) _ HJ.o).mono ?_;rintro e w1 ⟨X,rfl,hX,q⟩;replace K:=Ad (K.o.trans q);replace LX:=Ad hX;clear hX q)
     | (go_at_call 194;refine (HPL.o _ _ _ (LX.o.kept (Ab _ _)) (by first | exact Nat.div_le_self _ _ | exact Aq _) _ (Gt _ 1 (by decide) (by decide))).mono ?_;rintro e w1 ⟨X,rfl,hX,q⟩;replace K:=Ad (K.o.trans ((Ab _ _).trans q));replace LX:=Ad hX;clear hX q)
     | (go_at_call 41;refine (HF2.o _ _ (HK.o.trans K.o) LX.o).mono ?_;rintro e w2 ⟨q,u,rfl,hd⟩;obtain ⟨A',l',c',rfl,-,hd,g1,g2⟩:=hd.shape;have HD:=Ad hd;replace K:=Ad (K.o.trans q);clear hd q;have hb:=HB.o.kept K.o;obtain ⟨hsz,c0,c1,c2,f0,f1,f2⟩:=hb.facts;have HB2:=Ad hb;clear hb)
     | (go_at_call 174;refine (Gg _ _ _).mono ?_;rintro e w3 ⟨he,rfl⟩;rcases Fu he with ⟨hk,rfl⟩ | ⟨hk,rfl⟩<;>(have HKK:=Ad hk;clear hk he)))
    ·exact Ct (Bl (HB2.o.laid _ _ _) _) rfl rfl rfl ⟨(Au (HK.o.trans K.o) (Aq _)).trans (Ab _ _),.inl ⟨HKK.o,_,rfl,((HD.o.dyW HB2.o (Ah _) (Ag _ _ _) (Aj _)).kept (Ab _ _)).dyR g1 g2⟩⟩
    ·exact ⟨rfl,(HK.o.trans K.o).trans (Ab _ _),.inr ⟨HKK.o,rfl⟩⟩
end Go.Proofs.YtabjjdicffcolaaGreatDoor
