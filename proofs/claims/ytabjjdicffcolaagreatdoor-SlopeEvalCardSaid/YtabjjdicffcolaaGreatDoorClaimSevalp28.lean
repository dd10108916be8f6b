/- Words and contracts, part 28. -/
import Derived.Test.YtabjjdicffcolaaGreatDoorClaimSevalp26
set_option maxRecDepth 100000
set_option maxHeartbeats 0
namespace Go.Proofs.YtabjjdicffcolaaGreatDoor
open Go.RowKit
structure KB (W:World) (X:List Nat) (w:World):Prop where
 os:w.os=W.os
 tape:w.tape=W.tape
 output:w.output=W.output
 size:W.heap.size≤w.heap.size
 block:∀ b,b<W.heap.size→b∉X→w.heap[b]?=W.heap[b]?
 limb:∀ b i x,W.cell? ⟨b,i,none⟩=some (.int .u64 x)→w.cell? ⟨b,i,none⟩=some (.int .u64 x)
theorem Py {w:World}{b i:Nat}{v:Value}{cur:Array Value}{T:TypeId}{z:Nat × Nat}(h:w.heap[b]?=some (.cells cur T z))(hc:w.cell? ⟨b,i,none⟩=some v):cur[i]?=some v:=by
 simpa [World.cell?,h] using hc
theorem Kept.kb {w w':World}(k:Kept w w')(X:List Nat):KB w X w' :=
 ⟨k.os,k.tape,k.output,k.size,fun b hb _=>k.block b hb,fun b i _ h=>(k.cell (p:=⟨b,i,none⟩) (Ap h)).trans h⟩
theorem KB.refl (w:World)(X:List Nat):KB w X w:=Kept.kb (Below.refl _ _) X
theorem KB.trans {a b c:World}{X Y:List Nat}(h:KB a X b)(k:KB b Y c)(hY:∀ y∈Y,y∈X∨a.heap.size≤y):KB a X c :=
 ⟨k.os.trans h.os, k.tape.trans h.tape, k.output.trans h.output, Nat.le_trans h.size k.size, fun i hi hn => by
  rw [k.block i (Nat.lt_of_lt_of_le hi h.size) (fun hy=>by rcases hY i hy with q | q;exact hn q;omega),h.block i hi hn],fun b i x hp=>k.limb b i x (h.limb b i x hp)⟩
theorem KB.step {a b c:World}{X:List Nat}(h:KB a X b)(k:Kept b c):KB a X c:=h.trans (k.kb []) (by simp)
theorem KB.drew {a b:World}{X:List Nat}(h:KB a X b):KB a X b.drew:=⟨h.os,h.tape,h.output,h.size,h.block,h.limb⟩
theorem KB.kept {W0 W w:World}{X:List Nat}(h:Kept W0 W)(k:KB W X w)(hX:∀ x∈X,W0.heap.size≤x):Kept W0 w :=
 ⟨k.os.trans h.os, k.tape.trans h.tape, k.output.trans h.output, Nat.le_trans h.size k.size, fun i hi => by
  rw [k.block i (Nat.lt_of_lt_of_le hi h.size) (fun hx=>by have:=hX i hx;omega),h.block i hi]⟩
theorem KB.nil {W w:World}(k:KB W [] w):Kept W w:=KB.kept (Below.refl _ _) k (by simp)
theorem KB.setCell {W w:World}{X:List Nat}{b i:Nat}{x:Value}(h:KB W X w)(hb:b∈X)(hc:w.cell? ⟨b,i,none⟩=some x)(hx:Bf x)(y:Value):KB W X (w.setCell ⟨b,i,none⟩ y) :=
 ⟨h.os, h.tape, h.output, by simpa [World.setCell] using h.size, fun k hk hn => by rw [Below.heap_setCell _ _ _ _ (fun e => hn (by subst e; exact hb))]; exact h.block k hk hn, fun p j v hp => by
  have h1:=h.limb p j v hp;rw [World.cell?_setCell_other]
  ·exact h1
  ·intro e;injection e with e1 e2
   subst e1;subst e2;rw [h1] at hc;exact hx v (by injection hc with e;exact e.symm)⟩
theorem KB.grown {W w w':World}{X:List Nat}{row:Option Nat}(h:KB W X w)(hg:w.grownBy w' row)(hX:∀ g,row=some g→g∈X∨W.heap.size≤g)(hN:∀ g,row=some g→NoL w g):KB W X w':=by
 refine ⟨hg.os.trans h.os,hg.tape.trans h.tape,hg.output.trans h.output,Nat.le_trans h.size hg.size,fun b hb hn=>?_,fun p j x hp=>?_⟩
 ·rw [hg.block b (Nat.lt_of_lt_of_le hb h.size) (fun e=>by rcases hX b e.symm with q | q;exact hn q;omega)];exact h.block b hb hn
 ·have h1:=h.limb p j x hp;refine hg.cell h1 ?_;intro he;obtain ⟨cur,e,q1,q2⟩:=hN p he.symm;have h4:=Py q1 h1;exact q2 _ (Array.mem_toList_iff.2 (Array.mem_of_getElem? h4)) _ rfl
theorem Lim.kb {W w:World}{X:List Nat}{v:Value}{xs:List Nat}(h:Lim W v xs)(k:KB W X w):Lim w v xs:=by
 obtain ⟨hs,A,c,rfl,hc,hA⟩:=h;refine ⟨hs,A,c,rfl,hc,fun h0=>?_⟩;obtain ⟨b,off,rfl,hb,hd⟩:=hA h0;exact ⟨b,off,rfl,Nat.lt_of_lt_of_le hb k.size,fun i hi=>k.limb _ _ _ (hd i hi)⟩
theorem DyR.kb {W w:World}{X:List Nat}{v:Value}{r:Raw}(h:DyR W v r)(k:KB W X w):DyR w v r:=by
 obtain ⟨s,rfl,hs,h1,h2⟩:=h;exact ⟨s,rfl,hs.kb k,h1,h2⟩
theorem IvR.kb {W w:World}{X:List Nat}{v:Value}{a:RawI}(h:IvR W v a)(k:KB W X w):IvR w v a:=by
 obtain ⟨x,y,z,x',y',z',rfl,h1,h2⟩:=h;exact ⟨x,y,z,x',y',z',rfl,h1.kb k,h2.kb k⟩
theorem IvC.kb {W w:World}{X:List Nat}{v:Value}{a:Iv}(h:IvC W v a)(k:KB W X w):IvC w v a:=IvR.kb h k
theorem KB.cell {W w:World}{X:List Nat}(k:KB W X w){b i:Nat}{v:Value}(h:W.cell? ⟨b,i,none⟩=some v)(hn:b∉X):w.cell? ⟨b,i,none⟩=some v:=by
 have hb:=Ap h;rw [World.cell?_of_block (k.block b hb hn)];exact h
theorem IvAt.kb {W w:World}{X:List Nat}{b o:Nat}{a:RawI}(h:IvAt W b o a)(k:KB W X w)(hn:b∉X):IvAt w b o a:=by
 obtain ⟨x,y,z,x',y',z',h0,h1,h2,h3,h4,h5,hd⟩:=h;exact ⟨x,y,z,x',y',z',k.cell h0 hn,k.cell h1 hn,k.cell h2 hn,k.cell h3 hn,k.cell h4 hn,k.cell h5 hn,hd.kb k⟩
def Xm (v:Value) (X:List Nat):Prop:=∀ g,v.ownBlock=some g→g∉X
theorem IvS.kb {W w:World}{X:List Nat}{v:Value}{l:List RawI}(h:IvS W v l)(k:KB W X w)(hn:Xm v X):IvS w v l:=by
 obtain ⟨A,c,rfl,hc,hA⟩:=h;refine ⟨A,c,rfl,hc,fun h0=>?_⟩;obtain ⟨b,off,rfl,hd⟩:=hA h0;exact ⟨b,off,rfl,fun i d hi=>(hd i d hi).kb k (hn b rfl)⟩
theorem LnS.kb {W w:World}{X:List Nat}{v:Value}{l:List Ln}(h:LnS W v l)(k:KB W X w)(hn:Xm v X):LnS w v l:=by
 obtain ⟨A,c,rfl,hc,hA⟩:=h;refine ⟨A,c,rfl,hc,fun h0=>?_⟩;obtain ⟨b,off,rfl,hd⟩:=hA h0;refine ⟨b,off,rfl,fun i d hi=>?_⟩;obtain ⟨a0,a1,a2,a3⟩:=hd i d hi;exact ⟨k.cell a0 (hn b rfl),k.cell a1 (hn b rfl),k.cell a2 (hn b rfl),a3.kb k (hn b rfl)⟩
theorem InS.kb {W w:World}{X:List Nat}{v:Value}{l:List Int}(h:InS W v l)(k:KB W X w)(hn:Xm v X):InS w v l:=by
 obtain ⟨A,c,rfl,hc,hA⟩:=h;refine ⟨A,c,rfl,hc,fun h0=>?_⟩;obtain ⟨b,off,rfl,hd⟩:=hA h0;exact ⟨b,off,rfl,fun i d hi=>k.cell (hd i d hi) (hn b rfl)⟩
theorem BlkI.kb {W w:World}{X:List Nat}{b:Nat}{x y z x' y' z':Value}(h:BlkI W b x y z x' y' z')(k:KB W X w)(hn:b∉X):BlkI w b x y z x' y' z' :=
 (k.block b (Array.getElem?_eq_some_iff.1 h).1 hn).trans h
theorem Blk.kb {W w:World}{X:List Nat}{b:Nat}{x y z:Value}(h:Blk W b x y z)(k:KB W X w)(hn:b∉X):Blk w b x y z :=
 (k.block b (Array.getElem?_eq_some_iff.1 h).1 hn).trans h
theorem KB.blk {W w:World}{X:List Nat}(k:KB W X w){b:Nat}{o:Obj}(h:W.heap[b]?=some o)(hn:b∉X):w.heap[b]?=some o :=
 (k.block b (Array.getElem?_eq_some_iff.1 h).1 hn).trans h
theorem Tab.kb {W w:World}{X:List Nat}(h:Tab W)(k:KB W X w)(hX:0∉X):Tab w:=fun j hj=>k.cell (h j hj) hX
theorem Tab.ne {w:World}{b:Nat}{v:Value}(h:Tab w)(hc:w.cell? ⟨b,0,none⟩=some v)(hv:∀ y,v≠.int .u8 y):0≠b:=by
 intro e;subst e;have h0:=h 0 (by decide);rw [hc] at h0;injection h0 with h0
 exact hv _ h0
theorem Tab.lt {w:World}(h:Tab w):0<w.heap.size:=Ap (h 0 (by decide))
theorem Cn {W w:World}{X:List Nat}{b:Nat}{cs:Array Value}{T:TypeId}(h:W.heap[b]?=some (.cells cs T (0,0)))(k:KB W X w)(hn:b∉X)(i:Nat)(v:Value)(hi:cs[i]?=some v):w.cell? ⟨b,i,none⟩=some v :=
 Ae ((k.block b (Array.getElem?_eq_some_iff.1 h).1 hn).trans h) i v hi
theorem c6X {W w:World}{X:List Nat}{b:Nat}{x0 x1 x2 x3 x4 x5:Value}{T:TypeId}(h:W.heap[b]?=some (.cells #[x0,x1,x2,x3,x4,x5] T (0,0)))(k:KB W X w)(hn:b∉X) :
 w.cell? ⟨b,0,none⟩=some x0∧w.cell? ⟨b,1,none⟩=some x1∧w.cell? ⟨b,2,none⟩=some x2∧w.cell? ⟨b,3,none⟩=some x3∧w.cell? ⟨b,4,none⟩=some x4∧w.cell? ⟨b,5,none⟩=some x5 :=
 ⟨Cn h k hn 0 _ rfl,Cn h k hn 1 _ rfl,Cn h k hn 2 _ rfl,Cn h k hn 3 _ rfl,Cn h k hn 4 _ rfl,Cn h k hn 5 _ rfl⟩
theorem KB.ivW {W w:World}{X:List Nat}{b:Nat}{n n':Bool}{A A':Option Addr}{l c l' c':Nat}{e e':Int}(h:KB W X w)(hb:BlkI w b (.bool n) (.slice A l c) (.int .i64 e) (.bool n') (.slice A' l' c') (.int .i64 e'))(hX:b∈X)(x y z x' y' z':Value) :
 KB W X (Go.Proofs.YtabjjdicffcolaaGreatDoor.ivW w b x y z x' y' z'):=by
 have k0:Below 0 w (Go.Proofs.YtabjjdicffcolaaGreatDoor.ivW w b x y z x' y' z') :=
  ((((((Below.refl 0 w).setCell (p:=⟨b,0,none⟩) (Nat.zero_le _) x).setCell (p:=⟨b,1,none⟩) (Nat.zero_le _) y).setCell (p:=⟨b,2,none⟩) (Nat.zero_le _) z).setCell (p:=⟨b,3,none⟩) (Nat.zero_le _) x').setCell (p:=⟨b,4,none⟩) (Nat.zero_le _) y').setCell (p:=⟨b,5,none⟩) (Nat.zero_le _) z'
 have ho:=fun k (hk:k≠b)=>Cb w b k x y z x' y' z' hk
 generalize Go.Proofs.YtabjjdicffcolaaGreatDoor.ivW w b x y z x' y' z'=w' at *;refine ⟨k0.os.trans h.os,k0.tape.trans h.tape,k0.output.trans h.output,Nat.le_trans h.size k0.size,fun k hk hn=>(ho k (fun e=>hn (by subst e;exact hX))).trans (h.block k hk hn),fun p j v hp=>?_⟩;have h1:=h.limb p j v hp;have hne:p≠b:=by
  rintro rfl;exact hb.noLimb _ _ (Py hb h1) _ rfl
 rw [World.cell?_of_block (ho p hne)];exact h1
section
variable {P:Program} {ops:Array Oper} {Q:Exit→Act→World→Prop} {md:Region.Mode}
theorem Ry {J:(Nat→Bool)→World→Prop}{V:Nat→Value→World→Prop}{L:Nat→Bool}{i:Nat}{o:Oper}{a:Act}{w:World}
 (hV:∀ j u w w',Kept w w'→V j u w→V j u w') (hJ:∀ w',Kept w w'→J (upd L i true) w') (h:Bd P ops Q V i o a w):Mt P ops Q J V L i o a w:=by
 unfold Bd at h;unfold Mt;by_cases hw:Region.wanted o (yielded ops a.tmps)=true
 ·rw [if_pos hw] at h ⊢;refine Oper.wp_mono (fun a' w' q=>?_) h;obtain ⟨v,rfl,k,hv⟩:=q;exact ⟨v,rfl,⟨hJ w' k,fun j _ u hu=>hV j u _ _ k hu⟩,hv⟩
 ·rw [if_neg hw] at h ⊢;exact ⟨hJ w (Below.refl _ _),h⟩
theorem By {J:(Nat→Bool)→World→Prop}{V:Nat→Value→World→Prop}{L:Nat→Bool}{i:Nat}{o:Oper}{a:Act}{w w':World}(hw:Region.wanted o (yielded ops a.tmps)=true)
 (h:(execOp a.eval o).run P w=.ok .skip w') (hJ:J (upd L i true) w') (hV:∀ j,j≠i→∀ u,V j u w→V j u w') (hv:V i undef w'):Mt P ops Q J V L i o a w:=by
 unfold Mt;rw [if_pos hw];unfold Oper.wp;rw [h];exact ⟨undef,rfl,⟨hJ,hV⟩,hv⟩
theorem Es {J:(Nat→Bool)→World→Prop}{V:Nat→Value→World→Prop}{L:Nat→Bool}{i:Nat}{o:Oper}{a:Act}{w:World}{f:FuncId}{args:Array Value}{R:Ending→World→Prop}(hw:Region.wanted o (yielded ops a.tmps)=true)
 (h:(execOp a.eval o).run P w=.ok (.enter f args) w) (hc:Calls P f args w R)
 (hr:∀ e w',R e w'→∃ v,e=.returned v∧(J (upd L i true) w'∧∀ j,j≠i→∀ u,V j u w→V j u w')∧V i v w'):Mt P ops Q J V L i o a w:=by
 unfold Mt;rw [if_pos hw];unfold Oper.wp;rw [h];refine Calls.mono hc (fun e w' he=>?_);obtain ⟨v,rfl,hk,hv⟩:=hr e w' he;exact ⟨v,rfl,hk,hv⟩
def Ah3 (P:Program) (ops:Array Oper) (Q:Exit→Act→World→Prop) (J:(Nat→Bool)→World→Prop) (V:Nat→Value→World→Prop) (L:Nat→Bool) (i:Nat) (o:Oper) (a:Act) (w:World):Prop :=
 ((∀ w',Kept w w'→J (upd L i true) w')∧Bd P ops Q V i o a w)∨Mt P ops Q J V L i o a w
def Tu (P:Program) (md:Region.Mode) (ops:Array Oper) (Q:Exit→Act→World→Prop) (m:Nat) (J:(Nat→Bool)→World→Prop) (V:Nat→Value→World→Prop) (a0:Act):Nat→Nat→List Oper→Prop
 | _,0,_=>True
 | _,_+1,[]=>True
 | i,k+1,o::l=>(∀ L a w,FindsG md ops m J V a0 L i a w→Ah3 P ops Q J V L i o a w)∧Tu P md ops Q m J V a0 (i+1) k l
theorem Tn {m:Nat}{J:(Nat→Bool)→World→Prop}{V:Nat→Value→World→Prop}{a0:Act}:∀ (k i0:Nat) (l:List Oper),Tu P md ops Q m J V a0 i0 k l →
 ∀ i o,i<k→l[i]?=some o→∀ L a w,FindsG md ops m J V a0 L (i0+i) a w→Ah3 P ops Q J V L (i0+i) o a w
 | 0,_,_,_,_,_,hi,_=>absurd hi (Nat.not_lt_zero _)
 | k+1,_,[],_,_,_,_,ho=>by simp at ho
 | k + 1, i0, x :: l, h, 0, o, _, ho => by
   simp at ho;subst ho;exact h.1
 | k + 1, i0, x :: l, h, i + 1, o, hi, ho => by
   have:=Tn k (i0+1) l h.2 i o (by omega) (by simpa using ho);have e:i0+1+i=i0+(i+1):=by omega
   rw [e] at this;exact this
theorem Wv {id m:Nat}{J:(Nat→Bool)→World→Prop}{l:List (Value→World→Prop)}{a0:Act}{W:World}(hm:P.follows .mixedOrders=true)
 (hsz:m=ops.size) (hap:Br ops m=true) (hin:Cr ops m a0.tmps.size=true) (hbk:Di .any ops=true) (hM:Im l)
 (hJ:J (fun _=>false) W.drew) (hstep:Tu P .any ops Q m J (VL l) a0 0 m ops.toList)
 (hend:∀ u w L,(∀ i,i<m→L i=true)→J L w→(∀ i,i<m→VL l i (u i) w)→Q .normal (Ay ops (fun _=>true) u m a0) w) :
 (Code.region id ops true).wp P Q a0 W:=by
 refine Wu (J:=J) (V:=VL l) hm hsz hap hin hbk hJ (fun i o hi ho L a w F=>?_) hend;have h:=Tn m 0 ops.toList hstep i o hi (by simpa using ho) L a w (by simpa using F);rw [Nat.zero_add] at h;rcases h with ⟨h1,h2⟩ | h
 ·exact Ry (He l hM) h1 h2
 ·exact h
def Ms (E:Nat→Bool) (i:Nat):Prop:=E i=false
def Tt (P:Program) (md:Region.Mode) (ops:Array Oper) (Q:Exit→Act→World→Prop) (m:Nat) (W:World) (X:List Nat) (E:Nat→Bool) (J:(Nat→Bool)→World→Prop) (V:Nat→Value→World→Prop) (a0:Act):Nat→Nat→List Oper→Prop
 | _,0,_=>True
 | _,_+1,[]=>True
 | i, k + 1, o :: l => ((Ms   E i ∧ ∀ L a w, FindsG md ops m (fun L w => KB W X w ∧ J L w) V a0 L i a w → Bd     P ops Q V i o a w) ∨ ∀ L a w, FindsG md ops m (fun L w => KB W X w ∧ J L w) V a0 L i a w → Mt    P ops Q (fun L w => KB W X w ∧ J L w) V L i o a w) ∧
   Tt P md ops Q m W X E J V a0 (i+1) k l
theorem Tm {m:Nat}{W:World}{X:List Nat}{E:Nat→Bool}{J:(Nat→Bool)→World→Prop}{V:Nat→Value→World→Prop}{a0:Act}(hK:∀ i,Ms E i→∀ L w w',Kept w w'→J L w→J (upd L i true) w'):∀ (k i:Nat) (l:List Oper),
 Tt P md ops Q m W X E J V a0 i k l→Tu P md ops Q m (fun L w=>KB W X w∧J L w) V a0 i k l
 | 0,_,_,_=>trivial
 | _+1,_,[],_=>trivial
 | k+1,i,_::l,h=>⟨fun L a w F=>h.1.elim (fun h=>.inl ⟨fun w' q=>⟨F.frame.1.step q,hK i h.1 L w w' q F.frame.2⟩,h.2 L a w F⟩) (fun h=>.inr (h L a w F)),Tm hK k (i+1) l h.2⟩
theorem kp {c A B:Prop}(h:A)(e:c:=by exact rfl):(c∧A)∨B:=.inl ⟨e,h⟩
theorem Hx {E:Nat→Bool}{L:Nat→Bool}{i:Nat}(h:Ms E i)(j:Nat)(hj:E j=true:=by exact rfl):upd L i true j=L j:=if_neg (by rintro rfl;exact absurd (h.symm.trans hj) (by decide))
theorem rK {id:Nat}{a0:Act}{W:World}(m:Nat)(E:Nat→Bool)(X:List Nat)(J:(Nat→Bool)→World→Prop)(l:List (Value→World→Prop))(hK:∀ i,Ms E i→∀ L w w',Kept w w'→J L w→J (upd L i true) w')(hJ:J (fun _=>false) W.drew)
 (hs:Tt P .any ops Q m W X E J (VL l) a0 0 m ops.toList) (he:∀ u w L,(∀ i,i<m→L i=true)→KB W X w∧J L w→(∀ i,i<m→VL l i (u i) w)→Q .normal (Ay ops (fun _=>true) u m a0) w) (hM:Nonempty (Im l):=by infer_instance)
 (hm:P.follows .mixedOrders=true:=by kernel_rfl) (hz:m=ops.size:=by exact rfl) (ha:Br ops m=true:=by kernel_rfl) (hi:Cr ops m a0.tmps.size=true:=by kernel_rfl) (hb:Di .any ops=true:=by kernel_rfl):(Code.region id ops true).wp P Q a0 W :=
 Wv (J:=fun L w=>KB W X w∧J L w) hm hz ha hi hb (Fi hM) ⟨(KB.refl _ _).drew,hJ⟩ (Tm hK _ _ _ hs) he
def Aco (w w':World) (s:Nat):Nat→List (Value→World→Prop)→Prop
 | _,[]=>True
 | i,p::l=>(i=s∨∀ u,p u w→p u w')∧Aco w w' s (i+1) l
theorem Xc {w w':World}{s:Nat}:∀ (l:List (Value→World→Prop)) (i0:Nat),Aco w w' s i0 l→∀ j,i0+j≠s→∀ u,VL l j u w→VL l j u w'
 | [],_,_,_,_,_,_=>trivial
 | _::_,_,h,0,hj,u,hu=>(h.1.resolve_left (by simpa using hj)) u hu
 | _::l,i0,h,j+1,hj,u,hu=>Xc l (i0+1) h.2 j (by omega) u hu
theorem Bw {w w':World}{s:Nat}(l:List (Value→World→Prop))(h:Aco w w' s 0 l):∀ j,j≠s→∀ u,VL l j u w→VL l j u w' :=
 fun j hj u hu=>Xc l 0 h j (by omega) u hu
theorem vR {c:Prop}{x:Value}{w w':World}:c∨∀ u,vE x u w→vE x u w':=.inr fun _ h=>by
 unfold vE at h ⊢;exact h
theorem vS {x:Value}{w w':World}:∀ u,vE x u w→vE x u w':=fun _ h=>by
 unfold vE at h ⊢;exact h
variable {m i:Nat} {J:(Nat→Bool)→World→Prop} {l:List (Value→World→Prop)} {a0 a:Act} {w:World} {L:Nat→Bool}
theorem FindsG.v (F:FindsG md ops m J (VL l) a0 L i a w)(j t:Nat){x:Value}(h:l.getD j (fun _ _=>True)=vE x:=by exact rfl)(h1:Bg md ops i j=true:=by kernel_rfl)(h2:An ops j=some t:=by exact rfl):a.tmps.getD t undef=x:=by
 have h3:=F.done j t h1 h2;unfold VL at h3;rw [h] at h3;exact h3
theorem FindsG.p (F:FindsG md ops m J (VL l) a0 L i a w)(j t:Nat){p:Value→World→Prop}(h:l.getD j (fun _ _=>True)=p:=by exact rfl)(h1:Bg md ops i j=true:=by kernel_rfl)(h2:An ops j=some t:=by exact rfl):p (a.tmps.getD t undef) w:=by
 have h3:=F.done j t h1 h2;unfold VL at h3;rw [h] at h3;exact h3
theorem FindsG.q {V:Nat→Value→World→Prop}(F:FindsG md ops m J V a0 L i a w)(t:Nat)(x:Value)(h:Eh md ops m i t=true:=by kernel_rfl)(e:a0.tmps.getD t undef=x:=by exact rfl):a.tmps.getD t undef=x:=(F.old t h).trans e
theorem FindsG.o {V:Nat→Value→World→Prop}(F:FindsG md ops m J V a0 L i a w)(t:Nat)(h:Eh md ops m i t=true:=by kernel_rfl):a.tmps.getD t undef=a0.tmps.getD t undef:=F.old t h
section
variable {E:Nat→Bool} {X:List Nat} {W:World} {B:Prop} {V:Nat→Value→World→Prop} {o:Oper}
theorem kv (j t:Nat){x:Value}{y:Value}(h:l.getD j (fun _ _=>True)=vE x:=by exact rfl)(h1:Bg md ops i j=true:=by kernel_rfl)(h2:An ops j=some t:=by exact rfl)(hy:l.getD i (fun _ _=>True)=vE y:=by exact rfl)(hg:o.guard=none:=by exact rfl)(he:Ms E i:=by exact rfl)(hx:∀ (a:Act) (w:World),a.tmps.getD t undef=x→(execOp a.eval o).run P w=.ok (.value y) w:=by intro aF wF s;go_simp):((Ms E i∧∀ L a w,FindsG md ops m (fun L w=>KB W X w∧J L w) (VL l) a0 L i a w→Bd P ops Q (VL l) i o a w)∨B):=.inl ⟨he,fun _ a w F=>Ar (by simp [Region.wanted,hg]) (hx a w (F.v j t h h1 h2)) (by unfold VL;rw [hy];rfl)⟩
theorem kq (t:Nat){x:Value}{y:Value}(h:Eh md ops m i t=true:=by kernel_rfl)(h1:a0.tmps.getD t undef=x:=by exact rfl)(hy:l.getD i (fun _ _=>True)=vE y:=by exact rfl)(hg:o.guard=none:=by exact rfl)(he:Ms E i:=by exact rfl)(hx:∀ (a:Act) (w:World),a.tmps.getD t undef=x→(execOp a.eval o).run P w=.ok (.value y) w:=by intro aF wF s;go_simp):((Ms E i∧∀ L a w,FindsG md ops m (fun L w=>KB W X w∧J L w) (VL l) a0 L i a w→Bd P ops Q (VL l) i o a w)∨B):=.inl ⟨he,fun _ a w F=>Ar (by simp [Region.wanted,hg]) (hx a w ((F.old t h).trans h1)) (by unfold VL;rw [hy];rfl)⟩
theorem km (j t:Nat){p:Value→World→Prop}(h:l.getD j (fun _ _=>True)=p:=by exact rfl)(hy:l.getD i (fun _ _=>True)=p:=by exact rfl)(h1:Bg md ops i j=true:=by kernel_rfl)(h2:An ops j=some t:=by exact rfl)(hg:o.guard=none:=by exact rfl)(he:Ms E i:=by exact rfl)(hx:∀ (a:Act) (w:World),(execOp a.eval o).run P w=.ok (.value (a.tmps.getD t undef)) w:=by intro _ _;exact rfl):((Ms E i∧∀ L a w,FindsG md ops m (fun L w=>KB W X w∧J L w) (VL l) a0 L i a w→Bd P ops Q (VL l) i o a w)∨B):=.inl ⟨he,fun _ a w F=>Ar (by simp [Region.wanted,hg]) (hx a w) (by unfold VL;rw [hy];exact F.p j t h h1 h2)⟩
theorem kvv (j t j' t':Nat){x x':Value}{y:Value}(h:l.getD j (fun _ _=>True)=vE x:=by exact rfl)(h1:Bg md ops i j=true:=by kernel_rfl)(h2:An ops j=some t:=by exact rfl)(h':l.getD j' (fun _ _=>True)=vE x':=by exact rfl)(h'1:Bg md ops i j'=true:=by kernel_rfl)(h'2:An ops j'=some t':=by exact rfl)(hy:l.getD i (fun _ _=>True)=vE y:=by exact rfl)(hg:o.guard=none:=by exact rfl)(he:Ms E i:=by exact rfl)(hx:∀ (a:Act) (w:World),a.tmps.getD t undef=x→a.tmps.getD t' undef=x'→(execOp a.eval o).run P w=.ok (.value y) w:=by intro aF wF s s';go_simp):((Ms E i∧∀ L a w,FindsG md ops m (fun L w=>KB W X w∧J L w) (VL l) a0 L i a w→Bd P ops Q (VL l) i o a w)∨B):=.inl ⟨he,fun _ a w F=>Ar (by simp [Region.wanted,hg]) (hx a w (F.v j t h h1 h2) (F.v j' t' h' h'1 h'2)) (by unfold VL;rw [hy];rfl)⟩
theorem kvl (j t:Nat){x:Value}{p:World→Prop}{y:Value}(c:∀ w,KB W X w→p w)(h:l.getD j (fun _ _=>True)=vE x:=by exact rfl)(h1:Bg md ops i j=true:=by kernel_rfl)(h2:An ops j=some t:=by exact rfl)(hy:l.getD i (fun _ _=>True)=vE y:=by exact rfl)(hg:o.guard=none:=by exact rfl)(he:Ms E i:=by exact rfl)(hx:∀ (a:Act) (w:World),a.tmps.getD t undef=x→p w→(execOp a.eval o).run P w=.ok (.value y) w:=by intro aF wF s c;go_simp):((Ms E i∧∀ L a w,FindsG md ops m (fun L w=>KB W X w∧J L w) (VL l) a0 L i a w→Bd P ops Q (VL l) i o a w)∨B):=.inl ⟨he,fun _ a w F=>Ar (by simp [Region.wanted,hg]) (hx a w (F.v j t h h1 h2) (c w F.frame.1)) (by unfold VL;rw [hy];rfl)⟩
theorem kql (t:Nat){x:Value}{p:World→Prop}{y:Value}(c:∀ w,KB W X w→p w)(h:Eh md ops m i t=true:=by kernel_rfl)(h1:a0.tmps.getD t undef=x:=by exact rfl)(hy:l.getD i (fun _ _=>True)=vE y:=by exact rfl)(hg:o.guard=none:=by exact rfl)(he:Ms E i:=by exact rfl)(hx:∀ (a:Act) (w:World),a.tmps.getD t undef=x→p w→(execOp a.eval o).run P w=.ok (.value y) w:=by intro aF wF s c;go_simp):((Ms E i∧∀ L a w,FindsG md ops m (fun L w=>KB W X w∧J L w) (VL l) a0 L i a w→Bd P ops Q (VL l) i o a w)∨B):=.inl ⟨he,fun _ a w F=>Ar (by simp [Region.wanted,hg]) (hx a w ((F.old t h).trans h1) (c w F.frame.1)) (by unfold VL;rw [hy];rfl)⟩
end
end
section
variable {P:Program} {ops:Array Oper} {Q:Exit→Act→World→Prop} {md:Region.Mode}
def J9 (P:Program) (ops:Array Oper) (Q:Exit→Act→World→Prop) (J:(Nat→Bool)→World→Prop) (V:Nat→Value→World→Prop) (G:(Nat→Bool)→(Nat→Value)→World→Prop) (L:Nat→Bool) (u:Nat→Value) (i:Nat) (o:Oper) (a:Act) (w:World):Prop :=
 if Region.wanted o (yielded ops a.tmps)=true then o.wp P a w (fun a' w'=>∃ v,a'=a.put o.dst v∧(J (upd L i true) w'∧∀ j,j≠i→∀ u,V j u w→V j u w')∧V i v w'∧G (upd L i true) (upd u i v) w') Q
  else J (upd L i true) w∧V i undef w∧G (upd L i true) (upd u i undef) w
theorem G5 {J:(Nat→Bool)→World→Prop}{V:Nat→Value→World→Prop}{G:(Nat→Bool)→(Nat→Value)→World→Prop}{L:Nat→Bool}{u:Nat→Value}{i:Nat}{o:Oper}{a:Act}{w w':World}{v:Value}(hw:Region.wanted o (yielded ops a.tmps)=true)
 (h:(execOp a.eval o).run P w=.ok (.value v) w') (hJ:J (upd L i true) w') (hV:∀ j,j≠i→∀ u,V j u w→V j u w') (hv:V i v w') (hG:G (upd L i true) (upd u i v) w'):J9 P ops Q J V G L u i o a w:=by
 unfold J9;rw [if_pos hw];unfold Oper.wp;rw [h];exact ⟨v,rfl,⟨hJ,hV⟩,hv,hG⟩
theorem Oe {J:(Nat→Bool)→World→Prop}{V:Nat→Value→World→Prop}{G:(Nat→Bool)→(Nat→Value)→World→Prop}{L:Nat→Bool}{u:Nat→Value}{i:Nat}{o:Oper}{a:Act}{w w':World}(hw:Region.wanted o (yielded ops a.tmps)=true)
 (h:(execOp a.eval o).run P w=.ok .skip w') (hJ:J (upd L i true) w') (hV:∀ j,j≠i→∀ u,V j u w→V j u w') (hv:V i undef w') (hG:G (upd L i true) (upd u i undef) w'):J9 P ops Q J V G L u i o a w:=by
 unfold J9;rw [if_pos hw];unfold Oper.wp;rw [h];exact ⟨undef,rfl,⟨hJ,hV⟩,hv,hG⟩
structure Acj (md:Region.Mode) (ops:Array Oper) (m:Nat) (V:Nat→Value→World→Prop) (G:(Nat→Bool)→(Nat→Value)→World→Prop) (L:Nat→Bool) (u:Nat→Value) (i:Nat) (a:Act) (w:World):Prop where
 eq:∀ j t,Bg md ops i j=true→An ops j=some t→a.tmps.getD t undef=u j
 is:∀ j,j<m→L j=true→V j (u j) w
 g:G L u w
def Tv (P:Program) (md:Region.Mode) (ops:Array Oper) (Q:Exit→Act→World→Prop) (m:Nat) (J:(Nat→Bool)→World→Prop) (V:Nat→Value→World→Prop) (E:Nat→Bool) (G:(Nat→Bool)→(Nat→Value)→World→Prop) (a0:Act):Nat→Nat→List Oper→Prop
 | _,0,_=>True
 | _,_+1,[]=>True
 | i,k+1,o::l=>((E i=false∧∀ L a w,FindsG md ops m J V a0 L i a w→(∀ w',Kept w w'→J (upd L i true) w')∧Bd P ops Q V i o a w)∨(∀ L u a w,FindsG md ops m J V a0 L i a w→Acj md ops m V G L u i a w→J9 P ops Q J V G L u i o a w))∧Tv P md ops Q m J V E G a0 (i+1) k l
theorem Pc {m:Nat}{J:(Nat→Bool)→World→Prop}{V:Nat→Value→World→Prop}{E:Nat→Bool}{G:(Nat→Bool)→(Nat→Value)→World→Prop}{a0:Act}(hV:∀ j u w w',Kept w w'→V j u w→V j u w')
 (hG:∀ i,E i=false→∀ L u v w w',Kept w w'→G L u w→G (upd L i true) (upd u i v) w'):∀ (k i0:Nat) (l:List Oper),Tv P md ops Q m J V E G a0 i0 k l →
 ∀ i o,i<k→l[i]?=some o→∀ L u a w,FindsG md ops m J V a0 L (i0+i) a w→Acj md ops m V G L u (i0+i) a w→J9 P ops Q J V G L u (i0+i) o a w
 | 0,_,_,_,_,_,hi,_=>absurd hi (Nat.not_lt_zero _)
 | k+1,_,[],_,_,_,_,ho=>by simp at ho
 | k + 1, i0, x :: l, h, 0, o, _, ho => by
   simp at ho;subst ho;intro L u a w F F';rcases h.1 with ⟨h1,h3⟩ | h3
   ·obtain ⟨q1,q2⟩:=h3 L a w F;have q:=Ry hV q1 q2;unfold Bd at q2;unfold J9;by_cases hw:Region.wanted x (yielded ops a.tmps)=true
    ·rw [if_pos hw] at q2 ⊢;refine Oper.wp_mono (fun a' w' qq=>?_) q2;obtain ⟨v,rfl,k,hv⟩:=qq;exact ⟨v,rfl,⟨q1 w' k,fun j _ u hu=>hV j u _ _ k hu⟩,hv,hG _ h1 L u v w w' k F'.g⟩
    ·rw [if_neg hw] at q2 ⊢;exact ⟨q1 w (Below.refl _ _),q2,hG _ h1 L u undef w w (Below.refl _ _) F'.g⟩
   ·exact h3 L u a w F F'
 | k + 1, i0, x :: l, h, i + 1, o, hi, ho => by
   have:=Pc hV hG k (i0+1) l h.2 i o (by omega) (by simpa using ho);have e:i0+1+i=i0+(i+1):=by omega
   rw [e] at this;exact this
theorem Ww {id m:Nat}{E:Nat→Bool}{G:(Nat→Bool)→(Nat→Value)→World→Prop}{J:(Nat→Bool)→World→Prop}{l:List (Value→World→Prop)}{a0:Act}{W:World}(hm:P.follows .mixedOrders=true)
 (hG:∀ i,E i=false→∀ L u v w w',Kept w w'→G L u w→G (upd L i true) (upd u i v) w') (hG0:G (fun _=>false) (fun _=>undef) W.drew)
 (hsz:m=ops.size) (hap:Br ops m=true) (hin:Cr ops m a0.tmps.size=true) (hbk:Di .any ops=true) (hM:Im l)
 (hJ:J (fun _=>false) W.drew) (hstep:Tv P .any ops Q m J (VL l) E G a0 0 m ops.toList)
 (hend:∀ u w L,(∀ i,i<m→L i=true)→J L w→(∀ i,i<m→VL l i (u i) w)→G L u w→Q .normal (Ay ops (fun _=>true) u m a0) w) :
 (Code.region id ops true).wp P Q a0 W:=by
 refine Lz (m:=m) (J:=fun L u w=>J L w∧(∀ j,j<m→L j=true→VL l j (u j) w)∧G L u w) hm hsz hap hin hbk ⟨hJ,fun j _ h=>by (cases h),hG0⟩ (fun i o hi ho L u a w F=>?_) (fun u w L hL hk=>hend u w L hL hk.1 (fun i hi=>hk.2.1 i hi (hL i hi)) hk.2.2);obtain ⟨f1,f2,f3⟩:=F.frame;have GG:FindsG .any ops m J (VL l) a0 L i a w:=⟨f1,F.yet,F.wait,F.defers,fun j t h1 h2=>by rw [F.done j t h1 h2];exact f2 j (F.lt j (F.wait j h1)) (F.wait j h1),F.old⟩;have h:=Pc (He l hM) hG m 0 ops.toList hstep i o hi (by simpa using ho) L u a w (by simpa using GG) ⟨by simpa using F.done,f2,f3⟩;rw [Nat.zero_add] at h
 unfold J9 at h;unfold K5;have up:∀ (v:Value) (w':World),(∀ j,j≠i→∀ u,VL l j u w→VL l j u w')→VL l i v w'→∀ j,j<m→upd L i true j=true→VL l j (upd u i v j) w':=by
  intro v w' hs hv j hj hL;by_cases e:j=i
  ·subst e;simpa [upd] using hv
  ·have:L j=true:=by simpa [upd,e] using hL
   have:=hs j e _ (f2 j hj this);simpa [upd,e] using this
 by_cases hw:Region.wanted o (yielded ops a.tmps)=true
 ·rw [if_pos hw] at h ⊢;refine Oper.wp_mono (fun a' w' q=>?_) h;obtain ⟨v,rfl,⟨k1,k2⟩,hv,hg⟩:=q;exact ⟨v,rfl,k1,up v w' k2 hv,hg⟩
 ·rw [if_neg hw] at h ⊢;obtain ⟨k1,k2,hg⟩:=h;exact ⟨k1,up undef w (fun j _ u h=>h) k2,hg⟩
end
structure OwnG (w:World) (base:Nat) (T:TypeId) (s:Nat) (v:Value) (n:Nat) (xs:List Value):Prop where
 row:w.ownsRow base T s v n xs
 nl:∀ u∈xs,Bf u
 one:∀ u∈xs,u.oneCell'=true
 blk:∀ g,v.ownBlock=some g→NoL w g
theorem OwnG.nil (w:World)(base:Nat)(T:TypeId)(s:Nat):OwnG w base T s (.slice none 0 0) 0 [] :=
 ⟨World.ownsRow_nil _ _ _ _,by simp,by simp,by intro g h;simp [Value.ownBlock] at h⟩
theorem OwnG.same {w w':World}{base:Nat}{T:TypeId}{s:Nat}{v:Value}{n:Nat}{xs:List Value}(h:OwnG w base T s v n xs)(e:∀ g,v.ownBlock=some g→w'.heap[g]?=w.heap[g]?):OwnG w' base T s v n xs:=by
 obtain ⟨h1,h2,h3,h4⟩:=h;refine ⟨⟨h1.1,?_⟩,h2,h3,fun g hg=>(h4 g hg).of_block (e g hg)⟩;rcases h1.2 with hn | ⟨g,cap,cur,rfl,hb,hg,rest⟩
 ·exact .inl hn
 ·exact .inr ⟨g,cap,cur,rfl,hb,(e g rfl).trans hg,rest⟩
theorem OwnG.kb {w w':World}{X:List Nat}{base:Nat}{T:TypeId}{s:Nat}{v:Value}{n:Nat}{xs:List Value}(h:OwnG w base T s v n xs)(k:KB w X w')(hn:Xm v X):OwnG w' base T s v n xs :=
 h.same fun g hg=>by
  obtain ⟨cur,e,hc,-⟩:=h.blk g hg;rw [k.blk hc (hn g hg),hc]
theorem Wf (v:Value):Xm v []:=fun _ _ h=>by cases h
theorem OwnG.kept {w w':World}{base:Nat}{T:TypeId}{s:Nat}{v:Value}{n:Nat}{xs:List Value}(h:OwnG w base T s v n xs)(k:Kept w w'):OwnG w' base T s v n xs:=h.kb (k.kb []) (Wf v)
theorem OwnG.lt {w:World}{base:Nat}{T:TypeId}{s:Nat}{v:Value}{n:Nat}{xs:List Value}(h:OwnG w base T s v n xs)(g:Nat)(hg:v.ownBlock=some g):g<w.heap.size∧base≤g:=by
 obtain ⟨cur,e,hc,-⟩:=h.blk g hg;refine ⟨(Array.getElem?_eq_some_iff.1 hc).1,?_⟩;rcases h.row.2 with ⟨rfl,-⟩ | ⟨g',cap,cur,rfl,hb,-⟩
 ·simp [Value.ownBlock] at hg
 ·simp [Value.ownBlock] at hg;subst hg;exact hb
theorem OwnG.shape {w:World}{base:Nat}{T:TypeId}{s:Nat}{v:Value}{n:Nat}{xs:List Value}(h:OwnG w base T s v n xs):∃ A c,v=.slice A n c∧n≤c:=by
 rcases h.row.2 with ⟨rfl,rfl⟩ | ⟨g,cap,cur,rfl,-,-,hc,-⟩
 ·exact ⟨none,0,rfl,Nat.le_refl _⟩
 ·exact ⟨_,cap,rfl,hc⟩
theorem OwnG.at {w:World}{base:Nat}{T:TypeId}{s:Nat}{v:Value}{n:Nat}{xs:List Value}(h:OwnG w base T s v n xs)(h0:0<n):∃ b c,v=.slice (some ⟨b,0,none⟩) n c∧n≤c∧∀ (j:Nat) u,xs[j]?=some u→w.cell? ⟨b,j,none⟩=some u:=by
 rcases h.row.2 with ⟨rfl,rfl⟩ | ⟨g,cap,cur,rfl,hb,hg,hc,-⟩
 ·omega
 ·refine ⟨g,cap,rfl,hc,fun j u hu=>?_⟩;have:=h.row.cells (g:=g) rfl j u hu;rw [show (⟨g,0,none⟩:Addr).add j=⟨g,j,none⟩ by unfold Addr.add;split<;>simp_all] at this;exact this
theorem OwnG.append {P:Program}{w:World}{base:Nat}{t e:TypeId}(ty:TypeId){i:TypeInfo}{z:Value}{size bytes:Nat}(ht:P.underlying t=some (.slice e))(hi:P.info? e=some i)(hz:i.zero=some z)
 (hsize:i.size=size) (hby:i.bytes=bytes) (hzs:z.cells.size=size) (hsz:0<size) (h2:bytes≤1000) (hzl:∀ u∈z.cells.toList,Bf u)
 {v:Value} {n:Nat} {xs:List Value} (h:OwnG w base e size v n xs)
 {b m c:Nat} {news:List Value} (hl:news.length=m*size) (hnews:∀ j u,news[j]?=some u→w.cell? ⟨b,j,none⟩=some u) (h1:∀ u∈news,u.oneCell'=true)
 (hnl:∀ u∈news,Bf u) (hm:0<m) (hn:n+m≤1000) (hbase:base≤w.heap.size) :
 ∃ v' w' g', (Builtin.append_ #[t, t] ty #[v, .slice (some ⟨b, 0, none⟩) m c]).run P w = .ok v' w' ∧ OwnG w' base e size v' (n + m) (xs ++ news) ∧ w.grownBy w' v.ownBlock ∧
   v'.ownBlock=some g'∧(v.ownBlock=some g'∨w.heap.size≤g'):=by
 have ad:∀ j,(⟨b,0,none⟩:Addr).add j=⟨b,j,none⟩:=by intro j;unfold Addr.add;split<;>simp_all
 have hnews':∀ j u,news[j]?=some u→w.cell? ((⟨b,0,none⟩:Addr).add j)=some u:=fun j u hu=>by rw [ad];exact hnews j u hu
 have h63:n+m≤maxLen:=by unfold maxLen;omega
 have hbytes:(n+m)*bytes≤140737488355328:=Nat.le_trans (Nat.mul_le_mul hn h2) (by decide);have hxs:∀ u∈xs++news,Bf u:=fun u hu=>(List.mem_append.1 hu).elim (h.nl u) (hnl u)
 have hx1:∀ u∈xs++news,u.oneCell'=true:=fun u hu=>(List.mem_append.1 hu).elim (h.one u) (h1 u)
 obtain ⟨v',w',g',hr,q1,q2,q3,q4⟩:=Gm (P:=P) w base t ty e i z size bytes ht hi hz hsize hby hzs hsz v n xs h.row ⟨b,0,none⟩ m c news hl hnews' h1 h63 hbytes hbase hm h.nl hnl hzl h.blk;refine ⟨v',w',g',hr,⟨q1,hxs,hx1,fun g hg=>by rw [q3] at hg;cases hg;exact q4⟩,q2,q3,?_⟩;subst hsize;subst hby;have hown:=h.row;rcases hown.2 with ⟨rfl,rfl⟩ | ⟨g,cap,cur,rfl,hbg,hg,hnc,hcm,hcs,htake⟩
 ·have hr2:=run_append_nil (P:=P) w t ty e i z ht hi hz ⟨b,0,none⟩ m c news hl hnews' (by omega) (by simp only [maxLen] at h63;omega) (by have hb:=hbytes;simp only [Nat.zero_add] at hb;omega);rw [hr2] at hr;injection hr with e1 e2
  subst e1;simp [Value.ownBlock] at q3
  right;omega
 ·by_cases hroom:n+m≤cap
  ·have hfit:n*i.size+news.length≤cur.size:=by rw [hl,hcs,←Nat.add_mul];exact Nat.mul_le_mul_right _ hroom
   have hr2:=run_append_room (P:=P) w t ty e i ht hi g n cap cur hg ⟨b,0,none⟩ m c news hl hnews' h1 hroom hfit;rw [hr2] at hr;injection hr with e1 e2
   subst e1;simp [Value.ownBlock] at q3
   left;simp [Value.ownBlock,q3]
  ·have holds:∀ j u,xs[j]?=some u→w.cell? ((⟨g,0,none⟩:Addr).add j)=some u:=hown.cells (g:=g) rfl;have hr2:=run_append_grow (P:=P) w t ty e i z ht hi hz ⟨g,0,none⟩ n cap xs hown.1 holds ⟨b,0,none⟩ m c news hl hnews' (by omega) (by simp only [maxLen] at h63;omega) (growslice_fits (by omega) hbytes);rw [hr2] at hr;injection hr with e1 e2
   subst e1;simp [Value.ownBlock] at q3
   right;omega
def RowC {α:Type} (R:List Value→α→Prop):List Value→List α→Prop
 | xs,[]=>xs=[]
 | xs,a::l=>∃ c rest,xs=c++rest∧R c a∧RowC R rest l
theorem RowC.append {α:Type}{R:List Value→α→Prop}:∀ {l m:List α} {xs ys:List Value},RowC R xs l→RowC R ys m→RowC R (xs++ys) (l++m)
 | [],m,xs,ys,h,g=>by cases h;exact g
 | a :: l, m, xs, ys, h, g => by
   obtain ⟨c,rest,rfl,hc,hr⟩:=h;exact ⟨c,rest++ys,by rw [List.append_assoc],hc,hr.append g⟩
theorem RowC.one {α:Type}{R:List Value→α→Prop}{c:List Value}{a:α}(h:R c a):RowC R c [a]:=⟨c,[],by rw [List.append_nil],h,rfl⟩
theorem RowC.mono {α:Type}{R S:List Value→α→Prop}(hs:∀ c a,R c a→S c a):∀ {l:List α} {xs:List Value},RowC R xs l→RowC S xs l
 | [],xs,h=>h
 | a :: l, xs, h => by
   obtain ⟨c,rest,rfl,hc,hr⟩:=h;exact ⟨c,rest,rfl,hs c a hc,hr.mono hs⟩
theorem RowC.at {α:Type}{R:List Value→α→Prop}{s:Nat}(hs:∀ c a,R c a→c.length=s):∀ {l:List α} {xs:List Value},RowC R xs l→∀ (i:Nat) (a:α),l[i]?=some a→∃ c,R c a∧∀ j,j<s→xs[i*s+j]?=c[j]?
 | [],xs,h,i,a,hi=>by simp at hi
 | b :: l, xs, h, 0, a, hi => by
   obtain ⟨c,rest,rfl,hc,hr⟩:=h;cases hi;exact ⟨c,hc,fun j hj=>by rw [Nat.zero_mul,Nat.zero_add,List.getElem?_append_left (by rw [hs c _ hc];exact hj)]⟩
 | b :: l, xs, h, i + 1, a, hi => by
   obtain ⟨c,rest,rfl,hc,hr⟩:=h;obtain ⟨d,hd,hj⟩:=hr.at hs i a hi;refine ⟨d,hd,fun j hj'=>?_⟩;rw [←hj j hj',List.getElem?_append_right (by rw [hs c _ hc,Nat.succ_mul];omega),hs c _ hc,Nat.succ_mul]
   congr 1;omega
def CellD (w:World) (c:List Value) (d:Raw):Prop:=∃ x y z,c=[x,y,z]∧DyR w (.agg #[x,y,z]) d
def CellI (w:World) (c:List Value) (a:RawI):Prop:=∃ x y z x' y' z',c=[x,y,z,x',y',z']∧IvR w (.agg #[x,y,z,x',y',z']) a
def CellL (w:World) (c:List Value) (l:Ln):Prop:=∃ x y z x' y' z',c=[.int .i64 l.op,.int .i64 l.a,.int .i64 l.b,x,y,z,x',y',z']∧IvR w (.agg #[x,y,z,x',y',z']) l.k
theorem CellD.kb {w w':World}{X:List Nat}{c:List Value}{d:Raw}(h:CellD w c d)(k:KB w X w'):CellD w' c d:=by
 obtain ⟨x,y,z,e,h⟩:=h;exact ⟨x,y,z,e,h.kb k⟩
theorem CellI.kb {w w':World}{X:List Nat}{c:List Value}{d:RawI}(h:CellI w c d)(k:KB w X w'):CellI w' c d:=by
 obtain ⟨x,y,z,x',y',z',e,h⟩:=h;exact ⟨x,y,z,x',y',z',e,h.kb k⟩
theorem CellL.kb {w w':World}{X:List Nat}{c:List Value}{d:Ln}(h:CellL w c d)(k:KB w X w'):CellL w' c d:=by
 obtain ⟨x,y,z,x',y',z',e,h⟩:=h;exact ⟨x,y,z,x',y',z',e,h.kb k⟩
theorem CellL.nl {w:World}{c:List Value}{l:Ln}(h:CellL w c l):∀ u∈c,Bf u∧u.oneCell'=true:=by
 obtain ⟨x,y,z,x',y',z',rfl,hI⟩:=h;have hc:=hI.cells;intro u hu;simp only [List.mem_cons,List.not_mem_nil,or_false] at hu hc;rcases hu with rfl | rfl | rfl | hu
 ·exact ⟨Af _,rfl⟩
 ·exact ⟨Af _,rfl⟩
 ·exact ⟨Af _,rfl⟩
 ·exact hc u hu
theorem CellI.nl {w:World}{c:List Value}{a:RawI}(h:CellI w c a):∀ u∈c,Bf u∧u.oneCell'=true:=by
 obtain ⟨x,y,z,x',y',z',rfl,hI⟩:=h;exact hI.cells
theorem CellD.nl {w:World}{c:List Value}{d:Raw}(h:CellD w c d):∀ u∈c,Bf u∧u.oneCell'=true:=by
 obtain ⟨x,y,z,rfl,hd⟩:=h;obtain ⟨A,l,c,e,-⟩:=Ax hd;injection e with e;injection e with e
 simp only [List.cons.injEq,and_true] at e;obtain ⟨rfl,rfl,rfl⟩:=e;intro u hu;simp only [List.mem_cons,List.not_mem_nil,or_false] at hu;rcases hu with rfl | rfl | rfl
 ·exact ⟨Ah _,rfl⟩
 ·exact ⟨Ag _ _ _,rfl⟩
 ·exact ⟨Af _,rfl⟩
theorem RowC.all {α:Type}{R:List Value→α→Prop}{Q:Value→Prop}(hq:∀ c a,R c a→∀ u∈c,Q u):∀ {l:List α} {xs:List Value},RowC R xs l→∀ u∈xs,Q u
 | [],xs,h,u,hu=>by cases h;cases hu
 | a :: l, xs, h, u, hu => by
   obtain ⟨c,rest,rfl,hc,hr⟩:=h;rcases List.mem_append.1 hu with hu | hu
   ·exact hq c a hc u hu
   ·exact hr.all hq u hu
theorem RowC.len {α:Type}{R:List Value→α→Prop}{s:Nat}(hs:∀ c a,R c a→c.length=s):∀ {l:List α} {xs:List Value},RowC R xs l→xs.length=l.length*s
 | [],xs,h=>by cases h;simp
 | a :: l, xs, h => by
   obtain ⟨c,rest,rfl,hc,hr⟩:=h;rw [List.length_append,hs c a hc,hr.len hs,List.length_cons,Nat.succ_mul,Nat.add_comm]
theorem CellD.len {w:World}(c:List Value)(d:Raw)(h:CellD w c d):c.length=3:=by obtain ⟨x,y,z,rfl,-⟩:=h;rfl
theorem CellI.len {w:World}(c:List Value)(d:RawI)(h:CellI w c d):c.length=6:=by obtain ⟨x,y,z,x',y',z',rfl,-⟩:=h;rfl
theorem CellL.len {w:World}(c:List Value)(d:Ln)(h:CellL w c d):c.length=9:=by obtain ⟨x,y,z,x',y',z',rfl,-⟩:=h;rfl
theorem OwnG.ivS {w:World}{base:Nat}{T:TypeId}{v:Value}{n:Nat}{xs:List Value}{l:List RawI}(h:OwnG w base T 6 v n xs)(hc:RowC (CellI w) xs l)(hn:l.length=n):IvS w v l:=by
 obtain ⟨A,c,rfl,hcap⟩:=h.shape;subst hn;refine ⟨A,c,rfl,hcap,fun h0=>?_⟩;obtain ⟨b,c',e,-,hcl⟩:=h.at h0;injection e with e
 subst e;refine ⟨b,0,rfl,fun i a hi=>?_⟩;obtain ⟨cc,⟨x,y,z,x',y',z',rfl,hI⟩,hj⟩:=hc.at CellI.len i a hi;rw [Nat.zero_add];exact ⟨x,y,z,x',y',z',hcl _ _ (hj 0 (by decide)),hcl _ _ (hj 1 (by decide)),hcl _ _ (hj 2 (by decide)),hcl _ _ (hj 3 (by decide)),hcl _ _ (hj 4 (by decide)),hcl _ _ (hj 5 (by decide)),hI⟩
def SrcC (lo:Nat) (m:Nat) (news:List Value) (w:World) (v:Value):Prop:=∃ b,v=.slice (some ⟨b,0,none⟩) m m∧lo≤b∧∀ j u,news[j]?=some u→w.cell? ⟨b,j,none⟩=some u
theorem SrcC.kept {lo m:Nat}{news:List Value}{w w':World}{v:Value}(h:SrcC lo m news w v)(k:Kept w w'):SrcC lo m news w' v:=by
 obtain ⟨b,e,hb,hc⟩:=h;exact ⟨b,e,hb,fun j u hu=>(k.cell (p:=⟨b,j,none⟩) (Ap (hc j u hu))).trans (hc j u hu)⟩
theorem SrcC.kb {lo m:Nat}{news:List Value}{w w':World}{v:Value}{X:List Nat}(h:SrcC lo m news w v)(k:KB w X w')(hX:∀ x∈X,x<lo):SrcC lo m news w' v:=by
 obtain ⟨b,e,hb,hc⟩:=h;exact ⟨b,e,hb,fun j u hu=>k.cell (hc j u hu) (fun hx=>by have:=hX b hx;omega)⟩
def Qe (C:World→List Value→Prop):Prop:=∀ w w' X xs,KB w X w'→C w xs→C w' xs
def SrcR (C:World→List Value→Prop) (lo m:Nat) (w:World) (v:Value):Prop:=∃ cs,C w cs∧SrcC lo m cs w v
theorem SrcR.kept {C:World→List Value→Prop}(hC:Qe C){lo m:Nat}{w w':World}{v:Value}(h:SrcR C lo m w v)(k:Kept w w'):SrcR C lo m w' v:=by
 obtain ⟨cs,h1,h2⟩:=h;exact ⟨cs,hC _ _ [] _ (k.kb []) h1,h2.kept k⟩
theorem SrcR.kb {C:World→List Value→Prop}(hC:Qe C){lo m:Nat}{w w':World}{v:Value}{X:List Nat}(h:SrcR C lo m w v)(k:KB w X w')(hX:∀ x∈X,x<lo):SrcR C lo m w' v:=by
 obtain ⟨cs,h1,h2⟩:=h;exact ⟨cs,hC _ _ _ _ k h1,h2.kb k hX⟩
def Ajo (v:Value):List Nat:=v.ownBlock.toList
theorem Ad0 {v:Value}{g:Nat}:g∈Ajo v↔v.ownBlock=some g:=by unfold Ajo;simp [Option.mem_toList]
def AppV (base:Nat) (T:TypeId) (s:Nat) (v:Value) (n:Nat) (C:World→List Value→Prop) (hs:Nat) (w:World) (v':Value):Prop :=
 (∃ xs,OwnG w base T s v' n xs∧C w xs)∧∃ g',v'.ownBlock=some g'∧(v.ownBlock=some g'∨hs≤g')
theorem AppV.same {base:Nat}{T:TypeId}{s:Nat}{v:Value}{n:Nat}{C:World→List Value→Prop}(hC:Qe C){hs:Nat}{w w':World}{v':Value}{X:List Nat}(h:AppV base T s v n C hs w v')(k:KB w X w')(hX:Xm v' X):AppV base T s v n C hs w' v':=by
 obtain ⟨⟨xs,h1,h2⟩,h3⟩:=h;exact ⟨⟨xs,h1.kb k hX,hC _ _ _ _ k h2⟩,h3⟩
theorem AppV.kept {base:Nat}{T:TypeId}{s:Nat}{v:Value}{n:Nat}{C:World→List Value→Prop}(hC:Qe C){hs:Nat}{w w':World}{v':Value}(h:AppV base T s v n C hs w v')(k:Kept w w'):AppV base T s v n C hs w' v':=h.same hC (k.kb []) (Wf _)
theorem AppV.mono {base:Nat}{T:TypeId}{s:Nat}{v:Value}{n:Nat}{C:World→List Value→Prop}{hs hs':Nat}{w:World}{v':Value}(h:AppV base T s v n C hs w v')(hle:hs'≤hs):AppV base T s v n C hs' w v':=by
 obtain ⟨h1,g,h2,h3⟩:=h;exact ⟨h1,g,h2,h3.imp id fun q=>Nat.le_trans hle q⟩
theorem AppV.low {base:Nat}{T:TypeId}{s:Nat}{v:Value}{n:Nat}{C:World→List Value→Prop}(hC:Qe C){hs b:Nat}{w w':World}{v':Value}(h:AppV base T s v n C hs w v')(k:KB w [b] w')(hb:b<base):AppV base T s v n C hs w' v':=by
 obtain ⟨⟨xs,h1,h2⟩,h3⟩:=h;exact ⟨⟨xs,h1.kb k (fun g hg hm=>by have:=(h1.lt g hg).2;simp at hm;omega),hC _ _ _ _ k h2⟩,h3⟩
def AppJ (base:Nat) (T:TypeId) (s:Nat) (v:Value) (n:Nat) (xs:List Value) (n':Nat) (C:World→List Value→Prop) (b:Nat) (cs:Array Value) (o:Nat) (TB:TypeId) (hs:Nat) (l0 l1 l2:Bool) (w:World):Prop :=
 (l1=false→OwnG w base T s v n xs)∧(l2=false→w.heap[b]?=some (.cells cs TB (0,0))) ∧
 (l2=true→l0=true∧l1=true∧∃ v',w.heap[b]?=some (.cells (cs.setIfInBounds o v') TB (0,0))∧AppV base T s v n' C hs w v')
section
variable {base:Nat} {T:TypeId} {s:Nat} {v:Value} {n:Nat} {xs:List Value} {n':Nat} {C:World→List Value→Prop} {b:Nat} {cs:Array Value} {o:Nat} {TB:TypeId} {hs:Nat} {l0 l1 l2:Bool} {w w':World}
theorem AppJ.kept (hC:Qe C)(k:Kept w w')(h:AppJ base T s v n xs n' C b cs o TB hs l0 l1 l2 w):AppJ base T s v n xs n' C b cs o TB hs l0 l1 l2 w':=by
 obtain ⟨h1,h2,h3⟩:=h;refine ⟨fun e=>(h1 e).kept k,fun e=>by have hc:=h2 e;rw [k.block b (Array.getElem?_eq_some_iff.1 hc).1,hc],fun e=>?_⟩;obtain ⟨e0,e1,v',hb,hv⟩:=h3 e;exact ⟨e0,e1,v',by rw [k.block b (Array.getElem?_eq_some_iff.1 hb).1,hb],hv.kept hC k⟩
theorem AppJ.first (hl:l2=false)(h1:OwnG w base T s v n xs)(h2:w.heap[b]?=some (.cells cs TB (0,0))):AppJ base T s v n xs n' C b cs o TB hs l0 l1 l2 w:=⟨fun _=>h1,fun _=>h2,fun e=>by rw [hl] at e;cases e⟩
theorem AppJ.own (h:AppJ base T s v n xs n' C b cs o TB hs l0 l1 l2 w)(hl:l1=false):OwnG w base T s v n xs:=h.1 hl
theorem AppJ.box (h:AppJ base T s v n xs n' C b cs o TB hs l0 l1 l2 w)(hl:l0=false):w.heap[b]?=some (.cells cs TB (0,0)):=by
 refine h.2.1 ?_;cases l2
 ·rfl
 ·have:=(h.2.2 rfl).1;rw [hl] at this;cases this
theorem AppJ.did (h:AppJ base T s v n xs n' C b cs o TB hs l0 l1 l2 w)(hl:l1=false)(hg:w.grownBy w' v.ownBlock)(hb:b∉Ajo v):AppJ base T s v n xs n' C b cs o TB hs l0 true l2 w':=by
 obtain ⟨h1,h2,h3⟩:=h;refine ⟨fun e=>(by cases e),fun e=>?_,fun e=>?_⟩
 ·have hc:=h2 e;rw [hg.block b (Array.getElem?_eq_some_iff.1 hc).1 (fun e=>hb (Ad0.2 e.symm)),hc]
 ·have:=(h3 e).2.1;rw [hl] at this;cases this
theorem AppJ.laid {v' x:Value}(hC:Qe C)(h:AppJ base T s v n xs n' C b cs o TB hs l0 l1 l2 w)(h0:l0=true)(h1:l1=true)(hl:l2=false)(ha:AppV base T s v n' C hs w v')(hb:b<base)(ho:cs[o]?=some x)(hx:Bf x) :
 AppJ base T s v n xs n' C b cs o TB hs l0 l1 true (w.setCell ⟨b,o,none⟩ v')∧KB w [b] (w.setCell ⟨b,o,none⟩ v'):=by
 have hcell:=Ae (h.2.1 hl) o x ho;have hk:KB w [b] (w.setCell ⟨b,o,none⟩ v'):=(KB.refl w _).setCell (by simp) hcell hx v';exact ⟨⟨fun e=>(by rw [h1] at e;cases e),fun e=>(by cases e),fun _=>⟨h0,h1,v',Az (h.2.1 hl) _,ha.low hC hk hb⟩⟩,hk⟩
theorem AppJ.done (h:AppJ base T s v n xs n' C b cs o TB hs l0 l1 l2 w)(hl:l2=true):∃ v',w.heap[b]?=some (.cells (cs.setIfInBounds o v') TB (0,0))∧AppV base T s v n' C hs w v':=(h.2.2 hl).2.2
end
section
variable {P:Program} {ops:Array Oper} {Q:Exit→Act→World→Prop} {md:Region.Mode}
theorem Uw {id m:Nat}{J:(Nat→Bool)→(Nat→Value)→World→Prop}{a0:Act}{W:World}{o o':Oper}(hm:P.follows .mixedOrders=true)
 (hsz:m+2=ops.size) (ho:ops[m]?=some o) (hg:o.guard=none) (ho':ops[m+1]?=some o') (hg':o'.guard=none)
 (hap:Br ops m=true) (hin:Cr ops m a0.tmps.size=true) (htl:Ib .any ops m=true) (hbk:Di .any ops=true) (hwf:Bg .any ops (m+1) m=true)
 (hJ:J (fun _=>false) (fun _=>undef) W.drew)
 (hstep:∀ i o,i<m→ops[i]?=some o→∀ L u a w,Lg .any ops m J a0 L u i a w→K5 P ops Q J L u i o a w)
 (hend:∀ u w L,(∀ i,i<m→L i=true)→J L u w→o.wp P (Ay ops (fun _=>true) u m a0) w (fun a w=>o'.wp P a w (Q .normal) Q) Q) :
 (Code.region id ops true).wp P Q a0 W :=
 Ob hm hsz ho hg ho' hg' hap hin htl hbk hJ hstep fun u w L hL hk=>⟨hend u w L hL hk,.inl hwf⟩
theorem Ux {id m:Nat}{o1 o2:Oper}{E:Nat→Bool}{G:(Nat→Bool)→(Nat→Value)→World→Prop}{J:(Nat→Bool)→World→Prop}{l:List (Value→World→Prop)}{a0:Act}{W:World}(hm:P.follows .mixedOrders=true)
 (hG:∀ i,E i=false→∀ L u v w w',Kept w w'→G L u w→G (upd L i true) (upd u i v) w') (hG0:G (fun _=>false) (fun _=>undef) W.drew)
 (hsz:m+2=ops.size) (ho1:ops[m]?=some o1) (hg1:o1.guard=none) (ho2:ops[m+1]?=some o2) (hg2:o2.guard=none) (htl:Ib .any ops m=true) (hwf:Bg .any ops (m+1) m=true) (hap:Br ops m=true) (hin:Cr ops m a0.tmps.size=true) (hbk:Di .any ops=true) (hM:Im l)
 (hJ:J (fun _=>false) W.drew) (hstep:Tv P .any ops Q m J (VL l) E G a0 0 m ops.toList)
 (hend:∀ u w L,(∀ i,i<m→L i=true)→J L w→(∀ i,i<m→VL l i (u i) w)→G L u w→o1.wp P (Ay ops (fun _=>true) u m a0) w (fun a w=>o2.wp P a w (Q .normal) Q) Q) :
 (Code.region id ops true).wp P Q a0 W:=by
 refine Uw (m:=m) (J:=fun L u w=>J L w∧(∀ j,j<m→L j=true→VL l j (u j) w)∧G L u w) hm hsz ho1 hg1 ho2 hg2 hap hin htl hbk hwf ⟨hJ,fun j _ h=>by (cases h),hG0⟩ (fun i o hi ho L u a w F=>?_) (fun u w L hL hk=>hend u w L hL hk.1 (fun i hi=>hk.2.1 i hi (hL i hi)) hk.2.2);obtain ⟨f1,f2,f3⟩:=F.frame;have GG:FindsG .any ops m J (VL l) a0 L i a w:=⟨f1,F.yet,F.wait,F.defers,fun j t h1 h2=>by rw [F.done j t h1 h2];exact f2 j (F.lt j (F.wait j h1)) (F.wait j h1),F.old⟩;have h:=Pc (He l hM) hG m 0 ops.toList hstep i o hi (by simpa using ho) L u a w (by simpa using GG) ⟨by simpa using F.done,f2,f3⟩
 rw [Nat.zero_add] at h;unfold J9 at h;unfold K5;have up:∀ (v:Value) (w':World),(∀ j,j≠i→∀ u,VL l j u w→VL l j u w')→VL l i v w'→∀ j,j<m→upd L i true j=true→VL l j (upd u i v j) w':=by
  intro v w' hs hv j hj hL;by_cases e:j=i
  ·subst e;simpa [upd] using hv
  ·have:L j=true:=by simpa [upd,e] using hL
   have:=hs j e _ (f2 j hj this);simpa [upd,e] using this
 by_cases hw:Region.wanted o (yielded ops a.tmps)=true
 ·rw [if_pos hw] at h ⊢;refine Oper.wp_mono (fun a' w' q=>?_) h;obtain ⟨v,rfl,⟨k1,k2⟩,hv,hg⟩:=q;exact ⟨v,rfl,k1,up v w' k2 hv,hg⟩
 ·rw [if_neg hw] at h ⊢;obtain ⟨k1,k2,hg⟩:=h;exact ⟨k1,up undef w (fun j _ u h=>h) k2,hg⟩
end
end Go.Proofs.YtabjjdicffcolaaGreatDoor
