/- Words and contracts, part 18. -/
import Derived.Test.YtabjjdicffcolaaGreatDoorClaimSholdp17
import Derived.Maps.OwnSet
set_option maxRecDepth 100000
set_option maxHeartbeats 0
namespace Go.Proofs.YtabjjdicffcolaaGreatDoor
open Go.RowKit
variable {cs cur:Array Value} {ov:Iv→Nat→Outc Iv} {X Y:List Nat} {l out:List RawI} {xs:List Value} {b base g' i:Nat} {row:Option Nat} {a:RawI} {T:TypeId} {x x' y y' z':Value} {W c w w':World}
structure Ln where
 op:Int
 a:Int
 b:Int
 k:RawI
structure En where
 t:RawI
 x:List RawI
 u:List RawI
 p:List RawI
def Fj (op:Int):Int :=
 if op=1∨op=2∨op=3∨op=4∨op=5 then 0 else if op=6∨op=7∨op=8∨op=9 then 2 else if op=10∨op=11∨op=12∨op=13 then 1 else -1
def Bw (n most:Int):Bool:=decide (0≤n)&&decide (n<most)
def U9 (a b:RawI):Bool:=K0 a.lo b.lo&&K0 a.hi b.hi
def Gj (l:Ln) (at':Int) (x u p:Int):Bool :=
 if l.op=1 then Fh l.k&&(decide (l.a=0)&&decide (l.b=0)) else
 if U9 l.k rzI=false then false else
 if l.op=2 then decide (l.a=0)&&decide (l.b=0) else
 if l.op=3 then Bw l.a x&&decide (l.b=0) else
 if l.op=4 then Bw l.a u&&decide (l.b=0) else
 if l.op=5 then Bw l.a p&&decide (l.b=0) else
 if l.op=6∨l.op=7∨l.op=8∨l.op=9 then Bw l.a at'&&Bw l.b at' else
 if l.op=10∨l.op=11∨l.op=12∨l.op=13 then Bw l.a at'&&decide (l.b=0) else false
def Pj (x u p:Int):Nat→List Ln→Bool
 | _,[]=>true
 | i,l::ls=>Gj l i x u p&&Pj x u p (i+1) ls
def Jt (ls:List Ln) (outs:List Int) (x u p:Int):Bool :=
 decide (ls.length≤200)&&decide (outs.length≤200)&&Pj x u p 0 ls&&outs.all fun n=>Bw n ls.length
def Mr (e:En):Bool:=Fh e.t&&e.x.all Fh&&e.u.all Fh&&e.p.all Fh
def Ek (a:Iv) (p:Nat):Outc Iv:=Gg (Dh a.lo p false) (Dh a.hi p true)
def Hj (ov:Iv→Nat→Outc Iv) (op:Int) (a b:Iv) (p:Nat):Outc Iv :=
 if op=6 then Ge a b p else if op=7 then J1 a b p else if op=8 then Fi a b p else if op=9 then Fu a b p else
 if op=10 then Kk a p else if op=11 then I9 a p else if op=12 then Fc a p else ov a p
def atI (l:List RawI) (n:Int):Iv:=(l.getD n.toNat rzI).iv
def Ch (ov:Iv→Nat→Outc Iv) (e:En) (p:Nat) (out:List RawI) (l:Ln):Outc Iv :=
 if l.op=1 then Ek l.k.iv p else if l.op=2 then Ek e.t.iv p else if l.op=3 then Ek (atI e.x l.a) p else
 if l.op=4 then Ek (atI e.u l.a) p else if l.op=5 then Ek (atI e.p l.a) p else Hj ov l.op (atI out l.a) (atI out l.b) p
def Ca (ov:Iv→Nat→Outc Iv) (e:En) (p:Nat):List RawI→List Ln→Outc (List RawI)
 | out,[]=>⟨out,0⟩
 | out,l::ls=>if (Ch ov e p out l).k=0 then Ca ov e p (out++[(Ch ov e p out l).v.raw]) ls else ⟨[],(Ch ov e p out l).k⟩
def Cm (ov:Iv→Nat→Outc Iv) (ls:List Ln) (outs:List Int) (e:En) (p:Int):Outc (List RawI) :=
 if 1≤p∧p≤300∧Jt ls outs e.x.length e.u.length e.p.length=true∧Mr e=true then Ca ov e p.toNat [] ls else ⟨[],1⟩
theorem Ff {a:Iv}(ha:a.Ok){p:Nat}(hp:1≤p):OkI (Ek a p):=by
 unfold Ek;refine Kp (Hf _ _ _) (Hf _ _ _) fun k1 k2=>?_
 have d1:=(Fd hp k1).le;have d2:=(Ig hp k2).le;have:=ha.le;grind
def Cl (l:List RawI):Prop:=∀ a∈l,a.iv.Ok∧a.iv.raw=a
theorem Vt {a:Iv}(h:a.Ok):a.raw.iv.Ok∧a.raw.iv.raw=a.raw:=by rw [Iv.raw_iv];exact ⟨h,rfl⟩
theorem Cl.snoc {a:Iv}(h:Cl l)(ha:a.Ok):Cl (l++[a.raw]):=by
 intro x hx;rcases List.mem_append.1 hx with hx | hx
 ·exact h x hx
 ·simp at hx;subst hx;exact Vt ha
theorem Al8:rzI.iv=iz:=rfl
theorem Cl.at (h:Cl l)(n:Int):(atI l n).Ok:=by
 unfold atI;rw [List.getD_eq_getElem?_getD];cases hi:l[n.toNat]? with
 | none=>simp only [Option.getD_none];rw [Al8];exact Sm
 | some a=>simp only [Option.getD_some];exact (h a (List.mem_of_getElem? hi)).1
structure En.Cl (e:En):Prop where
 t:e.t.iv.Ok∧e.t.iv.raw=e.t
 x:Go.Proofs.YtabjjdicffcolaaGreatDoor.Cl e.x
 u:Go.Proofs.YtabjjdicffcolaaGreatDoor.Cl e.u
 p:Go.Proofs.YtabjjdicffcolaaGreatDoor.Cl e.p
theorem Acj {op:Int}{a b:Iv}(ha:a.Ok)(hb:b.Ok){p:Nat}(hp:1≤p)(hov:¬(6≤op∧op≤12)→OkI (ov a p)):OkI (Hj ov op a b p):=by
 unfold Hj;split
 ·exact Vp ha hb hp
 split
 ·exact Acy ha hb hp
 split
 ·exact Ace hp
 split
 ·exact Abw hb hp
 split
 ·exact Ach ha hp
 split
 ·exact Aj1 hp
 split
 ·exact Ahc ha hp
 ·exact hov (by omega)
theorem Ya {e:En}{p:Nat}{l:Ln}(he:e.Cl)(ho:Go.Proofs.YtabjjdicffcolaaGreatDoor.Cl out)(hk:l.op=1→l.k.iv.Ok)(hp:1≤p)
 (hov:¬(1≤l.op∧l.op≤12)→∀ a,a.Ok→OkI (ov a p)):OkI (Ch ov e p out l):=by
 unfold Ch;split
 ·rename_i h;exact Ff (hk h) hp
 split
 ·exact Ff he.t.1 hp
 split
 ·exact Ff (he.x.at _) hp
 split
 ·exact Ff (he.u.at _) hp
 split
 ·exact Ff (he.p.at _) hp
 ·exact Acj (ho.at _) (ho.at _) hp (fun h=>hov (by omega) _ (ho.at _))
def LnAt (w:World) (b o:Nat) (l:Ln):Prop:=w.cell? ⟨b,o,none⟩=some (.int .i64 l.op)∧w.cell? ⟨b,o+1,none⟩=some (.int .i64 l.a)∧w.cell? ⟨b,o+2,none⟩=some (.int .i64 l.b)∧IvAt w b (o+3) l.k
def LnS (w:World) (v:Value) (ls:List Ln):Prop:=∃ A c,v=.slice A ls.length c∧ls.length≤c∧(0<ls.length→∃ b off,A=some ⟨b,off,none⟩∧∀ i l,ls[i]?=some l→LnAt w b (off+i*9) l)
def InS (w:World) (v:Value) (ns:List Int):Prop:=∃ A c,v=.slice A ns.length c∧ns.length≤c∧(0<ns.length→∃ b off,A=some ⟨b,off,none⟩∧∀ i n,ns[i]?=some n→w.cell? ⟨b,off+i,none⟩=some (.int .i64 n))
theorem LnAt.kept {o:Nat}{l:Ln}(h:LnAt w b o l)(k:Kept w w'):LnAt w' b o l:=by
 obtain ⟨h0,h1,h2,h3⟩:=h;have hb:=Am h0;exact ⟨(k.cell (p:=⟨b,o,none⟩) hb).trans h0,(k.cell (p:=⟨b,o+1,none⟩) hb).trans h1,(k.cell (p:=⟨b,o+2,none⟩) hb).trans h2,h3.kept k⟩
theorem LnS.kept {v:Value}{l:List Ln}(h:LnS w v l)(k:Kept w w'):LnS w' v l:=by
 obtain ⟨A,c,rfl,hc,hA⟩:=h;refine ⟨A,c,rfl,hc,fun h0=>?_⟩;obtain ⟨b,off,rfl,hd⟩:=hA h0;exact ⟨b,off,rfl,fun i d hi=>(hd i d hi).kept k⟩
theorem InS.kept {v:Value}{l:List Int}(h:InS w v l)(k:Kept w w'):InS w' v l:=by
 obtain ⟨A,c,rfl,hc,hA⟩:=h;refine ⟨A,c,rfl,hc,fun h0=>?_⟩;obtain ⟨b,off,rfl,hd⟩:=hA h0;exact ⟨b,off,rfl,fun i d hi=>(k.cell (p:=⟨b,off+i,none⟩) (Am (hd i d hi))).trans (hd i d hi)⟩
def TpR (w:World) (v:Value) (ls:List Ln) (outs:List Int):Prop:=∃ s o,v=.agg #[s,o]∧LnS w s ls∧InS w o outs
def EnR (w:World) (v:Value) (e:En):Prop:=∃ x y z x' y' z' sx su sp,v=.agg #[x,y,z,x',y',z',sx,su,sp]∧IvR w (.agg #[x,y,z,x',y',z']) e.t∧IvS w sx e.x∧IvS w su e.u∧IvS w sp e.p
theorem TpR.kept {v:Value}{ls:List Ln}{outs:List Int}(h:TpR w v ls outs)(k:Kept w w'):TpR w' v ls outs:=by
 obtain ⟨s,o,rfl,h1,h2⟩:=h;exact ⟨s,o,rfl,h1.kept k,h2.kept k⟩
theorem EnR.kept {v:Value}{e:En}(h:EnR w v e)(k:Kept w w'):EnR w' v e:=by
 obtain ⟨x,y,z,x',y',z',sx,su,sp,rfl,h1,h2,h3,h4⟩:=h;exact ⟨x,y,z,x',y',z',sx,su,sp,rfl,h1.kept k,h2.kept k,h3.kept k,h4.kept k⟩
theorem IvR.cells {z:Value}(h:IvR w (.agg #[x,y,z,x',y',z']) a):∀ u∈[x,y,z,x',y',z'],Be u∧u.oneCell'=true:=by
 obtain ⟨A,l,c,A',l',c',e,-,-⟩:=Aq h;injection e with e;injection e with e
 simp only [List.cons.injEq,and_true] at e;obtain ⟨rfl,rfl,rfl,rfl,rfl,rfl⟩:=e;intro u hu;simp at hu;rcases hu with rfl | rfl | rfl | rfl | rfl | rfl
 ·exact ⟨Ah _,rfl⟩
 ·exact ⟨Ag _ _ _,rfl⟩
 ·exact ⟨Af _,rfl⟩
 ·exact ⟨Ah _,rfl⟩
 ·exact ⟨Ag _ _ _,rfl⟩
 ·exact ⟨Af _,rfl⟩
theorem IvR.grown {v:Value}(h:IvR w v a)(hg:w.grownBy w' row)(hN:∀ g,row=some g→NoL w g):IvR w' v a:=by
 obtain ⟨x,y,z,x',y',z',rfl,h1,h2⟩:=h;exact ⟨x,y,z,x',y',z',rfl,h1.grown hg hN,h2.grown hg hN⟩
structure OwnI (w:World) (base:Nat) (v:Value) (l:List RawI) (xs:List Value):Prop where
 row:w.ownsRow base 30 6 v l.length xs
 nl:∀ u∈xs,Be u
 one:∀ u∈xs,u.oneCell'=true
 blk:∀ g,v.ownBlock=some g→NoL w g
 ivs:∀ i a,l[i]?=some a→∃ x y z x' y' z',xs[i*6]?=some x∧xs[i*6+1]?=some y∧xs[i*6+2]?=some z∧xs[i*6+3]?=some x'∧xs[i*6+4]?=some y'∧xs[i*6+5]?=some z'∧IvR w (.agg #[x,y,z,x',y',z']) a
theorem OwnI.nil (w:World)(base:Nat):OwnI w base (.slice none 0 0) [] [] :=
 ⟨World.ownsRow_nil _ _ _ _,by simp,by simp,(by intro g h;simp [Value.ownBlock] at h),by simp⟩
theorem OwnI.kept {v:Value}(h:OwnI w base v l xs)(k:Kept w w'):OwnI w' base v l xs:=by
 obtain ⟨h1,h2,h2',h3,h4⟩:=h;refine ⟨⟨h1.1,?_⟩,h2,h2',?_,?_⟩
 ·rcases h1.2 with hn | ⟨g,cap,cur,rfl,hb,hg,rest⟩
  ·exact .inl hn
  ·exact .inr ⟨g,cap,cur,rfl,hb,(k.block g (Array.getElem?_eq_some_iff.1 hg).1).trans hg,rest⟩
 ·intro g hg;have:=h3 g hg;obtain ⟨cur,e,q1,q2⟩:=this;exact ⟨cur,e,(k.block g (Array.getElem?_eq_some_iff.1 q1).1).trans q1,q2⟩
 ·intro i d hi;obtain ⟨x,y,z,x',y',z',a0,a1,a2,a3,a4,a5,hd⟩:=h4 i d hi;exact ⟨x,y,z,x',y',z',a0,a1,a2,a3,a4,a5,hd.kept k⟩
theorem OwnI.ivS {v:Value}(h:OwnI w base v l xs):IvS w v l:=by
 obtain ⟨h1,h2,h2',h3,h4⟩:=h;have hc:=h1.2;rcases hc with ⟨rfl,h0⟩ | ⟨g,cap,cur,rfl,hb,hg,hn,-⟩
 ·obtain rfl:l=[]:=List.eq_nil_of_length_eq_zero h0;exact ⟨none,0,rfl,Nat.le_refl _,fun h=>absurd h (by simp)⟩
 ·refine ⟨_,cap,rfl,hn,fun _=>⟨g,0,rfl,fun i d hi=>?_⟩⟩;obtain ⟨x,y,z,x',y',z',a0,a1,a2,a3,a4,a5,hd⟩:=h4 i d hi;have cl:=h1.cells (g:=g) rfl;have ad:∀ j,(⟨g,0,none⟩:Addr).add j=⟨g,j,none⟩:=by intro j;unfold Addr.add;split<;>simp_all
  refine ⟨x,y,z,x',y',z',?_,?_,?_,?_,?_,?_,hd⟩
  ·have:=cl _ _ a0;rw [ad] at this;simpa using this
  ·have:=cl _ _ a1;rw [ad] at this;simpa using this
  ·have:=cl _ _ a2;rw [ad] at this;simpa using this
  ·have:=cl _ _ a3;rw [ad] at this;simpa using this
  ·have:=cl _ _ a4;rw [ad] at this;simpa using this
  ·have:=cl _ _ a5;rw [ad] at this;simpa using this
theorem OwnI.snoc {v v':Value}{z:Value}(h:OwnI w base v l xs)
 (hd:IvR w (.agg #[x,y,z,x',y',z']) a)
 (hr:w'.ownsRow base 30 6 v' (l.length+1) (xs++[x,y,z,x',y',z'])) (hg:w.grownBy w' v.ownBlock) (hv':v'.ownBlock=some g') (hN:NoL w' g') :
 OwnI w' base v' (l++[a]) (xs++[x,y,z,x',y',z']):=by
 have hcl:=hd.cells;obtain ⟨h1,h2,h2',h3,h4⟩:=h;refine ⟨by simpa using hr,?_,?_,?_,?_⟩
 ·intro u hu;rcases List.mem_append.1 hu with hu | hu
  ·exact h2 u hu
  ·exact (hcl u hu).1
 ·intro u hu;rcases List.mem_append.1 hu with hu | hu
  ·exact h2' u hu
  ·exact (hcl u hu).2
 ·intro g hg;rw [hv'] at hg;cases hg;exact hN
 ·intro i e hi;have hxl:=h1.1;by_cases hlt:i<l.length
  ·rw [List.getElem?_append_left hlt] at hi;obtain ⟨x,y,z,x',y',z',a0,a1,a2,a3,a4,a5,hd'⟩:=h4 i e hi;have hh:=(List.getElem?_eq_some_iff.1 a5).1;refine ⟨x,y,z,x',y',z',?_,?_,?_,?_,?_,?_,hd'.grown hg h3⟩
   ·rw [List.getElem?_append_left (by omega)];exact a0
   ·rw [List.getElem?_append_left (by omega)];exact a1
   ·rw [List.getElem?_append_left (by omega)];exact a2
   ·rw [List.getElem?_append_left (by omega)];exact a3
   ·rw [List.getElem?_append_left (by omega)];exact a4
   ·rw [List.getElem?_append_left (by omega)];exact a5
  ·rw [List.getElem?_append_right (by omega)] at hi;obtain ⟨hz,he⟩:=List.getElem?_eq_some_iff.1 hi;simp at hz;have hi':i=l.length:=by omega
   subst hi';simp at he;subst he;refine ⟨x,y,z,x',y',z',?_,?_,?_,?_,?_,?_,hd.grown hg h3⟩
   ·rw [List.getElem?_append_right (by omega),hxl,show l.length*6-l.length*6=0 by omega];rfl
   ·rw [List.getElem?_append_right (by omega),hxl,show l.length*6+1-l.length*6=1 by omega];rfl
   ·rw [List.getElem?_append_right (by omega),hxl,show l.length*6+2-l.length*6=2 by omega];rfl
   ·rw [List.getElem?_append_right (by omega),hxl,show l.length*6+3-l.length*6=3 by omega];rfl
   ·rw [List.getElem?_append_right (by omega),hxl,show l.length*6+4-l.length*6=4 by omega];rfl
   ·rw [List.getElem?_append_right (by omega),hxl,show l.length*6+5-l.length*6=5 by omega];rfl
theorem X6:(Tryz.prog.info? 30).map (fun i=>(i.zero,i.size,i.bytes))=some (some (.agg #[.bool false,.slice none 0 0,.int .i64 0,.bool false,.slice none 0 0,.int .i64 0]),6,80):=by kernel_rfl
theorem Nv:∀ u∈(Value.agg #[.bool false,.slice none 0 0,.int .i64 0,.bool false,.slice none 0 0,.int .i64 0]).cells.toList,Be u:=by
 intro u hu;simp [Value.cells] at hu;rcases hu with rfl | rfl | rfl | rfl | rfl | rfl
 ·exact Ah _
 ·exact Ag _ _ _
 ·exact Af _
 ·exact Ah _
 ·exact Ag _ _ _
 ·exact Af _
structure KB (W:World) (X:List Nat) (w:World):Prop where
 os:w.os=W.os
 tape:w.tape=W.tape
 output:w.output=W.output
 size:W.heap.size≤w.heap.size
 block:∀ b,b<W.heap.size→b∉X→w.heap[b]?=W.heap[b]?
 limb:∀ b i x,W.cell? ⟨b,i,none⟩=some (.int .u64 x)→w.cell? ⟨b,i,none⟩=some (.int .u64 x)
theorem Rh {v:Value}{z:Nat × Nat}(h:w.heap[b]?=some (.cells cur T z))(hc:w.cell? ⟨b,i,none⟩=some v):cur[i]?=some v:=by
 simpa [World.cell?,h] using hc
theorem Kept.kb (k:Kept w w')(X:List Nat):KB w X w' :=
 ⟨k.os,k.tape,k.output,k.size,fun b hb _=>k.block b hb,fun b i _ h=>(k.cell (p:=⟨b,i,none⟩) (Am h)).trans h⟩
theorem KB.refl (w:World)(X:List Nat):KB w X w:=Kept.kb (Below.refl _ _) X
theorem KB.trans {a b:World}(h:KB a X b)(k:KB b Y c)(hY:∀ y∈Y,y∈X∨a.heap.size≤y):KB a X c :=
 ⟨k.os.trans h.os, k.tape.trans h.tape, k.output.trans h.output, Nat.le_trans h.size k.size, fun i hi hn => by
  rw [k.block i (Nat.lt_of_lt_of_le hi h.size) (fun hy=>by rcases hY i hy with q | q;exact hn q;omega),h.block i hi hn],fun b i x hp=>k.limb b i x (h.limb b i x hp)⟩
theorem KB.step {a b:World}(h:KB a X b)(k:Kept b c):KB a X c:=h.trans (k.kb []) (by simp)
theorem KB.drew {a b:World}(h:KB a X b):KB a X b.drew:=⟨h.os,h.tape,h.output,h.size,h.block,h.limb⟩
theorem KB.kept {W0:World}(h:Kept W0 W)(k:KB W X w)(hX:∀ x∈X,W0.heap.size≤x):Kept W0 w :=
 ⟨k.os.trans h.os, k.tape.trans h.tape, k.output.trans h.output, Nat.le_trans h.size k.size, fun i hi => by
  rw [k.block i (Nat.lt_of_lt_of_le hi h.size) (fun hx=>by have:=hX i hx;omega),h.block i hi]⟩
theorem KB.nil (k:KB W [] w):Kept W w:=KB.kept (Below.refl _ _) k (by simp)
theorem KB.setCell (h:KB W X w)(hb:b∈X)(hc:w.cell? ⟨b,i,none⟩=some x)(hx:Be x)(y:Value):KB W X (w.setCell ⟨b,i,none⟩ y) :=
 ⟨h.os, h.tape, h.output, by simpa [World.setCell] using h.size, fun k hk hn => by rw [Below.heap_setCell _ _ _ _ (fun e => hn (by subst e; exact hb))]; exact h.block k hk hn, fun p j v hp => by
  have h1:=h.limb p j v hp;rw [World.cell?_setCell_other]
  ·exact h1
  ·intro e;injection e with e1 e2
   subst e1;subst e2;rw [h1] at hc;exact hx v (by injection hc with e;exact e.symm)⟩
theorem KB.grown (h:KB W X w)(hg:w.grownBy w' row)(hX:∀ g,row=some g→g∈X∨W.heap.size≤g)(hN:∀ g,row=some g→NoL w g):KB W X w':=by
 refine ⟨hg.os.trans h.os,hg.tape.trans h.tape,hg.output.trans h.output,Nat.le_trans h.size hg.size,fun b hb hn=>?_,fun p j x hp=>?_⟩
 ·rw [hg.block b (Nat.lt_of_lt_of_le hb h.size) (fun e=>by rcases hX b e.symm with q | q;exact hn q;omega)];exact h.block b hb hn
 ·have h1:=h.limb p j x hp;refine hg.cell h1 ?_;intro he;obtain ⟨cur,e,q1,q2⟩:=hN p he.symm;have h4:=Rh q1 h1;exact q2 _ (Array.mem_toList_iff.2 (Array.mem_of_getElem? h4)) _ rfl
theorem Lim.kb {v:Value}{xs:List Nat}(h:Lim W v xs)(k:KB W X w):Lim w v xs:=by
 obtain ⟨hs,A,c,rfl,hc,hA⟩:=h;refine ⟨hs,A,c,rfl,hc,fun h0=>?_⟩;obtain ⟨b,off,rfl,hb,hd⟩:=hA h0;exact ⟨b,off,rfl,Nat.lt_of_lt_of_le hb k.size,fun i hi=>k.limb _ _ _ (hd i hi)⟩
theorem DyR.kb {v:Value}{r:Raw}(h:DyR W v r)(k:KB W X w):DyR w v r:=by
 obtain ⟨s,rfl,hs,h1,h2⟩:=h;exact ⟨s,rfl,hs.kb k,h1,h2⟩
theorem IvR.kb {v:Value}(h:IvR W v a)(k:KB W X w):IvR w v a:=by
 obtain ⟨x,y,z,x',y',z',rfl,h1,h2⟩:=h;exact ⟨x,y,z,x',y',z',rfl,h1.kb k,h2.kb k⟩
theorem IvC.kb {v:Value}{a:Iv}(h:IvC W v a)(k:KB W X w):IvC w v a:=IvR.kb h k
theorem KB.cell (k:KB W X w){v:Value}(h:W.cell? ⟨b,i,none⟩=some v)(hn:b∉X):w.cell? ⟨b,i,none⟩=some v:=by
 have hb:=Am h;rw [World.cell?_of_block (k.block b hb hn)];exact h
theorem IvAt.kb {o:Nat}(h:IvAt W b o a)(k:KB W X w)(hn:b∉X):IvAt w b o a:=by
 obtain ⟨x,y,z,x',y',z',h0,h1,h2,h3,h4,h5,hd⟩:=h;exact ⟨x,y,z,x',y',z',k.cell h0 hn,k.cell h1 hn,k.cell h2 hn,k.cell h3 hn,k.cell h4 hn,k.cell h5 hn,hd.kb k⟩
def Zs (v:Value) (X:List Nat):Prop:=∀ g,v.ownBlock=some g→g∉X
theorem IvS.kb {v:Value}(h:IvS W v l)(k:KB W X w)(hn:Zs v X):IvS w v l:=by
 obtain ⟨A,c,rfl,hc,hA⟩:=h;refine ⟨A,c,rfl,hc,fun h0=>?_⟩;obtain ⟨b,off,rfl,hd⟩:=hA h0;exact ⟨b,off,rfl,fun i d hi=>(hd i d hi).kb k (hn b rfl)⟩
theorem LnS.kb {v:Value}{l:List Ln}(h:LnS W v l)(k:KB W X w)(hn:Zs v X):LnS w v l:=by
 obtain ⟨A,c,rfl,hc,hA⟩:=h;refine ⟨A,c,rfl,hc,fun h0=>?_⟩;obtain ⟨b,off,rfl,hd⟩:=hA h0;refine ⟨b,off,rfl,fun i d hi=>?_⟩;obtain ⟨a0,a1,a2,a3⟩:=hd i d hi;exact ⟨k.cell a0 (hn b rfl),k.cell a1 (hn b rfl),k.cell a2 (hn b rfl),a3.kb k (hn b rfl)⟩
theorem InS.kb {v:Value}{l:List Int}(h:InS W v l)(k:KB W X w)(hn:Zs v X):InS w v l:=by
 obtain ⟨A,c,rfl,hc,hA⟩:=h;refine ⟨A,c,rfl,hc,fun h0=>?_⟩;obtain ⟨b,off,rfl,hd⟩:=hA h0;exact ⟨b,off,rfl,fun i d hi=>k.cell (hd i d hi) (hn b rfl)⟩
theorem BlkI.kb {z:Value}(h:BlkI W b x y z x' y' z')(k:KB W X w)(hn:b∉X):BlkI w b x y z x' y' z' :=
 (k.block b (Array.getElem?_eq_some_iff.1 h).1 hn).trans h
theorem Blk.kb {z:Value}(h:Blk W b x y z)(k:KB W X w)(hn:b∉X):Blk w b x y z :=
 (k.block b (Array.getElem?_eq_some_iff.1 h).1 hn).trans h
theorem KB.blk (k:KB W X w){o:Obj}(h:W.heap[b]?=some o)(hn:b∉X):w.heap[b]?=some o :=
 (k.block b (Array.getElem?_eq_some_iff.1 h).1 hn).trans h
theorem Tab.kb (h:Tab W)(k:KB W X w)(hX:0∉X):Tab w:=fun j hj=>k.cell (h j hj) hX
theorem Tab.ne {v:Value}(h:Tab w)(hc:w.cell? ⟨b,0,none⟩=some v)(hv:∀ y,v≠.int .u8 y):0≠b:=by
 intro e;subst e;have h0:=h 0 (by decide);rw [hc] at h0;injection h0 with h0
 exact hv _ h0
theorem Tab.lt (h:Tab w):0<w.heap.size:=Am (h 0 (by decide))
theorem Ct (h:W.heap[b]?=some (.cells cs T (0,0)))(k:KB W X w)(hn:b∉X)(i:Nat)(v:Value)(hi:cs[i]?=some v):w.cell? ⟨b,i,none⟩=some v :=
 Ae ((k.block b (Array.getElem?_eq_some_iff.1 h).1 hn).trans h) i v hi
theorem c6X {x0 x1 x2 x3 x4 x5:Value}(h:W.heap[b]?=some (.cells #[x0,x1,x2,x3,x4,x5] T (0,0)))(k:KB W X w)(hn:b∉X) :
 w.cell? ⟨b,0,none⟩=some x0∧w.cell? ⟨b,1,none⟩=some x1∧w.cell? ⟨b,2,none⟩=some x2∧w.cell? ⟨b,3,none⟩=some x3∧w.cell? ⟨b,4,none⟩=some x4∧w.cell? ⟨b,5,none⟩=some x5 :=
 ⟨Ct h k hn 0 _ rfl,Ct h k hn 1 _ rfl,Ct h k hn 2 _ rfl,Ct h k hn 3 _ rfl,Ct h k hn 4 _ rfl,Ct h k hn 5 _ rfl⟩
theorem KB.ivW {n n':Bool}{A A':Option Addr}{l c l' c':Nat}{e e':Int}(h:KB W X w)(hb:BlkI w b (.bool n) (.slice A l c) (.int .i64 e) (.bool n') (.slice A' l' c') (.int .i64 e'))(hX:b∈X)(x y z x' y' z':Value) :
 KB W X (Go.Proofs.YtabjjdicffcolaaGreatDoor.ivW w b x y z x' y' z'):=by
 have k0:Below 0 w (Go.Proofs.YtabjjdicffcolaaGreatDoor.ivW w b x y z x' y' z') :=
  ((((((Below.refl 0 w).setCell (p:=⟨b,0,none⟩) (Nat.zero_le _) x).setCell (p:=⟨b,1,none⟩) (Nat.zero_le _) y).setCell (p:=⟨b,2,none⟩) (Nat.zero_le _) z).setCell (p:=⟨b,3,none⟩) (Nat.zero_le _) x').setCell (p:=⟨b,4,none⟩) (Nat.zero_le _) y').setCell (p:=⟨b,5,none⟩) (Nat.zero_le _) z'
 have ho:=fun k (hk:k≠b)=>Cd w b k x y z x' y' z' hk
 generalize Go.Proofs.YtabjjdicffcolaaGreatDoor.ivW w b x y z x' y' z'=w' at *;refine ⟨k0.os.trans h.os,k0.tape.trans h.tape,k0.output.trans h.output,Nat.le_trans h.size k0.size,fun k hk hn=>(ho k (fun e=>hn (by subst e;exact hX))).trans (h.block k hk hn),fun p j v hp=>?_⟩;have h1:=h.limb p j v hp;have hne:p≠b:=by
  rintro rfl;exact hb.noLimb _ _ (Rh hb h1) _ rfl
 rw [World.cell?_of_block (ho p hne)];exact h1
section
variable {P:Program} {ops:Array Oper} {Q:Exit→Act→World→Prop} {md:Region.Mode}
theorem Tp {J:(Nat→Bool)→World→Prop}{V:Nat→Value→World→Prop}{L:Nat→Bool}{i:Nat}{o:Oper}{a:Act}{w:World}
 (hV:∀ j u w w',Kept w w'→V j u w→V j u w') (hJ:∀ w',Kept w w'→J (upd L i true) w') (h:Bf P ops Q V i o a w):Nz P ops Q J V L i o a w:=by
 unfold Bf at h;unfold Nz;by_cases hw:Region.wanted o (yielded ops a.tmps)=true
 ·rw [if_pos hw] at h ⊢;refine Oper.wp_mono (fun a' w' q=>?_) h;obtain ⟨v,rfl,k,hv⟩:=q;exact ⟨v,rfl,⟨hJ w' k,fun j _ u hu=>hV j u _ _ k hu⟩,hv⟩
 ·rw [if_neg hw] at h ⊢;exact ⟨hJ w (Below.refl _ _),h⟩
theorem B8 {J:(Nat→Bool)→World→Prop}{V:Nat→Value→World→Prop}{L:Nat→Bool}{i:Nat}{o:Oper}{a:Act}{w w':World}(hw:Region.wanted o (yielded ops a.tmps)=true)
 (h:(execOp a.eval o).run P w=.ok .skip w') (hJ:J (upd L i true) w') (hV:∀ j,j≠i→∀ u,V j u w→V j u w') (hv:V i undef w'):Nz P ops Q J V L i o a w:=by
 unfold Nz;rw [if_pos hw];unfold Oper.wp;rw [h];exact ⟨undef,rfl,⟨hJ,hV⟩,hv⟩
theorem E8 {J:(Nat→Bool)→World→Prop}{V:Nat→Value→World→Prop}{L:Nat→Bool}{i:Nat}{o:Oper}{a:Act}{w:World}{f:FuncId}{args:Array Value}{R:Ending→World→Prop}(hw:Region.wanted o (yielded ops a.tmps)=true)
 (h:(execOp a.eval o).run P w=.ok (.enter f args) w) (hc:Calls P f args w R)
 (hr:∀ e w',R e w'→∃ v,e=.returned v∧(J (upd L i true) w'∧∀ j,j≠i→∀ u,V j u w→V j u w')∧V i v w'):Nz P ops Q J V L i o a w:=by
 unfold Nz;rw [if_pos hw];unfold Oper.wp;rw [h];refine Calls.mono hc (fun e w' he=>?_);obtain ⟨v,rfl,hk,hv⟩:=hr e w' he;exact ⟨v,rfl,hk,hv⟩
def Akg (P:Program) (ops:Array Oper) (Q:Exit→Act→World→Prop) (J:(Nat→Bool)→World→Prop) (V:Nat→Value→World→Prop) (L:Nat→Bool) (i:Nat) (o:Oper) (a:Act) (w:World):Prop :=
 ((∀ w',Kept w w'→J (upd L i true) w')∧Bf P ops Q V i o a w)∨Nz P ops Q J V L i o a w
def Vm (P:Program) (md:Region.Mode) (ops:Array Oper) (Q:Exit→Act→World→Prop) (m:Nat) (J:(Nat→Bool)→World→Prop) (V:Nat→Value→World→Prop) (a0:Act):Nat→Nat→List Oper→Prop
 | _,0,_=>True
 | _,_+1,[]=>True
 | i,k+1,o::l=>(∀ L a w,FindsG md ops m J V a0 L i a w→Akg P ops Q J V L i o a w)∧Vm P md ops Q m J V a0 (i+1) k l
theorem Vf {m:Nat}{J:(Nat→Bool)→World→Prop}{V:Nat→Value→World→Prop}{a0:Act}:∀ (k i0:Nat) (l:List Oper),Vm P md ops Q m J V a0 i0 k l →
 ∀ i o,i<k→l[i]?=some o→∀ L a w,FindsG md ops m J V a0 L (i0+i) a w→Akg P ops Q J V L (i0+i) o a w
 | 0,_,_,_,_,_,hi,_=>absurd hi (Nat.not_lt_zero _)
 | k+1,_,[],_,_,_,_,ho=>by simp at ho
 | k + 1, i0, x :: l, h, 0, o, _, ho => by
   simp at ho;subst ho;exact h.1
 | k + 1, i0, x :: l, h, i + 1, o, hi, ho => by
   have:=Vf k (i0+1) l h.2 i o (by omega) (by simpa using ho);have e:i0+1+i=i0+(i+1):=by omega
   rw [e] at this;exact this
theorem Yz {id m:Nat}{J:(Nat→Bool)→World→Prop}{l:List (Value→World→Prop)}{a0:Act}{W:World}(hm:P.follows .mixedOrders=true)
 (hsz:m=ops.size) (hap:Bs ops m=true) (hin:Cw ops m a0.tmps.size=true) (hbk:Dr .any ops=true) (hM:Jm l)
 (hJ:J (fun _=>false) W.drew) (hstep:Vm P .any ops Q m J (VL l) a0 0 m ops.toList)
 (hend:∀ u w L,(∀ i,i<m→L i=true)→J L w→(∀ i,i<m→VL l i (u i) w)→Q .normal (Ax ops (fun _=>true) u m a0) w) :
 (Code.region id ops true).wp P Q a0 W:=by
 refine Yy (J:=J) (V:=VL l) hm hsz hap hin hbk hJ (fun i o hi ho L a w F=>?_) hend;have h:=Vf m 0 ops.toList hstep i o hi (by simpa using ho) L a w (by simpa using F);rw [Nat.zero_add] at h;rcases h with ⟨h1,h2⟩ | h
 ·exact Tp (Io l hM) h1 h2
 ·exact h
def Nw (E:Nat→Bool) (i:Nat):Prop:=E i=false
def Vl (P:Program) (md:Region.Mode) (ops:Array Oper) (Q:Exit→Act→World→Prop) (m:Nat) (W:World) (X:List Nat) (E:Nat→Bool) (J:(Nat→Bool)→World→Prop) (V:Nat→Value→World→Prop) (a0:Act):Nat→Nat→List Oper→Prop
 | _,0,_=>True
 | _,_+1,[]=>True
 | i, k + 1, o :: l => ((Nw   E i ∧ ∀ L a w, FindsG md ops m (fun L w => KB W X w ∧ J L w) V a0 L i a w → Bf     P ops Q V i o a w) ∨ ∀ L a w, FindsG md ops m (fun L w => KB W X w ∧ J L w) V a0 L i a w → Nz    P ops Q (fun L w => KB W X w ∧ J L w) V L i o a w) ∧
   Vl P md ops Q m W X E J V a0 (i+1) k l
theorem Ve {m:Nat}{W:World}{X:List Nat}{E:Nat→Bool}{J:(Nat→Bool)→World→Prop}{V:Nat→Value→World→Prop}{a0:Act}(hK:∀ i,Nw E i→∀ L w w',Kept w w'→J L w→J (upd L i true) w'):∀ (k i:Nat) (l:List Oper),
 Vl P md ops Q m W X E J V a0 i k l→Vm P md ops Q m (fun L w=>KB W X w∧J L w) V a0 i k l
 | 0,_,_,_=>trivial
 | _+1,_,[],_=>trivial
 | k+1,i,_::l,h=>⟨fun L a w F=>h.1.elim (fun h=>.inl ⟨fun w' q=>⟨F.frame.1.step q,hK i h.1 L w w' q F.frame.2⟩,h.2 L a w F⟩) (fun h=>.inr (h L a w F)),Ve hK k (i+1) l h.2⟩
theorem kp {c A B:Prop}(h:A)(e:c:=by exact rfl):(c∧A)∨B:=.inl ⟨e,h⟩
theorem I5 {E:Nat→Bool}{L:Nat→Bool}{i:Nat}(h:Nw E i)(j:Nat)(hj:E j=true:=by exact rfl):upd L i true j=L j:=if_neg (by rintro rfl;exact absurd (h.symm.trans hj) (by decide))
theorem rK {id:Nat}{a0:Act}{W:World}(m:Nat)(E:Nat→Bool)(X:List Nat)(J:(Nat→Bool)→World→Prop)(l:List (Value→World→Prop))(hK:∀ i,Nw E i→∀ L w w',Kept w w'→J L w→J (upd L i true) w')(hJ:J (fun _=>false) W.drew)
 (hs:Vl P .any ops Q m W X E J (VL l) a0 0 m ops.toList) (he:∀ u w L,(∀ i,i<m→L i=true)→KB W X w∧J L w→(∀ i,i<m→VL l i (u i) w)→Q .normal (Ax ops (fun _=>true) u m a0) w) (hM:Nonempty (Jm l):=by infer_instance)
 (hm:P.follows .mixedOrders=true:=by kernel_rfl) (hz:m=ops.size:=by exact rfl) (ha:Bs ops m=true:=by kernel_rfl) (hi:Cw ops m a0.tmps.size=true:=by kernel_rfl) (hb:Dr .any ops=true:=by kernel_rfl):(Code.region id ops true).wp P Q a0 W :=
 Yz (J:=fun L w=>KB W X w∧J L w) hm hz ha hi hb (F5 hM) ⟨(KB.refl _ _).drew,hJ⟩ (Ve hK _ _ _ hs) he
def Aex (w w':World) (s:Nat):Nat→List (Value→World→Prop)→Prop
 | _,[]=>True
 | i,p::l=>(i=s∨∀ u,p u w→p u w')∧Aex w w' s (i+1) l
theorem Zg {w w':World}{s:Nat}:∀ (l:List (Value→World→Prop)) (i0:Nat),Aex w w' s i0 l→∀ j,i0+j≠s→∀ u,VL l j u w→VL l j u w'
 | [],_,_,_,_,_,_=>trivial
 | _::_,_,h,0,hj,u,hu=>(h.1.resolve_left (by simpa using hj)) u hu
 | _::l,i0,h,j+1,hj,u,hu=>Zg l (i0+1) h.2 j (by omega) u hu
theorem By {w w':World}{s:Nat}(l:List (Value→World→Prop))(h:Aex w w' s 0 l):∀ j,j≠s→∀ u,VL l j u w→VL l j u w' :=
 fun j hj u hu=>Zg l 0 h j (by omega) u hu
theorem vR {c:Prop}{x:Value}{w w':World}:c∨∀ u,vE x u w→vE x u w':=.inr fun _ h=>by
 unfold vE at h ⊢;exact h
theorem vS {x:Value}{w w':World}:∀ u,vE x u w→vE x u w':=fun _ h=>by
 unfold vE at h ⊢;exact h
variable {m i:Nat} {J:(Nat→Bool)→World→Prop} {l:List (Value→World→Prop)} {a0 a:Act} {w:World} {L:Nat→Bool}
theorem FindsG.v (F:FindsG md ops m J (VL l) a0 L i a w)(j t:Nat){x:Value}(h:l.getD j (fun _ _=>True)=vE x:=by exact rfl)(h1:Bi md ops i j=true:=by kernel_rfl)(h2:Al ops j=some t:=by exact rfl):a.tmps.getD t undef=x:=by
 have h3:=F.done j t h1 h2;unfold VL at h3;rw [h] at h3;exact h3
theorem FindsG.p (F:FindsG md ops m J (VL l) a0 L i a w)(j t:Nat){p:Value→World→Prop}(h:l.getD j (fun _ _=>True)=p:=by exact rfl)(h1:Bi md ops i j=true:=by kernel_rfl)(h2:Al ops j=some t:=by exact rfl):p (a.tmps.getD t undef) w:=by
 have h3:=F.done j t h1 h2;unfold VL at h3;rw [h] at h3;exact h3
theorem FindsG.q {V:Nat→Value→World→Prop}(F:FindsG md ops m J V a0 L i a w)(t:Nat)(x:Value)(h:Eu md ops m i t=true:=by kernel_rfl)(e:a0.tmps.getD t undef=x:=by exact rfl):a.tmps.getD t undef=x:=(F.old t h).trans e
theorem FindsG.o {V:Nat→Value→World→Prop}(F:FindsG md ops m J V a0 L i a w)(t:Nat)(h:Eu md ops m i t=true:=by kernel_rfl):a.tmps.getD t undef=a0.tmps.getD t undef:=F.old t h
section
variable {E:Nat→Bool} {X:List Nat} {W:World} {B:Prop} {V:Nat→Value→World→Prop} {o:Oper}
theorem kv (j t:Nat){x:Value}{y:Value}(h:l.getD j (fun _ _=>True)=vE x:=by exact rfl)(h1:Bi md ops i j=true:=by kernel_rfl)(h2:Al ops j=some t:=by exact rfl)(hy:l.getD i (fun _ _=>True)=vE y:=by exact rfl)(hg:o.guard=none:=by exact rfl)(he:Nw E i:=by exact rfl)(hx:∀ (a:Act) (w:World),a.tmps.getD t undef=x→(execOp a.eval o).run P w=.ok (.value y) w:=by intro aF wF s;go_simp):((Nw E i∧∀ L a w,FindsG md ops m (fun L w=>KB W X w∧J L w) (VL l) a0 L i a w→Bf P ops Q (VL l) i o a w)∨B):=.inl ⟨he,fun _ a w F=>Ar (by simp [Region.wanted,hg]) (hx a w (F.v j t h h1 h2)) (by unfold VL;rw [hy];rfl)⟩
theorem kq (t:Nat){x:Value}{y:Value}(h:Eu md ops m i t=true:=by kernel_rfl)(h1:a0.tmps.getD t undef=x:=by exact rfl)(hy:l.getD i (fun _ _=>True)=vE y:=by exact rfl)(hg:o.guard=none:=by exact rfl)(he:Nw E i:=by exact rfl)(hx:∀ (a:Act) (w:World),a.tmps.getD t undef=x→(execOp a.eval o).run P w=.ok (.value y) w:=by intro aF wF s;go_simp):((Nw E i∧∀ L a w,FindsG md ops m (fun L w=>KB W X w∧J L w) (VL l) a0 L i a w→Bf P ops Q (VL l) i o a w)∨B):=.inl ⟨he,fun _ a w F=>Ar (by simp [Region.wanted,hg]) (hx a w ((F.old t h).trans h1)) (by unfold VL;rw [hy];rfl)⟩
theorem km (j t:Nat){p:Value→World→Prop}(h:l.getD j (fun _ _=>True)=p:=by exact rfl)(hy:l.getD i (fun _ _=>True)=p:=by exact rfl)(h1:Bi md ops i j=true:=by kernel_rfl)(h2:Al ops j=some t:=by exact rfl)(hg:o.guard=none:=by exact rfl)(he:Nw E i:=by exact rfl)(hx:∀ (a:Act) (w:World),(execOp a.eval o).run P w=.ok (.value (a.tmps.getD t undef)) w:=by intro _ _;exact rfl):((Nw E i∧∀ L a w,FindsG md ops m (fun L w=>KB W X w∧J L w) (VL l) a0 L i a w→Bf P ops Q (VL l) i o a w)∨B):=.inl ⟨he,fun _ a w F=>Ar (by simp [Region.wanted,hg]) (hx a w) (by unfold VL;rw [hy];exact F.p j t h h1 h2)⟩
theorem kvv (j t j' t':Nat){x x':Value}{y:Value}(h:l.getD j (fun _ _=>True)=vE x:=by exact rfl)(h1:Bi md ops i j=true:=by kernel_rfl)(h2:Al ops j=some t:=by exact rfl)(h':l.getD j' (fun _ _=>True)=vE x':=by exact rfl)(h'1:Bi md ops i j'=true:=by kernel_rfl)(h'2:Al ops j'=some t':=by exact rfl)(hy:l.getD i (fun _ _=>True)=vE y:=by exact rfl)(hg:o.guard=none:=by exact rfl)(he:Nw E i:=by exact rfl)(hx:∀ (a:Act) (w:World),a.tmps.getD t undef=x→a.tmps.getD t' undef=x'→(execOp a.eval o).run P w=.ok (.value y) w:=by intro aF wF s s';go_simp):((Nw E i∧∀ L a w,FindsG md ops m (fun L w=>KB W X w∧J L w) (VL l) a0 L i a w→Bf P ops Q (VL l) i o a w)∨B):=.inl ⟨he,fun _ a w F=>Ar (by simp [Region.wanted,hg]) (hx a w (F.v j t h h1 h2) (F.v j' t' h' h'1 h'2)) (by unfold VL;rw [hy];rfl)⟩
theorem kvl (j t:Nat){x:Value}{p:World→Prop}{y:Value}(c:∀ w,KB W X w→p w)(h:l.getD j (fun _ _=>True)=vE x:=by exact rfl)(h1:Bi md ops i j=true:=by kernel_rfl)(h2:Al ops j=some t:=by exact rfl)(hy:l.getD i (fun _ _=>True)=vE y:=by exact rfl)(hg:o.guard=none:=by exact rfl)(he:Nw E i:=by exact rfl)(hx:∀ (a:Act) (w:World),a.tmps.getD t undef=x→p w→(execOp a.eval o).run P w=.ok (.value y) w:=by intro aF wF s c;go_simp):((Nw E i∧∀ L a w,FindsG md ops m (fun L w=>KB W X w∧J L w) (VL l) a0 L i a w→Bf P ops Q (VL l) i o a w)∨B):=.inl ⟨he,fun _ a w F=>Ar (by simp [Region.wanted,hg]) (hx a w (F.v j t h h1 h2) (c w F.frame.1)) (by unfold VL;rw [hy];rfl)⟩
theorem kql (t:Nat){x:Value}{p:World→Prop}{y:Value}(c:∀ w,KB W X w→p w)(h:Eu md ops m i t=true:=by kernel_rfl)(h1:a0.tmps.getD t undef=x:=by exact rfl)(hy:l.getD i (fun _ _=>True)=vE y:=by exact rfl)(hg:o.guard=none:=by exact rfl)(he:Nw E i:=by exact rfl)(hx:∀ (a:Act) (w:World),a.tmps.getD t undef=x→p w→(execOp a.eval o).run P w=.ok (.value y) w:=by intro aF wF s c;go_simp):((Nw E i∧∀ L a w,FindsG md ops m (fun L w=>KB W X w∧J L w) (VL l) a0 L i a w→Bf P ops Q (VL l) i o a w)∨B):=.inl ⟨he,fun _ a w F=>Ar (by simp [Region.wanted,hg]) (hx a w ((F.old t h).trans h1) (c w F.frame.1)) (by unfold VL;rw [hy];rfl)⟩
end
end
end Go.Proofs.YtabjjdicffcolaaGreatDoor
namespace Go.Proofs.YtabjjdicffcolaaGreatDoor
open Go.RowKit Go.Maps
variable {p u x:Int} {v:Value} {w:World}
def Ai7 (x u p:Int):DataW Unit:=(((DataW.map []).put (.int .i64 3) (.lit (.int .i64 x))).put (.int .i64 4) (.lit (.int .i64 u))).put (.int .i64 5) (.lit (.int .i64 p))
def MapR (w:World) (v:Value) (x u p:Int):Prop:=∃ b n,v=.map (some b)∧w.ownsMap Tryz.prog 3 (plainElem Tryz.prog 3) b n (Ai7 x u p)
def Sr (op x u p:Int):Int:=if op=3 then x else if op=4 then u else if op=5 then p else 0
def isP (op:Int):Bool:=decide (op=3)||decide (op=4)||decide (op=5)
theorem MapR.kept {w':World}(h:MapR w v x u p)(k:Kept w w'):MapR w' v x u p:=by
 obtain ⟨b,n,rfl,h⟩:=h;exact ⟨b,n,rfl,h.kept (row:=none) ⟨k.os,k.tape,k.output,k.size,fun b hb _=>k.block b hb⟩ (by simp)⟩
theorem Ai8 (x u p op:Int):(Ai7 x u p).atKey (.int .i64 op) (.lit (.int .i64 0))=.lit (.int .i64 (Sr op x u p))∧Maps.has (Ai7 x u p) (.int .i64 op)=isP op:=by
 have e:Ai7 x u p=.map [(.int .i64 3,.lit (.int .i64 x)),(.int .i64 4,.lit (.int .i64 u)),(.int .i64 5,.lit (.int .i64 p))]:=by rfl
 rw [e];unfold Sr isP;by_cases h3:op=3
 ·subst h3;exact ⟨rfl,rfl⟩
 ·by_cases h4:op=4
  ·subst h4;exact ⟨rfl,rfl⟩
  ·by_cases h5:op=5
   ·subst h5;exact ⟨rfl,rfl⟩
   ·have g3:¬(3:Int)=op:=fun h=>h3 h.symm
    have g4:¬(4:Int)=op:=fun h=>h4 h.symm
    have g5:¬(5:Int)=op:=fun h=>h5 h.symm
    constructor
    ·rw [if_neg h3,if_neg h4,if_neg h5];simp [DataW.atKey,Lit.sameKey,g3,g4,g5]
    ·simp [Maps.has,Lit.sameKey,g3,g4,g5,h3,h4,h5]
theorem MapR.look {op:Int}(h:MapR w v x u p)(h1:-9223372036854775808≤op)(h2:op≤9223372036854775807) :
 (Instr.lookup 108 v (.int .i64 op) true).run Tryz.prog w=.ok (.tuple #[.int .i64 (Sr op x u p),.bool (isP op)]) w:=by
 obtain ⟨b,n,rfl,hown⟩:=h;have hz:(zeroValue 3).run Tryz.prog w=.ok (.int .i64 0) w:=by kernel_rfl
 have hw0:(Lit.int .i64 0).wf=true:=by decide
 have hop:(Lit.int .i64 op).wf=true:=WalkArith.wf_i64 ⟨h1,h2⟩;obtain ⟨v,ps,hrun,hv⟩:=hown.look_ok (int_keyed Tryz.underlying3) Tryz.underlying108 hz (plainElem_int Tryz.underlying3 hw0) (keyOf_int_mk Tryz.underlying3 hop);obtain ⟨c,rfl,hc,-⟩:=plainElem_int_inv Tryz.underlying3 hv;obtain ⟨a1,a2⟩:=Ai8 x u p op;simp only [Prod.mk.injEq] at hc;rw [a1] at hc;have e:c=Sr op x u p:=by
  have h:=hc.1;simp only [DataW.lit.injEq,Lit.int.injEq,true_and] at h;exact h.symm
 rw [hrun,a2,e]
theorem Ado (w:World)(hx1:-9223372036854775808≤x)(hx2:x≤9223372036854775807)(hu1:-9223372036854775808≤u)(hu2:u≤9223372036854775807)(hp1:-9223372036854775808≤p)(hp2:p≤9223372036854775807) :
 ∃ w1 w2 w3, (Instr.mapUpdate 108 (.map (some w.heap.size)) (.int .i64 3) (.int .i64 x)).run Tryz.prog (w.alloc (.map #[] 0)) = .ok () w1 ∧
   (Instr.mapUpdate 108 (.map (some w.heap.size)) (.int .i64 4) (.int .i64 u)).run Tryz.prog w1=.ok () w2 ∧
   (Instr.mapUpdate 108 (.map (some w.heap.size)) (.int .i64 5) (.int .i64 p)).run Tryz.prog w2=.ok () w3 ∧
   MapR w3 (.map (some w.heap.size)) x u p∧Kept w w3:=by
 have K:Keyed Tryz.prog 3:=int_keyed Tryz.underlying3;have o0:=World.ownsMap_made (H:=Unit) w Tryz.prog 3 (plainElem Tryz.prog 3);obtain ⟨w1,r1,o1,g1⟩:=o0.update K Tryz.underlying108 (by unfold maxLen;decide) (keyOf_int_mk (a:=3) Tryz.underlying3 (by decide)) (plainElem_int Tryz.underlying3 (WalkArith.wf_i64 ⟨hx1,hx2⟩));obtain ⟨w2,r2,o2,g2⟩:=o1.update K Tryz.underlying108 (by unfold maxLen;decide) (keyOf_int_mk (a:=4) Tryz.underlying3 (by decide)) (plainElem_int Tryz.underlying3 (WalkArith.wf_i64 ⟨hu1,hu2⟩));obtain ⟨w3,r3,o3,g3⟩:=o2.update K Tryz.underlying108 (by unfold maxLen;decide) (keyOf_int_mk (a:=5) Tryz.underlying3 (by decide)) (plainElem_int Tryz.underlying3 (WalkArith.wf_i64 ⟨hp1,hp2⟩))
 refine ⟨w1,w2,w3,r1,r2,r3,⟨_,_,rfl,o3⟩,?_⟩;have k0:=Ad w (.map #[] 0);have st:∀ a b:World,Kept w a→a.grownBy b (some w.heap.size)→Kept w b:=fun a b k g =>
  ⟨g.os.trans k.os,g.tape.trans k.tape,g.output.trans k.output,Nat.le_trans k.size g.size,fun i hi=>(g.block i (Nat.lt_of_lt_of_le hi k.size) (by intro h;injection h with h;omega)).trans (k.block i hi)⟩
 exact st _ _ (st _ _ (st _ _ k0 g1) g2) g3
end Go.Proofs.YtabjjdicffcolaaGreatDoor
namespace Go.Proofs.YtabjjdicffcolaaGreatDoor
open Go.Lib (hid)
open Go.RowKit
variable {rest up:Bool} {d s t:Dy} {A A' B B' b c e op:Int} {a:Iv} {j m n p:Nat} {r x y:Rat} {v:Value} {w:World}
theorem Aim:dz.raw=rz:=by unfold Dy.raw dz rz;simp only [Au]
theorem Nj:iz.raw=rzI:=by unfold Iv.raw iz rzI;simp only [Aim]
theorem Alc (w:World)(x y z p q r:Value):∃ W,W=((w.alloc (.cells #[x,y,z] 28)).alloc (.cells #[p,q,r] 28)).alloc (.cells #[.bool false,.slice none 0 0,.int .i64 0,.bool false,.slice none 0 0,.int .i64 0] 30) ∧
 Kept w W∧Blk W w.heap.size x y z∧Blk W (w.heap.size+1) p q r∧BlkI W (w.heap.size+1+1) (.bool false) (.slice none 0 0) (.int .i64 0) (.bool false) (.slice none 0 0) (.int .i64 0):=by
 refine ⟨_,rfl,((Ad _ _).trans (Ad _ _)).trans (Ad _ _),?_,?_,?_⟩
 ·exact (Bb (blk_new _ _ _ _) _).kept (Ad _ _)
 ·exact (D8 _ _ _ _ _).kept (Ad _ _)
 ·have:=Hq ((w.alloc (.cells #[x,y,z] 28)).alloc (.cells #[p,q,r] 28));simp only [World.size_alloc] at this;exact this
theorem Amz (w:World)(x y z x' y' z':Value):∃ W,W=(w.alloc (.cells #[x,y,z,x',y',z'] 30)).alloc (.cells #[.bool false,.slice none 0 0,.int .i64 0,.bool false,.slice none 0 0,.int .i64 0] 30) ∧
 Kept w W∧BlkI W w.heap.size x y z x' y' z'∧BlkI W (w.heap.size+1) (.bool false) (.slice none 0 0) (.int .i64 0) (.bool false) (.slice none 0 0) (.int .i64 0):=by
 refine ⟨_,rfl,(Ad _ _).trans (Ad _ _),(Eo _ _ _ _ _ _ _).kept (Ad _ _),?_⟩;have:=Hq (w.alloc (.cells #[x,y,z,x',y',z'] 30));simp only [World.size_alloc] at this;exact this
theorem Ak7 {u:Value}{o1 o2:Outc Dy}(hv:DyR w v o1.v.raw)(hu:DyR w u o2.v.raw) :
 Calls Tryz.prog 93 #[v,.int .i64 o1.k,u,.int .i64 o2.k] w (RetIE (Bp (Gg o1 o2)) w):=by
 obtain ⟨A,l,c,rfl,h1⟩:=Bj hv;obtain ⟨B,j,e,rfl,g1⟩:=Bj hu;obtain ⟨W,hW,kW,BA,BB,BR⟩:=Alc w (.bool o1.v.neg) (.slice A l c) (.int .i64 o1.v.e) (.bool o2.v.neg) (.slice B j e) (.int .i64 o2.v.e);have Z1:=hid (h1.kept kW);have Z2:=hid (g1.kept kW);have HW:=hid hW;have HK:=hid kW;obtain ⟨-,c0,c1,c2,-⟩:=BA.facts;obtain ⟨-,d0,d1,d2,-⟩:=BB.facts;have HR:=hid BR;obtain ⟨-,r0,r1,r2,r3,r4,r5⟩:=BR.facts;obtain ⟨f0,f1,f2,f3,f4,f5⟩:=BR.free;clear hW kW BA BB BR h1 g1 hv hu;by_cases k1:o1.k=0
 ·by_cases k2:o2.k=0
  ·have ho:Bp (Gg o1 o2)=⟨⟨o1.v.raw,o2.v.raw⟩,0⟩:=by
    unfold Gg;rw [Outc.bind_of _ _ k1,Outc.bind_of _ _ k2];rfl
   rw [ho,k1,k2];have HO:=hid ho;clear ho k1 k2;generalize o1.v.neg=n1,o1.v.e=e1,o2.v.neg=n2,o2.v.e=e2,o1.v.raw=r1,o2.v.raw=r2 at *;go_enter Tryz.func93,Tryz.ntmps93;go_upto_region 1 with fail;rw [←HW.out];go_wp2_with fail;exact Ci (HR.out.laid _ _ _ _ _ _) rfl rfl rfl ⟨Bm HK.out (by omega),_,rfl,_,_,_,_,_,_,rfl,Z1.out.ivW HR.out _ _ _ _ _ _,Z2.out.ivW HR.out _ _ _ _ _ _⟩
  ·have ho:Bp (Gg o1 o2)=⟨rzI,o2.k⟩:=by
    unfold Gg Outc.bind;rw [if_pos k1];simp only [if_neg k2];exact congrArg (Outc.mk · o2.k) Nj
   rw [ho,k1];have k2':(o2.k != 0)=true:=by simp [k2]
   clear ho k1 k2;generalize o1.v.neg=n1,o1.v.e=e1,o2.v.neg=n2,o2.v.e=e2,o1.v.raw=r1,o2.v.raw=r2,o2.k=q2 at *;go_enter Tryz.func93,Tryz.ntmps93;go_upto_region 1 with fail;rw [←HW.out];go_wp2_with fail;exact Ci (HR.out.laid _ _ _ _ _ _) rfl rfl rfl ⟨Bm HK.out (by omega),_,rfl,Ep _⟩
 ·have ho:Bp (Gg o1 o2)=⟨rzI,o1.k⟩:=by
   unfold Gg Outc.bind;rw [if_neg k1];exact congrArg (Outc.mk · o1.k) Nj
  rw [ho];have k1':(o1.k != 0)=true:=by simp [k1]
  clear ho k1;generalize o1.v.neg=n1,o1.v.e=e1,o2.v.neg=n2,o2.v.e=e2,o1.v.raw=r1,o2.v.raw=r2,o2.k=q2,o1.k=q1 at *;go_enter Tryz.func93,Tryz.ntmps93;go_upto_region 1 with fail;rw [←HW.out];go_wp2_with fail;exact Ci (HR.out.laid _ _ _ _ _ _) rfl rfl rfl ⟨Bm HK.out (by omega),_,rfl,Ep _⟩
theorem Aia (w:World)(x y z:Value):∃ V,V=w.alloc (.cells #[x,y,z] 28)∧Kept w V∧Blk V w.heap.size x y z∧w.heap.size<V.heap.size :=
 ⟨_,rfl,Ad _ _,blk_new _ _ _ _,by simp⟩
theorem Mo (hv:IvC w v a)(ha:a.Ok)(hT:Tab w)(p1:1≤p)(p2:p≤2000) :
 Calls Tryz.prog 59 #[v,.int .i64 p] w (RetIE (Bp (Ek a p)) w):=by
 have m1:=fun w1 (k:Kept w w1)=>Wa (hv.kept k) ha
 obtain ⟨A,l,c,A',l',c',rfl,h1,h2⟩:=F3 hv;have c1:=fun w1 (k:Kept w w1)=>Ob (h1.kept k) ha.lo (hT.kept k) p1 p2
 have c2:=fun w1 (k:Kept w w1)=>Zv (h2.kept k) ha.hi (hT.kept k) p1 p2
 have hdef:Ek a p=Gg (Dh a.lo p false) (Dh a.hi p true):=rfl;rw [hdef];obtain ⟨W,hW,kW,BI,BR⟩:=Amz w (.bool a.lo.neg) (.slice A l c) (.int .i64 a.lo.e) (.bool a.hi.neg) (.slice A' l' c') (.int .i64 a.hi.e);have M1:=hid m1;have C1:=hid c1;have C2:=hid c2;have HW:=hid hW;have K:=hid kW;have HB:=hid BI;have HR:=hid BR;clear m1 c1 c2 hW kW BI BR h1 h2 hv ha hT hdef;generalize Dh a.lo p false=o1 at *;generalize Dh a.hi p true=o2 at *;generalize a.lo.neg=n1,a.lo.e=e1,a.hi.neg=n2,a.hi.e=e2 at *;go_enter Tryz.func59,Tryz.ntmps59;go_wp2_with fail
 rw [←HW.out];refine (M1.out _ K.out).mono ?_;rintro e w1 ⟨rfl,q⟩;replace K:=hid (K.out.trans q);replace HB:=hid (HB.out.kept q);replace HR:=hid (HR.out.kept q);clear q M1 HW;obtain ⟨-,c0,c1,c2,c3,c4,c5⟩:=HB.out.facts;simp only [];go_wp2_with fail;refine (C1.out _ K.out).mono ?_;rintro e w2 ⟨q,u,rfl,hd⟩;obtain ⟨PX,pX,qX,rfl,z1⟩:=Bj hd;simp only [];obtain ⟨VX,hV,kV,hb,lV⟩:=Aia w2 (.bool o1.v.neg) (.slice PX pX qX) (.int .i64 o1.v.e);have HV:=hid hV;have kk:=q.trans kV;have lt1:w.heap.size+1<w2.heap.size:=Nat.lt_of_lt_of_le HR.out.facts.1 q.size;replace K:=hid (K.out.trans kk);replace HB:=hid (HB.out.kept kk);replace HR:=hid (HR.out.kept kk)
 have HX:=hid hb;have ZX:=hid (z1.kept kV);clear hV kV hb lV kk q hd z1 c0 c1 c2 c3 c4 c5 C1;go_upto_region 4 with fail;rw [←HV.out];clear HV;generalize w2.heap.size=bX at *;obtain ⟨-,c0,c1,c2,c3,c4,c5⟩:=HB.out.facts;go_wp2_with fail;refine (C2.out _ K.out).mono ?_;rintro e w2 ⟨q,u,rfl,hd⟩;obtain ⟨PY,pY,qY,rfl,z1⟩:=Bj hd;simp only [];obtain ⟨VY,hV,kV,hb,lV⟩:=Aia w2 (.bool o2.v.neg) (.slice PY pY qY) (.int .i64 o2.v.e);have HV:=hid hV;have kk:=q.trans kV;have lt2:bX<w2.heap.size:=Nat.lt_of_lt_of_le HX.out.facts.1 q.size;replace K:=hid (K.out.trans kk);replace HR:=hid (HR.out.kept kk);replace HX:=hid (HX.out.kept kk);replace ZX:=hid (ZX.out.kept kk)
 have HY:=hid hb;have ZY:=hid (z1.kept kV);clear hV kV hb lV kk q hd z1 c0 c1 c2 c3 c4 c5 C2 HB;go_upto_region 5 with fail;rw [←HV.out];clear HV;generalize w2.heap.size=bY at *;obtain ⟨-,c0,c1,c2,-⟩:=HX.out.facts;obtain ⟨-,d0,d1,d2,-⟩:=HY.out.facts;go_wp2_with fail;refine (Ak7 ZX.out ZY.out).mono ?_;rintro e w2 ⟨q,u,rfl,hd⟩;obtain ⟨P,p',q',R,r,s,rfl,z1,z2⟩:=Aq hd;have hr:=HR.out.kept q;obtain ⟨-,r0,r1,r2,r3,r4,r5⟩:=hr.facts;obtain ⟨f0,f1,f2,f3,f4,f5⟩:=hr.free;have HRR:=hid hr;have Z1:=hid z1;have Z2:=hid z2;clear hr z1 z2 hd c0 c1 c2 d0 d1 d2;simp only [];go_wp2_with fail;exact Ci (HRR.out.laid _ _ _ _ _ _) rfl rfl rfl ⟨Bm (K.out.trans q) (by omega),_,rfl,_,_,_,_,_,_,rfl,Z1.out.ivW HRR.out _ _ _ _ _ _,Z2.out.ivW HRR.out _ _ _ _ _ _⟩
theorem Ae6 (w:World)(x y z x' y' z' p q r p' q' r':Value):∃ W,W=((w.alloc (.cells #[x,y,z,x',y',z'] 30)).alloc (.cells #[p,q,r,p',q',r'] 30)).alloc (.cells #[.bool false,.slice none 0 0,.int .i64 0,.bool false,.slice none 0 0,.int .i64 0] 30) ∧
 Kept w W∧BlkI W w.heap.size x y z x' y' z'∧BlkI W (w.heap.size+1) p q r p' q' r'∧BlkI W (w.heap.size+1+1) (.bool false) (.slice none 0 0) (.int .i64 0) (.bool false) (.slice none 0 0) (.int .i64 0):=by
 obtain ⟨W,hW,k,b1,b2⟩:=Vr w x y z x' y' z' p q r p' q' r';refine ⟨_,rfl,?_,?_,?_,?_⟩
 ·rw [←hW];exact k.trans (Ad _ _)
 ·rw [←hW];exact b1.kept (Ad _ _)
 ·rw [←hW];exact b2.kept (Ad _ _)
 ·have:=Hq ((w.alloc (.cells #[x,y,z,x',y',z'] 30)).alloc (.cells #[p,q,r,p',q',r'] 30));simp only [World.size_alloc] at this;exact this
structure Zt (S:Int→Prop):Prop where
 add:S 6→∀ {w:World} {v u:Value} {a b:Iv} {p:Nat},IvC w v a→IvC w u b→a.Ok→b.Ok→Tab w→1≤p→p≤2000→Calls Tryz.prog 96 #[v,u,.int .i64 p] w (RetIE (Bp (Ge a b p)) w)
 sub:S 7→∀ {w:World} {v u:Value} {a b:Iv} {p:Nat},IvC w v a→IvC w u b→a.Ok→b.Ok→Tab w→1≤p→p≤2000→Calls Tryz.prog 97 #[v,u,.int .i64 p] w (RetIE (Bp (J1 a b p)) w)
 mul:S 8→∀ {w:World} {v u:Value} {a b:Iv} {p:Nat},IvC w v a→IvC w u b→a.Ok→b.Ok→Tab w→1≤p→p≤2000→Calls Tryz.prog 98 #[v,u,.int .i64 p] w (RetIE (Bp (Fi a b p)) w)
 div:S 9→∀ {w:World} {v u:Value} {a b:Iv} {p:Nat},IvC w v a→IvC w u b→a.Ok→b.Ok→Tab w→1≤p→p≤2000→Calls Tryz.prog 94 #[v,u,.int .i64 p] w (RetIE (Bp (Fu a b p)) w)
 neg:S 10→∀ {w:World} {v:Value} {a:Iv} {p:Nat},IvC w v a→a.Ok→Tab w→1≤p→p≤2000→Calls Tryz.prog 99 #[v,.int .i64 p] w (RetIE (Bp (Kk a p)) w)
 sqr:S 11→∀ {w:World} {v:Value} {a:Iv} {p:Nat},IvC w v a→a.Ok→Tab w→1≤p→p≤2000→Calls Tryz.prog 100 #[v,.int .i64 p] w (RetIE (Bp (I9 a p)) w)
 sqrt:S 12→∀ {w:World} {v:Value} {a:Iv} {p:Nat},IvC w v a→a.Ok→Tab w→1≤p→p≤2000→Calls Tryz.prog 101 #[v,.int .i64 p] w (RetIE (Bp (Fc a p)) w)
def DoS (S:Int→Prop) (op:Int):Prop:=S (if op=6∨op=7∨op=8∨op=9 then op else 10)
def Ako (op:Int):List Int:=if op=6 then [6] else if op=7 then [7] else if op=10 then [10] else if op=8 then [8,6] else if op=9 then [8,7,9] else if op=11 then [8] else if op=12 then [8,9] else if op=13 then [8] else []
def Ahz (S:Int→Prop) (op:Int):Prop:=∀ n∈Ako op,S n
theorem Amh {S:Int→Prop}{ov:Iv→Nat→Outc Iv}{va vb:Value}{b:Iv}(ha:IvC w va a)(hb:IvC w vb b)(oa:a.Ok)(ob:b.Ok)(hT:Tab w)(p1:1≤p)(p2:p≤2000)
 (hov:¬(6≤op∧op≤12)→∀ w1,Kept w w1→Calls Tryz.prog 102 #[va,.int .i64 p] w1 (RetIE (Bp (ov a p)) w1)) (O:Zt S) (hS:6≤op→op≤12→S op) :
 Calls Tryz.prog 63 #[.int .i64 op,va,vb,.int .i64 p] w (RetIE (Bp (Hj ov op a b p)) w):=by
 have IA:=hid ha;have IB:=hid hb;have OA:=hid (And.intro oa ob);have T:=hid hT;have HOV:=hid hov;have OPS:=hid O;have HS:=hid hS;clear ha hb oa ob hT hov O hS;obtain ⟨A,l,c,A',l',c',rfl,-,-⟩:=F3 IA.out;obtain ⟨B,j,e,B',j',e',rfl,-,-⟩:=F3 IB.out;obtain ⟨W,hW,kW,BI,BJ,BR⟩:=Ae6 w (.bool a.lo.neg) (.slice A l c) (.int .i64 a.lo.e) (.bool a.hi.neg) (.slice A' l' c') (.int .i64 a.hi.e) (.bool b.lo.neg) (.slice B j e) (.int .i64 b.lo.e) (.bool b.hi.neg) (.slice B' j' e') (.int .i64 b.hi.e);have HW:=hid hW;have K:=hid kW;obtain ⟨-,c0,c1,c2,c3,c4,c5⟩:=BI.facts;obtain ⟨-,d0,d1,d2,d3,d4,d5⟩:=BJ.facts
 have HR:=hid BR;clear hW kW BI BJ BR;by_cases h6:op=6
 ·obtain rfl:op=6:=h6;have ho:Hj ov 6 a b p=Ge a b p:=by simp [Hj]
  rw [ho];have CC:=hid (fun w1 (k:Kept w w1)=>OPS.out.add (HS.out (by decide) (by decide)) (IA.out.kept k) (IB.out.kept k) OA.out.1 OA.out.2 (T.out.kept k) p1 p2);clear ho IA IB OA T HOV OPS HS;generalize Bp _=o at *;generalize a.lo.neg=n1,a.lo.e=e1,a.hi.neg=n2,a.hi.e=e2,b.lo.neg=n3,b.lo.e=e3,b.hi.neg=n4,b.hi.e=e4 at *;go_enter Tryz.func63,Tryz.ntmps63;go_upto_region 1 with fail;rw [←HW.out];go_wp2_with fail;refine (CC.out _ K.out).mono ?_;rintro e w2 ⟨q,u,rfl,hd⟩;obtain ⟨P,p',q',R,r,s,rfl,z1,z2⟩:=Aq hd
  have hr:=HR.out.kept q;obtain ⟨-,r0,r1,r2,r3,r4,r5⟩:=hr.facts;obtain ⟨f0,f1,f2,f3,f4,f5⟩:=hr.free;have HRR:=hid hr;have Z1:=hid z1;have Z2:=hid z2;clear hr z1 z2 hd c0 c1 c2 c3 c4 c5 d0 d1 d2 d3 d4 d5;simp only [];go_wp2_with fail;exact Ci (HRR.out.laid _ _ _ _ _ _) rfl rfl rfl ⟨Bm (K.out.trans q) (by omega),_,rfl,_,_,_,_,_,_,rfl,Z1.out.ivW HRR.out _ _ _ _ _ _,Z2.out.ivW HRR.out _ _ _ _ _ _⟩
 by_cases h7:op=7
 ·obtain rfl:op=7:=h7;have ho:Hj ov 7 a b p=J1 a b p:=by simp [Hj]
  rw [ho];have CC:=hid (fun w1 (k:Kept w w1)=>OPS.out.sub (HS.out (by decide) (by decide)) (IA.out.kept k) (IB.out.kept k) OA.out.1 OA.out.2 (T.out.kept k) p1 p2);clear ho IA IB OA T HOV OPS HS;generalize Bp _=o at *;generalize a.lo.neg=n1,a.lo.e=e1,a.hi.neg=n2,a.hi.e=e2,b.lo.neg=n3,b.lo.e=e3,b.hi.neg=n4,b.hi.e=e4 at *;go_enter Tryz.func63,Tryz.ntmps63;go_upto_region 1 with fail;rw [←HW.out];go_wp2_with fail;refine (CC.out _ K.out).mono ?_;rintro e w2 ⟨q,u,rfl,hd⟩;obtain ⟨P,p',q',R,r,s,rfl,z1,z2⟩:=Aq hd
  have hr:=HR.out.kept q;obtain ⟨-,r0,r1,r2,r3,r4,r5⟩:=hr.facts;obtain ⟨f0,f1,f2,f3,f4,f5⟩:=hr.free;have HRR:=hid hr;have Z1:=hid z1;have Z2:=hid z2;clear hr z1 z2 hd c0 c1 c2 c3 c4 c5 d0 d1 d2 d3 d4 d5;simp only [];go_wp2_with fail;exact Ci (HRR.out.laid _ _ _ _ _ _) rfl rfl rfl ⟨Bm (K.out.trans q) (by omega),_,rfl,_,_,_,_,_,_,rfl,Z1.out.ivW HRR.out _ _ _ _ _ _,Z2.out.ivW HRR.out _ _ _ _ _ _⟩
 by_cases h8:op=8
 ·obtain rfl:op=8:=h8;have ho:Hj ov 8 a b p=Fi a b p:=by simp [Hj]
  rw [ho];have CC:=hid (fun w1 (k:Kept w w1)=>OPS.out.mul (HS.out (by decide) (by decide)) (IA.out.kept k) (IB.out.kept k) OA.out.1 OA.out.2 (T.out.kept k) p1 p2);clear ho IA IB OA T HOV OPS HS;generalize Bp _=o at *;generalize a.lo.neg=n1,a.lo.e=e1,a.hi.neg=n2,a.hi.e=e2,b.lo.neg=n3,b.lo.e=e3,b.hi.neg=n4,b.hi.e=e4 at *;go_enter Tryz.func63,Tryz.ntmps63;go_upto_region 1 with fail;rw [←HW.out];go_wp2_with fail;refine (CC.out _ K.out).mono ?_;rintro e w2 ⟨q,u,rfl,hd⟩;obtain ⟨P,p',q',R,r,s,rfl,z1,z2⟩:=Aq hd
  have hr:=HR.out.kept q;obtain ⟨-,r0,r1,r2,r3,r4,r5⟩:=hr.facts;obtain ⟨f0,f1,f2,f3,f4,f5⟩:=hr.free;have HRR:=hid hr;have Z1:=hid z1;have Z2:=hid z2;clear hr z1 z2 hd c0 c1 c2 c3 c4 c5 d0 d1 d2 d3 d4 d5;simp only [];go_wp2_with fail;exact Ci (HRR.out.laid _ _ _ _ _ _) rfl rfl rfl ⟨Bm (K.out.trans q) (by omega),_,rfl,_,_,_,_,_,_,rfl,Z1.out.ivW HRR.out _ _ _ _ _ _,Z2.out.ivW HRR.out _ _ _ _ _ _⟩
 by_cases h9:op=9
 ·obtain rfl:op=9:=h9;have ho:Hj ov 9 a b p=Fu a b p:=by simp [Hj]
  rw [ho];have CC:=hid (fun w1 (k:Kept w w1)=>OPS.out.div (HS.out (by decide) (by decide)) (IA.out.kept k) (IB.out.kept k) OA.out.1 OA.out.2 (T.out.kept k) p1 p2);clear ho IA IB OA T HOV OPS HS;generalize Bp _=o at *;generalize a.lo.neg=n1,a.lo.e=e1,a.hi.neg=n2,a.hi.e=e2,b.lo.neg=n3,b.lo.e=e3,b.hi.neg=n4,b.hi.e=e4 at *;go_enter Tryz.func63,Tryz.ntmps63;go_upto_region 1 with fail;rw [←HW.out];go_wp2_with fail;refine (CC.out _ K.out).mono ?_;rintro e w2 ⟨q,u,rfl,hd⟩;obtain ⟨P,p',q',R,r,s,rfl,z1,z2⟩:=Aq hd
  have hr:=HR.out.kept q;obtain ⟨-,r0,r1,r2,r3,r4,r5⟩:=hr.facts;obtain ⟨f0,f1,f2,f3,f4,f5⟩:=hr.free;have HRR:=hid hr;have Z1:=hid z1;have Z2:=hid z2;clear hr z1 z2 hd c0 c1 c2 c3 c4 c5 d0 d1 d2 d3 d4 d5;simp only [];go_wp2_with fail;exact Ci (HRR.out.laid _ _ _ _ _ _) rfl rfl rfl ⟨Bm (K.out.trans q) (by omega),_,rfl,_,_,_,_,_,_,rfl,Z1.out.ivW HRR.out _ _ _ _ _ _,Z2.out.ivW HRR.out _ _ _ _ _ _⟩
 by_cases h10:op=10
 ·obtain rfl:op=10:=h10;have ho:Hj ov 10 a b p=Kk a p:=by simp [Hj]
  rw [ho];have CC:=hid (fun w1 (k:Kept w w1)=>OPS.out.neg (HS.out (by decide) (by decide)) (IA.out.kept k) OA.out.1 (T.out.kept k) p1 p2);clear ho IA IB OA T HOV OPS HS;generalize Bp _=o at *;generalize a.lo.neg=n1,a.lo.e=e1,a.hi.neg=n2,a.hi.e=e2,b.lo.neg=n3,b.lo.e=e3,b.hi.neg=n4,b.hi.e=e4 at *;go_enter Tryz.func63,Tryz.ntmps63;go_upto_region 1 with fail;rw [←HW.out];go_wp2_with fail;refine (CC.out _ K.out).mono ?_;rintro e w2 ⟨q,u,rfl,hd⟩;obtain ⟨P,p',q',R,r,s,rfl,z1,z2⟩:=Aq hd
  have hr:=HR.out.kept q;obtain ⟨-,r0,r1,r2,r3,r4,r5⟩:=hr.facts;obtain ⟨f0,f1,f2,f3,f4,f5⟩:=hr.free;have HRR:=hid hr;have Z1:=hid z1;have Z2:=hid z2;clear hr z1 z2 hd c0 c1 c2 c3 c4 c5 d0 d1 d2 d3 d4 d5;simp only [];go_wp2_with fail;exact Ci (HRR.out.laid _ _ _ _ _ _) rfl rfl rfl ⟨Bm (K.out.trans q) (by omega),_,rfl,_,_,_,_,_,_,rfl,Z1.out.ivW HRR.out _ _ _ _ _ _,Z2.out.ivW HRR.out _ _ _ _ _ _⟩
 by_cases h11:op=11
 ·obtain rfl:op=11:=h11;have ho:Hj ov 11 a b p=I9 a p:=by simp [Hj]
  rw [ho];have CC:=hid (fun w1 (k:Kept w w1)=>OPS.out.sqr (HS.out (by decide) (by decide)) (IA.out.kept k) OA.out.1 (T.out.kept k) p1 p2);clear ho IA IB OA T HOV OPS HS;generalize Bp _=o at *;generalize a.lo.neg=n1,a.lo.e=e1,a.hi.neg=n2,a.hi.e=e2,b.lo.neg=n3,b.lo.e=e3,b.hi.neg=n4,b.hi.e=e4 at *;go_enter Tryz.func63,Tryz.ntmps63;go_upto_region 1 with fail;rw [←HW.out];go_wp2_with fail;refine (CC.out _ K.out).mono ?_;rintro e w2 ⟨q,u,rfl,hd⟩;obtain ⟨P,p',q',R,r,s,rfl,z1,z2⟩:=Aq hd
  have hr:=HR.out.kept q;obtain ⟨-,r0,r1,r2,r3,r4,r5⟩:=hr.facts;obtain ⟨f0,f1,f2,f3,f4,f5⟩:=hr.free;have HRR:=hid hr;have Z1:=hid z1;have Z2:=hid z2;clear hr z1 z2 hd c0 c1 c2 c3 c4 c5 d0 d1 d2 d3 d4 d5;simp only [];go_wp2_with fail;exact Ci (HRR.out.laid _ _ _ _ _ _) rfl rfl rfl ⟨Bm (K.out.trans q) (by omega),_,rfl,_,_,_,_,_,_,rfl,Z1.out.ivW HRR.out _ _ _ _ _ _,Z2.out.ivW HRR.out _ _ _ _ _ _⟩
 by_cases h12:op=12
 ·obtain rfl:op=12:=h12;have ho:Hj ov 12 a b p=Fc a p:=by simp [Hj]
  rw [ho];have CC:=hid (fun w1 (k:Kept w w1)=>OPS.out.sqrt (HS.out (by decide) (by decide)) (IA.out.kept k) OA.out.1 (T.out.kept k) p1 p2);clear ho IA IB OA T HOV OPS HS;generalize Bp _=o at *;generalize a.lo.neg=n1,a.lo.e=e1,a.hi.neg=n2,a.hi.e=e2,b.lo.neg=n3,b.lo.e=e3,b.hi.neg=n4,b.hi.e=e4 at *;go_enter Tryz.func63,Tryz.ntmps63;go_upto_region 1 with fail;rw [←HW.out];go_wp2_with fail;refine (CC.out _ K.out).mono ?_;rintro e w2 ⟨q,u,rfl,hd⟩;obtain ⟨P,p',q',R,r,s,rfl,z1,z2⟩:=Aq hd
  have hr:=HR.out.kept q;obtain ⟨-,r0,r1,r2,r3,r4,r5⟩:=hr.facts;obtain ⟨f0,f1,f2,f3,f4,f5⟩:=hr.free;have HRR:=hid hr;have Z1:=hid z1;have Z2:=hid z2;clear hr z1 z2 hd c0 c1 c2 c3 c4 c5 d0 d1 d2 d3 d4 d5;simp only [];go_wp2_with fail;exact Ci (HRR.out.laid _ _ _ _ _ _) rfl rfl rfl ⟨Bm (K.out.trans q) (by omega),_,rfl,_,_,_,_,_,_,rfl,Z1.out.ivW HRR.out _ _ _ _ _ _,Z2.out.ivW HRR.out _ _ _ _ _ _⟩
 have ho:Hj ov op a b p=ov a p:=by unfold Hj;rw [if_neg h6,if_neg h7,if_neg h8,if_neg h9,if_neg h10,if_neg h11,if_neg h12]
 rw [ho];have CC:=hid (HOV.out (by omega));have g6:(op==6)=false:=by simp [h6]
 have g7:(op==7)=false:=by simp [h7]
 have g8:(op==8)=false:=by simp [h8]
 have g9:(op==9)=false:=by simp [h9]
 have g10:(op==10)=false:=by simp [h10]
 have g11:(op==11)=false:=by simp [h11]
 have g12:(op==12)=false:=by simp [h12]
 clear ho h6 h7 h8 h9 h10 h11 h12 IA IB OA T HOV OPS HS;generalize Bp _=o at *;generalize a.lo.neg=n1,a.lo.e=e1,a.hi.neg=n2,a.hi.e=e2,b.lo.neg=n3,b.lo.e=e3,b.hi.neg=n4,b.hi.e=e4 at *;go_enter Tryz.func63,Tryz.ntmps63;go_upto_region 1 with fail;rw [←HW.out];go_wp2_with fail;refine (CC.out _ K.out).mono ?_;rintro e w2 ⟨q,u,rfl,hd⟩;obtain ⟨P,p',q',R,r,s,rfl,z1,z2⟩:=Aq hd;have hr:=HR.out.kept q;obtain ⟨-,r0,r1,r2,r3,r4,r5⟩:=hr.facts;obtain ⟨f0,f1,f2,f3,f4,f5⟩:=hr.free;have HRR:=hid hr
 have Z1:=hid z1;have Z2:=hid z2;clear hr z1 z2 hd c0 c1 c2 c3 c4 c5 d0 d1 d2 d3 d4 d5;simp only [];go_wp2_with fail;exact Ci (HRR.out.laid _ _ _ _ _ _) rfl rfl rfl ⟨Bm (K.out.trans q) (by omega),_,rfl,_,_,_,_,_,_,rfl,Z1.out.ivW HRR.out _ _ _ _ _ _,Z2.out.ivW HRR.out _ _ _ _ _ _⟩
structure Rg (d:Dy) (A B:Int):Prop where
 ok:d.Ok
 lo:d.m≠0→-A≤d.e
 hi:d.m≠0→bl d.m+d.e≤B
theorem Rg.zero (A B:Int):Rg dz A B:=⟨Md,fun h=>absurd rfl h,fun h=>absurd rfl h⟩
theorem Rg.mono (h:Rg d A B)(hA:A≤A')(hB:B≤B'):Rg d A' B':=⟨h.ok,fun h0=>by have:=h.lo h0;omega,fun h0=>by have:=h.hi h0;omega⟩
theorem Rg.neg (h:Rg d A B):Rg (Cu d) A B:=by
 refine ⟨Iq h.ok,?_,?_⟩<;>unfold Cu<;>split<;>first | exact h.lo | exact h.hi
theorem Vq {x y:Nat}(h:y≠0):bl (x/y)≤bl x-(bl y-1):=by
 have hy:2^(bl y-1)≤y:=Cz y h;rw [←P6];exact Gn (Nat.div_le_div_left hy (Nat.two_pow_pos _))
structure RgI (a:Iv) (A B:Int):Prop where
 lo:Rg a.lo A B
 hi:Rg a.hi A B
theorem RgI.mono (h:RgI a A B)(hA:A≤A')(hB:B≤B'):RgI a A' B':=⟨h.lo.mono hA hB,h.hi.mono hA hB⟩
theorem RgI.pt (h:Rg d A B):RgI (pt d) A B:=⟨h,h⟩
theorem RgI.zero (A B:Int):RgI iz A B:=⟨Rg.zero _ _,Rg.zero _ _⟩
def GoodI (o:Outc Iv) (A B:Int):Prop:=o.k=0∧RgI o.v A B
theorem GoodI.mono {o:Outc Iv}(h:GoodI o A B)(hA:A≤A')(hB:B≤B'):GoodI o A' B':=⟨h.1,h.2.mono hA hB⟩
def In (x:Rat) (a:Iv):Prop:=a.lo.q≤x∧x≤a.hi.q
theorem X7 (hx:0<x)(h:x≤y):y⁻¹≤x⁻¹:=by
 have hy:0<y:=by grind
 have hx':=Rat.inv_pos.2 hx;have hy':=Rat.inv_pos.2 hy;have e1:x*x⁻¹=1:=Rat.mul_inv_cancel _ (by grind);have e2:y*y⁻¹=1:=Rat.mul_inv_cancel _ (by grind);have h1:x*(x⁻¹*y⁻¹)≤y*(x⁻¹*y⁻¹):=Rat.mul_le_mul_of_nonneg_right h (Rat.le_of_lt (Rat.mul_pos hx' hy'));have e3:x*(x⁻¹*y⁻¹)=y⁻¹:=by rw [←Rat.mul_assoc,e1,Rat.one_mul]
 have e4:y*(x⁻¹*y⁻¹)=x⁻¹:=by rw [Rat.mul_comm x⁻¹,←Rat.mul_assoc,e2,Rat.one_mul]
 rw [e3,e4] at h1;exact h1
theorem Adj (hy:y<0)(h:x≤y):y⁻¹≤x⁻¹:=by
 have h1:=X7 (x:=-y) (y:=-x) (by grind) (by grind);have e:∀ z:Rat,z≠0→(-z)⁻¹=-(z⁻¹):=by intro z hz;grind
 rw [e x (by grind),e y (by grind)] at h1;grind
theorem Gh {neg:Bool}(h0:n≠0)(hb:bl n-tz n≤4096)(h1:-1048576≤e)(h2:bl n+e≤1048576) :
 (Bu neg n e).v.m≠0∧Bd (Bu neg n e).v=bl n+e∧bl (Bu neg n e).v.m=bl n-tz n:=by
 have ht:tz n<bl n:=M8 n (bl n) h0 (Ba n);have hd:bl (n/2^tz n)=bl n-tz n:=P6 _ _;have hl:(limbs (n/2^tz n)).length≤64:=Qd (k:=64) (by omega);unfold Bu;rw [if_neg h0,if_neg (by omega),if_neg (by omega),if_neg (by omega)];refine ⟨?_,?_,hd⟩
 ·show n/2^tz n≠0
  intro h;rw [h,Gp] at hd;omega
 ·show ((bl (n/2^tz n):Nat):Int)+(e+tz n)=bl n+e
  omega
theorem Sa {neg:Bool}(hm:m≠0)(p1:1≤p)(p2:p≤2000)(h1:-1000000≤e)(h2:bl m+e≤1000000) :
 (J5 neg m e rest p up).v.m≠0∧bl (J5 neg m e rest p up).v.m≤p∧Bd (J5 neg m e rest p up).v≤bl m+e+1:=by
 unfold J5;have hp:=Cr m hm;have hb:bl (m/2^(bl m-p))=bl m-(bl m-p):=P6 _ _;have h2':E7 m rest p (up != neg)≤m/2^(bl m-p)+1∧m/2^(bl m-p)≤E7 m rest p (up != neg):=by
  unfold E7 Jf;simp only;split<;>omega
 have h3:=Ba (m/2^(bl m-p));have h5:2^bl (m/2^(bl m-p))≤2^p:=Nat.pow_le_pow_right (by decide) (by omega);have hz:E7 m rest p (up != neg)≠0:=by
  intro h;rw [h] at h2';have h0:m/2^(bl m-p)=0:=Nat.le_zero.1 h2'.2;rw [h0,Gp] at hb;omega
 have h6:bl (E7 m rest p (up != neg))≤bl (m/2^(bl m-p))+1:=Fl _ _ (by
  have:=Nat.two_pow_succ (bl (m/2^(bl m-p)));have:=Nat.two_pow_pos (bl (m/2^(bl m-p)));generalize m/2^(bl m-p)=z at *;omega)
 have h7:bl (E7 m rest p (up != neg))-tz (E7 m rest p (up != neg))≤p:=by
  by_cases hl:bl (E7 m rest p (up != neg))≤p
  ·omega
  ·have h8:=Cz _ hz;have h9:2^p≤2^(bl (E7 m rest p (up != neg))-1):=Nat.pow_le_pow_right (by decide) (by omega);have h10:E7 m rest p (up != neg)=2^p:=by
    generalize m/2^(bl m-p)=z at *;omega
   have h11:tz (E7 m rest p (up != neg))=p:=Hb _ p 1 rfl (by rw [h10,Nat.one_mul]);omega
 obtain ⟨a,b,c⟩:=Gh (neg:=neg) (e:=e+((bl m-p:Nat):Int)) hz (by omega) (by omega) (by omega);exact ⟨a,by omega,by omega⟩
theorem Anq (j1:1≤j)(j2:j≤1000000):(ofN j).m≠0∧1≤Bd (ofN j)∧Bd (ofN j)≤20∧bl (ofN j).m≤20:=by
 have hb:bl j≤20:=Fl _ _ (by omega);have hp:=Cr j (by omega);obtain ⟨a,b,c⟩:=Gh (neg:=false) (n:=j) (e:=0) (by omega) (by omega) (by decide) (by omega);exact ⟨a,by unfold ofN;omega,by unfold ofN;omega,by unfold ofN;omega⟩
theorem Sv {r:Dy}(p1:1≤p)(p2:p≤2000)(hr:r.m≠0)(hr1:-500≤r.e)(hr2:Bd r≤-8)(ht:t.m≠0)(ht1:bl t.m≤p)(ht2:-3000≤Bd t)(ht3:Bd t≤100)
 (j1:1≤j) (j2:j≤1000000):(Ck p up r t j).m≠0∧bl (Ck p up r t j).m≤p∧Bd (Ck p up r t j)≤Bd t-6:=by
 obtain ⟨b1,b2,b3,b4⟩:=Anq j1 j2;have hbt:=Cr _ ht;have hbr:=Cr _ hr;unfold Bd at hr2 ht2 ht3;have hmz:t.m*r.m≠0:=Nat.mul_ne_zero ht hr;have hmb:=G5 (Nat.le_refl (bl t.m)) (Nat.le_refl (bl r.m));have hmp:=Cr _ hmz;obtain ⟨c1,c2,c3⟩:=Gh (neg:=t.neg != r.neg) (n:=t.m*r.m) (e:=t.e+r.e) hmz (by omega) (by omega) (by omega);unfold Ck Cj;rw [if_neg b1];obtain ⟨a,ha⟩:∃ a,a=(Bt t r).v:=⟨_,rfl⟩;have c1:a.m≠0:=by rw [ha];exact c1
 have c2:Bd a=bl (t.m*r.m)+(t.e+r.e):=by rw [ha];exact c2
 have c3:bl a.m≤bl (t.m*r.m):=by rw [ha];show bl (Bu _ _ _).v.m≤_;omega
 rw [←ha];generalize ofN j=b at *;have hba:=Cr _ c1;have hbb:=Cr _ b1;unfold Bd at c2 b2 b3;unfold Bg;have hK:Bv a b p=p+1+bl b.m-bl a.m:=rfl;have hq:=Ro a.m b.m p c1 b1 (Bv a b p) (by omega);have hk:bl (2^Bv a b p)≤Bv a b p+1:=Fl _ _ (Nat.pow_lt_pow_right (by decide) (by omega));have hm2:=G5 (Nat.le_refl (bl a.m)) hk;have hd:=Vq (x:=a.m*2^Bv a b p) b1;have hz:a.m*2^Bv a b p/b.m≠0:=by intro h;rw [h,Gp] at hq;omega
 obtain ⟨x,y,z⟩:=Sa (neg:=a.neg != b.neg) (rest:=decide (¬a.m*2^Bv a b p%b.m=0)) (up:=up) (e:=a.e-b.e-Bv a b p) hz p1 p2 (by omega) (by omega);exact ⟨x,y,by unfold Bd at *;omega⟩
theorem Yg {p:Nat}{up:Bool}{r:Dy}(p1:1≤p)(p2:p≤2000)(hr:r.m≠0)(hr1:-500≤r.e)(hr2:Bd r≤-8):∀ (f j:Nat) (s t:Dy),t.m≠0→bl t.m≤p→-(p:Int)-8≤Bd t→Bd t≤100 →
 Bd t < -(p:Int)-8+6*f→1≤j→j+f≤1000000→∃ o,Gd p up r f j s t=some o
 | 0,j,s,t,_,_,h1,_,h2,_,_=>by omega
 | f + 1, j, s, t, ht, ht1, h1, h3, h2, j1, j2 => by
   obtain ⟨a,b,c⟩:=Sv (up:=up) p1 p2 hr hr1 hr2 ht ht1 (by omega) h3 j1 (by omega);rw [Gd];split
   ·exact ⟨_,rfl⟩
   ·exact Yg p1 p2 hr hr1 hr2 f (j+1) _ _ a b (by omega) (by omega) (by omega) (by omega) (by omega)
theorem Aaz {p : Nat} {up : Bool} {r : Dy} (p1 : 1 ≤ p) (p2 : p ≤ 2000) (hr : r.m ≠ 0) (hr1 : -500 ≤ r.e) (hr2 : Bd   r ≤ -8) : ∃ o, Gd    p up r 400 1 one one = some o :=
 Yg       p1 p2 hr hr1 hr2 400 1 one one (by decide) (by have : bl one.m = 1 := by decide
                                                         omega) (by have : Bd   one = 1 := by decide
                                                                    omega) (by decide) (by have : Bd   one = 1 := by decide
                                                                                           omega) (by decide) (by decide)
theorem Rz (h0:d.m≠0)(hl:bl d.m≤4096)(h1:-400≤d.e)(h2:Bd d≤7):(He d).m≠0∧-500≤(He d).e∧Bd (He d)≤-8:=by
 have hp:=Cr _ h0;have h2':=h2;unfold Bd at h2';have hK:(Cs d:Int)=max (Bd d+8) 0:=by unfold Cs;omega
 obtain ⟨a,b,c⟩:=Gh (neg:=d.neg) (n:=d.m) (e:=d.e+-(Cs d:Int)) h0 (by omega) (by omega) (by omega);unfold He Gx;rw [if_neg h0,if_neg (by omega)];have ht:tz d.m<bl d.m:=M8 d.m (bl d.m) h0 (Ba d.m);refine ⟨a,?_,?_⟩
 ·have b':=b;unfold Bd at b';omega
 ·rw [b];unfold Bd at hK;omega
def Cb (f:Nat→Rat):Nat→Rat
 | 0=>0
 | n+1=>Cb f n+f n
theorem Ha {f g:Nat→Rat}:∀ n,(∀ i,i<n→f i=g i)→Cb f n=Cb g n
 | 0,_=>rfl
 | n + 1, h => by
   rw [Cb,Cb,Ha n (fun i hi=>h i (by omega)),h n (by omega)]
theorem La (a:Rat)(f:Nat→Rat):∀ n,Cb (fun i=>a*f i) n=a*Cb f n
 | 0=>by simp [Cb]
 | n + 1 => by
   rw [Cb,Cb,La a f n];grind
theorem Qt (f g:Nat→Rat):∀ n,Cb (fun i=>f i+g i) n=Cb f n+Cb g n
 | 0=>by simp only [Cb];grind
 | n + 1 => by
   rw [Cb,Cb,Cb,Qt f g n];grind
theorem Q8 (f:Nat→Rat):∀ n,Cb f (n+1)=f 0+Cb (fun i=>f (i+1)) n
 | 0=>by simp only [Cb];grind
 | n + 1 => by
   rw [Cb,Q8 f n,Cb];grind
theorem Px {f:Nat→Rat}:∀ n,(∀ i,i<n→0≤f i)→0≤Cb f n
 | 0,_=>Rat.le_refl
 | n + 1, h => by
   have h1:=Px n (fun i hi=>h i (by omega));have h2:=h n (by omega);rw [Cb];grind
theorem Tw {f g:Nat→Rat}:∀ n,(∀ i,i<n→f i≤g i)→Cb f n≤Cb g n
 | 0,_=>Rat.le_refl
 | n + 1, h => by
   have h1:=Tw n (fun i hi=>h i (by omega));have h2:=h n (by omega);rw [Cb,Cb];grind
def eT (x:Rat):Nat→Rat
 | 0=>1
 | n+1=>eT x n*x/((n+1:Nat):Rat)
def eS (x:Rat) (n:Nat):Rat:=Cb (eT x) n
theorem succ_pos (n:Nat):(0:Rat)<((n+1:Nat):Rat):=by exact_mod_cast Nat.succ_pos n
theorem Rl (x:Rat)(n:Nat):((n+1:Nat):Rat)*eT x (n+1)=x*eT x n:=by
 have h:=succ_pos n;rw [eT];generalize ((n+1:Nat):Rat)=k at *;rw [Rat.div_def];have hk:k*k⁻¹=1:=Rat.mul_inv_cancel k (by grind);grind
theorem Gy {x:Rat}(h:0≤x):∀ n,0≤eT x n
 | 0=>show (0:Rat)≤1 by decide
 | n + 1 => by
   rw [eT,Rat.div_def];exact Rat.mul_nonneg (Rat.mul_nonneg (Gy h n) h) (Rat.le_of_lt (Rat.inv_pos.2 (succ_pos n)))
def conv (x y:Rat) (k:Nat):Rat:=Cb (fun i=>eT x i*eT y (k-i)) (k+1)
theorem Ada (x y:Rat)(k:Nat):((k+1:Nat):Rat)*conv x y (k+1)=(x+y)*conv x y k:=by
 have A:Cb (fun i=>(i:Rat)*(eT x i*eT y (k+1-i))) (k+1+1)=x*conv x y k:=by
  rw [Q8];have e:Cb (fun i=>((i+1:Nat):Rat)*(eT x (i+1)*eT y (k+1-(i+1)))) (k+1)=Cb (fun i=>x*(eT x i*eT y (k-i))) (k+1):=Ha _ (fun i hi=>by
   have h:=Rl x i;have e:k+1-(i+1)=k-i:=by omega
   rw [e];grind)
  rw [e,La];unfold conv;have z:((0:Nat):Rat)=0:=rfl;rw [z];grind
 have B:Cb (fun i=>((k+1-i:Nat):Rat)*(eT x i*eT y (k+1-i))) (k+1+1)=y*conv x y k:=by
  rw [Cb];have e:Cb (fun i=>((k+1-i:Nat):Rat)*(eT x i*eT y (k+1-i))) (k+1)=Cb (fun i=>y*(eT x i*eT y (k-i))) (k+1):=Ha _ (fun i hi=>by
   have h:=Rl y (k-i);have e:k+1-i=k-i+1:=by omega
   rw [e];grind)
  rw [e,La];unfold conv;have z:((k+1-(k+1):Nat):Rat)=0:=by rw [Nat.sub_self];rfl
  rw [z];grind
 have C:Cb (fun i=>((k+1:Nat):Rat)*(eT x i*eT y (k+1-i))) (k+1+1)=Cb (fun i=>(i:Rat)*(eT x i*eT y (k+1-i))+((k+1-i:Nat):Rat)*(eT x i*eT y (k+1-i))) (k+1+1) :=
  Ha _ (fun i hi=>by
   have e:((k+1:Nat):Rat)=(i:Rat)+((k+1-i:Nat):Rat):=by
    rw [←Rat.natCast_add]
    congr 1
    omega
   rw [e];grind)
 rw [Qt,A,B,La] at C;unfold conv at *;grind
theorem Abu (x y:Rat):∀ k,conv x y k=eT (x+y) k
 | 0=>by simp only [conv,Cb,Nat.sub_self,eT];grind
 | k + 1 => by
   have h:=Ada x y k;have h2:=Rl (x+y) k;rw [Abu x y k] at h;rw [←h2] at h;have hp:=succ_pos k;generalize ((k+1:Nat):Rat)=q at *;have hk:q*q⁻¹=1:=Rat.mul_inv_cancel q (by grind);grind
theorem Ab2 {x:Rat}(h:0≤x){m:Nat}:∀ {n:Nat},m≤n→eS x m≤eS x n
 | 0, hm => by
   have e:m=0:=by omega
   rw [e];exact Rat.le_refl
 | n + 1, hm => by
   by_cases e:m=n+1
   ·rw [e];exact Rat.le_refl
   ·have h1:=Ab2 h (m:=m) (n:=n) (by omega);have h2:=Gy h n;have h3:eS x (n+1)=eS x n+eT x n:=rfl;grind
theorem Aaj (x:Rat):eS x 1=1:=by
 show (0:Rat)+1=1
 grind
theorem Alh (h:0≤x)(hn:1≤n):1≤eS x n:=by
 have:=Ab2 h hn;rwa [Aaj] at this
theorem P9 (h:0≤x)(n:Nat):0≤eS x n:=Px _ (fun i _=>Gy h i)
theorem Ab3 {x y:Rat}(h:0≤x)(hy:x≤y):∀ n,eT x n≤eT y n
 | 0=>Rat.le_refl
 | n + 1 => by
   have h1:=Ab3 h hy n;have h2:eT x n*x≤eT y n*x:=Rat.mul_le_mul_of_nonneg_right h1 h;have h3:eT y n*x≤eT y n*y:=Rat.mul_le_mul_of_nonneg_left hy (Gy (Rat.le_trans h hy) n);rw [eT,eT,Rat.div_def,Rat.div_def];exact Rat.mul_le_mul_of_nonneg_right (Rat.le_trans h2 h3) (Rat.le_of_lt (Rat.inv_pos.2 (succ_pos n)))
theorem Aio (h:0≤x)(hy:x≤y)(n:Nat):eS x n≤eS y n:=Tw n (fun i _=>Ab3 h hy i)
theorem Tv (x y:Rat):∀ n,Cb (conv x y) n=Cb (fun i=>eT x i*eS y (n-i)) n
 | 0=>rfl
 | n + 1 => by
   have e:Cb (fun i=>eT x i*eS y (n+1-i)) (n+1)=Cb (fun i=>eT x i*eS y (n-i)+eT x i*eT y (n-i)) (n+1):=Ha _ (fun i hi=>by
    have e:n+1-i=n-i+1:=by omega
    have e2:eS y (n-i+1)=eS y (n-i)+eT y (n-i):=rfl;rw [e,e2];grind)
   rw [e,Qt,Cb,Tv x y n];have h:Cb (fun i=>eT x i*eS y (n-i)) (n+1)=Cb (fun i=>eT x i*eS y (n-i)) n:=by
    rw [Cb,Nat.sub_self];have z:eS y 0=0:=rfl;rw [z];grind
   rw [h];rfl
theorem Alg (hx:0≤x)(hy:0≤y)(n:Nat):eS (x+y) n≤eS x n*eS y n:=by
 have h1:eS (x+y) n=Cb (conv x y) n:=Ha n (fun i _=>(Abu x y i).symm);rw [h1,Tv];have h2:Cb (fun i=>eT x i*eS y (n-i)) n≤Cb (fun i=>eS y n*eT x i) n:=Tw n (fun i _=>by
  have h3:=Rat.mul_le_mul_of_nonneg_left (Ab2 hy (m:=n-i) (n:=n) (by omega)) (Gy hx i);grind)
 rw [La] at h2;have h4:Cb (eT x) n=eS x n:=rfl;rw [h4] at h2;grind
theorem Mn {neg:Bool}(h0:n≠0)(hb:bl n-tz n≤4096)(h1:-1048576≤e)(h2:bl n+e≤1048576) :
 (Bu neg n e).k=0∧(Bu neg n e).v.neg=neg:=by
 have ht:tz n<bl n:=M8 n (bl n) h0 (Ba n);have hl:(limbs (n/2^tz n)).length≤64:=Qd (k:=64) (by rw [P6];omega);unfold Bu;rw [if_neg h0,if_neg (by omega),if_neg (by omega),if_neg (by omega)];exact ⟨rfl,rfl⟩
theorem Aac {neg:Bool}(hm:m≠0)(p1:1≤p)(p2:p≤2000)(h1:-1000000≤e)(h2:bl m+e≤1000000) :
 (J5 neg m e rest p up).k=0∧(J5 neg m e rest p up).v.neg=neg∧bl m+e≤Bd (J5 neg m e rest p up).v:=by
 unfold J5;have hp:=Cr m hm;have hb:bl (m/2^(bl m-p))=bl m-(bl m-p):=P6 _ _;have h2':E7 m rest p (up != neg)≤m/2^(bl m-p)+1∧m/2^(bl m-p)≤E7 m rest p (up != neg):=by
  unfold E7 Jf;simp only;split<;>omega
 have h3:=Ba (m/2^(bl m-p));have h4:=Gn h2'.2;have hz:E7 m rest p (up != neg)≠0:=by
  intro h;rw [h,Gp] at h4;omega
 have h6:bl (E7 m rest p (up != neg))≤bl (m/2^(bl m-p))+1:=Fl _ _ (by
  have:=Nat.two_pow_succ (bl (m/2^(bl m-p)));have:=Nat.two_pow_pos (bl (m/2^(bl m-p)));generalize m/2^(bl m-p)=z at *;omega)
 obtain ⟨a,b⟩:=Mn (neg:=neg) (e:=e+((bl m-p:Nat):Int)) hz (by omega) (by omega) (by omega);obtain ⟨c,d,-⟩:=Gh (neg:=neg) (e:=e+((bl m-p:Nat):Int)) hz (by omega) (by omega) (by omega);exact ⟨a,b,by omega⟩
theorem Zy {x y:Nat}(h:y≠0):bl x≤bl (x/y)+bl y:=by
 by_cases hx:x=0
 ·rw [hx,Gp];omega
 ·refine Fl _ _ ?_;have h1:=Ba (x/y);have h2:=Ba y;have h3:=Nat.lt_mul_div_succ x (Nat.pos_of_ne_zero h);have h4:y*(x/y+1)≤2^bl y*2^bl (x/y):=Nat.mul_le_mul (Nat.le_of_lt h2) h1;rw [←Nat.pow_add] at h4;rw [Nat.add_comm];omega
theorem Qf {x y:Nat}(hx:x≠0)(hy:y≠0):bl x+bl y≤bl (x*y)+1:=by
 have h1:=Cz x hx;have h2:=Cz y hy;have h3:=Nat.mul_le_mul h1 h2;rw [←Nat.pow_add] at h3;have h4:=Nat.lt_of_le_of_lt h3 (Ba (x*y));have h5:=(Nat.pow_lt_pow_iff_right (by decide:1<2)).1 h4;have:=Cr x hx;have:=Cr y hy;omega
theorem Aa0 {r:Dy}(p1:1≤p)(p2:p≤2000)(hr:r.m≠0)(rn:r.neg=false)(hr1:-500≤r.e)(hr2:Bd r≤-8)(ht:t.m≠0)(tn:t.neg=false)(ht1:bl t.m≤p)(ht2:-3000≤Bd t)(ht3:Bd t≤100)
 (j1:1≤j) (j2:j≤1000000):(Ck p up r t j).neg=false∧Jl up p (t.q*r.q/(j:Rat)) (Ck p up r t j).q∧Bd t+Bd r-25≤Bd (Ck p up r t j):=by
 obtain ⟨b1,b2,b3,b4⟩:=Anq j1 j2;have hjq:(ofN j).q=(j:Rat):=by
  have hb:bl j≤20:=Fl _ _ (by omega);have h:=Lq (Mn (neg:=false) (n:=j) (e:=0) (by omega) (by omega) (by decide) (by omega)).1
  show (Bu false j 0).v.q=_
  rw [h,Gt,Rat.mul_one];rfl
 have hbt:=Cr _ ht;have hbr:=Cr _ hr;unfold Bd at hr2 ht2 ht3;have hmz:t.m*r.m≠0:=Nat.mul_ne_zero ht hr;have hmb:=G5 (Nat.le_refl (bl t.m)) (Nat.le_refl (bl r.m));have hmp:=Cr _ hmz;have hmg:=Qf ht hr;obtain ⟨c1,c2,c3⟩:=Gh (neg:=t.neg != r.neg) (n:=t.m*r.m) (e:=t.e+r.e) hmz (by omega) (by omega) (by omega);obtain ⟨c4,c5⟩:=Mn (neg:=t.neg != r.neg) (n:=t.m*r.m) (e:=t.e+r.e) hmz (by omega) (by omega) (by omega);have hmq:(Bt t r).v.q=t.q*r.q:=Kj c4;unfold Ck Cj;rw [if_neg b1,←hjq,←hmq];obtain ⟨a,ha⟩:∃ a,a=(Bt t r).v:=⟨_,rfl⟩;have c1:a.m≠0:=by rw [ha];exact c1
 have c2:Bd a=bl (t.m*r.m)+(t.e+r.e):=by rw [ha];exact c2
 have c3:bl a.m≤bl (t.m*r.m):=by rw [ha];show bl (Bu _ _ _).v.m≤_;omega
 have c5:a.neg=false:=by rw [ha];refine Eq.trans c5 ?_;rw [tn,rn];rfl
 have b5:(ofN j).neg=false:=by
  have hb:bl j≤20:=Fl _ _ (by omega);exact (Mn (neg:=false) (n:=j) (e:=0) (by omega) (by omega) (by decide) (by omega)).2
 rw [←ha];clear hmq ha hjq;generalize ofN j=b at *;have hba:=Cr _ c1;have hbb:=Cr _ b1;unfold Bd at c2 b2 b3;have hK:Bv a b p=p+1+bl b.m-bl a.m:=rfl;have hq:=Ro a.m b.m p c1 b1 (Bv a b p) (by omega);have hk:bl (2^Bv a b p)≤Bv a b p+1:=Fl _ _ (Nat.pow_lt_pow_right (by decide) (by omega));have hm2:=G5 (Nat.le_refl (bl a.m)) hk;have hk1:Bv a b p+1≤bl (2^Bv a b p):=by
  have h:=Ba (2^Bv a b p);have h2:=(Nat.pow_lt_pow_iff_right (by decide:1<2)).1 h;omega
 have hm3:=Qf c1 (Nat.ne_of_gt (Nat.two_pow_pos (Bv a b p)));have hd:=Vq (x:=a.m*2^Bv a b p) b1;have hd2:=Zy (x:=a.m*2^Bv a b p) b1;have hz:a.m*2^Bv a b p/b.m≠0:=by intro h;rw [h,Gp] at hq;omega
 obtain ⟨x,y,z⟩:=Aac (neg:=a.neg != b.neg) (rest:=decide (¬a.m*2^Bv a b p%b.m=0)) (up:=up) (e:=a.e-b.e-Bv a b p) hz p1 p2 (by omega) (by omega);refine ⟨?_,Nq p1 b1 x,?_⟩
 ·refine Eq.trans y ?_;rw [c5,b5];rfl
 ·have z':(bl (a.m*2^Bv a b p/b.m):Int)+(a.e-b.e-Bv a b p)≤Bd (Bg a b p up).v:=z;unfold Bd at z' ⊢;omega
theorem Aa5 {a:Int}(h:pw a≤pw b):a≤b:=by
 rcases Int.lt_or_le b a with h1 | h1
 ·exfalso;have h2:=F7 (show b+1≤a by omega);have h3:=Hy b;rw [Es,Qk] at h2;grind
 ·exact h1
theorem Hx {a:Int}(h:pw a<pw b):a<b:=by
 rcases Int.lt_or_le a b with h1 | h1
 ·exact h1
 ·exfalso;have h2:=F7 h1;grind
theorem Ad1 (hn:d.neg=false):d.q=(d.m:Rat)*pw d.e:=by
 unfold Dy.q sq;rw [hn];rfl
theorem Yr (h:d.m≠0)(hn:d.neg=false):0<d.q:=by
 rw [Ad1 hn];exact S5 h d.e
theorem Kc (h:d.m≠0)(hn:d.neg=false):pw (Bd d-1)≤d.q∧d.q<pw (Bd d):=by
 rw [Ad1 hn];exact Wh h d.e
theorem Gi (hp:1≤p):Fits p 1:=⟨false,1,0,hp,by simp [sq,Gt]⟩
theorem Ii (hp:1≤p)(e:Int):Fits p (pw e):=by
 have h:=(Gi hp).pw e;rwa [Rat.one_mul] at h
theorem Wy {x:Dy}(h:x.m≠0)(hn:x.neg=false)(hq:pw c≤x.q):c+1≤Bd x:=by
 have h1:=(Kc h hn).2;have h2:pw c<pw (Bd x):=by grind
 have:=Hx h2;omega
theorem Abh {x:Dy}(h:x.m≠0)(hn:x.neg=false)(hq:x.q≤pw c):Bd x≤c+1:=by
 have h1:=(Kc h hn).1;have h2:pw (Bd x-1)≤pw c:=by grind
 have:=Aa5 h2;omega
theorem Ac0 {x:Dy}(h:x.m≠0)(hn:x.neg=false)(h1:1≤x.q)(h2:x.q<2):Bd x=1:=by
 have a:=Wy (c:=0) h hn (by rw [Gt];exact h1);have b:=(Kc h hn).1;have c:pw (Bd x-1)<pw 1:=by rw [Qk];grind
 have:=Hx c;omega
theorem Anp (p2:p≤2000)(s0:s.m≠0)(sn:s.neg=false)(sb:bl s.m≤p)(s1:1≤s.q)(t0:t.m≠0)(tn:t.neg=false)(tk:t.Ok)(h2:s.q+t.q<2) :
 ((Dq s t).k=0↔-4095≤t.e)∧((Dq s t).k=0→(Dq s t).v.m≠0∧(Dq s t).v.neg=false∧Bd (Dq s t).v=1∧-5000≤(Dq s t).v.e):=by
 have t1:=Yr t0 tn;have hs1:=(Kc s0 sn).1;have hs2:=(Kc s0 sn).2;have hs3:Bd s=1:=by
  have a:pw (Bd s-1)<pw 1:=by rw [Qk];grind
  have b:pw 0<pw (Bd s):=by rw [Gt];grind
  have:=Hx a;have:=Hx b;omega
 have hs4:(bl s.m:Int)+s.e=1:=hs3;have sp:=Cr _ s0;have key:∀ (n:Nat) (e:Int),n≠0→(n:Rat)*pw e=s.q+t.q→(bl n:Int)+e=1:=by
  intro n e hn he;obtain ⟨a,b⟩:=Wh hn e;rw [he] at a b;have c:pw (bl n+e-1)<pw 1:=by rw [Qk];grind
  have d:pw 0<pw (bl n+e):=by rw [Gt];grind
  have:=Hx c;have:=Hx d;omega
 unfold Dq;rw [if_neg s0,if_neg t0];by_cases h:s.e<t.e
 ·rw [if_pos h];have hn:t.m*2^(t.e-s.e).toNat+s.m≠0:=by omega
  have he:((t.m*2^(t.e-s.e).toNat+s.m:Nat):Rat)*pw s.e=s.q+t.q:=by
   rw [Ad1 sn,Ad1 tn,Rat.natCast_add,Rat.add_mul,←Il t.m (Int.le_of_lt h)];grind
  have hb:=key _ _ hn he;have hg:¬(¬t.e=s.e∧4097-(bl t.m:Int)<t.e-s.e):=by
   have hbt:bl t.m+(t.e-s.e).toNat≤bl (t.m*2^(t.e-s.e).toNat+s.m):=by
    rw [←Fq _ _ t0];exact Gn (Nat.le_add_right _ _)
   omega
  have hz:=M8 _ _ hn (Ba (t.m*2^(t.e-s.e).toNat+s.m));unfold J7;rw [if_neg hg,if_pos (tn.trans sn.symm),tn];obtain ⟨k1,k2⟩:=Mn (neg:=false) (e:=s.e) hn (by omega) (by omega) (by omega);obtain ⟨f1,f2,f3⟩:=Gh (neg:=false) (e:=s.e) hn (by omega) (by omega) (by omega);have f2':=f2;unfold Bd at f2';exact ⟨⟨fun _=>by omega,fun _=>k1⟩,fun _=>⟨f1,k2,by omega,by omega⟩⟩
 ·rw [if_neg h];have hn:s.m*2^(s.e-t.e).toNat+t.m≠0:=by omega
  have he:((s.m*2^(s.e-t.e).toNat+t.m:Nat):Rat)*pw t.e=s.q+t.q:=by
   rw [Ad1 sn,Ad1 tn,Rat.natCast_add,Rat.add_mul,←Il s.m (by omega:t.e≤s.e)]
  have hb:=key _ _ hn he;have hz:=M8 _ _ hn (Ba (s.m*2^(s.e-t.e).toNat+t.m));unfold J7;by_cases hte:-4095≤t.e
  ·rw [if_neg (by omega),if_pos (sn.trans tn.symm),sn];obtain ⟨k1,k2⟩:=Mn (neg:=false) (e:=t.e) hn (by omega) (by omega) (by omega);obtain ⟨f1,f2,f3⟩:=Gh (neg:=false) (e:=t.e) hn (by omega) (by omega) (by omega);have f2':=f2;unfold Bd at f2';exact ⟨⟨fun _=>hte,fun _=>k1⟩,fun _=>⟨f1,k2,by omega,by omega⟩⟩
  ·have hk:∀ o:Outc Dy,o.k≠0→(o.k=0↔-4095≤t.e)∧(o.k=0→o.v.m≠0∧o.v.neg=false∧Bd o.v=1∧-5000≤o.v.e) :=
    fun o ho=>⟨⟨fun a=>absurd a ho,fun a=>absurd a hte⟩,fun a=>absurd a ho⟩
   apply hk;split
   ·decide
   ·rw [if_pos (sn.trans tn.symm)];have ho:(s.m*2^(s.e-t.e).toNat+t.m)%2=1:=by
     have h1:=tk.odd t0;have h2:(s.e-t.e).toNat=(s.e-t.e).toNat-1+1:=by omega
     rw [h2,Nat.pow_succ,←Nat.mul_assoc];omega
    have hl:64<(limbs (s.m*2^(s.e-t.e).toNat+t.m)).length:=by
     refine Decidable.byContradiction fun hc=>?_
     have hb2:=Cq (s.m*2^(s.e-t.e).toNat+t.m) 64 (by omega);omega
    unfold Bu;rw [if_neg hn,Ac2 ho,Nat.pow_zero,Nat.div_one,if_pos hl]
    decide
theorem Ta (p1:1≤p)(p2:p≤2000)(h0:d.m≠0)(h1:-1000000≤d.e)(h2:Bd d≤1000000) :
 Jl up p d.q (Ia p up d).q∧(Ia p up d).neg=d.neg∧(Ia p up d).m≠0∧bl (Ia p up d).m≤p:=by
 unfold Bd at h2;obtain ⟨a,b,c⟩:=Aac (neg:=d.neg) (rest:=false) (up:=up) h0 p1 p2 h1 h2;obtain ⟨x,y,z⟩:=Sa (neg:=d.neg) (rest:=false) (up:=up) h0 p1 p2 h1 h2;exact ⟨Sc p1 a,b,x,y⟩
theorem Qm (p:Nat)(up:Bool):Ia p up dz=dz:=by
 unfold Ia Dh J5;have h:E7 0 false p (up != dz.neg)=0:=by unfold E7 Jf;simp [bl]
 show (Bu dz.neg (E7 0 false p (up != dz.neg)) _).v=dz
 rw [h];rfl
theorem Ll {d b:Rat}(h:Jl up p x d)(hb:Fits p b)(hx:x≤b):d≤b:=by
 cases up with
 | true=>exact IsUp.best h b hb hx
 | false=>exact Rat.le_trans (IsDown.le h) hx
theorem Mk {d b:Rat}(h:Jl up p x d)(hb:Fits p b)(hx:b≤x):b≤d:=by
 cases up with
 | true=>exact Rat.le_trans hx (IsUp.le h)
 | false=>exact IsDown.best h b hb hx
theorem Acg (p1:1≤p)(p2:p≤2000)(s0:s.m≠0)(sn:s.neg=false)(sb:bl s.m≤p)(s1:1≤s.q)(t0:t.m≠0)(tn:t.neg=false)(tk:t.Ok)(h2:s.q+t.q<2) :
 (-4095≤t.e→Jl up p (s.q+t.q) (Ea p up s t).q∧(Ea p up s t).neg=false∧(Ea p up s t).m≠0∧bl (Ea p up s t).m≤p)∧(t.e < -4095→Ea p up s t=dz):=by
 obtain ⟨a,b⟩:=Anp p2 s0 sn sb s1 t0 tn tk h2;constructor
 ·intro h;have hk:=a.2 h;obtain ⟨b1,b2,b3,b4⟩:=b hk;have hq:=Qs hk;obtain ⟨c1,c2,c3,c4⟩:=Ta (up:=up) p1 p2 b1 (by omega) (by omega);rw [hq] at c1;exact ⟨c1,c2.trans b2,c3,c4⟩
 ·intro h;have hk:(Dq s t).k≠0:=fun e=>by have:=a.1 e;omega
  have hz:(Dq s t).v=dz:=by
   have hs:s.Ok∨True:=.inr trivial;unfold Dq at hk ⊢;rw [if_neg s0,if_neg t0] at hk ⊢;split at hk<;>rename_i hc
   ·rw [if_pos hc];exact (Wx _ _).2 hk
   ·rw [if_neg hc];exact (Wx _ _).2 hk
  unfold Ea;rw [hz,Qm]
theorem Aiq (h0:0≤r)(h1:r≤1/2)(j:Nat):2*eT r (j+1)≤eT r j:=by
 have h2:=Rl r j;have h3:=Gy h0 (j+1);have h4:=Gy h0 j;have h5:(1:Rat)≤((j+1:Nat):Rat):=by exact_mod_cast Nat.le_add_left 1 j
 have h6:=Rat.mul_le_mul_of_nonneg_right h5 h3;have h7:=Rat.mul_le_mul_of_nonneg_right h1 h4;rw [h2] at h6;grind
theorem Aip (h0:0≤r)(h1:r≤1/2)(j n:Nat):eS r n≤eS r (j+1)+eT r j:=by
 have step:∀ m,eS r (j+1+m)+eT r (j+m)≤eS r (j+1)+eT r j:=by
  intro m
  induction m with
  | zero=>exact Rat.le_refl
  | succ m ih =>
    have h2:=Aiq h0 h1 (j+m);have e1:eS r (j+1+(m+1))=eS r (j+1+m)+eT r (j+1+m):=rfl;have e2:j+1+m=j+m+1:=by omega
    rw [e2] at e1 ih;have e3:j+(m+1)=j+m+1:=by omega
    rw [e1,e3];grind
 have h2:=step n;have h3:=Ab2 h0 (m:=n) (n:=j+1+n) (by omega);have h4:=Gy h0 (j+n);grind
def sB (j:Nat):Nat:=if j≤1 then 65536 else 65790+j
theorem Al9:(sB 1:Rat)*pw (-16)=1:=by decide +kernel
theorem Yp:pw (-1)=1/2:=by decide +kernel
theorem Ani:pw (-8)=1/256:=by decide +kernel
theorem Ajv (h:1≤j):(sB j:Rat)*pw (-16)+pw (-8*(j:Int))≤(sB (j+1):Rat)*pw (-16):=by
 by_cases h1:j=1
 ·subst h1
  decide +kernel
 ·have e:(sB (j+1):Rat)=(sB j:Rat)+1:=by
   have:sB (j+1)=sB j+1:=by
    unfold sB;rw [if_neg (by omega),if_neg (by omega)];omega
   rw [this,Rat.natCast_add];rfl
  have h2:=F7 (show -8*(j:Int)≤-16 by omega);rw [e];grind
theorem Akr (h:j≤500):(sB j:Rat)*pw (-16)≤17/16:=by
 have h1:sB j≤69632:=by unfold sB;split<;>omega
 have h2:=(G7 (-16)).2 (Co.2 h1);have h3:((69632:Nat):Rat)*pw (-16)=17/16:=by decide +kernel
 rwa [h3] at h2
theorem Aju (h:j≤500)(hp:17≤p):Fits p ((sB j:Rat)*pw (-16)):=by
 have h1:sB j<2^17:=by unfold sB;split<;>omega
 exact (Kq (p:=p) (m:=sB j) (Nat.le_trans (Fl _ _ h1) hp)).pw (-16)
structure NI (p:Nat) (up:Bool) (r:Rat) (j:Nat) (s t:Dy):Prop where
 s0:s.m≠0
 sn:s.neg=false
 sb:bl s.m≤p
 s1:1≤s.q
 s2:s.q≤(sB j:Rat)*pw (-16)
 t0:t.m≠0
 tn:t.neg=false
 tb:bl t.m≤p
 t2:t.q≤pw (-8*((j:Int)-1))
 t3:-(p:Int)-8≤Bd t
 dir:if up then eT r (j-1)≤t.q∧eS r j≤s.q else t.q≤eT r (j-1)∧s.q≤eS r j
theorem Sx:one.q=1:=by decide +kernel
theorem NI.start (p1:1≤p):NI p up r 1 one one:=by
 have b:bl one.m=1:=by decide
 have t:Bd one=1:=by decide
 refine ⟨by decide,rfl,by omega,by rw [Sx];exact Rat.le_refl,by rw [Sx,Al9];exact Rat.le_refl,by decide,rfl,by omega,?_,by omega,?_⟩
 ·rw [Sx]
  show (1:Rat)≤pw 0
  rw [Gt];exact Rat.le_refl
 ·rw [Sx,Aaj];cases up
  ·exact ⟨Rat.le_refl,Rat.le_refl⟩
  ·exact ⟨Rat.le_refl,Rat.le_refl⟩
theorem Air (r:Rat)(h:1≤j):eT r j=eT r (j-1)*r/(j:Rat):=by
 obtain ⟨i,rfl⟩:∃ i,j=i+1:=⟨j-1,by omega⟩;rfl
theorem Qg {r:Dy}(p1:1≤p)(p2:p≤2000)(hr:r.m≠0)(rn:r.neg=false)(hr1:-500≤r.e)(hr2:Bd r≤-8)(j1:1≤j)(j2:j≤500)(h:NI p up r.q j s t) :
 (Ck p up r t j).m≠0∧(Ck p up r t j).neg=false∧bl (Ck p up r t j).m≤p∧(Ck p up r t j).q≤pw (-8*(j:Int))∧Bd t+Bd r-25≤Bd (Ck p up r t j) ∧
   (if up then eT r.q j≤(Ck p up r t j).q else (Ck p up r t j).q≤eT r.q j):=by
 have tp:=Yr h.t0 h.tn;have tt:=(Kc h.t0 h.tn).1;have rp:=Yr hr rn;have rt:r.q<pw (-8):=by
  have:=(Kc hr rn).2;have:=F7 hr2;grind
 have t4:Bd t≤100:=by
  have a:=h.t2;have b:=F7 (show -8*((j:Int)-1)≤0 by omega);have c:pw (Bd t-1)≤pw 0:=by grind
  have:=Aa5 c;omega
 have t3:=h.t3;obtain ⟨a1,a2,a3⟩:=Sv (up:=up) p1 p2 hr hr1 hr2 h.t0 h.tb (by omega) t4 j1 (by omega);obtain ⟨b1,b2,b3⟩:=Aa0 (up:=up) p1 p2 hr rn hr1 hr2 h.t0 h.tn h.tb (by omega) t4 j1 (by omega);have hj:(1:Rat)≤(j:Rat):=by exact_mod_cast j1
 have hji:(0:Rat)<(j:Rat)⁻¹:=Rat.inv_pos.2 (by grind);have hjm:(j:Rat)*(j:Rat)⁻¹=1:=Rat.mul_inv_cancel _ (by grind);have hji1:(j:Rat)⁻¹≤1:=by
  have:=Rat.mul_le_mul_of_nonneg_right hj (Rat.le_of_lt hji);grind
 have tr0:0<t.q*r.q:=Rat.mul_pos tp rp;have hle:t.q*r.q/(j:Rat)≤t.q*r.q:=by
  rw [Rat.div_def];have:=Rat.mul_le_mul_of_nonneg_left hji1 (Rat.le_of_lt tr0);grind
 refine ⟨a1,b1,a2,?_,b3,?_⟩
 ·refine Ll b2 (Ii p1 _) (Rat.le_trans hle ?_);have e:-8*(j:Int)=-8*((j:Int)-1)+-8:=by omega
  rw [e,Es];have c1:=Rat.mul_le_mul_of_nonneg_right h.t2 (Rat.le_of_lt rp);have c2:=Rat.mul_le_mul_of_nonneg_left (Rat.le_of_lt rt) (Df (-8*((j:Int)-1)));exact Rat.le_trans c1 c2
 ·have hd:=h.dir;have hm:∀ {x y:Rat},x≤y→x*r.q/(j:Rat)≤y*r.q/(j:Rat):=fun hxy=>by
   rw [Rat.div_def,Rat.div_def];exact Rat.mul_le_mul_of_nonneg_right (Rat.mul_le_mul_of_nonneg_right hxy (Rat.le_of_lt rp)) (Rat.le_of_lt hji)
  rw [Air _ j1];cases up with
  | true =>
    rw [if_pos rfl] at hd
    show _≤_
    exact Rat.le_trans (hm hd.1) (IsUp.le b2)
  | false =>
    rw [if_neg (by decide)] at hd
    show _≤_
    exact Rat.le_trans (IsDown.le b2) (hm hd.1)
theorem NI.next {r:Dy}(p1:17≤p)(p2:p≤2000)(hr:r.m≠0)(rn:r.neg=false)(hr1:-500≤r.e)(hr2:Bd r≤-8)(j1:1≤j)(j2:j≤499)(h:NI p up r.q j s t) :
 (s.q+(Ck p up r t j).q<2)∧(-4095≤(Ck p up r t j).e→(Ea p up s (Ck p up r t j)).m≠0∧(Ea p up s (Ck p up r t j)).neg=false∧bl (Ea p up s (Ck p up r t j)).m≤p∧1≤(Ea p up s (Ck p up r t j)).q ∧
   (Ea p up s (Ck p up r t j)).q≤(sB (j+1):Rat)*pw (-16)∧(if up then eS r.q (j+1)≤(Ea p up s (Ck p up r t j)).q else (Ea p up s (Ck p up r t j)).q≤eS r.q (j+1))) ∧
   ((Ck p up r t j).e < -4095→Ea p up s (Ck p up r t j)=dz):=by
 obtain ⟨a1,a2,a3,a4,a5,a6⟩:=Qg (up:=up) (s:=s) (by omega) p2 hr rn hr1 hr2 j1 (by omega) h;have tk:(Ck p up r t j).Ok:=(Jy _ _ _ _).1;generalize Ck p up r t j=t' at *;have hs:=h.s2;have hb:=Ajv j1;have hb2:=Akr (show j+1≤500 by omega);have hsum:s.q+t'.q≤(sB (j+1):Rat)*pw (-16):=by grind
 have hlt:s.q+t'.q<2:=by grind
 have tp:=Yr a1 a2;obtain ⟨c1,c2⟩:=Acg (up:=up) (by omega) p2 h.s0 h.sn h.sb h.s1 a1 a2 tk hlt;refine ⟨hlt,fun he=>?_,c2⟩;obtain ⟨d1,d2,d3,d4⟩:=c1 he;refine ⟨d3,d2,d4,?_,Ll d1 (Aju (by omega) p1) hsum,?_⟩
 ·have:=h.s1;exact Mk d1 (Gi (by omega)) (by grind)
 ·have hd:=h.dir;have e:eS r.q (j+1)=eS r.q j+eT r.q j:=rfl;rw [e];cases up with
  | true =>
    have hd2:eT r.q (j-1)≤t.q∧eS r.q j≤s.q:=hd;have a6':eT r.q j≤t'.q:=a6
    show _≤_
    have:=IsUp.le d1;grind
  | false =>
    have hd2:t.q≤eT r.q (j-1)∧s.q≤eS r.q j:=hd;have a6':t'.q≤eT r.q j:=a6
    show _≤_
    have:=IsDown.le d1;grind
def Rt (p:Nat) (r x:Dy):Prop:=(x=dz∧Bd r < -60∨x.m≠0∧x.neg=false∧bl x.m≤p∧1≤x.q∧x.q<2)∧∃ n,1≤n∧x.q≤eS r.q n
def Rs (p:Nat) (r x:Dy):Prop:=x.m≠0∧x.neg=false∧bl x.m≤p∧(Bd r < -60∧x.q≤1/2∧-6000≤Bd x∨1≤x.q∧x.q<2∧∀ n,eS r.q n≤x.q)
theorem Agl {r:Dy}(p1:17≤p)(p2:p≤2000)(hr:r.m≠0)(rn:r.neg=false)(hr1:-500≤r.e)(hr2:Bd r≤-8)(j1:1≤j)(j2:j≤498)(h:NI p up r.q j s t) :
 if up then Rs p r (Jb p up (Ea p up s (Ck p up r t j),Ck p up r t j)) else Rt p r (Jb p up (Ea p up s (Ck p up r t j),Ck p up r t j)):=by
 obtain ⟨a1,a2,a3,a4,a5,a6⟩:=Qg (up:=up) (s:=s) (by omega) p2 hr rn hr1 hr2 j1 (by omega) h;obtain ⟨b1,b2,b3⟩:=h.next p1 p2 hr rn hr1 hr2 j1 (by omega);have tk:(Ck p up r t j).Ok:=(Jy _ _ _ _).1;have t3:=h.t3;generalize Ck p up r t j=t' at *;have rp:=Yr hr rn;have tp:=Yr a1 a2;have rt:r.q≤1/2:=by
  have:=(Kc hr rn).2;have:=F7 (show Bd r≤-1 by omega);have e:=Yp;grind
 have a5':Bd t+Bd r-25≤(bl t'.m:Int)+t'.e:=a5;by_cases he:-4095≤t'.e
 ·obtain ⟨c1,c2,c3,c4,c5,c6⟩:=b2 he;have hb2:=Akr (show j+1≤500 by omega);cases up with
  | false =>
    show Rt _ _ _
    refine ⟨.inr ⟨c1,c2,c3,c4,?_⟩,j+1,by omega,c6⟩
    show (Ea p false s t').q<2
    grind
  | true =>
    show Rs p r (Ea p true (Ea p true s t') t')
    have a6':eT r.q j≤t'.q:=a6;have c6':eS r.q (j+1)≤(Ea p true s t').q:=c6;have t8:t'.q≤pw (-8):=Rat.le_trans a4 (F7 (by omega));have e8:=Ani;generalize Ea p true s t'=s' at *;have c5':=Rat.le_trans c5 hb2;have t8':t'.q≤1/256:=by rw [←e8];exact t8
    clear hb2 c5 t8 e8 b1 b2 b3 a4 a5' h a5;obtain ⟨d1,-⟩:=Acg (up:=true) (by omega) p2 c1 c2 c3 c4 a1 a2 tk (by grind);obtain ⟨f1,f2,f3,f4⟩:=d1 he;have hup:=IsUp.le f1;refine ⟨f3,f2,f4,.inr ⟨by grind,?_,fun n=>?_⟩⟩
    ·have hf:Fits p (3/2):=by
      have:=(Kq (p:=p) (m:=3) (Nat.le_trans (Fl 3 2 (by decide)) (by omega))).pw (-1);have e:((3:Nat):Rat)*pw (-1)=3/2:=by decide +kernel
      rwa [e] at this
     have:=Ll f1 hf (by grind);grind
    ·have:=Aip (Rat.le_of_lt rp) rt j n;grind
 ·have h0:=b3 (by omega);have hr60:Bd r < -60:=by omega
  cases up with
  | false =>
    show Rt _ _ _
    refine ⟨.inl ⟨h0,hr60⟩,1,by omega,?_⟩
    show (Ea p false s t').q≤_
    rw [h0,Xr,Aaj]
    decide
  | true =>
    show Rs p r (Ea p true (Ea p true s t') t')
    rw [h0];have e:Ea p true dz t'=Ia p true t':=by
     unfold Ea Dq;rw [if_pos (show dz.m=0 from rfl)];rfl
    rw [e];have tt:Bd t'≤0:=by
     have c:=(Kc a1 a2).1;have d:=F7 (show -8*(j:Int)≤-8 by omega);have f:pw (Bd t'-1)≤pw (-8):=by grind
     have:=Aa5 f;omega
    have hr3:Bd r=(bl r.m:Int)+r.e:=rfl;have te:-5000≤t'.e:=by omega
    obtain ⟨c1,c2,c3,c4⟩:=Ta (up:=true) (by omega) p2 a1 (by omega) (by omega);refine ⟨c3,c2.trans a2,c4,.inl ⟨hr60,?_,?_⟩⟩
    ·have f2:=Ii (p:=p) (by omega) (-1);have e2:=Yp;rw [←e2];exact Ll c1 f2 (Rat.le_trans a4 (F7 (by omega)))
    ·have u1:=Mk c1 (Ii (by omega) (Bd t'-1)) (Kc a1 a2).1;have:=Wy c3 (c2.trans a2) u1;have e3:Bd t'=(bl t'.m:Int)+t'.e:=rfl;omega
theorem Wl {p:Nat}{up:Bool}{r:Dy}(p1:17≤p)(p2:p≤2000)(hr:r.m≠0)(rn:r.neg=false)(hr1:-500≤r.e)(hr2:Bd r≤-8):∀ (f j:Nat) (s t:Dy) (o:Dy × Dy),NI p up r.q j s t→1≤j→j+f≤498→Gd p up r f j s t=some o →
 if up then Rs p r (Jb p up o) else Rt p r (Jb p up o)
 | 0,j,s,t,o,_,_,_,h=>by simp [Gd] at h
 | f + 1, j, s, t, o, hI, j1, j2, h => by
   rw [Gd] at h;split at h
   ·obtain rfl:=Option.some.inj h;exact Agl p1 p2 hr rn hr1 hr2 j1 (by omega) hI
   ·rename_i hc;obtain ⟨a1,a2,a3,a4,a5,a6⟩:=Qg (up:=up) (s:=s) (by omega) p2 hr rn hr1 hr2 j1 (by omega) hI;obtain ⟨b1,b2,b3⟩:=hI.next p1 p2 hr rn hr1 hr2 j1 (by omega);have he:-4095≤(Ck p up r t j).e:=by
     have:¬(bl (Ck p up r t j).m:Int)+(Ck p up r t j).e < -(p:Int)-8:=hc;omega
    obtain ⟨c1,c2,c3,c4,c5,c6⟩:=b2 he;refine Wl p1 p2 hr rn hr1 hr2 f (j+1) _ _ o ⟨c1,c2,c3,c4,c5,a1,a2,a3,?_,by omega,?_⟩ (by omega) (by omega) h
    ·have e:-8*(((j+1:Nat):Int)-1)=-8*(j:Int):=by omega
     rw [e];exact a4
    ·cases up with
     | true=>exact ⟨a6,c6⟩
     | false=>exact ⟨a6,c6⟩
end Go.Proofs.YtabjjdicffcolaaGreatDoor
