/- Words and contracts, part 29. -/
import Derived.Test.YtmgaloopddiekaaGreatDoorClaimFargsp28
set_option maxRecDepth 100000
set_option maxHeartbeats 0
namespace Go.Proofs.YtmgaloopddiekaaGreatDoor
open Go.Lib (hid)
open Go.RowKit
structure Ln where
 op:Int
 a:Int
 b:Int
 k:RawI
structure En where
 t:RawI
 x:List RawI
 u:List RawI
 p:List RawI
def J4 (op:Int):Int :=
 if op=1∨op=2∨op=3∨op=4∨op=5 then 0 else if op=6∨op=7∨op=8∨op=9 then 2 else if op=10∨op=11∨op=12∨op=13 then 1 else -1
def Cd (n most:Int):Bool:=decide (0≤n)&&decide (n<most)
def Kp (a b:RawI):Bool:=Ka a.lo b.lo&&Ka a.hi b.hi
def Gq (l:Ln) (at':Int) (x u p:Int):Bool :=
 if l.op=1 then Ck l.k&&(decide (l.a=0)&&decide (l.b=0)) else
 if Kp l.k rzI=false then false else
 if l.op=2 then decide (l.a=0)&&decide (l.b=0) else
 if l.op=3 then Cd l.a x&&decide (l.b=0) else
 if l.op=4 then Cd l.a u&&decide (l.b=0) else
 if l.op=5 then Cd l.a p&&decide (l.b=0) else
 if l.op=6∨l.op=7∨l.op=8∨l.op=9 then Cd l.a at'&&Cd l.b at' else
 if l.op=10∨l.op=11∨l.op=12∨l.op=13 then Cd l.a at'&&decide (l.b=0) else false
def M0 (x u p:Int):Nat→List Ln→Bool
 | _,[]=>true
 | i,l::ls=>Gq l i x u p&&M0 x u p (i+1) ls
def Hk (ls:List Ln) (outs:List Int) (x u p:Int):Bool :=
 decide (ls.length≤200)&&decide (outs.length≤200)&&M0 x u p 0 ls&&outs.all fun n=>Cd n ls.length
def Sr (e:En):Bool:=Ck e.t&&e.x.all Ck&&e.u.all Ck&&e.p.all Ck
def De (a:Iv) (p:Nat):Outc Iv:=Gp (Eh a.lo p false) (Eh a.hi p true)
def I8 (ov:Iv→Nat→Outc Iv) (op:Int) (a b:Iv) (p:Nat):Outc Iv :=
 if op=6 then Gf a b p else if op=7 then Xs a b p else if op=8 then Fs a b p else if op=9 then Fp a b p else
 if op=10 then Z6 a p else if op=11 then Aan a p else if op=12 then Ru a p else ov a p
def atI (l:List RawI) (n:Int):Iv:=(l.getD n.toNat rzI).iv
def Dr (ov:Iv→Nat→Outc Iv) (e:En) (p:Nat) (out:List RawI) (l:Ln):Outc Iv :=
 if l.op=1 then De l.k.iv p else if l.op=2 then De e.t.iv p else if l.op=3 then De (atI e.x l.a) p else
 if l.op=4 then De (atI e.u l.a) p else if l.op=5 then De (atI e.p l.a) p else I8 ov l.op (atI out l.a) (atI out l.b) p
def Eo (ov:Iv→Nat→Outc Iv) (e:En) (p:Nat):List RawI→List Ln→Outc (List RawI)
 | out,[]=>⟨out,0⟩
 | out,l::ls=>if (Dr ov e p out l).k=0 then Eo ov e p (out++[(Dr ov e p out l).v.raw]) ls else ⟨[],(Dr ov e p out l).k⟩
def Kb (ov:Iv→Nat→Outc Iv) (ls:List Ln) (outs:List Int) (e:En) (p:Int):Outc (List RawI) :=
 if 1≤p∧p≤300∧Hk ls outs e.x.length e.u.length e.p.length=true∧Sr e=true then Eo ov e p.toNat [] ls else ⟨[],1⟩
def Yl (ov:Iv→Nat→Outc Iv) (ls:List Ln) (outs:List Int) (e:En) (p:Int):Outc (List RawI) :=
 if (Kb ov ls outs e p).k=0 then ⟨outs.map fun n=>(Kb ov ls outs e p).v.getD n.toNat rzI,0⟩ else ⟨[],(Kb ov ls outs e p).k⟩
theorem G5 {a:Iv}(ha:a.Ok){p:Nat}(hp:1≤p):OkI (De a p):=by
 unfold De;refine Ji (G8 _ _ _) (G8 _ _ _) fun k1 k2=>?_
 have d1:=(Jh hp k1).le;have d2:=(Mo hp k2).le;have:=ha.le;grind
def Cl (l:List RawI):Prop:=∀ a∈l,a.iv.Ok∧a.iv.raw=a
theorem Wd {a:Iv}(h:a.Ok):a.raw.iv.Ok∧a.raw.iv.raw=a.raw:=by rw [Iv.raw_iv];exact ⟨h,rfl⟩
theorem Cl.snoc {l:List RawI}{a:Iv}(h:Cl l)(ha:a.Ok):Cl (l++[a.raw]):=by
 intro x hx;rcases List.mem_append.1 hx with hx | hx
 ·exact h x hx
 ·simp at hx;subst hx;exact Wd ha
theorem Aih:rzI.iv=iz:=rfl
theorem Cl.at {l:List RawI}(h:Cl l)(n:Int):(atI l n).Ok:=by
 unfold atI;rw [List.getD_eq_getElem?_getD];cases hi:l[n.toNat]? with
 | none=>simp only [Option.getD_none];rw [Aih];exact Yq
 | some a=>simp only [Option.getD_some];exact (h a (List.mem_of_getElem? hi)).1
structure En.Cl (e:En):Prop where
 t:e.t.iv.Ok∧e.t.iv.raw=e.t
 x:Go.Proofs.YtmgaloopddiekaaGreatDoor.Cl e.x
 u:Go.Proofs.YtmgaloopddiekaaGreatDoor.Cl e.u
 p:Go.Proofs.YtmgaloopddiekaaGreatDoor.Cl e.p
theorem Agb {ov:Iv→Nat→Outc Iv}{op:Int}{a b:Iv}(ha:a.Ok)(hb:b.Ok){p:Nat}(hp:1≤p)(hov:¬(6≤op∧op≤12)→OkI (ov a p)):OkI (I8 ov op a b p):=by
 unfold I8;split
 ·exact X0 ha hb hp
 split
 ·exact Agq ha hb hp
 split
 ·exact Af1 hp
 split
 ·exact Ye hb hp
 split
 ·exact Af5 ha hp
 split
 ·exact Ago hp
 split
 ·exact Ad6 ha hp
 ·exact hov (by omega)
def LnAt (w:World) (b o:Nat) (l:Ln):Prop:=w.cell? ⟨b,o,none⟩=some (.int .i64 l.op)∧w.cell? ⟨b,o+1,none⟩=some (.int .i64 l.a)∧w.cell? ⟨b,o+2,none⟩=some (.int .i64 l.b)∧IvAt w b (o+3) l.k
def LnS (w:World) (v:Value) (ls:List Ln):Prop:=∃ A c,v=.slice A ls.length c∧ls.length≤c∧(0<ls.length→∃ b off,A=some ⟨b,off,none⟩∧∀ i l,ls[i]?=some l→LnAt w b (off+i*9) l)
def InS (w:World) (v:Value) (ns:List Int):Prop:=∃ A c,v=.slice A ns.length c∧ns.length≤c∧(0<ns.length→∃ b off,A=some ⟨b,off,none⟩∧∀ i n,ns[i]?=some n→w.cell? ⟨b,off+i,none⟩=some (.int .i64 n))
theorem LnAt.kept {w w':World}{b o:Nat}{l:Ln}(h:LnAt w b o l)(k:Kept w w'):LnAt w' b o l:=by
 obtain ⟨h0,h1,h2,h3⟩:=h;have hb:=Bg h0;exact ⟨(k.cell (p:=⟨b,o,none⟩) hb).trans h0,(k.cell (p:=⟨b,o+1,none⟩) hb).trans h1,(k.cell (p:=⟨b,o+2,none⟩) hb).trans h2,h3.kept k⟩
theorem LnS.kept {w w':World}{v:Value}{l:List Ln}(h:LnS w v l)(k:Kept w w'):LnS w' v l:=by
 obtain ⟨A,c,rfl,hc,hA⟩:=h;refine ⟨A,c,rfl,hc,fun h0=>?_⟩;obtain ⟨b,off,rfl,hd⟩:=hA h0;exact ⟨b,off,rfl,fun i d hi=>(hd i d hi).kept k⟩
theorem InS.kept {w w':World}{v:Value}{l:List Int}(h:InS w v l)(k:Kept w w'):InS w' v l:=by
 obtain ⟨A,c,rfl,hc,hA⟩:=h;refine ⟨A,c,rfl,hc,fun h0=>?_⟩;obtain ⟨b,off,rfl,hd⟩:=hA h0;exact ⟨b,off,rfl,fun i d hi=>(k.cell (p:=⟨b,off+i,none⟩) (Bg (hd i d hi))).trans (hd i d hi)⟩
def TpR (w:World) (v:Value) (ls:List Ln) (outs:List Int):Prop:=∃ s o,v=.agg #[s,o]∧LnS w s ls∧InS w o outs
def EnR (w:World) (v:Value) (e:En):Prop:=∃ x y z x' y' z' sx su sp,v=.agg #[x,y,z,x',y',z',sx,su,sp]∧IvR w (.agg #[x,y,z,x',y',z']) e.t∧IvS w sx e.x∧IvS w su e.u∧IvS w sp e.p
theorem TpR.kept {w w':World}{v:Value}{ls:List Ln}{outs:List Int}(h:TpR w v ls outs)(k:Kept w w'):TpR w' v ls outs:=by
 obtain ⟨s,o,rfl,h1,h2⟩:=h;exact ⟨s,o,rfl,h1.kept k,h2.kept k⟩
theorem EnR.kept {w w':World}{v:Value}{e:En}(h:EnR w v e)(k:Kept w w'):EnR w' v e:=by
 obtain ⟨x,y,z,x',y',z',sx,su,sp,rfl,h1,h2,h3,h4⟩:=h;exact ⟨x,y,z,x',y',z',sx,su,sp,rfl,h1.kept k,h2.kept k,h3.kept k,h4.kept k⟩
theorem IvR.cells {w:World}{x y z x' y' z':Value}{a:RawI}(h:IvR w (.agg #[x,y,z,x',y',z']) a):∀ u∈[x,y,z,x',y',z'],Bv u∧u.oneCell'=true:=by
 obtain ⟨A,l,c,A',l',c',e,-,-⟩:=Ar h;injection e with e;injection e with e
 simp only [List.cons.injEq,and_true] at e;obtain ⟨rfl,rfl,rfl,rfl,rfl,rfl⟩:=e;intro u hu;simp at hu;rcases hu with rfl | rfl | rfl | rfl | rfl | rfl
 ·exact ⟨An _,rfl⟩
 ·exact ⟨Ak _ _ _,rfl⟩
 ·exact ⟨Aq _,rfl⟩
 ·exact ⟨An _,rfl⟩
 ·exact ⟨Ak _ _ _,rfl⟩
 ·exact ⟨Aq _,rfl⟩
theorem IvR.grown {w w':World}{v:Value}{a:RawI}{row:Option Nat}(h:IvR w v a)(hg:w.grownBy w' row)(hN:∀ g,row=some g→NoL w g):IvR w' v a:=by
 obtain ⟨x,y,z,x',y',z',rfl,h1,h2⟩:=h;exact ⟨x,y,z,x',y',z',rfl,h1.grown hg hN,h2.grown hg hN⟩
structure OwnI (w:World) (base:Nat) (v:Value) (l:List RawI) (xs:List Value):Prop where
 row:w.ownsRow base 51 6 v l.length xs
 nl:∀ u∈xs,Bv u
 one:∀ u∈xs,u.oneCell'=true
 blk:∀ g,v.ownBlock=some g→NoL w g
 ivs:∀ i a,l[i]?=some a→∃ x y z x' y' z',xs[i*6]?=some x∧xs[i*6+1]?=some y∧xs[i*6+2]?=some z∧xs[i*6+3]?=some x'∧xs[i*6+4]?=some y'∧xs[i*6+5]?=some z'∧IvR w (.agg #[x,y,z,x',y',z']) a
theorem OwnI.nil (w:World)(base:Nat):OwnI w base (.slice none 0 0) [] [] :=
 ⟨World.ownsRow_nil _ _ _ _,by simp,by simp,(by intro g h;simp [Value.ownBlock] at h),by simp⟩
theorem OwnI.kept {w w':World}{base:Nat}{v:Value}{l:List RawI}{xs:List Value}(h:OwnI w base v l xs)(k:Kept w w'):OwnI w' base v l xs:=by
 obtain ⟨h1,h2,h2',h3,h4⟩:=h;refine ⟨⟨h1.1,?_⟩,h2,h2',?_,?_⟩
 ·rcases h1.2 with hn | ⟨g,cap,cur,rfl,hb,hg,rest⟩
  ·exact .inl hn
  ·exact .inr ⟨g,cap,cur,rfl,hb,(k.block g (Array.getElem?_eq_some_iff.1 hg).1).trans hg,rest⟩
 ·intro g hg;have:=h3 g hg;obtain ⟨cur,e,q1,q2⟩:=this;exact ⟨cur,e,(k.block g (Array.getElem?_eq_some_iff.1 q1).1).trans q1,q2⟩
 ·intro i d hi;obtain ⟨x,y,z,x',y',z',a0,a1,a2,a3,a4,a5,hd⟩:=h4 i d hi;exact ⟨x,y,z,x',y',z',a0,a1,a2,a3,a4,a5,hd.kept k⟩
theorem OwnI.ivS {w:World}{base:Nat}{v:Value}{l:List RawI}{xs:List Value}(h:OwnI w base v l xs):IvS w v l:=by
 obtain ⟨h1,h2,h2',h3,h4⟩:=h;have hc:=h1.2;rcases hc with ⟨rfl,h0⟩ | ⟨g,cap,cur,rfl,hb,hg,hn,-⟩
 ·obtain rfl:l=[]:=List.eq_nil_of_length_eq_zero h0;exact ⟨none,0,rfl,Nat.le_refl _,fun h=>absurd h (by simp)⟩
 ·refine ⟨_,cap,rfl,hn,fun _=>⟨g,0,rfl,fun i d hi=>?_⟩⟩;obtain ⟨x,y,z,x',y',z',a0,a1,a2,a3,a4,a5,hd⟩:=h4 i d hi;have cl:=h1.cells (g:=g) rfl;have ad:∀ j,(⟨g,0,none⟩:Addr).add j=⟨g,j,none⟩:=by intro j;unfold Addr.add;split<;>simp_all
  refine ⟨x,y,z,x',y',z',?_,?_,?_,?_,?_,?_,hd⟩
  ·have:=cl _ _ a0;rw [ad] at this;simpa using this
  ·have:=cl _ _ a1;rw [ad] at this;simpa using this
  ·have:=cl _ _ a2;rw [ad] at this;simpa using this
  ·have:=cl _ _ a3;rw [ad] at this;simpa using this
  ·have:=cl _ _ a4;rw [ad] at this;simpa using this
  ·have:=cl _ _ a5;rw [ad] at this;simpa using this
theorem OwnI.snoc {w w':World}{base:Nat}{v v':Value}{l:List RawI}{xs:List Value}{a:RawI}{x y z x' y' z':Value}{g':Nat}(h:OwnI w base v l xs)
 (hd:IvR w (.agg #[x,y,z,x',y',z']) a)
 (hr:w'.ownsRow base 51 6 v' (l.length+1) (xs++[x,y,z,x',y',z'])) (hg:w.grownBy w' v.ownBlock) (hv':v'.ownBlock=some g') (hN:NoL w' g') :
 OwnI w' base v' (l++[a]) (xs++[x,y,z,x',y',z']):=by
 have hcl:=hd.cells;obtain ⟨h1,h2,h2',h3,h4⟩:=h;refine ⟨by simpa using hr,?_,?_,?_,?_⟩
 ·intro u hu;rcases List.mem_append.1 hu with hu | hu
  ·exact h2 u hu
  ·exact (hcl u hu).1
 ·intro u hu;rcases List.mem_append.1 hu with hu | hu
  ·exact h2' u hu
  ·exact (hcl u hu).2
 ·intro g hg;rw [hv'] at hg;cases hg;exact hN
 ·intro i e hi;have hxl:=h1.1;by_cases hlt:i<l.length
  ·rw [List.getElem?_append_left hlt] at hi;obtain ⟨x,y,z,x',y',z',a0,a1,a2,a3,a4,a5,hd'⟩:=h4 i e hi;have hh:=(List.getElem?_eq_some_iff.1 a5).1;refine ⟨x,y,z,x',y',z',?_,?_,?_,?_,?_,?_,hd'.grown hg h3⟩
   ·rw [List.getElem?_append_left (by omega)];exact a0
   ·rw [List.getElem?_append_left (by omega)];exact a1
   ·rw [List.getElem?_append_left (by omega)];exact a2
   ·rw [List.getElem?_append_left (by omega)];exact a3
   ·rw [List.getElem?_append_left (by omega)];exact a4
   ·rw [List.getElem?_append_left (by omega)];exact a5
  ·rw [List.getElem?_append_right (by omega)] at hi;obtain ⟨hz,he⟩:=List.getElem?_eq_some_iff.1 hi;simp at hz;have hi':i=l.length:=by omega
   subst hi';simp at he;subst he;refine ⟨x,y,z,x',y',z',?_,?_,?_,?_,?_,?_,hd.grown hg h3⟩
   ·rw [List.getElem?_append_right (by omega),hxl,show l.length*6-l.length*6=0 by omega];rfl
   ·rw [List.getElem?_append_right (by omega),hxl,show l.length*6+1-l.length*6=1 by omega];rfl
   ·rw [List.getElem?_append_right (by omega),hxl,show l.length*6+2-l.length*6=2 by omega];rfl
   ·rw [List.getElem?_append_right (by omega),hxl,show l.length*6+3-l.length*6=3 by omega];rfl
   ·rw [List.getElem?_append_right (by omega),hxl,show l.length*6+4-l.length*6=4 by omega];rfl
   ·rw [List.getElem?_append_right (by omega),hxl,show l.length*6+5-l.length*6=5 by omega];rfl
theorem Ps:(Tryz.prog.info? 51).map (fun i=>(i.zero,i.size,i.bytes))=some (some (.agg #[.bool false,.slice none 0 0,.int .i64 0,.bool false,.slice none 0 0,.int .i64 0]),6,80):=by kernel_rfl
theorem Ic:∀ u∈(Value.agg #[.bool false,.slice none 0 0,.int .i64 0,.bool false,.slice none 0 0,.int .i64 0]).cells.toList,Bv u:=by
 intro u hu;simp [Value.cells] at hu;rcases hu with rfl | rfl | rfl | rfl | rfl | rfl
 ·exact An _
 ·exact Ak _ _ _
 ·exact Aq _
 ·exact An _
 ·exact Ak _ _ _
 ·exact Aq _
theorem Ni {w:World}{o:Oper}{a:Act}{K:Act→World→Prop}{Q:Exit→Act→World→Prop}(s x:Operand)
 (ho:o.op=.call { callee:=.builtin .append,args:=#[s,x],argTypes:=#[26,26] })
 {base:Nat} {v:Value} {l:List RawI} {xs:List Value} (hs:a.eval s=v) (hown:OwnI w base v l xs) {d:RawI} {x0 x1 x2 x3 x4 x5:Value} {b:Nat}
 (hd:IvR w (.agg #[x0,x1,x2,x3,x4,x5]) d) (hb:BlkI w b x0 x1 x2 x3 x4 x5) (hx:a.eval x=.slice (some ⟨b,0,none⟩) 1 1)
 (hl:l.length≤1000) (hbase:base≤w.heap.size)
 (h:∀ v' w',OwnI w' base v' (l++[d]) (xs++[x0,x1,x2,x3,x4,x5])→w.grownBy w' v.ownBlock→K (a.put o.dst v') w'):o.wp Tryz.prog a w K Q:=by
 obtain ⟨i0,hi,hz0,hz1,hz2⟩:=info_parts Ps;obtain ⟨-,c0,c1,c2,c3,c4,c5⟩:=hb.facts;have hcl:=hd.cells;have ad:∀ j,(⟨b,0,none⟩:Addr).add j=⟨b,j,none⟩:=by intro j;unfold Addr.add;split<;>simp_all
 refine Lz s x _ ho base 51 i0 _ 6 80 Tryz.underlying26 hi hz0 hz1 hz2 rfl (by decide) v l.length xs hs hown.row _ 1 1 [x0,x1,x2,x3,x4,x5] hx rfl ?_ (fun u hu=>(hcl u hu).2) (by unfold maxLen;omega) (by omega) hbase (by decide) hown.nl (fun u hu=>(hcl u hu).1) Ic hown.blk ?_
 ·intro j u hu;rw [ad];rcases j with _ | _ | _ | _ | _ | _ | j
  ·cases hu;exact c0
  ·cases hu;exact c1
  ·cases hu;exact c2
  ·cases hu;exact c3
  ·cases hu;exact c4
  ·cases hu;exact c5
  ·simp at hu
 ·intro v' w' g' q1 q2 q3 q4;exact h v' w' (hown.snoc hd q1 q2 q3 q4) q2
structure KB (W:World) (X:List Nat) (w:World):Prop where
 os:w.os=W.os
 tape:w.tape=W.tape
 output:w.output=W.output
 size:W.heap.size≤w.heap.size
 block:∀ b,b<W.heap.size→b∉X→w.heap[b]?=W.heap[b]?
 limb:∀ b i x,W.cell? ⟨b,i,none⟩=some (.int .u64 x)→w.cell? ⟨b,i,none⟩=some (.int .u64 x)
theorem Ot {w:World}{b i:Nat}{v:Value}{cur:Array Value}{T:TypeId}{z:Nat × Nat}(h:w.heap[b]?=some (.cells cur T z))(hc:w.cell? ⟨b,i,none⟩=some v):cur[i]?=some v:=by
 simpa [World.cell?,h] using hc
theorem Kept.kb {w w':World}(k:Kept w w')(X:List Nat):KB w X w' :=
 ⟨k.os,k.tape,k.output,k.size,fun b hb _=>k.block b hb,fun b i _ h=>(k.cell (p:=⟨b,i,none⟩) (Bg h)).trans h⟩
theorem KB.refl (w:World)(X:List Nat):KB w X w:=Kept.kb (Below.refl _ _) X
theorem KB.trans {a b c:World}{X Y:List Nat}(h:KB a X b)(k:KB b Y c)(hY:∀ y∈Y,y∈X∨a.heap.size≤y):KB a X c :=
 ⟨k.os.trans h.os, k.tape.trans h.tape, k.output.trans h.output, Nat.le_trans h.size k.size, fun i hi hn => by
  rw [k.block i (Nat.lt_of_lt_of_le hi h.size) (fun hy=>by rcases hY i hy with q | q;exact hn q;omega),h.block i hi hn],fun b i x hp=>k.limb b i x (h.limb b i x hp)⟩
theorem KB.step {a b c:World}{X:List Nat}(h:KB a X b)(k:Kept b c):KB a X c:=h.trans (k.kb []) (by simp)
theorem KB.drew {a b:World}{X:List Nat}(h:KB a X b):KB a X b.drew:=⟨h.os,h.tape,h.output,h.size,h.block,h.limb⟩
theorem KB.kept {W0 W w:World}{X:List Nat}(h:Kept W0 W)(k:KB W X w)(hX:∀ x∈X,W0.heap.size≤x):Kept W0 w :=
 ⟨k.os.trans h.os, k.tape.trans h.tape, k.output.trans h.output, Nat.le_trans h.size k.size, fun i hi => by
  rw [k.block i (Nat.lt_of_lt_of_le hi h.size) (fun hx=>by have:=hX i hx;omega),h.block i hi]⟩
theorem KB.nil {W w:World}(k:KB W [] w):Kept W w:=KB.kept (Below.refl _ _) k (by simp)
theorem KB.setCell {W w:World}{X:List Nat}{b i:Nat}{x:Value}(h:KB W X w)(hb:b∈X)(hc:w.cell? ⟨b,i,none⟩=some x)(hx:Bv x)(y:Value):KB W X (w.setCell ⟨b,i,none⟩ y) :=
 ⟨h.os, h.tape, h.output, by simpa [World.setCell] using h.size, fun k hk hn => by rw [Below.heap_setCell _ _ _ _ (fun e => hn (by subst e; exact hb))]; exact h.block k hk hn, fun p j v hp => by
  have h1:=h.limb p j v hp;rw [World.cell?_setCell_other]
  ·exact h1
  ·intro e;injection e with e1 e2
   subst e1;subst e2;rw [h1] at hc;exact hx v (by injection hc with e;exact e.symm)⟩
theorem KB.grown {W w w':World}{X:List Nat}{row:Option Nat}(h:KB W X w)(hg:w.grownBy w' row)(hX:∀ g,row=some g→g∈X∨W.heap.size≤g)(hN:∀ g,row=some g→NoL w g):KB W X w':=by
 refine ⟨hg.os.trans h.os,hg.tape.trans h.tape,hg.output.trans h.output,Nat.le_trans h.size hg.size,fun b hb hn=>?_,fun p j x hp=>?_⟩
 ·rw [hg.block b (Nat.lt_of_lt_of_le hb h.size) (fun e=>by rcases hX b e.symm with q | q;exact hn q;omega)];exact h.block b hb hn
 ·have h1:=h.limb p j x hp;refine hg.cell h1 ?_;intro he;obtain ⟨cur,e,q1,q2⟩:=hN p he.symm;have h4:=Ot q1 h1;exact q2 _ (Array.mem_toList_iff.2 (Array.mem_of_getElem? h4)) _ rfl
theorem Lim.kb {W w:World}{X:List Nat}{v:Value}{xs:List Nat}(h:Lim W v xs)(k:KB W X w):Lim w v xs:=by
 obtain ⟨hs,A,c,rfl,hc,hA⟩:=h;refine ⟨hs,A,c,rfl,hc,fun h0=>?_⟩;obtain ⟨b,off,rfl,hb,hd⟩:=hA h0;exact ⟨b,off,rfl,Nat.lt_of_lt_of_le hb k.size,fun i hi=>k.limb _ _ _ (hd i hi)⟩
theorem DyR.kb {W w:World}{X:List Nat}{v:Value}{r:Raw}(h:DyR W v r)(k:KB W X w):DyR w v r:=by
 obtain ⟨s,rfl,hs,h1,h2⟩:=h;exact ⟨s,rfl,hs.kb k,h1,h2⟩
theorem IvR.kb {W w:World}{X:List Nat}{v:Value}{a:RawI}(h:IvR W v a)(k:KB W X w):IvR w v a:=by
 obtain ⟨x,y,z,x',y',z',rfl,h1,h2⟩:=h;exact ⟨x,y,z,x',y',z',rfl,h1.kb k,h2.kb k⟩
theorem IvC.kb {W w:World}{X:List Nat}{v:Value}{a:Iv}(h:IvC W v a)(k:KB W X w):IvC w v a:=IvR.kb h k
theorem KB.cell {W w:World}{X:List Nat}(k:KB W X w){b i:Nat}{v:Value}(h:W.cell? ⟨b,i,none⟩=some v)(hn:b∉X):w.cell? ⟨b,i,none⟩=some v:=by
 have hb:=Bg h;rw [World.cell?_of_block (k.block b hb hn)];exact h
theorem IvAt.kb {W w:World}{X:List Nat}{b o:Nat}{a:RawI}(h:IvAt W b o a)(k:KB W X w)(hn:b∉X):IvAt w b o a:=by
 obtain ⟨x,y,z,x',y',z',h0,h1,h2,h3,h4,h5,hd⟩:=h;exact ⟨x,y,z,x',y',z',k.cell h0 hn,k.cell h1 hn,k.cell h2 hn,k.cell h3 hn,k.cell h4 hn,k.cell h5 hn,hd.kb k⟩
def Aa2 (v:Value) (X:List Nat):Prop:=∀ g,v.ownBlock=some g→g∉X
theorem IvS.kb {W w:World}{X:List Nat}{v:Value}{l:List RawI}(h:IvS W v l)(k:KB W X w)(hn:Aa2 v X):IvS w v l:=by
 obtain ⟨A,c,rfl,hc,hA⟩:=h;refine ⟨A,c,rfl,hc,fun h0=>?_⟩;obtain ⟨b,off,rfl,hd⟩:=hA h0;exact ⟨b,off,rfl,fun i d hi=>(hd i d hi).kb k (hn b rfl)⟩
theorem LnS.kb {W w:World}{X:List Nat}{v:Value}{l:List Ln}(h:LnS W v l)(k:KB W X w)(hn:Aa2 v X):LnS w v l:=by
 obtain ⟨A,c,rfl,hc,hA⟩:=h;refine ⟨A,c,rfl,hc,fun h0=>?_⟩;obtain ⟨b,off,rfl,hd⟩:=hA h0;refine ⟨b,off,rfl,fun i d hi=>?_⟩;obtain ⟨a0,a1,a2,a3⟩:=hd i d hi;exact ⟨k.cell a0 (hn b rfl),k.cell a1 (hn b rfl),k.cell a2 (hn b rfl),a3.kb k (hn b rfl)⟩
theorem InS.kb {W w:World}{X:List Nat}{v:Value}{l:List Int}(h:InS W v l)(k:KB W X w)(hn:Aa2 v X):InS w v l:=by
 obtain ⟨A,c,rfl,hc,hA⟩:=h;refine ⟨A,c,rfl,hc,fun h0=>?_⟩;obtain ⟨b,off,rfl,hd⟩:=hA h0;exact ⟨b,off,rfl,fun i d hi=>k.cell (hd i d hi) (hn b rfl)⟩
theorem BlkI.kb {W w:World}{X:List Nat}{b:Nat}{x y z x' y' z':Value}(h:BlkI W b x y z x' y' z')(k:KB W X w)(hn:b∉X):BlkI w b x y z x' y' z' :=
 (k.block b (Array.getElem?_eq_some_iff.1 h).1 hn).trans h
theorem Blk.kb {W w:World}{X:List Nat}{b:Nat}{x y z:Value}(h:Blk W b x y z)(k:KB W X w)(hn:b∉X):Blk w b x y z :=
 (k.block b (Array.getElem?_eq_some_iff.1 h).1 hn).trans h
theorem KB.blk {W w:World}{X:List Nat}(k:KB W X w){b:Nat}{o:Obj}(h:W.heap[b]?=some o)(hn:b∉X):w.heap[b]?=some o :=
 (k.block b (Array.getElem?_eq_some_iff.1 h).1 hn).trans h
theorem Tab.kb {W w:World}{X:List Nat}(h:Tab W)(k:KB W X w)(hX:0∉X):Tab w:=fun j hj=>k.cell (h j hj) hX
theorem Tab.ne {w:World}{b:Nat}{v:Value}(h:Tab w)(hc:w.cell? ⟨b,0,none⟩=some v)(hv:∀ y,v≠.int .u8 y):0≠b:=by
 intro e;subst e;have h0:=h 0 (by decide);rw [hc] at h0;injection h0 with h0
 exact hv _ h0
theorem Tab.lt {w:World}(h:Tab w):0<w.heap.size:=Bg (h 0 (by decide))
theorem Cn {W w:World}{X:List Nat}{b:Nat}{cs:Array Value}{T:TypeId}(h:W.heap[b]?=some (.cells cs T (0,0)))(k:KB W X w)(hn:b∉X)(i:Nat)(v:Value)(hi:cs[i]?=some v):w.cell? ⟨b,i,none⟩=some v :=
 Ag ((k.block b (Array.getElem?_eq_some_iff.1 h).1 hn).trans h) i v hi
theorem c6X {W w:World}{X:List Nat}{b:Nat}{x0 x1 x2 x3 x4 x5:Value}{T:TypeId}(h:W.heap[b]?=some (.cells #[x0,x1,x2,x3,x4,x5] T (0,0)))(k:KB W X w)(hn:b∉X) :
 w.cell? ⟨b,0,none⟩=some x0∧w.cell? ⟨b,1,none⟩=some x1∧w.cell? ⟨b,2,none⟩=some x2∧w.cell? ⟨b,3,none⟩=some x3∧w.cell? ⟨b,4,none⟩=some x4∧w.cell? ⟨b,5,none⟩=some x5 :=
 ⟨Cn h k hn 0 _ rfl,Cn h k hn 1 _ rfl,Cn h k hn 2 _ rfl,Cn h k hn 3 _ rfl,Cn h k hn 4 _ rfl,Cn h k hn 5 _ rfl⟩
theorem KB.ivW {W w:World}{X:List Nat}{b:Nat}{n n':Bool}{A A':Option Addr}{l c l' c':Nat}{e e':Int}(h:KB W X w)(hb:BlkI w b (.bool n) (.slice A l c) (.int .i64 e) (.bool n') (.slice A' l' c') (.int .i64 e'))(hX:b∈X)(x y z x' y' z':Value) :
 KB W X (Go.Proofs.YtmgaloopddiekaaGreatDoor.ivW w b x y z x' y' z'):=by
 have k0:Below 0 w (Go.Proofs.YtmgaloopddiekaaGreatDoor.ivW w b x y z x' y' z') :=
  ((((((Below.refl 0 w).setCell (p:=⟨b,0,none⟩) (Nat.zero_le _) x).setCell (p:=⟨b,1,none⟩) (Nat.zero_le _) y).setCell (p:=⟨b,2,none⟩) (Nat.zero_le _) z).setCell (p:=⟨b,3,none⟩) (Nat.zero_le _) x').setCell (p:=⟨b,4,none⟩) (Nat.zero_le _) y').setCell (p:=⟨b,5,none⟩) (Nat.zero_le _) z'
 have ho:=fun k (hk:k≠b)=>Jk w b k x y z x' y' z' hk
 generalize Go.Proofs.YtmgaloopddiekaaGreatDoor.ivW w b x y z x' y' z'=w' at *;refine ⟨k0.os.trans h.os,k0.tape.trans h.tape,k0.output.trans h.output,Nat.le_trans h.size k0.size,fun k hk hn=>(ho k (fun e=>hn (by subst e;exact hX))).trans (h.block k hk hn),fun p j v hp=>?_⟩;have h1:=h.limb p j v hp;have hne:p≠b:=by
  rintro rfl;exact hb.noLimb _ _ (Ot hb h1) _ rfl
 rw [World.cell?_of_block (ho p hne)];exact h1
section
variable {P:Program} {ops:Array Oper} {Q:Exit→Act→World→Prop} {md:Region.Mode}
theorem Xq {J:(Nat→Bool)→World→Prop}{V:Nat→Value→World→Prop}{L:Nat→Bool}{i:Nat}{o:Oper}{a:Act}{w:World}
 (hV:∀ j u w w',Kept w w'→V j u w→V j u w') (hJ:∀ w',Kept w w'→J (upd L i true) w') (h:Bp P ops Q V i o a w):Lm P ops Q J V L i o a w:=by
 unfold Bp at h;unfold Lm;by_cases hw:Region.wanted o (yielded ops a.tmps)=true
 ·rw [if_pos hw] at h ⊢;refine Oper.wp_mono (fun a' w' q=>?_) h;obtain ⟨v,rfl,k,hv⟩:=q;exact ⟨v,rfl,⟨hJ w' k,fun j _ u hu=>hV j u _ _ k hu⟩,hv⟩
 ·rw [if_neg hw] at h ⊢;exact ⟨hJ w (Below.refl _ _),h⟩
theorem Rv {J:(Nat→Bool)→World→Prop}{V:Nat→Value→World→Prop}{L:Nat→Bool}{i:Nat}{o:Oper}{a:Act}{w w':World}{v:Value}(hw:Region.wanted o (yielded ops a.tmps)=true)
 (h:(execOp a.eval o).run P w=.ok (.value v) w') (hJ:J (upd L i true) w') (hV:∀ j,j≠i→∀ u,V j u w→V j u w') (hv:V i v w'):Lm P ops Q J V L i o a w:=by
 unfold Lm;rw [if_pos hw];unfold Oper.wp;rw [h];exact ⟨v,rfl,⟨hJ,hV⟩,hv⟩
theorem Oe {J:(Nat→Bool)→World→Prop}{V:Nat→Value→World→Prop}{L:Nat→Bool}{i:Nat}{o:Oper}{a:Act}{w w':World}(hw:Region.wanted o (yielded ops a.tmps)=true)
 (h:(execOp a.eval o).run P w=.ok .skip w') (hJ:J (upd L i true) w') (hV:∀ j,j≠i→∀ u,V j u w→V j u w') (hv:V i undef w'):Lm P ops Q J V L i o a w:=by
 unfold Lm;rw [if_pos hw];unfold Oper.wp;rw [h];exact ⟨undef,rfl,⟨hJ,hV⟩,hv⟩
def Agy (P:Program) (ops:Array Oper) (Q:Exit→Act→World→Prop) (J:(Nat→Bool)→World→Prop) (V:Nat→Value→World→Prop) (L:Nat→Bool) (i:Nat) (o:Oper) (a:Act) (w:World):Prop :=
 ((∀ w',Kept w w'→J (upd L i true) w')∧Bp P ops Q V i o a w)∨Lm P ops Q J V L i o a w
def Sc (P:Program) (md:Region.Mode) (ops:Array Oper) (Q:Exit→Act→World→Prop) (m:Nat) (J:(Nat→Bool)→World→Prop) (V:Nat→Value→World→Prop) (a0:Act):Nat→Nat→List Oper→Prop
 | _,0,_=>True
 | _,_+1,[]=>True
 | i,k+1,o::l=>(∀ L a w,FindsG md ops m J V a0 L i a w→Agy P ops Q J V L i o a w)∧Sc P md ops Q m J V a0 (i+1) k l
theorem Rx {m:Nat}{J:(Nat→Bool)→World→Prop}{V:Nat→Value→World→Prop}{a0:Act}:∀ (k i0:Nat) (l:List Oper),Sc P md ops Q m J V a0 i0 k l →
 ∀ i o,i<k→l[i]?=some o→∀ L a w,FindsG md ops m J V a0 L (i0+i) a w→Agy P ops Q J V L (i0+i) o a w
 | 0,_,_,_,_,_,hi,_=>absurd hi (Nat.not_lt_zero _)
 | k+1,_,[],_,_,_,_,ho=>by simp at ho
 | k + 1, i0, x :: l, h, 0, o, _, ho => by
   simp at ho;subst ho;exact h.1
 | k + 1, i0, x :: l, h, i + 1, o, hi, ho => by
   have:=Rx k (i0+1) l h.2 i o (by omega) (by simpa using ho);have e:i0+1+i=i0+(i+1):=by omega
   rw [e] at this;exact this
theorem Oc {id m:Nat}{J:(Nat→Bool)→World→Prop}{l:List (Value→World→Prop)}{a0:Act}{W:World}(hm:P.follows .mixedOrders=true)
 (hsz:m=ops.size) (hap:Cb ops m=true) (hin:Cy ops m a0.tmps.size=true) (hbk:Dc .any ops=true) (hM:Je l)
 (hJ:J (fun _=>false) W.drew) (hstep:Sc P .any ops Q m J (VL l) a0 0 m ops.toList)
 (hend:∀ u w L,(∀ i,i<m→L i=true)→J L w→(∀ i,i<m→VL l i (u i) w)→Q .normal (Bl ops (fun _=>true) u m a0) w) :
 (Code.region id ops true).wp P Q a0 W:=by
 refine Ve (J:=J) (V:=VL l) hm hsz hap hin hbk hJ (fun i o hi ho L a w F=>?_) hend;have h:=Rx m 0 ops.toList hstep i o hi (by simpa using ho) L a w (by simpa using F);rw [Nat.zero_add] at h;rcases h with ⟨h1,h2⟩ | h
 ·exact Xq (Hc l hM) h1 h2
 ·exact h
def Lk (E:Nat→Bool) (i:Nat):Prop:=E i=false
def Sb (P:Program) (md:Region.Mode) (ops:Array Oper) (Q:Exit→Act→World→Prop) (m:Nat) (W:World) (X:List Nat) (E:Nat→Bool) (J:(Nat→Bool)→World→Prop) (V:Nat→Value→World→Prop) (a0:Act):Nat→Nat→List Oper→Prop
 | _,0,_=>True
 | _,_+1,[]=>True
 | i, k + 1, o :: l => ((Lk   E i ∧ ∀ L a w, FindsG md ops m (fun L w => KB W X w ∧ J L w) V a0 L i a w → Bp     P ops Q V i o a w) ∨ ∀ L a w, FindsG md ops m (fun L w => KB W X w ∧ J L w) V a0 L i a w → Lm    P ops Q (fun L w => KB W X w ∧ J L w) V L i o a w) ∧
   Sb P md ops Q m W X E J V a0 (i+1) k l
theorem Rw {m:Nat}{W:World}{X:List Nat}{E:Nat→Bool}{J:(Nat→Bool)→World→Prop}{V:Nat→Value→World→Prop}{a0:Act}(hK:∀ i,Lk E i→∀ L w w',Kept w w'→J L w→J (upd L i true) w'):∀ (k i:Nat) (l:List Oper),
 Sb P md ops Q m W X E J V a0 i k l→Sc P md ops Q m (fun L w=>KB W X w∧J L w) V a0 i k l
 | 0,_,_,_=>trivial
 | _+1,_,[],_=>trivial
 | k+1,i,_::l,h=>⟨fun L a w F=>h.1.elim (fun h=>.inl ⟨fun w' q=>⟨F.frame.1.step q,hK i h.1 L w w' q F.frame.2⟩,h.2 L a w F⟩) (fun h=>.inr (h L a w F)),Rw hK k (i+1) l h.2⟩
theorem kp {c A B:Prop}(h:A)(e:c:=by exact rfl):(c∧A)∨B:=.inl ⟨e,h⟩
theorem Aj6 {E:Nat→Bool}{L:Nat→Bool}{i:Nat}(h:Lk E i)(j:Nat)(hj:E j=true:=by exact rfl):upd L i true j=L j:=if_neg (by rintro rfl;exact absurd (h.symm.trans hj) (by decide))
theorem rK {id:Nat}{a0:Act}{W:World}(m:Nat)(E:Nat→Bool)(X:List Nat)(J:(Nat→Bool)→World→Prop)(l:List (Value→World→Prop))(hK:∀ i,Lk E i→∀ L w w',Kept w w'→J L w→J (upd L i true) w')(hJ:J (fun _=>false) W.drew)
 (hs:Sb P .any ops Q m W X E J (VL l) a0 0 m ops.toList) (he:∀ u w L,(∀ i,i<m→L i=true)→KB W X w∧J L w→(∀ i,i<m→VL l i (u i) w)→Q .normal (Bl ops (fun _=>true) u m a0) w) (hM:Nonempty (Je l):=by infer_instance)
 (hm:P.follows .mixedOrders=true:=by kernel_rfl) (hz:m=ops.size:=by exact rfl) (ha:Cb ops m=true:=by kernel_rfl) (hi:Cy ops m a0.tmps.size=true:=by kernel_rfl) (hb:Dc .any ops=true:=by kernel_rfl):(Code.region id ops true).wp P Q a0 W :=
 Oc (J:=fun L w=>KB W X w∧J L w) hm hz ha hi hb (Fl hM) ⟨(KB.refl _ _).drew,hJ⟩ (Rw hK _ _ _ hs) he
def Aa4 (w w':World) (s:Nat):Nat→List (Value→World→Prop)→Prop
 | _,[]=>True
 | i,p::l=>(i=s∨∀ u,p u w→p u w')∧Aa4 w w' s (i+1) l
theorem Vp {w w':World}{s:Nat}:∀ (l:List (Value→World→Prop)) (i0:Nat),Aa4 w w' s i0 l→∀ j,i0+j≠s→∀ u,VL l j u w→VL l j u w'
 | [],_,_,_,_,_,_=>trivial
 | _::_,_,h,0,hj,u,hu=>(h.1.resolve_left (by simpa using hj)) u hu
 | _::l,i0,h,j+1,hj,u,hu=>Vp l (i0+1) h.2 j (by omega) u hu
theorem Oz {w w':World}{s:Nat}(l:List (Value→World→Prop))(h:Aa4 w w' s 0 l):∀ j,j≠s→∀ u,VL l j u w→VL l j u w' :=
 fun j hj u hu=>Vp l 0 h j (by omega) u hu
theorem vR {c:Prop}{x:Value}{w w':World}:c∨∀ u,vE x u w→vE x u w':=.inr fun _ h=>by
 unfold vE at h ⊢;exact h
theorem vS {x:Value}{w w':World}:∀ u,vE x u w→vE x u w':=fun _ h=>by
 unfold vE at h ⊢;exact h
variable {m i:Nat} {J:(Nat→Bool)→World→Prop} {l:List (Value→World→Prop)} {a0 a:Act} {w:World} {L:Nat→Bool}
theorem FindsG.v (F:FindsG md ops m J (VL l) a0 L i a w)(j t:Nat){x:Value}(h:l.getD j (fun _ _=>True)=vE x:=by exact rfl)(h1:Bm md ops i j=true:=by kernel_rfl)(h2:Au ops j=some t:=by exact rfl):a.tmps.getD t undef=x:=by
 have h3:=F.done j t h1 h2;unfold VL at h3;rw [h] at h3;exact h3
theorem FindsG.p (F:FindsG md ops m J (VL l) a0 L i a w)(j t:Nat){p:Value→World→Prop}(h:l.getD j (fun _ _=>True)=p:=by exact rfl)(h1:Bm md ops i j=true:=by kernel_rfl)(h2:Au ops j=some t:=by exact rfl):p (a.tmps.getD t undef) w:=by
 have h3:=F.done j t h1 h2;unfold VL at h3;rw [h] at h3;exact h3
theorem FindsG.q {V:Nat→Value→World→Prop}(F:FindsG md ops m J V a0 L i a w)(t:Nat)(x:Value)(h:Ef md ops m i t=true:=by kernel_rfl)(e:a0.tmps.getD t undef=x:=by exact rfl):a.tmps.getD t undef=x:=(F.old t h).trans e
theorem FindsG.o {V:Nat→Value→World→Prop}(F:FindsG md ops m J V a0 L i a w)(t:Nat)(h:Ef md ops m i t=true:=by kernel_rfl):a.tmps.getD t undef=a0.tmps.getD t undef:=F.old t h
section
variable {E:Nat→Bool} {X:List Nat} {W:World} {B:Prop} {V:Nat→Value→World→Prop} {o:Oper}
theorem kv (j t:Nat){x:Value}{y:Value}(h:l.getD j (fun _ _=>True)=vE x:=by exact rfl)(h1:Bm md ops i j=true:=by kernel_rfl)(h2:Au ops j=some t:=by exact rfl)(hy:l.getD i (fun _ _=>True)=vE y:=by exact rfl)(hg:o.guard=none:=by exact rfl)(he:Lk E i:=by exact rfl)(hx:∀ (a:Act) (w:World),a.tmps.getD t undef=x→(execOp a.eval o).run P w=.ok (.value y) w:=by intro aF wF s;go_simp):((Lk E i∧∀ L a w,FindsG md ops m (fun L w=>KB W X w∧J L w) (VL l) a0 L i a w→Bp P ops Q (VL l) i o a w)∨B):=.inl ⟨he,fun _ a w F=>A0 (by simp [Region.wanted,hg]) (hx a w (F.v j t h h1 h2)) (by unfold VL;rw [hy];rfl)⟩
theorem kq (t:Nat){x:Value}{y:Value}(h:Ef md ops m i t=true:=by kernel_rfl)(h1:a0.tmps.getD t undef=x:=by exact rfl)(hy:l.getD i (fun _ _=>True)=vE y:=by exact rfl)(hg:o.guard=none:=by exact rfl)(he:Lk E i:=by exact rfl)(hx:∀ (a:Act) (w:World),a.tmps.getD t undef=x→(execOp a.eval o).run P w=.ok (.value y) w:=by intro aF wF s;go_simp):((Lk E i∧∀ L a w,FindsG md ops m (fun L w=>KB W X w∧J L w) (VL l) a0 L i a w→Bp P ops Q (VL l) i o a w)∨B):=.inl ⟨he,fun _ a w F=>A0 (by simp [Region.wanted,hg]) (hx a w ((F.old t h).trans h1)) (by unfold VL;rw [hy];rfl)⟩
theorem km (j t:Nat){p:Value→World→Prop}(h:l.getD j (fun _ _=>True)=p:=by exact rfl)(hy:l.getD i (fun _ _=>True)=p:=by exact rfl)(h1:Bm md ops i j=true:=by kernel_rfl)(h2:Au ops j=some t:=by exact rfl)(hg:o.guard=none:=by exact rfl)(he:Lk E i:=by exact rfl)(hx:∀ (a:Act) (w:World),(execOp a.eval o).run P w=.ok (.value (a.tmps.getD t undef)) w:=by intro _ _;exact rfl):((Lk E i∧∀ L a w,FindsG md ops m (fun L w=>KB W X w∧J L w) (VL l) a0 L i a w→Bp P ops Q (VL l) i o a w)∨B):=.inl ⟨he,fun _ a w F=>A0 (by simp [Region.wanted,hg]) (hx a w) (by unfold VL;rw [hy];exact F.p j t h h1 h2)⟩
theorem kvv (j t j' t':Nat){x x':Value}{y:Value}(h:l.getD j (fun _ _=>True)=vE x:=by exact rfl)(h1:Bm md ops i j=true:=by kernel_rfl)(h2:Au ops j=some t:=by exact rfl)(h':l.getD j' (fun _ _=>True)=vE x':=by exact rfl)(h'1:Bm md ops i j'=true:=by kernel_rfl)(h'2:Au ops j'=some t':=by exact rfl)(hy:l.getD i (fun _ _=>True)=vE y:=by exact rfl)(hg:o.guard=none:=by exact rfl)(he:Lk E i:=by exact rfl)(hx:∀ (a:Act) (w:World),a.tmps.getD t undef=x→a.tmps.getD t' undef=x'→(execOp a.eval o).run P w=.ok (.value y) w:=by intro aF wF s s';go_simp):((Lk E i∧∀ L a w,FindsG md ops m (fun L w=>KB W X w∧J L w) (VL l) a0 L i a w→Bp P ops Q (VL l) i o a w)∨B):=.inl ⟨he,fun _ a w F=>A0 (by simp [Region.wanted,hg]) (hx a w (F.v j t h h1 h2) (F.v j' t' h' h'1 h'2)) (by unfold VL;rw [hy];rfl)⟩
theorem kvl (j t:Nat){x:Value}{p:World→Prop}{y:Value}(c:∀ w,KB W X w→p w)(h:l.getD j (fun _ _=>True)=vE x:=by exact rfl)(h1:Bm md ops i j=true:=by kernel_rfl)(h2:Au ops j=some t:=by exact rfl)(hy:l.getD i (fun _ _=>True)=vE y:=by exact rfl)(hg:o.guard=none:=by exact rfl)(he:Lk E i:=by exact rfl)(hx:∀ (a:Act) (w:World),a.tmps.getD t undef=x→p w→(execOp a.eval o).run P w=.ok (.value y) w:=by intro aF wF s c;go_simp):((Lk E i∧∀ L a w,FindsG md ops m (fun L w=>KB W X w∧J L w) (VL l) a0 L i a w→Bp P ops Q (VL l) i o a w)∨B):=.inl ⟨he,fun _ a w F=>A0 (by simp [Region.wanted,hg]) (hx a w (F.v j t h h1 h2) (c w F.frame.1)) (by unfold VL;rw [hy];rfl)⟩
theorem kql (t:Nat){x:Value}{p:World→Prop}{y:Value}(c:∀ w,KB W X w→p w)(h:Ef md ops m i t=true:=by kernel_rfl)(h1:a0.tmps.getD t undef=x:=by exact rfl)(hy:l.getD i (fun _ _=>True)=vE y:=by exact rfl)(hg:o.guard=none:=by exact rfl)(he:Lk E i:=by exact rfl)(hx:∀ (a:Act) (w:World),a.tmps.getD t undef=x→p w→(execOp a.eval o).run P w=.ok (.value y) w:=by intro aF wF s c;go_simp):((Lk E i∧∀ L a w,FindsG md ops m (fun L w=>KB W X w∧J L w) (VL l) a0 L i a w→Bp P ops Q (VL l) i o a w)∨B):=.inl ⟨he,fun _ a w F=>A0 (by simp [Region.wanted,hg]) (hx a w ((F.old t h).trans h1) (c w F.frame.1)) (by unfold VL;rw [hy];rfl)⟩
end
end
theorem Pm {p:Int}{l:List RawI}{o:Outc RawI}(p1:1≤p)(p2:p≤2000)(h:l.all Ck=true):Gr p l o=o:=by unfold Gr;rw [if_pos ⟨p1,p2,h⟩]
theorem Agu {w:World}{v u:Value}{a b:Iv}{p:Nat}(hv:IvC w v a)(hu:IvC w u b)(ha:a.Ok)(hb:b.Ok)(hT:Tab w)(p1:1≤p)(p2:p≤2000) :
 Calls Tryz.prog 178 #[v,u,.int .i64 p] w (RetIE (Cu (Gf a b p)) w):=by
 have h:=Ais (p:=(p:Int)) hv hu (Ez ha) (Ez hb) hT;rw [Pm (by omega) (by omega) (by simp [Ff ha,Ff hb]),Iv.raw_iv,Iv.raw_iv,Int.toNat_natCast] at h;exact h
theorem Aa1 {w:World}{v u:Value}{a b:Iv}{p:Nat}(hv:IvC w v a)(hu:IvC w u b)(ha:a.Ok)(hb:b.Ok)(hT:Tab w)(p1:1≤p)(p2:p≤2000) :
 Calls Tryz.prog 142 #[v,u,.int .i64 p] w (RetIE (Cu (Fs a b p)) w):=by
 have h:=Aiw (p:=(p:Int)) hv hu (Ez ha) (Ez hb) hT;rw [Pm (by omega) (by omega) (by simp [Ff ha,Ff hb]),Iv.raw_iv,Iv.raw_iv,Int.toNat_natCast] at h;exact h
theorem Aiu {w:World}{v u:Value}{a b:Iv}{p:Nat}(hv:IvC w v a)(hu:IvC w u b)(ha:a.Ok)(hb:b.Ok)(hT:Tab w)(p1:1≤p)(p2:p≤2000) :
 Calls Tryz.prog 201 #[v,u,.int .i64 p] w (RetIE (Cu (Fp a b p)) w):=by
 have h:=Ait (p:=(p:Int)) hv hu (Ez ha) (Ez hb) hT;rw [Pm (by omega) (by omega) (by simp [Ff ha,Ff hb]),Iv.raw_iv,Iv.raw_iv,Int.toNat_natCast] at h;exact h
def dm:Dy:=⟨true,1,0⟩
def dt:Dy:=⟨false,1,1⟩
def d4:Dy:=⟨false,1,2⟩
def mt:Iv:=⟨dm,dt⟩
def R1:Raw:=⟨false,[1],0⟩
def R4:Raw:=⟨false,[1],2⟩
theorem Ahi (op:Int)(w:World):Calls Tryz.prog 24 #[.int .i64 op] w (RetK (.bool (decide (6≤op)&&decide (op≤9))) w):=by
 rcases Ay (decide (6≤op)) with h1 | h1
 ·rw [h1,Bool.true_and];go_enter Tryz.func24,Tryz.ntmps24;go_wp2_with fail;go_ret;exact ⟨rfl,Below.refl _ _⟩
 ·rw [h1,Bool.false_and];go_enter Tryz.func24,Tryz.ntmps24;go_wp2_with fail;go_ret;exact ⟨rfl,Below.refl _ _⟩
theorem Ajy (op:Int)(w:World):Calls Tryz.prog 25 #[.int .i64 op] w (RetK (.bool (decide (10≤op)&&decide (op≤13))) w):=by
 rcases Ay (decide (10≤op)) with h1 | h1
 ·rw [h1,Bool.true_and];go_enter Tryz.func25,Tryz.ntmps25;go_wp2_with fail;go_ret;exact ⟨rfl,Below.refl _ _⟩
 ·rw [h1,Bool.false_and];go_enter Tryz.func25,Tryz.ntmps25;go_wp2_with fail;go_ret;exact ⟨rfl,Below.refl _ _⟩
theorem U7 {w:World}{v:Value}{r:Raw}(ha:DyR w v r)(hl:r.m.length≤17592186044416) :
 Calls Tryz.prog 91 #[v,.agg #[.bool false,.slice none 0 0,.int .i64 0]] w (RetK (.bool (Ka r rz)) w):=by
 obtain ⟨neg,m,e⟩:=r;obtain ⟨s,rfl,hs,h1,h2⟩:=ha;obtain ⟨-,A,c,rfl,hc,-⟩:=hs;unfold Ka rz;simp only at *;obtain ⟨W,hW,kW,BA,BB⟩:=Pc w (.bool neg) (.slice A m.length c) (.int .i64 e) (.bool false) (.slice none 0 0) (.int .i64 0);have HW:=hid hW;have K:=hid kW;obtain ⟨-,a0,a1,a2,-⟩:=BA.facts;obtain ⟨-,b0,b1,b2,-⟩:=BB.facts;clear hW kW BA BB h1 h2 hc;cases neg
 ·rcases Ay (e==0) with he | he
  ·obtain rfl:e=0:=by simpa using he
   cases m with
   | nil =>
     have e5:((false==false)&&((0:Int)==0)&&(([]:List Nat)==[]))=true:=rfl;rw [e5];simp only [List.length_nil] at *;go_enter Tryz.func91,Tryz.ntmps91;go_wp2_with fail;rw [←HW.out];go_wp2_with fail
     go_loopw [5] (fun i wr=>i=.int .i64 0∧∃ q,wr=W.drewN q) (fun _ _=>0)
     case atStart=>exact ⟨rfl,0,rfl⟩
     case round =>
      obtain ⟨rfl,q,rfl⟩:=hrel;go_wp2_with fail;go_ret;exact ⟨rfl,K.out.drewN _⟩
   | cons y l =>
     have e3:(y::l==([]:List Nat))=false:=rfl;rw [e3,Bool.and_false];have hz:((((y::l).length:Nat):Int) != 0)=true:=by simp;omega
     have hz':((y::l).length != 0)=true:=by simp
     generalize (y::l).length=n at *;clear e3 hl;go_enter Tryz.func91,Tryz.ntmps91;go_wp2_with fail;rw [←HW.out];go_wp2_with fail;go_ret;exact ⟨rfl,K.out⟩
  ·rw [he,Bool.and_false,Bool.false_and];have he':(e != 0)=true:=by simp only [bne,he];rfl
   generalize m.length=n at *;clear hl;go_enter Tryz.func91,Tryz.ntmps91;go_wp2_with fail;rw [←HW.out];go_wp2_with fail;go_ret;exact ⟨rfl,K.out⟩
 ·have e0:((true==false)&&(e==0)&&(m==[]))=false:=rfl;rw [e0];generalize m.length=n at *;clear hl e0;go_enter Tryz.func91,Tryz.ntmps91;go_wp2_with fail;rw [←HW.out];go_wp2_with fail;go_ret;exact ⟨rfl,K.out⟩
theorem Z9 {w:World}{v:Value}{a:RawI}(ha:IvR w v a)(hl:a.lens 17592186044416) :
 Calls Tryz.prog 55 #[v,.agg #[.bool false,.slice none 0 0,.int .i64 0,.bool false,.slice none 0 0,.int .i64 0]] w (RetK (.bool (Kp a rzI)) w):=by
 obtain ⟨A,l,c,A',l',c',rfl,h1,h2⟩:=Ar ha;have C1:=hid (fun w1 (k:Kept w w1)=>U7 (h1.kept k) hl.1);have C2:=hid (fun w1 (k:Kept w w1)=>U7 (h2.kept k) hl.2);unfold Kp rzI;simp only;clear h1 h2 ha hl;generalize Ka a.lo rz=s1 at *;generalize Ka a.hi rz=s2 at *;generalize a.lo.neg=n1 at *;generalize a.lo.e=e1 at *;generalize a.hi.neg=n2 at *;generalize a.hi.e=e2 at *;obtain ⟨W,hW,kW,BA,BB⟩:=L5 w (.bool n1) (.slice A l c) (.int .i64 e1) (.bool n2) (.slice A' l' c') (.int .i64 e2) (.bool false) (.slice none 0 0) (.int .i64 0) (.bool false) (.slice none 0 0) (.int .i64 0)
 have HW:=hid hW;have K:=hid kW;have HA:=hid BA;have HB:=hid BB;clear hW kW BA BB;cases s1
 ·rw [Bool.false_and];obtain ⟨-,a0,a1,a2,a3,a4,a5⟩:=HA.out.facts;obtain ⟨-,b0,b1,b2,b3,b4,b5⟩:=HB.out.facts;go_enter Tryz.func55,Tryz.ntmps55;go_wp2_with fail;rw [←HW.out];go_wp2_with fail;refine (C1.out _ K.out).mono ?_;rintro _ w1 ⟨rfl,q1⟩;simp only [];go_wp2_with fail;go_ret;exact ⟨rfl,K.out.trans q1⟩
 ·rw [Bool.true_and];obtain ⟨-,a0,a1,a2,a3,a4,a5⟩:=HA.out.facts;obtain ⟨-,b0,b1,b2,b3,b4,b5⟩:=HB.out.facts;go_enter Tryz.func55,Tryz.ntmps55;go_wp2_with fail;rw [←HW.out];go_wp2_with fail;refine (C1.out _ K.out).mono ?_;rintro _ w1 ⟨rfl,q1⟩;replace HA:=hid (HA.out.kept q1);replace HB:=hid (HB.out.kept q1);clear a0 a1 a2 a3 a4 a5 b0 b1 b2 b3 b4 b5;obtain ⟨-,a0,a1,a2,a3,a4,a5⟩:=HA.out.facts;obtain ⟨-,b0,b1,b2,b3,b4,b5⟩:=HB.out.facts;simp only [];go_wp2_with fail;refine (C2.out _ (K.out.trans q1)).mono ?_;rintro _ w2 ⟨rfl,q2⟩;simp only [];go_wp2_with fail;go_ret;exact ⟨rfl,K.out.trans (q1.trans q2)⟩
theorem Af8 {w:World}{v:Value}{a:RawI}(hv:IvR w v a)(hl:a.lens 17592186044416):Calls Tryz.prog 23 #[v] w (RetK (.bool (Kp a rzI)) w):=by
 have S:=hid (fun w1 (k:Kept w w1)=>Z9 (hv.kept k) hl);obtain ⟨A,l,c,A',l',c',rfl,-,-⟩:=Ar hv;generalize Kp a rzI=s at *;generalize a.lo.neg=n1 at *;generalize a.lo.e=e1 at *;generalize a.hi.neg=n2 at *;generalize a.hi.e=e2 at *;obtain ⟨W,hW,kW,BI⟩:=Abd w (.bool n1) (.slice A l c) (.int .i64 e1) (.bool n2) (.slice A' l' c') (.int .i64 e2);have HW:=hid hW;have K:=hid kW;have HB:=hid BI;clear hW kW BI hv hl;go_enter Tryz.func23,Tryz.ntmps23;go_upto_region 1 with fail;rw [←HW.out];obtain ⟨-,c0,c1,c2,c3,c4,c5⟩:=HB.out.facts;go_wp2_with fail;refine (S.out _ K.out).mono ?_;rintro e w1 ⟨rfl,q⟩
 simp only [];go_wp2_with fail;go_ret;exact ⟨rfl,K.out.trans q⟩
def Outc.th (o:Outc Iv) (f:Iv→Outc Iv):Outc Iv:=if o.k=0 then f o.v else ⟨iz,o.k⟩
def gI (l:List RawI) (n:Nat):Iv:=(l.getD n rzI).iv
def Gd (l:List RawI):Prop:=∀ a∈l,a.iv.Ok∧a.iv.raw=a
def ptN (n:Nat):Iv:=pt (Cr false n 0).v
def Ajw (p:Nat) (a b:List RawI) (n:Nat):Iv→List Nat→Outc Iv
 | s,[]=>⟨s,0⟩
 | s,j::js=>(Fs (gI a j) (gI b (n-j)) p).th fun q=>(Gf s q p).th fun s'=>Ajw p a b n s' js
def Ajv (p:Nat) (a b:List RawI) (n:Nat):Outc Iv:=(Fs (gI a 0) (gI b n) p).th fun s=>Ajw p a b n s (List.range' 1 n)
def Ack (p:Nat) (a b:List RawI) (n:Nat):Iv→List Nat→Outc Iv
 | s,[]=>⟨s,0⟩
 | s,j::js=>(Fs (gI a j) (gI b (n-j)) p).th fun q=>(Xs s q p).th fun s'=>Ack p a b n s' js
def Ag5 (p:Nat) (a c:List RawI) (n:Nat):Iv→List Nat→Outc Iv
 | s,[]=>⟨s,0⟩
 | s,j::js=>(Fs (ptN j) (gI a j) p).th fun u=>(Fs u (gI c (n-j)) p).th fun q=>(Gf s q p).th fun s'=>Ag5 p a c n s' js
def Yv (ov:Iv→Nat→Outc Iv) (p:Nat) (op:Int) (a b c:List RawI) (n:Nat):Outc Iv :=
 if op=6 then Gf (gI a n) (gI b n) p else if op=7 then Xs (gI a n) (gI b n) p else if op=10 then Z6 (gI a n) p else
 if op=8 then Ajv p a b n else if op=9 then (Ack p b c n (gI a n) (List.range' 1 n)).th fun x=>Fp x (gI b 0) p else
 if op=11 then (if n=0 then Aan (gI a 0) p else Ajv p a a n) else
 if op=12 then (if n=0 then Ru (gI a 0) p else (Ack p c c n (gI a n) (List.range' 1 (n-1))).th fun x=>(Gf (gI c 0) (gI c 0) p).th fun y=>Fp x y p) else
 if n=0 then ov (gI a 0) p else
 (Fs (ptN 1) (gI a 1) p).th fun u=>(Fs u (gI c (n-1)) p).th fun s=>(Ag5 p a c n s (List.range' 2 (n-1))).th fun s=>Fp s (ptN n) p
def Hv (p:Nat) (g:List RawI):List RawI→List Nat→Outc (List RawI)
 | c,[]=>⟨c,0⟩
 | c,n::ns=>if (De (gI g n) p).k=0 then Hv p g (c++[(De (gI g n) p).v.raw]) ns else ⟨[],(De (gI g n) p).k⟩
def Ag3 (ov:Iv→Nat→Outc Iv) (p:Nat) (op:Int) (a b:List RawI):List RawI→List Nat→Outc (List RawI)
 | c,[]=>⟨c,0⟩
 | c,n::ns=>if (Yv ov p op a b c n).k=0 then Ag3 ov p op a b (c++[(Yv ov p op a b c n).v.raw]) ns else ⟨[],(Yv ov p op a b c n).k⟩
def Qa (l:List (List RawI)) (n:Int):List RawI:=l.getD n.toNat []
def Dj (a:RawI) (k:Nat):List RawI:=a::List.replicate k rzI
def Hj (ov:Iv→Nat→Outc Iv) (p:Nat) (l:Ln) (all:List (List RawI)) (t:List RawI) (x q:List (List RawI)) (k:Nat):Outc (List RawI) :=
 if l.op=1 then Hv p (Dj l.k k) [] (List.range (k+1)) else if l.op=2 then Hv p t [] (List.range (k+1)) else
 if l.op=3 then Hv p (Qa x l.a) [] (List.range (k+1)) else if l.op=5 then Hv p (Qa q l.a) [] (List.range (k+1)) else
 Ag3 ov p l.op (Qa all l.a) (Qa all l.b) [] (List.range (k+1))
def Fr (ov:Iv→Nat→Outc Iv) (p:Nat) (t:List RawI) (x q:List (List RawI)) (k:Nat):List (List RawI)→List Ln→Outc (List (List RawI))
 | all,[]=>⟨all,0⟩
 | all,l::ls=>if (Hj ov p l all t x q k).k=0 then Fr ov p t x q k (all++[(Hj ov p l all t x q k).v]) ls else ⟨[],(Hj ov p l all t x q k).k⟩
def D4 (ov:Iv→Nat→Outc Iv) (p:Nat) (ls:List Ln) (outs:List Int) (t:List RawI) (x q:List (List RawI)) (k:Nat):Outc (List (List RawI)) :=
 if (Fr ov p t x q k [] ls).k=0 then ⟨outs.map fun n=>Qa (Fr ov p t x q k [] ls).v n,0⟩ else ⟨[],(Fr ov p t x q k [] ls).k⟩
def Lq (l:List (List RawI)) (k:Int):Bool:=l.all fun c=>decide ((c.length:Int)=k+1)&&c.all Ck
def Lj (k b:Int):Bool:=decide (0≤k)&&decide (k≤12)&&decide (1≤b)&&decide (b≤300)
def Lr (p n:Nat):List (List RawI)→List (List RawI)→Outc (List (List RawI))
 | o :: os, c :: cs => if (Fp   (gI c n) (ptN (n + 1)) p).k = 0 then
     (if (Lr p n os cs).k=0 then ⟨(o++[(Fp (gI c n) (ptN (n+1)) p).v.raw])::(Lr p n os cs).v,0⟩ else ⟨[],(Lr p n os cs).k⟩) else ⟨[],(Fp (gI c n) (ptN (n+1)) p).k⟩
 | os,_=>⟨os,0⟩
def Mc (ov:Iv→Nat→Outc Iv) (p:Nat) (ls:List Ln) (outs:List Int) (time:List RawI) (q:List RawI):List (List RawI)→List Nat→Outc (List (List RawI))
 | o,[]=>⟨o,0⟩
 | o, n :: ns =>
   if (D4 ov p ls outs (time.take (n+1)) o (q.map fun a=>Dj a n) n).k≠0 then ⟨[],(D4 ov p ls outs (time.take (n+1)) o (q.map fun a=>Dj a n) n).k⟩ else
   if (Lr p n o (D4 ov p ls outs (time.take (n+1)) o (q.map fun a=>Dj a n) n).v).k≠0 then ⟨[],(Lr p n o (D4 ov p ls outs (time.take (n+1)) o (q.map fun a=>Dj a n) n).v).k⟩ else
   Mc ov p ls outs time q (Lr p n o (D4 ov p ls outs (time.take (n+1)) o (q.map fun a=>Dj a n) n).v).v ns
def two:Iv:=pt dt
def dyz (z:Int) (e:Int):Dy:=(Cr (decide (z<0)) z.natAbs e).v
theorem Em (z e:Int):(dyz z e).Ok:=(Gh _ _ _).1
end Go.Proofs.YtmgaloopddiekaaGreatDoor
