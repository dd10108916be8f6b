/- Words and contracts, part 30. -/
import Derived.Test.YtabjjdicffcolaaGreatDoorClaimJrootp29
set_option maxRecDepth 100000
set_option maxHeartbeats 0
namespace Go.Proofs.YtabjjdicffcolaaGreatDoor
open Go.Lib (hid)
open Go.RowKit
def LnAt (w:World) (b o:Nat) (l:Ln):Prop:=w.cell? ⟨b,o,none⟩=some (.int .i64 l.op)∧w.cell? ⟨b,o+1,none⟩=some (.int .i64 l.a)∧w.cell? ⟨b,o+2,none⟩=some (.int .i64 l.b)∧IvAt w b (o+3) l.k
def LnS (w:World) (v:Value) (ls:List Ln):Prop:=∃ A c,v=.slice A ls.length c∧ls.length≤c∧(0<ls.length→∃ b off,A=some ⟨b,off,none⟩∧∀ i l,ls[i]?=some l→LnAt w b (off+i*9) l)
def InS (w:World) (v:Value) (ns:List Int):Prop:=∃ A c,v=.slice A ns.length c∧ns.length≤c∧(0<ns.length→∃ b off,A=some ⟨b,off,none⟩∧∀ i n,ns[i]?=some n→w.cell? ⟨b,off+i,none⟩=some (.int .i64 n))
theorem LnAt.kept {w w':World}{b o:Nat}{l:Ln}(h:LnAt w b o l)(k:Kept w w'):LnAt w' b o l:=by
 obtain ⟨h0,h1,h2,h3⟩:=h;have hb:=Aq h0;exact ⟨(k.cell (p:=⟨b,o,none⟩) hb).trans h0,(k.cell (p:=⟨b,o+1,none⟩) hb).trans h1,(k.cell (p:=⟨b,o+2,none⟩) hb).trans h2,h3.kept k⟩
theorem LnS.kept {w w':World}{v:Value}{l:List Ln}(h:LnS w v l)(k:Kept w w'):LnS w' v l:=by
 obtain ⟨A,c,rfl,hc,hA⟩:=h;refine ⟨A,c,rfl,hc,fun h0=>?_⟩;obtain ⟨b,off,rfl,hd⟩:=hA h0;exact ⟨b,off,rfl,fun i d hi=>(hd i d hi).kept k⟩
theorem InS.kept {w w':World}{v:Value}{l:List Int}(h:InS w v l)(k:Kept w w'):InS w' v l:=by
 obtain ⟨A,c,rfl,hc,hA⟩:=h;refine ⟨A,c,rfl,hc,fun h0=>?_⟩;obtain ⟨b,off,rfl,hd⟩:=hA h0;exact ⟨b,off,rfl,fun i d hi=>(k.cell (p:=⟨b,off+i,none⟩) (Aq (hd i d hi))).trans (hd i d hi)⟩
def TpR (w:World) (v:Value) (ls:List Ln) (outs:List Int):Prop:=∃ s o,v=.agg #[s,o]∧LnS w s ls∧InS w o outs
def EnR (w:World) (v:Value) (e:En):Prop:=∃ x y z x' y' z' sx su sp,v=.agg #[x,y,z,x',y',z',sx,su,sp]∧IvR w (.agg #[x,y,z,x',y',z']) e.t∧IvS w sx e.x∧IvS w su e.u∧IvS w sp e.p
theorem TpR.kept {w w':World}{v:Value}{ls:List Ln}{outs:List Int}(h:TpR w v ls outs)(k:Kept w w'):TpR w' v ls outs:=by
 obtain ⟨s,o,rfl,h1,h2⟩:=h;exact ⟨s,o,rfl,h1.kept k,h2.kept k⟩
theorem EnR.kept {w w':World}{v:Value}{e:En}(h:EnR w v e)(k:Kept w w'):EnR w' v e:=by
 obtain ⟨x,y,z,x',y',z',sx,su,sp,rfl,h1,h2,h3,h4⟩:=h;exact ⟨x,y,z,x',y',z',sx,su,sp,rfl,h1.kept k,h2.kept k,h3.kept k,h4.kept k⟩
theorem IvR.cells {w:World}{x y z x' y' z':Value}{a:RawI}(h:IvR w (.agg #[x,y,z,x',y',z']) a):∀ u∈[x,y,z,x',y',z'],Bl u∧u.oneCell'=true:=by
 obtain ⟨A,l,c,A',l',c',e,-,-⟩:=Au h;injection e with e;injection e with e
 simp only [List.cons.injEq,and_true] at e;obtain ⟨rfl,rfl,rfl,rfl,rfl,rfl⟩:=e;intro u hu;simp at hu;rcases hu with rfl | rfl | rfl | rfl | rfl | rfl
 ·exact ⟨Ag _,rfl⟩
 ·exact ⟨Ae _ _ _,rfl⟩
 ·exact ⟨Ah _,rfl⟩
 ·exact ⟨Ag _,rfl⟩
 ·exact ⟨Ae _ _ _,rfl⟩
 ·exact ⟨Ah _,rfl⟩
theorem IvR.grown {w w':World}{v:Value}{a:RawI}{row:Option Nat}(h:IvR w v a)(hg:w.grownBy w' row)(hN:∀ g,row=some g→NoL w g):IvR w' v a:=by
 obtain ⟨x,y,z,x',y',z',rfl,h1,h2⟩:=h;exact ⟨x,y,z,x',y',z',rfl,h1.grown hg hN,h2.grown hg hN⟩
structure OwnI (w:World) (base:Nat) (v:Value) (l:List RawI) (xs:List Value):Prop where
 row:w.ownsRow base 30 6 v l.length xs
 nl:∀ u∈xs,Bl u
 one:∀ u∈xs,u.oneCell'=true
 blk:∀ g,v.ownBlock=some g→NoL w g
 ivs:∀ i a,l[i]?=some a→∃ x y z x' y' z',xs[i*6]?=some x∧xs[i*6+1]?=some y∧xs[i*6+2]?=some z∧xs[i*6+3]?=some x'∧xs[i*6+4]?=some y'∧xs[i*6+5]?=some z'∧IvR w (.agg #[x,y,z,x',y',z']) a
theorem OwnI.nil (w:World)(base:Nat):OwnI w base (.slice none 0 0) [] [] :=
 ⟨World.ownsRow_nil _ _ _ _,by simp,by simp,(by intro g h;simp [Value.ownBlock] at h),by simp⟩
theorem OwnI.kept {w w':World}{base:Nat}{v:Value}{l:List RawI}{xs:List Value}(h:OwnI w base v l xs)(k:Kept w w'):OwnI w' base v l xs:=by
 obtain ⟨h1,h2,h2',h3,h4⟩:=h;refine ⟨⟨h1.1,?_⟩,h2,h2',?_,?_⟩
 ·rcases h1.2 with hn | ⟨g,cap,cur,rfl,hb,hg,rest⟩
  ·exact .inl hn
  ·exact .inr ⟨g,cap,cur,rfl,hb,(k.block g (Array.getElem?_eq_some_iff.1 hg).1).trans hg,rest⟩
 ·intro g hg;have:=h3 g hg;obtain ⟨cur,e,q1,q2⟩:=this;exact ⟨cur,e,(k.block g (Array.getElem?_eq_some_iff.1 q1).1).trans q1,q2⟩
 ·intro i d hi;obtain ⟨x,y,z,x',y',z',a0,a1,a2,a3,a4,a5,hd⟩:=h4 i d hi;exact ⟨x,y,z,x',y',z',a0,a1,a2,a3,a4,a5,hd.kept k⟩
theorem OwnI.ivS {w:World}{base:Nat}{v:Value}{l:List RawI}{xs:List Value}(h:OwnI w base v l xs):IvS w v l:=by
 obtain ⟨h1,h2,h2',h3,h4⟩:=h;have hc:=h1.2;rcases hc with ⟨rfl,h0⟩ | ⟨g,cap,cur,rfl,hb,hg,hn,-⟩
 ·obtain rfl:l=[]:=List.eq_nil_of_length_eq_zero h0;exact ⟨none,0,rfl,Nat.le_refl _,fun h=>absurd h (by simp)⟩
 ·refine ⟨_,cap,rfl,hn,fun _=>⟨g,0,rfl,fun i d hi=>?_⟩⟩;obtain ⟨x,y,z,x',y',z',a0,a1,a2,a3,a4,a5,hd⟩:=h4 i d hi;have cl:=h1.cells (g:=g) rfl;have ad:∀ j,(⟨g,0,none⟩:Addr).add j=⟨g,j,none⟩:=by intro j;unfold Addr.add;split<;>simp_all
  refine ⟨x,y,z,x',y',z',?_,?_,?_,?_,?_,?_,hd⟩
  ·have:=cl _ _ a0;rw [ad] at this;simpa using this
  ·have:=cl _ _ a1;rw [ad] at this;simpa using this
  ·have:=cl _ _ a2;rw [ad] at this;simpa using this
  ·have:=cl _ _ a3;rw [ad] at this;simpa using this
  ·have:=cl _ _ a4;rw [ad] at this;simpa using this
  ·have:=cl _ _ a5;rw [ad] at this;simpa using this
theorem OwnI.snoc {w w':World}{base:Nat}{v v':Value}{l:List RawI}{xs:List Value}{a:RawI}{x y z x' y' z':Value}{g':Nat}(h:OwnI w base v l xs)
 (hd:IvR w (.agg #[x,y,z,x',y',z']) a)
 (hr:w'.ownsRow base 30 6 v' (l.length+1) (xs++[x,y,z,x',y',z'])) (hg:w.grownBy w' v.ownBlock) (hv':v'.ownBlock=some g') (hN:NoL w' g') :
 OwnI w' base v' (l++[a]) (xs++[x,y,z,x',y',z']):=by
 have hcl:=hd.cells;obtain ⟨h1,h2,h2',h3,h4⟩:=h;refine ⟨by simpa using hr,?_,?_,?_,?_⟩
 ·intro u hu;rcases List.mem_append.1 hu with hu | hu
  ·exact h2 u hu
  ·exact (hcl u hu).1
 ·intro u hu;rcases List.mem_append.1 hu with hu | hu
  ·exact h2' u hu
  ·exact (hcl u hu).2
 ·intro g hg;rw [hv'] at hg;cases hg;exact hN
 ·intro i e hi;have hxl:=h1.1;by_cases hlt:i<l.length
  ·rw [List.getElem?_append_left hlt] at hi;obtain ⟨x,y,z,x',y',z',a0,a1,a2,a3,a4,a5,hd'⟩:=h4 i e hi;have hh:=(List.getElem?_eq_some_iff.1 a5).1;refine ⟨x,y,z,x',y',z',?_,?_,?_,?_,?_,?_,hd'.grown hg h3⟩
   ·rw [List.getElem?_append_left (by omega)];exact a0
   ·rw [List.getElem?_append_left (by omega)];exact a1
   ·rw [List.getElem?_append_left (by omega)];exact a2
   ·rw [List.getElem?_append_left (by omega)];exact a3
   ·rw [List.getElem?_append_left (by omega)];exact a4
   ·rw [List.getElem?_append_left (by omega)];exact a5
  ·rw [List.getElem?_append_right (by omega)] at hi;obtain ⟨hz,he⟩:=List.getElem?_eq_some_iff.1 hi;simp at hz;have hi':i=l.length:=by omega
   subst hi';simp at he;subst he;refine ⟨x,y,z,x',y',z',?_,?_,?_,?_,?_,?_,hd.grown hg h3⟩
   ·rw [List.getElem?_append_right (by omega),hxl,show l.length*6-l.length*6=0 by omega];rfl
   ·rw [List.getElem?_append_right (by omega),hxl,show l.length*6+1-l.length*6=1 by omega];rfl
   ·rw [List.getElem?_append_right (by omega),hxl,show l.length*6+2-l.length*6=2 by omega];rfl
   ·rw [List.getElem?_append_right (by omega),hxl,show l.length*6+3-l.length*6=3 by omega];rfl
   ·rw [List.getElem?_append_right (by omega),hxl,show l.length*6+4-l.length*6=4 by omega];rfl
   ·rw [List.getElem?_append_right (by omega),hxl,show l.length*6+5-l.length*6=5 by omega];rfl
theorem Vn:(Tryz.prog.info? 30).map (fun i=>(i.zero,i.size,i.bytes))=some (some (.agg #[.bool false,.slice none 0 0,.int .i64 0,.bool false,.slice none 0 0,.int .i64 0]),6,80):=by kernel_rfl
theorem Ky:∀ u∈(Value.agg #[.bool false,.slice none 0 0,.int .i64 0,.bool false,.slice none 0 0,.int .i64 0]).cells.toList,Bl u:=by
 intro u hu;simp [Value.cells] at hu;rcases hu with rfl | rfl | rfl | rfl | rfl | rfl
 ·exact Ag _
 ·exact Ae _ _ _
 ·exact Ah _
 ·exact Ag _
 ·exact Ae _ _ _
 ·exact Ah _
theorem Qb {w:World}{o:Oper}{a:Act}{K:Act→World→Prop}{Q:Exit→Act→World→Prop}(s x:Operand)
 (ho:o.op=.call { callee:=.builtin .append,args:=#[s,x],argTypes:=#[31,31] })
 {base:Nat} {v:Value} {l:List RawI} {xs:List Value} (hs:a.eval s=v) (hown:OwnI w base v l xs) {d:RawI} {x0 x1 x2 x3 x4 x5:Value} {b:Nat}
 (hd:IvR w (.agg #[x0,x1,x2,x3,x4,x5]) d) (hb:BlkI w b x0 x1 x2 x3 x4 x5) (hx:a.eval x=.slice (some ⟨b,0,none⟩) 1 1)
 (hl:l.length≤1000) (hbase:base≤w.heap.size)
 (h:∀ v' w',OwnI w' base v' (l++[d]) (xs++[x0,x1,x2,x3,x4,x5])→w.grownBy w' v.ownBlock→K (a.put o.dst v') w'):o.wp Tryz.prog a w K Q:=by
 obtain ⟨i0,hi,hz0,hz1,hz2⟩:=info_parts Vn;obtain ⟨-,c0,c1,c2,c3,c4,c5⟩:=hb.facts;have hcl:=hd.cells;have ad:∀ j,(⟨b,0,none⟩:Addr).add j=⟨b,j,none⟩:=by intro j;unfold Addr.add;split<;>simp_all
 refine Oh s x _ ho base 30 i0 _ 6 80 Tryz.underlying31 hi hz0 hz1 hz2 rfl (by decide) v l.length xs hs hown.row _ 1 1 [x0,x1,x2,x3,x4,x5] hx rfl ?_ (fun u hu=>(hcl u hu).2) (by unfold maxLen;omega) (by omega) hbase (by decide) hown.nl (fun u hu=>(hcl u hu).1) Ky hown.blk ?_
 ·intro j u hu;rw [ad];rcases j with _ | _ | _ | _ | _ | _ | j
  ·cases hu;exact c0
  ·cases hu;exact c1
  ·cases hu;exact c2
  ·cases hu;exact c3
  ·cases hu;exact c4
  ·cases hu;exact c5
  ·simp at hu
 ·intro v' w' g' q1 q2 q3 q4;exact h v' w' (hown.snoc hd q1 q2 q3 q4) q2
structure KB (W:World) (X:List Nat) (w:World):Prop where
 os:w.os=W.os
 tape:w.tape=W.tape
 output:w.output=W.output
 size:W.heap.size≤w.heap.size
 block:∀ b,b<W.heap.size→b∉X→w.heap[b]?=W.heap[b]?
 limb:∀ b i x,W.cell? ⟨b,i,none⟩=some (.int .u64 x)→w.cell? ⟨b,i,none⟩=some (.int .u64 x)
theorem Aca {w:World}{b i:Nat}{v:Value}{cur:Array Value}{T:TypeId}{z:Nat × Nat}(h:w.heap[b]?=some (.cells cur T z))(hc:w.cell? ⟨b,i,none⟩=some v):cur[i]?=some v:=by
 simpa [World.cell?,h] using hc
theorem Kept.kb {w w':World}(k:Kept w w')(X:List Nat):KB w X w' :=
 ⟨k.os,k.tape,k.output,k.size,fun b hb _=>k.block b hb,fun b i _ h=>(k.cell (p:=⟨b,i,none⟩) (Aq h)).trans h⟩
theorem KB.refl (w:World)(X:List Nat):KB w X w:=Kept.kb (Below.refl _ _) X
theorem KB.trans {a b c:World}{X Y:List Nat}(h:KB a X b)(k:KB b Y c)(hY:∀ y∈Y,y∈X∨a.heap.size≤y):KB a X c :=
 ⟨k.os.trans h.os, k.tape.trans h.tape, k.output.trans h.output, Nat.le_trans h.size k.size, fun i hi hn => by
  rw [k.block i (Nat.lt_of_lt_of_le hi h.size) (fun hy=>by rcases hY i hy with q | q;exact hn q;omega),h.block i hi hn],fun b i x hp=>k.limb b i x (h.limb b i x hp)⟩
theorem KB.step {a b c:World}{X:List Nat}(h:KB a X b)(k:Kept b c):KB a X c:=h.trans (k.kb []) (by simp)
theorem KB.drew {a b:World}{X:List Nat}(h:KB a X b):KB a X b.drew:=⟨h.os,h.tape,h.output,h.size,h.block,h.limb⟩
theorem KB.kept {W0 W w:World}{X:List Nat}(h:Kept W0 W)(k:KB W X w)(hX:∀ x∈X,W0.heap.size≤x):Kept W0 w :=
 ⟨k.os.trans h.os, k.tape.trans h.tape, k.output.trans h.output, Nat.le_trans h.size k.size, fun i hi => by
  rw [k.block i (Nat.lt_of_lt_of_le hi h.size) (fun hx=>by have:=hX i hx;omega),h.block i hi]⟩
theorem KB.nil {W w:World}(k:KB W [] w):Kept W w:=KB.kept (Below.refl _ _) k (by simp)
theorem KB.setCell {W w:World}{X:List Nat}{b i:Nat}{x:Value}(h:KB W X w)(hb:b∈X)(hc:w.cell? ⟨b,i,none⟩=some x)(hx:Bl x)(y:Value):KB W X (w.setCell ⟨b,i,none⟩ y) :=
 ⟨h.os, h.tape, h.output, by simpa [World.setCell] using h.size, fun k hk hn => by rw [Below.heap_setCell _ _ _ _ (fun e => hn (by subst e; exact hb))]; exact h.block k hk hn, fun p j v hp => by
  have h1:=h.limb p j v hp;rw [World.cell?_setCell_other]
  ·exact h1
  ·intro e;injection e with e1 e2
   subst e1;subst e2;rw [h1] at hc;exact hx v (by injection hc with e;exact e.symm)⟩
theorem KB.grown {W w w':World}{X:List Nat}{row:Option Nat}(h:KB W X w)(hg:w.grownBy w' row)(hX:∀ g,row=some g→g∈X∨W.heap.size≤g)(hN:∀ g,row=some g→NoL w g):KB W X w':=by
 refine ⟨hg.os.trans h.os,hg.tape.trans h.tape,hg.output.trans h.output,Nat.le_trans h.size hg.size,fun b hb hn=>?_,fun p j x hp=>?_⟩
 ·rw [hg.block b (Nat.lt_of_lt_of_le hb h.size) (fun e=>by rcases hX b e.symm with q | q;exact hn q;omega)];exact h.block b hb hn
 ·have h1:=h.limb p j x hp;refine hg.cell h1 ?_;intro he;obtain ⟨cur,e,q1,q2⟩:=hN p he.symm;have h4:=Aca q1 h1;exact q2 _ (Array.mem_toList_iff.2 (Array.mem_of_getElem? h4)) _ rfl
theorem Lim.kb {W w:World}{X:List Nat}{v:Value}{xs:List Nat}(h:Lim W v xs)(k:KB W X w):Lim w v xs:=by
 obtain ⟨hs,A,c,rfl,hc,hA⟩:=h;refine ⟨hs,A,c,rfl,hc,fun h0=>?_⟩;obtain ⟨b,off,rfl,hb,hd⟩:=hA h0;exact ⟨b,off,rfl,Nat.lt_of_lt_of_le hb k.size,fun i hi=>k.limb _ _ _ (hd i hi)⟩
theorem DyR.kb {W w:World}{X:List Nat}{v:Value}{r:Raw}(h:DyR W v r)(k:KB W X w):DyR w v r:=by
 obtain ⟨s,rfl,hs,h1,h2⟩:=h;exact ⟨s,rfl,hs.kb k,h1,h2⟩
theorem IvR.kb {W w:World}{X:List Nat}{v:Value}{a:RawI}(h:IvR W v a)(k:KB W X w):IvR w v a:=by
 obtain ⟨x,y,z,x',y',z',rfl,h1,h2⟩:=h;exact ⟨x,y,z,x',y',z',rfl,h1.kb k,h2.kb k⟩
theorem IvC.kb {W w:World}{X:List Nat}{v:Value}{a:Iv}(h:IvC W v a)(k:KB W X w):IvC w v a:=IvR.kb h k
theorem KB.cell {W w:World}{X:List Nat}(k:KB W X w){b i:Nat}{v:Value}(h:W.cell? ⟨b,i,none⟩=some v)(hn:b∉X):w.cell? ⟨b,i,none⟩=some v:=by
 have hb:=Aq h;rw [World.cell?_of_block (k.block b hb hn)];exact h
theorem IvAt.kb {W w:World}{X:List Nat}{b o:Nat}{a:RawI}(h:IvAt W b o a)(k:KB W X w)(hn:b∉X):IvAt w b o a:=by
 obtain ⟨x,y,z,x',y',z',h0,h1,h2,h3,h4,h5,hd⟩:=h;exact ⟨x,y,z,x',y',z',k.cell h0 hn,k.cell h1 hn,k.cell h2 hn,k.cell h3 hn,k.cell h4 hn,k.cell h5 hn,hd.kb k⟩
def Alu (v:Value) (X:List Nat):Prop:=∀ g,v.ownBlock=some g→g∉X
theorem IvS.kb {W w:World}{X:List Nat}{v:Value}{l:List RawI}(h:IvS W v l)(k:KB W X w)(hn:Alu v X):IvS w v l:=by
 obtain ⟨A,c,rfl,hc,hA⟩:=h;refine ⟨A,c,rfl,hc,fun h0=>?_⟩;obtain ⟨b,off,rfl,hd⟩:=hA h0;exact ⟨b,off,rfl,fun i d hi=>(hd i d hi).kb k (hn b rfl)⟩
theorem LnS.kb {W w:World}{X:List Nat}{v:Value}{l:List Ln}(h:LnS W v l)(k:KB W X w)(hn:Alu v X):LnS w v l:=by
 obtain ⟨A,c,rfl,hc,hA⟩:=h;refine ⟨A,c,rfl,hc,fun h0=>?_⟩;obtain ⟨b,off,rfl,hd⟩:=hA h0;refine ⟨b,off,rfl,fun i d hi=>?_⟩;obtain ⟨a0,a1,a2,a3⟩:=hd i d hi;exact ⟨k.cell a0 (hn b rfl),k.cell a1 (hn b rfl),k.cell a2 (hn b rfl),a3.kb k (hn b rfl)⟩
theorem InS.kb {W w:World}{X:List Nat}{v:Value}{l:List Int}(h:InS W v l)(k:KB W X w)(hn:Alu v X):InS w v l:=by
 obtain ⟨A,c,rfl,hc,hA⟩:=h;refine ⟨A,c,rfl,hc,fun h0=>?_⟩;obtain ⟨b,off,rfl,hd⟩:=hA h0;exact ⟨b,off,rfl,fun i d hi=>k.cell (hd i d hi) (hn b rfl)⟩
theorem BlkI.kb {W w:World}{X:List Nat}{b:Nat}{x y z x' y' z':Value}(h:BlkI W b x y z x' y' z')(k:KB W X w)(hn:b∉X):BlkI w b x y z x' y' z' :=
 (k.block b (Array.getElem?_eq_some_iff.1 h).1 hn).trans h
theorem Blk.kb {W w:World}{X:List Nat}{b:Nat}{x y z:Value}(h:Blk W b x y z)(k:KB W X w)(hn:b∉X):Blk w b x y z :=
 (k.block b (Array.getElem?_eq_some_iff.1 h).1 hn).trans h
theorem KB.blk {W w:World}{X:List Nat}(k:KB W X w){b:Nat}{o:Obj}(h:W.heap[b]?=some o)(hn:b∉X):w.heap[b]?=some o :=
 (k.block b (Array.getElem?_eq_some_iff.1 h).1 hn).trans h
theorem Tab.kb {W w:World}{X:List Nat}(h:Tab W)(k:KB W X w)(hX:0∉X):Tab w:=fun j hj=>k.cell (h j hj) hX
theorem Tab.ne {w:World}{b:Nat}{v:Value}(h:Tab w)(hc:w.cell? ⟨b,0,none⟩=some v)(hv:∀ y,v≠.int .u8 y):0≠b:=by
 intro e;subst e;have h0:=h 0 (by decide);rw [hc] at h0;injection h0 with h0
 exact hv _ h0
theorem Tab.lt {w:World}(h:Tab w):0<w.heap.size:=Aq (h 0 (by decide))
theorem Bx {W w:World}{X:List Nat}{b:Nat}{cs:Array Value}{T:TypeId}(h:W.heap[b]?=some (.cells cs T (0,0)))(k:KB W X w)(hn:b∉X)(i:Nat)(v:Value)(hi:cs[i]?=some v):w.cell? ⟨b,i,none⟩=some v :=
 Ab ((k.block b (Array.getElem?_eq_some_iff.1 h).1 hn).trans h) i v hi
theorem c6X {W w:World}{X:List Nat}{b:Nat}{x0 x1 x2 x3 x4 x5:Value}{T:TypeId}(h:W.heap[b]?=some (.cells #[x0,x1,x2,x3,x4,x5] T (0,0)))(k:KB W X w)(hn:b∉X) :
 w.cell? ⟨b,0,none⟩=some x0∧w.cell? ⟨b,1,none⟩=some x1∧w.cell? ⟨b,2,none⟩=some x2∧w.cell? ⟨b,3,none⟩=some x3∧w.cell? ⟨b,4,none⟩=some x4∧w.cell? ⟨b,5,none⟩=some x5 :=
 ⟨Bx h k hn 0 _ rfl,Bx h k hn 1 _ rfl,Bx h k hn 2 _ rfl,Bx h k hn 3 _ rfl,Bx h k hn 4 _ rfl,Bx h k hn 5 _ rfl⟩
theorem c3X {W w:World}{X:List Nat}{b:Nat}{x0 x1 x2:Value}{T:TypeId}(h:W.heap[b]?=some (.cells #[x0,x1,x2] T (0,0)))(k:KB W X w)(hn:b∉X) :
 w.cell? ⟨b,0,none⟩=some x0∧w.cell? ⟨b,1,none⟩=some x1∧w.cell? ⟨b,2,none⟩=some x2 :=
 ⟨Bx h k hn 0 _ rfl,Bx h k hn 1 _ rfl,Bx h k hn 2 _ rfl⟩
theorem KB.ivW {W w:World}{X:List Nat}{b:Nat}{n n':Bool}{A A':Option Addr}{l c l' c':Nat}{e e':Int}(h:KB W X w)(hb:BlkI w b (.bool n) (.slice A l c) (.int .i64 e) (.bool n') (.slice A' l' c') (.int .i64 e'))(hX:b∈X)(x y z x' y' z':Value) :
 KB W X (Go.Proofs.YtabjjdicffcolaaGreatDoor.ivW w b x y z x' y' z'):=by
 have k0:Below 0 w (Go.Proofs.YtabjjdicffcolaaGreatDoor.ivW w b x y z x' y' z') :=
  ((((((Below.refl 0 w).setCell (p:=⟨b,0,none⟩) (Nat.zero_le _) x).setCell (p:=⟨b,1,none⟩) (Nat.zero_le _) y).setCell (p:=⟨b,2,none⟩) (Nat.zero_le _) z).setCell (p:=⟨b,3,none⟩) (Nat.zero_le _) x').setCell (p:=⟨b,4,none⟩) (Nat.zero_le _) y').setCell (p:=⟨b,5,none⟩) (Nat.zero_le _) z'
 have ho:=fun k (hk:k≠b)=>Eo w b k x y z x' y' z' hk
 generalize Go.Proofs.YtabjjdicffcolaaGreatDoor.ivW w b x y z x' y' z'=w' at *;refine ⟨k0.os.trans h.os,k0.tape.trans h.tape,k0.output.trans h.output,Nat.le_trans h.size k0.size,fun k hk hn=>(ho k (fun e=>hn (by subst e;exact hX))).trans (h.block k hk hn),fun p j v hp=>?_⟩;have h1:=h.limb p j v hp;have hne:p≠b:=by
  rintro rfl;exact hb.noLimb _ _ (Aca hb h1) _ rfl
 rw [World.cell?_of_block (ho p hne)];exact h1
section
variable {P:Program} {ops:Array Oper} {Q:Exit→Act→World→Prop} {md:Region.Mode}
theorem Uf {J:(Nat→Bool)→World→Prop}{V:Nat→Value→World→Prop}{L:Nat→Bool}{i:Nat}{o:Oper}{a:Act}{w:World}
 (hV:∀ j u w w',Kept w w'→V j u w→V j u w') (hJ:∀ w',Kept w w'→J (upd L i true) w') (h:Bf P ops Q V i o a w):N7 P ops Q J V L i o a w:=by
 unfold Bf at h;unfold N7;by_cases hw:Region.wanted o (yielded ops a.tmps)=true
 ·rw [if_pos hw] at h ⊢;refine Oper.wp_mono (fun a' w' q=>?_) h;obtain ⟨v,rfl,k,hv⟩:=q;exact ⟨v,rfl,⟨hJ w' k,fun j _ u hu=>hV j u _ _ k hu⟩,hv⟩
 ·rw [if_neg hw] at h ⊢;exact ⟨hJ w (Below.refl _ _),h⟩
theorem Wc {J:(Nat→Bool)→World→Prop}{V:Nat→Value→World→Prop}{L:Nat→Bool}{i:Nat}{o:Oper}{a:Act}{w w':World}{v:Value}(hw:Region.wanted o (yielded ops a.tmps)=true)
 (h:(execOp a.eval o).run P w=.ok (.value v) w') (hJ:J (upd L i true) w') (hV:∀ j,j≠i→∀ u,V j u w→V j u w') (hv:V i v w'):N7 P ops Q J V L i o a w:=by
 unfold N7;rw [if_pos hw];unfold Oper.wp;rw [h];exact ⟨v,rfl,⟨hJ,hV⟩,hv⟩
theorem Aac {J:(Nat→Bool)→World→Prop}{V:Nat→Value→World→Prop}{L:Nat→Bool}{i:Nat}{o:Oper}{a:Act}{w w':World}(hw:Region.wanted o (yielded ops a.tmps)=true)
 (h:(execOp a.eval o).run P w=.ok .skip w') (hJ:J (upd L i true) w') (hV:∀ j,j≠i→∀ u,V j u w→V j u w') (hv:V i undef w'):N7 P ops Q J V L i o a w:=by
 unfold N7;rw [if_pos hw];unfold Oper.wp;rw [h];exact ⟨undef,rfl,⟨hJ,hV⟩,hv⟩
def Ale (P:Program) (ops:Array Oper) (Q:Exit→Act→World→Prop) (J:(Nat→Bool)→World→Prop) (V:Nat→Value→World→Prop) (L:Nat→Bool) (i:Nat) (o:Oper) (a:Act) (w:World):Prop :=
 ((∀ w',Kept w w'→J (upd L i true) w')∧Bf P ops Q V i o a w)∨N7 P ops Q J V L i o a w
def Wl (P:Program) (md:Region.Mode) (ops:Array Oper) (Q:Exit→Act→World→Prop) (m:Nat) (J:(Nat→Bool)→World→Prop) (V:Nat→Value→World→Prop) (a0:Act):Nat→Nat→List Oper→Prop
 | _,0,_=>True
 | _,_+1,[]=>True
 | i,k+1,o::l=>(∀ L a w,FindsG md ops m J V a0 L i a w→Ale P ops Q J V L i o a w)∧Wl P md ops Q m J V a0 (i+1) k l
theorem We {m:Nat}{J:(Nat→Bool)→World→Prop}{V:Nat→Value→World→Prop}{a0:Act}:∀ (k i0:Nat) (l:List Oper),Wl P md ops Q m J V a0 i0 k l →
 ∀ i o,i<k→l[i]?=some o→∀ L a w,FindsG md ops m J V a0 L (i0+i) a w→Ale P ops Q J V L (i0+i) o a w
 | 0,_,_,_,_,_,hi,_=>absurd hi (Nat.not_lt_zero _)
 | k+1,_,[],_,_,_,_,ho=>by simp at ho
 | k + 1, i0, x :: l, h, 0, o, _, ho => by
   simp at ho;subst ho;exact h.1
 | k + 1, i0, x :: l, h, i + 1, o, hi, ho => by
   have:=We k (i0+1) l h.2 i o (by omega) (by simpa using ho);have e:i0+1+i=i0+(i+1):=by omega
   rw [e] at this;exact this
theorem Rd {id m:Nat}{J:(Nat→Bool)→World→Prop}{l:List (Value→World→Prop)}{a0:Act}{W:World}(hm:P.follows .mixedOrders=true)
 (hsz:m=ops.size) (hap:Bp ops m=true) (hin:Cu ops m a0.tmps.size=true) (hbk:Dn .any ops=true) (hM:Jx l)
 (hJ:J (fun _=>false) W.drew) (hstep:Wl P .any ops Q m J (VL l) a0 0 m ops.toList)
 (hend:∀ u w L,(∀ i,i<m→L i=true)→J L w→(∀ i,i<m→VL l i (u i) w)→Q .normal (Av ops (fun _=>true) u m a0) w) :
 (Code.region id ops true).wp P Q a0 W:=by
 refine Zq (J:=J) (V:=VL l) hm hsz hap hin hbk hJ (fun i o hi ho L a w F=>?_) hend;have h:=We m 0 ops.toList hstep i o hi (by simpa using ho) L a w (by simpa using F);rw [Nat.zero_add] at h;rcases h with ⟨h1,h2⟩ | h
 ·exact Uf (H8 l hM) h1 h2
 ·exact h
def Sl (E:Nat→Bool) (i:Nat):Prop:=E i=false
def Wk (P:Program) (md:Region.Mode) (ops:Array Oper) (Q:Exit→Act→World→Prop) (m:Nat) (W:World) (X:List Nat) (E:Nat→Bool) (J:(Nat→Bool)→World→Prop) (V:Nat→Value→World→Prop) (a0:Act):Nat→Nat→List Oper→Prop
 | _,0,_=>True
 | _,_+1,[]=>True
 | i, k + 1, o :: l => ((Sl   E i ∧ ∀ L a w, FindsG md ops m (fun L w => KB W X w ∧ J L w) V a0 L i a w → Bf     P ops Q V i o a w) ∨ ∀ L a w, FindsG md ops m (fun L w => KB W X w ∧ J L w) V a0 L i a w → N7    P ops Q (fun L w => KB W X w ∧ J L w) V L i o a w) ∧
   Wk P md ops Q m W X E J V a0 (i+1) k l
theorem Wd {m:Nat}{W:World}{X:List Nat}{E:Nat→Bool}{J:(Nat→Bool)→World→Prop}{V:Nat→Value→World→Prop}{a0:Act}(hK:∀ i,Sl E i→∀ L w w',Kept w w'→J L w→J (upd L i true) w'):∀ (k i:Nat) (l:List Oper),
 Wk P md ops Q m W X E J V a0 i k l→Wl P md ops Q m (fun L w=>KB W X w∧J L w) V a0 i k l
 | 0,_,_,_=>trivial
 | _+1,_,[],_=>trivial
 | k+1,i,_::l,h=>⟨fun L a w F=>h.1.elim (fun h=>.inl ⟨fun w' q=>⟨F.frame.1.step q,hK i h.1 L w w' q F.frame.2⟩,h.2 L a w F⟩) (fun h=>.inr (h L a w F)),Wd hK k (i+1) l h.2⟩
theorem kp {c A B:Prop}(h:A)(e:c:=by exact rfl):(c∧A)∨B:=.inl ⟨e,h⟩
theorem rK {id:Nat}{a0:Act}{W:World}(m:Nat)(E:Nat→Bool)(X:List Nat)(J:(Nat→Bool)→World→Prop)(l:List (Value→World→Prop))(hK:∀ i,Sl E i→∀ L w w',Kept w w'→J L w→J (upd L i true) w')(hJ:J (fun _=>false) W.drew)
 (hs:Wk P .any ops Q m W X E J (VL l) a0 0 m ops.toList) (he:∀ u w L,(∀ i,i<m→L i=true)→KB W X w∧J L w→(∀ i,i<m→VL l i (u i) w)→Q .normal (Av ops (fun _=>true) u m a0) w) (hM:Nonempty (Jx l):=by infer_instance)
 (hm:P.follows .mixedOrders=true:=by kernel_rfl) (hz:m=ops.size:=by exact rfl) (ha:Bp ops m=true:=by kernel_rfl) (hi:Cu ops m a0.tmps.size=true:=by kernel_rfl) (hb:Dn .any ops=true:=by kernel_rfl):(Code.region id ops true).wp P Q a0 W :=
 Rd (J:=fun L w=>KB W X w∧J L w) hm hz ha hi hb (F8 hM) ⟨(KB.refl _ _).drew,hJ⟩ (Wd hK _ _ _ hs) he
def Ae9 (w w':World) (s:Nat):Nat→List (Value→World→Prop)→Prop
 | _,[]=>True
 | i,p::l=>(i=s∨∀ u,p u w→p u w')∧Ae9 w w' s (i+1) l
theorem Aab {w w':World}{s:Nat}:∀ (l:List (Value→World→Prop)) (i0:Nat),Ae9 w w' s i0 l→∀ j,i0+j≠s→∀ u,VL l j u w→VL l j u w'
 | [],_,_,_,_,_,_=>trivial
 | _::_,_,h,0,hj,u,hu=>(h.1.resolve_left (by simpa using hj)) u hu
 | _::l,i0,h,j+1,hj,u,hu=>Aab l (i0+1) h.2 j (by omega) u hu
theorem Jf {w w':World}{s:Nat}(l:List (Value→World→Prop))(h:Ae9 w w' s 0 l):∀ j,j≠s→∀ u,VL l j u w→VL l j u w' :=
 fun j hj u hu=>Aab l 0 h j (by omega) u hu
theorem vR {c:Prop}{x:Value}{w w':World}:c∨∀ u,vE x u w→vE x u w':=.inr fun _ h=>by
 unfold vE at h ⊢;exact h
theorem vS {x:Value}{w w':World}:∀ u,vE x u w→vE x u w':=fun _ h=>by
 unfold vE at h ⊢;exact h
variable {m i:Nat} {J:(Nat→Bool)→World→Prop} {l:List (Value→World→Prop)} {a0 a:Act} {w:World} {L:Nat→Bool}
theorem FindsG.v (F:FindsG md ops m J (VL l) a0 L i a w)(j t:Nat){x:Value}(h:l.getD j (fun _ _=>True)=vE x:=by exact rfl)(h1:Bc md ops i j=true:=by kernel_rfl)(h2:An ops j=some t:=by exact rfl):a.tmps.getD t undef=x:=by
 have h3:=F.done j t h1 h2;unfold VL at h3;rw [h] at h3;exact h3
theorem FindsG.p (F:FindsG md ops m J (VL l) a0 L i a w)(j t:Nat){p:Value→World→Prop}(h:l.getD j (fun _ _=>True)=p:=by exact rfl)(h1:Bc md ops i j=true:=by kernel_rfl)(h2:An ops j=some t:=by exact rfl):p (a.tmps.getD t undef) w:=by
 have h3:=F.done j t h1 h2;unfold VL at h3;rw [h] at h3;exact h3
theorem FindsG.q {V:Nat→Value→World→Prop}(F:FindsG md ops m J V a0 L i a w)(t:Nat)(x:Value)(h:Ev md ops m i t=true:=by kernel_rfl)(e:a0.tmps.getD t undef=x:=by exact rfl):a.tmps.getD t undef=x:=(F.old t h).trans e
theorem FindsG.o {V:Nat→Value→World→Prop}(F:FindsG md ops m J V a0 L i a w)(t:Nat)(h:Ev md ops m i t=true:=by kernel_rfl):a.tmps.getD t undef=a0.tmps.getD t undef:=F.old t h
section
variable {E:Nat→Bool} {X:List Nat} {W:World} {B:Prop} {V:Nat→Value→World→Prop} {o:Oper}
theorem kv (j t:Nat){x:Value}{y:Value}(h:l.getD j (fun _ _=>True)=vE x:=by exact rfl)(h1:Bc md ops i j=true:=by kernel_rfl)(h2:An ops j=some t:=by exact rfl)(hy:l.getD i (fun _ _=>True)=vE y:=by exact rfl)(hg:o.guard=none:=by exact rfl)(he:Sl E i:=by exact rfl)(hx:∀ (a:Act) (w:World),a.tmps.getD t undef=x→(execOp a.eval o).run P w=.ok (.value y) w:=by intro aF wF s;go_simp):((Sl E i∧∀ L a w,FindsG md ops m (fun L w=>KB W X w∧J L w) (VL l) a0 L i a w→Bf P ops Q (VL l) i o a w)∨B):=.inl ⟨he,fun _ a w F=>Ak (by simp [Region.wanted,hg]) (hx a w (F.v j t h h1 h2)) (by unfold VL;rw [hy];rfl)⟩
theorem kq (t:Nat){x:Value}{y:Value}(h:Ev md ops m i t=true:=by kernel_rfl)(h1:a0.tmps.getD t undef=x:=by exact rfl)(hy:l.getD i (fun _ _=>True)=vE y:=by exact rfl)(hg:o.guard=none:=by exact rfl)(he:Sl E i:=by exact rfl)(hx:∀ (a:Act) (w:World),a.tmps.getD t undef=x→(execOp a.eval o).run P w=.ok (.value y) w:=by intro aF wF s;go_simp):((Sl E i∧∀ L a w,FindsG md ops m (fun L w=>KB W X w∧J L w) (VL l) a0 L i a w→Bf P ops Q (VL l) i o a w)∨B):=.inl ⟨he,fun _ a w F=>Ak (by simp [Region.wanted,hg]) (hx a w ((F.old t h).trans h1)) (by unfold VL;rw [hy];rfl)⟩
theorem kvv (j t j' t':Nat){x x':Value}{y:Value}(h:l.getD j (fun _ _=>True)=vE x:=by exact rfl)(h1:Bc md ops i j=true:=by kernel_rfl)(h2:An ops j=some t:=by exact rfl)(h':l.getD j' (fun _ _=>True)=vE x':=by exact rfl)(h'1:Bc md ops i j'=true:=by kernel_rfl)(h'2:An ops j'=some t':=by exact rfl)(hy:l.getD i (fun _ _=>True)=vE y:=by exact rfl)(hg:o.guard=none:=by exact rfl)(he:Sl E i:=by exact rfl)(hx:∀ (a:Act) (w:World),a.tmps.getD t undef=x→a.tmps.getD t' undef=x'→(execOp a.eval o).run P w=.ok (.value y) w:=by intro aF wF s s';go_simp):((Sl E i∧∀ L a w,FindsG md ops m (fun L w=>KB W X w∧J L w) (VL l) a0 L i a w→Bf P ops Q (VL l) i o a w)∨B):=.inl ⟨he,fun _ a w F=>Ak (by simp [Region.wanted,hg]) (hx a w (F.v j t h h1 h2) (F.v j' t' h' h'1 h'2)) (by unfold VL;rw [hy];rfl)⟩
theorem kql (t:Nat){x:Value}{p:World→Prop}{y:Value}(c:∀ w,KB W X w→p w)(h:Ev md ops m i t=true:=by kernel_rfl)(h1:a0.tmps.getD t undef=x:=by exact rfl)(hy:l.getD i (fun _ _=>True)=vE y:=by exact rfl)(hg:o.guard=none:=by exact rfl)(he:Sl E i:=by exact rfl)(hx:∀ (a:Act) (w:World),a.tmps.getD t undef=x→p w→(execOp a.eval o).run P w=.ok (.value y) w:=by intro aF wF s c;go_simp):((Sl E i∧∀ L a w,FindsG md ops m (fun L w=>KB W X w∧J L w) (VL l) a0 L i a w→Bf P ops Q (VL l) i o a w)∨B):=.inl ⟨he,fun _ a w F=>Ak (by simp [Region.wanted,hg]) (hx a w ((F.old t h).trans h1) (c w F.frame.1)) (by unfold VL;rw [hy];rfl)⟩
end
end
section
variable {P:Program} {ops:Array Oper} {Q:Exit→Act→World→Prop} {md:Region.Mode}
def Mg (P:Program) (ops:Array Oper) (Q:Exit→Act→World→Prop) (J:(Nat→Bool)→World→Prop) (V:Nat→Value→World→Prop) (G:(Nat→Bool)→(Nat→Value)→World→Prop) (L:Nat→Bool) (u:Nat→Value) (i:Nat) (o:Oper) (a:Act) (w:World):Prop :=
 if Region.wanted o (yielded ops a.tmps)=true then o.wp P a w (fun a' w'=>∃ v,a'=a.put o.dst v∧(J (upd L i true) w'∧∀ j,j≠i→∀ u,V j u w→V j u w')∧V i v w'∧G (upd L i true) (upd u i v) w') Q
  else J (upd L i true) w∧V i undef w∧G (upd L i true) (upd u i undef) w
theorem O8 {J:(Nat→Bool)→World→Prop}{V:Nat→Value→World→Prop}{G:(Nat→Bool)→(Nat→Value)→World→Prop}{L:Nat→Bool}{u:Nat→Value}{i:Nat}{o:Oper}{a:Act}{w w':World}{v:Value}(hw:Region.wanted o (yielded ops a.tmps)=true)
 (h:(execOp a.eval o).run P w=.ok (.value v) w') (hJ:J (upd L i true) w') (hV:∀ j,j≠i→∀ u,V j u w→V j u w') (hv:V i v w') (hG:G (upd L i true) (upd u i v) w'):Mg P ops Q J V G L u i o a w:=by
 unfold Mg;rw [if_pos hw];unfold Oper.wp;rw [h];exact ⟨v,rfl,⟨hJ,hV⟩,hv,hG⟩
theorem L4 {J:(Nat→Bool)→World→Prop}{V:Nat→Value→World→Prop}{G:(Nat→Bool)→(Nat→Value)→World→Prop}{L:Nat→Bool}{u:Nat→Value}{i:Nat}{o:Oper}{a:Act}{w w':World}(hw:Region.wanted o (yielded ops a.tmps)=true)
 (h:(execOp a.eval o).run P w=.ok .skip w') (hJ:J (upd L i true) w') (hV:∀ j,j≠i→∀ u,V j u w→V j u w') (hv:V i undef w') (hG:G (upd L i true) (upd u i undef) w'):Mg P ops Q J V G L u i o a w:=by
 unfold Mg;rw [if_pos hw];unfold Oper.wp;rw [h];exact ⟨undef,rfl,⟨hJ,hV⟩,hv,hG⟩
structure Ae4 (md:Region.Mode) (ops:Array Oper) (m:Nat) (V:Nat→Value→World→Prop) (G:(Nat→Bool)→(Nat→Value)→World→Prop) (L:Nat→Bool) (u:Nat→Value) (i:Nat) (a:Act) (w:World):Prop where
 eq:∀ j t,Bc md ops i j=true→An ops j=some t→a.tmps.getD t undef=u j
 is:∀ j,j<m→L j=true→V j (u j) w
 g:G L u w
def Aap (P:Program) (md:Region.Mode) (ops:Array Oper) (Q:Exit→Act→World→Prop) (m:Nat) (J:(Nat→Bool)→World→Prop) (V:Nat→Value→World→Prop) (E:Nat→Bool) (G:(Nat→Bool)→(Nat→Value)→World→Prop) (a0:Act):Nat→Nat→List Oper→Prop
 | _,0,_=>True
 | _,_+1,[]=>True
 | i,k+1,o::l=>((E i=false∧∀ L a w,FindsG md ops m J V a0 L i a w→(∀ w',Kept w w'→J (upd L i true) w')∧Bf P ops Q V i o a w)∨(∀ L u a w,FindsG md ops m J V a0 L i a w→Ae4 md ops m V G L u i a w→Mg P ops Q J V G L u i o a w))∧Aap P md ops Q m J V E G a0 (i+1) k l
theorem Wf {m:Nat}{J:(Nat→Bool)→World→Prop}{V:Nat→Value→World→Prop}{E:Nat→Bool}{G:(Nat→Bool)→(Nat→Value)→World→Prop}{a0:Act}(hV:∀ j u w w',Kept w w'→V j u w→V j u w')
 (hG:∀ i,E i=false→∀ L u v w w',Kept w w'→G L u w→G (upd L i true) (upd u i v) w'):∀ (k i0:Nat) (l:List Oper),Aap P md ops Q m J V E G a0 i0 k l →
 ∀ i o,i<k→l[i]?=some o→∀ L u a w,FindsG md ops m J V a0 L (i0+i) a w→Ae4 md ops m V G L u (i0+i) a w→Mg P ops Q J V G L u (i0+i) o a w
 | 0,_,_,_,_,_,hi,_=>absurd hi (Nat.not_lt_zero _)
 | k+1,_,[],_,_,_,_,ho=>by simp at ho
 | k + 1, i0, x :: l, h, 0, o, _, ho => by
   simp at ho;subst ho;intro L u a w F F';rcases h.1 with ⟨h1,h3⟩ | h3
   ·obtain ⟨q1,q2⟩:=h3 L a w F;have q:=Uf hV q1 q2;unfold Bf at q2;unfold Mg;by_cases hw:Region.wanted x (yielded ops a.tmps)=true
    ·rw [if_pos hw] at q2 ⊢;refine Oper.wp_mono (fun a' w' qq=>?_) q2;obtain ⟨v,rfl,k,hv⟩:=qq;exact ⟨v,rfl,⟨q1 w' k,fun j _ u hu=>hV j u _ _ k hu⟩,hv,hG _ h1 L u v w w' k F'.g⟩
    ·rw [if_neg hw] at q2 ⊢;exact ⟨q1 w (Below.refl _ _),q2,hG _ h1 L u undef w w (Below.refl _ _) F'.g⟩
   ·exact h3 L u a w F F'
 | k + 1, i0, x :: l, h, i + 1, o, hi, ho => by
   have:=Wf hV hG k (i0+1) l h.2 i o (by omega) (by simpa using ho);have e:i0+1+i=i0+(i+1):=by omega
   rw [e] at this;exact this
theorem Re {id m:Nat}{E:Nat→Bool}{G:(Nat→Bool)→(Nat→Value)→World→Prop}{J:(Nat→Bool)→World→Prop}{l:List (Value→World→Prop)}{a0:Act}{W:World}(hm:P.follows .mixedOrders=true)
 (hG:∀ i,E i=false→∀ L u v w w',Kept w w'→G L u w→G (upd L i true) (upd u i v) w') (hG0:G (fun _=>false) (fun _=>undef) W.drew)
 (hsz:m=ops.size) (hap:Bp ops m=true) (hin:Cu ops m a0.tmps.size=true) (hbk:Dn .any ops=true) (hM:Jx l)
 (hJ:J (fun _=>false) W.drew) (hstep:Aap P .any ops Q m J (VL l) E G a0 0 m ops.toList)
 (hend:∀ u w L,(∀ i,i<m→L i=true)→J L w→(∀ i,i<m→VL l i (u i) w)→G L u w→Q .normal (Av ops (fun _=>true) u m a0) w) :
 (Code.region id ops true).wp P Q a0 W:=by
 refine M4 (m:=m) (J:=fun L u w=>J L w∧(∀ j,j<m→L j=true→VL l j (u j) w)∧G L u w) hm hsz hap hin hbk ⟨hJ,fun j _ h=>by (cases h),hG0⟩ (fun i o hi ho L u a w F=>?_) (fun u w L hL hk=>hend u w L hL hk.1 (fun i hi=>hk.2.1 i hi (hL i hi)) hk.2.2);obtain ⟨f1,f2,f3⟩:=F.frame;have GG:FindsG .any ops m J (VL l) a0 L i a w:=⟨f1,F.yet,F.wait,F.defers,fun j t h1 h2=>by rw [F.done j t h1 h2];exact f2 j (F.lt j (F.wait j h1)) (F.wait j h1),F.old⟩;have h:=Wf (H8 l hM) hG m 0 ops.toList hstep i o hi (by simpa using ho) L u a w (by simpa using GG) ⟨by simpa using F.done,f2,f3⟩;rw [Nat.zero_add] at h
 unfold Mg at h;unfold N8;have up:∀ (v:Value) (w':World),(∀ j,j≠i→∀ u,VL l j u w→VL l j u w')→VL l i v w'→∀ j,j<m→upd L i true j=true→VL l j (upd u i v j) w':=by
  intro v w' hs hv j hj hL;by_cases e:j=i
  ·subst e;simpa [upd] using hv
  ·have:L j=true:=by simpa [upd,e] using hL
   have:=hs j e _ (f2 j hj this);simpa [upd,e] using this
 by_cases hw:Region.wanted o (yielded ops a.tmps)=true
 ·rw [if_pos hw] at h ⊢;refine Oper.wp_mono (fun a' w' q=>?_) h;obtain ⟨v,rfl,⟨k1,k2⟩,hv,hg⟩:=q;exact ⟨v,rfl,k1,up v w' k2 hv,hg⟩
 ·rw [if_neg hw] at h ⊢;obtain ⟨k1,k2,hg⟩:=h;exact ⟨k1,up undef w (fun j _ u h=>h) k2,hg⟩
end
theorem Ai2:dz.raw=rz:=by unfold Dy.raw dz rz;simp only [Ay]
theorem Po:iz.raw=rzI:=by unfold Iv.raw iz rzI;simp only [Ai2]
theorem Al7 (w:World)(x y z p q r:Value):∃ W,W=((w.alloc (.cells #[x,y,z] 28)).alloc (.cells #[p,q,r] 28)).alloc (.cells #[.bool false,.slice none 0 0,.int .i64 0,.bool false,.slice none 0 0,.int .i64 0] 30) ∧
 Kept w W∧Blk W w.heap.size x y z∧Blk W (w.heap.size+1) p q r∧BlkI W (w.heap.size+1+1) (.bool false) (.slice none 0 0) (.int .i64 0) (.bool false) (.slice none 0 0) (.int .i64 0):=by
 refine ⟨_,rfl,((Ad _ _).trans (Ad _ _)).trans (Ad _ _),?_,?_,?_⟩
 ·exact (Be (Bk _ _ _ _) _).kept (Ad _ _)
 ·exact (Dt _ _ _ _ _).kept (Ad _ _)
 ·have:=Ek ((w.alloc (.cells #[x,y,z] 28)).alloc (.cells #[p,q,r] 28));simp only [World.size_alloc] at this;exact this
theorem Afl (w:World)(x y z x' y' z':Value):∃ W,W=(w.alloc (.cells #[x,y,z,x',y',z'] 30)).alloc (.cells #[.bool false,.slice none 0 0,.int .i64 0,.bool false,.slice none 0 0,.int .i64 0] 30) ∧
 Kept w W∧BlkI W w.heap.size x y z x' y' z'∧BlkI W (w.heap.size+1) (.bool false) (.slice none 0 0) (.int .i64 0) (.bool false) (.slice none 0 0) (.int .i64 0):=by
 refine ⟨_,rfl,(Ad _ _).trans (Ad _ _),(Fs _ _ _ _ _ _ _).kept (Ad _ _),?_⟩;have:=Ek (w.alloc (.cells #[x,y,z,x',y',z'] 30));simp only [World.size_alloc] at this;exact this
theorem Al4 {w:World}{v u:Value}{o1 o2:Outc Dy}(hv:DyR w v o1.v.raw)(hu:DyR w u o2.v.raw) :
 Calls Tryz.prog 93 #[v,.int .i64 o1.k,u,.int .i64 o2.k] w (RetIE (Br (Gg o1 o2)) w):=by
 obtain ⟨A,l,c,rfl,h1⟩:=Bg hv;obtain ⟨B,j,e,rfl,g1⟩:=Bg hu;obtain ⟨W,hW,kW,BA,BB,BR⟩:=Al7 w (.bool o1.v.neg) (.slice A l c) (.int .i64 o1.v.e) (.bool o2.v.neg) (.slice B j e) (.int .i64 o2.v.e);have Z1:=hid (h1.kept kW);have Z2:=hid (g1.kept kW);have HW:=hid hW;have HK:=hid kW;obtain ⟨-,c0,c1,c2,-⟩:=BA.facts;obtain ⟨-,d0,d1,d2,-⟩:=BB.facts;have HR:=hid BR;obtain ⟨-,r0,r1,r2,r3,r4,r5⟩:=BR.facts;obtain ⟨f0,f1,f2,f3,f4,f5⟩:=BR.free;clear hW kW BA BB BR h1 g1 hv hu;by_cases k1:o1.k=0
 ·by_cases k2:o2.k=0
  ·have ho:Br (Gg o1 o2)=⟨⟨o1.v.raw,o2.v.raw⟩,0⟩:=by
    unfold Gg;rw [Outc.bind_of _ _ k1,Outc.bind_of _ _ k2];rfl
   rw [ho,k1,k2];have HO:=hid ho;clear ho k1 k2;generalize o1.v.neg=n1 at *;generalize o1.v.e=e1 at *;generalize o2.v.neg=n2 at *;generalize o2.v.e=e2 at *;generalize o1.v.raw=r1 at *;generalize o2.v.raw=r2 at *;go_enter Tryz.func93,Tryz.ntmps93;go_upto_region 1 with fail;rw [←HW.out];go_wp2_with fail;exact Dm (HR.out.laid _ _ _ _ _ _) rfl rfl rfl ⟨Az HK.out (by omega),_,rfl,_,_,_,_,_,_,rfl,Z1.out.ivW HR.out _ _ _ _ _ _,Z2.out.ivW HR.out _ _ _ _ _ _⟩
  ·have ho:Br (Gg o1 o2)=⟨rzI,o2.k⟩:=by
    unfold Gg Outc.bind;rw [if_pos k1];simp only [if_neg k2];exact congrArg (Outc.mk · o2.k) Po
   rw [ho,k1];have k2':(o2.k != 0)=true:=by simp [k2]
   clear ho k1 k2;generalize o1.v.neg=n1 at *;generalize o1.v.e=e1 at *;generalize o2.v.neg=n2 at *;generalize o2.v.e=e2 at *;generalize o1.v.raw=r1 at *;generalize o2.v.raw=r2 at *;generalize o2.k=q2 at *;go_enter Tryz.func93,Tryz.ntmps93;go_upto_region 1 with fail;rw [←HW.out];go_wp2_with fail;exact Dm (HR.out.laid _ _ _ _ _ _) rfl rfl rfl ⟨Az HK.out (by omega),_,rfl,Cr _⟩
 ·have ho:Br (Gg o1 o2)=⟨rzI,o1.k⟩:=by
   unfold Gg Outc.bind;rw [if_neg k1];exact congrArg (Outc.mk · o1.k) Po
  rw [ho];have k1':(o1.k != 0)=true:=by simp [k1]
  clear ho k1;generalize o1.v.neg=n1 at *;generalize o1.v.e=e1 at *;generalize o2.v.neg=n2 at *;generalize o2.v.e=e2 at *;generalize o1.v.raw=r1 at *;generalize o2.v.raw=r2 at *;generalize o2.k=q2 at *;generalize o1.k=q1 at *;go_enter Tryz.func93,Tryz.ntmps93;go_upto_region 1 with fail;rw [←HW.out];go_wp2_with fail;exact Dm (HR.out.laid _ _ _ _ _ _) rfl rfl rfl ⟨Az HK.out (by omega),_,rfl,Cr _⟩
theorem Afj (w:World)(x y z:Value):∃ V,V=w.alloc (.cells #[x,y,z] 28)∧Kept w V∧Blk V w.heap.size x y z∧w.heap.size<V.heap.size :=
 ⟨_,rfl,Ad _ _,Bk _ _ _ _,by simp⟩
theorem Yy {w:World}{v:Value}{a:Iv}{p:Nat}(hv:IvC w v a)(ha:a.Ok)(hT:Tab w)(p1:1≤p)(p2:p≤2000) :
 Calls Tryz.prog 59 #[v,.int .i64 p] w (RetIE (Br (Cv a p)) w):=by
 have m1:=fun w1 (k:Kept w w1)=>Nk (hv.kept k) ha
 obtain ⟨A,l,c,A',l',c',rfl,h1,h2⟩:=Bm hv;have c1:=fun w1 (k:Kept w w1)=>Oi (h1.kept k) ha.lo (hT.kept k) p1 p2
 have c2:=fun w1 (k:Kept w w1)=>Aaq (h2.kept k) ha.hi (hT.kept k) p1 p2
 have hdef:Cv a p=Gg (Cw a.lo p false) (Cw a.hi p true):=rfl;rw [hdef];obtain ⟨W,hW,kW,BI,BR⟩:=Afl w (.bool a.lo.neg) (.slice A l c) (.int .i64 a.lo.e) (.bool a.hi.neg) (.slice A' l' c') (.int .i64 a.hi.e);have M1:=hid m1;have C1:=hid c1;have C2:=hid c2;have HW:=hid hW;have K:=hid kW;have HB:=hid BI;have HR:=hid BR;clear m1 c1 c2 hW kW BI BR h1 h2 hv ha hT hdef;generalize Cw a.lo p false=o1 at *;generalize Cw a.hi p true=o2 at *;generalize a.lo.neg=n1 at *;generalize a.lo.e=e1 at *;generalize a.hi.neg=n2 at *;generalize a.hi.e=e2 at *;go_enter Tryz.func59,Tryz.ntmps59;go_wp2_with fail
 rw [←HW.out];refine (M1.out _ K.out).mono ?_;rintro e w1 ⟨rfl,q⟩;replace K:=hid (K.out.trans q);replace HB:=hid (HB.out.kept q);replace HR:=hid (HR.out.kept q);clear q M1 HW;obtain ⟨-,c0,c1,c2,c3,c4,c5⟩:=HB.out.facts;simp only [];go_wp2_with fail;refine (C1.out _ K.out).mono ?_;rintro e w2 ⟨q,u,rfl,hd⟩;obtain ⟨PX,pX,qX,rfl,z1⟩:=Bg hd;simp only [];obtain ⟨VX,hV,kV,hb,lV⟩:=Afj w2 (.bool o1.v.neg) (.slice PX pX qX) (.int .i64 o1.v.e);have HV:=hid hV;have kk:=q.trans kV;have lt1:w.heap.size+1<w2.heap.size:=Nat.lt_of_lt_of_le HR.out.facts.1 q.size;replace K:=hid (K.out.trans kk);replace HB:=hid (HB.out.kept kk);replace HR:=hid (HR.out.kept kk)
 have HX:=hid hb;have ZX:=hid (z1.kept kV);clear hV kV hb lV kk q hd z1 c0 c1 c2 c3 c4 c5 C1;go_upto_region 4 with fail;rw [←HV.out];clear HV;generalize w2.heap.size=bX at *;obtain ⟨-,c0,c1,c2,c3,c4,c5⟩:=HB.out.facts;go_wp2_with fail;refine (C2.out _ K.out).mono ?_;rintro e w2 ⟨q,u,rfl,hd⟩;obtain ⟨PY,pY,qY,rfl,z1⟩:=Bg hd;simp only [];obtain ⟨VY,hV,kV,hb,lV⟩:=Afj w2 (.bool o2.v.neg) (.slice PY pY qY) (.int .i64 o2.v.e);have HV:=hid hV;have kk:=q.trans kV;have lt2:bX<w2.heap.size:=Nat.lt_of_lt_of_le HX.out.facts.1 q.size;replace K:=hid (K.out.trans kk);replace HR:=hid (HR.out.kept kk);replace HX:=hid (HX.out.kept kk);replace ZX:=hid (ZX.out.kept kk)
 have HY:=hid hb;have ZY:=hid (z1.kept kV);clear hV kV hb lV kk q hd z1 c0 c1 c2 c3 c4 c5 C2 HB;go_upto_region 5 with fail;rw [←HV.out];clear HV;generalize w2.heap.size=bY at *;obtain ⟨-,c0,c1,c2,-⟩:=HX.out.facts;obtain ⟨-,d0,d1,d2,-⟩:=HY.out.facts;go_wp2_with fail;refine (Al4 ZX.out ZY.out).mono ?_;rintro e w2 ⟨q,u,rfl,hd⟩;obtain ⟨P,p',q',R,r,s,rfl,z1,z2⟩:=Au hd;have hr:=HR.out.kept q;obtain ⟨-,r0,r1,r2,r3,r4,r5⟩:=hr.facts;obtain ⟨f0,f1,f2,f3,f4,f5⟩:=hr.free;have HRR:=hid hr;have Z1:=hid z1;have Z2:=hid z2;clear hr z1 z2 hd c0 c1 c2 d0 d1 d2;simp only [];go_wp2_with fail;exact Dm (HRR.out.laid _ _ _ _ _ _) rfl rfl rfl ⟨Az (K.out.trans q) (by omega),_,rfl,_,_,_,_,_,_,rfl,Z1.out.ivW HRR.out _ _ _ _ _ _,Z2.out.ivW HRR.out _ _ _ _ _ _⟩
theorem Al9 (w:World)(x y z x' y' z' p q r p' q' r':Value):∃ W,W=((w.alloc (.cells #[x,y,z,x',y',z'] 30)).alloc (.cells #[p,q,r,p',q',r'] 30)).alloc (.cells #[.bool false,.slice none 0 0,.int .i64 0,.bool false,.slice none 0 0,.int .i64 0] 30) ∧
 Kept w W∧BlkI W w.heap.size x y z x' y' z'∧BlkI W (w.heap.size+1) p q r p' q' r'∧BlkI W (w.heap.size+1+1) (.bool false) (.slice none 0 0) (.int .i64 0) (.bool false) (.slice none 0 0) (.int .i64 0):=by
 obtain ⟨W,hW,k,b1,b2⟩:=Wn w x y z x' y' z' p q r p' q' r';refine ⟨_,rfl,?_,?_,?_,?_⟩
 ·rw [←hW];exact k.trans (Ad _ _)
 ·rw [←hW];exact b1.kept (Ad _ _)
 ·rw [←hW];exact b2.kept (Ad _ _)
 ·have:=Ek ((w.alloc (.cells #[x,y,z,x',y',z'] 30)).alloc (.cells #[p,q,r,p',q',r'] 30));simp only [World.size_alloc] at this;exact this
structure Hm (S:Int→Prop):Prop where
 add:S 6→∀ {w:World} {v u:Value} {a b:Iv} {p:Nat},IvC w v a→IvC w u b→a.Ok→b.Ok→Tab w→1≤p→p≤2000→Calls Tryz.prog 96 #[v,u,.int .i64 p] w (RetIE (Br (Ef a b p)) w)
 sub:S 7→∀ {w:World} {v u:Value} {a b:Iv} {p:Nat},IvC w v a→IvC w u b→a.Ok→b.Ok→Tab w→1≤p→p≤2000→Calls Tryz.prog 97 #[v,u,.int .i64 p] w (RetIE (Br (Ho a b p)) w)
 mul:S 8→∀ {w:World} {v u:Value} {a b:Iv} {p:Nat},IvC w v a→IvC w u b→a.Ok→b.Ok→Tab w→1≤p→p≤2000→Calls Tryz.prog 98 #[v,u,.int .i64 p] w (RetIE (Br (Cg a b p)) w)
 div:S 9→∀ {w:World} {v u:Value} {a b:Iv} {p:Nat},IvC w v a→IvC w u b→a.Ok→b.Ok→Tab w→1≤p→p≤2000→Calls Tryz.prog 94 #[v,u,.int .i64 p] w (RetIE (Br (Da a b p)) w)
 neg:S 10→∀ {w:World} {v:Value} {a:Iv} {p:Nat},IvC w v a→a.Ok→Tab w→1≤p→p≤2000→Calls Tryz.prog 99 #[v,.int .i64 p] w (RetIE (Br (Mv a p)) w)
 sqr:S 11→∀ {w:World} {v:Value} {a:Iv} {p:Nat},IvC w v a→a.Ok→Tab w→1≤p→p≤2000→Calls Tryz.prog 100 #[v,.int .i64 p] w (RetIE (Br (Iz a p)) w)
 sqrt:S 12→∀ {w:World} {v:Value} {a:Iv} {p:Nat},IvC w v a→a.Ok→Tab w→1≤p→p≤2000→Calls Tryz.prog 101 #[v,.int .i64 p] w (RetIE (Br (Cc a p)) w)
end Go.Proofs.YtabjjdicffcolaaGreatDoor
