/- The cells of a row of intervals. -/
import Derived.Test.YtabjjdicffcolaaGreatDoorClaimTusesp28
set_option maxRecDepth 100000
set_option maxHeartbeats 16000000
namespace Go.Proofs.YtabjjdicffcolaaGreatDoor
open Go.Lib (hid)
open Go.RowKit
structure Ln where
 op:Int
 a:Int
 b:Int
 k:RawI
structure En where
 t:RawI
 x:List RawI
 u:List RawI
 p:List RawI
def Ce (op:Int):Int :=
 if op=1∨op=2∨op=3∨op=4∨op=5 then 0 else if op=6∨op=7∨op=8∨op=9 then 2 else if op=10∨op=11∨op=12∨op=13 then 1 else -1
def Bz (n most:Int):Bool:=decide (0≤n)&&decide (n<most)
def N0 (a b:RawI):Bool:=Jj a.lo b.lo&&Jj a.hi b.hi
def Ff (l:Ln) (at':Int) (x u p:Int):Bool :=
 if l.op=1 then Fz l.k&&(decide (l.a=0)&&decide (l.b=0)) else
 if N0 l.k rzI=false then false else
 if l.op=2 then decide (l.a=0)&&decide (l.b=0) else
 if l.op=3 then Bz l.a x&&decide (l.b=0) else
 if l.op=4 then Bz l.a u&&decide (l.b=0) else
 if l.op=5 then Bz l.a p&&decide (l.b=0) else
 if l.op=6∨l.op=7∨l.op=8∨l.op=9 then Bz l.a at'&&Bz l.b at' else
 if l.op=10∨l.op=11∨l.op=12∨l.op=13 then Bz l.a at'&&decide (l.b=0) else false
def R6 (x u p:Int):Nat→List Ln→Bool
 | _,[]=>true
 | i,l::ls=>Ff l i x u p&&R6 x u p (i+1) ls
def Ex (ls:List Ln) (outs:List Int) (x u p:Int):Bool :=
 decide (ls.length≤200)&&decide (outs.length≤200)&&R6 x u p 0 ls&&outs.all fun n=>Bz n ls.length
def Rj (e:En):Bool:=Fz e.t&&e.x.all Fz&&e.u.all Fz&&e.p.all Fz
def Hz (a:Iv) (p:Nat):Outc Iv:=G0 (Dh a.lo p false) (Dh a.hi p true)
def Ie (ov:Iv→Nat→Outc Iv) (op:Int) (a b:Iv) (p:Nat):Outc Iv :=
 if op=6 then Mz a b p else if op=7 then N2 a b p else if op=8 then Nz a b p else if op=9 then Kq a b p else
 if op=10 then N8 a p else if op=11 then Nr a p else if op=12 then Hw a p else ov a p
def atI (l:List RawI) (n:Int):Iv:=(l.getD n.toNat rzI).iv
def Dj (ov:Iv→Nat→Outc Iv) (e:En) (p:Nat) (out:List RawI) (l:Ln):Outc Iv :=
 if l.op=1 then Hz l.k.iv p else if l.op=2 then Hz e.t.iv p else if l.op=3 then Hz (atI e.x l.a) p else
 if l.op=4 then Hz (atI e.u l.a) p else if l.op=5 then Hz (atI e.p l.a) p else Ie ov l.op (atI out l.a) (atI out l.b) p
def Di (ov:Iv→Nat→Outc Iv) (e:En) (p:Nat):List RawI→List Ln→Outc (List RawI)
 | out,[]=>⟨out,0⟩
 | out,l::ls=>if (Dj ov e p out l).k=0 then Di ov e p (out++[(Dj ov e p out l).v.raw]) ls else ⟨[],(Dj ov e p out l).k⟩
def E8 (ov:Iv→Nat→Outc Iv) (ls:List Ln) (outs:List Int) (e:En) (p:Int):Outc (List RawI) :=
 if 1≤p∧p≤300∧Ex ls outs e.x.length e.u.length e.p.length=true∧Rj e=true then Di ov e p.toNat [] ls else ⟨[],1⟩
def Mq (ov:Iv→Nat→Outc Iv) (ls:List Ln) (outs:List Int) (e:En) (p:Int):Outc (List RawI) :=
 if (E8 ov ls outs e p).k=0 then ⟨outs.map fun n=>(E8 ov ls outs e p).v.getD n.toNat rzI,0⟩ else ⟨[],(E8 ov ls outs e p).k⟩
theorem Fb {a:Iv}(ha:a.Ok){p:Nat}(hp:1≤p):OkI (Hz a p):=by
 unfold Hz;refine J7 (Gw _ _ _) (Gw _ _ _) fun k1 k2=>?_
 have d1:=(Jt hp k1).le;have d2:=(Nk hp k2).le;have:=ha.le
 grind
def Cl (l:List RawI):Prop:=∀ a∈l,a.iv.Ok∧a.iv.raw=a
theorem Ah0 {a:Iv}(h:a.Ok):a.raw.iv.Ok∧a.raw.iv.raw=a.raw:=by rw [Iv.raw_iv];exact ⟨h,rfl⟩
theorem Cl.snoc {l:List RawI}{a:Iv}(h:Cl l)(ha:a.Ok):Cl (l++[a.raw]):=by
 intro x hx
 rcases List.mem_append.1 hx with hx | hx
 ·exact h x hx
 ·simp at hx;subst hx;exact Ah0 ha
theorem Aib:rzI.iv=iz:=rfl
theorem Cl.at {l:List RawI}(h:Cl l)(n:Int):(atI l n).Ok:=by
 unfold atI;rw [List.getD_eq_getElem?_getD];cases hi:l[n.toNat]? with
 | none=>simp only [Option.getD_none];rw [Aib];exact Abu
 | some a=>simp only [Option.getD_some];exact (h a (List.mem_of_getElem? hi)).1
structure En.Cl (e:En):Prop where
 t:e.t.iv.Ok∧e.t.iv.raw=e.t
 x:Go.Proofs.YtabjjdicffcolaaGreatDoor.Cl e.x
 u:Go.Proofs.YtabjjdicffcolaaGreatDoor.Cl e.u
 p:Go.Proofs.YtabjjdicffcolaaGreatDoor.Cl e.p
theorem Zh {ov:Iv→Nat→Outc Iv}{op:Int}{a b:Iv}(ha:a.Ok)(hb:b.Ok){p:Nat}(hp:1≤p)(hov:¬(6≤op∧op≤12)→OkI (ov a p)):OkI (Ie ov op a b p):=by
 unfold Ie
 split
 ·exact Yn ha hb hp
 split
 ·exact Afb ha hb hp
 split
 ·exact Af7 hp
 split
 ·exact Ahj hb hp
 split
 ·exact Agp ha hp
 split
 ·exact Agh hp
 split
 ·exact Aey ha hp
 ·exact hov (by omega)
theorem Acl {ov:Iv→Nat→Outc Iv}{e:En}{p:Nat}{out:List RawI}{l:Ln}(he:e.Cl)(ho:Go.Proofs.YtabjjdicffcolaaGreatDoor.Cl out)(hk:l.op=1→l.k.iv.Ok)(hp:1≤p)
 (hov:¬(1≤l.op∧l.op≤12)→∀ a,a.Ok→OkI (ov a p)):OkI (Dj ov e p out l):=by
 unfold Dj
 split
 ·rename_i h;exact Fb (hk h) hp
 split
 ·exact Fb he.t.1 hp
 split
 ·exact Fb (he.x.at _) hp
 split
 ·exact Fb (he.u.at _) hp
 split
 ·exact Fb (he.p.at _) hp
 ·exact Zh (ho.at _) (ho.at _) hp (fun h=>hov (by omega) _ (ho.at _))
def LnAt (w:World) (b o:Nat) (l:Ln):Prop:=w.cell? ⟨b,o,none⟩=some (.int .i64 l.op)∧w.cell? ⟨b,o+1,none⟩=some (.int .i64 l.a)∧w.cell? ⟨b,o+2,none⟩=some (.int .i64 l.b)∧IvAt w b (o+3) l.k
def LnS (w:World) (v:Value) (ls:List Ln):Prop:=∃ A c,v=.slice A ls.length c∧ls.length≤c∧(0<ls.length→∃ b off,A=some ⟨b,off,none⟩∧∀ i l,ls[i]?=some l→LnAt w b (off+i*9) l)
def InS (w:World) (v:Value) (ns:List Int):Prop:=∃ A c,v=.slice A ns.length c∧ns.length≤c∧(0<ns.length→∃ b off,A=some ⟨b,off,none⟩∧∀ i n,ns[i]?=some n→w.cell? ⟨b,off+i,none⟩=some (.int .i64 n))
theorem LnAt.kept {w w':World}{b o:Nat}{l:Ln}(h:LnAt w b o l)(k:Kept w w'):LnAt w' b o l:=by
 obtain ⟨h0,h1,h2,h3⟩:=h;have hb:=Ax h0;exact ⟨(k.cell (p:=⟨b,o,none⟩) hb).trans h0,(k.cell (p:=⟨b,o+1,none⟩) hb).trans h1,(k.cell (p:=⟨b,o+2,none⟩) hb).trans h2,h3.kept k⟩
theorem LnS.kept {w w':World}{v:Value}{l:List Ln}(h:LnS w v l)(k:Kept w w'):LnS w' v l:=by
 obtain ⟨A,c,rfl,hc,hA⟩:=h;refine ⟨A,c,rfl,hc,fun h0=>?_⟩;obtain ⟨b,off,rfl,hd⟩:=hA h0;exact ⟨b,off,rfl,fun i d hi=>(hd i d hi).kept k⟩
theorem InS.kept {w w':World}{v:Value}{l:List Int}(h:InS w v l)(k:Kept w w'):InS w' v l:=by
 obtain ⟨A,c,rfl,hc,hA⟩:=h;refine ⟨A,c,rfl,hc,fun h0=>?_⟩;obtain ⟨b,off,rfl,hd⟩:=hA h0;exact ⟨b,off,rfl,fun i d hi=>(k.cell (p:=⟨b,off+i,none⟩) (Ax (hd i d hi))).trans (hd i d hi)⟩
def TpR (w:World) (v:Value) (ls:List Ln) (outs:List Int):Prop:=∃ s o,v=.agg #[s,o]∧LnS w s ls∧InS w o outs
def EnR (w:World) (v:Value) (e:En):Prop:=∃ x y z x' y' z' sx su sp,v=.agg #[x,y,z,x',y',z',sx,su,sp]∧IvR w (.agg #[x,y,z,x',y',z']) e.t∧IvS w sx e.x∧IvS w su e.u∧IvS w sp e.p
theorem TpR.kept {w w':World}{v:Value}{ls:List Ln}{outs:List Int}(h:TpR w v ls outs)(k:Kept w w'):TpR w' v ls outs:=by
 obtain ⟨s,o,rfl,h1,h2⟩:=h;exact ⟨s,o,rfl,h1.kept k,h2.kept k⟩
theorem EnR.kept {w w':World}{v:Value}{e:En}(h:EnR w v e)(k:Kept w w'):EnR w' v e:=by
 obtain ⟨x,y,z,x',y',z',sx,su,sp,rfl,h1,h2,h3,h4⟩:=h;exact ⟨x,y,z,x',y',z',sx,su,sp,rfl,h1.kept k,h2.kept k,h3.kept k,h4.kept k⟩
theorem IvR.cells {w:World}{x y z x' y' z':Value}{a:RawI}(h:IvR w (.agg #[x,y,z,x',y',z']) a):∀ u∈[x,y,z,x',y',z'],Bo u∧u.oneCell'=true:=by
 obtain ⟨A,l,c,A',l',c',e,-,-⟩:=Az h;injection e with e;injection e with e
 simp only [List.cons.injEq,and_true] at e;obtain ⟨rfl,rfl,rfl,rfl,rfl,rfl⟩:=e;intro u hu
 simp at hu
 rcases hu with rfl | rfl | rfl | rfl | rfl | rfl
 ·exact ⟨Ag _,rfl⟩
 ·exact ⟨Af _ _ _,rfl⟩
 ·exact ⟨Ai _,rfl⟩
 ·exact ⟨Ag _,rfl⟩
 ·exact ⟨Af _ _ _,rfl⟩
 ·exact ⟨Ai _,rfl⟩
theorem IvR.grown {w w':World}{v:Value}{a:RawI}{row:Option Nat}(h:IvR w v a)(hg:w.grownBy w' row)(hN:∀ g,row=some g→NoL w g):IvR w' v a:=by
 obtain ⟨x,y,z,x',y',z',rfl,h1,h2⟩:=h;exact ⟨x,y,z,x',y',z',rfl,h1.grown hg hN,h2.grown hg hN⟩
structure OwnI (w:World) (base:Nat) (v:Value) (l:List RawI) (xs:List Value):Prop where
 row:w.ownsRow base 30 6 v l.length xs
 nl:∀ u∈xs,Bo u
 one:∀ u∈xs,u.oneCell'=true
 blk:∀ g,v.ownBlock=some g→NoL w g
 ivs:∀ i a,l[i]?=some a→∃ x y z x' y' z',xs[i*6]?=some x∧xs[i*6+1]?=some y∧xs[i*6+2]?=some z∧xs[i*6+3]?=some x'∧xs[i*6+4]?=some y'∧xs[i*6+5]?=some z'∧IvR w (.agg #[x,y,z,x',y',z']) a
theorem OwnI.nil (w:World)(base:Nat):OwnI w base (.slice none 0 0) [] [] :=
 ⟨World.ownsRow_nil _ _ _ _,by simp,by simp,(by intro g h;simp [Value.ownBlock] at h),by simp⟩
theorem OwnI.kept {w w':World}{base:Nat}{v:Value}{l:List RawI}{xs:List Value}(h:OwnI w base v l xs)(k:Kept w w'):OwnI w' base v l xs:=by
 obtain ⟨h1,h2,h2',h3,h4⟩:=h;refine ⟨⟨h1.1,?_⟩,h2,h2',?_,?_⟩
 ·rcases h1.2 with hn | ⟨g, cap, cur, rfl, hb, hg, rest⟩
  ·exact .inl hn
  ·exact .inr ⟨g,cap,cur,rfl,hb,(k.block g (Array.getElem?_eq_some_iff.1 hg).1).trans hg,rest⟩
 ·intro g hg;have:=h3 g hg;obtain ⟨cur,e,q1,q2⟩:=this;exact ⟨cur,e,(k.block g (Array.getElem?_eq_some_iff.1 q1).1).trans q1,q2⟩
 ·intro i d hi;obtain ⟨x,y,z,x',y',z',a0,a1,a2,a3,a4,a5,hd⟩:=h4 i d hi;exact ⟨x,y,z,x',y',z',a0,a1,a2,a3,a4,a5,hd.kept k⟩
theorem OwnI.ivS {w:World}{base:Nat}{v:Value}{l:List RawI}{xs:List Value}(h:OwnI w base v l xs):IvS w v l:=by
 obtain ⟨h1,h2,h2',h3,h4⟩:=h;have hc:=h1.2
 rcases hc with ⟨rfl,h0⟩ | ⟨g,cap,cur,rfl,hb,hg,hn,-⟩
 ·obtain rfl : l = [] := List.eq_nil_of_length_eq_zero h0;exact ⟨none,0,rfl,Nat.le_refl _,fun h=>absurd h (by simp)⟩
 ·refine ⟨_, cap, rfl, hn, fun _ => ⟨g, 0, rfl, fun i d hi => ?_⟩⟩;obtain ⟨x,y,z,x',y',z',a0,a1,a2,a3,a4,a5,hd⟩:=h4 i d hi;have cl:=h1.cells (g:=g) rfl;have ad:∀ j,(⟨g,0,none⟩:Addr).add j=⟨g,j,none⟩:=by intro j;unfold Addr.add;split<;>simp_all
  refine ⟨x,y,z,x',y',z',?_,?_,?_,?_,?_,?_,hd⟩
  ·have:=cl _ _ a0;rw [ad] at this;simpa using this
  ·have:=cl _ _ a1;rw [ad] at this;simpa using this
  ·have:=cl _ _ a2;rw [ad] at this;simpa using this
  ·have:=cl _ _ a3;rw [ad] at this;simpa using this
  ·have:=cl _ _ a4;rw [ad] at this;simpa using this
  ·have:=cl _ _ a5;rw [ad] at this;simpa using this
theorem OwnI.snoc {w w':World}{base:Nat}{v v':Value}{l:List RawI}{xs:List Value}{a:RawI}{x y z x' y' z':Value}{g':Nat}(h:OwnI w base v l xs)
 (hd:IvR w (.agg #[x,y,z,x',y',z']) a)
 (hr:w'.ownsRow base 30 6 v' (l.length+1) (xs++[x,y,z,x',y',z'])) (hg:w.grownBy w' v.ownBlock) (hv':v'.ownBlock=some g') (hN:NoL w' g') :
 OwnI w' base v' (l++[a]) (xs++[x,y,z,x',y',z']):=by
 have hcl:=hd.cells;obtain ⟨h1,h2,h2',h3,h4⟩:=h;refine ⟨by simpa using hr,?_,?_,?_,?_⟩
 ·intro u hu
  rcases List.mem_append.1 hu with hu | hu
  ·exact h2 u hu
  ·exact (hcl u hu).1
 ·intro u hu
  rcases List.mem_append.1 hu with hu | hu
  ·exact h2' u hu
  ·exact (hcl u hu).2
 ·intro g hg;rw [hv'] at hg;cases hg;exact hN
 ·intro i e hi;have hxl:=h1.1
  by_cases hlt:i<l.length
  ·rw [List.getElem?_append_left hlt] at hi;obtain ⟨x,y,z,x',y',z',a0,a1,a2,a3,a4,a5,hd'⟩:=h4 i e hi;have hh:=(List.getElem?_eq_some_iff.1 a5).1;refine ⟨x,y,z,x',y',z',?_,?_,?_,?_,?_,?_,hd'.grown hg h3⟩
   ·rw [List.getElem?_append_left (by omega)];exact a0
   ·rw [List.getElem?_append_left (by omega)];exact a1
   ·rw [List.getElem?_append_left (by omega)];exact a2
   ·rw [List.getElem?_append_left (by omega)];exact a3
   ·rw [List.getElem?_append_left (by omega)];exact a4
   ·rw [List.getElem?_append_left (by omega)];exact a5
  ·rw [List.getElem?_append_right (by omega)] at hi;obtain ⟨hz,he⟩:=List.getElem?_eq_some_iff.1 hi
   simp at hz
   have hi':i=l.length:=by omega
   subst hi'
   simp at he
   subst he;refine ⟨x,y,z,x',y',z',?_,?_,?_,?_,?_,?_,hd.grown hg h3⟩
   ·rw [List.getElem?_append_right (by omega),hxl,show l.length*6-l.length*6=0 by omega];rfl
   ·rw [List.getElem?_append_right (by omega),hxl,show l.length*6+1-l.length*6=1 by omega];rfl
   ·rw [List.getElem?_append_right (by omega),hxl,show l.length*6+2-l.length*6=2 by omega];rfl
   ·rw [List.getElem?_append_right (by omega),hxl,show l.length*6+3-l.length*6=3 by omega];rfl
   ·rw [List.getElem?_append_right (by omega),hxl,show l.length*6+4-l.length*6=4 by omega];rfl
   ·rw [List.getElem?_append_right (by omega),hxl,show l.length*6+5-l.length*6=5 by omega];rfl
theorem Aei:(Tryz.prog.info? 30).map (fun i=>(i.zero,i.size,i.bytes))=some (some (.agg #[.bool false,.slice none 0 0,.int .i64 0,.bool false,.slice none 0 0,.int .i64 0]),6,80):=by kernel_rfl
theorem Oz:∀ u∈(Value.agg #[.bool false,.slice none 0 0,.int .i64 0,.bool false,.slice none 0 0,.int .i64 0]).cells.toList,Bo u:=by
 intro u hu
 simp [Value.cells] at hu
 rcases hu with rfl | rfl | rfl | rfl | rfl | rfl
 ·exact Ag _
 ·exact Af _ _ _
 ·exact Ai _
 ·exact Ag _
 ·exact Af _ _ _
 ·exact Ai _
theorem Iw {p:Int}{l:List RawI}{o:Outc RawI}(p1:1≤p)(p2:p≤2000)(h:l.all Fz=true):Ev p l o=o:=by unfold Ev;rw [if_pos ⟨p1,p2,h⟩]
theorem Aj8 {w:World}{v u:Value}{a b:Iv}{p:Nat}(hv:IvC w v a)(hu:IvC w u b)(ha:a.Ok)(hb:b.Ok)(hT:Tab w)(p1:1≤p)(p2:p≤2000) :
 Calls Tryz.prog 96 #[v,u,.int .i64 p] w (RetIE (By (Mz a b p)) w):=by
 have h:=Akf (p:=(p:Int)) hv hu (Gh ha) (Gh hb) hT;rw [Iw (by omega) (by omega) (by simp [E5 ha,E5 hb]),Iv.raw_iv,Iv.raw_iv,Int.toNat_natCast] at h;exact h
theorem Ajy {w:World}{v u:Value}{a b:Iv}{p:Nat}(hv:IvC w v a)(hu:IvC w u b)(ha:a.Ok)(hb:b.Ok)(hT:Tab w)(p1:1≤p)(p2:p≤2000) :
 Calls Tryz.prog 97 #[v,u,.int .i64 p] w (RetIE (By (N2 a b p)) w):=by
 have h:=Ajr (p:=(p:Int)) hv hu (Gh ha) (Gh hb) hT;rw [Iw (by omega) (by omega) (by simp [E5 ha,E5 hb]),Iv.raw_iv,Iv.raw_iv,Int.toNat_natCast] at h;exact h
theorem Aj0 {w:World}{v u:Value}{a b:Iv}{p:Nat}(hv:IvC w v a)(hu:IvC w u b)(ha:a.Ok)(hb:b.Ok)(hT:Tab w)(p1:1≤p)(p2:p≤2000) :
 Calls Tryz.prog 98 #[v,u,.int .i64 p] w (RetIE (By (Nz a b p)) w):=by
 have h:=Aj4 (p:=(p:Int)) hv hu (Gh ha) (Gh hb) hT;rw [Iw (by omega) (by omega) (by simp [E5 ha,E5 hb]),Iv.raw_iv,Iv.raw_iv,Int.toNat_natCast] at h;exact h
theorem Ajs {w:World}{v u:Value}{a b:Iv}{p:Nat}(hv:IvC w v a)(hu:IvC w u b)(ha:a.Ok)(hb:b.Ok)(hT:Tab w)(p1:1≤p)(p2:p≤2000) :
 Calls Tryz.prog 94 #[v,u,.int .i64 p] w (RetIE (By (Kq a b p)) w):=by
 have h:=Ajz (p:=(p:Int)) hv hu (Gh ha) (Gh hb) hT;rw [Iw (by omega) (by omega) (by simp [E5 ha,E5 hb]),Iv.raw_iv,Iv.raw_iv,Int.toNat_natCast] at h;exact h
theorem Akj {w:World}{v:Value}{a:Iv}{p:Nat}(hv:IvC w v a)(ha:a.Ok)(hT:Tab w)(p1:1≤p)(p2:p≤2000) :
 Calls Tryz.prog 99 #[v,.int .i64 p] w (RetIE (By (N8 a p)) w):=by
 have h:=Akg (p:=(p:Int)) hv (Gh ha) hT;rw [Iw (by omega) (by omega) (by simp [E5 ha]),Iv.raw_iv,Int.toNat_natCast] at h;exact h
theorem Ajo {w:World}{v:Value}{a:Iv}{p:Nat}(hv:IvC w v a)(ha:a.Ok)(hT:Tab w)(p1:1≤p)(p2:p≤2000) :
 Calls Tryz.prog 100 #[v,.int .i64 p] w (RetIE (By (Nr a p)) w):=by
 have h:=Akk (p:=(p:Int)) hv (Gh ha) hT;rw [Iw (by omega) (by omega) (by simp [E5 ha]),Iv.raw_iv,Int.toNat_natCast] at h;exact h
theorem Aiv {w:World}{v:Value}{a:Iv}{p:Nat}(hv:IvC w v a)(ha:a.Ok)(hT:Tab w)(p1:1≤p)(p2:p≤2000) :
 Calls Tryz.prog 101 #[v,.int .i64 p] w (RetIE (By (Hw a p)) w):=by
 have h:=Ajf (p:=(p:Int)) hv (Gh ha) hT;rw [Iw (by omega) (by omega) (by simp [E5 ha]),Iv.raw_iv,Int.toNat_natCast] at h;exact h
def dm:Dy:=⟨true,1,0⟩
def dt:Dy:=⟨false,1,1⟩
def d4:Dy:=⟨false,1,2⟩
def mt:Iv:=⟨dm,dt⟩
def R1:Raw:=⟨false,[1],0⟩
def R4:Raw:=⟨false,[1],2⟩
theorem Afj:dz.raw=rz:=by unfold Dy.raw dz rz;simp only [Av]
theorem Ys:iz.raw=rzI:=by unfold Iv.raw iz rzI;simp only [Afj]
theorem Ah8 (w:World)(x y z p q r:Value):∃ W,W=((w.alloc (.cells #[x,y,z] 28)).alloc (.cells #[p,q,r] 28)).alloc (.cells #[.bool false,.slice none 0 0,.int .i64 0,.bool false,.slice none 0 0,.int .i64 0] 30) ∧
 Kept w W∧Blk W w.heap.size x y z∧Blk W (w.heap.size+1) p q r∧BlkI W (w.heap.size+1+1) (.bool false) (.slice none 0 0) (.int .i64 0) (.bool false) (.slice none 0 0) (.int .i64 0):=by
 refine ⟨_,rfl,((Aa _ _).trans (Aa _ _)).trans (Aa _ _),?_,?_,?_⟩
 ·exact (Bi (blk_new _ _ _ _) _).kept (Aa _ _)
 ·exact (Ds _ _ _ _ _).kept (Aa _ _)
 ·have := J0 ((w.alloc (.cells #[x, y, z] 28)).alloc (.cells #[p, q, r] 28));simp only [World.size_alloc] at this;exact this
theorem Ake (w:World)(x y z x' y' z':Value):∃ W,W=(w.alloc (.cells #[x,y,z,x',y',z'] 30)).alloc (.cells #[.bool false,.slice none 0 0,.int .i64 0,.bool false,.slice none 0 0,.int .i64 0] 30) ∧
 Kept w W∧BlkI W w.heap.size x y z x' y' z'∧BlkI W (w.heap.size+1) (.bool false) (.slice none 0 0) (.int .i64 0) (.bool false) (.slice none 0 0) (.int .i64 0):=by
 refine ⟨_,rfl,(Aa _ _).trans (Aa _ _),(Fj _ _ _ _ _ _ _).kept (Aa _ _),?_⟩;have:=J0 (w.alloc (.cells #[x,y,z,x',y',z'] 30));simp only [World.size_alloc] at this;exact this
theorem Aji {w:World}{v u:Value}{o1 o2:Outc Dy}(hv:DyR w v o1.v.raw)(hu:DyR w u o2.v.raw) :
 Calls Tryz.prog 93 #[v,.int .i64 o1.k,u,.int .i64 o2.k] w (RetIE (By (G0 o1 o2)) w):=by
 obtain ⟨A,l,c,rfl,h1⟩:=Bp hv;obtain ⟨B,j,e,rfl,g1⟩:=Bp hu;obtain ⟨W,hW,kW,BA,BB,BR⟩:=Ah8 w (.bool o1.v.neg) (.slice A l c) (.int .i64 o1.v.e) (.bool o2.v.neg) (.slice B j e) (.int .i64 o2.v.e);have Z1:=hid (h1.kept kW);have Z2:=hid (g1.kept kW);have HW:=hid hW;have HK:=hid kW;obtain ⟨-,c0,c1,c2,-⟩:=BA.facts;obtain ⟨-,d0,d1,d2,-⟩:=BB.facts;have HR:=hid BR;obtain ⟨-,r0,r1,r2,r3,r4,r5⟩:=BR.facts;obtain ⟨f0,f1,f2,f3,f4,f5⟩:=BR.free;clear hW kW BA BB BR h1 g1 hv hu
 by_cases k1:o1.k=0
 ·by_cases k2 : o2.k = 0
  ·have ho : By   (G0   o1 o2) = ⟨⟨o1.v.raw, o2.v.raw⟩, 0⟩ := by
    unfold G0;rw [Outc.bind_of _ _ k1,Outc.bind_of _ _ k2];rfl
   rw [ho,k1,k2];have HO:=hid ho;clear ho k1 k2;generalize o1.v.neg=n1 at *;generalize o1.v.e=e1 at *;generalize o2.v.neg=n2 at *;generalize o2.v.e=e2 at *;generalize o1.v.raw=r1 at *;generalize o2.v.raw=r2 at *
   go_enter Tryz.func93,Tryz.ntmps93
   go_upto_region 1 with fail
   rw [←HW.out];go_wp2_with fail;exact Cf (HR.out.laid _ _ _ _ _ _) rfl rfl rfl ⟨Br HK.out (by omega),_,rfl,_,_,_,_,_,_,rfl,Z1.out.ivW HR.out _ _ _ _ _ _,Z2.out.ivW HR.out _ _ _ _ _ _⟩
  ·have ho : By   (G0   o1 o2) = ⟨rzI, o2.k⟩ := by
    unfold G0 Outc.bind;rw [if_pos k1];simp only [if_neg k2];exact congrArg (Outc.mk · o2.k) Ys
   rw [ho,k1];have k2':(o2.k != 0)=true:=by simp [k2]
   clear ho k1 k2;generalize o1.v.neg=n1 at *;generalize o1.v.e=e1 at *;generalize o2.v.neg=n2 at *;generalize o2.v.e=e2 at *;generalize o1.v.raw=r1 at *;generalize o2.v.raw=r2 at *;generalize o2.k=q2 at *
   go_enter Tryz.func93,Tryz.ntmps93
   go_upto_region 1 with fail
   rw [←HW.out];go_wp2_with fail;exact Cf (HR.out.laid _ _ _ _ _ _) rfl rfl rfl ⟨Br HK.out (by omega),_,rfl,Ho _⟩
 ·have ho : By   (G0   o1 o2) = ⟨rzI, o1.k⟩ := by
   unfold G0 Outc.bind;rw [if_neg k1];exact congrArg (Outc.mk · o1.k) Ys
  rw [ho];have k1':(o1.k != 0)=true:=by simp [k1]
  clear ho k1;generalize o1.v.neg=n1 at *;generalize o1.v.e=e1 at *;generalize o2.v.neg=n2 at *;generalize o2.v.e=e2 at *;generalize o1.v.raw=r1 at *;generalize o2.v.raw=r2 at *;generalize o2.k=q2 at *;generalize o1.k=q1 at *
  go_enter Tryz.func93,Tryz.ntmps93
  go_upto_region 1 with fail
  rw [←HW.out];go_wp2_with fail;exact Cf (HR.out.laid _ _ _ _ _ _) rfl rfl rfl ⟨Br HK.out (by omega),_,rfl,Ho _⟩
theorem Ajn (w:World)(x y z:Value):∃ V,V=w.alloc (.cells #[x,y,z] 28)∧Kept w V∧Blk V w.heap.size x y z∧w.heap.size<V.heap.size :=
 ⟨_,rfl,Aa _ _,blk_new _ _ _ _,by simp⟩
theorem L3 {w:World}{v:Value}{a:Iv}{p:Nat}(hv:IvC w v a)(ha:a.Ok)(hT:Tab w)(p1:1≤p)(p2:p≤2000) :
 Calls Tryz.prog 59 #[v,.int .i64 p] w (RetIE (By (Hz a p)) w):=by
 have m1:=fun w1 (k:Kept w w1)=>T8 (hv.kept k) ha
 obtain ⟨A,l,c,A',l',c',rfl,h1,h2⟩:=Jz hv;have c1:=fun w1 (k:Kept w w1)=>Mx (h1.kept k) ha.lo (hT.kept k) p1 p2
 have c2:=fun w1 (k:Kept w w1)=>Xa (h2.kept k) ha.hi (hT.kept k) p1 p2
 have hdef:Hz a p=G0 (Dh a.lo p false) (Dh a.hi p true):=rfl;rw [hdef];obtain ⟨W,hW,kW,BI,BR⟩:=Ake w (.bool a.lo.neg) (.slice A l c) (.int .i64 a.lo.e) (.bool a.hi.neg) (.slice A' l' c') (.int .i64 a.hi.e);have M1:=hid m1;have C1:=hid c1;have C2:=hid c2;have HW:=hid hW;have K:=hid kW;have HB:=hid BI;have HR:=hid BR;clear m1 c1 c2 hW kW BI BR h1 h2 hv ha hT hdef;generalize Dh a.lo p false=o1 at *;generalize Dh a.hi p true=o2 at *;generalize a.lo.neg=n1 at *;generalize a.lo.e=e1 at *;generalize a.hi.neg=n2 at *;generalize a.hi.e=e2 at *
 go_enter Tryz.func59,Tryz.ntmps59
 go_wp2_with fail;rw [←HW.out];refine (M1.out _ K.out).mono ?_;rintro e w1 ⟨rfl,q⟩;replace K:=hid (K.out.trans q);replace HB:=hid (HB.out.kept q);replace HR:=hid (HR.out.kept q);clear q M1 HW;obtain ⟨-,c0,c1,c2,c3,c4,c5⟩:=HB.out.facts;simp only [];go_wp2_with fail;refine (C1.out _ K.out).mono ?_;rintro e w2 ⟨q,u,rfl,hd⟩;obtain ⟨PX,pX,qX,rfl,z1⟩:=Bp hd;simp only [];obtain ⟨VX,hV,kV,hb,lV⟩:=Ajn w2 (.bool o1.v.neg) (.slice PX pX qX) (.int .i64 o1.v.e);have HV:=hid hV;have kk:=q.trans kV;have lt1:w.heap.size+1<w2.heap.size:=Nat.lt_of_lt_of_le HR.out.facts.1 q.size;replace K:=hid (K.out.trans kk)
 replace HB:=hid (HB.out.kept kk);replace HR:=hid (HR.out.kept kk);have HX:=hid hb;have ZX:=hid (z1.kept kV);clear hV kV hb lV kk q hd z1 c0 c1 c2 c3 c4 c5 C1
 go_upto_region 4 with fail
 rw [←HV.out];clear HV;generalize w2.heap.size=bX at *;obtain ⟨-,c0,c1,c2,c3,c4,c5⟩:=HB.out.facts;go_wp2_with fail;refine (C2.out _ K.out).mono ?_;rintro e w2 ⟨q,u,rfl,hd⟩;obtain ⟨PY,pY,qY,rfl,z1⟩:=Bp hd;simp only [];obtain ⟨VY,hV,kV,hb,lV⟩:=Ajn w2 (.bool o2.v.neg) (.slice PY pY qY) (.int .i64 o2.v.e);have HV:=hid hV;have kk:=q.trans kV;have lt2:bX<w2.heap.size:=Nat.lt_of_lt_of_le HX.out.facts.1 q.size;replace K:=hid (K.out.trans kk);replace HR:=hid (HR.out.kept kk);replace HX:=hid (HX.out.kept kk);replace ZX:=hid (ZX.out.kept kk);have HY:=hid hb;have ZY:=hid (z1.kept kV);clear hV kV hb lV kk q hd z1 c0 c1 c2 c3 c4 c5 C2 HB
 go_upto_region 5 with fail
 rw [←HV.out];clear HV;generalize w2.heap.size=bY at *;obtain ⟨-,c0,c1,c2,-⟩:=HX.out.facts;obtain ⟨-,d0,d1,d2,-⟩:=HY.out.facts;go_wp2_with fail;refine (Aji ZX.out ZY.out).mono ?_;rintro e w2 ⟨q,u,rfl,hd⟩;obtain ⟨P,p',q',R,r,s,rfl,z1,z2⟩:=Az hd;have hr:=HR.out.kept q;obtain ⟨-,r0,r1,r2,r3,r4,r5⟩:=hr.facts;obtain ⟨f0,f1,f2,f3,f4,f5⟩:=hr.free;have HRR:=hid hr;have Z1:=hid z1;have Z2:=hid z2;clear hr z1 z2 hd c0 c1 c2 d0 d1 d2;simp only [];go_wp2_with fail;exact Cf (HRR.out.laid _ _ _ _ _ _) rfl rfl rfl ⟨Br (K.out.trans q) (by omega),_,rfl,_,_,_,_,_,_,rfl,Z1.out.ivW HRR.out _ _ _ _ _ _,Z2.out.ivW HRR.out _ _ _ _ _ _⟩
theorem Ajb (w:World)(x y z x' y' z' p q r p' q' r':Value):∃ W,W=((w.alloc (.cells #[x,y,z,x',y',z'] 30)).alloc (.cells #[p,q,r,p',q',r'] 30)).alloc (.cells #[.bool false,.slice none 0 0,.int .i64 0,.bool false,.slice none 0 0,.int .i64 0] 30) ∧
 Kept w W∧BlkI W w.heap.size x y z x' y' z'∧BlkI W (w.heap.size+1) p q r p' q' r'∧BlkI W (w.heap.size+1+1) (.bool false) (.slice none 0 0) (.int .i64 0) (.bool false) (.slice none 0 0) (.int .i64 0):=by
 obtain ⟨W,hW,k,b1,b2⟩:=Tp w x y z x' y' z' p q r p' q' r';refine ⟨_,rfl,?_,?_,?_,?_⟩
 ·rw [←hW];exact k.trans (Aa _ _)
 ·rw [←hW];exact b1.kept (Aa _ _)
 ·rw [←hW];exact b2.kept (Aa _ _)
 ·have := J0 ((w.alloc (.cells #[x, y, z, x', y', z'] 30)).alloc (.cells #[p, q, r, p', q', r'] 30));simp only [World.size_alloc] at this;exact this
structure Adi (S:Int→Prop):Prop where
 add:S 6→∀ {w:World} {v u:Value} {a b:Iv} {p:Nat},IvC w v a→IvC w u b→a.Ok→b.Ok→Tab w→1≤p→p≤2000→Calls Tryz.prog 96 #[v,u,.int .i64 p] w (RetIE (By (Mz a b p)) w)
 sub:S 7→∀ {w:World} {v u:Value} {a b:Iv} {p:Nat},IvC w v a→IvC w u b→a.Ok→b.Ok→Tab w→1≤p→p≤2000→Calls Tryz.prog 97 #[v,u,.int .i64 p] w (RetIE (By (N2 a b p)) w)
 mul:S 8→∀ {w:World} {v u:Value} {a b:Iv} {p:Nat},IvC w v a→IvC w u b→a.Ok→b.Ok→Tab w→1≤p→p≤2000→Calls Tryz.prog 98 #[v,u,.int .i64 p] w (RetIE (By (Nz a b p)) w)
 div:S 9→∀ {w:World} {v u:Value} {a b:Iv} {p:Nat},IvC w v a→IvC w u b→a.Ok→b.Ok→Tab w→1≤p→p≤2000→Calls Tryz.prog 94 #[v,u,.int .i64 p] w (RetIE (By (Kq a b p)) w)
 neg:S 10→∀ {w:World} {v:Value} {a:Iv} {p:Nat},IvC w v a→a.Ok→Tab w→1≤p→p≤2000→Calls Tryz.prog 99 #[v,.int .i64 p] w (RetIE (By (N8 a p)) w)
 sqr:S 11→∀ {w:World} {v:Value} {a:Iv} {p:Nat},IvC w v a→a.Ok→Tab w→1≤p→p≤2000→Calls Tryz.prog 100 #[v,.int .i64 p] w (RetIE (By (Nr a p)) w)
 sqrt:S 12→∀ {w:World} {v:Value} {a:Iv} {p:Nat},IvC w v a→a.Ok→Tab w→1≤p→p≤2000→Calls Tryz.prog 101 #[v,.int .i64 p] w (RetIE (By (Hw a p)) w)
theorem Ai9 {S:Int→Prop}{ov:Iv→Nat→Outc Iv}{w:World}{va vb:Value}{a b:Iv}{op:Int}{p:Nat}(ha:IvC w va a)(hb:IvC w vb b)(oa:a.Ok)(ob:b.Ok)(hT:Tab w)(p1:1≤p)(p2:p≤2000)
 (hov:¬(6≤op∧op≤12)→∀ w1,Kept w w1→Calls Tryz.prog 102 #[va,.int .i64 p] w1 (RetIE (By (ov a p)) w1)) (O:Adi S) (hS:6≤op→op≤12→S op) :
 Calls Tryz.prog 63 #[.int .i64 op,va,vb,.int .i64 p] w (RetIE (By (Ie ov op a b p)) w):=by
 have IA:=hid ha;have IB:=hid hb;have OA:=hid (And.intro oa ob);have T:=hid hT;have HOV:=hid hov;have OPS:=hid O;have HS:=hid hS;clear ha hb oa ob hT hov O hS;obtain ⟨A,l,c,A',l',c',rfl,-,-⟩:=Jz IA.out;obtain ⟨B,j,e,B',j',e',rfl,-,-⟩:=Jz IB.out;obtain ⟨W,hW,kW,BI,BJ,BR⟩:=Ajb w (.bool a.lo.neg) (.slice A l c) (.int .i64 a.lo.e) (.bool a.hi.neg) (.slice A' l' c') (.int .i64 a.hi.e) (.bool b.lo.neg) (.slice B j e) (.int .i64 b.lo.e) (.bool b.hi.neg) (.slice B' j' e') (.int .i64 b.hi.e);have HW:=hid hW;have K:=hid kW;obtain ⟨-,c0,c1,c2,c3,c4,c5⟩:=BI.facts;obtain ⟨-,d0,d1,d2,d3,d4,d5⟩:=BJ.facts
 have HR:=hid BR;clear hW kW BI BJ BR
 by_cases h6:op=6
 ·obtain rfl : op = 6 := h6;have ho:Ie   ov 6 a b p=Mz   a b p:=by simp [Ie  ]
  rw [ho];have CC:=hid (fun w1 (k:Kept w w1)=>OPS.out.add (HS.out (by decide) (by decide)) (IA.out.kept k) (IB.out.kept k) OA.out.1 OA.out.2 (T.out.kept k) p1 p2);clear ho IA IB OA T HOV OPS HS;generalize By _=o at *;generalize a.lo.neg=n1 at *;generalize a.lo.e=e1 at *;generalize a.hi.neg=n2 at *;generalize a.hi.e=e2 at *;generalize b.lo.neg=n3 at *;generalize b.lo.e=e3 at *;generalize b.hi.neg=n4 at *;generalize b.hi.e=e4 at *
  go_enter Tryz.func63,Tryz.ntmps63
  go_upto_region 1 with fail
  rw [←HW.out];go_wp2_with fail;refine (CC.out _ K.out).mono ?_;rintro e w2 ⟨q,u,rfl,hd⟩;obtain ⟨P,p',q',R,r,s,rfl,z1,z2⟩:=Az hd;have hr:=HR.out.kept q;obtain ⟨-,r0,r1,r2,r3,r4,r5⟩:=hr.facts;obtain ⟨f0,f1,f2,f3,f4,f5⟩:=hr.free;have HRR:=hid hr;have Z1:=hid z1;have Z2:=hid z2;clear hr z1 z2 hd c0 c1 c2 c3 c4 c5 d0 d1 d2 d3 d4 d5;simp only [];go_wp2_with fail;exact Cf (HRR.out.laid _ _ _ _ _ _) rfl rfl rfl ⟨Br (K.out.trans q) (by omega),_,rfl,_,_,_,_,_,_,rfl,Z1.out.ivW HRR.out _ _ _ _ _ _,Z2.out.ivW HRR.out _ _ _ _ _ _⟩
 by_cases h7:op=7
 ·obtain rfl : op = 7 := h7;have ho:Ie   ov 7 a b p=N2   a b p:=by simp [Ie  ]
  rw [ho];have CC:=hid (fun w1 (k:Kept w w1)=>OPS.out.sub (HS.out (by decide) (by decide)) (IA.out.kept k) (IB.out.kept k) OA.out.1 OA.out.2 (T.out.kept k) p1 p2);clear ho IA IB OA T HOV OPS HS;generalize By _=o at *;generalize a.lo.neg=n1 at *;generalize a.lo.e=e1 at *;generalize a.hi.neg=n2 at *;generalize a.hi.e=e2 at *;generalize b.lo.neg=n3 at *;generalize b.lo.e=e3 at *;generalize b.hi.neg=n4 at *;generalize b.hi.e=e4 at *
  go_enter Tryz.func63,Tryz.ntmps63
  go_upto_region 1 with fail
  rw [←HW.out];go_wp2_with fail;refine (CC.out _ K.out).mono ?_;rintro e w2 ⟨q,u,rfl,hd⟩;obtain ⟨P,p',q',R,r,s,rfl,z1,z2⟩:=Az hd;have hr:=HR.out.kept q;obtain ⟨-,r0,r1,r2,r3,r4,r5⟩:=hr.facts;obtain ⟨f0,f1,f2,f3,f4,f5⟩:=hr.free;have HRR:=hid hr;have Z1:=hid z1;have Z2:=hid z2;clear hr z1 z2 hd c0 c1 c2 c3 c4 c5 d0 d1 d2 d3 d4 d5;simp only [];go_wp2_with fail;exact Cf (HRR.out.laid _ _ _ _ _ _) rfl rfl rfl ⟨Br (K.out.trans q) (by omega),_,rfl,_,_,_,_,_,_,rfl,Z1.out.ivW HRR.out _ _ _ _ _ _,Z2.out.ivW HRR.out _ _ _ _ _ _⟩
 by_cases h8:op=8
 ·obtain rfl : op = 8 := h8;have ho:Ie   ov 8 a b p=Nz   a b p:=by simp [Ie  ]
  rw [ho];have CC:=hid (fun w1 (k:Kept w w1)=>OPS.out.mul (HS.out (by decide) (by decide)) (IA.out.kept k) (IB.out.kept k) OA.out.1 OA.out.2 (T.out.kept k) p1 p2);clear ho IA IB OA T HOV OPS HS;generalize By _=o at *;generalize a.lo.neg=n1 at *;generalize a.lo.e=e1 at *;generalize a.hi.neg=n2 at *;generalize a.hi.e=e2 at *;generalize b.lo.neg=n3 at *;generalize b.lo.e=e3 at *;generalize b.hi.neg=n4 at *;generalize b.hi.e=e4 at *
  go_enter Tryz.func63,Tryz.ntmps63
  go_upto_region 1 with fail
  rw [←HW.out];go_wp2_with fail;refine (CC.out _ K.out).mono ?_;rintro e w2 ⟨q,u,rfl,hd⟩;obtain ⟨P,p',q',R,r,s,rfl,z1,z2⟩:=Az hd;have hr:=HR.out.kept q;obtain ⟨-,r0,r1,r2,r3,r4,r5⟩:=hr.facts;obtain ⟨f0,f1,f2,f3,f4,f5⟩:=hr.free;have HRR:=hid hr;have Z1:=hid z1;have Z2:=hid z2;clear hr z1 z2 hd c0 c1 c2 c3 c4 c5 d0 d1 d2 d3 d4 d5;simp only [];go_wp2_with fail;exact Cf (HRR.out.laid _ _ _ _ _ _) rfl rfl rfl ⟨Br (K.out.trans q) (by omega),_,rfl,_,_,_,_,_,_,rfl,Z1.out.ivW HRR.out _ _ _ _ _ _,Z2.out.ivW HRR.out _ _ _ _ _ _⟩
 by_cases h9:op=9
 ·obtain rfl : op = 9 := h9;have ho:Ie   ov 9 a b p=Kq   a b p:=by simp [Ie  ]
  rw [ho];have CC:=hid (fun w1 (k:Kept w w1)=>OPS.out.div (HS.out (by decide) (by decide)) (IA.out.kept k) (IB.out.kept k) OA.out.1 OA.out.2 (T.out.kept k) p1 p2);clear ho IA IB OA T HOV OPS HS;generalize By _=o at *;generalize a.lo.neg=n1 at *;generalize a.lo.e=e1 at *;generalize a.hi.neg=n2 at *;generalize a.hi.e=e2 at *;generalize b.lo.neg=n3 at *;generalize b.lo.e=e3 at *;generalize b.hi.neg=n4 at *;generalize b.hi.e=e4 at *
  go_enter Tryz.func63,Tryz.ntmps63
  go_upto_region 1 with fail
  rw [←HW.out];go_wp2_with fail;refine (CC.out _ K.out).mono ?_;rintro e w2 ⟨q,u,rfl,hd⟩;obtain ⟨P,p',q',R,r,s,rfl,z1,z2⟩:=Az hd;have hr:=HR.out.kept q;obtain ⟨-,r0,r1,r2,r3,r4,r5⟩:=hr.facts;obtain ⟨f0,f1,f2,f3,f4,f5⟩:=hr.free;have HRR:=hid hr;have Z1:=hid z1;have Z2:=hid z2;clear hr z1 z2 hd c0 c1 c2 c3 c4 c5 d0 d1 d2 d3 d4 d5;simp only [];go_wp2_with fail;exact Cf (HRR.out.laid _ _ _ _ _ _) rfl rfl rfl ⟨Br (K.out.trans q) (by omega),_,rfl,_,_,_,_,_,_,rfl,Z1.out.ivW HRR.out _ _ _ _ _ _,Z2.out.ivW HRR.out _ _ _ _ _ _⟩
 by_cases h10:op=10
 ·obtain rfl : op = 10 := h10;have ho:Ie   ov 10 a b p=N8   a p:=by simp [Ie  ]
  rw [ho];have CC:=hid (fun w1 (k:Kept w w1)=>OPS.out.neg (HS.out (by decide) (by decide)) (IA.out.kept k) OA.out.1 (T.out.kept k) p1 p2);clear ho IA IB OA T HOV OPS HS;generalize By _=o at *;generalize a.lo.neg=n1 at *;generalize a.lo.e=e1 at *;generalize a.hi.neg=n2 at *;generalize a.hi.e=e2 at *;generalize b.lo.neg=n3 at *;generalize b.lo.e=e3 at *;generalize b.hi.neg=n4 at *;generalize b.hi.e=e4 at *
  go_enter Tryz.func63,Tryz.ntmps63
  go_upto_region 1 with fail
  rw [←HW.out];go_wp2_with fail;refine (CC.out _ K.out).mono ?_;rintro e w2 ⟨q,u,rfl,hd⟩;obtain ⟨P,p',q',R,r,s,rfl,z1,z2⟩:=Az hd;have hr:=HR.out.kept q;obtain ⟨-,r0,r1,r2,r3,r4,r5⟩:=hr.facts;obtain ⟨f0,f1,f2,f3,f4,f5⟩:=hr.free;have HRR:=hid hr;have Z1:=hid z1;have Z2:=hid z2;clear hr z1 z2 hd c0 c1 c2 c3 c4 c5 d0 d1 d2 d3 d4 d5;simp only [];go_wp2_with fail;exact Cf (HRR.out.laid _ _ _ _ _ _) rfl rfl rfl ⟨Br (K.out.trans q) (by omega),_,rfl,_,_,_,_,_,_,rfl,Z1.out.ivW HRR.out _ _ _ _ _ _,Z2.out.ivW HRR.out _ _ _ _ _ _⟩
 by_cases h11:op=11
 ·obtain rfl : op = 11 := h11;have ho:Ie   ov 11 a b p=Nr   a p:=by simp [Ie  ]
  rw [ho];have CC:=hid (fun w1 (k:Kept w w1)=>OPS.out.sqr (HS.out (by decide) (by decide)) (IA.out.kept k) OA.out.1 (T.out.kept k) p1 p2);clear ho IA IB OA T HOV OPS HS;generalize By _=o at *;generalize a.lo.neg=n1 at *;generalize a.lo.e=e1 at *;generalize a.hi.neg=n2 at *;generalize a.hi.e=e2 at *;generalize b.lo.neg=n3 at *;generalize b.lo.e=e3 at *;generalize b.hi.neg=n4 at *;generalize b.hi.e=e4 at *
  go_enter Tryz.func63,Tryz.ntmps63
  go_upto_region 1 with fail
  rw [←HW.out];go_wp2_with fail;refine (CC.out _ K.out).mono ?_;rintro e w2 ⟨q,u,rfl,hd⟩;obtain ⟨P,p',q',R,r,s,rfl,z1,z2⟩:=Az hd;have hr:=HR.out.kept q;obtain ⟨-,r0,r1,r2,r3,r4,r5⟩:=hr.facts;obtain ⟨f0,f1,f2,f3,f4,f5⟩:=hr.free;have HRR:=hid hr;have Z1:=hid z1;have Z2:=hid z2;clear hr z1 z2 hd c0 c1 c2 c3 c4 c5 d0 d1 d2 d3 d4 d5;simp only [];go_wp2_with fail;exact Cf (HRR.out.laid _ _ _ _ _ _) rfl rfl rfl ⟨Br (K.out.trans q) (by omega),_,rfl,_,_,_,_,_,_,rfl,Z1.out.ivW HRR.out _ _ _ _ _ _,Z2.out.ivW HRR.out _ _ _ _ _ _⟩
 by_cases h12:op=12
 ·obtain rfl : op = 12 := h12;have ho:Ie   ov 12 a b p=Hw    a p:=by simp [Ie  ]
  rw [ho];have CC:=hid (fun w1 (k:Kept w w1)=>OPS.out.sqrt (HS.out (by decide) (by decide)) (IA.out.kept k) OA.out.1 (T.out.kept k) p1 p2);clear ho IA IB OA T HOV OPS HS;generalize By _=o at *;generalize a.lo.neg=n1 at *;generalize a.lo.e=e1 at *;generalize a.hi.neg=n2 at *;generalize a.hi.e=e2 at *;generalize b.lo.neg=n3 at *;generalize b.lo.e=e3 at *;generalize b.hi.neg=n4 at *;generalize b.hi.e=e4 at *
  go_enter Tryz.func63,Tryz.ntmps63
  go_upto_region 1 with fail
  rw [←HW.out];go_wp2_with fail;refine (CC.out _ K.out).mono ?_;rintro e w2 ⟨q,u,rfl,hd⟩;obtain ⟨P,p',q',R,r,s,rfl,z1,z2⟩:=Az hd;have hr:=HR.out.kept q;obtain ⟨-,r0,r1,r2,r3,r4,r5⟩:=hr.facts;obtain ⟨f0,f1,f2,f3,f4,f5⟩:=hr.free;have HRR:=hid hr;have Z1:=hid z1;have Z2:=hid z2;clear hr z1 z2 hd c0 c1 c2 c3 c4 c5 d0 d1 d2 d3 d4 d5;simp only [];go_wp2_with fail;exact Cf (HRR.out.laid _ _ _ _ _ _) rfl rfl rfl ⟨Br (K.out.trans q) (by omega),_,rfl,_,_,_,_,_,_,rfl,Z1.out.ivW HRR.out _ _ _ _ _ _,Z2.out.ivW HRR.out _ _ _ _ _ _⟩
 have ho:Ie ov op a b p=ov a p:=by unfold Ie;rw [if_neg h6,if_neg h7,if_neg h8,if_neg h9,if_neg h10,if_neg h11,if_neg h12]
 rw [ho];have CC:=hid (HOV.out (by omega));have g6:(op==6)=false:=by simp [h6]
 have g7:(op==7)=false:=by simp [h7]
 have g8:(op==8)=false:=by simp [h8]
 have g9:(op==9)=false:=by simp [h9]
 have g10:(op==10)=false:=by simp [h10]
 have g11:(op==11)=false:=by simp [h11]
 have g12:(op==12)=false:=by simp [h12]
 clear ho h6 h7 h8 h9 h10 h11 h12 IA IB OA T HOV OPS HS;generalize By _=o at *;generalize a.lo.neg=n1 at *;generalize a.lo.e=e1 at *;generalize a.hi.neg=n2 at *;generalize a.hi.e=e2 at *;generalize b.lo.neg=n3 at *;generalize b.lo.e=e3 at *;generalize b.hi.neg=n4 at *;generalize b.hi.e=e4 at *
 go_enter Tryz.func63,Tryz.ntmps63
 go_upto_region 1 with fail
 rw [←HW.out];go_wp2_with fail;refine (CC.out _ K.out).mono ?_;rintro e w2 ⟨q,u,rfl,hd⟩;obtain ⟨P,p',q',R,r,s,rfl,z1,z2⟩:=Az hd;have hr:=HR.out.kept q;obtain ⟨-,r0,r1,r2,r3,r4,r5⟩:=hr.facts;obtain ⟨f0,f1,f2,f3,f4,f5⟩:=hr.free;have HRR:=hid hr;have Z1:=hid z1;have Z2:=hid z2;clear hr z1 z2 hd c0 c1 c2 c3 c4 c5 d0 d1 d2 d3 d4 d5;simp only [];go_wp2_with fail;exact Cf (HRR.out.laid _ _ _ _ _ _) rfl rfl rfl ⟨Br (K.out.trans q) (by omega),_,rfl,_,_,_,_,_,_,rfl,Z1.out.ivW HRR.out _ _ _ _ _ _,Z2.out.ivW HRR.out _ _ _ _ _ _⟩
end Go.Proofs.YtabjjdicffcolaaGreatDoor
namespace Go.Proofs.YtabjjdicffcolaaGreatDoor
structure Rg (d:Dy) (A B:Int):Prop where
 ok:d.Ok
 lo:d.m≠0→-A≤d.e
 hi:d.m≠0→bl d.m+d.e≤B
theorem Rg.zero (A B:Int):Rg dz A B:=⟨Ky,fun h=>absurd rfl h,fun h=>absurd rfl h⟩
theorem Rg.mono {d:Dy}{A B A' B':Int}(h:Rg d A B)(hA:A≤A')(hB:B≤B'):Rg d A' B':=⟨h.ok,fun h0=>by have:=h.lo h0;omega,fun h0=>by have:=h.hi h0;omega⟩
theorem Rg.neg {d:Dy}{A B:Int}(h:Rg d A B):Rg (Ea d) A B:=by
 refine ⟨Hm h.ok,?_,?_⟩<;>unfold Ea<;>split<;>first | exact h.lo | exact h.hi
theorem Tj {x y:Nat}(h:y≠0):bl (x/y)≤bl x-(bl y-1):=by
 have hy:2^(bl y-1)≤y:=Cv y h;rw [←Oo];exact Jn (Nat.div_le_div_left hy (Nat.two_pow_pos _))
structure RgI (a:Iv) (A B:Int):Prop where
 lo:Rg a.lo A B
 hi:Rg a.hi A B
theorem RgI.mono {a:Iv}{A B A' B':Int}(h:RgI a A B)(hA:A≤A')(hB:B≤B'):RgI a A' B':=⟨h.lo.mono hA hB,h.hi.mono hA hB⟩
theorem RgI.zero (A B:Int):RgI iz A B:=⟨Rg.zero _ _,Rg.zero _ _⟩
def GoodI (o:Outc Iv) (A B:Int):Prop:=o.k=0∧RgI o.v A B
theorem GoodI.mono {o:Outc Iv}{A B A' B':Int}(h:GoodI o A B)(hA:A≤A')(hB:B≤B'):GoodI o A' B':=⟨h.1,h.2.mono hA hB⟩
def In (x:Rat) (a:Iv):Prop:=a.lo.q≤x∧x≤a.hi.q
end Go.Proofs.YtabjjdicffcolaaGreatDoor
namespace Go.Proofs.YtabjjdicffcolaaGreatDoor
open Go.RowKit
theorem S7 {w:World}{b:Nat}:∀ (l:List RawI) (off:Nat),(∀ i a,l[i]?=some a→IvAt w b (off+i*6) a)→∃ cs:List Value,cs.length=l.length*6 ∧
 (∀ (j:Nat) (u:Value),cs[j]?=some u→w.cell? ⟨b,off+j,none⟩=some u∧Bo u∧u.oneCell'=true) ∧
 (∀ (i:Nat) (a:RawI),l[i]?=some a→∃ x y z x' y' z',cs[i*6]?=some x∧cs[i*6+1]?=some y∧cs[i*6+2]?=some z∧cs[i*6+3]?=some x'∧cs[i*6+4]?=some y'∧cs[i*6+5]?=some z'∧IvR w (.agg #[x,y,z,x',y',z']) a)
 | [],off,_=>⟨[],rfl,by simp,by simp⟩
 | a :: l, off, h => by
   obtain ⟨cs,h1,h2,h3⟩:=S7 l (off+6) (fun i d hi=>by
    have:=h (i+1) d (by simpa using hi);rw [show off+(i+1)*6=off+6+i*6 by omega] at this;exact this)
   obtain ⟨x,y,z,x',y',z',c0,c1,c2,c3,c4,c5,hI⟩:=h 0 a rfl;have hcl:=hI.cells;rw [show off+0*6=off by omega] at c0 c1 c2 c3 c4 c5;refine ⟨x::y::z::x'::y'::z'::cs,by simp only [List.length_cons];omega,?_,?_⟩
   ·intro j u hj
    rcases j with _ | _ | _ | _ | _ | _ | j
    ·cases hj;exact ⟨c0,hcl _ (by simp)⟩
    ·cases hj;exact ⟨c1,hcl _ (by simp)⟩
    ·cases hj;exact ⟨c2,hcl _ (by simp)⟩
    ·cases hj;exact ⟨c3,hcl _ (by simp)⟩
    ·cases hj;exact ⟨c4,hcl _ (by simp)⟩
    ·cases hj;exact ⟨c5,hcl _ (by simp)⟩
    ·have := h2 j u (by simpa using hj);rw [show off+6+j=off+(j+1+1+1+1+1+1) by omega] at this;exact this
   ·intro i d hi
    rcases i with _ | i
    ·obtain rfl : a = d := by simpa using hi
     exact ⟨_,_,_,_,_,_,rfl,rfl,rfl,rfl,rfl,rfl,hI⟩
    ·obtain ⟨p, q, r, p', q', r', e0, e1, e2, e3, e4, e5, hJ⟩ := h3 i d (by simpa using hi);refine ⟨p,q,r,p',q',r',?_,?_,?_,?_,?_,?_,hJ⟩
     ·rw [show (i+1)*6=i*6+6 by omega];exact e0
     ·rw [show (i+1)*6+1=i*6+1+6 by omega];exact e1
     ·rw [show (i+1)*6+2=i*6+2+6 by omega];exact e2
     ·rw [show (i+1)*6+3=i*6+3+6 by omega];exact e3
     ·rw [show (i+1)*6+4=i*6+4+6 by omega];exact e4
     ·rw [show (i+1)*6+5=i*6+5+6 by omega];exact e5
end Go.Proofs.YtabjjdicffcolaaGreatDoor
