/- Words and contracts, part 41. -/
import Derived.Test.YtmgaloopddiekaaGreatDoorClaimFargsp40
set_option maxRecDepth 100000
set_option maxHeartbeats 0
namespace Go.Proofs.YtmgaloopddiekaaGreatDoor
open Go.Lib (hid)
open Go.RowKit
def Two2 (w:World) (v:Value) (xs:List Value):Prop:=∃ b g cap,v=.slice (some ⟨b,0,none⟩) 1 1∧w.heap[b]?=some (.cells #[.slice (some ⟨g,0,none⟩) 2 cap] 26 (0,0))∧2≤cap∧∀ (j:Nat) (u:Value),xs[j]?=some u→w.cell? ⟨g,j,none⟩=some u
def NilB (w:World) (v:Value):Prop:=∃ b,v=.slice (some ⟨b,0,none⟩) 1 1∧w.heap[b]?=some (.cells #[.slice none 0 0] 26 (0,0))
def BoxI (w:World) (v:Value) (t0 t1 t2 t3 t4 t5:Value):Prop:=∃ b,v=.slice (some ⟨b,0,none⟩) 1 1∧BlkI w b t0 t1 t2 t3 t4 t5
theorem Two2.kept {w w':World}{v:Value}{xs:List Value}(h:Two2 w v xs)(k:Kept w w'):Two2 w' v xs:=by
 obtain ⟨b,g,cap,e,hb,hc,hh⟩:=h;exact ⟨b,g,cap,e,Aj hb k,hc,fun j u hj=>(k.cell (p:=⟨g,j,none⟩) (Bg (hh j u hj))).trans (hh j u hj)⟩
theorem NilB.kept {w w':World}{v:Value}(h:NilB w v)(k:Kept w w'):NilB w' v:=by
 obtain ⟨b,e,hb⟩:=h;exact ⟨b,e,Aj hb k⟩
theorem BoxI.kept {w w':World}{v t0 t1 t2 t3 t4 t5:Value}(h:BoxI w v t0 t1 t2 t3 t4 t5)(k:Kept w w'):BoxI w' v t0 t1 t2 t3 t4 t5:=by
 obtain ⟨b,e,hb⟩:=h;exact ⟨b,e,hb.kept k⟩
section
variable {w w':World} {v t0 t1 t2 t3 t4 t5:Value} {xs:List Value}
theorem NilB.stab (h:NilB w v)(hs:∀ (b:Nat) (cs:Array Value) (T:TypeId),w.heap[b]?=some (.cells cs T (0,0))→cs.size<12→w'.heap[b]?=some (.cells cs T (0,0))):NilB w' v:=by
 obtain ⟨b,e,hb⟩:=h;exact ⟨b,e,hs _ _ _ hb (by simp)⟩
theorem BoxI.stab (h:BoxI w v t0 t1 t2 t3 t4 t5)(hs:∀ (b:Nat) (cs:Array Value) (T:TypeId),w.heap[b]?=some (.cells cs T (0,0))→cs.size<12→w'.heap[b]?=some (.cells cs T (0,0))):BoxI w' v t0 t1 t2 t3 t4 t5:=by
 obtain ⟨b,e,hb⟩:=h;exact ⟨b,e,hs _ _ _ hb (by simp)⟩
theorem Two2.stab (h:Two2 w v xs)(hs:∀ (b:Nat) (cs:Array Value) (T:TypeId),w.heap[b]?=some (.cells cs T (0,0))→cs.size<12→w'.heap[b]?=some (.cells cs T (0,0)))
 (hh:∀ g,(∀ (j:Nat) (u:Value),xs[j]?=some u→w.cell? ⟨g,j,none⟩=some u)→∀ (j:Nat) (u:Value),xs[j]?=some u→w'.cell? ⟨g,j,none⟩=some u):Two2 w' v xs:=by
 obtain ⟨b,g,cap,e,hb,hc,hd⟩:=h;exact ⟨b,g,cap,e,hs _ _ _ hb (by simp),hc,hh g hd⟩
end
theorem Two2.rws {w:World}{v x0 x1 x2 x3 x4 x5 t0 t1 t2 t3 t4 t5:Value}{a t:RawI}(h:Two2 w v [x0,x1,x2,x3,x4,x5,t0,t1,t2,t3,t4,t5])(hA:IvR w (.agg #[x0,x1,x2,x3,x4,x5]) a)(hI:IvR w (.agg #[t0,t1,t2,t3,t4,t5]) t):Rws w v [[a,t]]:=by
 obtain ⟨b,g,cap,rfl,hb,hc,hh⟩:=h;refine ⟨_,_,rfl,Nat.le_refl _,fun _=>⟨b,0,rfl,fun i r hi=>?_⟩⟩;rcases i with _ | i
 ·obtain rfl:[a,t]=r:=by simpa using hi
  refine ⟨_,Ag hb 0 _ rfl,_,cap,rfl,hc,fun _=>⟨g,0,rfl,fun j d hj=>?_⟩⟩;rcases j with _ | _ | j
  ·obtain rfl:a=d:=by simpa using hj
   exact ⟨_,_,_,_,_,_,hh 0 _ rfl,hh 1 _ rfl,hh 2 _ rfl,hh 3 _ rfl,hh 4 _ rfl,hh 5 _ rfl,hA⟩
  ·obtain rfl:t=d:=by simpa using hj
   exact ⟨_,_,_,_,_,_,hh 6 _ rfl,hh 7 _ rfl,hh 8 _ rfl,hh 9 _ rfl,hh 10 _ rfl,hh 11 _ rfl,hI⟩
  ·simp at hj
 ·simp at hi
theorem NilB.rws {w:World}{v:Value}(h:NilB w v):Rws w v [[]]:=by
 obtain ⟨b,rfl,hb⟩:=h;refine ⟨_,_,rfl,Nat.le_refl _,fun _=>⟨b,0,rfl,fun i r hi=>?_⟩⟩;rcases i with _ | i
 ·obtain rfl:[]=r:=by simpa using hi
  exact ⟨_,Ag hb 0 _ rfl,Hb _⟩
 ·simp at hi
theorem OwnI.two {w:World}{B:Nat}{v x0 x1 x2 x3 x4 x5 t0 t1 t2 t3 t4 t5:Value}{a t:RawI}(h:OwnI w B v [a,t] [x0,x1,x2,x3,x4,x5,t0,t1,t2,t3,t4,t5]) :
 ∃ g cap,v=.slice (some ⟨g,0,none⟩) 2 cap∧2≤cap∧∀ (j:Nat) (u:Value),[x0,x1,x2,x3,x4,x5,t0,t1,t2,t3,t4,t5][j]?=some u→w.cell? ⟨g,j,none⟩=some u:=by
 have hr:=h.row;rcases hr.2 with ⟨-,h0⟩ | ⟨g,cap,cur,rfl,hbg,hg,hnc,hcm,hcs,htake⟩
 ·simp at h0
 ·refine ⟨g,cap,rfl,hnc,fun j u hj=>?_⟩;have ad:∀ j,(⟨g,0,none⟩:Addr).add j=⟨g,j,none⟩:=by intro j;unfold Addr.add;split<;>simp_all
  have:=hr.cells (g:=g) rfl j u hj;rwa [ad] at this
def Six (w:World) (b o:Nat) (x0 x1 x2 x3 x4 x5:Value):Prop:=w.cell? ⟨b,o,none⟩=some x0∧w.cell? ⟨b,o+1,none⟩=some x1∧w.cell? ⟨b,o+2,none⟩=some x2∧w.cell? ⟨b,o+3,none⟩=some x3∧w.cell? ⟨b,o+4,none⟩=some x4∧w.cell? ⟨b,o+5,none⟩=some x5
theorem Six.kept {w w':World}{b o:Nat}{x0 x1 x2 x3 x4 x5:Value}(h:Six w b o x0 x1 x2 x3 x4 x5)(k:Kept w w'):Six w' b o x0 x1 x2 x3 x4 x5:=by
 obtain ⟨h0,h1,h2,h3,h4,h5⟩:=h;have hb:=Bg h0;exact ⟨(k.cell (p:=⟨b,o,none⟩) hb).trans h0,(k.cell (p:=⟨b,o+1,none⟩) hb).trans h1,(k.cell (p:=⟨b,o+2,none⟩) hb).trans h2,(k.cell (p:=⟨b,o+3,none⟩) hb).trans h3,(k.cell (p:=⟨b,o+4,none⟩) hb).trans h4,(k.cell (p:=⟨b,o+5,none⟩) hb).trans h5⟩
theorem U0 {w:World}{r:RawI}{x y z x' y' z':Value}(h:IvR w (.agg #[x,y,z,x',y',z']) r):OwnI (w.alloc (.cells #[x,y,z,x',y',z'] 51)) w.heap.size (.slice (some ⟨w.heap.size,0,none⟩) 1 1) [r] [x,y,z,x',y',z']:=by
 have hcl:=h.cells;refine ⟨⟨rfl,.inr ⟨w.heap.size,1,_,rfl,Nat.le_refl _,heap_alloc_new _ _,Nat.le_refl _,by unfold maxLen;omega,rfl,rfl⟩⟩,fun u hu=>(hcl u hu).1,fun u hu=>(hcl u hu).2,?_,?_⟩
 ·intro g hg;obtain rfl:w.heap.size=g:=Option.some.inj hg;exact ⟨_,_,heap_alloc_new _ _,fun u hu=>(hcl u (by simpa using hu)).1⟩
 ·intro i d hi;rcases i with _ | i
  ·obtain rfl:r=d:=by simpa using hi
   exact ⟨_,_,_,_,_,_,rfl,rfl,rfl,rfl,rfl,rfl,h.kept (Ad _ _)⟩
  ·simp at hi
theorem Ai7 (w:World)(x y z x' y' z':Value):∃ W,W=w.alloc (.cells #[x,y,z,x',y',z'] 51)∧Kept w W∧BlkI W w.heap.size x y z x' y' z' :=
 ⟨_,rfl,Ad _ _,Cv _ _ _ _ _ _ _⟩
def SolJ (B bo:Nat) (vr:Value) (c:List RawI) (xs:List Value) (cur:Array Value) (d:RawI) (l0 l1 l2:Bool) (w:World):Prop :=
 (l1=false→OwnI w B vr c xs)∧(l2=false→w.heap[bo]?=some (.cells cur 26 (0,0))) ∧
 (l2=true→l0=true∧l1=true∧∃ v' xs',w.heap[bo]?=some (.cells (cur.setIfInBounds 0 v') 26 (0,0))∧OwnI w B v' (c++[d]) xs')
theorem SolJ.kept {B bo:Nat}{vr:Value}{c:List RawI}{xs:List Value}{cur:Array Value}{d:RawI}{l0 l1 l2:Bool}{w w':World}(k:Kept w w')(h:SolJ B bo vr c xs cur d l0 l1 l2 w):SolJ B bo vr c xs cur d l0 l1 l2 w':=by
 obtain ⟨h1,h2,h3⟩:=h;refine ⟨fun e=>(h1 e).kept k,fun e=>Aj (h2 e) k,fun e=>?_⟩;obtain ⟨e0,e1,v',xs',hb,hv⟩:=h3 e;exact ⟨e0,e1,v',xs',Aj hb k,hv.kept k⟩
theorem SolJ.seen {B bo:Nat}{vr:Value}{c:List RawI}{xs:List Value}{cur:Array Value}{d:RawI}{l0 l1 l2:Bool}{w w':World}(k:Kept w w')(h:SolJ B bo vr c xs cur d l0 l1 l2 w):SolJ B bo vr c xs cur d true l1 l2 w':=by
 obtain ⟨h1,h2,h3⟩:=h.kept k;exact ⟨h1,h2,fun e=>⟨rfl,(h3 e).2⟩⟩
theorem SolJ.box {B bo:Nat}{vr:Value}{c:List RawI}{xs:List Value}{cur:Array Value}{d:RawI}{l0 l1 l2:Bool}{w:World}(h:SolJ B bo vr c xs cur d l0 l1 l2 w)(hl:l0=false∨l1=false∨l2=false):w.heap[bo]?=some (.cells cur 26 (0,0)):=by
 cases l2
 ·exact h.2.1 rfl
 ·obtain ⟨e0,e1,-⟩:=h.2.2 rfl;rcases hl with hl | hl | hl
  ·rw [e0] at hl;cases hl
  ·rw [e1] at hl;cases hl
  ·cases hl
theorem SolJ.did {B bo g0:Nat}{vr:Value}{c:List RawI}{xs:List Value}{cur:Array Value}{d:RawI}{l0 l1 l2:Bool}{w w':World}(h:SolJ B bo vr c xs cur d l0 l1 l2 w)(hl:l1=false)(hg:w.grownBy w' (some g0))(hne:g0≠bo):SolJ B bo vr c xs cur d l0 true l2 w':=by
 obtain ⟨h1,h2,h3⟩:=h;refine ⟨fun e=>(by cases e),fun e=>?_,fun e=>?_⟩
 ·have hb:=h2 e;rw [hg.block bo (Array.getElem?_eq_some_iff.1 hb).1 (fun e=>hne (Option.some.inj e).symm)];exact hb
 ·obtain ⟨-,e1,-⟩:=h3 e;rw [hl] at e1;cases e1
def RowJ (br o:Nat) (a:RawI) (l10 l14 l16:Bool) (w:World):Prop:=(l10=false→IvAt w br o a)∧(l14=true→l10=true)∧(l16=true→l10=true)
theorem RowJ.kept {br o:Nat}{a:RawI}{l10 l14 l16:Bool}{w w':World}(k:Kept w w')(h:RowJ br o a l10 l14 l16 w):RowJ br o a l10 l14 l16 w':=⟨fun e=>(h.1 e).kept k,h.2⟩
theorem RowJ.seen {br o:Nat}{a:RawI}{l10 l14 l16:Bool}{w w':World}(_k:Kept w w')(_h:RowJ br o a l10 l14 l16 w):RowJ br o a true l14 l16 w':=⟨fun e=>by (cases e),fun _=>rfl,fun _=>rfl⟩
theorem RowJ.also {br o:Nat}{a:RawI}{l10 l14 l16:Bool}{w w':World}(k:Kept w w')(h:RowJ br o a l10 l14 l16 w)(e:l10=true):RowJ br o a l10 true l16 w':=⟨fun e=>(h.1 e).kept k,fun _=>e,h.2.2⟩
theorem RowJ.done {br o:Nat}{a:RawI}{l10 l14 l16:Bool}{w':World}(e:l10=true):RowJ br o a l10 l14 l16 w':=⟨fun e'=>by (rw [e] at e';cases e'),fun _=>e,fun _=>e⟩
section
variable {w:World} {bo B:Nat} {cur:Array Value} {T:TypeId} {A:Option Addr} {n m:Nat} {v:Value} {l:List RawI} {xs:List Value} {r:RawI}
theorem Jl (hb:w.heap[bo]?=some (.cells cur T (0,0)))(hc:cur[0]?=some (.slice A n m))(u:Value):KB w [bo] (w.setCell ⟨bo,0,none⟩ u) :=
 (KB.refl w [bo]).setCell (by simp) (Ag hb 0 _ hc) (Ak _ _ _) u
theorem Ac8 (hb:w.heap[bo]?=some (.cells cur T (0,0)))(hc:cur[0]?=some (.slice A n m)){b:Nat}{x:Bool}(h:w.cell? ⟨b,0,none⟩=some (.bool x)):b≠bo:=by
 rintro rfl;rw [Ag hb 0 _ hc] at h;cases h
theorem OneI.setb (h:OneI w v r)(hb:w.heap[bo]?=some (.cells cur T (0,0)))(hc:cur[0]?=some (.slice A n m))(u:Value):OneI (w.setCell ⟨bo,0,none⟩ u) v r:=by
 obtain ⟨b,x,y,z,x',y',z',e,h1,h2⟩:=h;have k:=Jl hb hc u;obtain ⟨A1,l1,d1,A2,l2,d2,e9,-,-⟩:=Ar h2;injection e9 with e9;injection e9 with e9
 simp only [List.cons.injEq,and_true] at e9;obtain ⟨rfl,rfl,rfl,rfl,rfl,rfl⟩:=e9;exact ⟨b,_,_,_,_,_,_,e,h1.kb k (by simpa using Ac8 hb hc (Ag h1 0 _ rfl)),h2.kb k⟩
theorem OwnI.first (h:OwnI w B v l xs)(hl:0<l.length):∃ g c x,v=.slice (some ⟨g,0,none⟩) l.length c∧l.length≤c∧B≤g∧w.cell? ⟨g,0,none⟩=some (.bool x):=by
 have hr:=h.row;rcases hr.2 with ⟨-,h0⟩ | ⟨g,cap,cr,rfl,hbg,hg,hnc,hcm,hcs,htake⟩
 ·omega
 ·obtain ⟨y,x,z,y',x',z',s0,-,-,-,-,-,hI⟩:=h.ivs 0 _ (List.getElem?_eq_getElem hl);obtain ⟨A1,l1,d1,A2,l2,d2,e9,-,-⟩:=Ar hI;injection e9 with e9;injection e9 with e9
  simp only [List.cons.injEq,and_true] at e9;obtain ⟨rfl,rfl,rfl,rfl,rfl,rfl⟩:=e9;have:=hr.cells (g:=g) rfl 0 _ s0;exact ⟨g,cap,_,rfl,hnc,hbg,by simpa [Addr.add] using this⟩
theorem OwnI.setb (h:OwnI w B v l xs)(hl:0<l.length)(hb:w.heap[bo]?=some (.cells cur T (0,0)))(hc:cur[0]?=some (.slice A n m))(u:Value):OwnI (w.setCell ⟨bo,0,none⟩ u) B v l xs:=by
 obtain ⟨g,c,x,rfl,-,-,hx⟩:=h.first hl;have hne:=Ac8 hb hc hx;have k:=Jl hb hc u;obtain ⟨h1,h2,h3,h4,h5⟩:=h;have blk:∀ o,w.heap[g]?=some o→(w.setCell ⟨bo,0,none⟩ u).heap[g]?=some o:=fun o ho=>(Below.heap_setCell _ _ _ _ hne).trans ho
 refine ⟨⟨h1.1,?_⟩,h2,h3,?_,?_⟩
 ·rcases h1.2 with hn | ⟨g2,cap,cr,e,hb2,hg2,rest⟩
  ·exact .inl hn
  ·injection e with e1 e2 e3
   injection e1 with e1
   injection e1 with e1 e4
   subst e1;exact .inr ⟨g,cap,cr,by rw [←e3],hb2,blk _ hg2,rest⟩
 ·intro g2 hg2;obtain rfl:g=g2:=by simpa [Value.ownBlock] using hg2
  obtain ⟨cr,e,q1,q2⟩:=h4 g rfl;exact ⟨cr,e,blk _ q1,q2⟩
 ·intro i a hi;obtain ⟨p0,p1,p2,p3,p4,p5,s0,s1,s2,s3,s4,s5,hI⟩:=h5 i a hi;exact ⟨p0,p1,p2,p3,p4,p5,s0,s1,s2,s3,s4,s5,hI.kb k⟩
end
theorem SolJ.laid {B bo m n:Nat}{A:Option Addr}{vr v':Value}{c:List RawI}{xs xs':List Value}{cur:Array Value}{d:RawI}{l0 l1 l2:Bool}{w:World}(_h:SolJ B bo vr c xs cur d l0 l1 l2 w)(h0:l0=true)(h1:l1=true)(hb:w.heap[bo]?=some (.cells cur 26 (0,0)))(hc:cur[0]?=some (.slice A n m))(ho:OwnI w B v' (c++[d]) xs') :
 SolJ B bo vr c xs cur d l0 l1 true (w.setCell ⟨bo,0,none⟩ v') :=
 ⟨fun e=>by (rw [h1] at e;cases e),fun e=>by (cases e),fun _=>⟨h0,h1,v',xs',Av hb v',ho.setb (by simp) hb hc _⟩⟩
theorem OneI.app {w w':World}{v:Value}{r:RawI}{row:Option Nat}(h:OneI w v r)(hg:w.grownBy w' row)(hN:∀ g,row=some g→NoL w g)(hs:∀ (b:Nat) (cs:Array Value) (T:TypeId),w.heap[b]?=some (.cells cs T (0,0))→cs.size<12→w'.heap[b]?=some (.cells cs T (0,0))):OneI w' v r:=by
 obtain ⟨b,x,y,z,x',y',z',e,h1,h2⟩:=h;exact ⟨b,x,y,z,x',y',z',e,hs _ _ _ h1 (by simp),h2.grown hg hN⟩
theorem Ad4 {S:Int→Prop}{ov:Iv→Nat→Outc Iv}{w:World}{bB bK bF bX bP bT bx ox cx k p:Nat}{s o:Value}{ls:List Ln}{outs:List Int}{a t:RawI}{x0 x1 x2 x3 x4 x5 t0 t1 t2 t3 t4 t5:Value}{time c9:List RawI}(O:R8 S)(h9:S 9)
 (hB:w.heap[bB]?=some (.cells #[.int .i64 (p:Int)] 3 (0,0))) (hK:w.heap[bK]?=some (.cells #[.int .i64 (k:Int)] 3 (0,0))) (hF:w.heap[bF]?=some (.cells #[s,o] 25 (0,0)))
 (hX:w.heap[bX]?=some (.cells #[.slice (some ⟨bx,ox,none⟩) 1 cx] 26 (0,0))) (hP:w.heap[bP]?=some (.cells #[.slice none 0 0] 26 (0,0))) (hTm:BlkI w bT t0 t1 t2 t3 t4 t5)
 (hx6:Six w bx ox x0 x1 x2 x3 x4 x5) (hA:IvR w (.agg #[x0,x1,x2,x3,x4,x5]) a) (ga:a.iv.Ok∧a.iv.raw=a) (hI:IvR w (.agg #[t0,t1,t2,t3,t4,t5]) t) (gt:t.iv.Ok∧t.iv.raw=t)
 (hv:TpR w (.agg #[s,o]) ls outs) (hok:Ke ls) (hn:ls.length≤200) (ho1:outs.length=1) (hor:∀ n∈outs,0≤n∧n<(ls.length:Int)) (hw:Lj k p=true) (hm:Hk ls outs 1 0 0=true)
 (hL:∀ n c,n<k→Gd c→c.length=n+1→∀ i l,ls[i]?=some l→Aa0 false ov p n (time.take (n+1)) [c] [] i l)
 (hT:Tab w) (hr:(De a.iv p).k=0) (hst:Mc ov p ls outs time [] [[(De a.iv p).v.raw]] (List.range' 0 k)=⟨[c9],0⟩) :
 Calls Tryz.prog 208 #[.pointer (some ⟨bB,0,none⟩),.pointer (some ⟨bK,0,none⟩),.pointer (some ⟨bF,0,none⟩),.pointer (some ⟨bX,0,none⟩),.pointer (some ⟨bP,0,none⟩),.pointer (some ⟨bT,0,none⟩)] w (L3 ⟨[c9],0⟩ w):=by
 have kp:k≤12∧1≤p∧p≤300:=by
  unfold Lj at hw;simp only [Bool.and_eq_true,decide_eq_true_eq] at hw;omega
 obtain ⟨k12,p1,p2⟩:=kp;have WI:=hid (fun w1=>show Calls Tryz.prog 210 #[.int .i64 (k:Int),.int .i64 (p:Int)] w1 (RetQ (.bool true) w1) by have:=Aet w1 k p;rwa [hw] at this);have MT:=hid (fun w1 (q:Kept w w1)=>show Calls Tryz.prog 64 #[.agg #[s,o],.int .i64 1,.int .i64 0,.int .i64 0] w1 (RetK (.bool true) w1) by have:=W8 (hv.kept q) hok (by omega) (by omega) (x:=1) (u:=0) (p:=0) (by omega) (by omega) (by omega);rwa [hm] at this)
 have CLN:=hid (fun w1 (q:Kept w w1)=>show Calls Tryz.prog 212 #[.slice (some ⟨bx,ox,none⟩) 1 cx] w1 _ from
  Zm (hx6.kept q).1 (hx6.kept q).2.1 (hx6.kept q).2.2.1 (hx6.kept q).2.2.2.1 (hx6.kept q).2.2.2.2.1 (hx6.kept q).2.2.2.2.2 (hA.kept q))
 have ma:Ck a=true:=by rw [←ga.2];exact Ff ga.1
 have mt:Ck t=true:=by rw [←gt.2];exact Ff gt.1
 have la:a.lens 17592186044416:=by rw [←ga.2];exact Ez ga.1
 have lt:t.lens 17592186044416:=by rw [←gt.2];exact Ez gt.1
 have F1:=hid (fun w1 (q:Kept w w1) v (h:Two2 w1 v [x0,x1,x2,x3,x4,x5,t0,t1,t2,t3,t4,t5])=>show Calls Tryz.prog 211 #[v,.int .i64 1] w1 (RetK (.bool true) w1) by
  have:=Abx (k:=1) (h.rws (hA.kept q) (hI.kept q)) (by simp) (by
   intro r hr;simp only [List.mem_singleton] at hr;subst hr;refine ⟨by simp,fun d hd=>?_⟩;simp only [List.mem_cons,List.not_mem_nil,or_false] at hd;rcases hd with rfl | rfl
   ·exact la
   ·exact lt) (by decide) (by decide)
  rwa [show Lq [[a,t]] 1=true by simp [Lq,ma,mt]] at this)
 have F2:=hid (fun w1 v (h:NilB w1 v)=>show Calls Tryz.prog 211 #[v,.int .i64 (-1)] w1 (RetK (.bool true) w1) by
  have:=Abx (k:=-1) h.rws (by decide) (by
   intro r hr;simp only [List.mem_singleton] at hr;subst hr;exact ⟨by decide,fun d hd=>by cases hd⟩) (by decide) (by decide)
  rwa [show Lq [[]] (-1)=true from rfl] at this)
 obtain ⟨rr,hrr⟩:∃ rr,rr=De a.iv p:=⟨_,rfl⟩;have rok:rr.v.Ok:=by rw [hrr];exact (G5 ga.1 p1).1
 rw [←hrr] at hr hst;have RR:=hid hrr;have ROK:=hid rok;clear hrr rok;have HV:=hid hv;have HI:=hid hI;have HA:=hid hA;have T:=hid hT;have GA:=hid ga;have HL:=hid hL;have HST:=hid hst;have HR:=hid hr;have HOR:=hid hor;have HX6:=hid hx6;have OO:=hid O;obtain ⟨W,hW,kW,bW⟩:=Ai9 w p;have HW:=hid hW;have K:=hid kW;have BW:=hid bW;have cB:=Ag hB 0 _ rfl;have HB:=hid (Aj hB kW);have HK:=hid (Aj hK kW);have HF:=hid (Aj hF kW);have HX:=hid (Aj hX kW);have HP:=hid (Aj hP kW);have HTB:=hid (hTm.kept kW);have hv2:=hv;obtain ⟨s',o',es,-,⟨oA,oc,rfl,-,-⟩⟩:=hv2;obtain ⟨rfl,rfl⟩:s=s'∧o=.slice oA outs.length oc:=by
  injection es with es
  injection es with es
  simp only [List.cons.injEq,and_true] at es;exact es
 have HO1:Hid (∃ z,outs=[z]):=hid (by
  rcases outs with _ | ⟨z,_ | ⟨z',os⟩⟩
  ·simp at ho1
  ·exact ⟨z,rfl⟩
  ·simp at ho1)
 rw [ho1] at *;have HIW:=hid (hI.kept kW);clear hW kW bW hB hK hF hX hP hTm hv hok hw hm hI hA hT hL hst hr hor hx6 O ma mt la lt ga gt es;go_enter Tryz.func208,Tryz.ntmps208;go_upto_region 2 with fail;rw [←HW.out];clear HW cB
 refine rK 39 (fun i=>i==24) ([]) (fun L w'=>True) ([(vE (.int .i64 (k:Int))),(vE (.int .i64 (p:Int))),(vE (.bool true)),(vE (.bool true)),(vE (.agg #[s,.slice oA 1 oc])),(vE (.slice (some ⟨bx,ox,none⟩) 1 cx)),(vE (.int .i64 1)),(vE (.slice none 0 0)),(vE (.int .i64 0)),(vE (.bool true)),(vE (.bool true)),(vE (.bool true)),(vP bF 1),(vE (.slice oA 1 oc)),(vE (.int .i64 1)),(vE (.slice (some ⟨bx,ox,none⟩) 1 cx)),(vE (.int .i64 1)),(vE (.bool true)),(vE (.bool true)),(vE (.bool true)),(vE (.slice (some ⟨bx,ox,none⟩) 1 cx)),(fun v wv=>OwnI wv W.heap.size v [a] [x0,x1,x2,x3,x4,x5]),(vE (.agg #[t0,t1,t2,t3,t4,t5])),(fun v wv=>BoxI wv v t0 t1 t2 t3 t4 t5),(fun v wv=>OwnI wv W.heap.size v [a,t] [x0,x1,x2,x3,x4,x5,t0,t1,t2,t3,t4,t5]),(fun v wv=>Two2 wv v [x0,x1,x2,x3,x4,x5,t0,t1,t2,t3,t4,t5]),(vE (.slice (some ⟨bx,ox,none⟩) 1 cx)),(vE (.int .i64 1)),(vE (.bool true)),(vE (.bool true)),(vE (.bool true)),(vE (.slice none 0 0)),(fun v wv=>NilB wv v),(vE (.slice none 0 0)),(vE (.int .i64 0)),(vE (.int .i64 (-1))),(vE (.bool true)),(vE (.bool true)),(vE (.tuple #[]))])
  (fun i hE L w w' kq fj=>by trivial) (trivial) (hM:=⟨⟨mE,mE,mE,mE,mE,mE,mE,mE,mE,mE,mE,mE,mE,mE,mE,mE,mE,mE,mE,mE,mE,fun v w w' k h=>by first | exact h | exact h.kept k | exact ⟨h.1,h.2.kept k⟩,mE,fun v w w' k h=>by first | exact h | exact h.kept k | exact ⟨h.1,h.2.kept k⟩,fun v w w' k h=>by first | exact h | exact h.kept k | exact ⟨h.1,h.2.kept k⟩,fun v w w' k h=>by first | exact h | exact h.kept k | exact ⟨h.1,h.2.kept k⟩,mE,mE,mE,mE,mE,mE,fun v w w' k h=>by first | exact h | exact h.kept k | exact ⟨h.1,h.2.kept k⟩,mE,mE,mE,mE,mE,mE,trivial⟩⟩) (by exact ⟨
    (kql 1 fun _ k=>Cn HK.out k (by simp) 0 _ rfl),(kql 0 fun _ k=>Cn HB.out k (by simp) 0 _ rfl),(kp fun _ aF wF F=>by have s20:=F.v 0 20;have s21:=F.v 1 21;exact sQ (WI.out _) fun _ _ h=>h),(kv 2 22),(kp fun _ aF wF F=>by have FK:=F.frame.1;have s2:=F.q 2 (.pointer (some ⟨bF,0,none⟩));have c0:=Cn HF.out FK (by simp) 0 _ rfl;have c1:=Cn HF.out FK (by simp) 1 _ rfl;have sg:=F.v 3 23;exact A0 ((Al rfl rfl sg).trans rfl) (by go_simp) rfl),(kp fun _ aF wF F=>by have FK:=F.frame.1;have s3:=F.q 3 (.pointer (some ⟨bX,0,none⟩));have c0:=Cn HX.out FK (by simp) 0 _ rfl;have sg:=F.v 3 23;exact A0 ((Al rfl rfl sg).trans rfl) (by go_simp) rfl),(kp fun _ aF wF F=>by have s25:=F.v 5 25;have sg:=F.v 3 23;exact A0 ((Al rfl rfl sg).trans rfl) (by go_simp) rfl),(kp fun _ aF wF F=>by have FK:=F.frame.1;have s4:=F.q 4 (.pointer (some ⟨bP,0,none⟩));have c0:=Cn HP.out FK (by simp) 0 _ rfl;have sg:=F.v 3 23;exact A0 ((Al rfl rfl sg).trans rfl) (by go_simp) rfl),(kp fun _ aF wF F=>by have s27:=F.v 7 27;have sg:=F.v 3 23;exact A0 ((Al rfl rfl sg).trans rfl) (by go_simp) rfl),(kp fun _ aF wF F=>by have FK:=F.frame.1;have s24:=F.v 4 24;have s26:=F.v 6 26;have s28:=F.v 8 28;have sg:=F.v 3 23;exact Bi ((Al rfl rfl sg).trans rfl) (by go_simp) (MT.out _ (K.out.trans FK.nil)) (fun _ _ h=>RetK.good h) (fun _ _ h=>h)),(kvv 3 23 9 29),(kv 10 30),(kp fun _ aF wF F=>by have s2:=F.q 2 (.pointer (some ⟨bF,0,none⟩));have sg:=F.v 11 31;exact A0 ((Al rfl rfl sg).trans rfl) (by go_simp) rfl),(kp fun _ aF wF F=>by have FK:=F.frame.1;have s32:=F.v 12 32;have c0:=Cn HF.out FK (by simp) 1 _ rfl;have sg:=F.v 11 31;exact A0 ((Al rfl rfl sg).trans rfl) (by go_simp) rfl),(kp fun _ aF wF F=>by have s33:=F.v 13 33;have sg:=F.v 11 31;exact A0 ((Al rfl rfl sg).trans rfl) (by go_simp) rfl),(kp fun _ aF wF F=>by have FK:=F.frame.1;have s3:=F.q 3 (.pointer (some ⟨bX,0,none⟩));have c0:=Cn HX.out FK (by simp) 0 _ rfl;have sg:=F.v 11 31;exact A0 ((Al rfl rfl sg).trans rfl) (by go_simp) rfl),(kp fun _ aF wF F=>by have s35:=F.v 15 35;have sg:=F.v 11 31;exact A0 ((Al rfl rfl sg).trans rfl) (by go_simp) rfl),(kp fun _ aF wF F=>by have s34:=F.v 14 34;have s36:=F.v 16 36;have sg:=F.v 11 31;exact A0 ((Al rfl rfl sg).trans rfl) (by go_simp) rfl),(kvv 11 31 17 37),(kv 18 38),(kp fun _ aF wF F=>by have FK:=F.frame.1;have s3:=F.q 3 (.pointer (some ⟨bX,0,none⟩));have c0:=Cn HX.out FK (by simp) 0 _ rfl;have sg:=F.v 19 39;exact A0 ((Al rfl rfl sg).trans rfl) (by go_simp) rfl),(kp fun _ aF wF F=>by have FK:=F.frame.1;have s40:=F.v 20 40;have sg:=F.v 19 39;exact Bi ((Al rfl rfl sg).trans rfl) (by go_simp) (CLN.out _ (K.out.trans FK.nil)) (fun _ _ h=>by obtain ⟨k9,v9,e9,o9⟩:=h;exact ⟨v9,e9,k9,o9.low FK.size⟩) (fun _ _ h=>h)),(kp fun _ aF wF F=>by have FK:=F.frame.1;have s5:=F.q 5 (.pointer (some ⟨bT,0,none⟩));obtain ⟨c0,c1,c2,c3,c4,c5⟩:=c6X HTB.out FK (by simp);have sg:=F.v 19 39;exact A0 ((Al rfl rfl sg).trans rfl) (by go_simp) rfl),(kp fun _ aF wF F=>by have s42:=F.v 22 42;simp only [Array.getD_eq_getD_getElem?] at s42;have sg:=F.v 19 39;exact Kt ((Al rfl rfl sg).trans rfl) (by first | (go_simp;done) | (go_simp;rfl)) (Ad _ _) ⟨_,rfl,Cv _ _ _ _ _ _ _⟩),(.inr fun LF aF wF F=>by have FK:=F.frame.1;have s41:=F.p 21 41;have s43:=F.p 23 43;have sg:=F.v 19 39;obtain ⟨b3,e3,hb3⟩:=s43;obtain ⟨v',w',hrr,hoo,hgg,hsm,hhd,hss⟩:=Aa6 26 s41 (by simp) (by simp) FK.size hb3 (HIW.out.kb FK);exact Rv ((Al rfl rfl sg).trans rfl) (Ra (.tmp 41) (.tmp 43) _ rfl rfl e3 hrr) ⟨FK.grown hgg (fun g hg'=>.inr (s41.base g hg')) s41.blk,trivial⟩ (Oz _ ⟨vR,vR,vR,vR,vR,vR,vR,vR,vR,vR,vR,vR,vR,vR,vR,vR,vR,vR,vR,vR,vR,.inr (fun u h=>by first | exact hss _ h | exact BoxI.stab h hsm | exact Two2.stab h hsm hhd | exact NilB.stab h hsm),vR,.inr (fun u h=>by first | exact hss _ h | exact BoxI.stab h hsm | exact Two2.stab h hsm hhd | exact NilB.stab h hsm),.inl rfl,.inr (fun u h=>by first | exact hss _ h | exact BoxI.stab h hsm | exact Two2.stab h hsm hhd | exact NilB.stab h hsm),vR,vR,vR,vR,vR,vR,.inr (fun u h=>by first | exact hss _ h | exact BoxI.stab h hsm | exact Two2.stab h hsm hhd | exact NilB.stab h hsm),vR,vR,vR,vR,vR,vR,trivial⟩) hoo),(kp fun _ aF wF F=>by have s44:=F.p 24 44;have sg:=F.v 19 39;obtain ⟨g8,cap8,e8,hc8,hh8⟩:=s44.two;simp only [Array.getD_eq_getD_getElem?] at e8;exact Kt ((Al rfl rfl sg).trans rfl) (by first | (go_simp;done) | (go_simp;rfl)) (Ad _ _) ⟨_,g8,cap8,rfl,heap_alloc_new _ _,hc8,fun j u hj=>((Ad _ _).cell (p:=⟨g8,j,none⟩) (Bg (hh8 j u hj))).trans (hh8 j u hj)⟩),(kp fun _ aF wF F=>by have FK:=F.frame.1;have s3:=F.q 3 (.pointer (some ⟨bX,0,none⟩));have c0:=Cn HX.out FK (by simp) 0 _ rfl;have sg:=F.v 19 39;exact A0 ((Al rfl rfl sg).trans rfl) (by go_simp) rfl),(kp fun _ aF wF F=>by have s46:=F.v 26 46;have sg:=F.v 19 39;exact A0 ((Al rfl rfl sg).trans rfl) (by go_simp) rfl),(kp fun _ aF wF F=>by have FK:=F.frame.1;have s45:=F.p 25 45;have s47:=F.v 27 47;have sg:=F.v 19 39;exact Bi ((Al rfl rfl sg).trans rfl) (by go_simp) (F1.out _ (K.out.trans FK.nil) _ s45) (fun _ _ h=>RetK.good h) (fun _ _ h=>h)),(kvv 19 39 28 48),(kv 29 49),(kp fun _ aF wF F=>by have FK:=F.frame.1;have s4:=F.q 4 (.pointer (some ⟨bP,0,none⟩));have c0:=Cn HP.out FK (by simp) 0 _ rfl;have sg:=F.v 30 50;exact A0 ((Al rfl rfl sg).trans rfl) (by go_simp) rfl),(kp fun _ aF wF F=>by have s51:=F.v 31 51;simp only [Array.getD_eq_getD_getElem?] at s51;have sg:=F.v 30 50;exact Kt ((Al rfl rfl sg).trans rfl) (by first | (go_simp;done) | (go_simp;rfl)) (Ad _ _) ⟨_,rfl,heap_alloc_new _ _⟩),(kp fun _ aF wF F=>by have FK:=F.frame.1;have s4:=F.q 4 (.pointer (some ⟨bP,0,none⟩));have c0:=Cn HP.out FK (by simp) 0 _ rfl;have sg:=F.v 30 50;exact A0 ((Al rfl rfl sg).trans rfl) (by go_simp) rfl),(kp fun _ aF wF F=>by have s53:=F.v 33 53;have sg:=F.v 30 50;exact A0 ((Al rfl rfl sg).trans rfl) (by go_simp) rfl),(kp fun _ aF wF F=>by have s54:=F.v 34 54;have sg:=F.v 30 50;exact A0 ((Al rfl rfl sg).trans rfl) (by (go_simp;decide)) rfl),(kp fun _ aF wF F=>by have s52:=F.p 32 52;have s55:=F.v 35 55;have sg:=F.v 30 50;exact Bi ((Al rfl rfl sg).trans rfl) (by go_simp) (F2.out _ _ s52) (fun _ _ h=>RetK.good h) (fun _ _ h=>h)),(kvv 30 50 36 56),(kp fun _ aF wF F=>by have s57:=F.v 37 57;exact sK (P0 1 _) fun _ _ h=>h),
    trivial⟩) ?_
 intro u w2 L1 hL j1 hu;obtain ⟨q,j1⟩:=j1;have p41:=hp hu 21;have p43:=hp hu 23;have p44:=hp hu 24;have p45:=hp hu 25;have p52:=hp hu 32;simp only [Bl,Au,if_true,Act.put,zlA,zlB,zlC,zlD,zlE,zlF,zlG,hv hu 0,hv hu 1,hv hu 2,hv hu 3,hv hu 4,hv hu 5,hv hu 6,hv hu 7,hv hu 8,hv hu 9,hv hu 10,hv hu 11,hv hu 12,hv hu 13,hv hu 14,hv hu 15,hv hu 16,hv hu 17,hv hu 18,hv hu 19,hv hu 20,hv hu 22,hv hu 26,hv hu 27,hv hu 28,hv hu 29,hv hu 30,hv hu 31,hv hu 33,hv hu 34,hv hu 35,hv hu 36,hv hu 37,hv hu 38];clear hu;generalize u 21=v41,u 23=v43,u 24=v44,u 25=v45,u 32=v52 at *;clear p41 p43 p44 p45 p52;have K2:=hid (K.out.trans q.nil)
 replace BW:=hid (Aj BW.out q.nil);replace HB:=hid (Aj HB.out q.nil);replace HK:=hid (Aj HK.out q.nil);replace HF:=hid (Aj HF.out q.nil);replace HX:=hid (Aj HX.out q.nil);replace HP:=hid (Aj HP.out q.nil);replace HTB:=hid (HTB.out.kept q.nil);have CO:=hid (fun w1 (q:Kept w w1)=>Wg (k:=k) (HI.out.kept q) (by omega));have PT:=hid (fun w1 (q:Kept w w1) n (hn:n<1000)=>Ach (n:=n) (by omega) (T.out.kept q));have CR:=hid (fun w1 (q:Kept w w1)=>show Calls Tryz.prog 183 #[.agg #[x0,x1,x2,x3,x4,x5],.int .i64 (p:Int)] w1 (RetIE (Cu rr) w1) by rw [RR.out];exact Ii (show IvC w1 _ a.iv by unfold IvC;rw [GA.out.2];exact HA.out.kept q) GA.out.1 (T.out.kept q) p1 (by omega))
 have hAo:=HA.out;clear q K HIW WI MT CLN F1 F2 HI HA GA;obtain ⟨A1,l1,q1,A2,l2,q2,ei,-,-⟩:=Ar hAo;injection ei with ei;injection ei with ei
 simp only [List.cons.injEq,and_true] at ei;obtain ⟨rfl,rfl,rfl,rfl,rfl,rfl⟩:=ei;clear hAo;generalize a.lo.neg=zz1 at *;generalize a.lo.e=zz2 at *;generalize a.hi.neg=zz3 at *;generalize a.hi.e=zz4 at *;generalize hb7:w.heap.size=b7 at *;obtain ⟨-,m0,m1,m2,m3,m4,m5⟩:=HTB.out.facts;have ck:=Ag HK.out 0 _ rfl;go_wp2_with fail;refine (CO.out _ K2.out).mono ?_;rintro e w3 ⟨q3,v3,ys,rfl,-,how⟩;rcases how.2 with ⟨-,h0⟩ | ⟨gt,ct,cur,rfl,hgt,hcur,hnc,hcm,hcs,-⟩
 ·omega
 have CUR:=hid hcur;have GT:=hid hgt;have K3:=hid q3;have HCS:=hid hcs;have HNC:=hid hnc;clear how hcur hgt q3 m0 m1 m2 m3 m4 m5 ck hcs hnc hcm CO;simp only [];have ck:=Ag (Aj HK.out K3.out) 0 _ rfl
 go_upto_if 63 with fail
 go_cut [] (fun wx=>Kept w2 wx)
 case first =>
  go_wp2_with fail
  ·have hlt':0<k:=by omega
   have hs4:12≤cur.size:=by have:=HCS.out;have:=HNC.out;omega
   have HS4:=hid hs4;clear hlt' hs4 ck;refine (show Calls Tryz.prog 214 #[.int .i64 1] w3 _ from PT.out _ (K2.out.trans K3.out) 1 (by decide)).mono ?_;rintro e w4 ⟨q4,v4,rfl,hv4⟩;obtain ⟨P1,l1,d1,P2,l2,d2,rfl,-,-⟩:=Ar hv4;have c4:=Aj CUR.out q4;obtain ⟨y0,n0⟩:∃ y,w4.cell? ⟨gt,6,none⟩=some y:=⟨_,Ag c4 6 _ (Array.getElem?_eq_getElem (by have:=HS4.out;omega))⟩;obtain ⟨y1,n1⟩:∃ y,w4.cell? ⟨gt,7,none⟩=some y:=⟨_,Ag c4 7 _ (Array.getElem?_eq_getElem (by have:=HS4.out;omega))⟩;obtain ⟨y2,n2⟩:∃ y,w4.cell? ⟨gt,8,none⟩=some y:=⟨_,Ag c4 8 _ (Array.getElem?_eq_getElem (by have:=HS4.out;omega))⟩
   obtain ⟨y3,n3⟩:∃ y,w4.cell? ⟨gt,9,none⟩=some y:=⟨_,Ag c4 9 _ (Array.getElem?_eq_getElem (by have:=HS4.out;omega))⟩;obtain ⟨y4,n4⟩:∃ y,w4.cell? ⟨gt,10,none⟩=some y:=⟨_,Ag c4 10 _ (Array.getElem?_eq_getElem (by have:=HS4.out;omega))⟩;obtain ⟨y5,n5⟩:∃ y,w4.cell? ⟨gt,11,none⟩=some y:=⟨_,Ag c4 11 _ (Array.getElem?_eq_getElem (by have:=HS4.out;omega))⟩;have f0:=Am c4 6;have f1:=Am c4 7;have f2:=Am c4 8;have f3:=Am c4 9;have f4:=Am c4 10;have f5:=Am c4 11;have K4:=hid (K3.out.trans q4);clear c4 hv4 q4
   simp only [];go_wp2_with fail
   go_meet
   exact ((((((K4.out.setCell (p:=⟨gt,6,none⟩) GT.out _).setCell (p:=⟨gt,7,none⟩) GT.out _).setCell (p:=⟨gt,8,none⟩) GT.out _).setCell (p:=⟨gt,9,none⟩) GT.out _).setCell (p:=⟨gt,10,none⟩) GT.out _).setCell (p:=⟨gt,11,none⟩) GT.out _)
  ·go_meet
   exact K3.out
 have KC:=hid hcut;clear hcut ck CUR K3 HCS GT;replace K2:=hid (K2.out.trans KC.out);replace BW:=hid (Aj BW.out KC.out);replace HB:=hid (Aj HB.out KC.out);replace HK:=hid (Aj HK.out KC.out);replace HF:=hid (Aj HF.out KC.out);replace HX:=hid (Aj HX.out KC.out);replace HP:=hid (Aj HP.out KC.out);clear HTB KC;generalize w2.heap.size=h2' at *;have cx0:=Ag HX.out 0 _ rfl;go_upto_region 8 with fail;refine wp_loop_rounds 2 ?_;rw [rounds_succ];clear cx0;obtain ⟨g0,g1,g2,g3,g4,g5⟩:=HX6.out.kept K2.out;obtain ⟨V5,hV5,kV5,bV5⟩:=Ai7 wc (.bool zz1) (.slice A1 l1 q1) (.int .i64 zz2) (.bool zz3) (.slice A2 l2 q2) (.int .i64 zz4)
 have HV5:=hid hV5;have K5:=hid kV5;have B5:=hid bV5;clear hV5 kV5 bV5;go_upto_region 10 with fail;rw [←HV5.out];clear HV5 g0 g1 g2 g3 g4 g5;obtain ⟨-,m0,m1,m2,m3,m4,m5⟩:=B5.out.facts;have cp:=Ag (Aj HB.out K5.out) 0 _ rfl;go_wp2_with fail;refine (CR.out _ (K2.out.trans K5.out)).mono ?_;rintro e w6 ⟨q6,v6,rfl,hv6⟩;obtain ⟨P6,l6,d6,R6,i6,j6,rfl,-,-⟩:=Ar hv6;have SU:=hid (fun w1 (q:Kept w6 w1)=>Tf (o:=rr) (hv6.kept q));have K6:=hid (K5.out.trans q6);clear m0 m1 m2 m3 m4 m5 cp B5 K5 CR hv6 q6;simp only [];go_wp2_with fail;refine (SU.out _ (Below.refl _ _)).mono ?_;rintro e w7 ⟨q7,hq7⟩
 rcases hq7 with ⟨-,v7,rfl,hv7⟩ | ⟨h0,-⟩
 case inr=>exact absurd HR.out h0
 obtain ⟨P7,l7,d7,R7,i7,j7,rfl,-,-⟩:=Ar hv7;obtain ⟨w9,hw9⟩:∃ w9,w9=(w7.alloc (.cells #[.bool rr.v.raw.lo.neg,.slice P7 l7 d7,.int .i64 rr.v.raw.lo.e,.bool rr.v.raw.hi.neg,.slice R7 i7 j7,.int .i64 rr.v.raw.hi.e] 51)).alloc (.cells #[.slice (some ⟨w7.heap.size,0,none⟩) 1 1] 26):=⟨_,rfl⟩;have k9:Kept w7 w9:=by rw [hw9];exact (Ad _ _).trans (Ad _ _)
 have o9:OwnI w9 w7.heap.size (.slice (some ⟨w7.heap.size,0,none⟩) 1 1) [rr.v.raw] [.bool rr.v.raw.lo.neg,.slice P7 l7 d7,.int .i64 rr.v.raw.lo.e,.bool rr.v.raw.hi.neg,.slice R7 i7 j7,.int .i64 rr.v.raw.hi.e]:=by rw [hw9];exact (U0 hv7).kept (Ad _ _)
 have c9':w9.cell? ⟨w7.heap.size+1,0,none⟩=some (.slice (some ⟨w7.heap.size,0,none⟩) 1 1):=by
  have:=Ag (heap_alloc_new (w7.alloc (.cells #[.bool rr.v.raw.lo.neg,.slice P7 l7 d7,.int .i64 rr.v.raw.lo.e,.bool rr.v.raw.hi.neg,.slice R7 i7 j7,.int .i64 rr.v.raw.hi.e] 51)) (.cells #[.slice (some ⟨w7.heap.size,0,none⟩) 1 1] 26)) 0 _ rfl;rw [←hw9] at this;simpa using this
 have HW9:=hid hw9;have K9:=hid k9;have O9:=hid o9;have C9:=hid c9';have K7:=hid (K6.out.trans q7);have S9:=k9.size;clear hw9 k9 o9 c9' q7 SU K6 hv7;simp only []
 go_wp2_with (at_builtin;rw [←HW9.out];refine Hu rfl (.tmp 73) (.tmp 81) rfl rfl (OwnR.nil w9 w7.heap.size) O9.out.ivS C9.out rfl (by simp) S9 ?_;intro v' X OX gX)
 have k10:=(OwnR.nil w9 w9.heap.size).grown_kept (Below.refl _ _) gX;rcases OX.row.2 with ⟨-,h0⟩ | ⟨bo,co,curo,rfl,hbo,hob,hnco,-,-,htk⟩
 ·simp at h0
 have htk':curo[0]?=some (.slice (some ⟨w7.heap.size,0,none⟩) 1 1):=by
  have h:=congrArg (fun l=>l[0]?) htk;simp only [List.getElem?_take] at h;rw [←Array.getElem?_toList];simpa using h
 have K11:=hid (K9.out.trans k10);have HOB:=hid hob;have HTK:=hid htk';have OWN:=hid (O9.out.kept k10);have HBO:=hid hbo;have HNCO:=hid hnco;have KW:=hid (K2.out.trans K7.out);clear OX gX k10 hbo hob hnco htk htk' HW9 K9 O9 C9 S9;go_wp2_with fail;rw [rounds_succ];have ck:=Ag (Aj HK.out (K7.out.trans K11.out)) 0 _ rfl;replace BW:=hid (Aj BW.out K7.out);replace HF:=hid (Aj HF.out K7.out);replace HP:=hid (Aj HP.out K7.out);clear HK K7 K2 HB HX;go_wp2_with fail;clear ck
 go_loopw [85] (fun tn wr=>∃ (n:Nat) (c:List RawI) (xs:List Value) (vr:Value) (cr:Array Value),tn=.int .i64 n∧n≤k∧c.length=n+1∧Gd c∧Mc ov p ls outs time [] [c] (List.range' n (k-n))=⟨[c9],0⟩ ∧
  wr.heap[bo]?=some (.cells cr 26 (0,0))∧cr[0]?=some vr∧OwnI wr w7.heap.size vr c xs∧Kept w7 wr) (fun tn _=>(k-intOf tn).toNat)
 case atStart=>exact ⟨0,_,_,_,curo,rfl,Nat.zero_le _,rfl,gd_nil.snoc ROK.out,HST.out,HOB.out,HTK.out,OWN.out,K11.out⟩
 case round =>
  obtain ⟨n,c,xs,vr,cr,rfl,hnk,hcl,hgd,hsj,hob,hcr,hown,hkr⟩:=hrel;by_cases hlt:n<k
  ·obtain ⟨m,hm⟩:∃ m,k-n=m+1:=⟨k-n-1,by omega⟩;rw [hm] at hsj;obtain ⟨r,e1,e2,e3⟩:=Xr (by obtain ⟨z,hz⟩:=HO1.out;rw [hz];rfl) hsj;obtain ⟨od,hod⟩:∃ od,od=Fp (gI r n) (ptN (n+1)) p:=⟨_,rfl⟩;rw [←hod] at e2 e3;have hlin:=HL.out n c hlt hgd hcl;have hgr:=Xm hlin HOR.out (by rw [e1]);rw [e1] at hgr;obtain ⟨gr,lr⟩:=hgr r (by simp);obtain ⟨g0,cap0,xb,rfl,hcap,hg0,hxb⟩:=hown.first (by omega);rw [hcl] at hcap hown hcr;have hrw:Rws wr (.slice (some ⟨bo,0,none⟩) 1 co) [c]:=⟨_,co,rfl,HNCO.out,fun _=>⟨bo,0,rfl,fun i y hi=>by
    rcases i with _ | i
    ·obtain rfl:c=y:=by simpa using hi
     exact ⟨_,Ag hob 0 _ hcr,hown.ivS⟩
    ·simp at hi⟩⟩
   have CS:=hid (fun w1 (q:Kept wr w1)=>show Calls Tryz.prog 216 #[.agg #[.int .i64 (p:Int)],.agg #[s,.slice oA 1 oc],.slice (some ⟨gt,0,none⟩) (n+1) ct,.slice (some ⟨bo,0,none⟩) 1 co,.slice none 0 0,.int .i64 (n:Int)] w1 (L3 ⟨[r],0⟩ w1) by
    have h:=Ady (tm:=false) (ov:=ov) (vs:=.slice (some ⟨gt,0,none⟩) (n+1) ct) (vq:=.slice none 0 0) (t:=time.take (n+1)) (k:=n) (p:=p) (HV.out.kept (KW.out.trans (hkr.trans q))) (fun h=>by cases h) (hrw.kept q) (Tb _) hlin HOR.out hn (by obtain ⟨z,hz⟩:=HO1.out;rw [hz];simp) (by omega) (T.out.kept (KW.out.trans (hkr.trans q)));rwa [e1] at h)
   have CP:=hid (fun w1 (q:Kept w w1)=>show Calls Tryz.prog 214 #[.int .i64 ((n:Int)+1)] w1 (RetI (ptN (n+1)).raw w1) from PT.out w1 q (n+1) (by omega));have CD:=hid (fun w1 (q:Kept w w1) va vb (h1:IvR w1 va (gI r n).raw) (h2:IvR w1 vb (ptN (n+1)).raw)=>show Calls Tryz.prog 217 #[.agg #[.int .i64 (p:Int)],va,vb] w1 (Ti od w1) by
    rw [hod];exact Aiq OO.out h9 h1 h2 (Ag6 gr n) (Yx (Gh _ _ _).1) (T.out.kept q) p1 (by omega))
   have OD:=hid e2;have dok:od.v.Ok:=by rw [hod];exact (Ye (Yx (Gh _ _ _).1) p1).1
   have E3:=hid e3;have GC:=hid (hgd.snoc dok);have CLN:=hid hcl;have KR:=hid hkr;have HOB:=hid hob;have HCR:=hid hcr;have OWN:=hid hown;have HCAP:=hid hcap;have HG0:=hid hg0;have HM:=hid hm;have GR:=hid gr;have LR:=hid lr;have NB:=hid (Ac8 hob hcr hxb);have BWr:=hid (Aj BW.out hkr);have HFr:=hid (Aj HF.out hkr);have cp4:=Ag (Aj HP.out hkr) 0 _ rfl;have hnc:n+1≤ct:=by have:=HNC.out;omega
   have HLT:=hid hlt;have HWN:Hid (IntKind.i64.wrap ((n:Int)+1)=(n:Int)+1):=hid (by simp [IntKind.wrap_i64];omega);clear e1 e2 e3 hod hsj hgd hcl hob hcr hown hkr hlin gr lr hcap hg0 hxb hrw dok hm hlt HST;go_upto_region 17 with fail;refine wp_loop_rounds 1 ?_;rw [rounds_succ];clear cp4;go_wp2_with fail
   refine rgL 12 ([(vE (.agg #[.int .i64 (p:Int)])),(vE (.agg #[s,.slice oA 1 oc])),(vE (.slice (some ⟨gt,0,none⟩) (k+1) ct)),(vE (.int .i64 (n:Int))),(vE (.int .i64 ((n:Int)+1))),(vE (.slice (some ⟨gt,0,none⟩) (n+1) ct)),(vE (.slice (some ⟨bo,0,none⟩) 1 co)),(vE (.slice none 0 0)),(vE (.int .i64 (n:Int))),(fun v wv=>Rws wv v [r]),(vE (.int .i64 1)),(vE (.int .i64 0))])
    (hM:=⟨⟨mE,mE,mE,mE,mE,mE,mE,mE,mE,fun v w w' k h=>by first | exact h | exact h.kept k | exact ⟨h.1,h.2.kept k⟩,mE,mE,trivial⟩⟩) ⟨
      (gql 7 fun _ k=>Ai BWr.out k 0 _ rfl),(fun aF wF F=>by have s2:=F.q 2 (.pointer (some ⟨bF,0,none⟩));have c0:=Ai HFr.out F.kept 0 _ rfl;have c1:=Ai HFr.out F.kept 1 _ rfl;exact sv rfl),(gq 10),(gq 13),(fun aF wF F=>by have s104:=F.v 3 104;exact sw (by (have hw9:=HWN.out;go_simp)) rfl),(fun aF wF F=>by have s103:=F.v 2 103;have s105:=F.v 4 105;exact sw (by (go_simp;omega)) rfl),(gq 8),(gq 9),(gq 13),(fun aF wF F=>by have s101:=F.v 0 101;have s102:=F.v 1 102;have s106:=F.v 5 106;have s107:=F.v 6 107;have s108:=F.v 7 108;have s109:=F.v 8 109;exact Ia (by simp [Region.wanted]) (by go_simp) (CS.out _ F.kept) (fun e w2 h=>by obtain ⟨k9,h9⟩:=h;rcases h9 with ⟨-,v9,e9,r9,-⟩ | ⟨h9,-⟩;exact .inl ⟨v9,e9,k9,r9⟩;exact absurd rfl h9)),(fun aF wF F=>by have s110:=F.p 9 110;exact sw (by obtain ⟨A9,c9',e9,-⟩:=s110;go_simp) rfl),(fun aF wF F=>by exact sv rfl),
      trivial⟩ ?_
   intro u w11 k11 hu;have p110:=hp hu 9;simp only [Bl,Au,if_true,Act.put,zlA,zlB,zlC,zlD,zlE,zlF,zlG,hv hu 0,hv hu 1,hv hu 2,hv hu 3,hv hu 4,hv hu 5,hv hu 6,hv hu 7,hv hu 8,hv hu 10,hv hu 11];clear hu;generalize u 9=v110 at *;obtain ⟨b12,o12,c12,s12,rfl,-,cell12,hs12⟩:=p110.row (i:=0) (by simp);obtain ⟨br,orr,crr,rfl,-,hRG⟩:=(show IvS w11 s12 r from hs12).place GR.out (by have:=LR.out;omega);have RG:=hid hRG;have K11':=hid k11;have C12:=hid cell12;clear hs12 hRG cell12 p110 CS HFr;have NB7:b7∉[bo,g0]:=by
    have h7:=(Array.getElem?_eq_some_iff.1 BW.out).1;have:=HBO.out;have:=HG0.out;simp only [List.mem_cons,List.not_mem_nil,or_false];omega
   have XLE:∀ x∈[bo,g0],w7.heap.size≤x:=by
    intro x hx;simp only [List.mem_cons,List.not_mem_nil,or_false] at hx;have:=HBO.out;have:=HG0.out;omega
   have KW11:=hid (KW.out.trans (KR.out.trans K11'.out));have XLE':=hid (fun x (hx:x∈[bo,g0])=>Nat.le_trans KW.out.size (XLE x hx));have hc12:=C12.out;simp only [Nat.add_zero] at hc12;have hcn:c.length≤1000∧0<c.length:=by have:=CLN.out;have:=HLT.out;omega
   have HCN:=hid hcn;have LRN:=hid (show n<r.length by have:=LR.out;omega);have SZ11:=hid (show w7.heap.size≤w11.heap.size from (KR.out.trans K11'.out).size);have HB11:=hid (Aj HOB.out K11'.out);have BW11:=hid (Aj BWr.out K11'.out);have OW11:=hid (OWN.out.kept K11'.out);clear C12 hcn;go_upto_region 22 with fail;refine wp_loop_rounds 2 ?_;rw [rounds_succ];go_wp2_with fail;clear hc12
   refine Oc (m:=19) (J:=fun L w=>KB w11 [bo,g0] w∧(fun L w'=>SolJ w7.heap.size bo (.slice (some ⟨g0,0,none⟩) (n+1) cap0) c xs cr od.v.raw (L 5) (L 16) (L 18) w'∧RowJ br (orr+n*6) (gI r n).raw (L 10) (L 14) (L 16) w') L w) (l:=[(vE (.slice (some ⟨bo,0,none⟩) 1 co)),(vE (.int .i64 0)),(vE (.slice (some ⟨bo,0,none⟩) 1 co)),(vE (.int .i64 0)),(vP bo 0),(vE (.slice (some ⟨g0,0,none⟩) (n+1) cap0)),(vE (.agg #[.int .i64 (p:Int)])),(vE (.slice (some ⟨br,orr,none⟩) r.length crr)),(vE (.int .i64 (n:Int))),(vE (.pointer (some ⟨br,orr+n*6,none⟩))),(fun v wv=>IvR wv v ((gI r n).raw)),(vE (.int .i64 (n:Int))),(vE (.int .i64 ((n:Int)+1))),(fun v wv=>IvR wv v ((ptN (n+1)).raw)),(fun v wv=>od.k=0∧IvR wv v od.v.raw),(fun v wv=>OneI wv v od.v.raw),(fun v wv=>∃ xs',OwnI wv w7.heap.size v (c++[od.v.raw]) xs'),(vP bo 0),(fun v _=>True)])
    (by kernel_rfl) rfl (by kernel_rfl) (by kernel_rfl) (by kernel_rfl) ⟨mE,mE,mE,mE,mE,mE,mE,mE,mE,mE,fun v w w' k h=>by first | exact h | exact h.kept k | exact ⟨h.1,h.2.kept k⟩,mE,mE,fun v w w' k h=>by first | exact h | exact h.kept k | exact ⟨h.1,h.2.kept k⟩,fun v w w' k h=>⟨h.1,h.2.kept k⟩,fun v w w' k h=>h.kept k,fun v w w' k h=>h.imp fun _ h=>h.kept k,mE,fun v w w' k h=>by first | exact h | exact h.kept k | exact ⟨h.1,h.2.kept k⟩,trivial⟩ ⟨(KB.refl _ _).drew,(by exact ⟨⟨fun _=>OW11.out.kept (Below.refl _ _).drew,fun _=>HB11.out,fun h=>(by cases h)⟩,⟨fun _=>(RG.out _ (Below.refl _ _) n LRN.out).kept (Below.refl _ _).drew,fun h=>(by cases h),fun h=>(by cases h)⟩⟩)⟩ (⟨
      (fun LF aF wF F=>by have FK:KB w11 [bo,g0] wF:=F.frame.1;have fj:=F.frame.2;refine .inl ⟨fun wq kq=>⟨FK.step kq,by first | exact ⟨SolJ.kept kq fj.1,RowJ.kept kq fj.2⟩ | exact ⟨SolJ.seen kq fj.1,RowJ.kept kq fj.2⟩ | exact ⟨SolJ.kept kq fj.1,RowJ.seen kq fj.2⟩ | exact ⟨SolJ.kept kq fj.1,RowJ.also kq fj.2 (F.wait 10 (by kernel_rfl))⟩⟩,?_⟩;have s8:=F.q 8 (.slice (some ⟨bo,0,none⟩) 1 co);exact sv rfl),(fun LF aF wF F=>by have FK:KB w11 [bo,g0] wF:=F.frame.1;have fj:=F.frame.2;refine .inl ⟨fun wq kq=>⟨FK.step kq,by first | exact ⟨SolJ.kept kq fj.1,RowJ.kept kq fj.2⟩ | exact ⟨SolJ.seen kq fj.1,RowJ.kept kq fj.2⟩ | exact ⟨SolJ.kept kq fj.1,RowJ.seen kq fj.2⟩ | exact ⟨SolJ.kept kq fj.1,RowJ.also kq fj.2 (F.wait 10 (by kernel_rfl))⟩⟩,?_⟩;have s16:=F.q 16 (.int .i64 0);exact sv rfl),(fun LF aF wF F=>by have FK:KB w11 [bo,g0] wF:=F.frame.1;have fj:=F.frame.2;refine .inl ⟨fun wq kq=>⟨FK.step kq,by first | exact ⟨SolJ.kept kq fj.1,RowJ.kept kq fj.2⟩ | exact ⟨SolJ.seen kq fj.1,RowJ.kept kq fj.2⟩ | exact ⟨SolJ.kept kq fj.1,RowJ.seen kq fj.2⟩ | exact ⟨SolJ.kept kq fj.1,RowJ.also kq fj.2 (F.wait 10 (by kernel_rfl))⟩⟩,?_⟩;have s8:=F.q 8 (.slice (some ⟨bo,0,none⟩) 1 co);exact sv rfl),(fun LF aF wF F=>by have FK:KB w11 [bo,g0] wF:=F.frame.1;have fj:=F.frame.2;refine .inl ⟨fun wq kq=>⟨FK.step kq,by first | exact ⟨SolJ.kept kq fj.1,RowJ.kept kq fj.2⟩ | exact ⟨SolJ.seen kq fj.1,RowJ.kept kq fj.2⟩ | exact ⟨SolJ.kept kq fj.1,RowJ.seen kq fj.2⟩ | exact ⟨SolJ.kept kq fj.1,RowJ.also kq fj.2 (F.wait 10 (by kernel_rfl))⟩⟩,?_⟩;have s16:=F.q 16 (.int .i64 0);exact sv rfl),(fun LF aF wF F=>by have FK:KB w11 [bo,g0] wF:=F.frame.1;have fj:=F.frame.2;refine .inl ⟨fun wq kq=>⟨FK.step kq,by first | exact ⟨SolJ.kept kq fj.1,RowJ.kept kq fj.2⟩ | exact ⟨SolJ.seen kq fj.1,RowJ.kept kq fj.2⟩ | exact ⟨SolJ.kept kq fj.1,RowJ.seen kq fj.2⟩ | exact ⟨SolJ.kept kq fj.1,RowJ.also kq fj.2 (F.wait 10 (by kernel_rfl))⟩⟩,?_⟩;have s119:=F.v 2 119;have s120:=F.v 3 120;exact sv rfl),(fun LF aF wF F=>by have FK:KB w11 [bo,g0] wF:=F.frame.1;have fj:=F.frame.2;refine .inl ⟨fun wq kq=>⟨FK.step kq,by first | exact ⟨SolJ.kept kq fj.1,RowJ.kept kq fj.2⟩ | exact ⟨SolJ.seen kq fj.1,RowJ.kept kq fj.2⟩ | exact ⟨SolJ.kept kq fj.1,RowJ.seen kq fj.2⟩ | exact ⟨SolJ.kept kq fj.1,RowJ.also kq fj.2 (F.wait 10 (by kernel_rfl))⟩⟩,?_⟩;have s121:=F.v 4 121;exact sw (by (have hb:=fj.1.box (.inl F.yet);have c0:=Ag hb 0 _ HCR.out;go_simp)) rfl),(fun LF aF wF F=>by have FK:KB w11 [bo,g0] wF:=F.frame.1;have fj:=F.frame.2;refine .inl ⟨fun wq kq=>⟨FK.step kq,by first | exact ⟨SolJ.kept kq fj.1,RowJ.kept kq fj.2⟩ | exact ⟨SolJ.seen kq fj.1,RowJ.kept kq fj.2⟩ | exact ⟨SolJ.kept kq fj.1,RowJ.seen kq fj.2⟩ | exact ⟨SolJ.kept kq fj.1,RowJ.also kq fj.2 (F.wait 10 (by kernel_rfl))⟩⟩,?_⟩;have s7:=F.q 7 (.pointer (some ⟨b7,0,none⟩));have c0:=Cn BW11.out FK NB7 0 _ rfl;exact sv rfl),(fun LF aF wF F=>by have FK:KB w11 [bo,g0] wF:=F.frame.1;have fj:=F.frame.2;refine .inl ⟨fun wq kq=>⟨FK.step kq,by first | exact ⟨SolJ.kept kq fj.1,RowJ.kept kq fj.2⟩ | exact ⟨SolJ.seen kq fj.1,RowJ.kept kq fj.2⟩ | exact ⟨SolJ.kept kq fj.1,RowJ.seen kq fj.2⟩ | exact ⟨SolJ.kept kq fj.1,RowJ.also kq fj.2 (F.wait 10 (by kernel_rfl))⟩⟩,?_⟩;have s17:=F.q 17 (.slice (some ⟨br,orr,none⟩) r.length crr);exact sv rfl),(fun LF aF wF F=>by have FK:KB w11 [bo,g0] wF:=F.frame.1;have fj:=F.frame.2;refine .inl ⟨fun wq kq=>⟨FK.step kq,by first | exact ⟨SolJ.kept kq fj.1,RowJ.kept kq fj.2⟩ | exact ⟨SolJ.seen kq fj.1,RowJ.kept kq fj.2⟩ | exact ⟨SolJ.kept kq fj.1,RowJ.seen kq fj.2⟩ | exact ⟨SolJ.kept kq fj.1,RowJ.also kq fj.2 (F.wait 10 (by kernel_rfl))⟩⟩,?_⟩;have s13:=F.q 13 (.int .i64 (n:Int));exact sv rfl),(fun LF aF wF F=>by have FK:KB w11 [bo,g0] wF:=F.frame.1;have fj:=F.frame.2;refine .inl ⟨fun wq kq=>⟨FK.step kq,by first | exact ⟨SolJ.kept kq fj.1,RowJ.kept kq fj.2⟩ | exact ⟨SolJ.seen kq fj.1,RowJ.kept kq fj.2⟩ | exact ⟨SolJ.kept kq fj.1,RowJ.seen kq fj.2⟩ | exact ⟨SolJ.kept kq fj.1,RowJ.also kq fj.2 (F.wait 10 (by kernel_rfl))⟩⟩,?_⟩;have s124:=F.v 7 124;have s125:=F.v 8 125;exact sw (by (have hln:=LRN.out;go_simp)) rfl),(fun LF aF wF F=>by have FK:KB w11 [bo,g0] wF:=F.frame.1;have fj:=F.frame.2;refine .inl ⟨fun wq kq=>⟨FK.step kq,by first | exact ⟨SolJ.kept kq fj.1,RowJ.kept kq fj.2⟩ | exact ⟨SolJ.seen kq fj.1,RowJ.kept kq fj.2⟩ | exact ⟨SolJ.kept kq fj.1,RowJ.seen kq fj.2⟩ | exact ⟨SolJ.kept kq fj.1,RowJ.also kq fj.2 (F.wait 10 (by kernel_rfl))⟩⟩,?_⟩;have s126:=F.v 9 126;obtain ⟨xx,yy,zz,xx',yy',zz',h0,h1,h2,h3,h4,h5,hI⟩:=(fj.2.1 F.yet);exact sv hI),(fun LF aF wF F=>by have FK:KB w11 [bo,g0] wF:=F.frame.1;have fj:=F.frame.2;refine .inl ⟨fun wq kq=>⟨FK.step kq,by first | exact ⟨SolJ.kept kq fj.1,RowJ.kept kq fj.2⟩ | exact ⟨SolJ.seen kq fj.1,RowJ.kept kq fj.2⟩ | exact ⟨SolJ.kept kq fj.1,RowJ.seen kq fj.2⟩ | exact ⟨SolJ.kept kq fj.1,RowJ.also kq fj.2 (F.wait 10 (by kernel_rfl))⟩⟩,?_⟩;have s13:=F.q 13 (.int .i64 (n:Int));exact sv rfl),(fun LF aF wF F=>by have FK:KB w11 [bo,g0] wF:=F.frame.1;have fj:=F.frame.2;refine .inl ⟨fun wq kq=>⟨FK.step kq,by first | exact ⟨SolJ.kept kq fj.1,RowJ.kept kq fj.2⟩ | exact ⟨SolJ.seen kq fj.1,RowJ.kept kq fj.2⟩ | exact ⟨SolJ.kept kq fj.1,RowJ.seen kq fj.2⟩ | exact ⟨SolJ.kept kq fj.1,RowJ.also kq fj.2 (F.wait 10 (by kernel_rfl))⟩⟩,?_⟩;have s128:=F.v 11 128;exact sw (by (have hw9:=HWN.out;go_simp)) rfl),(fun LF aF wF F=>by have FK:KB w11 [bo,g0] wF:=F.frame.1;have fj:=F.frame.2;refine .inl ⟨fun wq kq=>⟨FK.step kq,by first | exact ⟨SolJ.kept kq fj.1,RowJ.kept kq fj.2⟩ | exact ⟨SolJ.seen kq fj.1,RowJ.kept kq fj.2⟩ | exact ⟨SolJ.kept kq fj.1,RowJ.seen kq fj.2⟩ | exact ⟨SolJ.kept kq fj.1,RowJ.also kq fj.2 (F.wait 10 (by kernel_rfl))⟩⟩,?_⟩;have s129:=F.v 12 129;exact sI (CP.out _ (KB.kept KW11.out FK XLE'.out)) fun _ _ h=>h),(fun LF aF wF F=>by have FK:KB w11 [bo,g0] wF:=F.frame.1;have fj:=F.frame.2;refine .inl ⟨fun wq kq=>⟨FK.step kq,by first | exact ⟨SolJ.kept kq fj.1,RowJ.kept kq fj.2⟩ | exact ⟨SolJ.seen kq fj.1,RowJ.kept kq fj.2⟩ | exact ⟨SolJ.kept kq fj.1,RowJ.seen kq fj.2⟩ | exact ⟨SolJ.kept kq fj.1,RowJ.also kq fj.2 (F.wait 10 (by kernel_rfl))⟩⟩,?_⟩;have s123:=F.v 6 123;have s127:=F.p 10 127;have s130:=F.p 13 130;exact sJ (CD.out _ (KB.kept KW11.out FK XLE'.out) _ _ s127 s130) (fun _ _ _ h0 h=>⟨h0,h⟩) (fun w2 k2 h0=>⟨F.defers,absurd OD.out h0⟩)),(fun LF aF wF F=>by have FK:KB w11 [bo,g0] wF:=F.frame.1;have fj:=F.frame.2;refine .inl ⟨fun wq kq=>⟨FK.step kq,by first | exact ⟨SolJ.kept kq fj.1,RowJ.kept kq fj.2⟩ | exact ⟨SolJ.seen kq fj.1,RowJ.kept kq fj.2⟩ | exact ⟨SolJ.kept kq fj.1,RowJ.seen kq fj.2⟩ | exact ⟨SolJ.kept kq fj.1,RowJ.also kq fj.2 (F.wait 10 (by kernel_rfl))⟩⟩,?_⟩;have s131:=F.p 14 131;obtain ⟨A1,l1,d1,A2,l2,d2,e9,h9',g9⟩:=Ar s131.2;simp only [Array.getD_eq_getD_getElem?] at e9;exact sNa (Uy (r:=od.v.raw) ⟨_,_,_,_,_,_,rfl,h9',g9⟩)),(fun LF aF wF F=>by have FK:KB w11 [bo,g0] wF:=F.frame.1;have fj:=F.frame.2;refine .inr ?_;have s122:=F.v 5 122;have s132:=F.p 15 132;obtain ⟨b3,y0,y1,y2,y3,y4,y5,e3,hb3,hd3⟩:=s132;have how:=fj.1.1 F.yet;obtain ⟨v',w',hrr,hoo,hgg,hsm,hhd,hss⟩:=Aa6 26 how HCN.out.2 HCN.out.1 (Nat.le_trans SZ11.out FK.size) hb3 hd3;exact Rv (by simp [Region.wanted]) (Ra (.tmp 122) (.tmp 132) _ rfl s122 e3 hrr) ⟨FK.grown hgg (fun g hg'=>.inl (by cases hg';simp)) how.blk,SolJ.did fj.1 F.yet hgg NB.out,RowJ.done (fj.2.2.1 (F.wait 14 (by kernel_rfl)))⟩ (Oz _ ⟨.inr vS,.inr vS,.inr vS,.inr vS,.inr vS,.inr vS,.inr vS,.inr vS,.inr vS,.inr vS,.inr (fun u h=>by first | exact h.grown hgg how.blk | exact ⟨h.1,h.2.grown hgg how.blk⟩ | exact OneI.app h hgg how.blk hsm),.inr vS,.inr vS,.inr (fun u h=>by first | exact h.grown hgg how.blk | exact ⟨h.1,h.2.grown hgg how.blk⟩ | exact OneI.app h hgg how.blk hsm),.inr (fun u h=>by first | exact h.grown hgg how.blk | exact ⟨h.1,h.2.grown hgg how.blk⟩ | exact OneI.app h hgg how.blk hsm),.inr (fun u h=>by first | exact h.grown hgg how.blk | exact ⟨h.1,h.2.grown hgg how.blk⟩ | exact OneI.app h hgg how.blk hsm),.inl rfl,.inr vS,.inr (fun u h=>h),trivial⟩) ⟨_,hoo⟩),(fun LF aF wF F=>by have FK:KB w11 [bo,g0] wF:=F.frame.1;have fj:=F.frame.2;refine .inl ⟨fun wq kq=>⟨FK.step kq,by first | exact ⟨SolJ.kept kq fj.1,RowJ.kept kq fj.2⟩ | exact ⟨SolJ.seen kq fj.1,RowJ.kept kq fj.2⟩ | exact ⟨SolJ.kept kq fj.1,RowJ.seen kq fj.2⟩ | exact ⟨SolJ.kept kq fj.1,RowJ.also kq fj.2 (F.wait 10 (by kernel_rfl))⟩⟩,?_⟩;have s117:=F.v 0 117;have s118:=F.v 1 118;exact sv rfl),(fun LF aF wF F=>by have FK:KB w11 [bo,g0] wF:=F.frame.1;have fj:=F.frame.2;refine .inr ?_;have s133:=F.p 16 133;have s134:=F.v 17 134;obtain ⟨xs',ho8⟩:=s133;obtain ⟨g8,c8,x8,e8,-,-,-⟩:=ho8.first (by simp);rw [e8] at ho8;simp only [Array.getD_eq_getD_getElem?] at e8;have hb:=fj.1.box (.inr (.inr F.yet));have cb:=Ag hb 0 _ HCR.out;have fb:=Am hb 0;exact Oe (w':=wF.setCell ⟨bo,0,none⟩ (.slice (some ⟨g8,0,none⟩) (c++[od.v.raw]).length c8)) (by simp [Region.wanted]) (by go_simp) ⟨FK.trans (Jl hb HCR.out _) (by simp),SolJ.laid fj.1 (F.wait 5 (by kernel_rfl)) (F.wait 16 (by kernel_rfl)) hb HCR.out ho8,RowJ.done (fj.2.2.2 (F.wait 16 (by kernel_rfl)))⟩ (Oz _ ⟨.inr vS,.inr vS,.inr vS,.inr vS,.inr vS,.inr vS,.inr vS,.inr vS,.inr vS,.inr vS,.inr (fun u h=>by first | exact h.kb (Jl hb HCR.out _) | exact ⟨h.1,h.2.kb (Jl hb HCR.out _)⟩ | exact OneI.setb h hb HCR.out _ | exact h.imp fun _ h=>OwnI.setb h (by simp) hb HCR.out _),.inr vS,.inr vS,.inr (fun u h=>by first | exact h.kb (Jl hb HCR.out _) | exact ⟨h.1,h.2.kb (Jl hb HCR.out _)⟩ | exact OneI.setb h hb HCR.out _ | exact h.imp fun _ h=>OwnI.setb h (by simp) hb HCR.out _),.inr (fun u h=>by first | exact h.kb (Jl hb HCR.out _) | exact ⟨h.1,h.2.kb (Jl hb HCR.out _)⟩ | exact OneI.setb h hb HCR.out _ | exact h.imp fun _ h=>OwnI.setb h (by simp) hb HCR.out _),.inr (fun u h=>by first | exact h.kb (Jl hb HCR.out _) | exact ⟨h.1,h.2.kb (Jl hb HCR.out _)⟩ | exact OneI.setb h hb HCR.out _ | exact h.imp fun _ h=>OwnI.setb h (by simp) hb HCR.out _),.inr (fun u h=>by first | exact h.kb (Jl hb HCR.out _) | exact ⟨h.1,h.2.kb (Jl hb HCR.out _)⟩ | exact OneI.setb h hb HCR.out _ | exact h.imp fun _ h=>OwnI.setb h (by simp) hb HCR.out _),.inr vS,.inl rfl,trivial⟩) trivial),
      trivial⟩) ?_
   intro u w12 L1 hL j1 hu;obtain ⟨q12,j1⟩:=j1;have p127:=hp hu 10;have p130:=hp hu 13;have p131:=hp hu 14;have p132:=hp hu 15;have p133:=hp hu 16;simp only [Bl,Au,if_true,Act.put,zlA,zlB,zlC,zlD,zlE,zlF,zlG,hv hu 0,hv hu 1,hv hu 2,hv hu 3,hv hu 4,hv hu 5,hv hu 6,hv hu 7,hv hu 8,hv hu 9,hv hu 11,hv hu 12,hv hu 17];clear hu;generalize u 10=v127,u 13=v130,u 14=v131,u 15=v132,u 16=v133 at *;obtain ⟨hl5,hl16,v9,xs9,hob9,hown9⟩:=j1.1.2.2 (hL 18 (by decide));have K12:=hid (KB.kept (KR.out.trans K11'.out) q12 XLE);have HOB9:=hid hob9;have OWN9:=hid hown9;clear hob9 hown9 j1 q12 p127 p130 p131 p132 p133 CP CD
   go_wp2_with fail;rw [rounds_succ];go_wp2_with fail;go_roundw
   case rel =>
    (repeat apply Exists.intro)
    refine ⟨?_,rfl⟩;refine ⟨n+1,c++[od.v.raw],xs9,v9,_,by go_num,HLT.out,by simp [CLN.out],GC.out,?_,HOB9.out,?_,OWN9.out,K12.out⟩
    ·rw [show k-(n+1)=m by have:=HM.out;omega];exact E3.out
    ·obtain ⟨h0,-⟩:=Array.getElem?_eq_some_iff.1 HCR.out;simp [h0]
   case measure=>simp [intOf];have:=HLT.out;omega
  ·obtain rfl:n=k:=by omega
   rw [Nat.sub_self] at hsj;obtain rfl:c=c9:=by
    have h:(⟨[c],0⟩:Outc (List (List RawI)))=⟨[c9],0⟩:=hsj;injection h with h
    injection h
   have hrw:Rws wr (.slice (some ⟨bo,0,none⟩) 1 co) [c]:=⟨_,co,rfl,HNCO.out,fun _=>⟨bo,0,rfl,fun i y hi=>by
    rcases i with _ | i
    ·obtain rfl:c=y:=by simpa using hi
     exact ⟨_,Ag hob 0 _ hcr,hown.ivS⟩
    ·simp at hi⟩⟩
   have FI:=hid (show L3 ⟨[c],0⟩ w (.returned (.slice (some ⟨bo,0,none⟩) 1 co)) wr from ⟨KW.out.trans hkr,.inl ⟨rfl,_,rfl,hrw,fun g hg=>by
    obtain rfl:bo=g:=by simpa [Value.ownBlock] using hg
    exact Nat.le_trans KW.out.size HBO.out⟩⟩)
   clear hrw hob hcr hown hkr hsj;go_wp2_with fail;go_ret;exact FI.out
structure SvB (W:World) (H:Nat) (s o y0 y1 y2 y3 y4 y5 vx vp:Value) (k b:Int):Prop where
 f:W.heap[H]?=some (.cells #[s,o] 25 (0,0))
 t:BlkI W (H+1) y0 y1 y2 y3 y4 y5
 x:W.heap[H+1+1]?=some (.cells #[vx] 26 (0,0))
 p:W.heap[H+1+1+1]?=some (.cells #[vp] 26 (0,0))
 k:W.heap[H+1+1+1+1]?=some (.cells #[.int .i64 k] 3 (0,0))
 b:W.heap[H+1+1+1+1+1]?=some (.cells #[.int .i64 b] 3 (0,0))
theorem SvB.kept {W W':World}{H:Nat}{s o y0 y1 y2 y3 y4 y5 vx vp:Value}{k b:Int}(h:SvB W H s o y0 y1 y2 y3 y4 y5 vx vp k b)(q:Kept W W'):SvB W' H s o y0 y1 y2 y3 y4 y5 vx vp k b :=
 ⟨Aj h.f q,h.t.kept q,Aj h.x q,Aj h.p q,Aj h.k q,Aj h.b q⟩
theorem Ag0 (w:World)(o0 o1 o2 o3 o4 o5:Array Value)(T0 T1 T2 T3 T4 T5:TypeId):∃ W,W=(((((w.alloc (.cells o0 T0)).alloc (.cells o1 T1)).alloc (.cells o2 T2)).alloc (.cells o3 T3)).alloc (.cells o4 T4)).alloc (.cells o5 T5)∧Kept w W ∧
 W.heap[w.heap.size]?=some (.cells o0 T0 (0,0))∧W.heap[w.heap.size+1]?=some (.cells o1 T1 (0,0))∧W.heap[w.heap.size+1+1]?=some (.cells o2 T2 (0,0))∧W.heap[w.heap.size+1+1+1]?=some (.cells o3 T3 (0,0)) ∧
 W.heap[w.heap.size+1+1+1+1]?=some (.cells o4 T4 (0,0))∧W.heap[w.heap.size+1+1+1+1+1]?=some (.cells o5 T5 (0,0)):=by
 have st:∀ (v:World) (n:Nat) (c:Array Value) (T:TypeId),v.heap.size=n→(v.alloc (.cells c T)).heap[n]?=some (.cells c T (0,0))∧(v.alloc (.cells c T)).heap.size=n+1∧Kept v (v.alloc (.cells c T)):=by
  intro v n c T h;subst h;exact ⟨heap_alloc_new _ _,by simp,Ad _ _⟩
 obtain ⟨p1,q1,k1⟩:=st w _ o0 T0 rfl;obtain ⟨p2,q2,k2⟩:=st _ _ o1 T1 q1;obtain ⟨p3,q3,k3⟩:=st _ _ o2 T2 q2;obtain ⟨p4,q4,k4⟩:=st _ _ o3 T3 q3;obtain ⟨p5,q5,k5⟩:=st _ _ o4 T4 q4;obtain ⟨p6,q6,k6⟩:=st _ _ o5 T5 q5;exact ⟨_,rfl,((((k1.trans k2).trans k3).trans k4).trans k5).trans k6,Aj p1 ((((k2.trans k3).trans k4).trans k5).trans k6),Aj p2 (((k3.trans k4).trans k5).trans k6),Aj p3 ((k4.trans k5).trans k6),Aj p4 (k5.trans k6),Aj p5 k6,p6⟩
theorem Xp {w:World}{A B A1 A2 AX AP:Option Addr}{l c m d l1 d1 l2 d2 nx cx np cp:Nat}{n1 n2:Bool}{e1 e2 k b:Int}{O:Outc (List (List RawI))}(hz:O.k≠0→O.v=[])
 (h:∀ w1,Kept w w1→SvB w1 w.heap.size (.slice A l c) (.slice B m d) (.bool n1) (.slice A1 l1 d1) (.int .i64 e1) (.bool n2) (.slice A2 l2 d2) (.int .i64 e2) (.slice AX nx cx) (.slice AP np cp) k b →
   Calls Tryz.prog 208 #[.pointer (some ⟨w.heap.size+1+1+1+1+1,0,none⟩),.pointer (some ⟨w.heap.size+1+1+1+1,0,none⟩),.pointer (some ⟨w.heap.size,0,none⟩),.pointer (some ⟨w.heap.size+1+1,0,none⟩),.pointer (some ⟨w.heap.size+1+1+1,0,none⟩),.pointer (some ⟨w.heap.size+1,0,none⟩)] w1 (L3 O w1)) :
 Calls Tryz.prog 191 #[.agg #[.slice A l c,.slice B m d],.agg #[.bool n1,.slice A1 l1 d1,.int .i64 e1,.bool n2,.slice A2 l2 d2,.int .i64 e2],.slice AX nx cx,.slice AP np cp,.int .i64 k,.int .i64 b] w (O6 O w):=by
 have hmf:=Es;obtain ⟨W,hW,kW,b0,b1,b2,b3,b4,b5⟩:=Ag0 w #[.slice A l c,.slice B m d] #[.bool n1,.slice A1 l1 d1,.int .i64 e1,.bool n2,.slice A2 l2 d2,.int .i64 e2] #[.slice AX nx cx] #[.slice AP np cp] #[.int .i64 k] #[.int .i64 b] 25 51 26 26 3 3;have hf:=Aff (w:=W) (K:=208) (o:=O) (fun w1 q=>h w1 (kW.trans q) (SvB.kept ⟨b0,b1,b2,b3,b4,b5⟩ q)) hz (fun _=>rfl);have HF:=hid hf;have HW:=hid hW;have HK:=hid kW;clear hf hW kW b0 b1 b2 b3 b4 b5 h hz;go_enter Tryz.func191,Tryz.ntmps191
 go_wp2_with (go_at_call 207;rw [←HW.out];refine HF.out.mono ?_;rintro e w1 ⟨q,u,rfl,hd⟩;have HD:=hid hd;have HQ:=hid q;clear q hd HF HW;simp only [])
 go_ret2
 exact ⟨HK.out.trans HQ.out,_,rfl,HD.out⟩
theorem Aft {w:World}{vl vall vt vx vq:Value}{l:Ln}{k p:Nat}(hop:l.op=1)(hv:LnR w vl l)(gl:l.k.iv.Ok∧l.k.iv.raw=l.k)(hk:k≤900)(hT:Tab w)(p1:1≤p)(p2:p≤300) :
 Calls Tryz.prog 234 #[.agg #[.int .i64 p],vl,vall,vt,vx,vq,.int .i64 k] w (Xx (Hv p (Dj l.k k) [] (List.range' 0 (k+1))) w):=by
 obtain ⟨x,y,z,x',y',z',rfl,hK⟩:=hv;obtain ⟨A1,l1,q1,A2,l2,q2,ei,-,-⟩:=Ar hK;injection ei with ei;injection ei with ei
 simp only [List.cons.injEq,and_true] at ei;obtain ⟨rfl,rfl,rfl,rfl,rfl,rfl⟩:=ei;rw [hop];have gg:=Q8 gl k;have na:k<(Dj l.k k).length:=by simp [Dj]
 have la:(Dj l.k k).length≤1000:=by simp [Dj];omega
 have CI:=hid (fun (w':World) (v':Value) (base:Nat) (q:Kept w w') (OW:w'.ownsRow base 51 6 v' (1+k) ([.bool l.k.lo.neg,.slice A1 l1 q1,.int .i64 l.k.lo.e,.bool l.k.hi.neg,.slice A2 l2 q2,.int .i64 l.k.hi.e]++(Builtin.zeroCells zc6 k).toList))=>Q9 OW (hK.kept q));have CR:=hid (fun w1 (q:Kept w w1) n v (hn:n≤k) (hv:IvR w1 v (gI (Dj l.k k) n).raw)=>Ii (p:=p) hv (Ab7 gg (by omega)).1 (hT.kept q) p1 (by omega));obtain ⟨W,hW,kW,bW,bL⟩:=Aja w p (.int .i64 1) (.int .i64 l.a) (.int .i64 l.b) (.bool l.k.lo.neg) (.slice A1 l1 q1) (.int .i64 l.k.lo.e) (.bool l.k.hi.neg) (.slice A2 l2 q2) (.int .i64 l.k.hi.e)
 have HW:=hid hW;have K:=hid kW;have HP:=hid bW;obtain ⟨c0,c1,c2,c3,c4,c5,c6,c7,c8⟩:=Cf bL;have HOW:=hid (U0 (hK.kept kW));have GG:=hid gg;generalize Dj l.k k=g at *;obtain ⟨r,er⟩:∃ r,r=Hv p g [] (List.range' 0 (k+1)):=⟨_,rfl⟩;have ER:=hid er;rw [←er];generalize l.a=la' at *;generalize l.b=lb' at *;generalize l.k.lo.neg=n1 at *;generalize l.k.lo.e=e1 at *;generalize l.k.hi.neg=n2 at *;generalize l.k.hi.e=e2 at *;have hk9:k<1000:=by omega
 clear hW kW bW bL hT p1 p2 hK er hop gl gg;go_enter Tryz.func234,Tryz.ntmps234;go_wp2_with fail;rw [←HW.out];clear HW;go_step3
 go_wp2_with (at_builtin;refine Kc rfl (.tmp 24) (.tmp 25) rfl rfl HOW.out.row rfl (by simp;omega) (by simp) ?_;intro v' W1 OW gW)
 have kk:Kept W W1:=Below.grown (Ad W _) gW (by simp) (fun g hg=>Nat.le_of_eq (Option.some.inj hg));have hIv:=CI.out W1 v' _ (K.out.trans kk) OW;obtain ⟨bG,oG,cG,rfl,-,hRG⟩:=hIv.place GG.out (by omega);have RG:=hid (fun w1 (q:Kept W1 w1) j (hj:j≤k)=>hRG w1 q j (by omega));replace HP:=hid (Aj HP.out kk);replace K:=hid (K.out.trans kk);clear hRG hIv kk OW gW CI HOW c0 c1 c2 c3 c4 c5 c6 c7 c8;go_step3;go_wp2_with fail
 go_loopw [15,17] (fun vc t wr=>∃ (j:Nat) (c:List RawI) (xs:List Value),t=.int .i64 (j:Int)∧j≤k+1∧c.length=j∧Hv p g c (List.range' j (k+1-j))=r∧OwnI wr W1.heap.size vc c xs∧Kept W1 wr) (fun _ t _=>(k+1-intOf t).toNat)
 case atStart=>exact ⟨0,[],[],rfl,Nat.zero_le _,rfl,ER.out.symm,OwnI.nil _ _,Below.refl _ _⟩
 case round =>
  obtain ⟨j,c,xs,rfl,hj,hcl,hco,hown,hkr⟩:=hrel;have HCL:=hid hcl;have HCO:=hid hco;have OWN:=hid hown;have KR:=hid hkr;clear hcl hco hown hkr;by_cases hjk:j≤k
  ·obtain ⟨o,ho⟩:∃ o,o=De (gI g j) p:=⟨_,rfl⟩;have hsn:=Wf p g c j (k+1-j) (by omega);rw [HCO.out,←ho] at hsn;have hbad:o.k≠0→r=⟨[],o.k⟩:=fun h=>by rw [hsn,if_neg h]
   have hgo:o.k=0→Hv p g (c++[o.v.raw]) (List.range' (j+1) (k+1-(j+1)))=r:=fun h=>by rw [hsn,if_pos h,show k+1-(j+1)=k+1-j-1 by omega]
   have HNX:=hid (fun w1 (q:Kept wr w1) v (hv:IvR w1 v (gI g j).raw)=>ho▸CR.out w1 ((K.out.trans KR.out).trans q) j v hjk hv);have BAD:=hid (fun (w1:World) (q:Kept w w1) (h:o.k≠0)=>show Xx r w (.panicked (Ch 209 o.k)) w1 by rw [hbad h];exact ⟨q,.inr ⟨h,rfl⟩⟩);have GO:=hid hgo;have HPw:=hid ((KR.out.block _ (Array.getElem?_eq_some_iff.1 HP.out).1).trans HP.out);have enil:=fun (w:World)=>Go.run_neq_slice_nil_any (P:=Tryz.prog) w 26 51 (some ⟨bG,oG,none⟩) g.length cG 0 0 Tryz.underlying26
   have hro:(Cu o).k=o.k:=rfl;have hjg:j<g.length:=by omega
   clear ho hsn hbad hgo;go_wp2_with fail;clear enil
   refine Aac 12 ([(vE u15),(vE (.slice (some ⟨bG,oG,none⟩) g.length cG)),(vE (.int .i64 (j:Int))),(vE (.pointer (some ⟨bG,oG+j*6,none⟩))),(fun v wv=>IvR wv v ((gI g j).raw)),(vP w.heap.size 0),(vE (.int .i64 (p:Int))),(fun v wv=>∃ d,v=.tuple #[d,.int .i64 (Cu o).k]∧IvR wv d (Cu o).v),(fun v wv=>IvR wv v (Cu o).v),(vE (.int .i64 (Cu o).k)),(fun v wv=>o.k=0∧IvR wv v o.v.raw),(fun v wv=>OneI wv v o.v.raw)])
    (hM:=⟨⟨mE,mE,mE,mE,fun v w w' k h=>by first | exact h | exact h.kept k | exact ⟨h.1,h.2.kept k⟩,mE,mE,fun v w w' k h=>by obtain ⟨d,h1,h2⟩:=h;exact ⟨d,h1,h2.kept k⟩,fun v w w' k h=>by first | exact h | exact h.kept k | exact ⟨h.1,h.2.kept k⟩,mE,fun v w w' k h=>⟨h.1,h.2.kept k⟩,fun v w w' k h=>h.kept k,trivial⟩⟩) ⟨
      (gq 15),(gq 16),(gq 17),(gvv 1 52 2 53),(fun aF wF F=>by have s54:=F.v 3 54;obtain ⟨xx,yy,zz,xx',yy',zz',h0,h1,h2,h3,h4,h5,hI⟩:=(RG.out _ (KR.out.trans F.kept) j (by omega));exact sv hI),(gq 7),(gvl 5 56 fun _ k=>Ai HPw.out k 0 _ rfl),(fun aF wF F=>by have s55:=F.p 4 55;have s57:=F.v 6 57;exact sP (HNX.out _ F.kept _ s55) fun _ _ h=>h),(fun aF wF F=>by have s58:=F.p 7 58;obtain ⟨dd,ee,hh⟩:=s58;exact sv hh),(fun aF wF F=>by have s58:=F.p 7 58;exact sw (by obtain ⟨dd,ee,hh⟩:=s58;go_simp) rfl),(fun aF wF F=>by have s59:=F.p 8 59;have s60:=F.v 9 60;exact sJ (Tf (o:=o) s59) (fun _ _ _ h0 h=>⟨h0,h⟩) (fun w2 k2 h0=>⟨F.defers,BAD.out _ ((K.out.trans KR.out).trans (F.kept.trans k2)) h0⟩)),(fun aF wF F=>by have s61:=F.p 10 61;obtain ⟨A1,l1,d1,A2,l2,d2,e9,h9,g9⟩:=Ar s61.2;simp only [Array.getD_eq_getD_getElem?] at e9;exact sNa (Uy (r:=o.v.raw) ⟨_,_,_,_,_,_,rfl,h9,g9⟩)),
      trivial⟩ ?_
   intro u w1 k1 hu;have p55:=hp hu 4;have p58:=hp hu 7;have p59:=hp hu 8;have p61:=hp hu 10;have p62:=hp hu 11;simp only [Bl,Au,if_true,Act.put,zlA,zlB,zlC,zlD,zlE,zlF,zlG,hv hu 0,hv hu 1,hv hu 2,hv hu 3,hv hu 5,hv hu 6,hv hu 9];clear hu;generalize u 4=v55,u 7=v58,u 8=v59,u 10=v61,u 11=v62 at *;obtain ⟨h0,-⟩:=p61;obtain ⟨b1,x0,x1,x2,x3,x4,x5,e81,hb1,hI⟩:=p62;subst e81;have own1:=OWN.out.kept k1;have hcl9:c.length≤1000:=by have:=HCL.out;omega
   have hW9:W1.heap.size≤w1.heap.size:=(KR.out.trans k1).size;refine ⟨?_,.inl (by kernel_rfl)⟩;refine Ni (.tmp 51) (.tmp 62) ?ho (v:=u15) ?hs own1 hI hb1 ?hx hcl9 hW9 ?h
   case ho=>rfl
   case hs=>first | rfl | (go_simp;done)
   case hx=>first | rfl | (go_simp;done)
   intro v' X OX gX;have KX:=hid (OwnI.grown_kept own1 (KR.out.trans k1) gX);have OXX:=hid OX;have H0:=hid h0;clear own1 hI hb1 OX gX k1 h0 hW9 p55 p58 p59;go_simp;go_wp2_with fail;go_roundw
   case rel=>exact ⟨j+1,c++[o.v.raw],_,by go_num,by omega,by simp [HCL.out],GO.out H0.out,OXX.out,KX.out⟩
   case measure=>simp [intOf];omega
  ·obtain rfl:j=k+1:=by omega
   have hr:r=⟨c,0⟩:=by
    have:=HCO.out;rw [show k+1-(k+1)=0 by omega] at this;exact this.symm
   have FI:=hid (show Xx r w (.returned u15) wr by
    rw [hr];exact ⟨K.out.trans KR.out,.inl ⟨rfl,_,rfl,OWN.out.ivS,fun g hg=>Nat.le_trans K.out.size (OWN.out.base g hg)⟩⟩)
   clear hr;go_wp2_with fail;go_ret;exact FI.out
theorem Acl (ov:Iv→Nat→Outc Iv)(p:Nat)(l:Ln)(all:List (List RawI))(t:List RawI)(x q:List (List RawI))(k:Nat)(h:l.op=1):Hj ov p l all t x q k=Hv p (Dj l.k k) [] (List.range' 0 (k+1)):=by
 unfold Hj;rw [h,←List.range_eq_range'];rfl
theorem Ajl {tm:Bool}{ov:Iv→Nat→Outc Iv}{p k i:Nat}{t:List RawI}{x q:List (List RawI)}{l:Ln}(h:l.op=1)(gl:l.k.iv.Ok∧l.k.iv.raw=l.k)(hk:k≤900)(p1:1≤p)(p2:p≤300):Aa0 tm ov p k t x q i l:=by
 refine ⟨fun all hi gall e=>?_,?_⟩
 ·rw [Acl _ _ _ _ _ _ _ _ h] at e ⊢;obtain ⟨q1,q2⟩:=T7 p1 (Q8 gl k) _ _ gd_nil e;exact ⟨q1,by rw [q2];simp⟩
 ·intro w vl vall vt vx vq all hl hall hi gall ht hx hq hT;rw [Acl _ _ _ _ _ _ _ _ h];exact Aft h hl gl hk hT p1 p2
end Go.Proofs.YtmgaloopddiekaaGreatDoor
