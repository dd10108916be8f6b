/- Words and contracts, part 40. -/
import Derived.Test.YtmgaloopddiekaaGreatDoorClaimFargsp33
set_option maxRecDepth 100000
set_option maxHeartbeats 0
namespace Go.Proofs.YtmgaloopddiekaaGreatDoor
open Go.Lib (hid)
open Go.RowKit
def zc6:Array Value:=(Value.agg #[.bool false,.slice none 0 0,.int .i64 0,.bool false,.slice none 0 0,.int .i64 0]).cells
theorem Air {m i t:Nat}(ht:t<6)(hi:i<m):(Builtin.zeroCells zc6 m).toList[i*6+t]?=some (zc6[t]!):=by
 have hb:i*6+t<m*6:=by omega
 have hm:(i*6+t)%6=t:=by omega
 rw [Array.getElem?_toList];unfold Builtin.zeroCells;have hs:zc6.size=6:=rfl;rw [hs,Array.getElem?_map,Array.getElem?_range,if_pos hb,Option.map_some,hm]
theorem Kc {w:World}{ops:Array Oper}{rest:List Oper}{o:Oper}{a:Act}{Q:Exit→Act→World→Prop}(hgd:o.guard=none)(s x:Operand)
 (ho:o.op=.call { callee:=.builtin .append,args:=#[s,x],argTypes:=#[26,3] })
 {base n m:Nat} {v:Value} {xs:List Value} (hv:a.eval s=v) (hown:w.ownsRow base 51 6 v n xs) (hx:a.eval x=.int .i64 (m:Int)) (hn:n+m≤1000) (hbase:base≤w.heap.size)
 (h:∀ v' w',w'.ownsRow base 51 6 v' (n+m) (xs++(Builtin.zeroCells zc6 m).toList)→w.grownBy w' v.ownBlock→wpList Tryz.prog ops Q rest (a.put o.dst v') w'):wpList Tryz.prog ops Q (o::rest) a w:=by
 obtain ⟨i0,hi,hz0,hz1,hz2⟩:=info_parts Ps;refine Gc w hgd s x 26 3 ho base 51 i0 _ .i64 .i64 Tryz.underlying26 Tryz.underlying3 hi hz0 (by rw [hz1];decide) (by rw [hz1];rfl) v n xs hv (by rw [hz1];exact hown) m _ hx rfl ?_ (by unfold maxLen;omega) (by rw [hz2];omega) hbase ?_
 ·intro u hu;have:=Fu hu;simp [Value.cells] at this;rcases this with rfl | rfl | rfl | rfl | rfl | rfl<;>rfl
 ·intro v' w' h1 h2;rw [hz1] at h1;exact h v' w' h1 h2
theorem Q9 {w':World}{base k:Nat}{v' x y z x' y' z':Value}{a:RawI}(OW:w'.ownsRow base 51 6 v' (1+k) ([x,y,z,x',y',z']++(Builtin.zeroCells zc6 k).toList))(hI:IvR w' (.agg #[x,y,z,x',y',z']) a):IvS w' v' (Dj a k):=by
 have hc:=OW.2;rcases hc with ⟨-,h0⟩ | ⟨g,cap,cur,rfl,hbg,hg,hncap,-⟩
 ·omega
 refine ⟨_,cap,by simp [Dj,Nat.add_comm],by simp [Dj];omega,fun _=>⟨g,0,rfl,fun i d hi=>?_⟩⟩;have cl:=OW.cells (g:=g) rfl;have ad:∀ j,(⟨g,0,none⟩:Addr).add j=⟨g,j,none⟩:=by intro j;unfold Addr.add;split<;>simp_all
 have cl':∀ j u,([x,y,z,x',y',z']++(Builtin.zeroCells zc6 k).toList)[j]?=some u→w'.cell? ⟨g,j,none⟩=some u:=fun j u hj=>by have:=cl j u hj;rwa [ad] at this
 rcases i with _ | i
 ·have hd:a=d:=by simpa [Dj] using hi
  subst hd;exact ⟨_,_,_,_,_,_,cl' 0 _ rfl,cl' 1 _ rfl,cl' 2 _ rfl,cl' 3 _ rfl,cl' 4 _ rfl,cl' 5 _ rfl,hI⟩
 ·have hik:i<k:=by
   have:=(List.getElem?_eq_some_iff.1 hi).1;simpa [Dj] using this
  obtain rfl:d=rzI:=by
   unfold Dj at hi;rw [List.getElem?_cons_succ,List.getElem?_replicate,if_pos hik] at hi;exact (Option.some.inj hi).symm
  have hz:∀ t,t<6→w'.cell? ⟨g,0+(i+1)*6+t,none⟩=some (zc6[t]!):=fun t ht=>cl' _ _ (by
   rw [List.getElem?_append_right (by simp;omega),show 0+(i+1)*6+t-[x,y,z,x',y',z'].length=i*6+t by simp;omega];exact Air ht hik)
  exact ⟨_,_,_,_,_,_,hz 0 (by decide),hz 1 (by decide),hz 2 (by decide),hz 3 (by decide),hz 4 (by decide),hz 5 (by decide),Ft _⟩
def Agw (a:RawI) (k:Nat) (w:World) (e:Ending) (w':World):Prop:=Kept w w'∧∃ v xs,e=.returned v∧IvS w' v (Dj a k)∧w'.ownsRow w.heap.size 51 6 v (k+1) xs
theorem Wg {w:World}{va:Value}{a:RawI}{k:Nat}(ha:IvR w va a)(hk:k≤900):Calls Tryz.prog 213 #[va,.int .i64 k] w (Agw a k w):=by
 obtain ⟨A,l,c,A',l',c',rfl,h1,h2⟩:=Ar ha
 obtain ⟨W,hW,kW,BI,lW⟩:∃ W,W=w.alloc (.cells #[.bool a.lo.neg,.slice A l c,.int .i64 a.lo.e,.bool a.hi.neg,.slice A' l' c',.int .i64 a.hi.e] 51)∧Kept w W∧BlkI W w.heap.size (.bool a.lo.neg) (.slice A l c) (.int .i64 a.lo.e) (.bool a.hi.neg) (.slice A' l' c') (.int .i64 a.hi.e)∧W.heap.size=w.heap.size+1 :=
  ⟨_,rfl,Ad _ _,Cv _ _ _ _ _ _ _,by simp⟩
 have HW:=hid hW;have K:=hid kW;have HA:=hid ha;obtain ⟨-,c0,c1,c2,c3,c4,c5⟩:=BI.facts;clear hW kW BI h1 h2 ha;have LW:=hid lW;clear lW;generalize hn1:a.lo.neg=n1 at *;generalize hn2:a.lo.e=e1 at *;generalize hn3:a.hi.neg=n2 at *;generalize hn4:a.hi.e=e2 at *;clear hn1 hn2 hn3 hn4;go_enter Tryz.func213,Tryz.ntmps213;go_upto_region 1 with fail;rw [←HW.out]
 have own:(W.alloc (.cells #[.bool n1,.slice A l c,.int .i64 e1,.bool n2,.slice A' l' c',.int .i64 e2] 51)).ownsRow w.heap.size 51 6 (.slice (some ⟨W.heap.size,0,none⟩) 1 1) 1 [.bool n1,.slice A l c,.int .i64 e1,.bool n2,.slice A' l' c',.int .i64 e2] :=
  ⟨rfl,.inr ⟨W.heap.size,1,_,rfl,by rw [LW.out];omega,heap_alloc_new _ _,Nat.le_refl _,by unfold maxLen;omega,rfl,rfl⟩⟩
 have OWN:=hid own;clear own
 go_wp2_with (at_builtin;refine Kc rfl (.tmp 6) (.tmp 7) rfl rfl OWN.out rfl (by omega) (by simp;rw [LW.out];omega) ?_;intro v' w' OW gW)
 have hb:w.heap.size≤W.heap.size:=by rw [LW.out];omega
 have kk:Kept w w':=Below.grown (K.out.trans (Ad _ _)) gW (by simp;rw [LW.out];omega) (fun g hg=>Nat.le_trans hb (Nat.le_of_eq (Option.some.inj hg)));have hIv:IvS w' v' (Dj a k):=Q9 OW (HA.out.kept kk);have FI:=hid (show Agw a k w (.returned v') w' from ⟨kk,v',_,rfl,hIv,by rw [Nat.add_comm k 1];exact OW⟩);clear hIv kk OW gW OWN;go_ret;exact FI.out
theorem Aet (w:World)(k b:Int):Calls Tryz.prog 210 #[.int .i64 k,.int .i64 b] w (RetQ (.bool (Lj k b)) w):=by
 unfold Lj;by_cases h1:0≤k
 ·by_cases h2:k≤12
  ·by_cases h3:1≤b
   ·by_cases h4:b≤300
    ·simp only [h1,h2,h3,h4,decide_true,Bool.and_self];go_enter Tryz.func210,Tryz.ntmps210;go_wp2_with fail;go_ret;exact ⟨rfl,0,rfl⟩
    ·simp only [h1,h2,h3,h4,decide_true,decide_false,Bool.and_self,Bool.and_false];go_enter Tryz.func210,Tryz.ntmps210;go_wp2_with fail;go_ret;exact ⟨rfl,0,rfl⟩
   ·simp only [h1,h2,h3,decide_true,decide_false,Bool.and_false,Bool.false_and];go_enter Tryz.func210,Tryz.ntmps210;go_wp2_with fail;go_ret;exact ⟨rfl,0,rfl⟩
  ·simp only [h1,h2,decide_true,decide_false,Bool.and_false,Bool.false_and];go_enter Tryz.func210,Tryz.ntmps210;go_wp2_with fail;go_ret;exact ⟨rfl,0,rfl⟩
 ·simp only [h1,decide_false,Bool.false_and];go_enter Tryz.func210,Tryz.ntmps210;go_wp2_with fail;go_ret;exact ⟨rfl,0,rfl⟩
def LnR (w:World) (v:Value) (l:Ln):Prop:=∃ x y z x' y' z',v=.agg #[.int .i64 l.op,.int .i64 l.a,.int .i64 l.b,x,y,z,x',y',z']∧IvR w (.agg #[x,y,z,x',y',z']) l.k
theorem LnR.kept {w w':World}{v:Value}{l:Ln}(h:LnR w v l)(k:Kept w w'):LnR w' v l:=by
 obtain ⟨x,y,z,x',y',z',e,h⟩:=h;exact ⟨x,y,z,x',y',z',e,h.kept k⟩
theorem Rws.row {w:World}{v:Value}{l:List (List RawI)}(h:Rws w v l){i:Nat}(hi:i<l.length):∃ b off c s,v=.slice (some ⟨b,off,none⟩) l.length c∧l.length≤c∧w.cell? ⟨b,off+i,none⟩=some s∧IvS w s (l.getD i []):=by
 obtain ⟨A,c,rfl,hc,hA⟩:=h;obtain ⟨b,off,rfl,hD⟩:=hA (by omega);obtain ⟨s,h1,h2⟩:=hD i _ (List.getElem?_eq_getElem hi);refine ⟨b,off,c,s,rfl,hc,h1,?_⟩;rw [List.getD_eq_getElem?_getD,List.getElem?_eq_getElem hi];exact h2
def NxC (ov:Iv→Nat→Outc Iv) (S:Int→Prop):Prop:=∀ {w:World} {va vb vc:Value} {a b c:List RawI} {op:Int} {n p:Nat},S op→IvS w va a→IvS w vb b→IvS w vc c→Gd a→Gd b→Gd c→n<a.length→n<b.length→c.length=n →
 a.length≤1000→b.length≤1000→Tab w→1≤p→p≤300→Calls Tryz.prog 243 #[.agg #[.int .i64 p],.int .i64 op,va,vb,vc,.int .i64 n] w (Ti (Yv ov p op a b c n) w)
theorem NxC.or {ov:Iv→Nat→Outc Iv}{S U:Int→Prop}(h:NxC ov S)(g:NxC ov U):NxC ov (fun op=>S op∨U op):=by
 intro w va vb vc a b c op n p hop;rcases hop with hop | hop
 ·exact h hop
 ·exact g hop
def OneI (w:World) (v:Value) (r:RawI):Prop:=∃ b x y z x' y' z',v=.slice (some ⟨b,0,none⟩) 1 1∧BlkI w b x y z x' y' z'∧IvR w (.agg #[x,y,z,x',y',z']) r
theorem OneI.kept {w w':World}{v:Value}{r:RawI}(h:OneI w v r)(k:Kept w w'):OneI w' v r:=by
 obtain ⟨b,x,y,z,x',y',z',e,h1,h2⟩:=h;exact ⟨b,x,y,z,x',y',z',e,h1.kept k,h2.kept k⟩
theorem Uy {w:World}{r:RawI}{x y z x' y' z':Value}(h:IvR w (.agg #[x,y,z,x',y',z']) r):OneI (w.alloc (.cells #[x,y,z,x',y',z'] 51)) (.slice (some ⟨w.heap.size,0,none⟩) 1 1) r :=
 ⟨_,_,_,_,_,_,_,rfl,Cv _ _ _ _ _ _ _,h.kept (Ad _ _)⟩
theorem Aja (w:World)(p:Int)(o a b x y z x' y' z':Value):∃ W,W=(w.alloc (.cells #[.int .i64 p] 195)).alloc (.cells #[o,a,b,x,y,z,x',y',z'] 53) ∧
 Kept w W∧W.heap[w.heap.size]?=some (.cells #[.int .i64 p] 195 (0,0))∧W.heap[w.heap.size+1]?=some (.cells #[o,a,b,x,y,z,x',y',z'] 53 (0,0)):=by
 refine ⟨_,rfl,(Ad _ _).trans (Ad _ _),?_,?_⟩
 ·rw [Below.heap_alloc _ _ _ (by simp)];exact heap_alloc_new _ _
 ·have:=heap_alloc_new (w.alloc (.cells #[.int .i64 p] 195)) (.cells #[o,a,b,x,y,z,x',y',z'] 53);simpa using this
theorem Wf (p:Nat)(g c:List RawI)(j m:Nat)(h:0<m):Hv p g c (List.range' j m) =
 if (De (gI g j) p).k=0 then Hv p g (c++[(De (gI g j) p).v.raw]) (List.range' (j+1) (m-1)) else ⟨[],(De (gI g j) p).k⟩:=by
 obtain ⟨m,rfl⟩:∃ k,m=k+1:=⟨m-1,by omega⟩;rw [List.range'_succ];rfl
theorem Ag6 {l:List RawI}(g:Gd l)(i:Nat):(gI l i).Ok:=by
 by_cases h:i<l.length
 ·exact (Ab7 g h).1
 ·unfold gI;rw [List.getD_eq_getElem?_getD,List.getElem?_eq_none (by omega),Option.getD_none,←Ov,Iv.raw_iv];exact Yq
theorem gd_nil:Gd []:=fun a ha=>by cases ha
theorem Gd.snoc {c:List RawI}(g:Gd c){v:Iv}(h:v.Ok):Gd (c++[v.raw]):=by
 intro y hy;rcases List.mem_append.1 hy with hy | hy
 ·exact g y hy
 ·simp only [List.mem_singleton] at hy;subst hy;rw [Iv.raw_iv];exact ⟨h,rfl⟩
theorem T7 {p:Nat}{g:List RawI}(p1:1≤p)(gg:Gd g):∀ (js:List Nat) (c:List RawI),Gd c→(Hv p g c js).k=0→Gd (Hv p g c js).v∧(Hv p g c js).v.length=c.length+js.length
 | [],c,hc,_=>⟨hc,rfl⟩
 | j :: js, c, hc, h => by
   rw [Hv] at h ⊢;by_cases e:(De (gI g j) p).k=0
   ·rw [if_pos e] at h ⊢;obtain ⟨h1,h2⟩:=T7 p1 gg js _ (hc.snoc (G5 (Ag6 gg j) p1).1) h;refine ⟨h1,?_⟩;rw [h2];simp;omega
   ·rw [if_neg e] at h;exact absurd h e
theorem Q8 {a:RawI}(h:a.iv.Ok∧a.iv.raw=a)(k:Nat):Gd (Dj a k):=by
 intro y hy;unfold Dj at hy;rcases List.mem_cons.1 hy with rfl | hy
 ·exact h
 ·obtain rfl:=(List.mem_replicate.1 hy).2;rw [←Ov,Iv.raw_iv];exact ⟨Yq,rfl⟩
def GdR (k:Nat) (rows:List (List RawI)):Prop:=∀ r∈rows,Gd r∧r.length=k+1
theorem GdR.at {k:Nat}{rows:List (List RawI)}(h:GdR k rows){i:Nat}(hi:i<rows.length):Gd (rows.getD i [])∧(rows.getD i []).length=k+1:=by
 rw [List.getD_eq_getElem?_getD,List.getElem?_eq_getElem hi];exact h _ (List.getElem_mem hi)
theorem GdR.snoc {k:Nat}{rows:List (List RawI)}(h:GdR k rows){r:List RawI}(g:Gd r)(l:r.length=k+1):GdR k (rows++[r]):=by
 intro y hy;rcases List.mem_append.1 hy with hy | hy
 ·exact h y hy
 ·simp only [List.mem_singleton] at hy;subst hy;exact ⟨g,l⟩
theorem GdR.nil (k:Nat):GdR k []:=fun a ha=>by cases ha
def Aa0 (tm:Bool) (ov:Iv→Nat→Outc Iv) (p k:Nat) (t:List RawI) (x q:List (List RawI)) (i:Nat) (l:Ln):Prop :=
 (∀ all:List (List RawI),all.length=i→GdR k all→(Hj ov p l all t x q k).k=0→Gd (Hj ov p l all t x q k).v∧(Hj ov p l all t x q k).v.length=k+1) ∧
 ∀ {w : World} {vl vall vt vx vq : Value} {all : List (List RawI)}, LnR w vl l → Rws w vall all → all.length = i → GdR k all → (tm = true → IvS w vt t) → Rws w vx x → Rws w vq q → Tab w →
   Calls Tryz.prog 234 #[.agg #[.int .i64 p],vl,vall,vt,vx,vq,.int .i64 k] w (Xx (Hj ov p l all t x q k) w)
theorem Ri {ov:Iv→Nat→Outc Iv}{p k:Nat}{t:List RawI}{x q:List (List RawI)}:∀ (ls:List Ln) (all:List (List RawI)),
 (∀ all' (i:Nat) l,ls[i]?=some l→all'.length=all.length+i→GdR k all'→(Hj ov p l all' t x q k).k=0→Gd (Hj ov p l all' t x q k).v∧(Hj ov p l all' t x q k).v.length=k+1)→GdR k all→(Fr ov p t x q k all ls).k=0 →
   GdR k (Fr ov p t x q k all ls).v∧(Fr ov p t x q k all ls).v.length=all.length+ls.length
 | [],all,_,ga,_=>⟨ga,rfl⟩
 | l :: ls, all, h, ga, hk => by
   rw [Fr] at hk ⊢;by_cases e:(Hj ov p l all t x q k).k=0
   ·rw [if_pos e] at hk ⊢;obtain ⟨q1,q2⟩:=h all 0 l rfl rfl ga e;obtain ⟨h1,h2⟩:=Ri ls _ (fun all' i l hl hn=>h all' (i+1) l (by simpa using hl) (by rw [hn];simp;omega)) (ga.snoc q1 q2) hk;exact ⟨h1,by rw [h2];simp;omega⟩
   ·rw [if_neg e] at hk;exact absurd hk e
theorem Xm {tm:Bool}{ov:Iv→Nat→Outc Iv}{p k:Nat}{t:List RawI}{x q:List (List RawI)}{ls:List Ln}{outs:List Int}(h:∀ i l,ls[i]?=some l→Aa0 tm ov p k t x q i l)(ho:∀ n∈outs,0≤n∧n<(ls.length:Int))
 (hk:(D4 ov p ls outs t x q k).k=0):GdR k (D4 ov p ls outs t x q k).v:=by
 unfold D4 at hk ⊢;by_cases e:(Fr ov p t x q k [] ls).k=0
 ·rw [if_pos e];obtain ⟨g1,g2⟩:=Ri ls [] (fun all' i l hl hn=>(h i l hl).1 all' (by simpa using hn)) (GdR.nil k) e;intro r hr;obtain ⟨n,hn,rfl⟩:=List.mem_map.1 hr;obtain ⟨n0,n1⟩:=ho n hn;simp only [List.length_nil,Nat.zero_add] at g2;exact g1.at (i:=n.toNat) (by omega)
 ·rw [if_neg e] at hk;exact absurd hk e
theorem Xr {ov:Iv→Nat→Outc Iv}{p n m:Nat}{ls:List Ln}{outs:List Int}{time c:List RawI}{R:List (List RawI)}(ho:outs.length=1)(h:Mc ov p ls outs time [] [c] (List.range' n (m+1))=⟨R,0⟩) :
 ∃ r,D4 ov p ls outs (time.take (n+1)) [c] [] n=⟨[r],0⟩∧(Fp (gI r n) (ptN (n+1)) p).k=0∧Mc ov p ls outs time [] [c++[(Fp (gI r n) (ptN (n+1)) p).v.raw]] (List.range' (n+1) m)=⟨R,0⟩:=by
 rw [List.range'_succ,Mc,List.map_nil] at h;by_cases h1:(D4 ov p ls outs (time.take (n+1)) [c] [] n).k=0
 ·rw [if_neg (by simpa using h1)] at h;obtain ⟨o1,rfl⟩:∃ o1,outs=[o1]:=by
   rcases outs with _ | ⟨o1,_ | ⟨o2,os⟩⟩
   ·simp at ho
   ·exact ⟨o1,rfl⟩
   ·simp at ho
  obtain ⟨r,hr⟩:∃ r,D4 ov p ls [o1] (time.take (n+1)) [c] [] n=⟨[r],0⟩:=by
   unfold D4 at h1 ⊢;by_cases e:(Fr ov p (time.take (n+1)) [c] [] n [] ls).k=0
   ·rw [if_pos e];exact ⟨_,rfl⟩
   ·rw [if_neg e] at h1;exact absurd h1 e
  refine ⟨r,hr,?_⟩;rw [hr] at h;by_cases h2:(Fp (gI r n) (ptN (n+1)) p).k=0
  ·have hg:Lr p n [c] [r]=⟨[c++[(Fp (gI r n) (ptN (n+1)) p).v.raw]],0⟩:=by
    simp only [Lr,h2,if_true]
   rw [hg,if_neg (by simp)] at h;exact ⟨h2,h⟩
  ·have hg:(Lr p n [c] [r]).k=(Fp (gI r n) (ptN (n+1)) p).k:=by
    simp only [Lr];rw [if_neg h2]
   rw [if_pos (by rw [hg];exact h2)] at h;injection h with h3 h4
   rw [hg] at h4;exact absurd h4 h2
 ·rw [if_pos h1] at h;injection h with h3 h4
  exact absurd h4 h1
theorem Hu {w:World}{ops:Array Oper}{rest:List Oper}{o:Oper}{a:Act}{Q:Exit→Act→World→Prop}(hgd:o.guard=none)(s x:Operand)
 (ho:o.op=.call { callee:=.builtin .append,args:=#[s,x],argTypes:=#[183,183] })
 {base:Nat} {v:Value} {l:List (List RawI)} {xs:List Value} (hs:a.eval s=v) (hown:OwnR w base v l xs) {d:List RawI} {u:Value} {b:Nat}
 (hd:IvS w u d) (hb:w.cell? ⟨b,0,none⟩=some u) (hx:a.eval x=.slice (some ⟨b,0,none⟩) 1 1)
 (hl:l.length≤1000) (hbase:base≤w.heap.size)
 (h:∀ v' w',OwnR w' base v' (l++[d]) (xs++[u])→w.grownBy w' v.ownBlock→wpList Tryz.prog ops Q rest (a.put o.dst v') w'):wpList Tryz.prog ops Q (o::rest) a w:=by
 obtain ⟨i0,hi,hz0,hz1,hz2⟩:=info_parts Ajt;have ad:∀ j,(⟨b,0,none⟩:Addr).add j=⟨b,j,none⟩:=by intro j;unfold Addr.add;split<;>simp_all
 have hu:SlC u:=by obtain ⟨A,c,rfl,-⟩:=hd;exact ⟨_,_,_,rfl⟩
 have hu1:u.oneCell'=true:=by obtain ⟨A,c,rfl,-⟩:=hd;rfl
 refine Nh (p:=SlC) hgd s x _ ho base 26 i0 _ 1 24 Tryz.underlying183 hi hz0 hz1 hz2 rfl (by decide) v l.length xs hs hown.row _ 1 1 [u] hx rfl ?_ (by intro y hy;simp only [List.mem_singleton] at hy;rw [hy];exact hu1) (by unfold maxLen;omega) (by omega) hbase (by decide) hown.sl (by intro y hy;simp only [List.mem_singleton] at hy;rw [hy];exact hu) (by intro y hy;simp [Value.cells] at hy;rw [hy];exact ⟨_,_,_,rfl⟩) hown.blk ?_
 ·intro j y hy;rw [ad];rcases j with _ | j
  ·cases hy;exact hb
  ·simp at hy
 ·intro v' w' g' q1 q2 q3 q4;exact h v' w' (hown.snoc hd q1 q2 q3 q4) q2
theorem Ajb (w:World)(p:Int)(s o:Value):∃ W,W=(w.alloc (.cells #[.int .i64 p] 195)).alloc (.cells #[s,o] 25) ∧
 Kept w W∧W.heap[w.heap.size]?=some (.cells #[.int .i64 p] 195 (0,0))∧W.heap[w.heap.size+1]?=some (.cells #[s,o] 25 (0,0)):=by
 refine ⟨_,rfl,(Ad _ _).trans (Ad _ _),?_,?_⟩
 ·rw [Below.heap_alloc _ _ _ (by simp)];exact heap_alloc_new _ _
 ·have:=heap_alloc_new (w.alloc (.cells #[.int .i64 p] 195)) (.cells #[s,o] 25);simpa using this
theorem Ai8 (w:World)(o a b x y z x' y' z':Value):∃ W,W=w.alloc (.cells #[o,a,b,x,y,z,x',y',z'] 53)∧Kept w W∧W.heap[w.heap.size]?=some (.cells #[o,a,b,x,y,z,x',y',z'] 53 (0,0)) :=
 ⟨_,rfl,Ad _ _,heap_alloc_new _ _⟩
theorem Ut {ov:Iv→Nat→Outc Iv}{p k j:Nat}{t:List RawI}{x q all:List (List RawI)}{ls:List Ln}{l:Ln}(h:ls[j]?=some l):Fr ov p t x q k all (ls.drop j) =
 if (Hj ov p l all t x q k).k=0 then Fr ov p t x q k (all++[(Hj ov p l all t x q k).v]) (ls.drop (j+1)) else ⟨[],(Hj ov p l all t x q k).k⟩:=by
 obtain ⟨hj,rfl⟩:=List.getElem?_eq_some_iff.1 h;rw [List.drop_eq_getElem_cons hj];rfl
theorem W6 {ov:Iv→Nat→Outc Iv}{p k j:Nat}{t:List RawI}{x q all:List (List RawI)}{ls:List Ln}(h:ls.length≤j):Fr ov p t x q k all (ls.drop j)=⟨all,0⟩:=by
 rw [List.drop_eq_nil_of_le h];rfl
def GoesLF (o:Outc (List (List RawI))) (w:World) (e:Ending) (w':World):Prop:=Kept w w'∧((o.k=0∧∃ v xs,e=.returned v∧OutS w' w.heap.size v o.v xs)∨(o.k≠0∧e=.panicked (Ch 209 o.k)))
theorem GoesLF.all {o:Outc (List (List RawI))}{w w':World}{e:Ending}(h:GoesLF o w e w'):L3 o w e w':=by
 obtain ⟨k,⟨h0,v,xs,e1,hv⟩ | h⟩:=h
 ·exact ⟨k,.inl ⟨h0,v,e1,hv.own.all,hv.own.base⟩⟩
 ·exact ⟨k,.inr h⟩
theorem Adz {tm:Bool}{ov:Iv→Nat→Outc Iv}{w:World}{vt vs vx vq:Value}{ls:List Ln}{outs:List Int}{t:List RawI}{x q:List (List RawI)}{k p:Nat}(hv:TpR w vt ls outs)(ht:tm=true→IvS w vs t)(hx:Rws w vx x)(hq:Rws w vq q)
 (hL:∀ i l,ls[i]?=some l→Aa0 tm ov p k t x q i l) (ho:∀ n∈outs,0≤n∧n<(ls.length:Int)) (hn:ls.length≤200) (hm:outs.length≤200) (hk:k≤900) (hT:Tab w) :
 Calls Tryz.prog 216 #[.agg #[.int .i64 p],vt,vs,vx,vq,.int .i64 k] w (GoesLF (D4 ov p ls outs t x q k) w):=by
 obtain ⟨s,o,rfl,hls,hou⟩:=hv;have HLS:=hid hls;have HOU:=hid hou;have CL:=hid (fun (i:Nat) (l:Ln) (hl:ls[i]?=some l) (w1:World) (kq:Kept w w1) vl vall (all:List (List RawI)) (h1:LnR w1 vl l) (h2:Rws w1 vall all) (h3:all.length=i) (h4:GdR k all)=>And.intro ((hL i l hl).2 h1 h2 h3 h4 (fun e=>(ht e).kept kq) (hx.kept kq) (hq.kept kq) (hT.kept kq)) ((hL i l hl).1 all h3 h4));have HO:=hid ho;obtain ⟨A,c,rfl,hc,-⟩:=hls;obtain ⟨B,d,rfl,-,-⟩:=hou;obtain ⟨R,hR⟩:∃ R,R=Fr ov p t x q k [] ls:=⟨_,rfl⟩;obtain ⟨U,hU⟩:∃ U,U=D4 ov p ls outs t x q k:=⟨_,rfl⟩;have hU0:R.k=0→U=⟨outs.map fun n=>Qa R.v n,0⟩:=fun h=>by rw [hU,D4,←hR,if_pos h]
 have hU1:R.k≠0→U=⟨[],R.k⟩:=fun h=>by rw [hU,D4,←hR,if_neg h]
 rw [←hU];have UG:=hid hU0;have UB:=hid hU1;have HR:=hid hR;have HK:=hid hk;obtain ⟨W,hW,kW,bW,bT⟩:=Ajb w p (.slice A ls.length c) (.slice B outs.length d);have HW:=hid hW;have K:=hid kW;have BW:=hid bW;obtain ⟨c0,c1⟩:=Cj bT;have BT:=hid bT;generalize hnl:ls.length=n at *;have HN:=hid hnl;generalize hml:outs.length=m at *;have HM:=hid hml;clear hW kW bW bT hU0 hU1 hR hU hL ho hT ht hx hq hnl hml hk hc;go_enter Tryz.func216,Tryz.ntmps216;go_upto_region 2 with fail;rw [←HW.out];clear HW;go_wp2_with fail;clear c0 c1
 go_loopw [13,22] (fun va ti wr=>∃ (j:Nat) (all:List (List RawI)) (xs:List Value),j≤n∧ti=.int .i64 (j:Int)∧all.length=j∧GdR k all∧Fr ov p t x q k all (ls.drop j)=R∧OwnR wr W.heap.size va all xs∧Kept W wr) (fun _ ti _=>(n-intOf ti).toNat)
 case atStart=>exact ⟨0,[],[],Nat.zero_le _,rfl,rfl,GdR.nil k,HR.out.symm,OwnR.nil _ _,Below.refl _ _⟩
 case round =>
  obtain ⟨j,all,xs,hj,rfl,hal,hgd,hlj,hown,hkr⟩:=hrel;have HAL:=hid hal;have GD:=hid hgd;have LJ:=hid hlj;have OWN:=hid hown;have KR:=hid hkr;clear hal hgd hlj hown hkr;by_cases hlt:j<n
  ·obtain ⟨l,hl⟩:∃ l,ls[j]?=some l:=⟨_,List.getElem?_eq_getElem (by have:=HN.out;omega)⟩;obtain ⟨A',c',eA,-,hA⟩:=HLS.out;injection eA with eA1 eA2 eA3
   subst eA1;obtain ⟨bl,ol,rfl,hd⟩:=hA (by have:=HN.out;omega);obtain ⟨a0,a1,a2,y0,y1,y2,y3,y4,y5,g0,g1,g2,g3,g4,g5,hI⟩:=(hd j _ hl).kept (K.out.trans KR.out);obtain ⟨A1,l1,q1,A2,l2,q2,ei,-,-⟩:=Ar hI;injection ei with ei;injection ei with ei
   simp only [List.cons.injEq,and_true] at ei;obtain ⟨rfl,rfl,rfl,rfl,rfl,rfl⟩:=ei;obtain ⟨ro,hro⟩:∃ ro,ro=Hj ov p l all t x q k:=⟨_,rfl⟩;have hst:=Ut (ov:=ov) (p:=p) (k:=k) (t:=t) (x:=x) (q:=q) (all:=all) hl;rw [←hro,LJ.out] at hst;have hR0:ro.k=0→Fr ov p t x q k (all++[ro.v]) (ls.drop (j+1))=R:=fun h=>by rw [hst,if_pos h]
   have hBAD:∀ w1,Kept w w1→ro.k≠0→GoesLF U w (.panicked (Ch 209 ro.k)) w1:=fun w1 kq h=>by
    have e:R=⟨[],ro.k⟩:=by rw [hst,if_neg h]
    have e2:=UB.out (by rw [e];exact h);rw [e] at e2;rw [e2];exact ⟨kq,.inr ⟨h,rfl⟩⟩
   obtain ⟨W2,hW2,kW2,hLB⟩:=Ai8 wr (.int .i64 l.op) (.int .i64 l.a) (.int .i64 l.b) (.bool l.k.lo.neg) (.slice A1 l1 q1) (.int .i64 l.k.lo.e) (.bool l.k.hi.neg) (.slice A2 l2 q2) (.int .i64 l.k.hi.e);have hcl:=CL.out j l hl W2 (K.out.trans (KR.out.trans kW2)) _ _ all ⟨_,_,_,_,_,_,rfl,hI.kept kW2⟩ (OWN.out.all.kept kW2) HAL.out GD.out;rw [←hro] at hcl;have HCL:=hid hcl;have R0:=hid hR0;have BAD:=hid hBAD;have HW2:=hid hW2;have K2:=hid kW2;have HLB:=hid hLB;clear hcl hR0 hBAD hW2 hI hd hA eA2 eA3 hst hro hl;generalize l.op=e1 at *;generalize l.a=e2 at *;generalize l.b=e3 at *;generalize l.k.lo.neg=e4 at *
   generalize l.k.lo.e=e5 at *;generalize l.k.hi.neg=e6 at *;generalize l.k.hi.e=e7 at *;go_upto_region 5 with fail;rw [←HW2.out];clear HW2 a0 a1 a2 g0 g1 g2 g3 g4 g5;generalize hb10:wr.heap.size=b10 at *;obtain ⟨r0,r1,r2,r3,r4,r5,r6,r7,r8⟩:=Cf HLB.out;have d0:=Ag (Aj BW.out (KR.out.trans K2.out)) 0 _ rfl;go_wp2_with fail;refine HCL.out.1.mono ?_;rintro e w3 ⟨q3,hq3⟩;rcases hq3 with ⟨h0,v,rfl,hv3,-⟩ | ⟨h0,rfl⟩
   ·have hvv:=hv3;obtain ⟨A3,c3,rfl,-⟩:=hvv;have HV3:=hid hv3;obtain ⟨gd1,gd2⟩:=HCL.out.2 h0;have GD':=hid (GD.out.snoc gd1 gd2);have R0':=hid (R0.out h0);have K3:=hid (K2.out.trans q3);have KK:=hid (KR.out.trans K3.out);have OW3:=hid (OWN.out.kept K3.out);have hl9:all.length≤1000:=by have:=HAL.out;omega
    have hW9:W.heap.size≤w3.heap.size:=KK.out.size;clear r0 r1 r2 r3 r4 r5 r6 r7 r8 d0 hv3 gd1 gd2 q3 h0 HCL R0 BAD HLB OWN hb10;simp only []
    go_wp2_with (at_builtin;refine Hu rfl (.tmp 26) (.tmp 35) rfl rfl (OW3.out.kept (Ad _ _)) (HV3.out.kept (Ad _ _)) (Ag (heap_alloc_new _ _) 0 _ rfl) rfl hl9 (Nat.le_trans hW9 (by simp)) ?_;intro v' X OX gX)
    have KX:=hid (OwnR.grown_kept (OW3.out.kept (Ad _ _)) (KK.out.trans (Ad _ _)) gX);have OXX:=hid OX;clear OX gX OW3 HV3;go_wp2_with fail;go_roundw
    case rel=>exact ⟨j+1,all++[ro.v],_,by omega,by go_num,by simp [HAL.out],GD'.out,R0'.out,OXX.out,KX.out⟩
    case measure=>simp [intOf];omega
   ·simp only [];exact ⟨rfl,BAD.out _ (K.out.trans (KR.out.trans (K2.out.trans q3))) h0⟩
  ·obtain rfl:j=n:=by omega
   have hRR:R=⟨all,0⟩:=by
    have:=LJ.out;rw [W6 (by have:=HN.out;omega)] at this;exact this.symm
   have hUU:U=⟨outs.map fun n=>Qa all n,0⟩:=by
    have:=UG.out (by rw [hRR]);rw [hRR] at this;exact this
   have UU:=hid hUU;clear hRR hUU UG UB LJ CL HR;obtain ⟨Aa,ca,rfl,hca,hall⟩:=OWN.out.all;have HALL:=hid (show Rws wr (.slice Aa all.length ca) all from ⟨Aa,ca,rfl,hca,hall⟩);clear hca hall OWN;rw [HAL.out];obtain ⟨c0,c1⟩:=Cj (Aj BT.out KR.out);go_wp2_with fail;clear c0 c1;have hW8:W.heap.size≤wr.heap.size:=KR.out.size;obtain ⟨V1,hV1⟩:∃ V1,V1=wr:=⟨wr,rfl⟩;subst hV1
   go_loopw [14,41] (fun va ti wr2=>∃ (i:Nat) (xs:List Value),i≤m∧ti=.int .i64 (i:Int)∧OutS wr2 V1.heap.size va ((outs.take i).map fun n=>Qa all n) xs∧Kept V1 wr2) (fun _ ti _=>(m-intOf ti).toNat)
   case atStart=>exact ⟨0,[],Nat.zero_le _,rfl,OutS.nil _ _,Below.refl _ _⟩
   case round =>
    obtain ⟨i,xs',hi,rfl,hown,hkz⟩:=hrel;have OWN:=hid hown;have KZ:=hid hkz;clear hown hkz;by_cases him:i<m
    ·obtain ⟨z,hz⟩:∃ z,outs[i]?=some z:=⟨_,List.getElem?_eq_getElem (by have:=HM.out;omega)⟩;obtain ⟨z0,z1⟩:=HO.out z (List.mem_of_getElem? hz);obtain ⟨zn,rfl⟩:∃ zn:Nat,z=(zn:Int):=⟨z.toNat,by omega⟩;have hzn:zn<all.length:=by have:=HAL.out;omega
     obtain ⟨B',d',eB,-,hB⟩:=HOU.out;injection eB with eB1 eB2 eB3
     subst eB1;obtain ⟨bo,oo,rfl,hdo⟩:=hB (by have:=HM.out;omega);have o0:=(((K.out.trans KR.out).trans KZ.out).cell (p:=⟨bo,oo+i,none⟩) (Bg (hdo i _ hz))).trans (hdo i _ hz);obtain ⟨ba,oa,c9,s9,e9,-,t9,hs9⟩:=HALL.out.row hzn;injection e9 with e9 e8 e7
     subst e9;have t8:=(KZ.out.cell (p:=⟨ba,oa+zn,none⟩) (Bg t9)).trans t9;obtain ⟨g1,g2⟩:=GD.out.at hzn;have HCC:=hid (Acc (hs9.kept KZ.out) (by rw [g2];omega) (by have:=HK.out;rw [g2];omega));obtain ⟨As,cs,rfl,-⟩:=hs9;have NE:=hid (show all.getD zn []≠[] from fun e=>by rw [e] at g2;simp at g2);have HZ:=hid (show (outs.take (i+1)).map (fun n=>Qa all n)=(outs.take i).map (fun n=>Qa all n)++[all.getD zn []] by
      rw [List.take_add_one,hz,List.map_append];rfl)
     have hlen:((outs.take i).map fun n=>Qa all n).length≤1000:=by rw [List.length_map,List.length_take];omega
     have hW7:V1.heap.size≤wr.heap.size:=KZ.out.size;have hna:(zn:Int)<(j:Int):=by have:=HAL.out;omega
     generalize all.getD zn []=rw9 at *;clear hdo hB eB2 eB3 hz t9 g1 g2 z0 z1 e8 e7;go_wp2_with fail;refine HCC.out.mono ?_;rintro e w4 ⟨q4,v',ys,rfl,hoi⟩;have HF4:=hid (And.intro (hoi.low KZ.out.size) (fun (j:Nat) (u:Value) (hu:xs'[j]?=some u) (g:Nat) (hg:v'.ownBlock=some g) (e:u.ownBlock=some g)=>show False from absurd (OWN.out.blt hu e).2 (Nat.not_lt.2 (hoi.base g hg))));have hS4:=hoi.ivS;obtain ⟨A4,c4,rfl,-⟩:=hS4;have HV4:=hid hoi.ivS;have OW4:=hid (OWN.out.kept q4);have K4:=hid (KZ.out.trans q4);have hW6:V1.heap.size≤w4.heap.size:=K4.out.size;clear hoi o0 t8 OWN HCC;simp only []
     go_wp2_with (at_builtin;refine Hu rfl (.tmp 45) (.tmp 51) rfl rfl (OW4.out.kept (Ad _ _)).own (HV4.out.kept (Ad _ _)) (Ag (heap_alloc_new _ _) 0 _ rfl) rfl hlen (Nat.le_trans hW6 (by simp)) ?_;intro v' X OX gX)
     have KX:=hid (OwnR.grown_kept (OW4.out.kept (Ad _ _)).own (K4.out.trans (Ad _ _)) gX);have OXS:=(OW4.out.kept (Ad _ _)).snoc OX gX (HF4.out.1.kept (Ad _ _)) NE.out HF4.out.2;rw [←HZ.out] at OXS;have OXX:=hid OXS;clear OX OXS gX OW4 HV4 HF4 NE q4;go_wp2_with fail;go_roundw
     case rel=>exact ⟨i+1,_,by omega,by go_num,OXX.out,KX.out⟩
     case measure=>simp [intOf];omega
    ·obtain rfl:i=m:=by omega
     have hfin:=OWN.out;rw [List.take_of_length_le (by have:=HM.out;omega)] at hfin;have FI:=hid hfin;clear hfin OWN;go_wp2_with fail;go_ret;refine ⟨K.out.trans (KR.out.trans KZ.out),.inl ?_⟩;rw [UU.out];exact ⟨rfl,_,_,rfl,FI.out.low (Nat.le_trans K.out.size hW8)⟩
theorem Ady {tm:Bool}{ov:Iv→Nat→Outc Iv}{w:World}{vt vs vx vq:Value}{ls:List Ln}{outs:List Int}{t:List RawI}{x q:List (List RawI)}{k p:Nat}(hv:TpR w vt ls outs)(ht:tm=true→IvS w vs t)(hx:Rws w vx x)(hq:Rws w vq q)
 (hL:∀ i l,ls[i]?=some l→Aa0 tm ov p k t x q i l) (ho:∀ n∈outs,0≤n∧n<(ls.length:Int)) (hn:ls.length≤200) (hm:outs.length≤200) (hk:k≤900) (hT:Tab w) :
 Calls Tryz.prog 216 #[.agg #[.int .i64 p],vt,vs,vx,vq,.int .i64 k] w (L3 (D4 ov p ls outs t x q k) w) :=
 (Adz hv ht hx hq hL ho hn hm hk hT).mono fun _ _ h=>h.all
theorem Ra {P:Program}{w w':World}{o:Oper}{a:Act}(s x:Operand)(t:TypeId){vs vx v':Value}
 (ho:o.op=.call { callee:=.builtin .append,args:=#[s,x],argTypes:=#[t,t] }) (hs:a.eval s=vs) (hx:a.eval x=vx)
 (hr:(Builtin.append_ #[t,t] o.type #[vs,vx]).run P w=.ok v' w'):(execOp a.eval o).run P w=.ok (.value v') w':=by
 unfold execOp;simp only [ho,resolve,invoke,builtin,Sem.run_bind,Sem.run_pure,Result.andThen_ok,List.map_toArray,List.map_cons,List.map_nil,hs,hx,hr]
theorem Zm {w:World}{b off c:Nat}{a:RawI}{x0 x1 x2 x3 x4 x5:Value}(c0:w.cell? ⟨b,off,none⟩=some x0)(c1:w.cell? ⟨b,off+1,none⟩=some x1)(c2:w.cell? ⟨b,off+2,none⟩=some x2)(c3:w.cell? ⟨b,off+3,none⟩=some x3)
 (c4:w.cell? ⟨b,off+4,none⟩=some x4) (c5:w.cell? ⟨b,off+5,none⟩=some x5) (hI:IvR w (.agg #[x0,x1,x2,x3,x4,x5]) a) :
 Calls Tryz.prog 212 #[.slice (some ⟨b,off,none⟩) 1 c] w fun e w'=>Kept w w'∧∃ v',e=.returned v'∧OwnI w' w.heap.size v' [a] [x0,x1,x2,x3,x4,x5]:=by
 obtain ⟨i0,hi,hz0,hz1,hz2⟩:=info_parts Ps;have e1:=fun (w:World)=>Lib.run_eql_slice_nil (P:=Tryz.prog) w 26 51 (some ⟨b,off,none⟩) 1 c 0 0 Tryz.underlying26
 obtain ⟨W,hW⟩:∃ W,W=w.alloc (.cells #[] 51):=⟨_,rfl⟩;have kW:Kept w W:=by rw [hW];exact Ad _ _
 have hown:W.ownsRow w.heap.size 51 6 (.slice (some ⟨w.heap.size,0,none⟩) 0 0) 0 []:=by rw [hW];exact World.ownsRow_made w #[] 0 (Nat.le_refl _) (by decide) rfl
 have hnol:∀ g,(Value.slice (some ⟨w.heap.size,0,none⟩) 0 0).ownBlock=some g→NoL W g:=by
  intro g hg;obtain rfl:w.heap.size=g:=Option.some.inj hg;exact ⟨_,_,by rw [hW];exact heap_alloc_new _ _,by simp⟩
 have hcl:=hI.cells;have ad:∀ j,(⟨b,off,none⟩:Addr).add j=⟨b,off+j,none⟩:=by intro j;unfold Addr.add;split<;>simp_all
 have q2:∀ (j:Nat) (u:Value),[x0,x1,x2,x3,x4,x5][j]?=some u→W.cell? ⟨b,off+j,none⟩=some u:=by
  intro j u hj;have hk:∀ i v,w.cell? ⟨b,off+i,none⟩=some v→W.cell? ⟨b,off+i,none⟩=some v:=fun i v hv=>(kW.cell (p:=⟨b,off+i,none⟩) (Bg hv)).trans hv
  rcases j with _ | _ | _ | _ | _ | _ | j
  ·cases hj;exact hk 0 _ c0
  ·cases hj;exact hk 1 _ c1
  ·cases hj;exact hk 2 _ c2
  ·cases hj;exact hk 3 _ c3
  ·cases hj;exact hk 4 _ c4
  ·cases hj;exact hk 5 _ c5
  ·simp at hj
 have hsz:w.heap.size≤W.heap.size:=kW.size;have Q2:=hid q2;have CL:=hid hcl;have HI:=hid (hI.kept kW);have HO:=hid hown;have HN:=hid hnol;have K:=hid kW;have HW:=hid hW;have AD:=hid ad;clear hown hnol q2 kW hW ad c0 c1 c2 c3 c4 c5 hI hcl;go_enter Tryz.func212,Tryz.ntmps212;go_upto_region 3 with fail
 go_wp2_with (at_builtin;rw [←HW.out];refine Gn rfl (.tmp 5) (.tmp 6) _ rfl w.heap.size 51 i0 _ 6 80 Tryz.underlying26 hi hz0 hz1 hz2 rfl (by decide) _ 0 [] rfl HO.out ⟨b,off,none⟩ 1 c [x0,x1,x2,x3,x4,x5] rfl rfl (fun j u hj=>by rw [AD.out];exact Q2.out j u hj) (fun u hu=>(CL.out u hu).2) (by unfold maxLen;omega) (by omega) hsz (by decide) (by simp) (fun u hu=>(CL.out u hu).1) Ic HN.out ?_;intro v' w' g' o1 o2 o3 o4)
 have kk:Kept w w':=Below.grown K.out o2 hsz (fun g hg=>Nat.le_of_eq (Option.some.inj hg));have own:OwnI w' w.heap.size v' [a] [x0,x1,x2,x3,x4,x5]:=by
  refine ⟨by simpa using o1,fun u hu=>(CL.out u hu).1,fun u hu=>(CL.out u hu).2,?_,?_⟩
  ·intro g hg;rw [o3] at hg;cases hg;exact o4
  ·intro i d hi;rcases i with _ | i
   ·obtain rfl:a=d:=by simpa using hi
    exact ⟨_,_,_,_,_,_,rfl,rfl,rfl,rfl,rfl,rfl,HI.out.grown o2 HN.out⟩
   ·simp at hi
 have FI:=hid (And.intro kk own);clear kk own o1 o2 o3 o4;go_wp2;go_ret;exact ⟨FI.out.1,_,rfl,FI.out.2⟩
theorem Ae0 {w:World}{B:Nat}{v:Value}{l:List RawI}{d:RawI}{xs:List Value}{t0 t1 t2 t3 t4 t5:Value}{bt:Nat}(ty:TypeId)(ho:OwnI w B v l xs)(hnil:l=[]→v=.slice none 0 0∨∃ g,v=.slice (some ⟨g,0,none⟩) 0 0)(hl:l.length≤1000)(hB:B≤w.heap.size)
 (hb:BlkI w bt t0 t1 t2 t3 t4 t5) (hd:IvR w (.agg #[t0,t1,t2,t3,t4,t5]) d) :
 ∃ v' w' g', (Builtin.append_ #[26, 26] ty #[v, .slice (some ⟨bt, 0, none⟩) 1 1]).run Tryz.prog w = .ok v' w' ∧ OwnI w' B v' (l ++ [d]) (xs ++ [t0, t1, t2, t3, t4, t5]) ∧ w.grownBy w' v.ownBlock ∧
   (∀ (b:Nat) (cs:Array Value) (T:TypeId),w.heap[b]?=some (.cells cs T (0,0))→cs.size<12→w'.heap[b]?=some (.cells cs T (0,0))) ∧
   (∀ g,(∀ (j:Nat) (u:Value),(xs++[t0,t1,t2,t3,t4,t5])[j]?=some u→w.cell? ⟨g,j,none⟩=some u)→∀ (j:Nat) (u:Value),(xs++[t0,t1,t2,t3,t4,t5])[j]?=some u→w'.cell? ⟨g,j,none⟩=some u) ∧
   (∀ v2,OwnI w B v2 l xs→OwnI w' B v2 l xs)∧v'.ownBlock=some g'∧(v.ownBlock=some g'∨w.heap.size≤g'):=by
 obtain ⟨i0,hi,hz0,hz1,hz2⟩:=info_parts Ps;obtain ⟨-,c0,c1,c2,c3,c4,c5⟩:=hb.facts;have hcl:=hd.cells;have ad:∀ (b j:Nat),(⟨b,0,none⟩:Addr).add j=⟨b,j,none⟩:=by intro b j;unfold Addr.add;split<;>simp_all
 have hnews:∀ (j:Nat) (u:Value),[t0,t1,t2,t3,t4,t5][j]?=some u→w.cell? ((⟨bt,0,none⟩:Addr).add j)=some u:=by
  intro j u hu;rw [ad];rcases j with _ | _ | _ | _ | _ | _ | j
  ·cases hu;exact c0
  ·cases hu;exact c1
  ·cases hu;exact c2
  ·cases hu;exact c3
  ·cases hu;exact c4
  ·cases hu;exact c5
  ·simp at hu
 obtain ⟨v',w',g',hr,h2,h3,h4,h5⟩:=Iq (P:=Tryz.prog) w B 26 ty 51 i0 _ 6 80 Tryz.underlying26 hi hz0 hz1 hz2 rfl (by decide) v l.length xs ho.row ⟨bt,0,none⟩ 1 1 [t0,t1,t2,t3,t4,t5] rfl hnews (fun u hu=>(hcl u hu).2) (by unfold maxLen;omega) (by omega) hB (by decide) ho.nl (fun u hu=>(hcl u hu).1) Ic ho.blk;have hown':=ho.snoc hd h2 h3 h4 h5;rcases ho.row.2 with ⟨rfl,h0⟩ | ⟨g,cap,cur,rfl,hbg,hg,hnc,hcm,hcs,htake⟩
 ·obtain rfl:l=[]:=List.eq_nil_of_length_eq_zero h0;have hr2:=run_append_nil (P:=Tryz.prog) w 26 ty 51 i0 _ Tryz.underlying26 hi hz0 ⟨bt,0,none⟩ 1 1 [t0,t1,t2,t3,t4,t5] (by rw [hz1];rfl) hnews (by decide) (by decide) (by rw [hz2];decide);rw [hr2] at hr;injection hr with e1 e2
  have kk:Kept w w':=by rw [←e2];exact (Below.refl _ _).drew.alloc (Nat.le_refl _) _
  have hg':w.heap.size=g':=by rw [←e1] at h4;simpa [Value.ownBlock] using h4
  rw [e1,e2] at hr2;exact ⟨_,_,g',hr2,hown',h3,fun b cs T hb2 _=>(kk.block b (Array.getElem?_eq_some_iff.1 hb2).1).trans hb2,fun g2 hh j u hj=>(kk.cell (p:=⟨g2,j,none⟩) (Bg (hh j u hj))).trans (hh j u hj),fun v2 o2=>o2.kept kk,h4,.inr (Nat.le_of_eq hg')⟩
 have h3':w.grownBy w' (some g):=h3;have oth:∀ (b:Nat) (o:Obj),b≠g→w.heap[b]?=some o→w'.heap[b]?=some o:=fun b o hne hb'=>by
  rw [h3'.block b (Array.getElem?_eq_some_iff.1 hb').1 (fun e=>hne (Option.some.inj e))];exact hb'
 have othc:∀ b j u,b≠g→w.cell? ⟨b,j,none⟩=some u→w'.cell? ⟨b,j,none⟩=some u:=fun b j u hne hb'=>by
  have:=h3'.block b (Bg hb') (fun e=>hne (Option.some.inj e));simp only [World.cell?,this];simpa only [World.cell?] using hb'
 by_cases hroom:l.length+1≤cap
 ·have hn:0<l.length:=by
   by_cases e:l=[]
   ·subst e;rcases hnil rfl with e | ⟨g9,e⟩<;>injection e with e1 e2 e3
    ·cases e1
    ·subst e3;simp at hroom
   ·exact List.length_pos_iff.2 e
  have hsz:12≤cur.size:=by rw [hcs];omega
  have hr2:=run_append_room (P:=Tryz.prog) w 26 ty 51 i0 Tryz.underlying26 hi g l.length cap cur hg ⟨bt,0,none⟩ 1 1 [t0,t1,t2,t3,t4,t5] (by rw [hz1];rfl) hnews (fun u hu=>(hcl u hu).2) hroom (by rw [hz1,hcs];simp only [List.length_cons,List.length_nil];omega);rw [hz1] at hr2;rw [hr2] at hr;injection hr with e1 e2
  subst e1;subst e2;obtain rfl:g=g':=by simpa [Value.ownBlock] using h4
  refine ⟨_,_,g,hr2,hown',h3,?_,?_,?_,rfl,.inl rfl⟩
  ·intro b cs T hb2 hlt;refine oth b _ ?_ hb2;rintro rfl;rw [hg] at hb2;injection hb2 with hb2
   injection hb2 with hb2
   subst hb2;omega
  ·intro g2 hh j u hj;by_cases e:g2=g
   ·subst e;have:=h2.cells (g:=g2) rfl j u hj;rwa [ad] at this
   ·exact othc g2 j u e (hh j u hj)
  ·intro v2 o2;rcases o2.row.2 with ⟨-,h0⟩ | ⟨g2,cap2,cur2,rfl,hbg2,hgg2,hnc2,hcm2,hcs2,htake2⟩
   ·omega
   by_cases e:g2=g
   ·subst e;rw [hg] at hgg2;injection hgg2 with hgg2
    injection hgg2 with hgg2
    subst hgg2;refine ⟨⟨o2.row.1,.inr ⟨g2,cap2,_,rfl,hbg2,setRow_heap w g2 cur _ _ _ hg,hnc2,hcm2,?_,?_⟩⟩,o2.nl,o2.one,?_,?_⟩
    ·simp only [List.size_toArray,List.length_append,List.length_take,List.length_drop,Array.length_toList,List.length_cons,List.length_nil];omega
    ·rw [List.append_assoc,List.take_append_of_le_length (by simp only [List.length_take,Array.length_toList];omega),List.take_take,Nat.min_self];exact htake2
    ·intro gg hgg;obtain rfl:g2=gg:=by simpa [Value.ownBlock] using hgg
     exact h5
    ·intro i a hi2;obtain ⟨p0,p1,p2,p3,p4,p5,s0,s1,s2,s3,s4,s5,hJ⟩:=o2.ivs i a hi2;exact ⟨p0,p1,p2,p3,p4,p5,s0,s1,s2,s3,s4,s5,hJ.grown h3 ho.blk⟩
   ·refine ⟨⟨o2.row.1,.inr ⟨g2,cap2,cur2,rfl,hbg2,oth g2 _ e hgg2,hnc2,hcm2,hcs2,htake2⟩⟩,o2.nl,o2.one,?_,?_⟩
    ·intro gg hgg;obtain rfl:g2=gg:=by simpa [Value.ownBlock] using hgg
     obtain ⟨cur3,e3,r1,r2⟩:=o2.blk g2 rfl;exact ⟨cur3,e3,oth g2 _ e r1,r2⟩
    ·intro i a hi2;obtain ⟨p0,p1,p2,p3,p4,p5,s0,s1,s2,s3,s4,s5,hJ⟩:=o2.ivs i a hi2;exact ⟨p0,p1,p2,p3,p4,p5,s0,s1,s2,s3,s4,s5,hJ.grown h3 ho.blk⟩
 ·have holds:∀ j u,xs[j]?=some u→w.cell? ((⟨g,0,none⟩:Addr).add j)=some u:=ho.row.cells (g:=g) rfl;have hr2:=run_append_grow (P:=Tryz.prog) w 26 ty 51 i0 _ Tryz.underlying26 hi hz0 ⟨g,0,none⟩ l.length cap xs (by rw [hz1];exact ho.row.1) holds ⟨bt,0,none⟩ 1 1 [t0,t1,t2,t3,t4,t5] (by rw [hz1];rfl) hnews (by omega) (by omega) (growslice_fits (by omega) (by rw [hz2];omega));rw [hr2] at hr;injection hr with e1 e2
  have kk:Kept w w':=by rw [←e2];exact (Below.refl _ _).drew.alloc (Nat.le_refl _) _
  have hg':w.heap.size=g':=by rw [←e1] at h4;simpa [Value.ownBlock] using h4
  rw [e1,e2] at hr2;refine ⟨_,_,g',hr2,hown',h3,fun b cs T hb2 _=>(kk.block b (Array.getElem?_eq_some_iff.1 hb2).1).trans hb2,fun g2 hh j u hj=>(kk.cell (p:=⟨g2,j,none⟩) (Bg (hh j u hj))).trans (hh j u hj),fun v2 o2=>o2.kept kk,h4,.inr (Nat.le_of_eq hg')⟩
theorem Aa6 {w:World}{B:Nat}{v:Value}{l:List RawI}{d:RawI}{xs:List Value}{t0 t1 t2 t3 t4 t5:Value}{bt:Nat}(ty:TypeId)(ho:OwnI w B v l xs)(hn:0<l.length)(hl:l.length≤1000)(hB:B≤w.heap.size)
 (hb:BlkI w bt t0 t1 t2 t3 t4 t5) (hd:IvR w (.agg #[t0,t1,t2,t3,t4,t5]) d) :
 ∃ v' w', (Builtin.append_ #[26, 26] ty #[v, .slice (some ⟨bt, 0, none⟩) 1 1]).run Tryz.prog w = .ok v' w' ∧ OwnI w' B v' (l ++ [d]) (xs ++ [t0, t1, t2, t3, t4, t5]) ∧ w.grownBy w' v.ownBlock ∧
   (∀ (b:Nat) (cs:Array Value) (T:TypeId),w.heap[b]?=some (.cells cs T (0,0))→cs.size<12→w'.heap[b]?=some (.cells cs T (0,0))) ∧
   (∀ g,(∀ (j:Nat) (u:Value),(xs++[t0,t1,t2,t3,t4,t5])[j]?=some u→w.cell? ⟨g,j,none⟩=some u)→∀ (j:Nat) (u:Value),(xs++[t0,t1,t2,t3,t4,t5])[j]?=some u→w'.cell? ⟨g,j,none⟩=some u) ∧
   (∀ v2,OwnI w B v2 l xs→OwnI w' B v2 l xs):=by
 obtain ⟨v',w',g',h1,h2,h3,h4,h5,h6,-⟩:=Ae0 ty ho (fun e=>by rw [e] at hn;simp at hn) hl hB hb hd;exact ⟨v',w',h1,h2,h3,h4,h5,h6⟩
theorem Acf {w:World}{v:Value}{l:List RawI}{g:RawI→Bool}(hv:IvS w v l)(hn:l.length≤1000000000)
 (h:∀ w1 y,Kept w w1→∀ x,x∈l→IvR w1 y x→Calls Tryz.prog 233 #[y] w1 (RetK (.bool (g x)) w1)) :
 Calls Tryz.prog 90 #[v,.func (.func 233) #[] #[]] w (R9 l g w):=by
 obtain ⟨A,c,rfl,hc,hA⟩:=hv;have HG:=hid h;have HA:=hid hA;clear h hA;obtain ⟨n,hn'⟩:∃ n,n=l.length:=⟨_,rfl⟩;rw [←hn'] at hn hc HA ⊢;have HN:=hid hn';clear hn';go_enter Tryz.func90,Tryz.ntmps90;go_wp2_with fail
 go_loopw [8] (fun t wr=>∃ k:Nat,k≤n∧t=.int .i64 k∧(∀ i x,i<k→l[i]?=some x→g x=false)∧Kept w wr) (fun t _=>(n-intOf t).toNat)
 case atStart=>exact ⟨0,Nat.zero_le _,rfl,fun i a hi=>absurd hi (Nat.not_lt_zero _),Below.refl _ _⟩
 case round =>
  obtain ⟨k,hk,rfl,hall,hKr⟩:=hrel;have KR:=hid hKr;have AL:=hid hall;clear hKr hall;by_cases hlt:k<n
  ·obtain ⟨b,off,rfl,hd⟩:=HA.out (by omega);obtain ⟨x,hx⟩:∃ x,l[k]?=some x:=⟨_,List.getElem?_eq_getElem (by have:=HN.out;omega)⟩;obtain ⟨y0,y1,y2,y3,y4,y5,g0,g1,g2,g3,g4,g5,hI⟩:=(hd k x hx).kept KR.out;have HX:=hid hx;have hm:=HG.out wr _ KR.out x (List.mem_of_getElem? hx) hI;obtain ⟨gx,hgx⟩:∃ y,y=g x:=⟨_,rfl⟩;rw [←hgx] at hm;have HM:=hid hm;have HGX:=hid hgx;clear hd hx hm hgx hI;go_wp2_with fail;refine HM.out.mono ?_;rintro e w2 ⟨rfl,q⟩;have K2:=hid (KR.out.trans q);clear q g0 g1 g2 g3 g4 g5;simp only [];cases gx
   ·go_wp2_with fail;go_roundw
    case rel =>
     refine ⟨k+1,by omega,by go_num,fun i a hi ha'=>?_,K2.out⟩;by_cases h2:i=k
     ·subst h2;rw [HX.out] at ha';cases ha';exact HGX.out.symm
     ·exact AL.out i a (by omega) ha'
    case measure=>simp only [intOf];omega
   ·go_wp2_with fail;go_ret;exact ⟨k,rfl,by rw [Mi HX.out HGX.out.symm];simp,K2.out⟩
  ·obtain rfl:k=n:=by omega
   go_wp2_with fail;go_ret;exact ⟨-1,rfl,by rw [Ky (fun i x hi hx=>AL.out i x (by have:=HN.out;omega) hx)];decide,KR.out⟩
theorem Ua {w:World}{v:Value}{l:List RawI}{g:RawI→Bool}(hv:IvS w v l)(hn:l.length≤1000000000)
 (h:∀ w1 y,Kept w w1→∀ x,x∈l→IvR w1 y x→Calls Tryz.prog 233 #[y] w1 (RetK (.bool (g x)) w1)) :
 Calls Tryz.prog 53 #[v,.func (.func 233) #[] #[]] w (RetK (.bool (l.any g)) w):=by
 have C:=hid (Acf hv hn h);obtain ⟨A,c,rfl,-,-⟩:=hv;clear hn h;go_enter Tryz.func53,Tryz.ntmps53;go_wp2_with fail;refine C.out.mono ?_;rintro e w2 ⟨r,rfl,hr,q⟩;have Q:=hid q;have HR:=hid hr;clear q hr C;simp only [];go_wp2_with fail;go_ret;exact ⟨by rw [←HR.out];rfl,Q.out⟩
theorem Afh {w:World}{v:Value}{a:RawI}(hv:IvR w v a)(hl:a.lens 17592186044416):Calls Tryz.prog 233 #[v] w (RetK (.bool (!Ck a)) w):=by
 obtain ⟨x0,x1,x2,x3,x4,x5,rfl,-,-⟩:=(show IvR _ _ _ from hv);obtain ⟨W,hW,kW,hb,-⟩:=Ae4 w x0 x1 x2 x3 x4 x5;have M:=hid (Nl (hv.kept kW) hl);obtain ⟨f,hf⟩:∃ f,Ck a=f:=⟨_,rfl⟩;rw [hf] at M ⊢;obtain ⟨-,c0,c1,c2,c3,c4,c5⟩:=hb.facts;have HW:=hid hW;clear hf hv hl hb hW;go_enter Tryz.func233,Tryz.ntmps233;go_upto_region 1 with fail;rw [←HW.out];go_wp2_with fail;refine M.out.mono ?_;rintro e w2 ⟨rfl,q⟩;simp only [];go_wp2_with fail;go_ret;exact ⟨rfl,kW.trans q⟩
def Adw (k:Int) (c:List RawI):Bool:=decide ((c.length:Int)=k+1)&&c.all Ck
theorem Aez (l:List RawI):(l.any fun a=>!Ck a)=!l.all Ck:=by
 induction l with
 | nil=>rfl
 | cons a l ih=>simp only [List.any_cons,List.all_cons,ih,Bool.not_and]
theorem Abx {w:World}{v:Value}{rows:List (List RawI)}{k:Int}(hv:Rws w v rows)(hn:rows.length≤1000000000)(hl:∀ r∈rows,r.length≤1000000000∧∀ a∈r,a.lens 17592186044416)(k1:-1≤k)(k2:k≤2000000000) :
 Calls Tryz.prog 211 #[v,.int .i64 k] w (RetK (.bool (Lq rows k)) w):=by
 obtain ⟨A,c,rfl,hc,hA⟩:=hv;have HA:=hid hA;have HL:=hid hl;clear hA hl;obtain ⟨n,hn'⟩:∃ n,n=rows.length:=⟨_,rfl⟩;rw [←hn'] at hn hc HA ⊢;have HN:=hid hn';clear hn';have hwk:IntKind.i64.wrap (k+1)=k+1:=by simp [IntKind.wrap_i64];omega
 go_enter Tryz.func211,Tryz.ntmps211;go_wp2_with fail
 go_loopw [9] (fun t wr=>∃ j:Nat,j≤n∧t=.int .i64 j∧(∀ i r,i<j→rows[i]?=some r→Adw k r=true)∧Kept w wr) (fun t _=>(n-intOf t).toNat)
 case atStart=>exact ⟨0,Nat.zero_le _,rfl,fun i a hi=>absurd hi (Nat.not_lt_zero _),Below.refl _ _⟩
 case round =>
  obtain ⟨j,hj,rfl,hall,hKr⟩:=hrel;have KR:=hid hKr;have AL:=hid hall;clear hKr hall;by_cases hlt:j<n
  ·obtain ⟨b,off,rfl,hD⟩:=HA.out (by omega);obtain ⟨r,hr⟩:∃ r,rows[j]?=some r:=⟨_,List.getElem?_eq_getElem (by have:=HN.out;omega)⟩;obtain ⟨s,hs,hS⟩:=hD j r hr;have hs2:=(KR.out.cell (p:=⟨b,off+j,none⟩) (Bg hs)).trans hs;have hS2:=hS.kept KR.out;have hlr:=HL.out r (List.mem_of_getElem? hr);have HC:=hid (Ua (g:=fun a=>!Ck a) hS2 hlr.1 (fun w1 y kq x hx hy=>Afh hy (hlr.2 x hx)));rw [Aez] at HC;have HRJ:=hid hr;obtain ⟨A2,c2,rfl,-,-⟩:=hS2;clear hs hS hD hr hlr;by_cases hk:(r.length:Int)=k+1
   ·obtain ⟨mb,hmb⟩:∃ mb,mb=r.all Ck:=⟨_,rfl⟩;rw [←hmb] at HC;have hrow:Adw k r=mb:=by unfold Adw;rw [hk];simp [hmb]
    have HROW:=hid hrow;clear hmb hrow;go_wp2_with fail;refine HC.out.mono ?_;rintro e w2 ⟨rfl,q⟩;have K2:=hid (KR.out.trans q);clear q hs2;simp only [];cases mb
    ·go_wp2_with fail;go_ret;exact ⟨by
      have:Lq rows k=false:=by
       unfold Lq;rw [List.all_eq_false];refine ⟨r,List.mem_of_getElem? HRJ.out,?_⟩;have:=HROW.out;unfold Adw at this;rw [this];simp
      rw [this];rfl,K2.out⟩
    ·go_wp2_with fail;go_roundw
     case rel =>
      refine ⟨j+1,by omega,by go_num,fun i x hi hx=>?_,K2.out⟩;by_cases hij:i=j
      ·subst hij;rw [HRJ.out] at hx;injection hx with hx
       rw [←hx,HROW.out]
      ·exact AL.out i x (by omega) hx
     case measure=>simp [intOf];omega
   ·have hkb:((r.length:Int) != k+1)=true:=by simpa using hk
    have HKK:=hid hk;go_wp2_with fail;go_ret;exact ⟨by
     have:Lq rows k=false:=by
      unfold Lq;rw [List.all_eq_false];refine ⟨r,List.mem_of_getElem? HRJ.out,?_⟩;simp [HKK.out]
     rw [this];rfl,KR.out⟩
  ·obtain rfl:j=n:=by omega
   go_wp2_with fail;go_ret;exact ⟨by
    have:Lq rows k=true:=by
     unfold Lq;rw [List.all_eq_true];intro r hr;obtain ⟨i,hi,rfl⟩:=List.getElem_of_mem hr;have:=AL.out i _ (by have:=HN.out;omega) (List.getElem?_eq_getElem hi);unfold Adw at this;exact this
    rw [this];rfl,KR.out⟩
theorem Ai9 (w:World)(p:Int):∃ W,W=w.alloc (.cells #[.int .i64 p] 195)∧Kept w W∧W.heap[w.heap.size]?=some (.cells #[.int .i64 p] 195 (0,0)) :=
 ⟨_,rfl,Ad _ _,heap_alloc_new _ _⟩
end Go.Proofs.YtmgaloopddiekaaGreatDoor
