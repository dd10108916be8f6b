/- Words and contracts, part 27. -/
import Derived.Test.YtmgaloopddiekaaGreatDoorClaimFargsp25
import Derived.Test.YtmgaloopddiekaaGreatDoorClaimFargsp26
set_option maxRecDepth 100000
set_option maxHeartbeats 0
namespace Go.Proofs.YtmgaloopddiekaaGreatDoor
open Go.Lib (hid)
open Go.RowKit
theorem Lim.grown {w w':World}{v:Value}{xs:List Nat}{row:Option Nat}(h:Lim w v xs)(hg:w.grownBy w' row)(hN:∀ g,row=some g→NoL w g):Lim w' v xs:=by
 obtain ⟨hs,A,c,rfl,hc,hA⟩:=h;refine ⟨hs,A,c,rfl,hc,fun h0=>?_⟩;obtain ⟨b,off,rfl,hb,hd⟩:=hA h0;refine ⟨b,off,rfl,Nat.lt_of_lt_of_le hb hg.size,fun i hi=>?_⟩;refine hg.cell (hd i hi) ?_;intro he;obtain ⟨cur,e,h1,h2⟩:=hN b he.symm;have h3:=hd i hi;simp only [World.cell?,h1] at h3;have h4:cur[off+i]?=some (.int .u64 (nth xs i)):=by simpa using h3
 exact h2 _ (Array.mem_toList_iff.2 (Array.mem_of_getElem? h4)) _ rfl
theorem DyR.grown {w w':World}{v:Value}{r:Raw}{row:Option Nat}(h:DyR w v r)(hg:w.grownBy w' row)(hN:∀ g,row=some g→NoL w g):DyR w' v r:=by
 obtain ⟨s,rfl,hs,h1,h2⟩:=h;exact ⟨s,rfl,hs.grown hg hN,h1,h2⟩
theorem Ajc:(Tryz.prog.info? 30).map (fun i=>(i.zero,i.size,i.bytes))=some (some (.agg #[.bool false,.slice none 0 0,.int .i64 0]),3,40):=by kernel_rfl
structure OwnS (w:World) (base:Nat) (v:Value) (l:List Dy) (xs:List Value):Prop where
 row:w.ownsRow base 30 3 v l.length xs
 nl:∀ u∈xs,Bv u
 one:∀ u∈xs,u.oneCell'=true
 blk:∀ g,v.ownBlock=some g→NoL w g
 dys:∀ i d,l[i]?=some d→∃ s,xs[i*3]?=some (.bool d.neg)∧xs[i*3+1]?=some s∧xs[i*3+2]?=some (.int .i64 d.e)∧DyR w (.agg #[.bool d.neg,s,.int .i64 d.e]) d.raw
theorem OwnS.nil (w:World)(base:Nat):OwnS w base (.slice none 0 0) [] [] :=
 ⟨World.ownsRow_nil _ _ _ _,by simp,by simp,(by intro g h;simp [Value.ownBlock] at h),by simp⟩
theorem OwnS.kept {w w':World}{base:Nat}{v:Value}{l:List Dy}{xs:List Value}(h:OwnS w base v l xs)(k:Kept w w'):OwnS w' base v l xs:=by
 obtain ⟨h1,h2,h2',h3,h4⟩:=h;refine ⟨⟨h1.1,?_⟩,h2,h2',?_,?_⟩
 ·rcases h1.2 with hn | ⟨g,cap,cur,rfl,hb,hg,rest⟩
  ·exact .inl hn
  ·exact .inr ⟨g,cap,cur,rfl,hb,(k.block g (Array.getElem?_eq_some_iff.1 hg).1).trans hg,rest⟩
 ·intro g hg;have:=h3 g hg;obtain ⟨cur,e,q1,q2⟩:=this;exact ⟨cur,e,(k.block g (Array.getElem?_eq_some_iff.1 q1).1).trans q1,q2⟩
 ·intro i d hi;obtain ⟨s,a,b,c,hd⟩:=h4 i d hi;exact ⟨s,a,b,c,hd.kept k⟩
theorem OwnS.dyS {w:World}{base:Nat}{v:Value}{l:List Dy}{xs:List Value}(h:OwnS w base v l xs):DyS w v l:=by
 obtain ⟨h1,h2,h2',h3,h4⟩:=h;have hc:=h1.2;rcases hc with ⟨rfl,h0⟩ | ⟨g,cap,cur,rfl,hb,hg,hn,-⟩
 ·obtain rfl:l=[]:=List.eq_nil_of_length_eq_zero h0;exact ⟨none,0,rfl,Nat.le_refl _,fun h=>absurd h (by simp)⟩
 ·refine ⟨_,cap,rfl,hn,fun _=>⟨g,0,rfl,fun i d hi=>?_⟩⟩;obtain ⟨s,a,b,c,hd⟩:=h4 i d hi;have cl:=h1.cells (g:=g) rfl;have ad:∀ j,(⟨g,0,none⟩:Addr).add j=⟨g,j,none⟩:=by intro j;unfold Addr.add;split<;>simp_all
  refine ⟨s,?_,?_,?_,hd⟩
  ·have:=cl _ _ a;rw [ad] at this;simpa using this
  ·have:=cl _ _ b;rw [ad] at this;simpa using this
  ·have:=cl _ _ c;rw [ad] at this;simpa using this
theorem OwnS.snoc {w w':World}{base:Nat}{v v':Value}{l:List Dy}{xs:List Value}{d:Dy}{A:Option Addr}{n c g':Nat}(h:OwnS w base v l xs)
 (hd:DyR w (.agg #[.bool d.neg,.slice A n c,.int .i64 d.e]) d.raw)
 (hr:w'.ownsRow base 30 3 v' (l.length+1) (xs++[.bool d.neg,.slice A n c,.int .i64 d.e])) (hg:w.grownBy w' v.ownBlock) (hv':v'.ownBlock=some g') (hN:NoL w' g') :
 OwnS w' base v' (l++[d]) (xs++[.bool d.neg,.slice A n c,.int .i64 d.e]):=by
 obtain ⟨h1,h2,h2',h3,h4⟩:=h;refine ⟨by simpa using hr,?_,?_,?_,?_⟩
 ·intro u hu;rcases List.mem_append.1 hu with hu | hu
  ·exact h2 u hu
  ·simp at hu;rcases hu with rfl | rfl | rfl
   ·exact An _
   ·exact Ak _ _ _
   ·exact Aq _
 ·intro u hu;rcases List.mem_append.1 hu with hu | hu
  ·exact h2' u hu
  ·simp at hu;rcases hu with rfl | rfl | rfl<;>rfl
 ·intro g hg;rw [hv'] at hg;cases hg;exact hN
 ·intro i e hi;have hxl:=h1.1;by_cases hlt:i<l.length
  ·rw [List.getElem?_append_left hlt] at hi;obtain ⟨s,a,b,c,hd'⟩:=h4 i e hi;have hh:=(List.getElem?_eq_some_iff.1 c).1;refine ⟨s,?_,?_,?_,hd'.grown hg h3⟩
   ·rw [List.getElem?_append_left (by omega)];exact a
   ·rw [List.getElem?_append_left (by omega)];exact b
   ·rw [List.getElem?_append_left (by omega)];exact c
  ·rw [List.getElem?_append_right (by omega)] at hi;obtain ⟨hz,he⟩:=List.getElem?_eq_some_iff.1 hi;simp at hz;have hi':i=l.length:=by omega
   subst hi';simp at he;subst he;refine ⟨.slice A n c,?_,?_,?_,hd.grown hg h3⟩
   ·rw [List.getElem?_append_right (by omega),hxl,show l.length*3-l.length*3=0 by omega];rfl
   ·rw [List.getElem?_append_right (by omega),hxl,show l.length*3+1-l.length*3=1 by omega];rfl
   ·rw [List.getElem?_append_right (by omega),hxl,show l.length*3+2-l.length*3=2 by omega];rfl
theorem D6 {w:World}{o:Oper}{a:Act}{K:Act→World→Prop}{Q:Exit→Act→World→Prop}(s x:Operand)
 (ho:o.op=.call { callee:=.builtin .append,args:=#[s,x],argTypes:=#[40,40] })
 {base:Nat} {v:Value} {l:List Dy} {xs:List Value} (hs:a.eval s=v) (hown:OwnS w base v l xs) {d:Dy} {A:Option Addr} {n c b:Nat}
 (hd:DyR w (.agg #[.bool d.neg,.slice A n c,.int .i64 d.e]) d.raw) (hb:Blk w b (.bool d.neg) (.slice A n c) (.int .i64 d.e)) (hx:a.eval x=.slice (some ⟨b,0,none⟩) 1 1)
 (hl:l.length≤1000) (hbase:base≤w.heap.size)
 (h:∀ v' w',OwnS w' base v' (l++[d]) (xs++[.bool d.neg,.slice A n c,.int .i64 d.e])→w.grownBy w' v.ownBlock→K (a.put o.dst v') w'):o.wp Tryz.prog a w K Q:=by
 obtain ⟨i0,hi,hz0,hz1,hz2⟩:=info_parts Ajc;obtain ⟨-,c0,c1,c2,-⟩:=hb.facts;have ad:∀ j,(⟨b,0,none⟩:Addr).add j=⟨b,j,none⟩:=by intro j;unfold Addr.add;split<;>simp_all
 refine Lz s x _ ho base 30 i0 (.agg #[.bool false,.slice none 0 0,.int .i64 0]) 3 40 Tryz.underlying40 hi hz0 hz1 hz2 rfl (by decide) v l.length xs hs hown.row _ 1 1 [.bool d.neg,.slice A n c,.int .i64 d.e] hx rfl ?_ ?_ (by unfold maxLen;omega) (by omega) hbase (by decide) hown.nl ?_ ?_ hown.blk ?_
 ·intro j u hu;rw [ad];rcases j with _ | _ | _ | j
  ·cases hu;exact c0
  ·cases hu;exact c1
  ·cases hu;exact c2
  ·simp at hu
 ·intro u hu;simp at hu;rcases hu with rfl | rfl | rfl<;>rfl
 ·intro u hu;simp at hu;rcases hu with rfl | rfl | rfl
  ·exact An _
  ·exact Ak _ _ _
  ·exact Aq _
 ·intro u hu;simp [Value.cells] at hu;rcases hu with rfl | rfl | rfl
  ·exact An _
  ·exact Ak _ _ _
  ·exact Aq _
 ·intro v' w' g' q1 q2 q3 q4;exact h v' w' (hown.snoc hd q1 q2 q3 q4) q2
theorem Wr (o1 o2 o3 o4:Outc Dy)(f g:Dy→Dy→Dy→Dy→Outc Dy) :
 Ge o1 o2 o3 o4 (fun x y z u=>Gp (f x y z u) (g x y z u)) =
  Ek ⟨(f o1.v o2.v o3.v o4.v).v,(g o1.v o2.v o3.v o4.v).v⟩ [o1.k,o2.k,o3.k,o4.k,(f o1.v o2.v o3.v o4.v).k,(g o1.v o2.v o3.v o4.v).k]:=by
 unfold Ge
 rw [show (fun x=>o2.bind iz fun y=>o3.bind iz fun z=>o4.bind iz fun u=>Gp (f x y z u) (g x y z u)) =
  fun x=>o2.bind iz fun y=>o3.bind iz fun z=>o4.bind iz fun u=>Ek ⟨(f x y z u).v,(g x y z u).v⟩ [(f x y z u).k,(g x y z u).k] from by
   funext x;congr 1;funext y;congr 1;funext z;congr 1;funext u;exact Uj _ _]
 unfold Outc.bind;simp only [Ek];by_cases h1:o1.k=0
 ·simp only [h1,if_true,ne_eq,not_true_eq_false,if_false];by_cases h2:o2.k=0
  ·simp only [h2,if_true,not_true_eq_false,if_false];by_cases h3:o3.k=0
   ·simp only [h3,if_true,not_true_eq_false,if_false];by_cases h4:o4.k=0
    ·simp only [h4,if_true,not_true_eq_false,if_false]
    ·simp only [h4,if_false,not_false_eq_true,if_true]
   ·simp only [h3,if_false,not_false_eq_true,if_true]
  ·simp only [h2,if_false,not_false_eq_true,if_true]
 ·simp only [h1,if_false,ne_eq,not_false_eq_true,if_true]
def One (w:World) (v:Value) (r:Raw):Prop:=∃ A n c b,v=.slice (some ⟨b,0,none⟩) 1 1∧Blk w b (.bool r.neg) (.slice A n c) (.int .i64 r.e)∧DyR w (.agg #[.bool r.neg,.slice A n c,.int .i64 r.e]) r
theorem One.kept {w w':World}{v:Value}{r:Raw}(h:One w v r)(k:Kept w w'):One w' v r:=by
 obtain ⟨A,n,c,b,h0,h1,h2⟩:=h;exact ⟨A,n,c,b,h0,h1.kept k,h2.kept k⟩
theorem I3 {w:World}{r:Raw}{A:Option Addr}{n c m:Nat}(hm:w.heap.size=m)(h:DyR w (.agg #[.bool r.neg,.slice A n c,.int .i64 r.e]) r) :
 One (w.alloc (.cells #[.bool r.neg,.slice A n c,.int .i64 r.e] 30)) (.slice (some ⟨m,0,none⟩) 1 1) r:=by
 subst hm;exact ⟨A,n,c,_,rfl,blk_new _ _ _ _,h.kept (Ad _ _)⟩
theorem V0 (w:World)(x y z x' y' z':Value):∃ V,V=w.alloc (.cells #[x,y,z,x',y',z'] 30)∧Kept w V∧V.heap[w.heap.size]?=some (.cells #[x,y,z,x',y',z'] 30 (0,0))∧w.heap.size<V.heap.size :=
 ⟨_,rfl,Ad _ _,heap_alloc_new _ _,by simp⟩
theorem Aey {w:World}{a b:Iv}{p ba bb bp:Nat}(ha:a.Ok)(hb:b.Ok)(hT:Tab w)(p1:1≤p)(p2:p≤2000)(ca:BlkIv w ba a)(cb:BlkIv w bb b)(cp:w.cell? ⟨bp,0,none⟩=some (.int .i64 p)) :
 Calls Tryz.prog 170 #[.pointer (some ⟨ba,0,none⟩),.pointer (some ⟨bb,0,none⟩),.pointer (some ⟨bp,0,none⟩)] w (Mf 189 (Cu (Fs a b p)) w):=by
 obtain ⟨A,l,c,A',l',c',hba,x1,x2⟩:=ca;obtain ⟨B,j,e,B',j',e',hbb,y1,y2⟩:=cb;obtain ⟨o1,ho1⟩:∃ o,o=D7 a.lo b.lo:=⟨_,rfl⟩;obtain ⟨o2,ho2⟩:∃ o,o=D7 a.lo b.hi:=⟨_,rfl⟩;obtain ⟨o3,ho3⟩:∃ o,o=D7 a.hi b.lo:=⟨_,rfl⟩;obtain ⟨o4,ho4⟩:∃ o,o=D7 a.hi b.hi:=⟨_,rfl⟩;obtain ⟨m,hm⟩:∃ m,m=Cs o1.v [o1.v,o2.v,o3.v,o4.v]:=⟨_,rfl⟩;obtain ⟨g,hg⟩:∃ g,g=Bw o1.v [o1.v,o2.v,o3.v,o4.v]:=⟨_,rfl⟩;obtain ⟨o5,ho5⟩:∃ o,o=Eh m p false:=⟨_,rfl⟩;obtain ⟨o6,ho6⟩:∃ o,o=Eh g p true:=⟨_,rfl⟩;have hres:Fs a b p=Ek ⟨o5.v,o6.v⟩ [o1.k,o2.k,o3.k,o4.k,o5.k,o6.k]:=by
  unfold Fs;rw [Wr _ _ _ _ (fun x y z u=>Eh (Cs x [x,y,z,u]) p false) (fun x y z u=>Eh (Bw x [x,y,z,u]) p true)];rw [←ho1,←ho2,←ho3,←ho4,←hm,←hg,←ho5,←ho6]
 rw [hres];have ok1:o1.Ok:=by rw [ho1];exact Ld _ _
 have ok2:o2.Ok:=by rw [ho2];exact Ld _ _
 have ok3:o3.Ok:=by rw [ho3];exact Ld _ _
 have ok4:o4.Ok:=by rw [ho4];exact Ld _ _
 have okL4:okL [o1.v,o2.v,o3.v,o4.v]:=by intro d hd;simp at hd;rcases hd with rfl | rfl | rfl | rfl;exact ok1.1;exact ok2.1;exact ok3.1;exact ok4.1
 have okm:m.Ok:=by rw [hm];exact Rg ok1.1 okL4
 have okg:g.Ok:=by rw [hg];exact Mw ok1.1 okL4
 have C1:=hid (fun w1 (k:Kept w w1)=>Tj (x1.kept k) (y1.kept k) ha.lo hb.lo (hT.kept k));have C2:=hid (fun w1 (k:Kept w w1)=>Tj (x1.kept k) (y2.kept k) ha.lo hb.hi (hT.kept k));have C3:=hid (fun w1 (k:Kept w w1)=>Tj (x2.kept k) (y1.kept k) ha.hi hb.lo (hT.kept k));have C4:=hid (fun w1 (k:Kept w w1)=>Tj (x2.kept k) (y2.kept k) ha.hi hb.hi (hT.kept k));have C5:=hid (fun w1 (k:Kept w w1) v (hv:DyR w1 v m.raw)=>Vw hv okm (hT.kept k) p1 p2);have C6:=hid (fun w1 (k:Kept w w1) v (hv:DyR w1 v g.raw)=>Ahf hv okg (hT.kept k) p1 p2);have CL:=hid (fun w1 v (hv:DyS w1 v [o1.v,o2.v,o3.v,o4.v])=>Yr hv okL4 (by simp))
 have CG:=hid (fun w1 v (hv:DyS w1 v [o1.v,o2.v,o3.v,o4.v])=>Pq hv okL4 (by simp));rw [←ho1] at C1;rw [←ho2] at C2;rw [←ho3] at C3;rw [←ho4] at C4;rw [←ho5] at C5;rw [←ho6] at C6;rw [←hm] at CL;rw [←hg] at CG;obtain ⟨W,hW,kW,B3,B4⟩:=Ya w;have HW:=hid hW;have K:=hid kW;have R3:=hid B3;have R4:=hid B4;have HA:=hid hba;have HB:=hid hbb;have CP:=hid cp;have lp:=Bg cp;obtain ⟨la,-⟩:=hba.facts;obtain ⟨lb,-⟩:=hbb.facts;simp only at lp;have hst:=I4 ⟨o5.v,o6.v⟩ [o1.raw.k,o2.raw.k,o3.raw.k,o4.raw.k,o5.raw.k,o6.raw.k];obtain ⟨res,hres'⟩:∃ r,r=Cu (Ek ⟨o5.v,o6.v⟩ [o1.k,o2.k,o3.k,o4.k,o5.k,o6.k]):=⟨_,rfl⟩
 have ST:=hid (show O7 res ⟨o5.raw.v,o6.raw.v⟩ [o1.raw.k,o2.raw.k,o3.raw.k,o4.raw.k,o5.raw.k,o6.raw.k] by rw [hres'];exact hst);rw [←hres'];have BAD:Hid (∀ (k:Int) (w1:World),Kept w w1→k≠0→res=⟨rzI,k⟩→Mf 189 res w (.panicked (Ch 189 k)) w1):=fun k w1 kk hk he=>by subst he;exact ⟨kk,.inr ⟨hk,rfl⟩⟩
 clear hW kW B3 B4 hba hbb cp x1 x2 y1 y2 ha hb hT p1 p2 ho1 ho2 ho3 ho4 ho5 ho6 hres hres' hst hm hg okL4 okm okg ok1 ok2 ok3 ok4;generalize a.lo.neg=n1 at *;generalize a.lo.e=e1 at *;generalize a.hi.neg=n2 at *;generalize a.hi.e=e2 at *;generalize b.lo.neg=n3 at *;generalize b.lo.e=e3 at *;generalize b.hi.neg=n4 at *;generalize b.hi.e=e4 at *;go_enter Tryz.func170,Tryz.ntmps170;go_upto_region 2 with fail;rw [←HW.out];obtain ⟨-,a0,a1,a2,a3,a4,a5⟩:=(HA.out.kept K.out).facts;obtain ⟨X,hX,kX,hx15,lX⟩:=V0 W (.bool n1) (.slice A l c) (.int .i64 e1) (.bool n2) (.slice A' l' c') (.int .i64 e2);have HX:=hid hX
 clear hX;go_upto_region 3 with fail;rw [←HX.out];refine wp_loop_rounds 3 ?_;rw [rounds_succ];have x0:=Ag hx15 0 _ rfl;have x1:=Ag hx15 1 _ rfl;have x2:=Ag hx15 2 _ rfl;have KX:=hid (K.out.trans kX);have HXb:=hid hx15;clear a0 a1 a2 a3 a4 a5 hx15;obtain ⟨Y,hY,kY,hy7,lY⟩:=Kg X (.bool n1) (.slice A l c) (.int .i64 e1);have HY:=hid hY;clear hY;go_upto_region 5 with fail;rw [←HY.out];replace K:=hid (KX.out.trans kY);have O5:=hid (OwnS.nil Y W.heap.size);have B15:=hid (show Y.heap[W.heap.size]?=some (.cells #[.bool n1,.slice A l c,.int .i64 e1,.bool n2,.slice A' l' c',.int .i64 e2] 30 (0,0)) from (kY.block _ lX).trans HXb.out)
 have hy:=hy7;have lY':=lY;clear x0 x1 x2;obtain ⟨-,b0,b1,b2,b3,b4,b5⟩:=(HB.out.kept K.out).facts;obtain ⟨U,hU,kU,hu25,lU⟩:=V0 Y (.bool n3) (.slice B j e) (.int .i64 e3) (.bool n4) (.slice B' j' e') (.int .i64 e4);have HU:=hid hU;clear hU;go_upto_region 6 with fail;rw [←HU.out];refine wp_loop_rounds 3 ?_;rw [rounds_succ];have x0:=Ag hu25 0 _ rfl;have x1:=Ag hu25 1 _ rfl;have x2:=Ag hu25 2 _ rfl;have x3:=Ag hu25 3 _ rfl;have x4:=Ag hu25 4 _ rfl;have x5:=Ag hu25 5 _ rfl;have KU:=hid (K.out.trans kU);have HUb:=hid hu25;have hy7':=hy.kept kU
 clear b0 b1 b2 b3 b4 b5 hu25;obtain ⟨Z,hZ,kZ,hz9,lZ⟩:=Kg U (.bool n3) (.slice B j e) (.int .i64 e3);have HZ:=hid hZ;clear hZ;go_upto_region 8 with fail;rw [←HZ.out];have KZ:=hid (KU.out.trans kZ);have hz7:=hy7'.kept kZ;clear x0 x1 x2 x3 x4 x5
 refine rS2 8 ([(vE (.slice none 0 0)),(vE (.agg #[.bool n1,.slice A l c,.int .i64 e1])),(vE (.agg #[.bool n3,.slice B j e,.int .i64 e3])),(fun v wv=>(∃ d,v=.tuple #[d,.int .i64 o1.raw.k]∧DyR wv d o1.raw.v)∧(True)),(fun v wv=>DyR wv v o1.raw.v∧(True)),(vE (.int .i64 o1.raw.k)),(fun v wv=>(o1.raw.k=0∧(True))∧DyR wv v o1.raw.v),(fun v wv=>One wv v o1.raw.v)])
  (hM:=⟨⟨mE,mE,mE,fun v w w' k h=>by obtain ⟨⟨d,h1,h2⟩,h3⟩:=h;exact ⟨⟨d,h1,h2.kept k⟩,h3⟩,fun v w w' k h=>⟨h.1.kept k,h.2⟩,mE,fun v w w' k h=>by first | exact h | exact h.kept k | exact ⟨h.1,h.2.kept k⟩,fun v w w' k h=>h.kept k,trivial⟩⟩) ⟨
    (gq 5),(gql 7 fun _ k=>c3 hz7 k),(gql 9 fun _ k=>c3 hz9 k),(fun aF wF F=>by have s32:=F.v 1 32;have s33:=F.v 2 33;have hC:True:=trivial;exact Bi (by simp [Region.wanted]) (by go_simp) (C1.out _ (KZ.out.trans F.kept)) (fun _ _ h=>RetE.good h) (fun _ _ h=>⟨h,hC⟩)),(fun aF wF F=>by have s34:=F.p 3 34;obtain ⟨⟨dd,ee,hh⟩,hC⟩:=s34;exact sv ⟨hh,hC⟩),(fun aF wF F=>by have s34:=F.p 3 34;exact sw (by obtain ⟨⟨dd,ee,hh⟩,-⟩:=s34;go_simp) rfl),(fun aF wF F=>by have s35:=F.p 4 35;have s36:=F.v 5 36;have hC:=s35.2;exact sG (Gk (d:=o1.v) (k:=o1.raw.k) s35.1) (fun _ _ _ h0 h=>⟨⟨h0,hC⟩,h⟩) (fun w2 k2 h0=>⟨F.defers,BAD.out _ _ (KZ.out.trans (F.kept.trans k2)) h0 (ST.out.1 h0)⟩)),(fun aF wF F=>by have s37:=F.p 6 37;obtain ⟨A9,l9,c9,e9,hd9⟩:=By s37.2;simp only [Array.getD_eq_getD_getElem?] at e9;exact sNa (I3 rfl hd9)),
    trivial⟩ ?_
 intro u w1 k1 hu;have p34:=hp hu 3;have p35:=hp hu 4;have p37:=hp hu 6;have p38:=hp hu 7;simp only [Bl,Au,if_true,Act.put,zlA,zlB,zlC,zlD,zlE,zlF,zlG,hv hu 0,hv hu 1,hv hu 2,hv hu 5];clear hu;generalize u 3=v34,u 4=v35,u 6=v37,u 7=v38 at *;obtain ⟨A9,l9,c9,b9,u9,hb9,hd9⟩:=p38;obtain ⟨⟨z1,-⟩,-⟩:=p37;replace K:=hid (KZ.out.trans k1);have KW:=hid (((((kX.trans kY).trans kU).trans kZ).trans k1));have B15':=hid ((((kU.trans kZ).trans k1).block _ (Nat.lt_trans lX lY')).trans B15.out);subst u9;refine D6 (.tmp 31) (.tmp 38) ?ho (v:=.slice none 0 0) ?hs (OwnS.nil w1 w1.heap.size) (d:=o1.v) hd9 hb9 ?hx (by simp) (Nat.le_refl _) ?h
 case ho=>rfl
 case hs=>first | rfl | (go_simp;done)
 case hx=>first | rfl | (go_simp;done)
 intro v1 S1 O1 hg1;have KS:=hid (show Kept w1 S1 from Below.grown (Below.refl _ _) hg1 (Nat.le_refl _) (by intro k hk;simp [Value.ownBlock] at hk));have Z1:=hid z1;have OW1:=hid O1;clear z1 hd9 hb9 p34 p35 hg1 O1;have lw1:w.heap.size≤w1.heap.size:=K.out.size;replace K:=hid (K.out.trans KS.out);have b25:=((kZ.trans k1).trans KS.out).block _ (Nat.lt_of_lt_of_le (Array.getElem?_eq_some_iff.1 HUb.out).1 (Nat.le_refl _)) |>.trans HUb.out
 have b7:=(hz7.kept k1).kept KS.out;have B25:=hid b25;go_simp;go_wp2_with fail;rw [rounds_succ];have x3:=Ag b25 3 _ rfl;have x4:=Ag b25 4 _ rfl;have x5:=Ag b25 5 _ rfl;obtain ⟨Z2,hZ2,kZ2,hz92,lZ2⟩:=Kg S1 (.bool n4) (.slice B' j' e') (.int .i64 e4);have HZ2:=hid hZ2;clear hZ2;go_upto_region 8 with fail;rw [←HZ2.out];generalize w1=T at *;replace K:=hid (K.out.trans kZ2);have c7:=b7.kept kZ2;clear x3 x4 x5
 refine rS2 8 ([(vE v1),(vE (.agg #[.bool n1,.slice A l c,.int .i64 e1])),(vE (.agg #[.bool n4,.slice B' j' e',.int .i64 e4])),(fun v wv=>(∃ d,v=.tuple #[d,.int .i64 o2.raw.k]∧DyR wv d o2.raw.v)∧(True)),(fun v wv=>DyR wv v o2.raw.v∧(True)),(vE (.int .i64 o2.raw.k)),(fun v wv=>(o2.raw.k=0∧(True))∧DyR wv v o2.raw.v),(fun v wv=>One wv v o2.raw.v)])
  (hM:=⟨⟨mE,mE,mE,fun v w w' k h=>by obtain ⟨⟨d,h1,h2⟩,h3⟩:=h;exact ⟨⟨d,h1,h2.kept k⟩,h3⟩,fun v w w' k h=>⟨h.1.kept k,h.2⟩,mE,fun v w w' k h=>by first | exact h | exact h.kept k | exact ⟨h.1,h.2.kept k⟩,fun v w w' k h=>h.kept k,trivial⟩⟩) ⟨
    (gq 5),(gql 7 fun _ k=>c3 c7 k),(gql 9 fun _ k=>c3 hz92 k),(fun aF wF F=>by have s32:=F.v 1 32;have s33:=F.v 2 33;have hC:True:=trivial;exact Bi (by simp [Region.wanted]) (by go_simp) (C2.out _ (K.out.trans F.kept)) (fun _ _ h=>RetE.good h) (fun _ _ h=>⟨h,hC⟩)),(fun aF wF F=>by have s34:=F.p 3 34;obtain ⟨⟨dd,ee,hh⟩,hC⟩:=s34;exact sv ⟨hh,hC⟩),(fun aF wF F=>by have s34:=F.p 3 34;exact sw (by obtain ⟨⟨dd,ee,hh⟩,-⟩:=s34;go_simp) rfl),(fun aF wF F=>by have s35:=F.p 4 35;have s36:=F.v 5 36;have hC:=s35.2;exact sG (Gk (d:=o2.v) (k:=o2.raw.k) s35.1) (fun _ _ _ h0 h=>⟨⟨h0,hC⟩,h⟩) (fun w2 k2 h0=>⟨F.defers,BAD.out _ _ (K.out.trans (F.kept.trans k2)) h0 ((ST.out.2 Z1.out).1 h0)⟩)),(fun aF wF F=>by have s37:=F.p 6 37;obtain ⟨A9,l9,c9,e9,hd9⟩:=By s37.2;simp only [Array.getD_eq_getD_getElem?] at e9;exact sNa (I3 rfl hd9)),
    trivial⟩ ?_
 intro u w1 k1 hu;have p34:=hp hu 3;have p35:=hp hu 4;have p37:=hp hu 6;have p38:=hp hu 7;simp only [Bl,Au,if_true,Act.put,zlA,zlB,zlC,zlD,zlE,zlF,zlG,hv hu 0,hv hu 1,hv hu 2,hv hu 5];clear hu;generalize u 3=v34,u 4=v35,u 6=v37,u 7=v38 at *;obtain ⟨A8,l8,c8,b8,u9,hb9,hd9⟩:=p38;obtain ⟨⟨z2,-⟩,-⟩:=p37;subst u9;have O2:=(OW1.out.kept kZ2).kept k1;have lT:T.heap.size≤w1.heap.size:=Nat.le_trans KS.out.size (Nat.le_trans kZ2.size k1.size);refine D6 (.tmp 31) (.tmp 38) ?ho (v:=v1) ?hs O2 (d:=o2.v) hd9 hb9 ?hx (by simp) lT ?h
 case ho=>rfl
 case hs=>first | rfl | (go_simp;done)
 case hx=>first | rfl | (go_simp;done)
 intro v2 S2 O2' hg2;have KT:=hid (show Kept T S2 from Below.grown ((KS.out.trans kZ2).trans k1) hg2 lT (fun k hk=>(O2.row.lt k hk).1));have lw2:w.heap.size≤w1.heap.size:=Nat.le_trans lw1 lT;replace K:=hid (show Kept w S2 from Below.grown (K.out.trans k1) hg2 lw2 (fun k hk=>Nat.le_trans lw1 (O2.row.lt k hk).1));have Z2':=hid z2;have OW2:=hid O2';have d15:=(KT.out.block _ (Nat.lt_of_lt_of_le (Array.getElem?_eq_some_iff.1 B15'.out).1 (Nat.le_refl _))).trans B15'.out;have D15:=hid d15;clear z2 hd9 hb9 p34 p35 hg2 O2 O2' c7 b7 b25 hz92 k1 kZ2 hz7;go_simp;go_wp2_with fail;rw [rounds_succ];go_wp2_with fail
 rw [rounds_succ];have x3:=Ag d15 3 _ rfl;have x4:=Ag d15 4 _ rfl;have x5:=Ag d15 5 _ rfl;obtain ⟨Y3,hY3,kY3,hb3,lY3⟩:=Kg S2 (.bool n2) (.slice A' l' c') (.int .i64 e2);have HY3:=hid hY3;clear hY3;go_upto_region 5 with fail;rw [←HY3.out];clear x3 x4 x5 d15;replace K:=hid (K.out.trans kY3);obtain ⟨-,b0,b1,b2,b3,b4,b5⟩:=(HB.out.kept K.out).facts;obtain ⟨U3,hU3,kU3,hu25,lU3⟩:=V0 Y3 (.bool n3) (.slice B j e) (.int .i64 e3) (.bool n4) (.slice B' j' e') (.int .i64 e4);have HU3:=hid hU3;clear hU3;go_upto_region 6 with fail;rw [←HU3.out];refine wp_loop_rounds 3 ?_;rw [rounds_succ]
 have x0:=Ag hu25 0 _ rfl;have x1:=Ag hu25 1 _ rfl;have x2:=Ag hu25 2 _ rfl;replace K:=hid (K.out.trans kU3);have HU3b:=hid hu25;clear b0 b1 b2 b3 b4 b5 hu25;obtain ⟨Z3,hZ3,kZ3,hz9,lZ3⟩:=Kg U3 (.bool n3) (.slice B j e) (.int .i64 e3);have HZ3:=hid hZ3;clear hZ3;go_upto_region 8 with fail;rw [←HZ3.out];replace K:=hid (K.out.trans kZ3);have hz7:=(hb3.kept kU3).kept kZ3;generalize w1=T2 at *;clear x0 x1 x2
 refine rS2 8 ([(vE v2),(vE (.agg #[.bool n2,.slice A' l' c',.int .i64 e2])),(vE (.agg #[.bool n3,.slice B j e,.int .i64 e3])),(fun v wv=>(∃ d,v=.tuple #[d,.int .i64 o3.raw.k]∧DyR wv d o3.raw.v)∧(True)),(fun v wv=>DyR wv v o3.raw.v∧(True)),(vE (.int .i64 o3.raw.k)),(fun v wv=>(o3.raw.k=0∧(True))∧DyR wv v o3.raw.v),(fun v wv=>One wv v o3.raw.v)])
  (hM:=⟨⟨mE,mE,mE,fun v w w' k h=>by obtain ⟨⟨d,h1,h2⟩,h3⟩:=h;exact ⟨⟨d,h1,h2.kept k⟩,h3⟩,fun v w w' k h=>⟨h.1.kept k,h.2⟩,mE,fun v w w' k h=>by first | exact h | exact h.kept k | exact ⟨h.1,h.2.kept k⟩,fun v w w' k h=>h.kept k,trivial⟩⟩) ⟨
    (gq 5),(gql 7 fun _ k=>c3 hz7 k),(gql 9 fun _ k=>c3 hz9 k),(fun aF wF F=>by have s32:=F.v 1 32;have s33:=F.v 2 33;have hC:True:=trivial;exact Bi (by simp [Region.wanted]) (by go_simp) (C3.out _ (K.out.trans F.kept)) (fun _ _ h=>RetE.good h) (fun _ _ h=>⟨h,hC⟩)),(fun aF wF F=>by have s34:=F.p 3 34;obtain ⟨⟨dd,ee,hh⟩,hC⟩:=s34;exact sv ⟨hh,hC⟩),(fun aF wF F=>by have s34:=F.p 3 34;exact sw (by obtain ⟨⟨dd,ee,hh⟩,-⟩:=s34;go_simp) rfl),(fun aF wF F=>by have s35:=F.p 4 35;have s36:=F.v 5 36;have hC:=s35.2;exact sG (Gk (d:=o3.v) (k:=o3.raw.k) s35.1) (fun _ _ _ h0 h=>⟨⟨h0,hC⟩,h⟩) (fun w2 k2 h0=>⟨F.defers,BAD.out _ _ (K.out.trans (F.kept.trans k2)) h0 (((ST.out.2 Z1.out).2 Z2'.out).1 h0)⟩)),(fun aF wF F=>by have s37:=F.p 6 37;obtain ⟨A9,l9,c9,e9,hd9⟩:=By s37.2;simp only [Array.getD_eq_getD_getElem?] at e9;exact sNa (I3 rfl hd9)),
    trivial⟩ ?_
 intro u w1 k1 hu;have p34:=hp hu 3;have p35:=hp hu 4;have p37:=hp hu 6;have p38:=hp hu 7;simp only [Bl,Au,if_true,Act.put,zlA,zlB,zlC,zlD,zlE,zlF,zlG,hv hu 0,hv hu 1,hv hu 2,hv hu 5];clear hu;generalize u 3=v34,u 4=v35,u 6=v37,u 7=v38 at *;obtain ⟨A7,l7,c7,b7,u9,hb9,hd9⟩:=p38;obtain ⟨⟨z3,-⟩,-⟩:=p37;subst u9;have O3:=(((OW2.out.kept kY3).kept kU3).kept kZ3).kept k1;have lT3:T.heap.size≤w1.heap.size:=Nat.le_trans KT.out.size (Nat.le_trans kY3.size (Nat.le_trans kU3.size (Nat.le_trans kZ3.size k1.size)));refine D6 (.tmp 31) (.tmp 38) ?ho (v:=v2) ?hs O3 (d:=o3.v) hd9 hb9 ?hx (by simp) lT3 ?h
 case ho=>rfl
 case hs=>first | rfl | (go_simp;done)
 case hx=>first | rfl | (go_simp;done)
 intro v3 S3 O3' hg3;have l7:S2.heap.size<w1.heap.size:=Nat.lt_of_lt_of_le lY3 (Nat.le_trans kU3.size (Nat.le_trans kZ3.size k1.size));have l25:Y3.heap.size<w1.heap.size:=Nat.lt_of_lt_of_le lU3 (Nat.le_trans kZ3.size k1.size)
 have q7:Blk S3 S2.heap.size (.bool n2) (.slice A' l' c') (.int .i64 e2) :=
  (hg3.block _ l7 (fun e=>by have:=(OW2.out.row.lt _ e.symm).2;omega)).trans (hz7.kept k1)
 have q25:=(hg3.block _ l25 (fun e=>by have:=(OW2.out.row.lt _ e.symm).2;have:=kY3.size;omega)).trans (((kZ3.trans k1).block _ (Array.getElem?_eq_some_iff.1 HU3b.out).1).trans HU3b.out);replace KT:=hid (show Kept T S3 from Below.grown (((((KT.out.trans kY3).trans kU3).trans kZ3).trans k1)) hg3 lT3 (fun k hk=>(O3.row.lt k hk).1));replace K:=hid (show Kept w S3 from Below.grown (K.out.trans k1) hg3 (Nat.le_trans lw1 lT3) (fun k hk=>Nat.le_trans lw1 (O3.row.lt k hk).1));have Z3':=hid z3;have OW3:=hid O3';clear z3 hd9 hb9 p34 p35 hg3 O3 O3' k1 kZ3 hz7 hz9 l7 l25 kY3 kU3 OW1;go_simp;go_wp2_with fail
 rw [rounds_succ];have x3:=Ag q25 3 _ rfl;have x4:=Ag q25 4 _ rfl;have x5:=Ag q25 5 _ rfl;obtain ⟨Z4,hZ4,kZ4,hz94,lZ4⟩:=Kg S3 (.bool n4) (.slice B' j' e') (.int .i64 e4);have HZ4:=hid hZ4;clear hZ4;go_upto_region 8 with fail;rw [←HZ4.out];replace K:=hid (K.out.trans kZ4);have hz7:=q7.kept kZ4;generalize w1=T3 at *;clear x3 x4 x5
 refine rS2 8 ([(vE v3),(vE (.agg #[.bool n2,.slice A' l' c',.int .i64 e2])),(vE (.agg #[.bool n4,.slice B' j' e',.int .i64 e4])),(fun v wv=>(∃ d,v=.tuple #[d,.int .i64 o4.raw.k]∧DyR wv d o4.raw.v)∧(True)),(fun v wv=>DyR wv v o4.raw.v∧(True)),(vE (.int .i64 o4.raw.k)),(fun v wv=>(o4.raw.k=0∧(True))∧DyR wv v o4.raw.v),(fun v wv=>One wv v o4.raw.v)])
  (hM:=⟨⟨mE,mE,mE,fun v w w' k h=>by obtain ⟨⟨d,h1,h2⟩,h3⟩:=h;exact ⟨⟨d,h1,h2.kept k⟩,h3⟩,fun v w w' k h=>⟨h.1.kept k,h.2⟩,mE,fun v w w' k h=>by first | exact h | exact h.kept k | exact ⟨h.1,h.2.kept k⟩,fun v w w' k h=>h.kept k,trivial⟩⟩) ⟨
    (gq 5),(gql 7 fun _ k=>c3 hz7 k),(gql 9 fun _ k=>c3 hz94 k),(fun aF wF F=>by have s32:=F.v 1 32;have s33:=F.v 2 33;have hC:True:=trivial;exact Bi (by simp [Region.wanted]) (by go_simp) (C4.out _ (K.out.trans F.kept)) (fun _ _ h=>RetE.good h) (fun _ _ h=>⟨h,hC⟩)),(fun aF wF F=>by have s34:=F.p 3 34;obtain ⟨⟨dd,ee,hh⟩,hC⟩:=s34;exact sv ⟨hh,hC⟩),(fun aF wF F=>by have s34:=F.p 3 34;exact sw (by obtain ⟨⟨dd,ee,hh⟩,-⟩:=s34;go_simp) rfl),(fun aF wF F=>by have s35:=F.p 4 35;have s36:=F.v 5 36;have hC:=s35.2;exact sG (Gk (d:=o4.v) (k:=o4.raw.k) s35.1) (fun _ _ _ h0 h=>⟨⟨h0,hC⟩,h⟩) (fun w2 k2 h0=>⟨F.defers,BAD.out _ _ (K.out.trans (F.kept.trans k2)) h0 ((((ST.out.2 Z1.out).2 Z2'.out).2 Z3'.out).1 h0)⟩)),(fun aF wF F=>by have s37:=F.p 6 37;obtain ⟨A9,l9,c9,e9,hd9⟩:=By s37.2;simp only [Array.getD_eq_getD_getElem?] at e9;exact sNa (I3 rfl hd9)),
    trivial⟩ ?_
 intro u w1 k1 hu;have p34:=hp hu 3;have p35:=hp hu 4;have p37:=hp hu 6;have p38:=hp hu 7;simp only [Bl,Au,if_true,Act.put,zlA,zlB,zlC,zlD,zlE,zlF,zlG,hv hu 0,hv hu 1,hv hu 2,hv hu 5];clear hu;generalize u 3=v34,u 4=v35,u 6=v37,u 7=v38 at *;obtain ⟨A6,l6,c6,b6,u9,hb9,hd9⟩:=p38;obtain ⟨⟨z4,-⟩,-⟩:=p37;subst u9;have O4:=(OW3.out.kept kZ4).kept k1;have lT4:T.heap.size≤w1.heap.size:=Nat.le_trans KT.out.size (Nat.le_trans kZ4.size k1.size);refine D6 (.tmp 31) (.tmp 38) ?ho (v:=v3) ?hs O4 (d:=o4.v) hd9 hb9 ?hx (by simp) lT4 ?h
 case ho=>rfl
 case hs=>first | rfl | (go_simp;done)
 case hx=>first | rfl | (go_simp;done)
 intro v4 S4 O4' hg4;replace KT:=hid (show Kept T S4 from Below.grown ((KT.out.trans kZ4).trans k1) hg4 lT4 (fun k hk=>(O4.row.lt k hk).1));replace K:=hid (show Kept w S4 from Below.grown (K.out.trans k1) hg4 (Nat.le_trans lw1 lT4) (fun k hk=>Nat.le_trans lw1 (O4.row.lt k hk).1));have Z4':=hid z4;have OD:=hid (show DyS S4 v4 [o1.v,o2.v,o3.v,o4.v] from O4'.dyS);clear z4 hd9 hb9 p34 p35 hg4 O4 O4' k1 kZ4 hz7 hz94 OW3 OW2 q7 q25;go_simp;go_wp2_with fail;rw [rounds_succ];go_wp2_with fail;rw [rounds_succ];go_upto_region 11 with fail;replace R3:=hid ((R3.out.kept KW.out).kept KT.out);replace R4:=hid ((R4.out.kept KW.out).kept KT.out)
 clear HXb HUb HU3b B15 B15' D15 B25 hy7 hb3 KX KU KZ KS kX kY kU kZ;generalize w1=T4 at *
 refine Nb 8 ([(vE v4),(fun v wv=>DyR wv v m.raw),(vE (.int .i64 p)),(fun v wv=>(∃ d,v=.tuple #[d,.int .i64 o5.raw.k]∧DyR wv d o5.raw.v)∧(True)),(fun v wv=>DyR wv v o5.raw.v∧(True)),(vE (.int .i64 o5.raw.k)),(fun v wv=>(o5.raw.k=0∧(True))∧DyR wv v o5.raw.v),(fun v wv=>∃ b,v=.pointer (some ⟨b,0,none⟩)∧S4.heap.size≤b∧Blk wv b (.bool false) (.slice none 0 0) (.int .i64 0))])
  ⟨
   (gq 5),(fun aF wF F=>by have s42:=F.v 0 42;exact sD (CL.out _ _ (OD.out.kept F.kept)) fun _ _ h=>h),(fun aF wF F=>by have s2:=F.q 2 (.pointer (some ⟨bp,0,none⟩));exact sw (by have cq:=Bc (K.out.trans F.kept) CP.out;go_simp) rfl),(fun aF wF F=>by have s43:=F.p 1 43;have s44:=F.v 2 44;have hC:True:=trivial;exact Bi (by simp [Region.wanted]) (by go_simp) (C5.out _ (K.out.trans F.kept) _ s43) (fun _ _ h=>RetE.good h) (fun _ _ h=>⟨h,hC⟩)),(fun aF wF F=>by have s45:=F.p 3 45;obtain ⟨⟨dd,ee,hh⟩,hC⟩:=s45;exact sv ⟨hh,hC⟩),(fun aF wF F=>by have s45:=F.p 3 45;exact sw (by obtain ⟨⟨dd,ee,hh⟩,-⟩:=s45;go_simp) rfl),(fun aF wF F=>by have s46:=F.p 4 46;have s47:=F.v 5 47;have hC:=s46.2;exact sG (Gk (d:=o5.v) (k:=o5.raw.k) s46.1) (fun _ _ _ h0 h=>⟨⟨h0,hC⟩,h⟩) (fun w2 k2 h0=>⟨F.defers,BAD.out _ _ (K.out.trans (F.kept.trans k2)) h0 (((((ST.out.2 Z1.out).2 Z2'.out).2 Z3'.out).2 Z4'.out).1 h0)⟩)),(fun aF wF F=>by exact sN ⟨_,rfl,F.kept.size,Gg _⟩),
   trivial⟩ ?_
 intro u w1 k1 hu;have p43:=hp hu 1;have p45:=hp hu 3;have p46:=hp hu 4;have p48:=hp hu 6;have p10:=hp hu 7;simp only [Bl,Au,if_true,Act.put,zlA,zlB,zlC,zlD,zlE,zlF,zlG,hv hu 0,hv hu 2,hv hu 5];clear hu;generalize u 1=v43,u 3=v45,u 4=v46,u 6=v48,u 7=v10 at *;obtain ⟨bl,rfl,hbl,hB5⟩:=p10;obtain ⟨⟨z1,-⟩,hd2⟩:=p48;obtain ⟨A5,l5,c5,rfl,hd2⟩:=By hd2;obtain ⟨lb5,c0,c1,c2,f0,f1,f2⟩:=hB5.facts;have hsW:=(Array.getElem?_eq_some_iff.1 R4.out).1;have Z:=hid z1;have KX:=hid (Bj (x:=.bool o5.raw.v.neg) (y:=.slice A5 l5 c5) (z:=.int .i64 o5.raw.v.e) (K.out.trans k1) (show w.heap.size≤bl by omega))
 have R3X:=hid ((R3.out.kept k1).laid_other (b':=bl) (by omega) (.bool o5.raw.v.neg) (.slice A5 l5 c5) (.int .i64 o5.raw.v.e));have R4X:=hid ((R4.out.kept k1).laid_other (b':=bl) (by omega) (.bool o5.raw.v.neg) (.slice A5 l5 c5) (.int .i64 o5.raw.v.e));have B5X:=hid (hB5.laid (.bool o5.raw.v.neg) (.slice A5 l5 c5) (.int .i64 o5.raw.v.e));have D5X:=hid (hd2.dyW hB5 (An _) (Ak _ _ _) (Aq _) (.bool o5.raw.v.neg) (.slice A5 l5 c5) (.int .i64 o5.raw.v.e));have ODX:=hid (OD.out.kept (Bj (x:=.bool o5.raw.v.neg) (y:=.slice A5 l5 c5) (z:=.int .i64 o5.raw.v.e) k1 hbl));clear z1 hd2 hB5 hsW p43 p45 p46 k1
 go_simp;go_upto_region 12 with fail;change Code.wp _ _ _ _ (dyW w1 bl _ _ _);generalize dyW w1 bl (.bool o5.raw.v.neg) (.slice A5 l5 c5) (.int .i64 o5.raw.v.e)=X5 at *;clear c0 c1 c2 f0 f1 f2 lb5
 refine Aac 8 ([(vE (.agg #[.bool o5.raw.v.neg,.slice A5 l5 c5,.int .i64 o5.raw.v.e])),(vE v4),(fun v wv=>DyR wv v g.raw),(vE (.int .i64 p)),(fun v wv=>(∃ d,v=.tuple #[d,.int .i64 o6.raw.k]∧DyR wv d o6.raw.v)∧(True)),(fun v wv=>DyR wv v o6.raw.v∧(True)),(vE (.int .i64 o6.raw.k)),(fun v wv=>(o6.raw.k=0∧(True))∧DyR wv v o6.raw.v)])
  ⟨
   (gql 10 fun _ k=>c3 B5X.out k),(gq 5),(fun aF wF F=>by have s50:=F.v 1 50;exact sD (CG.out _ _ (ODX.out.kept F.kept)) fun _ _ h=>h),(fun aF wF F=>by have s2:=F.q 2 (.pointer (some ⟨bp,0,none⟩));exact sw (by have cq:=Bc (KX.out.trans F.kept) CP.out;go_simp) rfl),(fun aF wF F=>by have s51:=F.p 2 51;have s52:=F.v 3 52;have hC:True:=trivial;exact Bi (by simp [Region.wanted]) (by go_simp) (C6.out _ (KX.out.trans F.kept) _ s51) (fun _ _ h=>RetE.good h) (fun _ _ h=>⟨h,hC⟩)),(fun aF wF F=>by have s53:=F.p 4 53;obtain ⟨⟨dd,ee,hh⟩,hC⟩:=s53;exact sv ⟨hh,hC⟩),(fun aF wF F=>by have s53:=F.p 4 53;exact sw (by obtain ⟨⟨dd,ee,hh⟩,-⟩:=s53;go_simp) rfl),(fun aF wF F=>by have s54:=F.p 5 54;have s55:=F.v 6 55;have hC:=s54.2;exact sG (Gk (d:=o6.v) (k:=o6.raw.k) s54.1) (fun _ _ _ h0 h=>⟨⟨h0,hC⟩,h⟩) (fun w2 k2 h0=>⟨F.defers,BAD.out _ _ (KX.out.trans (F.kept.trans k2)) h0 ((((((ST.out.2 Z1.out).2 Z2'.out).2 Z3'.out).2 Z4'.out).2 Z.out).1 h0)⟩)),
   trivial⟩ ?_
 intro u w1 k1 hu;have p51:=hp hu 2;have p53:=hp hu 4;have p54:=hp hu 5;have p56:=hp hu 7;simp only [Bl,Au,if_true,Act.put,zlA,zlB,zlC,zlD,zlE,zlF,zlG,hv hu 0,hv hu 1,hv hu 3,hv hu 6];clear hu;generalize u 2=v51,u 4=v53,u 5=v54,u 7=v56 at *;obtain ⟨⟨z4,-⟩,hd4⟩:=p56;obtain ⟨A6,l6,c6,rfl,hd4⟩:=By hd4;have hres:=(((((ST.out.2 Z1.out).2 Z2'.out).2 Z3'.out).2 Z4'.out).2 Z.out).2 z4;have r3:=R3X.out.kept k1;have r4:=R4X.out.kept k1;have hk:=KX.out.trans k1;have hd5:=D5X.out.kept k1;obtain ⟨-,c0,c1,c2,f0,f1,f2⟩:=r3.facts;obtain ⟨-,d0,d1,d2,g0,g1,g2⟩:=r4.facts;obtain ⟨t1,t2,t3⟩:=Ql (T:=189) hk (Nat.le_refl _) (Nat.le_succ _) (by omega) r3 r4 hd5 hd4 hres
 have T1:=hid t1;have T2:=hid t2;have T3:=hid t3;clear t1 t2 t3 r3 r4 hk hd5 hd4 hres z4 p51 p53 p54 k1;refine ⟨?_,?_⟩
 ·go_simp;go_wp2_with fail;exact Jq T1.out T2.out rfl rfl rfl rfl T3.out
 ·first
   | exact .inl (by kernel_rfl)
   | (right
      rw [Pk _ (by omega)] at T1 T2 T3;go_simp;go_wp2_with fail;exact Jq T1.out T2.out rfl rfl rfl rfl T3.out)
end Go.Proofs.YtmgaloopddiekaaGreatDoor
