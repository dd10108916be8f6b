/- Words and contracts, part 38. -/
import Derived.Test.YtabjjdicffcolaaGreatDoorClaimJrootp37
set_option maxRecDepth 100000
set_option maxHeartbeats 0
namespace Go.Proofs.YtabjjdicffcolaaGreatDoor
open Go.Lib (hid)
open Go.RowKit
theorem Hg {l:List RawI}(g:Gd l)(i:Nat):(gI l i).Ok:=by
 by_cases h:i<l.length
 ·exact (Em g h).1
 ·unfold gI;rw [List.getD_eq_getElem?_getD,List.getElem?_eq_none (by omega),Option.getD_none,←Po,Iv.raw_iv];exact Q9
theorem Xx {o:Outc Iv}{f:Iv→Outc Iv}(h:(o.th f).k=0):o.k=0∧o.th f=f o.v:=by
 by_cases e:o.k=0
 ·exact ⟨e,Outc.th_ok e⟩
 ·rw [Outc.th_bad e] at h;exact absurd h e
theorem Aaj {p n:Nat}{a b:List RawI}(p1:1≤p):∀ (js:List Nat) (s:Iv),s.Ok→(P0 p a b n s js).k=0→(P0 p a b n s js).v.Ok
 | [],s,hs,_=>hs
 | j :: js, s, hs, h => by
   rw [P0] at h ⊢;obtain ⟨e1,q1⟩:=Xx h;rw [q1] at h ⊢;obtain ⟨e2,q2⟩:=Xx h;rw [q2] at h ⊢;exact Aaj p1 js _ (Jy hs (Nq p1).1 p1).1 h
theorem Ul {p n:Nat}{a b:List RawI}(p1:1≤p)(h:(Gb p a b n).k=0):(Gb p a b n).v.Ok:=by
 unfold Gb at h ⊢;obtain ⟨e1,q1⟩:=Xx h;rw [q1] at h ⊢;exact Aaj p1 _ _ (Nq p1).1 h
theorem Ag4 (ov:Iv→Nat→Outc Iv)(p:Nat)(a b c:List RawI)(n:Nat):Cb ov p 8 a b c n=Gb p a b n:=rfl
theorem Acz (ov:Iv→Nat→Outc Iv)(p:Nat)(a b c:List RawI)(n:Nat):Cb ov p 11 a b c n=if n=0 then Iz (gI a 0) p else Gb p a a n:=rfl
theorem Am0 (ov:Iv→Nat→Outc Iv)(p:Nat)(a b c:List RawI)(n:Nat):Cb ov p 9 a b c n=(Fe p b c n (gI a n) (List.range' 1 n)).th fun x=>Da x (gI b 0) p:=rfl
theorem Ns {ov:Iv→Nat→Outc Iv}{p n:Nat}{op:Int}{a b c:List RawI}(p1:1≤p)(_ga:Gd a)(gb:Gd b)(ho:op=8∨op=11∨op=9)(h:(Cb ov p op a b c n).k=0):(Cb ov p op a b c n).v.Ok:=by
 rcases ho with rfl | rfl | rfl
 ·rw [Ag4] at h ⊢;exact Ul p1 h
 ·rw [Acz] at h ⊢;split at h
  ·rename_i h0;rw [if_pos h0];exact (Ak0 p1).1
  ·rename_i h0;rw [if_neg h0];exact Ul p1 h
 ·rw [Am0] at h ⊢;obtain ⟨e1,q1⟩:=Xx h;rw [q1];exact (Ng (Hg gb 0) p1).1
theorem gd_nil:Gd []:=fun a ha=>by cases ha
theorem Gd.snoc {c:List RawI}(g:Gd c){v:Iv}(h:v.Ok):Gd (c++[v.raw]):=by
 intro y hy;rcases List.mem_append.1 hy with hy | hy
 ·exact g y hy
 ·simp only [List.mem_singleton] at hy;subst hy;rw [Iv.raw_iv];exact ⟨h,rfl⟩
theorem Yj {p:Nat}{g:List RawI}(p1:1≤p)(gg:Gd g):∀ (js:List Nat) (c:List RawI),Gd c→(Eg p g c js).k=0→Gd (Eg p g c js).v∧(Eg p g c js).v.length=c.length+js.length
 | [],c,hc,_=>⟨hc,rfl⟩
 | j :: js, c, hc, h => by
   rw [Eg] at h ⊢;by_cases e:(Cv (gI g j) p).k=0
   ·rw [if_pos e] at h ⊢;obtain ⟨h1,h2⟩:=Yj p1 gg js _ (hc.snoc (Nx (Hg gg j) p1).1) h;refine ⟨h1,?_⟩;rw [h2];simp;omega
   ·rw [if_neg e] at h;exact absurd h e
def GdR (k:Nat) (rows:List (List RawI)):Prop:=∀ r∈rows,Gd r∧r.length=k+1
theorem GdR.at {k:Nat}{rows:List (List RawI)}(h:GdR k rows){i:Nat}(hi:i<rows.length):Gd (rows.getD i [])∧(rows.getD i []).length=k+1:=by
 rw [List.getD_eq_getElem?_getD,List.getElem?_eq_getElem hi];exact h _ (List.getElem_mem hi)
theorem GdR.snoc {k:Nat}{rows:List (List RawI)}(h:GdR k rows){r:List RawI}(g:Gd r)(l:r.length=k+1):GdR k (rows++[r]):=by
 intro y hy;rcases List.mem_append.1 hy with hy | hy
 ·exact h y hy
 ·simp only [List.mem_singleton] at hy;subst hy;exact ⟨g,l⟩
theorem GdR.nil (k:Nat):GdR k []:=fun a ha=>by cases ha
def Uu (tm:Bool) (ov:Iv→Nat→Outc Iv) (p k:Nat) (t:List RawI) (x q:List (List RawI)) (i:Nat) (l:Ln):Prop :=
 (∀ all:List (List RawI),all.length=i→GdR k all→(Ep ov p l all t x q k).k=0→Gd (Ep ov p l all t x q k).v∧(Ep ov p l all t x q k).v.length=k+1) ∧
 ∀ {w : World} {vl vall vt vx vq : Value} {all : List (List RawI)}, LnR w vl l → Rws w vall all → all.length = i → GdR k all → (tm = true → IvS w vt t) → Rws w vx x → Rws w vq q → Tab w →
   Calls Tryz.prog 89 #[.agg #[.int .i64 p],vl,vall,vt,vx,vq,.int .i64 k] w (Sh (Ep ov p l all t x q k) w)
theorem Xd (ov:Iv→Nat→Outc Iv)(p:Nat)(l:Ln)(all:List (List RawI))(t:List RawI)(x q:List (List RawI))(k:Nat)(h:l.op=3):Ep ov p l all t x q k=Eg p (Kq x l.a) [] (List.range' 0 (k+1)):=by
 unfold Ep;rw [h,←List.range_eq_range'];rfl
theorem Mq (ov:Iv→Nat→Outc Iv)(p:Nat)(l:Ln)(all:List (List RawI))(t:List RawI)(x q:List (List RawI))(k:Nat)(h:6≤l.op):Ep ov p l all t x q k=Ei ov p l.op (Kq all l.a) (Kq all l.b) [] (List.range' 0 (k+1)):=by
 unfold Ep;rw [if_neg (by omega),if_neg (by omega),if_neg (by omega),if_neg (by omega),←List.range_eq_range']
theorem All {tm:Bool}{ov:Iv→Nat→Outc Iv}{p k i j:Nat}{t:List RawI}{x q:List (List RawI)}{l:Ln}(h:l.op=3)(ha:l.a=(j:Int))(hj:j<x.length)(gx:GdR k x)(hk:k≤900)(p1:1≤p)(p2:p≤300):Uu tm ov p k t x q i l:=by
 obtain ⟨g1,g2⟩:=gx.at hj;refine ⟨fun all hi gall e=>?_,?_⟩
 ·rw [Xd _ _ _ _ _ _ _ _ h,Kq,ha,Int.toNat_natCast] at e ⊢;obtain ⟨q1,q2⟩:=Yj p1 g1 _ _ gd_nil e;exact ⟨q1,by rw [q2];simp⟩
 ·intro w vl vall vt vx vq all hl hall hi gall ht hx hq hT;rw [Xd _ _ _ _ _ _ _ _ h,Kq,ha,Int.toNat_natCast];exact Ajm h hl hx hj ha rfl g1 (by omega) (by omega) hT p1 p2
theorem Vt {ov:Iv→Nat→Outc Iv}{p k:Nat}{t:List RawI}{x q:List (List RawI)}:∀ (ls:List Ln) (all:List (List RawI)),
 (∀ all' (i:Nat) l,ls[i]?=some l→all'.length=all.length+i→GdR k all'→(Ep ov p l all' t x q k).k=0→Gd (Ep ov p l all' t x q k).v∧(Ep ov p l all' t x q k).v.length=k+1)→GdR k all→(Fk ov p t x q k all ls).k=0 →
   GdR k (Fk ov p t x q k all ls).v∧(Fk ov p t x q k all ls).v.length=all.length+ls.length
 | [],all,_,ga,_=>⟨ga,rfl⟩
 | l :: ls, all, h, ga, hk => by
   rw [Fk] at hk ⊢;by_cases e:(Ep ov p l all t x q k).k=0
   ·rw [if_pos e] at hk ⊢;obtain ⟨q1,q2⟩:=h all 0 l rfl rfl ga e;obtain ⟨h1,h2⟩:=Vt ls _ (fun all' i l hl hn=>h all' (i+1) l (by simpa using hl) (by rw [hn];simp;omega)) (ga.snoc q1 q2) hk;exact ⟨h1,by rw [h2];simp;omega⟩
   ·rw [if_neg e] at hk;exact absurd hk e
theorem Abw {tm:Bool}{ov:Iv→Nat→Outc Iv}{p k:Nat}{t:List RawI}{x q:List (List RawI)}{ls:List Ln}{outs:List Int}(h:∀ i l,ls[i]?=some l→Uu tm ov p k t x q i l)(ho:∀ n∈outs,0≤n∧n<(ls.length:Int))
 (hk:(Cy ov p ls outs t x q k).k=0):GdR k (Cy ov p ls outs t x q k).v:=by
 unfold Cy at hk ⊢;by_cases e:(Fk ov p t x q k [] ls).k=0
 ·rw [if_pos e];obtain ⟨g1,g2⟩:=Vt ls [] (fun all' i l hl hn=>(h i l hl).1 all' (by simpa using hn)) (GdR.nil k) e;intro r hr;obtain ⟨n,hn,rfl⟩:=List.mem_map.1 hr;obtain ⟨n0,n1⟩:=ho n hn;simp only [List.length_nil,Nat.zero_add] at g2;exact g1.at (i:=n.toNat) (by omega)
 ·rw [if_neg e] at hk;exact absurd hk e
theorem Ab1 {ov:Iv→Nat→Outc Iv}{p n m:Nat}{ls:List Ln}{outs:List Int}{time c:List RawI}{R:List (List RawI)}(ho:outs.length=1)(h:I3 ov p ls outs time [] [c] (List.range' n (m+1))=⟨R,0⟩) :
 ∃ r,Cy ov p ls outs (time.take (n+1)) [c] [] n=⟨[r],0⟩∧(Da (gI r n) (ptN (n+1)) p).k=0∧I3 ov p ls outs time [] [c++[(Da (gI r n) (ptN (n+1)) p).v.raw]] (List.range' (n+1) m)=⟨R,0⟩:=by
 rw [List.range'_succ,I3,List.map_nil] at h;by_cases h1:(Cy ov p ls outs (time.take (n+1)) [c] [] n).k=0
 ·rw [if_neg (by simpa using h1)] at h;obtain ⟨o1,rfl⟩:∃ o1,outs=[o1]:=by
   rcases outs with _ | ⟨o1,_ | ⟨o2,os⟩⟩
   ·simp at ho
   ·exact ⟨o1,rfl⟩
   ·simp at ho
  obtain ⟨r,hr⟩:∃ r,Cy ov p ls [o1] (time.take (n+1)) [c] [] n=⟨[r],0⟩:=by
   unfold Cy at h1 ⊢;by_cases e:(Fk ov p (time.take (n+1)) [c] [] n [] ls).k=0
   ·rw [if_pos e];exact ⟨_,rfl⟩
   ·rw [if_neg e] at h1;exact absurd h1 e
  refine ⟨r,hr,?_⟩;rw [hr] at h;by_cases h2:(Da (gI r n) (ptN (n+1)) p).k=0
  ·have hg:Ma p n [c] [r]=⟨[c++[(Da (gI r n) (ptN (n+1)) p).v.raw]],0⟩:=by
    simp only [Ma,h2,if_true]
   rw [hg,if_neg (by simp)] at h;exact ⟨h2,h⟩
  ·have hg:(Ma p n [c] [r]).k=(Da (gI r n) (ptN (n+1)) p).k:=by
    simp only [Ma];rw [if_neg h2]
   rw [if_pos (by rw [hg];exact h2)] at h;injection h with h3 h4
   rw [hg] at h4;exact absurd h4 h2
 ·rw [if_pos h1] at h;injection h with h3 h4
  exact absurd h4 h1
theorem I4 {w:World}{ops:Array Oper}{rest:List Oper}{o:Oper}{a:Act}{Q:Exit→Act→World→Prop}(hgd:o.guard=none)(s x:Operand)
 (ho:o.op=.call { callee:=.builtin .append,args:=#[s,x],argTypes:=#[38,38] })
 {base:Nat} {v:Value} {l:List (List RawI)} {xs:List Value} (hs:a.eval s=v) (hown:OwnR w base v l xs) {d:List RawI} {u:Value} {b:Nat}
 (hd:IvS w u d) (hb:w.cell? ⟨b,0,none⟩=some u) (hx:a.eval x=.slice (some ⟨b,0,none⟩) 1 1)
 (hl:l.length≤1000) (hbase:base≤w.heap.size)
 (h:∀ v' w',OwnR w' base v' (l++[d]) (xs++[u])→w.grownBy w' v.ownBlock→wpList Tryz.prog ops Q rest (a.put o.dst v') w'):wpList Tryz.prog ops Q (o::rest) a w:=by
 obtain ⟨i0,hi,hz0,hz1,hz2⟩:=info_parts Aor;have ad:∀ j,(⟨b,0,none⟩:Addr).add j=⟨b,j,none⟩:=by intro j;unfold Addr.add;split<;>simp_all
 have hu:SlC u:=by obtain ⟨A,c,rfl,-⟩:=hd;exact ⟨_,_,_,rfl⟩
 have hu1:u.oneCell'=true:=by obtain ⟨A,c,rfl,-⟩:=hd;rfl
 refine Qa (p:=SlC) hgd s x _ ho base 31 i0 _ 1 24 Tryz.underlying38 hi hz0 hz1 hz2 rfl (by decide) v l.length xs hs hown.row _ 1 1 [u] hx rfl ?_ (by intro y hy;simp only [List.mem_singleton] at hy;rw [hy];exact hu1) (by unfold maxLen;omega) (by omega) hbase (by decide) hown.sl (by intro y hy;simp only [List.mem_singleton] at hy;rw [hy];exact hu) (by intro y hy;simp [Value.cells] at hy;rw [hy];exact ⟨_,_,_,rfl⟩) hown.blk ?_
 ·intro j y hy;rw [ad];rcases j with _ | j
  ·cases hy;exact hb
  ·simp at hy
 ·intro v' w' g' q1 q2 q3 q4;exact h v' w' (hown.snoc hd q1 q2 q3 q4) q2
theorem An7 (w:World)(p:Int)(s o:Value):∃ W,W=(w.alloc (.cells #[.int .i64 p] 81)).alloc (.cells #[s,o] 25) ∧
 Kept w W∧W.heap[w.heap.size]?=some (.cells #[.int .i64 p] 81 (0,0))∧W.heap[w.heap.size+1]?=some (.cells #[s,o] 25 (0,0)):=by
 refine ⟨_,rfl,(Ad _ _).trans (Ad _ _),?_,?_⟩
 ·rw [Below.heap_alloc _ _ _ (by simp)];exact heap_alloc_new _ _
 ·have:=heap_alloc_new (w.alloc (.cells #[.int .i64 p] 81)) (.cells #[s,o] 25);simpa using this
theorem An6 (w:World)(o a b x y z x' y' z':Value):∃ W,W=w.alloc (.cells #[o,a,b,x,y,z,x',y',z'] 52)∧Kept w W∧W.heap[w.heap.size]?=some (.cells #[o,a,b,x,y,z,x',y',z'] 52 (0,0)) :=
 ⟨_,rfl,Ad _ _,heap_alloc_new _ _⟩
theorem Y7 {ov:Iv→Nat→Outc Iv}{p k j:Nat}{t:List RawI}{x q all:List (List RawI)}{ls:List Ln}{l:Ln}(h:ls[j]?=some l):Fk ov p t x q k all (ls.drop j) =
 if (Ep ov p l all t x q k).k=0 then Fk ov p t x q k (all++[(Ep ov p l all t x q k).v]) (ls.drop (j+1)) else ⟨[],(Ep ov p l all t x q k).k⟩:=by
 obtain ⟨hj,rfl⟩:=List.getElem?_eq_some_iff.1 h;rw [List.drop_eq_getElem_cons hj];rfl
theorem Abe {ov:Iv→Nat→Outc Iv}{p k j:Nat}{t:List RawI}{x q all:List (List RawI)}{ls:List Ln}(h:ls.length≤j):Fk ov p t x q k all (ls.drop j)=⟨all,0⟩:=by
 rw [List.drop_eq_nil_of_le h];rfl
theorem Z0 {tm:Bool}{ov:Iv→Nat→Outc Iv}{w:World}{vt vs vx vq:Value}{ls:List Ln}{outs:List Int}{t:List RawI}{x q:List (List RawI)}{k p:Nat}(hv:TpR w vt ls outs)(ht:tm=true→IvS w vs t)(hx:Rws w vx x)(hq:Rws w vq q)
 (hL:∀ i l,ls[i]?=some l→Uu tm ov p k t x q i l) (ho:∀ n∈outs,0≤n∧n<(ls.length:Int)) (hn:ls.length≤200) (hm:outs.length≤200) (hk:k≤900) (hT:Tab w) :
 Calls Tryz.prog 49 #[.agg #[.int .i64 p],vt,vs,vx,vq,.int .i64 k] w (Gu (Cy ov p ls outs t x q k) w):=by
 obtain ⟨s,o,rfl,hls,hou⟩:=hv;have HLS:=hid hls;have HOU:=hid hou;have CL:=hid (fun (i:Nat) (l:Ln) (hl:ls[i]?=some l) (w1:World) (kq:Kept w w1) vl vall (all:List (List RawI)) (h1:LnR w1 vl l) (h2:Rws w1 vall all) (h3:all.length=i) (h4:GdR k all)=>And.intro ((hL i l hl).2 h1 h2 h3 h4 (fun e=>(ht e).kept kq) (hx.kept kq) (hq.kept kq) (hT.kept kq)) ((hL i l hl).1 all h3 h4));have HO:=hid ho;obtain ⟨A,c,rfl,hc,-⟩:=hls;obtain ⟨B,d,rfl,-,-⟩:=hou;obtain ⟨R,hR⟩:∃ R,R=Fk ov p t x q k [] ls:=⟨_,rfl⟩;obtain ⟨U,hU⟩:∃ U,U=Cy ov p ls outs t x q k:=⟨_,rfl⟩;have hU0:R.k=0→U=⟨outs.map fun n=>Kq R.v n,0⟩:=fun h=>by rw [hU,Cy,←hR,if_pos h]
 have hU1:R.k≠0→U=⟨[],R.k⟩:=fun h=>by rw [hU,Cy,←hR,if_neg h]
 rw [←hU];have UG:=hid hU0;have UB:=hid hU1;have HR:=hid hR;have HK:=hid hk;obtain ⟨W,hW,kW,bW,bT⟩:=An7 w p (.slice A ls.length c) (.slice B outs.length d);have HW:=hid hW;have K:=hid kW;have BW:=hid bW;obtain ⟨c0,c1⟩:=J9 bT;have BT:=hid bT;generalize hnl:ls.length=n at *;have HN:=hid hnl;generalize hml:outs.length=m at *;have HM:=hid hml;clear hW kW bW bT hU0 hU1 hR hU hL ho hT ht hx hq hnl hml hk hc;go_enter Tryz.func49,Tryz.ntmps49;go_upto_region 2 with fail;rw [←HW.out];clear HW;go_wp2_with fail;clear c0 c1
 go_loopw [13,22] (fun va ti wr=>∃ (j:Nat) (all:List (List RawI)) (xs:List Value),j≤n∧ti=.int .i64 (j:Int)∧all.length=j∧GdR k all∧Fk ov p t x q k all (ls.drop j)=R∧OwnR wr W.heap.size va all xs∧Kept W wr) (fun _ ti _=>(n-intOf ti).toNat)
 case atStart=>exact ⟨0,[],[],Nat.zero_le _,rfl,rfl,GdR.nil k,HR.out.symm,OwnR.nil _ _,Below.refl _ _⟩
 case round =>
  obtain ⟨j,all,xs,hj,rfl,hal,hgd,hlj,hown,hkr⟩:=hrel;have HAL:=hid hal;have GD:=hid hgd;have LJ:=hid hlj;have OWN:=hid hown;have KR:=hid hkr;clear hal hgd hlj hown hkr;by_cases hlt:j<n
  ·obtain ⟨l,hl⟩:∃ l,ls[j]?=some l:=⟨_,List.getElem?_eq_getElem (by have:=HN.out;omega)⟩;obtain ⟨A',c',eA,-,hA⟩:=HLS.out;injection eA with eA1 eA2 eA3
   subst eA1;obtain ⟨bl,ol,rfl,hd⟩:=hA (by have:=HN.out;omega);obtain ⟨a0,a1,a2,y0,y1,y2,y3,y4,y5,g0,g1,g2,g3,g4,g5,hI⟩:=(hd j _ hl).kept (K.out.trans KR.out);obtain ⟨A1,l1,q1,A2,l2,q2,ei,-,-⟩:=Au hI;injection ei with ei;injection ei with ei
   simp only [List.cons.injEq,and_true] at ei;obtain ⟨rfl,rfl,rfl,rfl,rfl,rfl⟩:=ei;obtain ⟨ro,hro⟩:∃ ro,ro=Ep ov p l all t x q k:=⟨_,rfl⟩;have hst:=Y7 (ov:=ov) (p:=p) (k:=k) (t:=t) (x:=x) (q:=q) (all:=all) hl;rw [←hro,LJ.out] at hst;have hR0:ro.k=0→Fk ov p t x q k (all++[ro.v]) (ls.drop (j+1))=R:=fun h=>by rw [hst,if_pos h]
   have hBAD:∀ w1,Kept w w1→ro.k≠0→Gu U w (.panicked (Bs 106 ro.k)) w1:=fun w1 kq h=>by
    have e:R=⟨[],ro.k⟩:=by rw [hst,if_neg h]
    have e2:=UB.out (by rw [e];exact h);rw [e] at e2;rw [e2];exact ⟨kq,.inr ⟨h,rfl⟩⟩
   obtain ⟨W2,hW2,kW2,hLB⟩:=An6 wr (.int .i64 l.op) (.int .i64 l.a) (.int .i64 l.b) (.bool l.k.lo.neg) (.slice A1 l1 q1) (.int .i64 l.k.lo.e) (.bool l.k.hi.neg) (.slice A2 l2 q2) (.int .i64 l.k.hi.e);have hcl:=CL.out j l hl W2 (K.out.trans (KR.out.trans kW2)) _ _ all ⟨_,_,_,_,_,_,rfl,hI.kept kW2⟩ (OWN.out.all.kept kW2) HAL.out GD.out;rw [←hro] at hcl;have HCL:=hid hcl;have R0:=hid hR0;have BAD:=hid hBAD;have HW2:=hid hW2;have K2:=hid kW2;have HLB:=hid hLB;clear hcl hR0 hBAD hW2 hI hd hA eA2 eA3 hst hro hl;generalize l.op=e1 at *;generalize l.a=e2 at *;generalize l.b=e3 at *;generalize l.k.lo.neg=e4 at *
   generalize l.k.lo.e=e5 at *;generalize l.k.hi.neg=e6 at *;generalize l.k.hi.e=e7 at *;go_upto_region 5 with fail;rw [←HW2.out];clear HW2 a0 a1 a2 g0 g1 g2 g3 g4 g5;generalize hb10:wr.heap.size=b10 at *;obtain ⟨r0,r1,r2,r3,r4,r5,r6,r7,r8⟩:=Dd HLB.out;have d0:=Ab (Ao BW.out (KR.out.trans K2.out)) 0 _ rfl;go_wp2_with fail;refine HCL.out.1.mono ?_;rintro e w3 ⟨q3,hq3⟩;rcases hq3 with ⟨h0,v,rfl,hv3,-⟩ | ⟨h0,rfl⟩
   ·have hvv:=hv3;obtain ⟨A3,c3,rfl,-⟩:=hvv;have HV3:=hid hv3;obtain ⟨gd1,gd2⟩:=HCL.out.2 h0;have GD':=hid (GD.out.snoc gd1 gd2);have R0':=hid (R0.out h0);have K3:=hid (K2.out.trans q3);have KK:=hid (KR.out.trans K3.out);have OW3:=hid (OWN.out.kept K3.out);have hl9:all.length≤1000:=by have:=HAL.out;omega
    have hW9:W.heap.size≤w3.heap.size:=KK.out.size;clear r0 r1 r2 r3 r4 r5 r6 r7 r8 d0 hv3 gd1 gd2 q3 h0 HCL R0 BAD HLB OWN hb10;simp only []
    go_wp2_with (at_builtin;refine I4 rfl (.tmp 26) (.tmp 35) rfl rfl (OW3.out.kept (Ad _ _)) (HV3.out.kept (Ad _ _)) (Ab (heap_alloc_new _ _) 0 _ rfl) rfl hl9 (Nat.le_trans hW9 (by simp)) ?_;intro v' X OX gX)
    have KX:=hid (OwnR.grown_kept (OW3.out.kept (Ad _ _)) (KK.out.trans (Ad _ _)) gX);have OXX:=hid OX;clear OX gX OW3 HV3;go_wp2_with fail;go_roundw
    case rel=>exact ⟨j+1,all++[ro.v],_,by omega,by go_num,by simp [HAL.out],GD'.out,R0'.out,OXX.out,KX.out⟩
    case measure=>simp [intOf];omega
   ·simp only [];exact ⟨rfl,BAD.out _ (K.out.trans (KR.out.trans (K2.out.trans q3))) h0⟩
  ·obtain rfl:j=n:=by omega
   have hRR:R=⟨all,0⟩:=by
    have:=LJ.out;rw [Abe (by have:=HN.out;omega)] at this;exact this.symm
   have hUU:U=⟨outs.map fun n=>Kq all n,0⟩:=by
    have:=UG.out (by rw [hRR]);rw [hRR] at this;exact this
   have UU:=hid hUU;clear hRR hUU UG UB LJ CL HR;obtain ⟨Aa,ca,rfl,hca,hall⟩:=OWN.out.all;have HALL:=hid (show Rws wr (.slice Aa all.length ca) all from ⟨Aa,ca,rfl,hca,hall⟩);clear hca hall OWN;rw [HAL.out];obtain ⟨c0,c1⟩:=J9 (Ao BT.out KR.out);go_wp2_with fail;clear c0 c1;have hW8:W.heap.size≤wr.heap.size:=KR.out.size;obtain ⟨V1,hV1⟩:∃ V1,V1=wr:=⟨wr,rfl⟩;subst hV1
   go_loopw [14,41] (fun va ti wr2=>∃ (i:Nat) (xs:List Value),i≤m∧ti=.int .i64 (i:Int)∧OwnR wr2 V1.heap.size va ((outs.take i).map fun n=>Kq all n) xs∧Kept V1 wr2) (fun _ ti _=>(m-intOf ti).toNat)
   case atStart=>exact ⟨0,[],Nat.zero_le _,rfl,OwnR.nil _ _,Below.refl _ _⟩
   case round =>
    obtain ⟨i,xs',hi,rfl,hown,hkz⟩:=hrel;have OWN:=hid hown;have KZ:=hid hkz;clear hown hkz;by_cases him:i<m
    ·obtain ⟨z,hz⟩:∃ z,outs[i]?=some z:=⟨_,List.getElem?_eq_getElem (by have:=HM.out;omega)⟩;obtain ⟨z0,z1⟩:=HO.out z (List.mem_of_getElem? hz);obtain ⟨zn,rfl⟩:∃ zn:Nat,z=(zn:Int):=⟨z.toNat,by omega⟩;have hzn:zn<all.length:=by have:=HAL.out;omega
     obtain ⟨B',d',eB,-,hB⟩:=HOU.out;injection eB with eB1 eB2 eB3
     subst eB1;obtain ⟨bo,oo,rfl,hdo⟩:=hB (by have:=HM.out;omega);have o0:=(((K.out.trans KR.out).trans KZ.out).cell (p:=⟨bo,oo+i,none⟩) (Aq (hdo i _ hz))).trans (hdo i _ hz);obtain ⟨ba,oa,c9,s9,e9,-,t9,hs9⟩:=HALL.out.row hzn;injection e9 with e9 e8 e7
     subst e9;have t8:=(KZ.out.cell (p:=⟨ba,oa+zn,none⟩) (Aq t9)).trans t9;obtain ⟨g1,g2⟩:=GD.out.at hzn;have HCC:=hid (Af8 (hs9.kept KZ.out) (by rw [g2];omega) (by have:=HK.out;rw [g2];omega));obtain ⟨As,cs,rfl,-⟩:=hs9;have HZ:=hid (show (outs.take (i+1)).map (fun n=>Kq all n)=(outs.take i).map (fun n=>Kq all n)++[all.getD zn []] by
      rw [List.take_add_one,hz,List.map_append];rfl)
     have hlen:((outs.take i).map fun n=>Kq all n).length≤1000:=by rw [List.length_map,List.length_take];omega
     have hW7:V1.heap.size≤wr.heap.size:=KZ.out.size;have hna:(zn:Int)<(j:Int):=by have:=HAL.out;omega
     generalize all.getD zn []=rw9 at *;clear hdo hB eB2 eB3 hz t9 g1 g2 z0 z1 e8 e7;go_wp2_with fail;refine HCC.out.mono ?_;rintro e w4 ⟨q4,v',ys,rfl,hoi⟩;have hS4:=hoi.ivS;obtain ⟨A4,c4,rfl,-⟩:=hS4;have HV4:=hid hoi.ivS;have OW4:=hid (OWN.out.kept q4);have K4:=hid (KZ.out.trans q4);have hW6:V1.heap.size≤w4.heap.size:=K4.out.size;clear hoi o0 t8 OWN HCC;simp only []
     go_wp2_with (at_builtin;refine I4 rfl (.tmp 45) (.tmp 51) rfl rfl (OW4.out.kept (Ad _ _)) (HV4.out.kept (Ad _ _)) (Ab (heap_alloc_new _ _) 0 _ rfl) rfl hlen (Nat.le_trans hW6 (by simp)) ?_;intro v' X OX gX)
     have KX:=hid (OwnR.grown_kept (OW4.out.kept (Ad _ _)) (K4.out.trans (Ad _ _)) gX);rw [←HZ.out] at OX;have OXX:=hid OX;clear OX gX OW4 HV4 q4;go_wp2_with fail;go_roundw
     case rel=>exact ⟨i+1,_,by omega,by go_num,OXX.out,KX.out⟩
     case measure=>simp [intOf];omega
    ·obtain rfl:i=m:=by omega
     have hfin:=OWN.out.all;rw [List.take_of_length_le (by have:=HM.out;omega)] at hfin;have hbs:=OWN.out.base;have FI:=hid (And.intro hfin hbs);clear hfin hbs OWN;go_wp2_with fail;go_ret;refine ⟨K.out.trans (KR.out.trans KZ.out),.inl ?_⟩;rw [UU.out];exact ⟨rfl,_,rfl,FI.out.1,fun g hg=>Nat.le_trans (Nat.le_trans K.out.size hW8) (FI.out.2 g hg)⟩
theorem Qe {P:Program}{w w':World}{o:Oper}{a:Act}(s x:Operand)(t:TypeId){vs vx v':Value}
 (ho:o.op=.call { callee:=.builtin .append,args:=#[s,x],argTypes:=#[t,t] }) (hs:a.eval s=vs) (hx:a.eval x=vx)
 (hr:(Builtin.append_ #[t,t] o.type #[vs,vx]).run P w=.ok v' w'):(execOp a.eval o).run P w=.ok (.value v') w':=by
 unfold execOp;simp only [ho,resolve,invoke,builtin,Sem.run_bind,Sem.run_pure,Result.andThen_ok,List.map_toArray,List.map_cons,List.map_nil,hs,hx,hr]
theorem OwnI.low {w:World}{base B:Nat}{v:Value}{l:List RawI}{xs:List Value}(h:OwnI w base v l xs)(hB:B≤base):OwnI w B v l xs:=by
 obtain ⟨h1,h2,h3,h4,h5⟩:=h;refine ⟨⟨h1.1,?_⟩,h2,h3,h4,h5⟩;rcases h1.2 with hn | ⟨g,cap,cur,e,hb,rest⟩
 ·exact .inl hn
 ·exact .inr ⟨g,cap,cur,e,Nat.le_trans hB hb,rest⟩
theorem Adx {w:World}{b off c:Nat}{a:RawI}{x0 x1 x2 x3 x4 x5:Value}(c0:w.cell? ⟨b,off,none⟩=some x0)(c1:w.cell? ⟨b,off+1,none⟩=some x1)(c2:w.cell? ⟨b,off+2,none⟩=some x2)(c3:w.cell? ⟨b,off+3,none⟩=some x3)
 (c4:w.cell? ⟨b,off+4,none⟩=some x4) (c5:w.cell? ⟨b,off+5,none⟩=some x5) (hI:IvR w (.agg #[x0,x1,x2,x3,x4,x5]) a) :
 Calls Tryz.prog 55 #[.slice (some ⟨b,off,none⟩) 1 c] w fun e w'=>Kept w w'∧∃ v',e=.returned v'∧OwnI w' w.heap.size v' [a] [x0,x1,x2,x3,x4,x5]:=by
 obtain ⟨i0,hi,hz0,hz1,hz2⟩:=info_parts Vn;have e1:=fun (w:World)=>Lib.run_eql_slice_nil (P:=Tryz.prog) w 31 30 (some ⟨b,off,none⟩) 1 c 0 0 Tryz.underlying31
 obtain ⟨W,hW⟩:∃ W,W=w.alloc (.cells #[] 30):=⟨_,rfl⟩;have kW:Kept w W:=by rw [hW];exact Ad _ _
 have hown:W.ownsRow w.heap.size 30 6 (.slice (some ⟨w.heap.size,0,none⟩) 0 0) 0 []:=by rw [hW];exact World.ownsRow_made w #[] 0 (Nat.le_refl _) (by decide) rfl
 have hnol:∀ g,(Value.slice (some ⟨w.heap.size,0,none⟩) 0 0).ownBlock=some g→NoL W g:=by
  intro g hg;obtain rfl:w.heap.size=g:=Option.some.inj hg;exact ⟨_,_,by rw [hW];exact heap_alloc_new _ _,by simp⟩
 have hcl:=hI.cells;have ad:∀ j,(⟨b,off,none⟩:Addr).add j=⟨b,off+j,none⟩:=by intro j;unfold Addr.add;split<;>simp_all
 have q2:∀ (j:Nat) (u:Value),[x0,x1,x2,x3,x4,x5][j]?=some u→W.cell? ⟨b,off+j,none⟩=some u:=by
  intro j u hj;have hk:∀ i v,w.cell? ⟨b,off+i,none⟩=some v→W.cell? ⟨b,off+i,none⟩=some v:=fun i v hv=>(kW.cell (p:=⟨b,off+i,none⟩) (Aq hv)).trans hv
  rcases j with _ | _ | _ | _ | _ | _ | j
  ·cases hj;exact hk 0 _ c0
  ·cases hj;exact hk 1 _ c1
  ·cases hj;exact hk 2 _ c2
  ·cases hj;exact hk 3 _ c3
  ·cases hj;exact hk 4 _ c4
  ·cases hj;exact hk 5 _ c5
  ·simp at hj
 have hsz:w.heap.size≤W.heap.size:=kW.size;have Q2:=hid q2;have CL:=hid hcl;have HI:=hid (hI.kept kW);have HO:=hid hown;have HN:=hid hnol;have K:=hid kW;have HW:=hid hW;have AD:=hid ad;clear hown hnol q2 kW hW ad c0 c1 c2 c3 c4 c5 hI hcl;go_enter Tryz.func55,Tryz.ntmps55;go_upto_region 3 with fail
 go_wp2_with (at_builtin;rw [←HW.out];refine J7 rfl (.tmp 5) (.tmp 6) _ rfl w.heap.size 30 i0 _ 6 80 Tryz.underlying31 hi hz0 hz1 hz2 rfl (by decide) _ 0 [] rfl HO.out ⟨b,off,none⟩ 1 c [x0,x1,x2,x3,x4,x5] rfl rfl (fun j u hj=>by rw [AD.out];exact Q2.out j u hj) (fun u hu=>(CL.out u hu).2) (by unfold maxLen;omega) (by omega) hsz (by decide) (by simp) (fun u hu=>(CL.out u hu).1) Ky HN.out ?_;intro v' w' g' o1 o2 o3 o4)
 have kk:Kept w w':=Below.grown K.out o2 hsz (fun g hg=>Nat.le_of_eq (Option.some.inj hg));have own:OwnI w' w.heap.size v' [a] [x0,x1,x2,x3,x4,x5]:=by
  refine ⟨by simpa using o1,fun u hu=>(CL.out u hu).1,fun u hu=>(CL.out u hu).2,?_,?_⟩
  ·intro g hg;rw [o3] at hg;cases hg;exact o4
  ·intro i d hi;rcases i with _ | i
   ·obtain rfl:a=d:=by simpa using hi
    exact ⟨_,_,_,_,_,_,rfl,rfl,rfl,rfl,rfl,rfl,HI.out.grown o2 HN.out⟩
   ·simp at hi
 have FI:=hid (And.intro kk own);clear kk own o1 o2 o3 o4;go_wp2;go_ret;exact ⟨FI.out.1,_,rfl,FI.out.2⟩
theorem Ais {w:World}{B:Nat}{v:Value}{l:List RawI}{d:RawI}{xs:List Value}{t0 t1 t2 t3 t4 t5:Value}{bt:Nat}(ty:TypeId)(ho:OwnI w B v l xs)(hnil:l=[]→v=.slice none 0 0∨∃ g,v=.slice (some ⟨g,0,none⟩) 0 0)(hl:l.length≤1000)(hB:B≤w.heap.size)
 (hb:BlkI w bt t0 t1 t2 t3 t4 t5) (hd:IvR w (.agg #[t0,t1,t2,t3,t4,t5]) d) :
 ∃ v' w', (Builtin.append_ #[31, 31] ty #[v, .slice (some ⟨bt, 0, none⟩) 1 1]).run Tryz.prog w = .ok v' w' ∧ OwnI w' B v' (l ++ [d]) (xs ++ [t0, t1, t2, t3, t4, t5]) ∧ w.grownBy w' v.ownBlock ∧
   (∀ (b:Nat) (cs:Array Value) (T:TypeId),w.heap[b]?=some (.cells cs T (0,0))→cs.size<12→w'.heap[b]?=some (.cells cs T (0,0))) ∧
   (∀ g,(∀ (j:Nat) (u:Value),(xs++[t0,t1,t2,t3,t4,t5])[j]?=some u→w.cell? ⟨g,j,none⟩=some u)→∀ (j:Nat) (u:Value),(xs++[t0,t1,t2,t3,t4,t5])[j]?=some u→w'.cell? ⟨g,j,none⟩=some u) ∧
   (∀ v2,OwnI w B v2 l xs→OwnI w' B v2 l xs):=by
 obtain ⟨i0,hi,hz0,hz1,hz2⟩:=info_parts Vn;obtain ⟨-,c0,c1,c2,c3,c4,c5⟩:=hb.facts;have hcl:=hd.cells;have ad:∀ (b j:Nat),(⟨b,0,none⟩:Addr).add j=⟨b,j,none⟩:=by intro b j;unfold Addr.add;split<;>simp_all
 have hnews:∀ (j:Nat) (u:Value),[t0,t1,t2,t3,t4,t5][j]?=some u→w.cell? ((⟨bt,0,none⟩:Addr).add j)=some u:=by
  intro j u hu;rw [ad];rcases j with _ | _ | _ | _ | _ | _ | j
  ·cases hu;exact c0
  ·cases hu;exact c1
  ·cases hu;exact c2
  ·cases hu;exact c3
  ·cases hu;exact c4
  ·cases hu;exact c5
  ·simp at hu
 obtain ⟨v',w',g',hr,h2,h3,h4,h5⟩:=Hk (P:=Tryz.prog) w B 31 ty 30 i0 _ 6 80 Tryz.underlying31 hi hz0 hz1 hz2 rfl (by decide) v l.length xs ho.row ⟨bt,0,none⟩ 1 1 [t0,t1,t2,t3,t4,t5] rfl hnews (fun u hu=>(hcl u hu).2) (by unfold maxLen;omega) (by omega) hB (by decide) ho.nl (fun u hu=>(hcl u hu).1) Ky ho.blk;have hown':=ho.snoc hd h2 h3 h4 h5;rcases ho.row.2 with ⟨rfl,h0⟩ | ⟨g,cap,cur,rfl,hbg,hg,hnc,hcm,hcs,htake⟩
 ·obtain rfl:l=[]:=List.eq_nil_of_length_eq_zero h0;have hr2:=run_append_nil (P:=Tryz.prog) w 31 ty 30 i0 _ Tryz.underlying31 hi hz0 ⟨bt,0,none⟩ 1 1 [t0,t1,t2,t3,t4,t5] (by rw [hz1];rfl) hnews (by decide) (by decide) (by rw [hz2];decide);rw [hr2] at hr;injection hr with e1 e2
  have kk:Kept w w':=by rw [←e2];exact (Below.refl _ _).drew.alloc (Nat.le_refl _) _
  rw [e1,e2] at hr2;exact ⟨_,_,hr2,hown',h3,fun b cs T hb2 _=>(kk.block b (Array.getElem?_eq_some_iff.1 hb2).1).trans hb2,fun g2 hh j u hj=>(kk.cell (p:=⟨g2,j,none⟩) (Aq (hh j u hj))).trans (hh j u hj),fun v2 o2=>o2.kept kk⟩
 have h3':w.grownBy w' (some g):=h3;have oth:∀ (b:Nat) (o:Obj),b≠g→w.heap[b]?=some o→w'.heap[b]?=some o:=fun b o hne hb'=>by
  rw [h3'.block b (Array.getElem?_eq_some_iff.1 hb').1 (fun e=>hne (Option.some.inj e))];exact hb'
 have othc:∀ b j u,b≠g→w.cell? ⟨b,j,none⟩=some u→w'.cell? ⟨b,j,none⟩=some u:=fun b j u hne hb'=>by
  have:=h3'.block b (Aq hb') (fun e=>hne (Option.some.inj e));simp only [World.cell?,this];simpa only [World.cell?] using hb'
 by_cases hroom:l.length+1≤cap
 ·have hn:0<l.length:=by
   by_cases e:l=[]
   ·subst e;rcases hnil rfl with e | ⟨g9,e⟩<;>injection e with e1 e2 e3
    ·cases e1
    ·subst e3;simp at hroom
   ·exact List.length_pos_iff.2 e
  have hsz:12≤cur.size:=by rw [hcs];omega
  have hr2:=run_append_room (P:=Tryz.prog) w 31 ty 30 i0 Tryz.underlying31 hi g l.length cap cur hg ⟨bt,0,none⟩ 1 1 [t0,t1,t2,t3,t4,t5] (by rw [hz1];rfl) hnews (fun u hu=>(hcl u hu).2) hroom (by rw [hz1,hcs];simp only [List.length_cons,List.length_nil];omega);rw [hz1] at hr2;rw [hr2] at hr;injection hr with e1 e2
  subst e1;subst e2;obtain rfl:g=g':=by simpa [Value.ownBlock] using h4
  refine ⟨_,_,hr2,hown',h3,?_,?_,?_⟩
  ·intro b cs T hb2 hlt;refine oth b _ ?_ hb2;rintro rfl;rw [hg] at hb2;injection hb2 with hb2
   injection hb2 with hb2
   subst hb2;omega
  ·intro g2 hh j u hj;by_cases e:g2=g
   ·subst e;have:=h2.cells (g:=g2) rfl j u hj;rwa [ad] at this
   ·exact othc g2 j u e (hh j u hj)
  ·intro v2 o2;rcases o2.row.2 with ⟨-,h0⟩ | ⟨g2,cap2,cur2,rfl,hbg2,hgg2,hnc2,hcm2,hcs2,htake2⟩
   ·omega
   by_cases e:g2=g
   ·subst e;rw [hg] at hgg2;injection hgg2 with hgg2
    injection hgg2 with hgg2
    subst hgg2;refine ⟨⟨o2.row.1,.inr ⟨g2,cap2,_,rfl,hbg2,setRow_heap w g2 cur _ _ _ hg,hnc2,hcm2,?_,?_⟩⟩,o2.nl,o2.one,?_,?_⟩
    ·simp only [List.size_toArray,List.length_append,List.length_take,List.length_drop,Array.length_toList,List.length_cons,List.length_nil];omega
    ·rw [List.append_assoc,List.take_append_of_le_length (by simp only [List.length_take,Array.length_toList];omega),List.take_take,Nat.min_self];exact htake2
    ·intro gg hgg;obtain rfl:g2=gg:=by simpa [Value.ownBlock] using hgg
     exact h5
    ·intro i a hi2;obtain ⟨p0,p1,p2,p3,p4,p5,s0,s1,s2,s3,s4,s5,hJ⟩:=o2.ivs i a hi2;exact ⟨p0,p1,p2,p3,p4,p5,s0,s1,s2,s3,s4,s5,hJ.grown h3 ho.blk⟩
   ·refine ⟨⟨o2.row.1,.inr ⟨g2,cap2,cur2,rfl,hbg2,oth g2 _ e hgg2,hnc2,hcm2,hcs2,htake2⟩⟩,o2.nl,o2.one,?_,?_⟩
    ·intro gg hgg;obtain rfl:g2=gg:=by simpa [Value.ownBlock] using hgg
     obtain ⟨cur3,e3,r1,r2⟩:=o2.blk g2 rfl;exact ⟨cur3,e3,oth g2 _ e r1,r2⟩
    ·intro i a hi2;obtain ⟨p0,p1,p2,p3,p4,p5,s0,s1,s2,s3,s4,s5,hJ⟩:=o2.ivs i a hi2;exact ⟨p0,p1,p2,p3,p4,p5,s0,s1,s2,s3,s4,s5,hJ.grown h3 ho.blk⟩
 ·have holds:∀ j u,xs[j]?=some u→w.cell? ((⟨g,0,none⟩:Addr).add j)=some u:=ho.row.cells (g:=g) rfl;have hr2:=run_append_grow (P:=Tryz.prog) w 31 ty 30 i0 _ Tryz.underlying31 hi hz0 ⟨g,0,none⟩ l.length cap xs (by rw [hz1];exact ho.row.1) holds ⟨bt,0,none⟩ 1 1 [t0,t1,t2,t3,t4,t5] (by rw [hz1];rfl) hnews (by omega) (by omega) (growslice_fits (by omega) (by rw [hz2];omega));rw [hr2] at hr;injection hr with e1 e2
  have kk:Kept w w':=by rw [←e2];exact (Below.refl _ _).drew.alloc (Nat.le_refl _) _
  rw [e1,e2] at hr2;refine ⟨_,_,hr2,hown',h3,fun b cs T hb2 _=>(kk.block b (Array.getElem?_eq_some_iff.1 hb2).1).trans hb2,fun g2 hh j u hj=>(kk.cell (p:=⟨g2,j,none⟩) (Aq (hh j u hj))).trans (hh j u hj),fun v2 o2=>o2.kept kk⟩
theorem Afa {w:World}{B:Nat}{v:Value}{l:List RawI}{d:RawI}{xs:List Value}{t0 t1 t2 t3 t4 t5:Value}{bt:Nat}(ty:TypeId)(ho:OwnI w B v l xs)(hn:0<l.length)(hl:l.length≤1000)(hB:B≤w.heap.size)
 (hb:BlkI w bt t0 t1 t2 t3 t4 t5) (hd:IvR w (.agg #[t0,t1,t2,t3,t4,t5]) d) :
 ∃ v' w', (Builtin.append_ #[31, 31] ty #[v, .slice (some ⟨bt, 0, none⟩) 1 1]).run Tryz.prog w = .ok v' w' ∧ OwnI w' B v' (l ++ [d]) (xs ++ [t0, t1, t2, t3, t4, t5]) ∧ w.grownBy w' v.ownBlock ∧
   (∀ (b:Nat) (cs:Array Value) (T:TypeId),w.heap[b]?=some (.cells cs T (0,0))→cs.size<12→w'.heap[b]?=some (.cells cs T (0,0))) ∧
   (∀ g,(∀ (j:Nat) (u:Value),(xs++[t0,t1,t2,t3,t4,t5])[j]?=some u→w.cell? ⟨g,j,none⟩=some u)→∀ (j:Nat) (u:Value),(xs++[t0,t1,t2,t3,t4,t5])[j]?=some u→w'.cell? ⟨g,j,none⟩=some u) ∧
   (∀ v2,OwnI w B v2 l xs→OwnI w' B v2 l xs):=Ais ty ho (fun e=>by rw [e] at hn;simp at hn) hl hB hb hd
theorem Agb {w:World}{v:Value}{l:List RawI}{g:RawI→Bool}(hv:IvS w v l)(hn:l.length≤1000000000)
 (h:∀ w1 y,Kept w w1→∀ x,x∈l→IvR w1 y x→Calls Tryz.prog 88 #[y] w1 (RetK (.bool (g x)) w1)) :
 Calls Tryz.prog 121 #[v,.func (.func 88) #[] #[]] w (Ae8 l g w):=by
 obtain ⟨A,c,rfl,hc,hA⟩:=hv;have HG:=hid h;have HA:=hid hA;clear h hA;obtain ⟨n,hn'⟩:∃ n,n=l.length:=⟨_,rfl⟩;rw [←hn'] at hn hc HA ⊢;have HN:=hid hn';clear hn';go_enter Tryz.func121,Tryz.ntmps121;go_wp2_with fail
 go_loopw [8] (fun t wr=>∃ k:Nat,k≤n∧t=.int .i64 k∧(∀ i x,i<k→l[i]?=some x→g x=false)∧Kept w wr) (fun t _=>(n-intOf t).toNat)
 case atStart=>exact ⟨0,Nat.zero_le _,rfl,fun i a hi=>absurd hi (Nat.not_lt_zero _),Below.refl _ _⟩
 case round =>
  obtain ⟨k,hk,rfl,hall,hKr⟩:=hrel;have KR:=hid hKr;have AL:=hid hall;clear hKr hall;by_cases hlt:k<n
  ·obtain ⟨b,off,rfl,hd⟩:=HA.out (by omega);obtain ⟨x,hx⟩:∃ x,l[k]?=some x:=⟨_,List.getElem?_eq_getElem (by have:=HN.out;omega)⟩;obtain ⟨y0,y1,y2,y3,y4,y5,g0,g1,g2,g3,g4,g5,hI⟩:=(hd k x hx).kept KR.out;have HX:=hid hx;have hm:=HG.out wr _ KR.out x (List.mem_of_getElem? hx) hI;obtain ⟨gx,hgx⟩:∃ y,y=g x:=⟨_,rfl⟩;rw [←hgx] at hm;have HM:=hid hm;have HGX:=hid hgx;clear hd hx hm hgx hI;go_wp2_with fail;refine HM.out.mono ?_;rintro e w2 ⟨rfl,q⟩;have K2:=hid (KR.out.trans q);clear q g0 g1 g2 g3 g4 g5;simp only [];cases gx
   ·go_wp2_with fail;go_roundw
    case rel =>
     refine ⟨k+1,by omega,by go_num,fun i a hi ha'=>?_,K2.out⟩;by_cases h2:i=k
     ·subst h2;rw [HX.out] at ha';cases ha';exact HGX.out.symm
     ·exact AL.out i a (by omega) ha'
    case measure=>simp only [intOf];omega
   ·go_wp2_with fail;go_ret;exact ⟨k,rfl,by rw [Ya HX.out HGX.out.symm];simp,K2.out⟩
  ·obtain rfl:k=n:=by omega
   go_wp2_with fail;go_ret;exact ⟨-1,rfl,by rw [Vb (fun i x hi hx=>AL.out i x (by have:=HN.out;omega) hx)];decide,KR.out⟩
theorem Yk {w:World}{v:Value}{l:List RawI}{g:RawI→Bool}(hv:IvS w v l)(hn:l.length≤1000000000)
 (h:∀ w1 y,Kept w w1→∀ x,x∈l→IvR w1 y x→Calls Tryz.prog 88 #[y] w1 (RetK (.bool (g x)) w1)) :
 Calls Tryz.prog 87 #[v,.func (.func 88) #[] #[]] w (RetK (.bool (l.any g)) w):=by
 have C:=hid (Agb hv hn h);obtain ⟨A,c,rfl,-,-⟩:=hv;clear hn h;go_enter Tryz.func87,Tryz.ntmps87;go_wp2_with fail;refine C.out.mono ?_;rintro e w2 ⟨r,rfl,hr,q⟩;have Q:=hid q;have HR:=hid hr;clear q hr C;simp only [];go_wp2_with fail;go_ret;exact ⟨by rw [←HR.out];rfl,Q.out⟩
theorem Ajd {w:World}{v:Value}{a:RawI}(hv:IvR w v a)(hl:a.lens 17592186044416):Calls Tryz.prog 88 #[v] w (RetK (.bool (!Hr a)) w):=by
 obtain ⟨x0,x1,x2,x3,x4,x5,rfl,-,-⟩:=(show IvR _ _ _ from hv);obtain ⟨W,hW,kW,hb,-⟩:=Ao5 w x0 x1 x2 x3 x4 x5;have M:=hid (W8 (hv.kept kW) hl);obtain ⟨f,hf⟩:∃ f,Hr a=f:=⟨_,rfl⟩;rw [hf] at M ⊢;obtain ⟨-,c0,c1,c2,c3,c4,c5⟩:=hb.facts;have HW:=hid hW;clear hf hv hl hb hW;go_enter Tryz.func88,Tryz.ntmps88;go_upto_region 1 with fail;rw [←HW.out];go_wp2_with fail;refine M.out.mono ?_;rintro e w2 ⟨rfl,q⟩;simp only [];go_wp2_with fail;go_ret;exact ⟨rfl,kW.trans q⟩
def Ahm (k:Int) (c:List RawI):Bool:=decide ((c.length:Int)=k+1)&&c.all Hr
theorem Air (l:List RawI):(l.any fun a=>!Hr a)=!l.all Hr:=by
 induction l with
 | nil=>rfl
 | cons a l ih=>simp only [List.any_cons,List.all_cons,ih,Bool.not_and]
theorem Ta {w:World}{v:Value}{rows:List (List RawI)}{k:Int}(hv:Rws w v rows)(hn:rows.length≤1000000000)(hl:∀ r∈rows,r.length≤1000000000∧∀ a∈r,a.lens 17592186044416)(k1:-1≤k)(k2:k≤2000000000) :
 Calls Tryz.prog 48 #[v,.int .i64 k] w (RetK (.bool (I6 rows k)) w):=by
 obtain ⟨A,c,rfl,hc,hA⟩:=hv;have HA:=hid hA;have HL:=hid hl;clear hA hl;obtain ⟨n,hn'⟩:∃ n,n=rows.length:=⟨_,rfl⟩;rw [←hn'] at hn hc HA ⊢;have HN:=hid hn';clear hn';have hwk:IntKind.i64.wrap (k+1)=k+1:=by simp [IntKind.wrap_i64];omega
 go_enter Tryz.func48,Tryz.ntmps48;go_wp2_with fail
 go_loopw [9] (fun t wr=>∃ j:Nat,j≤n∧t=.int .i64 j∧(∀ i r,i<j→rows[i]?=some r→Ahm k r=true)∧Kept w wr) (fun t _=>(n-intOf t).toNat)
 case atStart=>exact ⟨0,Nat.zero_le _,rfl,fun i a hi=>absurd hi (Nat.not_lt_zero _),Below.refl _ _⟩
 case round =>
  obtain ⟨j,hj,rfl,hall,hKr⟩:=hrel;have KR:=hid hKr;have AL:=hid hall;clear hKr hall;by_cases hlt:j<n
  ·obtain ⟨b,off,rfl,hD⟩:=HA.out (by omega);obtain ⟨r,hr⟩:∃ r,rows[j]?=some r:=⟨_,List.getElem?_eq_getElem (by have:=HN.out;omega)⟩;obtain ⟨s,hs,hS⟩:=hD j r hr;have hs2:=(KR.out.cell (p:=⟨b,off+j,none⟩) (Aq hs)).trans hs;have hS2:=hS.kept KR.out;have hlr:=HL.out r (List.mem_of_getElem? hr);have HC:=hid (Yk (g:=fun a=>!Hr a) hS2 hlr.1 (fun w1 y kq x hx hy=>Ajd hy (hlr.2 x hx)));rw [Air] at HC;have HRJ:=hid hr;obtain ⟨A2,c2,rfl,-,-⟩:=hS2;clear hs hS hD hr hlr;by_cases hk:(r.length:Int)=k+1
   ·obtain ⟨mb,hmb⟩:∃ mb,mb=r.all Hr:=⟨_,rfl⟩;rw [←hmb] at HC;have hrow:Ahm k r=mb:=by unfold Ahm;rw [hk];simp [hmb]
    have HROW:=hid hrow;clear hmb hrow;go_wp2_with fail;refine HC.out.mono ?_;rintro e w2 ⟨rfl,q⟩;have K2:=hid (KR.out.trans q);clear q hs2;simp only [];cases mb
    ·go_wp2_with fail;go_ret;exact ⟨by
      have:I6 rows k=false:=by
       unfold I6;rw [List.all_eq_false];refine ⟨r,List.mem_of_getElem? HRJ.out,?_⟩;have:=HROW.out;unfold Ahm at this;rw [this];simp
      rw [this];rfl,K2.out⟩
    ·go_wp2_with fail;go_roundw
     case rel =>
      refine ⟨j+1,by omega,by go_num,fun i x hi hx=>?_,K2.out⟩;by_cases hij:i=j
      ·subst hij;rw [HRJ.out] at hx;injection hx with hx
       rw [←hx,HROW.out]
      ·exact AL.out i x (by omega) hx
     case measure=>simp [intOf];omega
   ·have hkb:((r.length:Int) != k+1)=true:=by simpa using hk
    have HKK:=hid hk;go_wp2_with fail;go_ret;exact ⟨by
     have:I6 rows k=false:=by
      unfold I6;rw [List.all_eq_false];refine ⟨r,List.mem_of_getElem? HRJ.out,?_⟩;simp [HKK.out]
     rw [this];rfl,KR.out⟩
  ·obtain rfl:j=n:=by omega
   go_wp2_with fail;go_ret;exact ⟨by
    have:I6 rows k=true:=by
     unfold I6;rw [List.all_eq_true];intro r hr;obtain ⟨i,hi,rfl⟩:=List.getElem_of_mem hr;have:=AL.out i _ (by have:=HN.out;omega) (List.getElem?_eq_getElem hi);unfold Ahm at this;exact this
    rw [this];rfl,KR.out⟩
theorem Ali (w:World)(p:Int):∃ W,W=w.alloc (.cells #[.int .i64 p] 81)∧Kept w W∧W.heap[w.heap.size]?=some (.cells #[.int .i64 p] 81 (0,0)) :=
 ⟨_,rfl,Ad _ _,heap_alloc_new _ _⟩
theorem Ab0 {w:World}{bB bK bF bX bP bT nx cx:Nat}{AX:Option Addr}{s o:Value}{ls:List Ln}{outs:List Int}{k p:Int}
 (hB:w.heap[bB]?=some (.cells #[.int .i64 p] 3 (0,0))) (hK:w.heap[bK]?=some (.cells #[.int .i64 k] 3 (0,0))) (hF:w.heap[bF]?=some (.cells #[s,o] 25 (0,0)))
 (hX:w.heap[bX]?=some (.cells #[.slice AX nx cx] 31 (0,0))) (hP:w.heap[bP]?=some (.cells #[.slice none 0 0] 31 (0,0)))
 (hv:TpR w (.agg #[s,o]) ls outs) (hok:Wj ls) (hn:ls.length≤1000000000) (hno:outs.length≤1000000000) (hnx:nx≤1000000000) (hw:Gc k p=true) (hm:Pp ls outs nx 0 0=false) :
 Calls Tryz.prog 54 #[.pointer (some ⟨bB,0,none⟩),.pointer (some ⟨bK,0,none⟩),.pointer (some ⟨bF,0,none⟩),.pointer (some ⟨bX,0,none⟩),.pointer (some ⟨bP,0,none⟩),.pointer (some ⟨bT,0,none⟩)] w (Gu ⟨[],1⟩ w):=by
 have WI:=hid (fun w1=>show Calls Tryz.prog 46 #[.int .i64 k,.int .i64 p] w1 (RetQ (.bool true) w1) by have:=P8 w1 k p;rwa [hw] at this);have MT:=hid (fun w1 (q:Kept w w1)=>show Calls Tryz.prog 47 #[.agg #[s,o],.int .i64 (nx:Int),.int .i64 0,.int .i64 0] w1 (RetK (.bool false) w1) by have:=Abh (hv.kept q) hok hn hno (x:=nx) (u:=0) (p:=0) (by omega) (by omega) (by omega);rwa [hm] at this);obtain ⟨W,hW,kW,bW⟩:=Ali w p;have HW:=hid hW;have K:=hid kW;have cB:=Ab hB 0 _ rfl;have HB:=hid (Ao hB kW);have HK:=hid (Ao hK kW);have HF:=hid (Ao hF kW);have HX:=hid (Ao hX kW)
 have HP:=hid (Ao hP kW);have BAD:=hid (fun w1 (q:Kept w w1)=>show Gu ⟨[],1⟩ w (.panicked (Bs 106 1)) w1 from ⟨q,.inr ⟨by decide,rfl⟩⟩);clear hW kW bW hB hK hF hX hP hv hok hn hno hw hm;go_enter Tryz.func54,Tryz.ntmps54;go_upto_region 2 with fail;rw [←HW.out];clear HW cB
 refine rgL 39 ([(vE (.int .i64 k)),(vE (.int .i64 p)),(vE (.bool true)),(vE (.bool true)),(vE (.agg #[s,o])),(vE (.slice AX nx cx)),(vE (.int .i64 (nx:Int))),(vE (.slice none 0 0)),(vE (.int .i64 0)),(vE (.bool false)),(vE (.bool false)),(vE (.bool false)),(vE undef),(vE undef),(vE undef),(vE undef),(vE undef),(vE undef),(vE (.bool false)),(vE (.bool false)),(vE undef),(vE undef),(vE undef),(vE undef),(vE undef),(vE undef),(vE undef),(vE undef),(vE undef),(vE (.bool false)),(vE (.bool false)),(vE undef),(vE undef),(vE undef),(vE undef),(vE undef),(vE undef),(vE (.bool false)),(fun v _=>False)])
  ⟨
   (gql 1 fun _ k=>Ai HK.out k 0 _ rfl),(gql 0 fun _ k=>Ai HB.out k 0 _ rfl),(fun aF wF F=>by have s20:=F.v 0 20;have s21:=F.v 1 21;exact sQ (WI.out _) fun _ _ h=>h),(gv 2 22),(fun aF wF F=>by have s2:=F.q 2 (.pointer (some ⟨bF,0,none⟩));have c0:=Ai HF.out F.kept 0 _ rfl;have c1:=Ai HF.out F.kept 1 _ rfl;have sg:=F.v 3 23;exact Ak ((Af rfl rfl sg).trans rfl) (by go_simp) rfl),(fun aF wF F=>by have s3:=F.q 3 (.pointer (some ⟨bX,0,none⟩));have c0:=Ai HX.out F.kept 0 _ rfl;have sg:=F.v 3 23;exact Ak ((Af rfl rfl sg).trans rfl) (by go_simp) rfl),(fun aF wF F=>by have s25:=F.v 5 25;have sg:=F.v 3 23;exact Ak ((Af rfl rfl sg).trans rfl) (by go_simp) rfl),(fun aF wF F=>by have s4:=F.q 4 (.pointer (some ⟨bP,0,none⟩));have c0:=Ai HP.out F.kept 0 _ rfl;have sg:=F.v 3 23;exact Ak ((Af rfl rfl sg).trans rfl) (by go_simp) rfl),(fun aF wF F=>by have s27:=F.v 7 27;have sg:=F.v 3 23;exact Ak ((Af rfl rfl sg).trans rfl) (by go_simp) rfl),(fun aF wF F=>by have s24:=F.v 4 24;have s26:=F.v 6 26;have s28:=F.v 8 28;have sg:=F.v 3 23;exact Ar ((Af rfl rfl sg).trans rfl) (by go_simp) (MT.out _ (K.out.trans F.kept)) (fun _ _ h=>RetK.good h) (fun _ _ h=>h)),(gvv 3 23 9 29),(gv 10 30),(so 11 31),(so 11 31),(so 11 31),(so 11 31),(so 11 31),(so 11 31),(gvv 11 31 17 37),(gv 18 38),(so 19 39),(so 19 39),(so 19 39),(so 19 39),(so 19 39),(so 19 39),(so 19 39),(so 19 39),(so 19 39),(gvv 19 39 28 48),(gv 29 49),(so 30 50),(so 30 50),(so 30 50),(so 30 50),(so 30 50),(so 30 50),(gvv 30 50 36 56),(fun aF wF F=>by have s57:=F.v 37 57;exact G7 (by simp [Region.wanted]) (by go_simp) (Za false 1 _) (fun e w2 h=>h.elim (fun ⟨v,he,hk,hb,_⟩=>absurd hb (by decide)) (fun ⟨c,he,h0,hc,hw2⟩=>.inr ⟨c,he,F.defers,by subst hc;exact BAD.out w2 (hw2▸(K.out.trans F.kept))⟩))),
   trivial⟩ ?_
 intro u w1 k1 hu;have p58:=hp hu 38;simp only [Av,An,if_true,Act.put,zlA,zlB,zlC,zlD,zlE,zlF,zlG,hv hu 0,hv hu 1,hv hu 2,hv hu 3,hv hu 4,hv hu 5,hv hu 6,hv hu 7,hv hu 8,hv hu 9,hv hu 10,hv hu 11,hv hu 12,hv hu 13,hv hu 14,hv hu 15,hv hu 16,hv hu 17,hv hu 18,hv hu 19,hv hu 20,hv hu 21,hv hu 22,hv hu 23,hv hu 24,hv hu 25,hv hu 26,hv hu 27,hv hu 28,hv hu 29,hv hu 30,hv hu 31,hv hu 32,hv hu 33,hv hu 34,hv hu 35,hv hu 36,hv hu 37];clear hu;generalize u 38=v58 at *;exact p58.elim
section
variable {ov:Iv→Nat→Outc Iv} {S:Int→Prop}
theorem Aj6 (O:Hm S)(h6:S 6):NxC ov (fun op=>op=6):=by
 intro w va vb vc a b c op n p hop ha hb hc ga gb gc na nb nc la lb hT p1 p2;subst hop;exact Amw O h6 ha hb ga gb na nb la lb hT p1 (by omega)
theorem Akd (O:Hm S)(h7:S 7):NxC ov (fun op=>op=7):=by
 intro w va vb vc a b c op n p hop ha hb hc ga gb gc na nb nc la lb hT p1 p2;subst hop;exact Am4 O h7 ha hb ga gb na nb la lb hT p1 (by omega)
theorem Akb (O:Hm S)(h10:S 10):NxC ov (fun op=>op=10):=by
 intro w va vb vc a b c op n p hop ha hb hc ga gb gc na nb nc la lb hT p1 p2;subst hop;exact Am2 O h10 ha ga na la hT p1 p2
theorem Ag7 (O:Hm S)(h6:S 6)(h7:S 7)(h8:S 8)(h9:S 9)(h12:S 12):NxC ov (fun op=>op=12):=by
 intro w va vb vc a b c op n p hop ha hb hc ga gb gc na nb nc la lb hT p1 p2;subst hop
 show Calls _ _ _ _ (Bz (if n=0 then Cc (gI a 0) p else _) w)
 by_cases h:n=0
 ·rw [if_pos h];have:=Ag5 (vb:=vb) (vc:=vc) O h12 ha ga na la hT p1 p2 h;rw [h] at this ⊢;exact this
 ·rw [if_neg h];exact Aj4 O h6 h7 h8 h9 ha hc ga gc na (by omega) nc.symm la (by omega) hT p1 (by omega)
theorem Aj9 (O:Hm S)(h6:S 6)(h8:S 8)(h9:S 9)(V:OvC ov):NxC ov (fun op=>op=13):=by
 intro w va vb vc a b c op n p hop ha hb hc ga gb gc na nb nc la lb hT p1 p2;subst hop
 show Calls _ _ _ _ (Bz (if n=0 then ov (gI a 0) p else _) w)
 by_cases h:n=0
 ·rw [if_pos h];have:=Aj0 (vb:=vb) (vc:=vc) V ha ga na la hT p1 p2 h;rw [h] at this ⊢;exact this
 ·rw [if_neg h];exact Amz O h6 h8 h9 ha hc ga gc na (by omega) nc.symm la (by omega) hT p1 (by omega)
def Op6 (op:Int):Prop:=6≤op∧op≤13
theorem Aj7 (O:Hm Op6)(V:OvC ov):NxC ov Op6:=by
 intro w va vb vc a b c op n p hop;have h:∀ i:Int,6≤i→i≤13→Op6 i:=fun i a b=>⟨a,b⟩
 have:op=6∨op=7∨op=8∨op=9∨op=10∨op=11∨op=12∨op=13:=by unfold Op6 at hop;omega
 rcases this with e | e | e | e | e | e | e | e
 ·exact Aj6 O (h 6 (by decide) (by decide)) e
 ·exact Akd O (h 7 (by decide) (by decide)) e
 ·exact Aka O (h 6 (by decide) (by decide)) (h 8 (by decide) (by decide)) e
 ·exact Aj8 O (h 7 (by decide) (by decide)) (h 8 (by decide) (by decide)) (h 9 (by decide) (by decide)) e
 ·exact Akb O (h 10 (by decide) (by decide)) e
 ·exact Akc O (h 6 (by decide) (by decide)) (h 8 (by decide) (by decide)) (h 11 (by decide) (by decide)) e
 ·exact Ag7 O (h 6 (by decide) (by decide)) (h 7 (by decide) (by decide)) (h 8 (by decide) (by decide)) (h 9 (by decide) (by decide)) (h 12 (by decide) (by decide)) e
 ·exact Aj9 O (h 6 (by decide) (by decide)) (h 8 (by decide) (by decide)) (h 9 (by decide) (by decide)) V e
end
theorem Vw {ov:Iv→Nat→Outc Iv}{p n:Nat}{op:Int}{a b c:List RawI}(V:∀ a p,a.Ok→1≤p→p≤300→OkI (ov a p))(p1:1≤p)(p2:p≤300)(ga:Gd a)(gb:Gd b)(gc:Gd c)(ho:Op6 op)(h:(Cb ov p op a b c n).k=0):(Cb ov p op a b c n).v.Ok:=by
 have:op=6∨op=7∨op=8∨op=9∨op=10∨op=11∨op=12∨op=13:=by unfold Op6 at ho;omega
 rcases this with rfl | rfl | rfl | rfl | rfl | rfl | rfl | rfl
 ·exact (Jy (Hg ga n) (Hg gb n) p1).1
 ·exact (Xu (Hg ga n) (Hg gb n) p1).1
 ·exact Ns p1 ga gb (.inl rfl) h
 ·exact Ns p1 ga gb (.inr (.inr rfl)) h
 ·exact (Ajw (Hg ga n) p1).1
 ·exact Ns p1 ga gb (.inr (.inl rfl)) h
 ·by_cases h0:n=0
  ·subst h0;exact (Aaa (Hg ga 0) p1).1
  ·have e:Cb ov p 12 a b c n=(Fe p c c n (gI a n) (List.range' 1 (n-1))).th fun x=>(Ef (gI c 0) (gI c 0) p).th fun y=>Da x y p:=by
    show (if n=0 then _ else _)=_
    rw [if_neg h0]
   rw [e] at h ⊢;obtain ⟨-,q1⟩:=Xx h;rw [q1] at h ⊢;obtain ⟨-,q2⟩:=Xx h;rw [q2];exact (Ng (Jy (Hg gc 0) (Hg gc 0) p1).1 p1).1
 ·by_cases h0:n=0
  ·subst h0;exact (V _ p (Hg ga 0) p1 p2).1
  ·have e:Cb ov p 13 a b c n=(Cg (ptN 1) (gI a 1) p).th fun u=>(Cg u (gI c (n-1)) p).th fun s=>(Ih p a c n s (List.range' 2 (n-1))).th fun s=>Da s (ptN n) p:=by
    show (if n=0 then _ else _)=_
    rw [if_neg h0]
   rw [e] at h ⊢;obtain ⟨-,q1⟩:=Xx h;rw [q1] at h ⊢;obtain ⟨-,q2⟩:=Xx h;rw [q2] at h ⊢;obtain ⟨-,q3⟩:=Xx h;rw [q3];exact (Ng (Sc n) p1).1
theorem Vf {ov:Iv→Nat→Outc Iv}{p:Nat}{op:Int}{a b:List RawI}(V:∀ a p,a.Ok→1≤p→p≤300→OkI (ov a p))(p1:1≤p)(p2:p≤300)(ga:Gd a)(gb:Gd b)(ho:Op6 op):∀ (js:List Nat) (c:List RawI),Gd c→(Ei ov p op a b c js).k=0→Gd (Ei ov p op a b c js).v∧(Ei ov p op a b c js).v.length=c.length+js.length
 | [],c,hc,_=>⟨hc,rfl⟩
 | j :: js, c, hc, h => by
   rw [Ei] at h ⊢;by_cases e:(Cb ov p op a b c j).k=0
   ·rw [if_pos e] at h ⊢;obtain ⟨h1,h2⟩:=Vf V p1 p2 ga gb ho js _ (hc.snoc (Vw V p1 p2 ga gb hc ho e)) h;refine ⟨h1,?_⟩;rw [h2];simp;omega
   ·rw [if_neg e] at h;exact absurd h e
theorem Qj {tm:Bool}{ov:Iv→Nat→Outc Iv}{p k i j m:Nat}{t:List RawI}{x q:List (List RawI)}{l:Ln}(V:∀ a p,a.Ok→1≤p→p≤300→OkI (ov a p))(N:NxC ov Op6)(ho:Op6 l.op)(ha:l.a=(j:Int))(hb:l.b=(m:Int))(hj:j<i)(hm:m<i)(hk:k≤900)(p1:1≤p)(p2:p≤300):Uu tm ov p k t x q i l:=by
 have h6:6≤l.op:=ho.1;refine ⟨fun all hi gall e=>?_,?_⟩
 ·subst hi;obtain ⟨g1,g2⟩:=gall.at hj;obtain ⟨g3,g4⟩:=gall.at hm;rw [Mq _ _ _ _ _ _ _ _ h6,Kq,Kq,ha,hb,Int.toNat_natCast,Int.toNat_natCast] at e ⊢;obtain ⟨q1,q2⟩:=Vf V p1 p2 g1 g3 ho _ _ gd_nil e;exact ⟨q1,by rw [q2];simp⟩
 ·intro w vl vall vt vx vq all hl hall hi gall ht hx hq hT;subst hi;obtain ⟨g1,g2⟩:=gall.at hj;obtain ⟨g3,g4⟩:=gall.at hm;rw [Mq _ _ _ _ _ _ _ _ h6,Kq,Kq,ha,hb,Int.toNat_natCast,Int.toNat_natCast];exact Ajl N ho h6 hl hall ha hb hj hm g1 g3 (by omega) (by omega) (by omega) (by omega) (fun c n hc hn h0=>Vw V p1 p2 g1 g3 hc ho h0) hT p1 p2
end Go.Proofs.YtabjjdicffcolaaGreatDoor
