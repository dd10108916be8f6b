/- Words and contracts, part 33. -/
import Derived.Test.YtmgaloopddiekaaGreatDoorClaimFargsp31
import Derived.Test.YtmgaloopddiekaaGreatDoorClaimFargsp32
set_option maxRecDepth 100000
set_option maxHeartbeats 0
namespace Go.Proofs.YtmgaloopddiekaaGreatDoor
open Go.Lib (hid)
open Go.RowKit
theorem Qt {z:Array Value}{n:Nat}{u:Value}(hz:0<z.size)(h:u∈(madeCells z n).toList):u∈z.toList:=by
 simp [madeCells] at h;obtain ⟨a,ha,rfl⟩:=h;have hlt:=Nat.mod_lt a hz;rw [getElem!_pos z _ hlt];simp
theorem Afv (w:World){n:Nat}(hn:n≤1000):∃ V,(Instr.makeSlice 26 (.int .i64 0) (.int .i64 n)).run Tryz.prog w=.ok (.slice (some ⟨w.heap.size,0,none⟩) 0 n) V∧Kept w V∧w.heap.size<V.heap.size ∧
 OwnI V w.heap.size (.slice (some ⟨w.heap.size,0,none⟩) 0 n) [] []:=by
 obtain ⟨i0,hi,hz0,hz1,hz2⟩:=info_parts Ps;have hr:=run_make (P:=Tryz.prog) w 26 51 i0 _ Tryz.underlying26 hi hz0 .i64 .i64 0 n (Int.le_refl _) (by omega) (by rw [hz2];omega) (by omega);simp only [Int.toNat_zero,Int.toNat_natCast] at hr;refine ⟨_,hr,Ad _ _,by simp,?_,by simp,by simp,?_,by simp⟩
 ·have:=World.ownsRow_made (base:=w.heap.size) (e:=51) (size:=6) w (madeCells (Value.agg #[.bool false,.slice none 0 0,.int .i64 0,.bool false,.slice none 0 0,.int .i64 0]).cells (n*i0.size)) n (Nat.le_refl _) (by unfold maxLen;omega) (by rw [size_madeCells,hz1]);exact this
 ·intro g hg;simp [Value.ownBlock] at hg;subst hg;exact ⟨_,_,heap_alloc_new _ _,fun u hu=>Ic u (Qt (by decide) hu)⟩
theorem Dp {w:World}{ops:Array Oper}{rest:List Oper}{o:Oper}{a:Act}{Q:Exit→Act→World→Prop}(hgd:o.guard=none)(s x:Operand)
 (ho:o.op=.call { callee:=.builtin .append,args:=#[s,x],argTypes:=#[26,26] })
 {base:Nat} {v:Value} {l:List RawI} {xs:List Value} (hs:a.eval s=v) (hown:OwnI w base v l xs) {d:RawI} {x0 x1 x2 x3 x4 x5:Value} {b:Nat}
 (hd:IvR w (.agg #[x0,x1,x2,x3,x4,x5]) d) (hb:BlkI w b x0 x1 x2 x3 x4 x5) (hx:a.eval x=.slice (some ⟨b,0,none⟩) 1 1)
 (hl:l.length≤1000) (hbase:base≤w.heap.size)
 (h:∀ v' w',OwnI w' base v' (l++[d]) (xs++[x0,x1,x2,x3,x4,x5])→w.grownBy w' v.ownBlock→wpList Tryz.prog ops Q rest (a.put o.dst v') w'):wpList Tryz.prog ops Q (o::rest) a w:=by
 obtain ⟨i0,hi,hz0,hz1,hz2⟩:=info_parts Ps;obtain ⟨-,c0,c1,c2,c3,c4,c5⟩:=hb.facts;have hcl:=hd.cells;have ad:∀ j,(⟨b,0,none⟩:Addr).add j=⟨b,j,none⟩:=by intro j;unfold Addr.add;split<;>simp_all
 refine Gn hgd s x _ ho base 51 i0 _ 6 80 Tryz.underlying26 hi hz0 hz1 hz2 rfl (by decide) v l.length xs hs hown.row _ 1 1 [x0,x1,x2,x3,x4,x5] hx rfl ?_ (fun u hu=>(hcl u hu).2) (by unfold maxLen;omega) (by omega) hbase (by decide) hown.nl (fun u hu=>(hcl u hu).1) Ic hown.blk ?_
 ·intro j u hu;rw [ad];rcases j with _ | _ | _ | _ | _ | _ | j
  ·cases hu;exact c0
  ·cases hu;exact c1
  ·cases hu;exact c2
  ·cases hu;exact c3
  ·cases hu;exact c4
  ·cases hu;exact c5
  ·simp at hu
 ·intro v' w' g' q1 q2 q3 q4;exact h v' w' (hown.snoc hd q1 q2 q3 q4) q2
theorem OwnI.base {w:World}{base:Nat}{v:Value}{l:List RawI}{xs:List Value}(h:OwnI w base v l xs):∀ g,v.ownBlock=some g→base≤g:=by
 intro g hg;rcases h.row.2 with ⟨rfl,-⟩ | ⟨g',cap,cur,rfl,hb,-⟩
 ·simp [Value.ownBlock] at hg
 ·simp [Value.ownBlock] at hg;subst hg;exact hb
theorem OwnI.grown_kept {W w w':World}{v:Value}{l:List RawI}{xs:List Value}(h:OwnI w W.heap.size v l xs)(k:Kept W w)(hg:w.grownBy w' v.ownBlock):Kept W w' :=
 Below.grown k hg k.size (fun g hg'=>h.base g hg')
def Kf (o:Outc (List RawI)) (w:World) (e:Ending) (w':World):Prop:=Kept w w'∧∃ v,e=.returned (.tuple #[v,.int .i64 o.k])∧IvS w' v o.v
theorem Hb (w:World):IvS w (.slice none 0 0) []:=⟨none,0,rfl,Nat.le_refl _,fun h=>absurd h (by simp)⟩
def OvC (ov:Iv→Nat→Outc Iv):Prop:=(∀ a p,a.Ok→1≤p→p≤300→OkI (ov a p)) ∧
 ∀ w v a p,IvC w v a→a.Ok→Tab w→1≤p→p≤300→Calls Tryz.prog 205 #[v,.int .i64 (p:Nat)] w (RetIE (Cu (ov a p)) w)
theorem Oa (ov:Iv→Nat→Outc Iv)(e:En)(p:Nat):∀ (ls:List Ln) (out rows:List RawI) (l:Ln),Eo ov e p out ls=⟨rows,0⟩ →
 Eo ov e p out (ls++[l])=if (Dr ov e p rows l).k=0 then ⟨rows++[(Dr ov e p rows l).v.raw],0⟩ else ⟨[],(Dr ov e p rows l).k⟩
 | [], out, rows, l, h => by
   have:out=rows:=congrArg Outc.v h;subst this;simp only [List.nil_append,Eo]
 | m :: ls, out, rows, l, h => by
   rw [Eo] at h;by_cases hk:(Dr ov e p out m).k=0
   ·rw [if_pos hk] at h;rw [List.cons_append,Eo,if_pos hk];exact Oa ov e p ls _ rows l h
   ·rw [if_neg hk] at h;exact absurd (congrArg Outc.k h) hk
theorem Pu (ov:Iv→Nat→Outc Iv)(e:En)(p:Nat):∀ (ls:List Ln) (out:List RawI) (rest:List Ln),(Eo ov e p out ls).k≠0→Eo ov e p out (ls++rest)=Eo ov e p out ls
 | [],out,rest,h=>absurd rfl h
 | m :: ls, out, rest, h => by
   rw [Eo] at h;rw [List.cons_append,Eo,Eo];by_cases hk:(Dr ov e p out m).k=0
   ·rw [if_pos hk] at h;rw [if_pos hk,if_pos hk];exact Pu ov e p ls _ rest h
   ·rw [if_neg hk,if_neg hk]
def Rws (w:World) (v:Value) (rows:List (List RawI)):Prop:=∃ A c,v=.slice A rows.length c∧rows.length≤c∧(0<rows.length→∃ b off,A=some ⟨b,off,none⟩∧∀ (i:Nat) (r:List RawI),rows[i]?=some r→∃ s:Value,w.cell? ⟨b,off+i,none⟩=some s∧IvS w s r)
theorem Tb (w:World):Rws w (.slice none 0 0) []:=⟨none,0,rfl,Nat.le_refl _,fun h=>absurd h (by simp)⟩
theorem Rws.kept {w w':World}{v:Value}{rows:List (List RawI)}(h:Rws w v rows)(k:Kept w w'):Rws w' v rows:=by
 obtain ⟨A,c,e,hc,h⟩:=h;refine ⟨A,c,e,hc,fun h0=>?_⟩;obtain ⟨b,off,rfl,hd⟩:=h h0;exact ⟨b,off,rfl,fun i r hi=>(hd i r hi).imp fun s hs=>⟨(k.cell (p:=⟨b,off+i,none⟩) (Bg hs.1)).trans hs.1,hs.2.kept k⟩⟩
def SlC (u:Value):Prop:=∃ A a c,u=.slice A a c
theorem SlC.nl {u:Value}(h:SlC u):Bv u:=by
 obtain ⟨A,a,c,rfl⟩:=h;exact Ak _ _ _
theorem AllC.nol {w:World}{g:Nat}(h:AllC SlC w g):NoL w g:=by
 obtain ⟨cur,e,h1,h2⟩:=h;exact ⟨cur,e,h1,fun u hu=>(h2 u hu).nl⟩
theorem IvAt.grownR {w w':World}{b o:Nat}{a:RawI}{row:Option Nat}(h:IvAt w b o a)(hg:w.grownBy w' row)(hN:∀ g,row=some g→AllC SlC w g):IvAt w' b o a:=by
 obtain ⟨x,y,z,x',y',z',h0,h1,h2,h3,h4,h5,hI⟩:=h;have hb:=Bg h0;have hne:row≠some b:=by
  intro hr;obtain ⟨cur,e,q1,q2⟩:=hN b hr;obtain ⟨A1,l1,c1,A2,l2,c2,ei,-,-⟩:=Ar hI;injection ei with ei;injection ei with ei
  simp only [List.cons.injEq,and_true] at ei;obtain ⟨rfl,rfl,rfl,rfl,rfl,rfl⟩:=ei;simp only [World.cell?,q1] at h0;have h6:cur[o]?=some (.bool a.lo.neg):=by simpa using h0
  rw [←Array.getElem?_toList] at h6;obtain ⟨A,x,c,e⟩:=q2 _ (List.mem_of_getElem? h6);cases e
 have hc:∀ k v,w.cell? ⟨b,k,none⟩=some v→w'.cell? ⟨b,k,none⟩=some v:=by
  intro k v hv;have:=hg.block b hb (Ne.symm hne);simp only [World.cell?,this];simpa only [World.cell?] using hv
 exact ⟨x,y,z,x',y',z',hc _ _ h0,hc _ _ h1,hc _ _ h2,hc _ _ h3,hc _ _ h4,hc _ _ h5,hI.grown hg fun g hg'=>(hN g hg').nol⟩
theorem IvS.grownR {w w':World}{v:Value}{l:List RawI}{row:Option Nat}(h:IvS w v l)(hg:w.grownBy w' row)(hN:∀ g,row=some g→AllC SlC w g):IvS w' v l:=by
 obtain ⟨A,c,e,hc,h⟩:=h;refine ⟨A,c,e,hc,fun h0=>?_⟩;obtain ⟨b,off,rfl,hd⟩:=h h0;exact ⟨b,off,rfl,fun i a hi=>(hd i a hi).grownR hg hN⟩
structure OwnR (w:World) (base:Nat) (v:Value) (l:List (List RawI)) (xs:List Value):Prop where
 row:w.ownsRow base 26 1 v l.length xs
 sl:∀ u∈xs,SlC u
 blk:∀ g,v.ownBlock=some g→AllC SlC w g
 rws:∀ (i:Nat) (r:List RawI),l[i]?=some r→∃ s:Value,xs[i]?=some s∧IvS w s r
theorem OwnR.nil (w:World)(base:Nat):OwnR w base (.slice none 0 0) [] [] :=
 ⟨World.ownsRow_nil _ _ _ _,by simp,(by intro g h;simp [Value.ownBlock] at h),by simp⟩
theorem OwnR.kept {w w':World}{base:Nat}{v:Value}{l:List (List RawI)}{xs:List Value}(h:OwnR w base v l xs)(k:Kept w w'):OwnR w' base v l xs:=by
 obtain ⟨h1,h2,h3,h4⟩:=h;refine ⟨⟨h1.1,?_⟩,h2,?_,?_⟩
 ·rcases h1.2 with hn | ⟨g,cap,cur,rfl,hb,hg,rest⟩
  ·exact .inl hn
  ·exact .inr ⟨g,cap,cur,rfl,hb,(k.block g (Array.getElem?_eq_some_iff.1 hg).1).trans hg,rest⟩
 ·intro g hg;obtain ⟨cur,e,q1,q2⟩:=h3 g hg;exact ⟨cur,e,(k.block g (Array.getElem?_eq_some_iff.1 q1).1).trans q1,q2⟩
 ·intro i d hi;obtain ⟨s,a0,hd⟩:=h4 i d hi;exact ⟨s,a0,hd.kept k⟩
theorem OwnR.all {w:World}{base:Nat}{v:Value}{l:List (List RawI)}{xs:List Value}(h:OwnR w base v l xs):Rws w v l:=by
 obtain ⟨h1,h2,h3,h4⟩:=h;have hc:=h1.2;rcases hc with ⟨rfl,h0⟩ | ⟨g,cap,cur,rfl,hb,hg,hn,-⟩
 ·obtain rfl:l=[]:=List.eq_nil_of_length_eq_zero h0;exact Tb _
 ·refine ⟨_,cap,rfl,hn,fun _=>⟨g,0,rfl,fun i d hi=>?_⟩⟩;obtain ⟨s,a0,hd⟩:=h4 i d hi;have cl:=h1.cells (g:=g) rfl;have ad:∀ j,(⟨g,0,none⟩:Addr).add j=⟨g,j,none⟩:=by intro j;unfold Addr.add;split<;>simp_all
  refine ⟨s,?_,hd⟩;have:=cl _ _ a0;rw [ad] at this;simpa using this
theorem OwnR.snoc {w w':World}{base:Nat}{v v' s:Value}{l:List (List RawI)}{xs:List Value}{a:List RawI}{g':Nat}(h:OwnR w base v l xs)
 (hd:IvS w s a) (hr:w'.ownsRow base 26 1 v' (l.length+1) (xs++[s])) (hg:w.grownBy w' v.ownBlock) (hv':v'.ownBlock=some g') (hN:AllC SlC w' g') :
 OwnR w' base v' (l++[a]) (xs++[s]):=by
 obtain ⟨h1,h2,h3,h4⟩:=h;refine ⟨by simpa using hr,?_,?_,?_⟩
 ·intro u hu;rcases List.mem_append.1 hu with hu | hu
  ·exact h2 u hu
  ·simp only [List.mem_singleton] at hu;subst hu;obtain ⟨A,c,rfl,-⟩:=hd;exact ⟨_,_,_,rfl⟩
 ·intro g hg;rw [hv'] at hg;cases hg;exact hN
 ·intro i e hi;have hxl:=h1.1;by_cases hlt:i<l.length
  ·rw [List.getElem?_append_left hlt] at hi;obtain ⟨s0,a0,hd'⟩:=h4 i e hi;refine ⟨s0,?_,hd'.grownR hg h3⟩;rw [List.getElem?_append_left (by omega)];exact a0
  ·rw [List.getElem?_append_right (by omega)] at hi;obtain ⟨hz,he⟩:=List.getElem?_eq_some_iff.1 hi;simp at hz;have hi':i=l.length:=by omega
   subst hi';simp at he;subst he;refine ⟨s,?_,hd.grownR hg h3⟩;rw [List.getElem?_append_right (by omega),hxl,show l.length-l.length*1=0 by omega];rfl
theorem OwnR.base {w:World}{base:Nat}{v:Value}{l:List (List RawI)}{xs:List Value}(h:OwnR w base v l xs):∀ g,v.ownBlock=some g→base≤g:=by
 intro g hg;rcases h.row.2 with ⟨rfl,-⟩ | ⟨g',cap,cur,rfl,hb,-⟩
 ·simp [Value.ownBlock] at hg
 ·simp [Value.ownBlock] at hg;subst hg;exact hb
theorem OwnR.grown_kept {W w w':World}{v:Value}{l:List (List RawI)}{xs:List Value}(h:OwnR w W.heap.size v l xs)(k:Kept W w)(hg:w.grownBy w' v.ownBlock):Kept W w' :=
 Below.grown k hg k.size (fun g hg'=>h.base g hg')
theorem Ajt:(Tryz.prog.info? 26).map (fun i=>(i.zero,i.size,i.bytes))=some (some (.slice none 0 0),1,24):=by kernel_rfl
theorem IvAt.word {w:World}{b b' o:Nat}{a:RawI}{x:Value}{T:TypeId}(h:IvAt w b' o a)(hb:w.heap[b]?=some (.cells #[x] T (0,0)))(hx:Bv x)(y:Value):IvAt (w.setCell ⟨b,0,none⟩ y) b' o a:=by
 obtain ⟨p,q,r,p',q',r',h0,h1,h2,h3,h4,h5,hI⟩:=h;have hne:¬b'=b:=by
  rintro rfl;simp only [World.cell?,hb] at h5;simp at h5
 have k:KB w [b] (w.setCell ⟨b,0,none⟩ y):=(KB.refl w [b]).setCell (by simp) (Ag hb 0 x rfl) hx y;exact IvAt.kb ⟨p,q,r,p',q',r',h0,h1,h2,h3,h4,h5,hI⟩ k (by simpa using hne)
theorem IvS.word {w:World}{b:Nat}{v:Value}{l:List RawI}{x:Value}{T:TypeId}(h:IvS w v l)(hb:w.heap[b]?=some (.cells #[x] T (0,0)))(hx:Bv x)(y:Value):IvS (w.setCell ⟨b,0,none⟩ y) v l:=by
 obtain ⟨A,c,e,hc,h⟩:=h;refine ⟨A,c,e,hc,fun h0=>?_⟩;obtain ⟨b',off,rfl,hd⟩:=h h0;exact ⟨b',off,rfl,fun i a hi=>(hd i a hi).word hb hx y⟩
theorem Rws.word {w:World}{b:Nat}{v:Value}{l:List (List RawI)}{x:Value}{T:TypeId}(h:Rws w v l)(hv:v.ownBlock≠some b∨l=[])(hb:w.heap[b]?=some (.cells #[x] T (0,0)))(hx:Bv x)(y:Value):Rws (w.setCell ⟨b,0,none⟩ y) v l:=by
 obtain ⟨A,c,e,hc,h⟩:=h;refine ⟨A,c,e,hc,fun h0=>?_⟩;obtain ⟨b',off,rfl,hd⟩:=h h0;have hne:¬b'=b:=by
  rcases hv with hv | rfl
  ·rintro rfl;rw [e] at hv;exact hv rfl
  ·exact absurd h0 (by simp)
 have k:KB w [b] (w.setCell ⟨b,0,none⟩ y):=(KB.refl w [b]).setCell (by simp) (Ag hb 0 x rfl) hx y;exact ⟨b',off,rfl,fun i r hi=>(hd i r hi).imp fun s hs=>⟨k.cell hs.1 (by simpa using hne),hs.2.word hb hx y⟩⟩
theorem OwnI.apart {w w':World}{B:Nat}{v:Value}{l:List RawI}{xs:List Value}{row:Option Nat}(h:OwnI w B v l xs)(hg:w.grownBy w' row)(hN:∀ g,row=some g→NoL w g)(hne:∀ g,v.ownBlock=some g→row≠some g):OwnI w' B v l xs:=by
 obtain ⟨h1,h2,h3,h4,h5⟩:=h;refine ⟨⟨h1.1,?_⟩,h2,h3,?_,?_⟩
 ·rcases h1.2 with hn | ⟨g,cap,cr,rfl,hb2,hg2,rest⟩
  ·exact .inl hn
  ·exact .inr ⟨g,cap,cr,rfl,hb2,(hg.block g (Array.getElem?_eq_some_iff.1 hg2).1 (fun e=>hne g rfl e.symm)).trans hg2,rest⟩
 ·intro g hg2;obtain ⟨cr,e,q1,q2⟩:=h4 g hg2;exact ⟨cr,e,(hg.block g (Array.getElem?_eq_some_iff.1 q1).1 (fun e=>hne g hg2 e.symm)).trans q1,q2⟩
 ·intro i a hi;obtain ⟨p0,p1,p2,p3,p4,p5,s0,s1,s2,s3,s4,s5,hI⟩:=h5 i a hi;exact ⟨p0,p1,p2,p3,p4,p5,s0,s1,s2,s3,s4,s5,hI.grown hg hN⟩
theorem OwnI.blt {w:World}{B:Nat}{v:Value}{l:List RawI}{xs:List Value}(h:OwnI w B v l xs):∀ g,v.ownBlock=some g→g<w.heap.size:=fun g hg=>by
 obtain ⟨cr,e,q1,-⟩:=h.blk g hg;exact (Array.getElem?_eq_some_iff.1 q1).1
theorem OwnR.blt {w:World}{B:Nat}{v:Value}{l:List (List RawI)}{xs:List Value}(h:OwnR w B v l xs):∀ g,v.ownBlock=some g→g<w.heap.size:=fun g hg=>by
 obtain ⟨cr,e,q1,-⟩:=h.blk g hg;exact (Array.getElem?_eq_some_iff.1 q1).1
theorem OwnI.notS {w:World}{B:Nat}{v:Value}{l:List RawI}{xs:List Value}(h:OwnI w B v l xs)(hl:l≠[]){g:Nat}(hg:v.ownBlock=some g):¬AllC SlC w g:=by
 rintro ⟨cur,e,q1,q2⟩;obtain ⟨a,ha⟩:∃ a,l[0]?=some a:=⟨_,List.getElem?_eq_getElem (List.length_pos_iff.2 hl)⟩;obtain ⟨x,y,z,x',y',z',a0,-,-,-,-,-,hI⟩:=h.ivs 0 a ha;obtain ⟨A1,l1,c1,A2,l2,c2,ei,-,-⟩:=Ar hI;injection ei with ei;injection ei with ei
 simp only [List.cons.injEq,and_true] at ei;obtain ⟨rfl,rfl,rfl,rfl,rfl,rfl⟩:=ei;have hc:=h.row.cells (g:=g) hg _ _ a0;rw [show (⟨g,0,none⟩:Addr).add (0*6)=⟨g,0,none⟩ by unfold Addr.add;split<;>simp_all] at hc;obtain ⟨A,n,c,e⟩:=q2 _ (Array.mem_toList_iff.2 (Array.mem_of_getElem? (by simpa [World.cell?,q1] using hc:cur[0]?=some (.bool a.lo.neg))));cases e
theorem IvS.apart {w w':World}{v:Value}{l:List RawI}{row:Option Nat}(h:IvS w v l)(hg:w.grownBy w' row)(hN:∀ g,row=some g→NoL w g)(hne:∀ g,v.ownBlock=some g→row≠some g):IvS w' v l:=by
 obtain ⟨A,c,rfl,hc,h⟩:=h;refine ⟨A,c,rfl,hc,fun h0=>?_⟩;obtain ⟨b,off,rfl,hd⟩:=h h0;have hcl:∀ k v,w.cell? ⟨b,k,none⟩=some v→w'.cell? ⟨b,k,none⟩=some v:=by
  intro k v hv;have:=hg.block b (Bg hv) (fun e=>hne b rfl e.symm);simp only [World.cell?,this];simpa only [World.cell?] using hv
 refine ⟨b,off,rfl,fun i a hi=>?_⟩;obtain ⟨x,y,z,x',y',z',h0,h1,h2,h3,h4,h5,hI⟩:=hd i a hi;exact ⟨x,y,z,x',y',z',hcl _ _ h0,hcl _ _ h1,hcl _ _ h2,hcl _ _ h3,hcl _ _ h4,hcl _ _ h5,hI.grown hg hN⟩
theorem OwnI.apartR {w w':World}{B:Nat}{v:Value}{l:List RawI}{xs:List Value}{row:Option Nat}(h:OwnI w B v l xs)(hnil:l=[]→v=.slice none 0 0)(hg:w.grownBy w' row)(hS:∀ g,row=some g→AllC SlC w g):OwnI w' B v l xs :=
 h.apart hg (fun g e=>(hS g e).nol) (fun g hgv e=>by
  by_cases hl:l=[]
  ·rw [hnil hl] at hgv;cases hgv
  ·exact h.notS hl hgv (hS g e))
structure OutS (w:World) (B:Nat) (v:Value) (rows:List (List RawI)) (vs:List Value):Prop where
 own:OwnR w B v rows vs
 each:∀ (i:Nat) (r:List RawI) (s:Value),rows[i]?=some r→vs[i]?=some s→r≠[]∧∃ xs,OwnI w B s r xs
 ap:∀ (i j:Nat) (s s':Value),i≠j→vs[i]?=some s→vs[j]?=some s'→∀ g,s.ownBlock=some g→s'.ownBlock≠some g
theorem OutS.kept {w w':World}{B:Nat}{v:Value}{rows:List (List RawI)}{vs:List Value}(h:OutS w B v rows vs)(k:Kept w w'):OutS w' B v rows vs :=
 ⟨h.own.kept k,fun i r s hi hs=>by obtain ⟨h1,xs,h2⟩:=h.each i r s hi hs;exact ⟨h1,xs,h2.kept k⟩,h.ap⟩
theorem OutS.nil (w:World)(B:Nat):OutS w B (.slice none 0 0) [] []:=⟨OwnR.nil w B,by simp,by simp⟩
theorem OwnR.vlen {w:World}{B:Nat}{v:Value}{rows:List (List RawI)}{vs:List Value}(h:OwnR w B v rows vs):vs.length=rows.length:=by
 have:=h.row.1;simpa using this
theorem OutS.snoc {w w':World}{B:Nat}{v v' s:Value}{rows:List (List RawI)}{vs:List Value}{r:List RawI}{xs:List Value}(h:OutS w B v rows vs)(ho:OwnR w' B v' (rows++[r]) (vs++[s]))(hg:w.grownBy w' v.ownBlock)(hs:OwnI w B s r xs)(hr:r≠[])
 (hf:∀ (j:Nat) (u:Value),vs[j]?=some u→∀ g,s.ownBlock=some g→u.ownBlock≠some g):OutS w' B v' (rows++[r]) (vs++[s]):=by
 have hl:=h.own.vlen;have tr:∀ {u:Value} {l:List RawI} {ys:List Value},OwnI w B u l ys→l≠[]→OwnI w' B u l ys:=fun o hne=>o.apartR (fun e=>absurd e hne) hg (fun g e=>h.own.blk g e)
 refine ⟨ho,fun i r' u hi hu=>?_,fun i j u u' hij hi hj=>?_⟩
 ·by_cases hlt:i<rows.length
  ·rw [List.getElem?_append_left hlt] at hi;rw [List.getElem?_append_left (by omega)] at hu;obtain ⟨h1,ys,h2⟩:=h.each i r' u hi hu;exact ⟨h1,ys,tr h2 h1⟩
  ·have:i=rows.length:=by
    have:=(List.getElem?_eq_some_iff.1 hi).1;simp at this;omega
   subst this;rw [List.getElem?_append_right (Nat.le_refl _)] at hi;rw [List.getElem?_append_right (by omega)] at hu;obtain rfl:r=r':=by simpa using hi
   obtain rfl:s=u:=by simpa [hl] using hu
   exact ⟨hr,xs,tr hs hr⟩
 ·have cs:∀ (k:Nat) (z:Value),(vs++[s])[k]?=some z→vs[k]?=some z∨(k=vs.length∧z=s):=by
   intro k z hk;by_cases hlt:k<vs.length
   ·rw [List.getElem?_append_left hlt] at hk;exact .inl hk
   ·have:k=vs.length:=by
     have:=(List.getElem?_eq_some_iff.1 hk).1;simp at this;omega
    subst this;rw [List.getElem?_append_right (Nat.le_refl _)] at hk;exact .inr ⟨rfl,by simpa using hk.symm⟩
  intro g hgu hgu';rcases cs i u hi with h1 | ⟨h1,rfl⟩<;>rcases cs j u' hj with h2 | ⟨h2,rfl⟩
  ·exact h.ap i j u u' hij h1 h2 g hgu hgu'
  ·exact hf i u h1 g hgu' hgu
  ·exact hf j u' h2 g hgu hgu'
  ·omega
theorem OwnI.low {w:World}{base B:Nat}{v:Value}{l:List RawI}{xs:List Value}(h:OwnI w base v l xs)(hB:B≤base):OwnI w B v l xs:=by
 obtain ⟨h1,h2,h3,h4,h5⟩:=h;refine ⟨⟨h1.1,?_⟩,h2,h3,h4,h5⟩;rcases h1.2 with hn | ⟨g,cap,cur,e,hb,rest⟩
 ·exact .inl hn
 ·exact .inr ⟨g,cap,cur,e,Nat.le_trans hB hb,rest⟩
theorem OwnR.low {w:World}{base B:Nat}{v:Value}{l:List (List RawI)}{xs:List Value}(h:OwnR w base v l xs)(hB:B≤base):OwnR w B v l xs:=by
 obtain ⟨h1,h2,h3,h4⟩:=h;refine ⟨⟨h1.1,?_⟩,h2,h3,h4⟩;rcases h1.2 with hn | ⟨g,cap,cur,e,hb,rest⟩
 ·exact .inl hn
 ·exact .inr ⟨g,cap,cur,e,Nat.le_trans hB hb,rest⟩
theorem OutS.low {w:World}{base B:Nat}{v:Value}{rows:List (List RawI)}{vs:List Value}(h:OutS w base v rows vs)(hB:B≤base):OutS w B v rows vs :=
 ⟨h.own.low hB,fun i r s hi hs=>by obtain ⟨h1,xs,h2⟩:=h.each i r s hi hs;exact ⟨h1,xs,h2.low hB⟩,h.ap⟩
theorem OutS.at {w:World}{B:Nat}{v:Value}{rows:List (List RawI)}{vs:List Value}(h:OutS w B v rows vs){i:Nat}{s:Value}(hs:vs[i]?=some s):∃ r xs,rows[i]?=some r∧r≠[]∧OwnI w B s r xs:=by
 have hi:=(List.getElem?_eq_some_iff.1 hs).1;rw [h.own.vlen] at hi;obtain ⟨h1,xs,h2⟩:=h.each i _ s (List.getElem?_eq_getElem hi) hs;exact ⟨_,xs,List.getElem?_eq_getElem hi,h1,h2⟩
theorem OutS.blt {w:World}{B:Nat}{v:Value}{rows:List (List RawI)}{vs:List Value}(h:OutS w B v rows vs){i:Nat}{s:Value}(hs:vs[i]?=some s){g:Nat}(hg:s.ownBlock=some g):B≤g∧g<w.heap.size:=by
 obtain ⟨r,xs,-,-,o⟩:=h.at hs;exact ⟨o.base g hg,o.blt g hg⟩
theorem Ac6 (k:Int)(w:World):Calls Tryz.prog 209 #[.bool true,.int .i64 k] w fun e w'=>e=.returned (.tuple #[])∧w=w':=by
 go_enter Tryz.func209,Tryz.ntmps209;go_wp2
 go_end0
 exact ⟨rfl,rfl⟩
theorem Zz (k:Int)(w:World):Calls Tryz.prog 209 #[.bool false,.int .i64 k] w fun e w'=>e=.panicked (Ch 209 k)∧w=w':=by
 go_enter Tryz.func209,Tryz.ntmps209;go_wp2;exact ⟨rfl,rfl,rfl⟩
theorem Yu (b:Bool)(k:Int)(w:World):Calls Tryz.prog 209 #[.bool b,.int .i64 k] w fun e w'=>e=Rl 209 b k∧w=w':=by
 cases b
 ·exact Zz k w
 ·exact Ac6 k w
theorem P0 (k:Int)(w:World):Calls Tryz.prog 209 #[.bool true,.int .i64 k] w (RetK (.tuple #[]) w):=(Yu true k w).mono fun _ _ ⟨he,hw⟩=>⟨he,hw▸Below.refl _ _⟩
theorem Nv (k:Int)(w:World):(Instr.typeAssert (.iface 209 (.agg #[.int .i64 k])) 20 209 true).run Tryz.prog w=.ok (.tuple #[.agg #[.int .i64 k],.bool true]) w:=by
 kernel_rfl
theorem Oj (w:World):(Instr.typeAssert .nilIface 20 209 true).run Tryz.prog w=.ok (.tuple #[.agg #[.int .i64 0],.bool false]) w:=by
 kernel_rfl
def Ik (w:World) (b2 b3:Nat) (x q:Value) (o:Obj):World:=((w.setCell ⟨b2,0,none⟩ x).setCell ⟨b3,0,none⟩ q).alloc o
theorem Tt (b2 b3:Nat)(w:World)(k:Int)(x q:Value)
 (h0:w.heap[b2]?=some (.cells #[x] 183 (0,0))) (h1:w.heap[b3]?=some (.cells #[q] 3 (0,0))) (hne:¬b2=b3) :
 CallsD Tryz.prog 232 #[.pointer (some ⟨b2,0,none⟩),.pointer (some ⟨b3,0,none⟩)] (.panicking (Ch 209 k)) w fun e u' w' =>
  e=.returned (.tuple #[])∧u'=.panicking [{ v:=.iface 209 (.agg #[.int .i64 k]),recovered:=true }]∧w'=(Ik w b2 b3 (.slice none 0 0) (.int .i64 k) (.cells #[.int .i64 k] 209)).drew:=by
 have ha:=Nv k;have l2:b2<w.heap.size:=(Array.getElem?_eq_some_iff.1 h0).1;have l3:b3<w.heap.size:=(Array.getElem?_eq_some_iff.1 h1).1;have n2:¬b2=w.heap.size:=by omega
 have n3:¬b3=w.heap.size:=by omega
 have n2':¬w.heap.size=b2:=by omega
 have n3':¬w.heap.size=b3:=by omega
 have hne':¬b3=b2:=fun h=>hne h.symm
 have c20:=Ag h0 0 x rfl;have c30:=Ag h1 0 q rfl;have f20:=Am h0 0;have f30:=Am h1 0;refine callsD_of_wpS Tryz.func232 rfl fun c₀ cs hu=>?_
 simp only [Tryz.ntmps232,List.size_toArray,List.length_cons,List.length_nil,Nat.reduceAdd,Nat.reduceSub,Array.replicate_succ,
  Array.replicate_zero,List.push_toArray,List.append_toArray,List.nil_append,List.cons_append]
 refine Ct (v:=.iface 209 (.agg #[.int .i64 k])) (cs':={ c₀ with mode:=.panicking [{ v:=.iface 209 (.agg #[.int .i64 k]),recovered:=true }] }::cs) (w':=w) rfl ?_ ?_ ?_
 ·simp [go_sem]
 ·rw [recoverD,hu];exact ⟨rfl,rfl⟩
 go_wp2_with fail;go_region;exact ⟨rfl,_,rfl,_,results_none rfl _ _ _,rfl,rfl,rfl⟩
theorem Tu (b2 b3:Nat)(w:World) :
 CallsD Tryz.prog 232 #[.pointer (some ⟨b2,0,none⟩),.pointer (some ⟨b3,0,none⟩)] .returning w fun e u' w' =>
  e=.returned (.tuple #[])∧u'=.returning∧w'=w.alloc (.cells #[.int .i64 0] 209):=by
 have ha:=Oj;refine callsD_of_wpS Tryz.func232 rfl fun c₀ cs hu=>?_
 simp only [Tryz.ntmps232,List.size_toArray,List.length_cons,List.length_nil,Nat.reduceAdd,Nat.reduceSub,Array.replicate_succ,
  Array.replicate_zero,List.push_toArray,List.append_toArray,List.nil_append,List.cons_append]
 refine Ct (v:=.nilIface) (cs':=c₀::cs) (w':=w) rfl ?_ ?_ ?_
 ·simp [go_sem]
 ·rw [recoverD,hu];exact ⟨rfl,rfl⟩
 go_wp2_with fail;exact ⟨rfl,.returning,by rw [←hu],_,results_none rfl _ _ _,rfl,rfl,rfl⟩
def Ti (o:Outc Iv) (w:World) (e:Ending) (w':World):Prop:=Kept w w'∧((o.k=0∧∃ v,e=.returned v∧IvR w' v o.v.raw)∨(o.k≠0∧e=.panicked (Ch 209 o.k)))
def Xx (o:Outc (List RawI)) (w:World) (e:Ending) (w':World):Prop:=Kept w w'∧((o.k=0∧∃ v,e=.returned v∧IvS w' v o.v∧∀ g,v.ownBlock=some g→w.heap.size≤g)∨(o.k≠0∧e=.panicked (Ch 209 o.k)))
def L3 (o:Outc (List (List RawI))) (w:World) (e:Ending) (w':World):Prop:=Kept w w'∧((o.k=0∧∃ v,e=.returned v∧Rws w' v o.v∧∀ g,v.ownBlock=some g→w.heap.size≤g)∨(o.k≠0∧e=.panicked (Ch 209 o.k)))
def O6 (o:Outc (List (List RawI))) (w:World) (e:Ending) (w':World):Prop:=Kept w w'∧∃ v,e=.returned (.tuple #[v,.int .i64 o.k])∧Rws w' v o.v
theorem Aff {w:World}{K:Nat}{cap:Array Value}{o:Outc (List (List RawI))}(h:∀ w1,Kept w w1→Calls Tryz.prog K cap w1 (L3 o w1))(hz:o.k≠0→o.v=[])
 (hk:∀ w,(callFunc K cap).run Tryz.prog w=.ok (.enter K cap) w) :
 Calls Tryz.prog 207 #[.func (.func K) #[] cap] w (O6 o w):=by
 have hmf:=Es;have HH:=hid h;clear h
 go_enter_defers Tryz.func207,Tryz.ntmps207
 go_wp2_with fail;have k1:Kept w ((w.alloc (.cells #[.slice none 0 0] 183)).alloc (.cells #[.int .i64 0] 3)):=(Ad _ _).trans (Ad _ _);refine (HH.out _ k1).mono ?_;have b0:((w.alloc (.cells #[.slice none 0 0] 183)).alloc (.cells #[.int .i64 0] 3)).heap[w.heap.size]?=some (.cells #[.slice none 0 0] 183 (0,0)):=by
  rw [Below.heap_alloc _ _ _ (by simp)];exact heap_alloc_new _ _
 have b1:((w.alloc (.cells #[.slice none 0 0] 183)).alloc (.cells #[.int .i64 0] 3)).heap[w.heap.size+1]?=some (.cells #[.int .i64 0] 3 (0,0)):=by
  have:=heap_alloc_new (w.alloc (.cells #[.slice none 0 0] 183)) (.cells #[.int .i64 0] 3);simpa using this
 rintro e w1 ⟨q,hq⟩;have c0:=(q.block w.heap.size (by simp;omega)).trans b0;have c1:=(q.block (w.heap.size+1) (by simp)).trans b1;have k2:=k1.trans q;clear q b0 b1 k1 HH;have hs1:w.heap.size+1<w1.heap.size:=(Array.getElem?_eq_some_iff.1 c1).1;have hs0:w.heap.size<w1.heap.size:=by omega
 have n1:¬w.heap.size=w1.heap.size:=by omega
 have n2:¬w.heap.size+1=w1.heap.size:=by omega
 have n3:¬w.heap.size=w.heap.size+1:=by omega
 have n4:¬w.heap.size+1=w.heap.size:=by omega
 have c20:w1.cell? ⟨w.heap.size,0,none⟩=some (.slice none 0 0):=Ag c0 0 _ rfl;have c30:w1.cell? ⟨w.heap.size+1,0,none⟩=some (.int .i64 0):=Ag c1 0 _ rfl;have f20:=Am c0 0;have f30:=Am c1 0;have KK:=hid k2;have HQ:=hid hq;clear k2 hq;have fin:∀ (x q:Value) (o:Obj),(Ik w1 w.heap.size (w.heap.size+1) x q o).cell? ⟨w.heap.size,0,none⟩=some x∧(Ik w1 w.heap.size (w.heap.size+1) x q o).cell? ⟨w.heap.size+1,0,none⟩=some q∧Kept w (Ik w1 w.heap.size (w.heap.size+1) x q o):=by
  intro x q o;have g0:(Ik w1 w.heap.size (w.heap.size+1) x q o).heap[w.heap.size]?=some (.cells #[x] 183 (0,0)):=by
   unfold Ik;rw [Below.heap_alloc _ _ _ (by simp [World.setCell];omega)];exact Aw (Av c0 _) n3 _
  have g1:(Ik w1 w.heap.size (w.heap.size+1) x q o).heap[w.heap.size+1]?=some (.cells #[q] 3 (0,0)):=by
   unfold Ik;rw [Below.heap_alloc _ _ _ (by simp [World.setCell];omega)];exact Av (Aw c1 n4 _) _
  exact ⟨Ag g0 0 _ rfl,Ag g1 0 _ rfl,((KK.out.setCell (p:=⟨w.heap.size,0,none⟩) (Nat.le_refl _) x).setCell (p:=⟨w.heap.size+1,0,none⟩) (Nat.le_succ _) q).alloc (by simpa [World.setCell] using KK.out.size) o⟩
 have FF:=hid fin;clear fin;rcases HQ.out with ⟨h0,v,rfl,hv,hf⟩ | ⟨h0,rfl⟩
 ·have hv':=hv;obtain ⟨A,c,rfl,-⟩:=hv';have HS:=hid hv;have HF:=hid hf;have HC:=hid (And.intro c0 c1);clear HQ hv hf c0 c1;simp only [];go_wp2_with fail;refine leaves_cons (f:=232) (args:=#[.pointer (some ⟨w.heap.size,0,none⟩),.pointer (some ⟨w.heap.size+1,0,none⟩)]) (by simp) (by simp [go_sem]) ?_;refine (Tu _ _ _).mono ?_;rintro e u' w2 ⟨rfl,rfl,rfl⟩;obtain ⟨d0,d1,kk⟩:=FF.out (.slice A o.v.length c) (.int .i64 0) (.cells #[.int .i64 0] 209);have hr:Rws (Ik w1 w.heap.size (w.heap.size+1) (.slice A o.v.length c) (.int .i64 0) (.cells #[.int .i64 0] 209)) (.slice A o.v.length c) o.v:=by
   have q0:=HS.out.word (T:=183) (x:=.slice none 0 0) (b:=w.heap.size) (.inl fun hh=>by have:=HF.out _ hh;simp at this;omega) HC.out.1 (Ak _ _ _) (.slice A o.v.length c);have q1:=q0.word (T:=3) (x:=.int .i64 0) (b:=w.heap.size+1) (.inl fun hh=>by have:=HF.out _ hh;simp at this;omega) (Aw HC.out.2 n4 _) (Aq _) (.int .i64 0);exact q1.kept (Ad _ _)
  have HR:=hid hr;have HKK:=hid kk;clear hr kk;refine ⟨.tuple #[.slice A o.v.length c,.int .i64 0],?_,?_⟩
  ·change (results Tryz.f207 _).run Tryz.prog (Ik w1 w.heap.size (w.heap.size+1) (.slice A o.v.length c) (.int .i64 0) (.cells #[.int .i64 0] 209))=.ok _ (Ik w1 w.heap.size (w.heap.size+1) (.slice A o.v.length c) (.int .i64 0) (.cells #[.int .i64 0] 209));generalize Ik w1 w.heap.size (w.heap.size+1) (.slice A o.v.length c) (.int .i64 0) (.cells #[.int .i64 0] 209)=W at *;simp [results,Tryz.results207,go_sem,d0,d1]
  ·exact ⟨HKK.out,_,by rw [h0],HR.out⟩
 ·clear HQ;simp only [];refine leaves_cons (f:=232) (args:=#[.pointer (some ⟨w.heap.size,0,none⟩),.pointer (some ⟨w.heap.size+1,0,none⟩)]) (by simp) (by simp [go_sem]) ?_;refine (Tt _ _ _ _ _ _ c0 c1 n3).mono ?_;rintro e u' w2 ⟨rfl,rfl,rfl⟩;obtain ⟨d0,d1,kk⟩:=FF.out (.slice none 0 0) (.int .i64 o.k) (.cells #[.int .i64 o.k] 209);refine ⟨.tuple #[.slice none 0 0,.int .i64 o.k],?_,?_⟩
  ·change (results Tryz.f207 _).run Tryz.prog (Ik w1 w.heap.size (w.heap.size+1) (.slice none 0 0) (.int .i64 o.k) (.cells #[.int .i64 o.k] 209)).drew=.ok _ (Ik w1 w.heap.size (w.heap.size+1) (.slice none 0 0) (.int .i64 o.k) (.cells #[.int .i64 o.k] 209)).drew;generalize Ik w1 w.heap.size (w.heap.size+1) (.slice none 0 0) (.int .i64 o.k) (.cells #[.int .i64 o.k] 209)=W at *;simp [results,Tryz.results207,go_sem,d0,d1]
  ·exact ⟨kk.drew,_,rfl,by rw [hz h0];exact Tb _⟩
theorem Tf {w:World}{v:Value}{o:Outc Iv}(hv:IvR w v o.v.raw):Calls Tryz.prog 215 #[v,.int .i64 o.k] w (Ti o w):=by
 obtain ⟨A,l,c,A',l',c',rfl,h1,h2⟩:=Cc hv;obtain ⟨W,hW,kW,BI,BR⟩:=Abj w (.bool o.v.lo.neg) (.slice A l c) (.int .i64 o.v.lo.e) (.bool o.v.hi.neg) (.slice A' l' c') (.int .i64 o.v.hi.e);have Z1:=hid (h1.kept kW);have Z2:=hid (h2.kept kW);have HW:=hid hW;have K:=hid kW;have HB:=hid BI;have HR:=hid BR;clear hW kW BI BR h1 h2 hv;obtain ⟨k,hk⟩:∃ k,k=o.k:=⟨_,rfl⟩;rw [←hk];have HK:=hid hk;clear hk;by_cases k0:k=0
 ·have K0:=hid (HK.out.symm.trans k0);subst k0;generalize ho:o=o' at *;clear ho o;obtain ⟨⟨⟨n1,m1,e1⟩,⟨n2,m2,e2⟩⟩,k⟩:=o';simp only [] at *;go_enter Tryz.func215,Tryz.ntmps215;go_wp2_with fail;rw [←HW.out];refine (P0 0 _).mono ?_;rintro e w1 ⟨rfl,q⟩;replace K:=hid (K.out.trans q);replace HB:=hid (HB.out.kept q);replace HR:=hid (HR.out.kept q);replace Z1:=hid (Z1.out.kept q);replace Z2:=hid (Z2.out.kept q);clear q HW;obtain ⟨-,c0,c1,c2,c3,c4,c5⟩:=HB.out.facts;obtain ⟨-,r0,r1,r2,r3,r4,r5⟩:=HR.out.facts;obtain ⟨f0,f1,f2,f3,f4,f5⟩:=HR.out.free;simp only [];go_wp2_with fail;exact Ns (HR.out.laid _ _ _ _ _ _) rfl rfl rfl ⟨B8 K.out (by omega),.inl ⟨K0.out,_,rfl,_,_,_,_,_,_,rfl,Z1.out.ivW HR.out _ _ _ _ _ _,Z2.out.ivW HR.out _ _ _ _ _ _⟩⟩
 ·have hkb:(k==0)=false:=by rw [beq_eq_false_iff_ne];exact k0
  have K0:=hid k0;clear k0;generalize o.v.lo.neg=n1 at *;generalize o.v.lo.e=e1 at *;generalize o.v.hi.neg=n2 at *;generalize o.v.hi.e=e2 at *;go_enter Tryz.func215,Tryz.ntmps215;go_wp2_with fail;rw [←HW.out];refine (Yu false k _).mono ?_;rintro e w3 ⟨he,rfl⟩;obtain rfl:e=.panicked (Ch 209 k):=he;exact ⟨rfl,K.out,.inr ⟨by rw [←HK.out];exact K0.out,by rw [←HK.out]⟩⟩
theorem Ae5 (w:World)(p:Int)(x y z x' y' z' u v r u' v' r':Value):∃ W,W=(((w.alloc (.cells #[.int .i64 p] 195)).alloc (.cells #[x,y,z,x',y',z'] 51)).alloc (.cells #[u,v,r,u',v',r'] 51)).alloc (.cells #[.bool false,.slice none 0 0,.int .i64 0,.bool false,.slice none 0 0,.int .i64 0] 51) ∧
 Kept w W∧W.cell? ⟨w.heap.size,0,none⟩=some (.int .i64 p)∧BlkI W (w.heap.size+1) x y z x' y' z'∧BlkI W (w.heap.size+1+1) u v r u' v' r'∧BlkI W (w.heap.size+1+1+1) (.bool false) (.slice none 0 0) (.int .i64 0) (.bool false) (.slice none 0 0) (.int .i64 0):=by
 obtain ⟨W,hW,k,b1,b2,b3⟩:=Wa (w.alloc (.cells #[.int .i64 p] 195)) x y z x' y' z' u v r u' v' r';simp only [World.size_alloc] at b1 b2 b3;refine ⟨W,hW,(Ad _ _).trans k,Bc k (Ag (heap_alloc_new _ _) 0 _ rfl),b1,b2,b3⟩
theorem Ach {w:World}{n:Nat}(hn:n<9223372036854775808)(hT:Tab w) :
 Calls Tryz.prog 214 #[.int .i64 n] w (RetI (pt (Cr false n 0).v).raw w):=by
 have c1:=fun w1 (k:Kept w w1)=>Vx (w:=w1) (k:=n) (e:=0) hn (by decide) (by decide) (hT.kept k)
 have hp:(pt (Cr false n 0).v).raw=⟨(Cr false n 0).v.raw,(Cr false n 0).v.raw⟩:=rfl;rw [hp]
 obtain ⟨W,hW,kW,BR,lW⟩:∃ W,W=w.alloc (.cells #[.bool false,.slice none 0 0,.int .i64 0,.bool false,.slice none 0 0,.int .i64 0] 51)∧Kept w W∧BlkI W w.heap.size (.bool false) (.slice none 0 0) (.int .i64 0) (.bool false) (.slice none 0 0) (.int .i64 0)∧w.heap.size<W.heap.size :=
  ⟨_,rfl,Ad _ _,Dv _,by simp⟩
 have C1:=hid c1;have HW:=hid hW;have K:=hid kW;have HR:=hid BR;clear c1 hW kW BR hT hn hp;generalize Cr false n 0=o1 at *;go_enter Tryz.func214,Tryz.ntmps214;go_wp2_with fail;rw [←HW.out];refine (C1.out _ K.out).mono ?_;rintro e w2 ⟨q,u,rfl,hd⟩;obtain ⟨PX,pX,qX,rfl,z1⟩:=Bu hd;simp only [];obtain ⟨VX,hV,kV,hb,lV⟩:=Abi w2 (.bool o1.v.neg) (.slice PX pX qX) (.int .i64 o1.v.e);have HV:=hid hV;have kk:=q.trans kV;have lt1:w.heap.size<w2.heap.size:=Nat.lt_of_lt_of_le HR.out.facts.1 q.size;replace K:=hid (K.out.trans kk);replace HR:=hid (HR.out.kept kk);have HX:=hid hb;have ZX:=hid (z1.kept kV)
 clear hV kV hb lV kk q hd z1 C1 HW;go_upto_region 2 with fail;rw [←HV.out];clear HV;generalize w2.heap.size=bX at *;obtain ⟨-,c0,c1,c2,-⟩:=HX.out.facts;go_wp2_with fail;refine (Up ZX.out).mono ?_;rintro e w2 ⟨q,u,rfl,hd⟩;obtain ⟨P,p',q',R,r,s,rfl,z1,z2⟩:=Ar hd;have hr:=HR.out.kept q;obtain ⟨-,r0,r1,r2,r3,r4,r5⟩:=hr.facts;obtain ⟨f0,f1,f2,f3,f4,f5⟩:=hr.free;have HRR:=hid hr;have Z1:=hid z1;have Z2:=hid z2;clear hr z1 z2 hd c0 c1 c2;simp only [];go_wp2_with fail;exact Ns (HRR.out.laid _ _ _ _ _ _) rfl rfl rfl ⟨B8 (K.out.trans q) (by omega),_,rfl,_,_,_,_,_,_,rfl,Z1.out.ivW HRR.out _ _ _ _ _ _,Z2.out.ivW HRR.out _ _ _ _ _ _⟩
theorem Aiq {S:Int→Prop}{w:World}{va vb:Value}{a b:Iv}{p:Nat}(O:R8 S)(hS:S 9)(ha:IvC w va a)(hb:IvC w vb b)(oa:a.Ok)(ob:b.Ok)(hT:Tab w)(p1:1≤p)(p2:p≤2000) :
 Calls Tryz.prog 217 #[.agg #[.int .i64 p],va,vb] w (Ti (Fp a b p) w):=by
 have c1:=fun w1 (k:Kept w w1)=>O.div hS (ha.kept k) (hb.kept k) oa ob (hT.kept k) p1 p2
 obtain ⟨A,l,c,A',l',c',rfl,h1,h2⟩:=Cc ha;obtain ⟨B,m,d,B',m',d',rfl,g1,g2⟩:=Cc hb;obtain ⟨W,hW,kW,cW,BI,BJ,BR⟩:=Ae5 w p (.bool a.lo.neg) (.slice A l c) (.int .i64 a.lo.e) (.bool a.hi.neg) (.slice A' l' c') (.int .i64 a.hi.e) (.bool b.lo.neg) (.slice B m d) (.int .i64 b.lo.e) (.bool b.hi.neg) (.slice B' m' d') (.int .i64 b.hi.e);have C1:=hid c1;have HW:=hid hW;have K:=hid kW;have HR:=hid BR;obtain ⟨-,a0,a1,a2,a3,a4,a5⟩:=BI.facts;obtain ⟨-,b0,b1,b2,b3,b4,b5⟩:=BJ.facts;clear c1 hW kW BI BJ BR h1 h2 g1 g2 ha hb hT oa ob p1 p2;generalize Fp a b p=o at *;generalize a.lo.neg=n1 at *
 generalize a.lo.e=e1 at *;generalize a.hi.neg=n2 at *;generalize a.hi.e=e2 at *;generalize b.lo.neg=n3 at *;generalize b.lo.e=e3 at *;generalize b.hi.neg=n4 at *;generalize b.hi.e=e4 at *;go_enter Tryz.func217,Tryz.ntmps217;go_wp2_with fail;rw [←HW.out];refine (C1.out _ K.out).mono ?_;rintro e w1 ⟨q,u,rfl,hd⟩;replace K:=hid (K.out.trans q);replace HR:=hid (HR.out.kept q);have HD:=hid hd;clear q hd C1 HW cW a0 a1 a2 a3 a4 a5 b0 b1 b2 b3 b4 b5;simp only [Cu];go_wp2_with fail;refine (Tf (o:=o) HD.out).mono ?_;rintro e w2 ⟨q,⟨k0,u2,rfl,hd⟩ | ⟨k0,rfl⟩⟩
 ·obtain ⟨P,p',q',R,r,s,rfl,z1,z2⟩:=Ar hd;have hr:=HR.out.kept q;obtain ⟨-,r0,r1,r2,r3,r4,r5⟩:=hr.facts;obtain ⟨f0,f1,f2,f3,f4,f5⟩:=hr.free;have HRR:=hid hr;have Z1:=hid z1;have Z2:=hid z2;have K0:=hid k0;clear hr z1 z2 hd k0;simp only [];go_wp2_with fail;exact Ns (HRR.out.laid _ _ _ _ _ _) rfl rfl rfl ⟨B8 (K.out.trans q) (by omega),.inl ⟨K0.out,_,rfl,_,_,_,_,_,_,rfl,Z1.out.ivW HRR.out _ _ _ _ _ _,Z2.out.ivW HRR.out _ _ _ _ _ _⟩⟩
 ·exact ⟨rfl,K.out.trans q,.inr ⟨k0,rfl⟩⟩
section
variable {ops:Array Oper} {Q:Exit→Act→World→Prop} {i:Nat} {a:Act} {w:World} {V:Nat→Value→World→Prop} {o:Oper} {f:FuncId} {args:Array Value}
theorem sJ {t:Outc Iv}(hc:Calls Tryz.prog f args w (Ti t w))(hp:∀ v w',Kept w w'→t.k=0→IvR w' v t.v.raw→V i v w')(hq:∀ w',Kept w w'→t.k≠0→Q (.panic (Ch 209 t.k)) a w')(hw:Region.wanted o (yielded ops a.tmps)=true:=by simp [Region.wanted])(h:(execOp a.eval o).run Tryz.prog w=.ok (.enter f args) w:=by go_simp):Bp Tryz.prog ops Q V i o a w :=
 Ia hw h hc fun e w' he=>by
  obtain ⟨k,⟨h0,v,he,hd⟩ | ⟨h0,he⟩⟩:=he
  ·exact .inl ⟨v,he,k,hp v w' k h0 hd⟩
  ·exact .inr ⟨_,he,hq w' k h0⟩
end
theorem Ab7 {l:List RawI}(g:Gd l){i:Nat}(hi:i<l.length):(gI l i).Ok∧∃ a,l[i]?=some a∧(gI l i).raw=a:=by
 have h:=List.getElem?_eq_getElem hi;have hm:=g _ (List.getElem_mem hi);unfold gI;rw [List.getD_eq_getElem?_getD,h];exact ⟨hm.1,_,rfl,hm.2⟩
theorem IvS.place {w:World}{v:Value}{l:List RawI}(h:IvS w v l)(g:Gd l)(h0:0<l.length):∃ b off c,v=.slice (some ⟨b,off,none⟩) l.length c∧l.length≤c∧∀ w1,Kept w w1→∀ j,j<l.length→IvAt w1 b (off+j*6) (gI l j).raw:=by
 obtain ⟨A,c,rfl,hc,hA⟩:=h;obtain ⟨b,off,rfl,hD⟩:=hA h0;refine ⟨b,off,c,rfl,hc,fun w1 k j hj=>?_⟩;obtain ⟨-,a,ha,he⟩:=Ab7 g hj;rw [he];exact (hD j a ha).kept k
theorem BlkIv.store {w:World}{b:Nat}{n n':Bool}{A A':Option Addr}{l c l' c':Nat}{e e':Int}(h:BlkI w b (.bool n) (.slice A l c) (.int .i64 e) (.bool n') (.slice A' l' c') (.int .i64 e')){s:Iv}{P P':Option Addr}{a d a' d':Nat}
 (h1:DyR w (.agg #[.bool s.lo.neg,.slice P a d,.int .i64 s.lo.e]) s.lo.raw) (h2:DyR w (.agg #[.bool s.hi.neg,.slice P' a' d',.int .i64 s.hi.e]) s.hi.raw):BlkIv (ivW w b (.bool s.lo.neg) (.slice P a d) (.int .i64 s.lo.e) (.bool s.hi.neg) (.slice P' a' d') (.int .i64 s.hi.e)) b s :=
 ⟨P,a,d,P',a',d',h.laid _ _ _ _ _ _,h1.ivW h _ _ _ _ _ _,h2.ivW h _ _ _ _ _ _⟩
theorem Rq {w:World}{b:Nat}:∀ (l:List RawI) (off:Nat),(∀ i a,l[i]?=some a→IvAt w b (off+i*6) a)→∃ cs:List Value,cs.length=l.length*6 ∧
 (∀ (j:Nat) (u:Value),cs[j]?=some u→w.cell? ⟨b,off+j,none⟩=some u∧Bv u∧u.oneCell'=true) ∧
 (∀ (i:Nat) (a:RawI),l[i]?=some a→∃ x y z x' y' z',cs[i*6]?=some x∧cs[i*6+1]?=some y∧cs[i*6+2]?=some z∧cs[i*6+3]?=some x'∧cs[i*6+4]?=some y'∧cs[i*6+5]?=some z'∧IvR w (.agg #[x,y,z,x',y',z']) a)
 | [],off,_=>⟨[],rfl,by simp,by simp⟩
 | a :: l, off, h => by
   obtain ⟨cs,h1,h2,h3⟩:=Rq l (off+6) (fun i d hi=>by
    have:=h (i+1) d (by simpa using hi);rw [show off+(i+1)*6=off+6+i*6 by omega] at this;exact this)
   obtain ⟨x,y,z,x',y',z',c0,c1,c2,c3,c4,c5,hI⟩:=h 0 a rfl;have hcl:=hI.cells;rw [show off+0*6=off by omega] at c0 c1 c2 c3 c4 c5;refine ⟨x::y::z::x'::y'::z'::cs,by simp only [List.length_cons];omega,?_,?_⟩
   ·intro j u hj;rcases j with _ | _ | _ | _ | _ | _ | j
    ·cases hj;exact ⟨c0,hcl _ (by simp)⟩
    ·cases hj;exact ⟨c1,hcl _ (by simp)⟩
    ·cases hj;exact ⟨c2,hcl _ (by simp)⟩
    ·cases hj;exact ⟨c3,hcl _ (by simp)⟩
    ·cases hj;exact ⟨c4,hcl _ (by simp)⟩
    ·cases hj;exact ⟨c5,hcl _ (by simp)⟩
    ·have:=h2 j u (by simpa using hj);rw [show off+6+j=off+(j+1+1+1+1+1+1) by omega] at this;exact this
   ·intro i d hi;rcases i with _ | i
    ·obtain rfl:a=d:=by simpa using hi
     exact ⟨_,_,_,_,_,_,rfl,rfl,rfl,rfl,rfl,rfl,hI⟩
    ·obtain ⟨p,q,r,p',q',r',e0,e1,e2,e3,e4,e5,hJ⟩:=h3 i d (by simpa using hi);refine ⟨p,q,r,p',q',r',?_,?_,?_,?_,?_,?_,hJ⟩
     ·rw [show (i+1)*6=i*6+6 by omega];exact e0
     ·rw [show (i+1)*6+1=i*6+1+6 by omega];exact e1
     ·rw [show (i+1)*6+2=i*6+2+6 by omega];exact e2
     ·rw [show (i+1)*6+3=i*6+3+6 by omega];exact e3
     ·rw [show (i+1)*6+4=i*6+4+6 by omega];exact e4
     ·rw [show (i+1)*6+5=i*6+5+6 by omega];exact e5
theorem Acc {w:World}{v:Value}{l:List RawI}(hv:IvS w v l)(h0:0<l.length)(hl:l.length≤1000) :
 Calls Tryz.prog 212 #[v] w fun e w'=>Kept w w'∧∃ v' xs,e=.returned v'∧OwnI w' w.heap.size v' l xs:=by
 obtain ⟨A,c,rfl,hc,hA⟩:=hv;obtain ⟨b,off,rfl,hD⟩:=hA h0;obtain ⟨i0,hi,hz0,hz1,hz2⟩:=info_parts Ps;have e1:=fun (w:World)=>Lib.run_eql_slice_nil (P:=Tryz.prog) w 26 51 (some ⟨b,off,none⟩) l.length c 0 0 Tryz.underlying26
 obtain ⟨W,hW⟩:∃ W,W=w.alloc (.cells #[] 51):=⟨_,rfl⟩;have kW:Kept w W:=by rw [hW];exact Ad _ _
 have hown:W.ownsRow w.heap.size 51 6 (.slice (some ⟨w.heap.size,0,none⟩) 0 0) 0 []:=by rw [hW];exact World.ownsRow_made w #[] 0 (Nat.le_refl _) (by decide) rfl
 have hnol:∀ g,(Value.slice (some ⟨w.heap.size,0,none⟩) 0 0).ownBlock=some g→NoL W g:=by
  intro g hg;obtain rfl:w.heap.size=g:=Option.some.inj hg;exact ⟨_,_,by rw [hW];exact heap_alloc_new _ _,by simp⟩
 obtain ⟨cs,q1,q2,q3⟩:=Rq (w:=W) (b:=b) l off (fun i a hi=>(hD i a hi).kept kW);have ad:∀ j,(⟨b,off,none⟩:Addr).add j=⟨b,off+j,none⟩:=by intro j;unfold Addr.add;split<;>simp_all
 have hsz:w.heap.size≤W.heap.size:=kW.size;have Q2:=hid q2;have Q3:=hid q3;have HO:=hid hown;have HN:=hid hnol;have K:=hid kW;have HW:=hid hW;have AD:=hid ad;clear hA hD hown hnol q2 q3 kW hW ad;go_enter Tryz.func212,Tryz.ntmps212;go_upto_region 3 with fail
 go_wp2_with (at_builtin;rw [←HW.out];refine Gn rfl (.tmp 5) (.tmp 6) _ rfl w.heap.size 51 i0 _ 6 80 Tryz.underlying26 hi hz0 hz1 hz2 rfl (by decide) _ 0 [] rfl HO.out ⟨b,off,none⟩ l.length c cs rfl q1 (fun j u hj=>by rw [AD.out];exact (Q2.out j u hj).1) (fun u hu=>by obtain ⟨j,hj⟩:=List.getElem?_of_mem hu;exact (Q2.out j u hj).2.2) (by unfold maxLen;omega) (by omega) hsz h0 (by simp) (fun u hu=>by obtain ⟨j,hj⟩:=List.getElem?_of_mem hu;exact (Q2.out j u hj).2.1) Ic HN.out ?_;intro v' w' g' o1 o2 o3 o4)
 have kk:Kept w w':=Below.grown K.out o2 hsz (fun g hg=>Nat.le_of_eq (Option.some.inj hg));have own:OwnI w' w.heap.size v' l cs:=by
  refine ⟨by simpa using o1,?_,?_,?_,?_⟩
  ·intro u hu;obtain ⟨j,hj⟩:=List.getElem?_of_mem hu;exact (Q2.out j u hj).2.1
  ·intro u hu;obtain ⟨j,hj⟩:=List.getElem?_of_mem hu;exact (Q2.out j u hj).2.2
  ·intro g hg;rw [o3] at hg;cases hg;exact o4
  ·intro i a hi;obtain ⟨x,y,z,x',y',z',a0,a1,a2,a3,a4,a5,hI⟩:=Q3.out i a hi;exact ⟨x,y,z,x',y',z',a0,a1,a2,a3,a4,a5,hI.grown o2 HN.out⟩
 have FI:=hid (And.intro kk own);clear kk own o1 o2 o3 o4;go_wp2;go_ret;exact ⟨FI.out.1,_,_,rfl,FI.out.2⟩
end Go.Proofs.YtmgaloopddiekaaGreatDoor
