/- Words and contracts, part 31. -/
import Derived.Test.YtabjjdicffcolaaGreatDoorClaimSevalp30
set_option maxRecDepth 100000
set_option maxHeartbeats 0
namespace Go.Proofs.YtabjjdicffcolaaGreatDoor
open Go.RowKit
theorem Jj {z:Array Value}{n:Nat}{u:Value}(hz:0<z.size)(h:u∈(madeCells z n).toList):u∈z.toList:=by
 simp [madeCells] at h;obtain ⟨a,ha,rfl⟩:=h;have hlt:=Nat.mod_lt a hz;rw [getElem!_pos z _ hlt];simp
theorem Agw (w:World){n:Nat}(hn:n≤1000):∃ V,(Instr.makeSlice 31 (.int .i64 0) (.int .i64 n)).run Tryz.prog w=.ok (.slice (some ⟨w.heap.size,0,none⟩) 0 n) V∧Kept w V∧w.heap.size<V.heap.size ∧
 OwnI V w.heap.size (.slice (some ⟨w.heap.size,0,none⟩) 0 n) [] []:=by
 obtain ⟨i0,hi,hz0,hz1,hz2⟩:=info_parts V0;have hr:=run_make (P:=Tryz.prog) w 31 30 i0 _ Tryz.underlying31 hi hz0 .i64 .i64 0 n (Int.le_refl _) (by omega) (by rw [hz2];omega) (by omega);simp only [Int.toNat_zero,Int.toNat_natCast] at hr;refine ⟨_,hr,Ad _ _,by simp,?_,by simp,by simp,?_,by simp⟩
 ·have:=World.ownsRow_made (base:=w.heap.size) (e:=30) (size:=6) w (madeCells (Value.agg #[.bool false,.slice none 0 0,.int .i64 0,.bool false,.slice none 0 0,.int .i64 0]).cells (n*i0.size)) n (Nat.le_refl _) (by unfold maxLen;omega) (by rw [size_madeCells,hz1]);exact this
 ·intro g hg;simp [Value.ownBlock] at hg;subst hg;exact ⟨_,_,heap_alloc_new _ _,fun u hu=>Mr u (Jj (by decide) hu)⟩
theorem G7 {w:World}{ops:Array Oper}{rest:List Oper}{o:Oper}{a:Act}{Q:Exit→Act→World→Prop}(hgd:o.guard=none)(s x:Operand)
 (ho:o.op=.call { callee:=.builtin .append,args:=#[s,x],argTypes:=#[31,31] })
 {base:Nat} {v:Value} {l:List RawI} {xs:List Value} (hs:a.eval s=v) (hown:OwnI w base v l xs) {d:RawI} {x0 x1 x2 x3 x4 x5:Value} {b:Nat}
 (hd:IvR w (.agg #[x0,x1,x2,x3,x4,x5]) d) (hb:BlkI w b x0 x1 x2 x3 x4 x5) (hx:a.eval x=.slice (some ⟨b,0,none⟩) 1 1)
 (hl:l.length≤1000) (hbase:base≤w.heap.size)
 (h:∀ v' w',OwnI w' base v' (l++[d]) (xs++[x0,x1,x2,x3,x4,x5])→w.grownBy w' v.ownBlock→wpList Tryz.prog ops Q rest (a.put o.dst v') w'):wpList Tryz.prog ops Q (o::rest) a w:=by
 obtain ⟨i0,hi,hz0,hz1,hz2⟩:=info_parts V0;obtain ⟨-,c0,c1,c2,c3,c4,c5⟩:=hb.facts;have hcl:=hd.cells;have ad:∀ j,(⟨b,0,none⟩:Addr).add j=⟨b,j,none⟩:=by intro j;unfold Addr.add;split<;>simp_all
 refine Oj hgd s x _ ho base 30 i0 _ 6 80 Tryz.underlying31 hi hz0 hz1 hz2 rfl (by decide) v l.length xs hs hown.row _ 1 1 [x0,x1,x2,x3,x4,x5] hx rfl ?_ (fun u hu=>(hcl u hu).2) (by unfold maxLen;omega) (by omega) hbase (by decide) hown.nl (fun u hu=>(hcl u hu).1) Mr hown.blk ?_
 ·intro j u hu;rw [ad];rcases j with _ | _ | _ | _ | _ | _ | j
  ·cases hu;exact c0
  ·cases hu;exact c1
  ·cases hu;exact c2
  ·cases hu;exact c3
  ·cases hu;exact c4
  ·cases hu;exact c5
  ·simp at hu
 ·intro v' w' g' q1 q2 q3 q4;exact h v' w' (hown.snoc hd q1 q2 q3 q4) q2
theorem OwnI.base {w:World}{base:Nat}{v:Value}{l:List RawI}{xs:List Value}(h:OwnI w base v l xs):∀ g,v.ownBlock=some g→base≤g:=by
 intro g hg;rcases h.row.2 with ⟨rfl,-⟩ | ⟨g',cap,cur,rfl,hb,-⟩
 ·simp [Value.ownBlock] at hg
 ·simp [Value.ownBlock] at hg;subst hg;exact hb
theorem OwnI.grown_kept {W w w':World}{v:Value}{l:List RawI}{xs:List Value}(h:OwnI w W.heap.size v l xs)(k:Kept W w)(hg:w.grownBy w' v.ownBlock):Kept W w' :=
 Below.grown k hg k.size (fun g hg'=>h.base g hg')
def Ah2 (o:Outc (List RawI)) (w:World) (e:Ending) (w':World):Prop:=Kept w w'∧∃ v,e=.returned (.tuple #[v,.int .i64 o.k])∧IvS w' v o.v
theorem Fy (w:World):IvS w (.slice none 0 0) []:=⟨none,0,rfl,Nat.le_refl _,fun h=>absurd h (by simp)⟩
def OvC (ov:Iv→Nat→Outc Iv):Prop:=(∀ a p,a.Ok→1≤p→p≤300→OkI (ov a p)) ∧
 ∀ w v a p,IvC w v a→a.Ok→Tab w→1≤p→p≤300→Calls Tryz.prog 102 #[v,.int .i64 (p:Nat)] w (RetIE (Bp (ov a p)) w)
theorem Pm (ov:Iv→Nat→Outc Iv)(e:En)(p:Nat):∀ (ls:List Ln) (out rows:List RawI) (l:Ln),Cz ov e p out ls=⟨rows,0⟩ →
 Cz ov e p out (ls++[l])=if (Cy ov e p rows l).k=0 then ⟨rows++[(Cy ov e p rows l).v.raw],0⟩ else ⟨[],(Cy ov e p rows l).k⟩
 | [], out, rows, l, h => by
   have:out=rows:=congrArg Outc.v h;subst this;simp only [List.nil_append,Cz]
 | m :: ls, out, rows, l, h => by
   rw [Cz] at h;by_cases hk:(Cy ov e p out m).k=0
   ·rw [if_pos hk] at h;rw [List.cons_append,Cz,if_pos hk];exact Pm ov e p ls _ rows l h
   ·rw [if_neg hk] at h;exact absurd (congrArg Outc.k h) hk
theorem Q7 (ov:Iv→Nat→Outc Iv)(e:En)(p:Nat):∀ (ls:List Ln) (out:List RawI) (rest:List Ln),(Cz ov e p out ls).k≠0→Cz ov e p out (ls++rest)=Cz ov e p out ls
 | [],out,rest,h=>absurd rfl h
 | m :: ls, out, rest, h => by
   rw [Cz] at h;rw [List.cons_append,Cz,Cz];by_cases hk:(Cy ov e p out m).k=0
   ·rw [if_pos hk] at h;rw [if_pos hk,if_pos hk];exact Q7 ov e p ls _ rest h
   ·rw [if_neg hk,if_neg hk]
def Si (w:World) (b o:Nat) (x y z x' y' z':Value):World :=
 (((((w.setCell ⟨b,o,none⟩ x).setCell ⟨b,o+1,none⟩ y).setCell ⟨b,o+2,none⟩ z).setCell ⟨b,o+3,none⟩ x').setCell ⟨b,o+4,none⟩ y').setCell ⟨b,o+5,none⟩ z'
theorem Yi (w:World)(b o k:Nat)(x y z x' y' z':Value)(h:k≠b):(Si w b o x y z x' y' z').heap[k]?=w.heap[k]?:=by
 unfold Si;rw [Below.heap_setCell _ _ _ _ h,Below.heap_setCell _ _ _ _ h,Below.heap_setCell _ _ _ _ h,Below.heap_setCell _ _ _ _ h,Below.heap_setCell _ _ _ _ h,Below.heap_setCell _ _ _ _ h]
theorem Agp {w:World}{b o:Nat}{cs:Array Value}{T:TypeId}(hb:w.heap[b]?=some (.cells cs T (0,0)))(hn:∀ u∈cs.toList,Bf u)(x y z x' y' z':Value):KB w [b] (Si w b o x y z x' y' z'):=by
 have k0:Below 0 w (Si w b o x y z x' y' z') :=
  ((((((Below.refl 0 w).setCell (p:=⟨b,o,none⟩) (Nat.zero_le _) x).setCell (p:=⟨b,o+1,none⟩) (Nat.zero_le _) y).setCell (p:=⟨b,o+2,none⟩) (Nat.zero_le _) z).setCell (p:=⟨b,o+3,none⟩) (Nat.zero_le _) x').setCell (p:=⟨b,o+4,none⟩) (Nat.zero_le _) y').setCell (p:=⟨b,o+5,none⟩) (Nat.zero_le _) z'
 have ho:=fun k (hk:k≠b)=>Yi w b o k x y z x' y' z' hk
 generalize Si w b o x y z x' y' z'=w' at *;refine ⟨k0.os,k0.tape,k0.output,k0.size,fun k _ hk=>ho k (by simpa using hk),fun p j v hp=>?_⟩;have hne:p≠b:=by
  rintro rfl;exact hn _ (Array.mem_toList_iff.2 (Array.mem_of_getElem? (Py hb hp))) _ rfl
 rw [World.cell?_of_block (ho p hne)];exact hp
def DRow (w:World) (b:Nat) (l:List RawI):Prop:=∃ cs,w.heap[b]?=some (.cells cs 30 (0,0))∧l.length*6≤cs.size∧(∀ u∈cs.toList,Bf u) ∧
 ∀ i a,l[i]?=some a→∃ x y z x' y' z',cs[i*6]?=some x∧cs[i*6+1]?=some y∧cs[i*6+2]?=some z∧cs[i*6+3]?=some x'∧cs[i*6+4]?=some y'∧cs[i*6+5]?=some z'∧IvR w (.agg #[x,y,z,x',y',z']) a
theorem DRow.kept {w w':World}{b:Nat}{l:List RawI}(h:DRow w b l)(k:Kept w w'):DRow w' b l:=by
 obtain ⟨cs,h1,h2,h3,h4⟩:=h;refine ⟨cs,Bl h1 k,h2,h3,fun i a hi=>?_⟩;obtain ⟨x,y,z,x',y',z',a0,a1,a2,a3,a4,a5,hI⟩:=h4 i a hi;exact ⟨x,y,z,x',y',z',a0,a1,a2,a3,a4,a5,hI.kept k⟩
theorem DRow.kb {w w':World}{X:List Nat}{b:Nat}{l:List RawI}(h:DRow w b l)(k:KB w X w')(hn:b∉X):DRow w' b l:=by
 obtain ⟨cs,h1,h2,h3,h4⟩:=h;refine ⟨cs,k.blk h1 hn,h2,h3,fun i a hi=>?_⟩;obtain ⟨x,y,z,x',y',z',a0,a1,a2,a3,a4,a5,hI⟩:=h4 i a hi;exact ⟨x,y,z,x',y',z',a0,a1,a2,a3,a4,a5,hI.kb k⟩
theorem DRow.lt {w:World}{b:Nat}{l:List RawI}(h:DRow w b l):b<w.heap.size:=by
 obtain ⟨cs,h1,-⟩:=h;exact (Array.getElem?_eq_some_iff.1 h1).1
theorem DRow.at {w:World}{b:Nat}{l:List RawI}(h:DRow w b l){i:Nat}{a:RawI}(hi:l[i]?=some a):IvAt w b (i*6) a:=by
 obtain ⟨cs,h1,h2,h3,h4⟩:=h;obtain ⟨x,y,z,x',y',z',a0,a1,a2,a3,a4,a5,hI⟩:=h4 i a hi;exact ⟨x,y,z,x',y',z',Ae h1 _ _ a0,Ae h1 _ _ a1,Ae h1 _ _ a2,Ae h1 _ _ a3,Ae h1 _ _ a4,Ae h1 _ _ a5,hI⟩
theorem DRow.ivS {w:World}{b c:Nat}{l:List RawI}(h:DRow w b l)(hc:l.length≤c):IvS w (.slice (some ⟨b,0,none⟩) l.length c) l :=
 ⟨_,_,rfl,hc,fun _=>⟨b,0,rfl,fun i a hi=>by rw [Nat.zero_add];exact h.at hi⟩⟩
theorem DRow.free {w:World}{b:Nat}{l:List RawI}(h:DRow w b l)(i:Nat):w.frozen? ⟨b,i,none⟩=false:=by
 obtain ⟨cs,h1,-⟩:=h;exact Au h1 i
theorem DRow.set {w:World}{b:Nat}{l:List RawI}(h:DRow w b l){i:Nat}(hi:i<l.length){r:RawI}{x y z x' y' z':Value}(hI:IvR w (.agg #[x,y,z,x',y',z']) r) :
 DRow (Si w b (i*6) x y z x' y' z') b (l.set i r)∧KB w [b] (Si w b (i*6) x y z x' y' z'):=by
 obtain ⟨cs,h1,h2,h3,h4⟩:=h;have hkb:=Agp (o:=i*6) h1 h3 x y z x' y' z';refine ⟨?_,hkb⟩;have hcl:=hI.cells
 have hb:(Si w b (i*6) x y z x' y' z').heap[b]?=some (.cells ((((((cs.setIfInBounds (i*6) x).setIfInBounds (i*6+1) y).setIfInBounds (i*6+2) z).setIfInBounds (i*6+3) x').setIfInBounds (i*6+4) y').setIfInBounds (i*6+5) z') 30 (0,0)) :=
  Az (Az (Az (Az (Az (Az h1 x) y) z) x') y') z'
 have hg:∀ j,((((((cs.setIfInBounds (i*6) x).setIfInBounds (i*6+1) y).setIfInBounds (i*6+2) z).setIfInBounds (i*6+3) x').setIfInBounds (i*6+4) y').setIfInBounds (i*6+5) z')[j]? =
  if j=i*6+5 then some z' else if j=i*6+4 then some y' else if j=i*6+3 then some x' else if j=i*6+2 then some z else if j=i*6+1 then some y else if j=i*6 then some x else cs[j]?:=by
  intro j;simp only [Array.getElem?_setIfInBounds,Array.size_setIfInBounds,if_pos (show i*6+5<cs.size by omega),if_pos (show i*6+4<cs.size by omega),if_pos (show i*6+3<cs.size by omega),if_pos (show i*6+2<cs.size by omega),if_pos (show i*6+1<cs.size by omega),if_pos (show i*6<cs.size by omega),@eq_comm _ j]
 refine ⟨_,hb,by simpa using h2,?_,?_⟩
 ·intro u hu;obtain ⟨j,hj⟩:=Array.mem_iff_getElem?.1 (Array.mem_toList_iff.1 hu);rw [hg] at hj;split at hj
  ·cases hj;exact (hcl _ (by simp)).1
  split at hj
  ·cases hj;exact (hcl _ (by simp)).1
  split at hj
  ·cases hj;exact (hcl _ (by simp)).1
  split at hj
  ·cases hj;exact (hcl _ (by simp)).1
  split at hj
  ·cases hj;exact (hcl _ (by simp)).1
  split at hj
  ·cases hj;exact (hcl _ (by simp)).1
  ·exact h3 u (Array.mem_toList_iff.2 (Array.mem_of_getElem? hj))
 ·intro j a hja;rw [List.getElem?_set] at hja;by_cases e:i=j
  ·subst e;rw [if_pos rfl,if_pos hi] at hja;cases hja;refine ⟨x,y,z,x',y',z',?_,?_,?_,?_,?_,?_,hI.kb hkb⟩<;>rw [hg]
   ·rw [if_neg (by omega),if_neg (by omega),if_neg (by omega),if_neg (by omega),if_neg (by omega),if_pos rfl]
   ·rw [if_neg (by omega),if_neg (by omega),if_neg (by omega),if_neg (by omega),if_pos rfl]
   ·rw [if_neg (by omega),if_neg (by omega),if_neg (by omega),if_pos rfl]
   ·rw [if_neg (by omega),if_neg (by omega),if_pos rfl]
   ·rw [if_neg (by omega),if_pos rfl]
   ·rw [if_pos rfl]
  ·rw [if_neg e] at hja;obtain ⟨p,q,s,p',q',s',a0,a1,a2,a3,a4,a5,hI'⟩:=h4 j a hja;refine ⟨p,q,s,p',q',s',?_,?_,?_,?_,?_,?_,hI'.kb hkb⟩<;>rw [hg]
   ·rw [if_neg (by omega),if_neg (by omega),if_neg (by omega),if_neg (by omega),if_neg (by omega),if_neg (by omega)];exact a0
   ·rw [if_neg (by omega),if_neg (by omega),if_neg (by omega),if_neg (by omega),if_neg (by omega),if_neg (by omega)];exact a1
   ·rw [if_neg (by omega),if_neg (by omega),if_neg (by omega),if_neg (by omega),if_neg (by omega),if_neg (by omega)];exact a2
   ·rw [if_neg (by omega),if_neg (by omega),if_neg (by omega),if_neg (by omega),if_neg (by omega),if_neg (by omega)];exact a3
   ·rw [if_neg (by omega),if_neg (by omega),if_neg (by omega),if_neg (by omega),if_neg (by omega),if_neg (by omega)];exact a4
   ·rw [if_neg (by omega),if_neg (by omega),if_neg (by omega),if_neg (by omega),if_neg (by omega),if_neg (by omega)];exact a5
def Fr (v:Value) (base:Nat):Prop:=∀ g,v.ownBlock=some g→base≤g
def Lt (v:Value) (ub:Nat):Prop:=∀ g,v.ownBlock=some g→g<ub
theorem IvS.kb2 {W w:World}{X:List Nat}{v:Value}{l:List RawI}{base ub:Nat}(h:IvS W v l)(k:KB W X w)(hf:Fr v base)(hl:Lt v ub)(hX:∀ x∈X,x<base∨ub≤x):IvS w v l:=by
 refine h.kb k (fun g hg hx=>?_);have h1:=hf g hg;have h2:=hl g hg;rcases hX g hx with q | q<;>omega
def AllR (w:World) (ball n ub:Nat) (rows:List (List RawI))   : Prop:=∃ cs:Array Value,w.heap[ball]?=some (.cells cs 31 (0,0))∧cs.size=n∧(∀ u∈cs.toList,∃ A a c,u=.slice A a c) ∧
 ∀ (i:Nat) (r:List RawI),rows[i]?=some r→∃ s:Value,cs[i]?=some s∧IvS w s r∧Fr s (ball+1)∧Lt s ub
theorem AllR.nl {w:World}{ball n ub:Nat}{rows:List (List RawI)}(h:AllR w ball n ub rows):NoL w ball:=by
 obtain ⟨cs,h1,h2,h3,h4⟩:=h;refine ⟨cs,_,h1,fun u hu=>?_⟩;obtain ⟨A,a,c,rfl⟩:=h3 u hu;exact Ag _ _ _
theorem AllR.lt {w:World}{ball n ub:Nat}{rows:List (List RawI)}(h:AllR w ball n ub rows):ball<w.heap.size:=by
 obtain ⟨cs,h1,-⟩:=h;exact (Array.getElem?_eq_some_iff.1 h1).1
theorem AllR.free {w:World}{ball n ub:Nat}{rows:List (List RawI)}(h:AllR w ball n ub rows)(i:Nat):w.frozen? ⟨ball,i,none⟩=false:=by
 obtain ⟨cs,h1,-⟩:=h;exact Au h1 i
theorem AllR.kb {w w':World}{X:List Nat}{ball n ub:Nat}{rows:List (List RawI)}(h:AllR w ball n ub rows)(k:KB w X w')(hn:ball∉X)(hX:∀ x∈X,x<ball+1∨ub≤x):AllR w' ball n ub rows:=by
 obtain ⟨cs,h1,h2,h3,h4⟩:=h;refine ⟨cs,k.blk h1 hn,h2,h3,fun i r hi=>?_⟩;obtain ⟨s,a,b,c,d⟩:=h4 i r hi;exact ⟨s,a,b.kb2 k c d hX,c,d⟩
theorem AllR.kept {w w':World}{ball n ub:Nat}{rows:List (List RawI)}(h:AllR w ball n ub rows)(k:Kept w w'):AllR w' ball n ub rows:=h.kb (k.kb []) (by simp) (by simp)
theorem AllR.at {w:World}{ball n ub:Nat}{rows:List (List RawI)}(h:AllR w ball n ub rows){i:Nat}{r:List RawI}(hi:rows[i]?=some r):∃ s,w.cell? ⟨ball,i,none⟩=some s∧IvS w s r∧Fr s (ball+1)∧Lt s ub:=by
 obtain ⟨cs,h1,h2,h3,h4⟩:=h;obtain ⟨s,a,b,c⟩:=h4 i r hi;exact ⟨s,Ae h1 _ _ a,b,c⟩
theorem AllR.put {w:World}{ball n ub:Nat}{rows:List (List RawI)}(h:AllR w ball n ub rows)(hk:rows.length<n){A:Option Addr}{a c:Nat} :
 AllR (w.setCell ⟨ball,rows.length,none⟩ (.slice A a c)) ball n ub rows∧KB w [ball] (w.setCell ⟨ball,rows.length,none⟩ (.slice A a c))∧(w.setCell ⟨ball,rows.length,none⟩ (.slice A a c)).cell? ⟨ball,rows.length,none⟩=some (.slice A a c):=by
 obtain ⟨cs,h1,h2,h3,h4⟩:=h;have hlt:rows.length<cs.size:=by omega
 obtain ⟨A0,a0,c0,h0⟩:=h3 cs[rows.length] (by simp);have hold:w.cell? ⟨ball,rows.length,none⟩=some (.slice A0 a0 c0):=Ae h1 _ _ (by rw [Array.getElem?_eq_getElem hlt,h0]);have hkb:=(KB.refl w [ball]).setCell (by simp) hold (Ag _ _ _) (.slice A a c);have hb:=Az h1 (i:=rows.length) (.slice A a c);refine ⟨⟨_,hb,by simp [h2],?_,fun i r hi=>?_⟩,hkb,Ae hb _ _ (by simp [hlt])⟩
 ·intro u hu;obtain ⟨j,hj⟩:=Array.mem_iff_getElem?.1 (Array.mem_toList_iff.1 hu);rw [Array.getElem?_setIfInBounds] at hj;split at hj
  ·cases hj;exact ⟨_,_,_,rfl⟩
  ·exact h3 u (Array.mem_toList_iff.2 (Array.mem_of_getElem? hj))
 ·obtain ⟨s,q1,q2,q3,q4⟩:=h4 i r hi;have hil:=(List.getElem?_eq_some_iff.1 hi).1;refine ⟨s,?_,q2.kb2 hkb q3 q4 (by intro x hx;simp at hx;subst hx;exact .inl (Nat.lt_succ_self _)),q3,q4⟩;rw [Array.getElem?_setIfInBounds,if_neg (by omega)];exact q1
theorem AllR.snoc {w:World}{ball n ub:Nat}{rows:List (List RawI)}(h:AllR w ball n ub rows){s:Value}{r:List RawI}(hc:w.cell? ⟨ball,rows.length,none⟩=some s)(hs:IvS w s r)(hf:Fr s (ball+1))(hl2:Lt s ub):AllR w ball n ub (rows++[r]):=by
 obtain ⟨cs,h1,h2,h3,h4⟩:=h;refine ⟨cs,h1,h2,h3,fun i q hi=>?_⟩;by_cases hl:i<rows.length
 ·rw [List.getElem?_append_left hl] at hi;exact h4 i q hi
 ·rw [List.getElem?_append_right (by omega)] at hi;obtain ⟨hz,he⟩:=List.getElem?_eq_some_iff.1 hi;simp at hz;obtain rfl:i=rows.length:=by omega
  simp at he;subst he;exact ⟨s,Py h1 hc,hs,hf,hl2⟩
theorem AllR.mono {w:World}{ball n ub ub':Nat}{rows:List (List RawI)}(h:AllR w ball n ub rows)(hu:ub≤ub'):AllR w ball n ub' rows:=by
 obtain ⟨cs,h1,h2,h3,h4⟩:=h;refine ⟨cs,h1,h2,h3,fun i r hi=>?_⟩;obtain ⟨s,a,b,c,d⟩:=h4 i r hi;exact ⟨s,a,b,c,fun g hg=>Nat.lt_of_lt_of_le (d g hg) hu⟩
theorem Ak2:(Tryz.prog.info? 31).map (fun i=>(i.zero,i.size,i.bytes))=some (some (.slice none 0 0),1,24):=by kernel_rfl
theorem Abf (w:World){n:Nat}(hn:n≤1000):∃ V,(Instr.makeSlice 38 (.int .i64 n) (.int .i64 n)).run Tryz.prog w=.ok (.slice (some ⟨w.heap.size,0,none⟩) n n) V∧Kept w V∧w.heap.size<V.heap.size∧AllR V w.heap.size n V.heap.size []:=by
 obtain ⟨i0,hi,hz0,hz1,hz2⟩:=info_parts Ak2;have hr:=run_make (P:=Tryz.prog) w 38 31 i0 _ Tryz.underlying38 hi hz0 .i64 .i64 n n (by omega) (Int.le_refl _) (by rw [hz2];omega) (by omega);simp only [Int.toNat_natCast] at hr;refine ⟨_,hr,Ad _ _,by simp,_,heap_alloc_new _ _,by rw [size_madeCells,hz1,Nat.mul_one],fun u hu=>?_,by simp⟩;have:=Jj (by decide) hu;simp [Value.cells] at this;exact ⟨_,_,_,this⟩
theorem Abg (w:World){n:Nat}(hn:n≤1000000000):∃ V,(Instr.makeSlice 31 (.int .i64 n) (.int .i64 n)).run Tryz.prog w=.ok (.slice (some ⟨w.heap.size,0,none⟩) n n) V∧Kept w V∧w.heap.size<V.heap.size∧DRow V w.heap.size (List.replicate n rzI):=by
 obtain ⟨i0,hi,hz0,hz1,hz2⟩:=info_parts V0;have hr:=run_make (P:=Tryz.prog) w 31 30 i0 _ Tryz.underlying31 hi hz0 .i64 .i64 n n (by omega) (Int.le_refl _) (by rw [hz2];omega) (by omega);simp only [Int.toNat_natCast] at hr;refine ⟨_,hr,Ad _ _,by simp,_,heap_alloc_new _ _,by rw [size_madeCells,hz1,List.length_replicate];exact Nat.le_refl _,fun u hu=>Mr u (Jj (by decide) hu),fun i a ha=>?_⟩;rw [hz1];have hlt:i<n:=by have:=(List.getElem?_eq_some_iff.1 ha).1;simpa using this
 obtain rfl:a=rzI:=by
  rw [List.getElem?_replicate,if_pos hlt] at ha;exact (Option.some.inj ha).symm
 have hc:∀ t,t<6→(madeCells (Value.agg #[.bool false,.slice none 0 0,.int .i64 0,.bool false,.slice none 0 0,.int .i64 0]).cells (n*6))[i*6+t]?=some ((Value.agg #[.bool false,.slice none 0 0,.int .i64 0,.bool false,.slice none 0 0,.int .i64 0]).cells[t]!):=by
  intro t ht;have hb:i*6+t<n*6:=by omega
  have hm:(i*6+t)%6=t:=by omega
  unfold madeCells;rw [Array.getElem?_map,Array.getElem?_range,if_pos hb,Option.map_some]
  show some (_:Value)=_
  have hs:(Value.agg #[.bool false,.slice none 0 0,.int .i64 0,.bool false,.slice none 0 0,.int .i64 0]).cells.size=6:=rfl;rw [hs,hm]
 exact ⟨_,_,_,_,_,_,hc 0 (by decide),hc 1 (by decide),hc 2 (by decide),hc 3 (by decide),hc 4 (by decide),hc 5 (by decide),Ed _⟩
def Rws (w:World) (v:Value) (rows:List (List RawI)):Prop:=∃ A c,v=.slice A rows.length c∧rows.length≤c∧(0<rows.length→∃ b off,A=some ⟨b,off,none⟩∧∀ (i:Nat) (r:List RawI),rows[i]?=some r→∃ s:Value,w.cell? ⟨b,off+i,none⟩=some s∧IvS w s r)
theorem Ahg (w:World):Rws w (.slice none 0 0) []:=⟨none,0,rfl,Nat.le_refl _,fun h=>absurd h (by simp)⟩
theorem Rws.kept {w w':World}{v:Value}{rows:List (List RawI)}(h:Rws w v rows)(k:Kept w w'):Rws w' v rows:=by
 obtain ⟨A,c,e,hc,h⟩:=h;refine ⟨A,c,e,hc,fun h0=>?_⟩;obtain ⟨b,off,rfl,hd⟩:=h h0;exact ⟨b,off,rfl,fun i r hi=>(hd i r hi).imp fun s hs=>⟨(k.cell (p:=⟨b,off+i,none⟩) (Ap hs.1)).trans hs.1,hs.2.kept k⟩⟩
def SlC (u:Value):Prop:=∃ A a c,u=.slice A a c
theorem SlC.nl {u:Value}(h:SlC u):Bf u:=by
 obtain ⟨A,a,c,rfl⟩:=h;exact Ag _ _ _
theorem AllC.nol {w:World}{g:Nat}(h:AllC SlC w g):NoL w g:=by
 obtain ⟨cur,e,h1,h2⟩:=h;exact ⟨cur,e,h1,fun u hu=>(h2 u hu).nl⟩
theorem IvAt.grownR {w w':World}{b o:Nat}{a:RawI}{row:Option Nat}(h:IvAt w b o a)(hg:w.grownBy w' row)(hN:∀ g,row=some g→AllC SlC w g):IvAt w' b o a:=by
 obtain ⟨x,y,z,x',y',z',h0,h1,h2,h3,h4,h5,hI⟩:=h;have hb:=Ap h0;have hne:row≠some b:=by
  intro hr;obtain ⟨cur,e,q1,q2⟩:=hN b hr;obtain ⟨A1,l1,c1,A2,l2,c2,ei,-,-⟩:=Aq hI;injection ei with ei;injection ei with ei
  simp only [List.cons.injEq,and_true] at ei;obtain ⟨rfl,rfl,rfl,rfl,rfl,rfl⟩:=ei;simp only [World.cell?,q1] at h0;have h6:cur[o]?=some (.bool a.lo.neg):=by simpa using h0
  rw [←Array.getElem?_toList] at h6;obtain ⟨A,x,c,e⟩:=q2 _ (List.mem_of_getElem? h6);cases e
 have hc:∀ k v,w.cell? ⟨b,k,none⟩=some v→w'.cell? ⟨b,k,none⟩=some v:=by
  intro k v hv;have:=hg.block b hb (Ne.symm hne);simp only [World.cell?,this];simpa only [World.cell?] using hv
 exact ⟨x,y,z,x',y',z',hc _ _ h0,hc _ _ h1,hc _ _ h2,hc _ _ h3,hc _ _ h4,hc _ _ h5,hI.grown hg fun g hg'=>(hN g hg').nol⟩
theorem IvS.grownR {w w':World}{v:Value}{l:List RawI}{row:Option Nat}(h:IvS w v l)(hg:w.grownBy w' row)(hN:∀ g,row=some g→AllC SlC w g):IvS w' v l:=by
 obtain ⟨A,c,e,hc,h⟩:=h;refine ⟨A,c,e,hc,fun h0=>?_⟩;obtain ⟨b,off,rfl,hd⟩:=h h0;exact ⟨b,off,rfl,fun i a hi=>(hd i a hi).grownR hg hN⟩
structure OwnR (w:World) (base:Nat) (v:Value) (l:List (List RawI)) (xs:List Value):Prop where
 row:w.ownsRow base 31 1 v l.length xs
 sl:∀ u∈xs,SlC u
 blk:∀ g,v.ownBlock=some g→AllC SlC w g
 rws:∀ (i:Nat) (r:List RawI),l[i]?=some r→∃ s:Value,xs[i]?=some s∧IvS w s r
theorem OwnR.nil (w:World)(base:Nat):OwnR w base (.slice none 0 0) [] [] :=
 ⟨World.ownsRow_nil _ _ _ _,by simp,(by intro g h;simp [Value.ownBlock] at h),by simp⟩
theorem OwnR.kept {w w':World}{base:Nat}{v:Value}{l:List (List RawI)}{xs:List Value}(h:OwnR w base v l xs)(k:Kept w w'):OwnR w' base v l xs:=by
 obtain ⟨h1,h2,h3,h4⟩:=h;refine ⟨⟨h1.1,?_⟩,h2,?_,?_⟩
 ·rcases h1.2 with hn | ⟨g,cap,cur,rfl,hb,hg,rest⟩
  ·exact .inl hn
  ·exact .inr ⟨g,cap,cur,rfl,hb,(k.block g (Array.getElem?_eq_some_iff.1 hg).1).trans hg,rest⟩
 ·intro g hg;obtain ⟨cur,e,q1,q2⟩:=h3 g hg;exact ⟨cur,e,(k.block g (Array.getElem?_eq_some_iff.1 q1).1).trans q1,q2⟩
 ·intro i d hi;obtain ⟨s,a0,hd⟩:=h4 i d hi;exact ⟨s,a0,hd.kept k⟩
theorem OwnR.all {w:World}{base:Nat}{v:Value}{l:List (List RawI)}{xs:List Value}(h:OwnR w base v l xs):Rws w v l:=by
 obtain ⟨h1,h2,h3,h4⟩:=h;have hc:=h1.2;rcases hc with ⟨rfl,h0⟩ | ⟨g,cap,cur,rfl,hb,hg,hn,-⟩
 ·obtain rfl:l=[]:=List.eq_nil_of_length_eq_zero h0;exact Ahg _
 ·refine ⟨_,cap,rfl,hn,fun _=>⟨g,0,rfl,fun i d hi=>?_⟩⟩;obtain ⟨s,a0,hd⟩:=h4 i d hi;have cl:=h1.cells (g:=g) rfl;have ad:∀ j,(⟨g,0,none⟩:Addr).add j=⟨g,j,none⟩:=by intro j;unfold Addr.add;split<;>simp_all
  refine ⟨s,?_,hd⟩;have:=cl _ _ a0;rw [ad] at this;simpa using this
theorem OwnR.snoc {w w':World}{base:Nat}{v v' s:Value}{l:List (List RawI)}{xs:List Value}{a:List RawI}{g':Nat}(h:OwnR w base v l xs)
 (hd:IvS w s a) (hr:w'.ownsRow base 31 1 v' (l.length+1) (xs++[s])) (hg:w.grownBy w' v.ownBlock) (hv':v'.ownBlock=some g') (hN:AllC SlC w' g') :
 OwnR w' base v' (l++[a]) (xs++[s]):=by
 obtain ⟨h1,h2,h3,h4⟩:=h;refine ⟨by simpa using hr,?_,?_,?_⟩
 ·intro u hu;rcases List.mem_append.1 hu with hu | hu
  ·exact h2 u hu
  ·simp only [List.mem_singleton] at hu;subst hu;obtain ⟨A,c,rfl,-⟩:=hd;exact ⟨_,_,_,rfl⟩
 ·intro g hg;rw [hv'] at hg;cases hg;exact hN
 ·intro i e hi;have hxl:=h1.1;by_cases hlt:i<l.length
  ·rw [List.getElem?_append_left hlt] at hi;obtain ⟨s0,a0,hd'⟩:=h4 i e hi;refine ⟨s0,?_,hd'.grownR hg h3⟩;rw [List.getElem?_append_left (by omega)];exact a0
  ·rw [List.getElem?_append_right (by omega)] at hi;obtain ⟨hz,he⟩:=List.getElem?_eq_some_iff.1 hi;simp at hz;have hi':i=l.length:=by omega
   subst hi';simp at he;subst he;refine ⟨s,?_,hd.grownR hg h3⟩;rw [List.getElem?_append_right (by omega),hxl,show l.length-l.length*1=0 by omega];rfl
theorem OwnR.base {w:World}{base:Nat}{v:Value}{l:List (List RawI)}{xs:List Value}(h:OwnR w base v l xs):∀ g,v.ownBlock=some g→base≤g:=by
 intro g hg;rcases h.row.2 with ⟨rfl,-⟩ | ⟨g',cap,cur,rfl,hb,-⟩
 ·simp [Value.ownBlock] at hg
 ·simp [Value.ownBlock] at hg;subst hg;exact hb
theorem OwnR.grown_kept {W w w':World}{v:Value}{l:List (List RawI)}{xs:List Value}(h:OwnR w W.heap.size v l xs)(k:Kept W w)(hg:w.grownBy w' v.ownBlock):Kept W w' :=
 Below.grown k hg k.size (fun g hg'=>h.base g hg')
theorem Ak1:(Tryz.prog.info? 31).map (fun i=>(i.zero,i.size,i.bytes))=some (some (.slice none 0 0),1,24):=by kernel_rfl
theorem IvAt.word {w:World}{b b' o:Nat}{a:RawI}{x:Value}{T:TypeId}(h:IvAt w b' o a)(hb:w.heap[b]?=some (.cells #[x] T (0,0)))(hx:Bf x)(y:Value):IvAt (w.setCell ⟨b,0,none⟩ y) b' o a:=by
 obtain ⟨p,q,r,p',q',r',h0,h1,h2,h3,h4,h5,hI⟩:=h;have hne:¬b'=b:=by
  rintro rfl;simp only [World.cell?,hb] at h5;simp at h5
 have k:KB w [b] (w.setCell ⟨b,0,none⟩ y):=(KB.refl w [b]).setCell (by simp) (Ae hb 0 x rfl) hx y;exact IvAt.kb ⟨p,q,r,p',q',r',h0,h1,h2,h3,h4,h5,hI⟩ k (by simpa using hne)
theorem IvS.word {w:World}{b:Nat}{v:Value}{l:List RawI}{x:Value}{T:TypeId}(h:IvS w v l)(hb:w.heap[b]?=some (.cells #[x] T (0,0)))(hx:Bf x)(y:Value):IvS (w.setCell ⟨b,0,none⟩ y) v l:=by
 obtain ⟨A,c,e,hc,h⟩:=h;refine ⟨A,c,e,hc,fun h0=>?_⟩;obtain ⟨b',off,rfl,hd⟩:=h h0;exact ⟨b',off,rfl,fun i a hi=>(hd i a hi).word hb hx y⟩
theorem Rws.word {w:World}{b:Nat}{v:Value}{l:List (List RawI)}{x:Value}{T:TypeId}(h:Rws w v l)(hv:v.ownBlock≠some b∨l=[])(hb:w.heap[b]?=some (.cells #[x] T (0,0)))(hx:Bf x)(y:Value):Rws (w.setCell ⟨b,0,none⟩ y) v l:=by
 obtain ⟨A,c,e,hc,h⟩:=h;refine ⟨A,c,e,hc,fun h0=>?_⟩;obtain ⟨b',off,rfl,hd⟩:=h h0;have hne:¬b'=b:=by
  rcases hv with hv | rfl
  ·rintro rfl;rw [e] at hv;exact hv rfl
  ·exact absurd h0 (by simp)
 have k:KB w [b] (w.setCell ⟨b,0,none⟩ y):=(KB.refl w [b]).setCell (by simp) (Ae hb 0 x rfl) hx y;exact ⟨b',off,rfl,fun i r hi=>(hd i r hi).imp fun s hs=>⟨k.cell hs.1 (by simpa using hne),hs.2.word hb hx y⟩⟩
theorem Afy {w:World}{B:Nat}{v:Value}{l:List RawI}{d:RawI}{xs:List Value}{t0 t1 t2 t3 t4 t5:Value}{bt:Nat}(ty:TypeId)(ho:OwnI w B v l xs)(hnil:l=[]→v=.slice none 0 0)(hl:l.length≤1000)(hB:B≤w.heap.size)
 (hb:BlkI w bt t0 t1 t2 t3 t4 t5) (hd:IvR w (.agg #[t0,t1,t2,t3,t4,t5]) d) :
 ∃ v' w' g', (Builtin.append_ #[31, 31] ty #[v, .slice (some ⟨bt, 0, none⟩) 1 1]).run Tryz.prog w = .ok v' w' ∧ OwnI w' B v' (l ++ [d]) (xs ++ [t0, t1, t2, t3, t4, t5]) ∧ w.grownBy w' v.ownBlock ∧
   (∀ (b:Nat) (cs:Array Value) (T:TypeId),w.heap[b]?=some (.cells cs T (0,0))→cs.size<12→w'.heap[b]?=some (.cells cs T (0,0)))∧v'.ownBlock=some g'∧(v.ownBlock=some g'∨w.heap.size≤g')∧g'<w'.heap.size:=by
 obtain ⟨i0,hi,hz0,hz1,hz2⟩:=info_parts V0;obtain ⟨-,c0,c1,c2,c3,c4,c5⟩:=hb.facts;have hcl:=hd.cells;have ad:∀ (b j:Nat),(⟨b,0,none⟩:Addr).add j=⟨b,j,none⟩:=by intro b j;unfold Addr.add;split<;>simp_all
 have hnews:∀ (j:Nat) (u:Value),[t0,t1,t2,t3,t4,t5][j]?=some u→w.cell? ((⟨bt,0,none⟩:Addr).add j)=some u:=by
  intro j u hu;rw [ad];rcases j with _ | _ | _ | _ | _ | _ | j
  ·cases hu;exact c0
  ·cases hu;exact c1
  ·cases hu;exact c2
  ·cases hu;exact c3
  ·cases hu;exact c4
  ·cases hu;exact c5
  ·simp at hu
 obtain ⟨v',w',g',hr,h2,h3,h4,h5⟩:=Gm (P:=Tryz.prog) w B 31 ty 30 i0 _ 6 80 Tryz.underlying31 hi hz0 hz1 hz2 rfl (by decide) v l.length xs ho.row ⟨bt,0,none⟩ 1 1 [t0,t1,t2,t3,t4,t5] rfl hnews (fun u hu=>(hcl u hu).2) (by unfold maxLen;omega) (by omega) hB (by decide) ho.nl (fun u hu=>(hcl u hu).1) Mr ho.blk;have hown':=ho.snoc hd h2 h3 h4 h5;have hlt:g'<w'.heap.size:=by
  obtain ⟨cr,e,q1,-⟩:=h5;exact (Array.getElem?_eq_some_iff.1 q1).1
 by_cases hl0:l=[]
 ·subst hl0;obtain rfl:=hnil rfl;have hx:xs=[]:=List.eq_nil_of_length_eq_zero (by simpa using ho.row.1);subst hx;have hr2:=run_append_nil (P:=Tryz.prog) w 31 ty 30 i0 _ Tryz.underlying31 hi hz0 ⟨bt,0,none⟩ 1 1 [t0,t1,t2,t3,t4,t5] (by rw [hz1];rfl) hnews (by decide) (by decide) (by rw [hz2];decide);rw [hr2] at hr;injection hr with e1 e2
  have kk:Kept w w':=by rw [←e2];exact (Below.refl _ _).drew.alloc (Nat.le_refl _) _
  have hg':w.heap.size=g':=by rw [←e1] at h4;simpa [Value.ownBlock] using h4
  rw [e1,e2] at hr2;exact ⟨v',w',g',hr2,hown',h3,fun b cs T hb2 _=>(kk.block b (Array.getElem?_eq_some_iff.1 hb2).1).trans hb2,h4,.inr (Nat.le_of_eq hg'),hlt⟩
 have hn:0<l.length:=List.length_pos_iff.2 hl0;rcases ho.row.2 with ⟨-,h0⟩ | ⟨g,cap,cur,rfl,hbg,hg,hnc,hcm,hcs,htake⟩
 ·omega
 have h3':w.grownBy w' (some g):=h3;have oth:∀ (b:Nat) (o:Obj),b≠g→w.heap[b]?=some o→w'.heap[b]?=some o:=fun b o hne hb'=>by
  rw [h3'.block b (Array.getElem?_eq_some_iff.1 hb').1 (fun e=>hne (Option.some.inj e))];exact hb'
 by_cases hroom:l.length+1≤cap
 ·have hsz:12≤cur.size:=by rw [hcs];omega
  have hr2:=run_append_room (P:=Tryz.prog) w 31 ty 30 i0 Tryz.underlying31 hi g l.length cap cur hg ⟨bt,0,none⟩ 1 1 [t0,t1,t2,t3,t4,t5] (by rw [hz1];rfl) hnews (fun u hu=>(hcl u hu).2) hroom (by rw [hz1,hcs];simp only [List.length_cons,List.length_nil];omega);rw [hz1] at hr2;rw [hr2] at hr;injection hr with e1 e2
  subst e1;subst e2;obtain rfl:g=g':=by simpa [Value.ownBlock] using h4
  refine ⟨_,_,g,hr2,hown',h3,?_,rfl,.inl rfl,hlt⟩;intro b cs T hb2 hlt;refine oth b _ ?_ hb2;rintro rfl;rw [hg] at hb2;injection hb2 with hb2
  injection hb2 with hb2
  subst hb2;omega
 ·have holds:∀ j u,xs[j]?=some u→w.cell? ((⟨g,0,none⟩:Addr).add j)=some u:=ho.row.cells (g:=g) rfl;have hr2:=run_append_grow (P:=Tryz.prog) w 31 ty 30 i0 _ Tryz.underlying31 hi hz0 ⟨g,0,none⟩ l.length cap xs (by rw [hz1];exact ho.row.1) holds ⟨bt,0,none⟩ 1 1 [t0,t1,t2,t3,t4,t5] (by rw [hz1];rfl) hnews (by omega) (by omega) (growslice_fits (by omega) (by rw [hz2];omega));rw [hr2] at hr;injection hr with e1 e2
  have kk:Kept w w':=by rw [←e2];exact (Below.refl _ _).drew.alloc (Nat.le_refl _) _
  have hg':w.heap.size=g':=by rw [←e1] at h4;simpa [Value.ownBlock] using h4
  rw [e1,e2] at hr2;exact ⟨v',w',g',hr2,hown',h3,fun b cs T hb2 _=>(kk.block b (Array.getElem?_eq_some_iff.1 hb2).1).trans hb2,h4,.inr (Nat.le_of_eq hg'),hlt⟩
theorem OwnI.apart {w w':World}{B:Nat}{v:Value}{l:List RawI}{xs:List Value}{row:Option Nat}(h:OwnI w B v l xs)(hg:w.grownBy w' row)(hN:∀ g,row=some g→NoL w g)(hne:∀ g,v.ownBlock=some g→row≠some g):OwnI w' B v l xs:=by
 obtain ⟨h1,h2,h3,h4,h5⟩:=h;refine ⟨⟨h1.1,?_⟩,h2,h3,?_,?_⟩
 ·rcases h1.2 with hn | ⟨g,cap,cr,rfl,hb2,hg2,rest⟩
  ·exact .inl hn
  ·exact .inr ⟨g,cap,cr,rfl,hb2,(hg.block g (Array.getElem?_eq_some_iff.1 hg2).1 (fun e=>hne g rfl e.symm)).trans hg2,rest⟩
 ·intro g hg2;obtain ⟨cr,e,q1,q2⟩:=h4 g hg2;exact ⟨cr,e,(hg.block g (Array.getElem?_eq_some_iff.1 q1).1 (fun e=>hne g hg2 e.symm)).trans q1,q2⟩
 ·intro i a hi;obtain ⟨p0,p1,p2,p3,p4,p5,s0,s1,s2,s3,s4,s5,hI⟩:=h5 i a hi;exact ⟨p0,p1,p2,p3,p4,p5,s0,s1,s2,s3,s4,s5,hI.grown hg hN⟩
def Ec (v:Value):List Nat:=v.ownBlock.toList
theorem Jw {v:Value}{g:Nat}:g∈Ec v↔v.ownBlock=some g:=by unfold Ec;simp [Option.mem_toList,eq_comm]
theorem OwnI.blt {w:World}{B:Nat}{v:Value}{l:List RawI}{xs:List Value}(h:OwnI w B v l xs):∀ g,v.ownBlock=some g→g<w.heap.size:=fun g hg=>by
 obtain ⟨cr,e,q1,-⟩:=h.blk g hg;exact (Array.getElem?_eq_some_iff.1 q1).1
theorem OwnR.blt {w:World}{B:Nat}{v:Value}{l:List (List RawI)}{xs:List Value}(h:OwnR w B v l xs):∀ g,v.ownBlock=some g→g<w.heap.size:=fun g hg=>by
 obtain ⟨cr,e,q1,-⟩:=h.blk g hg;exact (Array.getElem?_eq_some_iff.1 q1).1
theorem OwnI.notS {w:World}{B:Nat}{v:Value}{l:List RawI}{xs:List Value}(h:OwnI w B v l xs)(hl:l≠[]){g:Nat}(hg:v.ownBlock=some g):¬AllC SlC w g:=by
 rintro ⟨cur,e,q1,q2⟩;obtain ⟨a,ha⟩:∃ a,l[0]?=some a:=⟨_,List.getElem?_eq_getElem (List.length_pos_iff.2 hl)⟩;obtain ⟨x,y,z,x',y',z',a0,-,-,-,-,-,hI⟩:=h.ivs 0 a ha;obtain ⟨A1,l1,c1,A2,l2,c2,ei,-,-⟩:=Aq hI;injection ei with ei;injection ei with ei
 simp only [List.cons.injEq,and_true] at ei;obtain ⟨rfl,rfl,rfl,rfl,rfl,rfl⟩:=ei;have hc:=h.row.cells (g:=g) hg _ _ a0;rw [show (⟨g,0,none⟩:Addr).add (0*6)=⟨g,0,none⟩ by unfold Addr.add;split<;>simp_all] at hc;obtain ⟨A,n,c,e⟩:=q2 _ (Array.mem_toList_iff.2 (Array.mem_of_getElem? (by simpa [World.cell?,q1] using hc:cur[0]?=some (.bool a.lo.neg))));cases e
theorem IvS.apart {w w':World}{v:Value}{l:List RawI}{row:Option Nat}(h:IvS w v l)(hg:w.grownBy w' row)(hN:∀ g,row=some g→NoL w g)(hne:∀ g,v.ownBlock=some g→row≠some g):IvS w' v l:=by
 obtain ⟨A,c,rfl,hc,h⟩:=h;refine ⟨A,c,rfl,hc,fun h0=>?_⟩;obtain ⟨b,off,rfl,hd⟩:=h h0;have hcl:∀ k v,w.cell? ⟨b,k,none⟩=some v→w'.cell? ⟨b,k,none⟩=some v:=by
  intro k v hv;have:=hg.block b (Ap hv) (fun e=>hne b rfl e.symm);simp only [World.cell?,this];simpa only [World.cell?] using hv
 refine ⟨b,off,rfl,fun i a hi=>?_⟩;obtain ⟨x,y,z,x',y',z',h0,h1,h2,h3,h4,h5,hI⟩:=hd i a hi;exact ⟨x,y,z,x',y',z',hcl _ _ h0,hcl _ _ h1,hcl _ _ h2,hcl _ _ h3,hcl _ _ h4,hcl _ _ h5,hI.grown hg hN⟩
theorem OwnR.apartI {w w':World}{B:Nat}{v:Value}{l:List (List RawI)}{xs:List Value}{row:Option Nat}(h:OwnR w B v l xs)(hg:w.grownBy w' row)(hN:∀ g,row=some g→NoL w g)(hS:∀ g,row=some g→¬AllC SlC w g)
 (hap:∀ s∈xs,∀ g,s.ownBlock=some g→row≠some g):OwnR w' B v l xs:=by
 have hne:∀ g,v.ownBlock=some g→row≠some g:=fun g hgv e=>hS g e (h.blk g hgv)
 obtain ⟨h1,h2,h3,h4⟩:=h;refine ⟨⟨h1.1,?_⟩,h2,?_,?_⟩
 ·rcases h1.2 with hn | ⟨g,cap,cr,rfl,hb2,hg2,rest⟩
  ·exact .inl hn
  ·exact .inr ⟨g,cap,cr,rfl,hb2,(hg.block g (Array.getElem?_eq_some_iff.1 hg2).1 (fun e=>hne g rfl e.symm)).trans hg2,rest⟩
 ·intro g hg2;obtain ⟨cr,e,q1,q2⟩:=h3 g hg2;exact ⟨cr,e,(hg.block g (Array.getElem?_eq_some_iff.1 q1).1 (fun e=>hne g hg2 e.symm)).trans q1,q2⟩
 ·intro i a hi;obtain ⟨s,a0,hI⟩:=h4 i a hi;exact ⟨s,a0,hI.apart hg hN (hap s (List.mem_of_getElem? a0))⟩
theorem OwnI.apartR {w w':World}{B:Nat}{v:Value}{l:List RawI}{xs:List Value}{row:Option Nat}(h:OwnI w B v l xs)(hnil:l=[]→v=.slice none 0 0)(hg:w.grownBy w' row)(hS:∀ g,row=some g→AllC SlC w g):OwnI w' B v l xs :=
 h.apart hg (fun g e=>(hS g e).nol) (fun g hgv e=>by
  by_cases hl:l=[]
  ·rw [hnil hl] at hgv;cases hgv
  ·exact h.notS hl hgv (hS g e))
theorem Ain {w:World}{B:Nat}{v:Value}{l:List (List RawI)}{r:List RawI}{xs:List Value}{s:Value}{bt c:Nat}(ty:TypeId)(ho:OwnR w B v l xs)(hl:l.length≤1000)(hB:B≤w.heap.size)
 (hc:w.cell? ⟨bt,0,none⟩=some s) (hs:IvS w s r) :
 ∃ v' w' g',(Builtin.append_ #[38,38] ty #[v,.slice (some ⟨bt,0,none⟩) 1 c]).run Tryz.prog w=.ok v' w'∧OwnR w' B v' (l++[r]) (xs++[s])∧w.grownBy w' v.ownBlock∧v'.ownBlock=some g':=by
 obtain ⟨i0,hi,hz0,hz1,hz2⟩:=info_parts Ak1;have ad:∀ j,(⟨bt,0,none⟩:Addr).add j=⟨bt,j,none⟩:=by intro j;unfold Addr.add;split<;>simp_all
 have hu:SlC s:=by obtain ⟨A,c,rfl,-⟩:=hs;exact ⟨_,_,_,rfl⟩
 have hu1:s.oneCell'=true:=by obtain ⟨A,c,rfl,-⟩:=hs;rfl
 obtain ⟨v',w',g',hr,h2,h3,h4,h5⟩:=Rq (p:=SlC) (P:=Tryz.prog) w B 38 ty 31 i0 _ 1 24 Tryz.underlying38 hi hz0 hz1 hz2 rfl (by decide) v l.length xs ho.row ⟨bt,0,none⟩ 1 c [s] rfl
  (fun j u hj=>by
    rw [ad];rcases j with _ | j
    ·cases hj;exact hc
    ·simp at hj) (fun u hu'=>by simp only [List.mem_singleton] at hu';rw [hu'];exact hu1) (by unfold maxLen;omega) (by omega) hB (by decide) ho.sl (fun u hu'=>by simp only [List.mem_singleton] at hu';rw [hu'];exact hu)
  (fun u hu'=>by simp [Value.cells] at hu';rw [hu'];exact ⟨_,_,_,rfl⟩) ho.blk
 exact ⟨v',w',g',hr,ho.snoc hs h2 h3 h4 h5,h3,h4⟩
end Go.Proofs.YtabjjdicffcolaaGreatDoor
