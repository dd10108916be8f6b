/- Words and contracts, part 42. -/
import Derived.Test.YtabjjdicffcolaaGreatDoorClaimSevalp32
import Derived.Deep.Upon
set_option maxRecDepth 100000
set_option maxHeartbeats 0
namespace Go.Proofs.YtabjjdicffcolaaGreatDoor
open Go.Lib (hid)
open Go.RowKit
def RowsS (w:World) (v:Value) (rows:List (List RawI)):Prop:=∃ A c,v=.slice A rows.length c∧rows.length≤c∧(0<rows.length→∃ b off,A=some ⟨b,off,none⟩∧∀ (i:Nat) (r:List RawI),rows[i]?=some r→∃ s:Value,w.cell? ⟨b,off+i,none⟩=some s∧IvS w s r)
theorem Tg (w:World):RowsS w (.slice none 0 0) []:=⟨none,0,rfl,Nat.le_refl _,fun h=>absurd h (by simp)⟩
theorem RowsS.kept {w w':World}{v:Value}{rows:List (List RawI)}(h:RowsS w v rows)(k:Kept w w'):RowsS w' v rows:=by
 obtain ⟨A,c,e,hc,h⟩:=h;refine ⟨A,c,e,hc,fun h0=>?_⟩;obtain ⟨b,off,e2,hb⟩:=h h0;refine ⟨b,off,e2,fun i r hi=>?_⟩;obtain ⟨s,h1,h2⟩:=hb i r hi;exact ⟨s,(k.cell (p:=⟨b,off+i,none⟩) (Ap h1)).trans h1,h2.kept k⟩
theorem Lk {P:Program}{w w':World}{o:Oper}{a:Act}(s x:Operand)(t:TypeId){vs vx v':Value}
 (ho:o.op=.call { callee:=.builtin .append,args:=#[s,x],argTypes:=#[t,t] }) (hs:a.eval s=vs) (hx:a.eval x=vx)
 (hr:(Builtin.append_ #[t,t] o.type #[vs,vx]).run P w=.ok v' w'):(execOp a.eval o).run P w=.ok (.value v') w':=by
 unfold execOp;simp only [ho,resolve,invoke,builtin,Sem.run_bind,Sem.run_pure,Result.andThen_ok,List.map_toArray,List.map_cons,List.map_nil,hs,hx,hr]
theorem Pr (w:World)(o:Obj):Kept w (w.drew.alloc o):=(Below.refl _ _).drew.alloc (Nat.le_refl _) _
theorem Ac4 (w:World){v:Value}{r:List RawI}(h:IvS w v r)(hn:r.length≤1000000000)(ty:TypeId) :
 ∃ v' w',(Builtin.append_ #[31,31] ty #[.slice none 0 0,v]).run Tryz.prog w=.ok v' w'∧Kept w w'∧IvS w' v' r∧∀ g,v'.ownBlock=some g→w.heap.size≤g∧g<w'.heap.size:=by
 obtain ⟨i0,hi,hz0,hz1,hz2⟩:=info_parts V0;obtain ⟨A,c,rfl,hc,h⟩:=h;by_cases h0:0<r.length
 ·obtain ⟨b,off,rfl,hat⟩:=h h0;have ad:∀ j,(⟨b,off,none⟩:Addr).add j=⟨b,off+j,none⟩:=by intro j;unfold Addr.add;split<;>simp_all
  have hex:∀ j,j<r.length*6→∃ u,w.cell? ⟨b,off+j,none⟩=some u:=by
   intro j hj;obtain ⟨x,y,z,x',y',z',a0,a1,a2,a3,a4,a5,-⟩:=hat (j/6) r[j/6] (List.getElem?_eq_getElem (by omega));have hm:j%6=0∨j%6=1∨j%6=2∨j%6=3∨j%6=4∨j%6=5:=by omega
   rcases hm with q | q | q | q | q | q
   ·exact ⟨x,by rw [show off+j=off+j/6*6 by omega];exact a0⟩
   ·exact ⟨y,by rw [show off+j=off+j/6*6+1 by omega];exact a1⟩
   ·exact ⟨z,by rw [show off+j=off+j/6*6+2 by omega];exact a2⟩
   ·exact ⟨x',by rw [show off+j=off+j/6*6+3 by omega];exact a3⟩
   ·exact ⟨y',by rw [show off+j=off+j/6*6+4 by omega];exact a4⟩
   ·exact ⟨z',by rw [show off+j=off+j/6*6+5 by omega];exact a5⟩
  obtain ⟨news,hN⟩:∃ news,news=(List.range (r.length*6)).map fun j=>(w.cell? ⟨b,off+j,none⟩).getD undef:=⟨_,rfl⟩
  have hl:news.length=r.length*6:=by rw [hN];simp
  have hnews:∀ j,j<r.length*6→news[j]?=w.cell? ⟨b,off+j,none⟩:=by
   intro j hj;obtain ⟨u,hu⟩:=hex j hj;rw [hN,List.getElem?_map,List.getElem?_range hj,hu];simp [hu]
  have hr:=run_append_nil (P:=Tryz.prog) w 31 ty 30 i0 _ Tryz.underlying31 hi hz0 ⟨b,off,none⟩ r.length c news (by rw [hl,hz1])
   (fun j u hu=>by
     have hj:j<r.length*6:=by rw [←hl];exact (List.getElem?_eq_some_iff.1 hu).1
     rw [ad,←hnews j hj];exact hu) h0 (by omega) (by rw [hz2];omega)
  have hK:=Pr w (.cells (news.toArray++Builtin.zeroCells (Value.agg #[.bool false,.slice none 0 0,.int .i64 0,.bool false,.slice none 0 0,.int .i64 0]).cells (grownCap w r.length 0 30-r.length)) 30);refine ⟨_,_,hr,hK,⟨_,_,rfl,grownCap_ge _ _ _ _,fun _=>⟨w.heap.size,0,rfl,fun i a ha=>?_⟩⟩,fun g hg=>by
   obtain rfl:w.heap.size=g:=Option.some.inj hg;exact ⟨Nat.le_refl _,by simp⟩⟩
  have hlt:i<r.length:=(List.getElem?_eq_some_iff.1 ha).1;obtain ⟨x,y,z,x',y',z',a0,a1,a2,a3,a4,a5,hI⟩:=hat i a ha;have hcell:∀ q u,q<6→w.cell? ⟨b,off+i*6+q,none⟩=some u→(w.drew.alloc (.cells (news.toArray++Builtin.zeroCells (Value.agg #[.bool false,.slice none 0 0,.int .i64 0,.bool false,.slice none 0 0,.int .i64 0]).cells (grownCap w r.length 0 30-r.length)) 30)).cell? ⟨w.heap.size,0+i*6+q,none⟩=some u:=by
   intro q u hq hu;generalize grownCap w r.length 0 30-r.length=gc;refine Ae (heap_alloc_new w.drew _) _ _ ?_;rw [Array.getElem?_append_left (by rw [List.size_toArray,hl];omega),List.getElem?_toArray,hnews _ (by omega),←hu]
   congr 2
   omega
  exact ⟨x,y,z,x',y',z',hcell 0 _ (by decide) a0,hcell 1 _ (by decide) a1,hcell 2 _ (by decide) a2,hcell 3 _ (by decide) a3,hcell 4 _ (by decide) a4,hcell 5 _ (by decide) a5,hI.kept hK⟩
 ·obtain rfl:r=[]:=List.eq_nil_of_length_eq_zero (by omega);have hsrc:Src Tryz.prog i0.size 31 (.slice A 0 c) 0 [] w:=by
   refine ⟨.inl ⟨_,Tryz.underlying31⟩,fun w'=>rfl,?_,?_,by simp,by simp⟩
   ·cases A<;>simp [Builtin.firstCells,loadCells,loadCellsFrom]
   ·cases A<;>simp [Builtin.firstCells,loadCells,loadCellsFrom]
  exact ⟨_,_,run_append_nothing w _ _ ty _ i0 Tryz.underlying31 hi none 0 0 (Nat.le_refl _) _ hsrc,Below.refl _ _,Fy _,fun g hg=>by cases hg⟩
theorem Ado {w:World}{T:TypeId}{x y z x' y' z':Value}{r:RawI}(h:IvR w (.agg #[x,y,z,x',y',z']) r):IvS (w.alloc (.cells #[x,y,z,x',y',z'] T)) (.slice (some ⟨w.heap.size,0,none⟩) 1 1) [r] :=
 ⟨_, 1, rfl, Nat.le_refl _, fun _ => ⟨_, 0, rfl, fun i a ha => by
  rcases i with _ | i
  ·cases ha;have hb:=heap_alloc_new w (.cells #[x,y,z,x',y',z'] T);exact ⟨x,y,z,x',y',z',Ae hb 0 _ rfl,Ae hb 1 _ rfl,Ae hb 2 _ rfl,Ae hb 3 _ rfl,Ae hb 4 _ rfl,Ae hb 5 _ rfl,h.kept (Ad _ _)⟩
  ·simp at ha⟩⟩
def Row1 (w:World) (v:Value) (row:List RawI):Prop:=∃ b s c,v=.slice (some ⟨b,0,none⟩) 1 c∧w.cell? ⟨b,0,none⟩=some s∧IvS w s row
theorem Row1.kept {w w':World}{v:Value}{row:List RawI}(h:Row1 w v row)(k:Kept w w'):Row1 w' v row:=by
 obtain ⟨b,s,c,e,hc,hs⟩:=h;exact ⟨b,s,c,e,(k.cell (p:=⟨b,0,none⟩) (Ap hc)).trans hc,hs.kept k⟩
def GrK (hs:Nat) (row:List RawI) (u:Value) (w:World):Prop:=IvS w u row∧∀ g,u.ownBlock=some g→hs≤g∧g<w.heap.size
theorem GrK.kept {hs:Nat}{row:List RawI}{u:Value}{w w':World}(h:GrK hs row u w)(k:Kept w w'):GrK hs row u w':=⟨h.1.kept k,fun g hg=>⟨(h.2 g hg).1,Nat.lt_of_lt_of_le (h.2 g hg).2 k.size⟩⟩
theorem GrK.app {hs:Nat}{row:List RawI}{u:Value}{w w':World}{o:Option Nat}(h:GrK hs row u w)(hg:w.grownBy w' o)(hN:∀ g,o=some g→NoL w g)(hlt:∀ g,o=some g→g<hs):GrK hs row u w' :=
 ⟨h.1.apart hg hN (fun g hg' e=>by have:=(h.2 g hg').1;have:=hlt g e;omega),fun g hg'=>⟨(h.2 g hg').1,Nat.lt_of_lt_of_le (h.2 g hg').2 hg.size⟩⟩
def GrO (hs:Nat) (x y z x' y' z':Value) (u:Value) (w:World):Prop:=∃ b,u=.slice (some ⟨b,0,none⟩) 1 1∧hs≤b∧BlkI w b x y z x' y' z'
theorem GrO.kept {hs:Nat}{x y z x' y' z':Value}{u:Value}{w w':World}(h:GrO hs x y z x' y' z' u w)(k:Kept w w'):GrO hs x y z x' y' z' u w':=by
 obtain ⟨b,h1,h2,h3⟩:=h;exact ⟨b,h1,h2,h3.kept k⟩
theorem GrO.app {hs:Nat}{x y z x' y' z':Value}{u:Value}{w w':World}{o:Option Nat}(h:GrO hs x y z x' y' z' u w)(hg:w.grownBy w' o)(hlt:∀ g,o=some g→g<hs):GrO hs x y z x' y' z' u w':=by
 obtain ⟨b,h1,h2,h3⟩:=h;exact ⟨b,h1,h2,(hg.block b (Array.getElem?_eq_some_iff.1 h3).1 (fun e=>by have:=hlt b e.symm;omega)).trans h3⟩
def GrI (B hs:Nat) (v0:Value) (l:List RawI) (u:Value) (w:World):Prop:=∃ xs g,OwnI w B u l xs∧u.ownBlock=some g∧(v0.ownBlock=some g∨hs≤g)
theorem GrI.kept {B hs:Nat}{v0 u:Value}{l:List RawI}{w w':World}(h:GrI B hs v0 l u w)(k:Kept w w'):GrI B hs v0 l u w':=by
 obtain ⟨xs,g,h1,h2,h3⟩:=h;exact ⟨xs,g,h1.kept k,h2,h3⟩
theorem GrI.app {B hs:Nat}{v0 u:Value}{l:List RawI}{w w':World}{o:Option Nat}(h:GrI B hs v0 l u w)(hl:l≠[])(hg:w.grownBy w' o)(hS:∀ g,o=some g→AllC SlC w g):GrI B hs v0 l u w':=by
 obtain ⟨xs,g,h1,h2,h3⟩:=h;exact ⟨xs,g,h1.apartR (fun e=>absurd e hl) hg hS,h2,h3⟩
def GrA (B:Nat) (v17 v18:Value) (l17:List RawI) (l18:List (List RawI)) (xs ys:List Value) (l6 l12 l13 l14:Bool) (w:World):Prop :=
 (l6=false→OwnI w B v17 l17 xs)∧(l14=false→OwnR w B v18 l18 ys)∧(l13=true→l12=true)∧(l14=true→l13=true)
section
variable {B:Nat} {v17 v18:Value} {l17:List RawI} {l18:List (List RawI)} {xs ys:List Value} {l6 l12 l13 l14:Bool} {w w':World}
theorem GrA.kept (k:Kept w w')(h:GrA B v17 v18 l17 l18 xs ys l6 l12 l13 l14 w):GrA B v17 v18 l17 l18 xs ys l6 l12 l13 l14 w':=⟨fun e=>(h.1 e).kept k,fun e=>(h.2.1 e).kept k,h.2.2⟩
theorem GrA.iv (h:GrA B v17 v18 l17 l18 xs ys l6 l12 l13 l14 w)(e:l6=false):OwnI w B v17 l17 xs:=h.1 e
theorem GrA.rw (h:GrA B v17 v18 l17 l18 xs ys l6 l12 l13 l14 w)(e:l14=false):OwnR w B v18 l18 ys:=h.2.1 e
theorem GrA.no14 (h:GrA B v17 v18 l17 l18 xs ys l6 l12 l13 l14 w)(e:l13=false):l14=false:=by
 rcases h.2.2 with ⟨-,h2⟩
 cases l14
 ·rfl
 ·rw [h2 rfl] at e;cases e
theorem GrA.no13 (h:GrA B v17 v18 l17 l18 xs ys l6 l12 l13 l14 w)(e:l12=false):l13=false:=by
 rcases h.2.2 with ⟨h1,-⟩
 cases l13
 ·rfl
 ·rw [h1 rfl] at e;cases e
theorem GrA.at12 (k:Kept w w')(h:GrA B v17 v18 l17 l18 xs ys l6 l12 l13 l14 w):GrA B v17 v18 l17 l18 xs ys l6 true l13 l14 w':=⟨fun e=>(h.1 e).kept k,fun e=>(h.2.1 e).kept k,fun _=>rfl,h.2.2.2⟩
theorem GrA.at13 (k:Kept w w')(h:GrA B v17 v18 l17 l18 xs ys l6 l12 l13 l14 w)(e:l12=true):GrA B v17 v18 l17 l18 xs ys l6 l12 true l14 w':=⟨fun e=>(h.1 e).kept k,fun e=>(h.2.1 e).kept k,fun _=>e,fun _=>rfl⟩
theorem GrA.at6 (h:GrA B v17 v18 l17 l18 xs ys l6 l12 l13 l14 w)(hn:l17=[]→v17=.slice none 0 0)(e:l6=false)(hg:w.grownBy w' v17.ownBlock)(hap:∀ s∈ys,∀ g,s.ownBlock=some g→v17.ownBlock≠some g):GrA B v17 v18 l17 l18 xs ys true l12 l13 l14 w' :=
 ⟨(fun e=>by cases e),fun e'=>(h.2.1 e').apartI hg (h.1 e).blk (fun g hg'=>(h.1 e).notS (fun hl=>by rw [hn hl] at hg';cases hg') hg') hap,h.2.2⟩
theorem GrA.at14 (h:GrA B v17 v18 l17 l18 xs ys l6 l12 l13 l14 w)(hn:l17=[]→v17=.slice none 0 0)(e:l14=false)(e':l13=true)(hg:w.grownBy w' v18.ownBlock):GrA B v17 v18 l17 l18 xs ys l6 l12 l13 true w' :=
 ⟨fun e6=>(h.1 e6).apartR hn hg (h.2.1 e).blk,(fun e=>by cases e),h.2.2.1,fun _=>e'⟩
end
def GrG (B hs:Nat) (l18:List (List RawI)) (ys:List Value) (row:List RawI) (L:Nat→Bool) (u:Nat→Value) (w:World):Prop :=
 (L 6=true→L 12=true→∀ g,(u 12).ownBlock=some g→(u 6).ownBlock≠some g) ∧
 (L 13=true→∃ b,u 13=.slice (some ⟨b,0,none⟩) 1 1∧hs≤b∧w.cell? ⟨b,0,none⟩=some (u 12)∧GrK hs row (u 12) w) ∧
 (L 14=true→OwnR w B (u 14) (l18++[row]) (ys++[u 12])∧∀ g,(u 12).ownBlock=some g→hs≤g)
section
variable {B hs:Nat} {v17 v18:Value} {l17:List RawI} {l18:List (List RawI)} {xs ys:List Value} {row:List RawI} {L:Nat→Bool} {u:Nat→Value} {w w':World}
theorem GrG.zero:GrG B hs l18 ys row (fun _=>false) u w:=⟨(fun e=>by cases e),(fun e=>by cases e),fun e=>by cases e⟩
theorem GrG.keep {i:Nat}{v:Value}(hE:(i==6||i==12||i==13||i==14)=false)(k:Kept w w')(h:GrG B hs l18 ys row L u w):GrG B hs l18 ys row (upd L i true) (upd u i v) w':=by
 simp only [Bool.or_eq_false_iff,beq_eq_false_iff_ne,ne_eq] at hE;obtain ⟨⟨⟨h6,h12⟩,h13⟩,h14⟩:=hE;obtain ⟨g1,g2,g3⟩:=h;have e6:(6:Nat)≠i:=fun e=>h6 e.symm
 have e12:(12:Nat)≠i:=fun e=>h12 e.symm
 have e13:(13:Nat)≠i:=fun e=>h13 e.symm
 have e14:(14:Nat)≠i:=fun e=>h14 e.symm
 unfold GrG;simp only [upd,e6,e12,e13,e14,if_false];refine ⟨g1,fun e=>?_,fun e=>⟨(g3 e).1.kept k,(g3 e).2⟩⟩;obtain ⟨b,q1,q2,q3,q4⟩:=g2 e;exact ⟨b,q1,q2,(k.cell (p:=⟨b,0,none⟩) (Ap q3)).trans q3,q4.kept k⟩
theorem Qk {b j:Nat}{o:Option Nat}{v:Value}(hg:w.grownBy w' o)(hne:o≠some b)(h:w.cell? ⟨b,j,none⟩=some v):w'.cell? ⟨b,j,none⟩=some v:=by
 have:=hg.block b (Ap h) (fun e=>hne e.symm);simp only [World.cell?,this];simpa only [World.cell?] using h
theorem GrG.put6 {v':Value}{g':Nat}(h:GrG B hs l18 ys row L u w)(h12:L 12=true→GrK hs row (u 12) w)(ho:OwnI w B v17 l17 xs)(hn:l17=[]→v17=.slice none 0 0)(hlt:∀ g,v17.ownBlock=some g→g<hs)
 (hap:∀ s∈ys,∀ g,s.ownBlock=some g→v17.ownBlock≠some g) (hg:w.grownBy w' v17.ownBlock) (hv:v'.ownBlock=some g') (hw:v17.ownBlock=some g'∨w.heap.size≤g'):GrG B hs l18 ys row (upd L 6 true) (upd u 6 v') w':=by
 obtain ⟨g1,g2,g3⟩:=h;refine ⟨fun _ e g hgg e'=>?_,fun e=>?_,fun e=>?_⟩
 ·obtain ⟨-,hb⟩:=h12 e;obtain ⟨b1,b2⟩:=hb g hgg;have e2:v'.ownBlock=some g:=e';rw [hv] at e2;injection e2 with e2
  subst e2;rcases hw with hw | hw
  ·have:=hlt _ hw;omega
  ·omega
 ·obtain ⟨b,q1,q2,q3,q4⟩:=g2 e;exact ⟨b,q1,q2,Qk hg (fun e=>by have:=hlt _ e;omega) q3,q4.app hg ho.blk hlt⟩
 ·obtain ⟨q1,q2⟩:=g3 e;refine ⟨q1.apartI hg ho.blk (fun g hg'=>ho.notS (fun hl=>by rw [hn hl] at hg';cases hg') hg') (fun s hs' g hgg e'=>?_),q2⟩;rcases List.mem_append.1 hs' with hs' | hs'
  ·exact hap s hs' g hgg e'
  ·rw [List.mem_singleton.1 hs'] at hgg;have h1:=q2 g hgg;have h2:=hlt g e';omega
theorem GrG.put12 {v':Value}(h13:L 13=false)(h14:L 14=false)(h6:L 6=true→GrI B hs v17 l17 (u 6) w)(hv:∀ g,v'.ownBlock=some g→w.heap.size≤g):GrG B hs l18 ys row (upd L 12 true) (upd u 12 v') w':=by
 refine ⟨fun e _ g hgg e'=>?_,fun e=>absurd (h13.symm.trans e) (by decide),fun e=>absurd (h14.symm.trans e) (by decide)⟩;obtain ⟨xs,g2,q1,q2,-⟩:=h6 e;have:=q1.blt g e';have:=hv g hgg;omega
theorem GrG.put13 {v':Value}{b:Nat}(h:GrG B hs l18 ys row L u w)(h14:L 14=false)(k:Kept w w')(hv:v'=.slice (some ⟨b,0,none⟩) 1 1)(hb:hs≤b)(hc:w'.cell? ⟨b,0,none⟩=some (u 12))(h12:GrK hs row (u 12) w):GrG B hs l18 ys row (upd L 13 true) (upd u 13 v') w':=by
 obtain ⟨g1,g2,g3⟩:=h;exact ⟨g1,fun _=>⟨b,hv,hb,hc,h12.kept k⟩,fun e=>absurd (h14.symm.trans e) (by decide)⟩
theorem GrG.put14 {v':Value}(h:GrG B hs l18 ys row L u w)(h13:L 13=true)(ho:OwnR w B v18 l18 ys)(hlt:∀ g,v18.ownBlock=some g→g<hs)(hg:w.grownBy w' v18.ownBlock)(hv:OwnR w' B v' (l18++[row]) (ys++[u 12])):GrG B hs l18 ys row (upd L 14 true) (upd u 14 v') w':=by
 obtain ⟨g1,g2,g3⟩:=h;refine ⟨g1,fun e=>?_,fun e=>⟨hv,?_⟩⟩
 ·obtain ⟨b,q1,q2,q3,q4⟩:=g2 e;exact ⟨b,q1,q2,Qk hg (fun e=>by have:=hlt _ e;omega) q3,q4.app hg (fun g e=>(ho.blk g e).nol) hlt⟩
 ·obtain ⟨b,q1,q2,q3,q4⟩:=g2 h13;exact fun g hg=>(q4.2 g hg).1
end
theorem OwnR.rowsS {w:World}{B:Nat}{v:Value}{l:List (List RawI)}{xs:List Value}(h:OwnR w B v l xs):RowsS w v l:=h.all
def RetGr (o:Outc (List RawI × List (List RawI))) (w:World) (e:Ending) (w':World):Prop:=Kept w w'∧∃ v1 v2,e=.returned (.tuple #[v1,v2,.int .i64 o.k])∧IvS w' v1 o.v.1∧RowsS w' v2 o.v.2
theorem Na (p nx:Nat)(v:List RawI):∀ (ls:List Ln) (all rows:List (List RawI)) (l:Ln),Dh p nx v all ls=⟨rows,0⟩ →
 Dh p nx v all (ls++[l])=if (Dw p nx v rows l).2=0 then ⟨rows++[(Dw p nx v rows l).1],0⟩ else ⟨[],(Dw p nx v rows l).2⟩
 | [], all, rows, l, h => by
   have:all=rows:=congrArg Outc.v h;subst this;simp only [List.nil_append,Dh]
 | m :: ls, all, rows, l, h => by
   rw [Dh] at h;by_cases hk:(Dw p nx v all m).2=0
   ·rw [if_pos hk] at h;rw [List.cons_append,Dh,if_pos hk];exact Na p nx v ls _ rows l h
   ·rw [if_neg hk] at h;exact absurd (congrArg Outc.k h) hk
theorem S5 (p nx:Nat)(v:List RawI):∀ (ls:List Ln) (all:List (List RawI)) (rest:List Ln),(Dh p nx v all ls).k≠0→Dh p nx v all (ls++rest)=Dh p nx v all ls
 | [],all,rest,h=>absurd rfl h
 | m :: ls, all, rest, h => by
   rw [Dh] at h;rw [List.cons_append,Dh,Dh];by_cases hk:(Dw p nx v all m).2=0
   ·rw [if_pos hk] at h;rw [if_pos hk,if_pos hk];exact S5 p nx v _ _ rest h
   ·rw [if_neg hk,if_neg hk]
theorem Q6 {ov:Iv→Nat→Outc Iv}{e:En}{p:Nat}(he:e.Cl)(hp:1≤p)(P:Ln→Prop)(hP:∀ l out,P l→Cl out→(Cy ov e p out l).v.Ok):∀ (ls:List Ln) (out:List RawI),(∀ l∈ls,P l)→Cl out→(Cz ov e p out ls).k=0 →
 (Cz ov e p out ls).v.length=out.length+ls.length∧Cl (Cz ov e p out ls).v
 | [],out,_,hc,_=>⟨rfl,hc⟩
 | l :: ls, out, hl, hc, h => by
   rw [Cz] at h ⊢;by_cases hk:(Cy ov e p out l).k=0
   ·rw [if_pos hk] at h ⊢;have:=Q6 he hp P hP ls _ (fun m hm=>hl m (by simp [hm])) (hc.snoc (hP l out (hl l (by simp)) hc)) h;refine ⟨by rw [this.1];simp;omega,this.2⟩
   ·rw [if_neg hk] at h;exact absurd h hk
theorem AllR.old {w:World}{ball n ub:Nat}{rows:List (List RawI)}(h:AllR w ball n ub rows){k:Nat}(hk:k<n):∃ A a c,w.cell? ⟨ball,k,none⟩=some (.slice A a c):=by
 obtain ⟨cs,h1,h2,h3,h4⟩:=h;obtain ⟨A,a,c,e⟩:=h3 cs[k] (by simp);exact ⟨A,a,c,Ae h1 _ _ (by rw [Array.getElem?_eq_getElem (by omega),e])⟩
theorem Xl (n:Nat):∀ r∈List.replicate n rzI,r.iv.Ok∧r.iv.raw=r:=by
 intro r hr;obtain ⟨-,rfl⟩:=List.mem_replicate.1 hr;exact ⟨Q4,Mg⟩
def SetJ (b:Nat) (r0 r:List RawI) (l:Bool) (w:World):Prop:=DRow w b (if l then r else r0)
theorem SetJ.kept {b:Nat}{r0 r:List RawI}{l:Bool}{w w':World}(q:Kept w w')(h:SetJ b r0 r l w):SetJ b r0 r l w':=DRow.kept h q
theorem SetJ.first {b:Nat}{r0 r:List RawI}{l:Bool}{w:World}(h:SetJ b r0 r l w)(hl:l=false):DRow w b r0:=by subst hl;exact h
theorem SetJ.last {b:Nat}{r0 r:List RawI}{w:World}(h:DRow w b r):SetJ b r0 r true w:=h
theorem SetJ.done {b:Nat}{r0 r:List RawI}{l:Bool}{w:World}(h:SetJ b r0 r l w)(hl:l=true):DRow w b r:=by subst hl;exact h
theorem Aha {p:Nat}{op:Int}{a b c da db:Iv}(ha:a.Ok)(hb:b.Ok)(hc:c.Ok)(hd:da.Ok)(he:db.Ok)(hp:1≤p)(e:Int):(Jl p op a b c da db e).v.Ok:=by
 unfold Jl;split
 ·exact Ey hd he hp _
 split
 ·exact Ey (Ey hd hb hp _) (Ey ha he hp _) hp _
 split
 ·exact Ey (Ey hd (Ey hc he hp _) hp _) hb hp _
 split
 ·exact Ey (Ey Pf ha hp _) hd hp _
 split
 ·exact Ey hd (Ey Pf hc hp _) hp _
 split
 ·exact Ey hc hd hp _
 ·exact Q4
theorem Tf (p:Nat)(op:Int)(a b c:Iv)(x y:RawI):∀ (l m:List RawI) (e:Int),l.length=m.length →
 Ld p op a b c (l++[x]) (m++[y]) e=((Ld p op a b c l m e).1++[(Jl p op a b c x.iv y.iv (Ld p op a b c l m e).2).v.raw],(Jl p op a b c x.iv y.iv (Ld p op a b c l m e).2).k)
 | [],[],e,_=>rfl
 | [],_::_,_,h=>by simp at h
 | _::_,[],_,h=>by simp at h
 | u :: l, v :: m, e, h => by
   have:=Tf p op a b c x y l m (Jl p op a b c u.iv v.iv e).k (by simpa using h);simp only [List.cons_append,Ld,this]
def GrJ (bd bw:Nat) (p e1 e2:Int) (r0 r1:List RawI) (l1 l2:Bool) (w:World):Prop:=DRow w bd (if l2 then r1 else r0)∧Wk w bw p (if l1 then e2 else e1)
theorem GrJ.kept {bd bw:Nat}{p e1 e2:Int}{r0 r1:List RawI}{l1 l2:Bool}{w w':World}(q:Kept w w')(h:GrJ bd bw p e1 e2 r0 r1 l1 l2 w):GrJ bd bw p e1 e2 r0 r1 l1 l2 w':=⟨DRow.kept h.1 q,Wk.kept h.2 q⟩
theorem GrJ.wk {bd bw:Nat}{p e1 e2:Int}{r0 r1:List RawI}{l1 l2:Bool}{w:World}(h:GrJ bd bw p e1 e2 r0 r1 l1 l2 w)(hl:l1=false):Wk w bw p e1:=by subst hl;exact h.2
theorem GrJ.did {bd bw:Nat}{p e1 e2:Int}{r0 r1:List RawI}{l1 l2:Bool}{w w':World}(hne:bd∉[bw])(h:GrJ bd bw p e1 e2 r0 r1 l1 l2 w)(k:KB w [bw] w')(hw:Wk w' bw p e2):GrJ bd bw p e1 e2 r0 r1 true l2 w':=⟨h.1.kb k hne,hw⟩
theorem GrJ.row {bd bw:Nat}{p e1 e2:Int}{r0 r1:List RawI}{l1 l2:Bool}{w:World}(h:GrJ bd bw p e1 e2 r0 r1 l1 l2 w)(hl:l2=false):DRow w bd r0:=by subst hl;exact h.1
theorem GrJ.laid {bd bw:Nat}{p e1 e2:Int}{r0 r1:List RawI}{l1 l2:Bool}{w w':World}(hne:bw∉[bd])(h:GrJ bd bw p e1 e2 r0 r1 l1 l2 w)(k:KB w [bd] w')(hd:DRow w' bd r1):GrJ bd bw p e1 e2 r0 r1 l1 true w':=⟨hd,k.blk h.2 hne⟩
theorem GrJ.done {bd bw:Nat}{p e1 e2:Int}{r0 r1:List RawI}{l1 l2:Bool}{w:World}(h:GrJ bd bw p e1 e2 r0 r1 l1 l2 w)(h1:l1=true)(h2:l2=true):DRow w bd r1∧Wk w bw p e2:=by subst h1;subst h2;exact h
theorem Aew {l:List RawI}{n j:Nat}(hl:l.length=j)(hj:j<n)(r:RawI):(l++List.replicate (n-j) rzI).set j r=(l++[r])++List.replicate (n-(j+1)) rzI:=by
 subst hl;rw [List.set_append_right _ _ (Nat.le_refl _),Nat.sub_self];obtain ⟨m,hm⟩:∃ m,n-l.length=m+1:=⟨n-l.length-1,by omega⟩;rw [hm,List.replicate_succ,List.set_cons_zero,List.append_assoc,show n-(l.length+1)=m by omega];rfl
theorem Ak7 (w:World)(p:Int):∃ V,V=w.alloc (.cells #[.int .i64 p,.int .i64 0] 69)∧Kept w V∧Wk V w.heap.size p 0∧V.heap.size=w.heap.size+1 :=
 ⟨_,rfl,Ad _ _,heap_alloc_new _ _,by simp⟩
theorem Ye {S:Int→Prop}{ov:Iv→Nat→Outc Iv}{w:World}{vt ve:Value}{ls:List Ln}{outs:List Int}{e:En}{p:Int}(hv:TpR w vt ls outs)(he:EnR w ve e)(hok:Tr ls)(hle:Lf e)(hn:ls.length≤1000000000)
 (hT:Tab w) (hov:∀ l∈ls,l.op=13→OvC ov) (O:Va S) (hS:∀ l∈ls,6≤l.op→l.op≤12→S l.op) (hD:∀ l∈ls,Afp S l.op) (hno:outs.length≤1000000000:=by simp) :
 Calls Tryz.prog 14 #[vt,ve,.int .i64 p] w (RetGr (Ho ov ls outs e p) w):=by
 have LC:=hid (fun w1 (k:Kept w w1)=>Zz (p:=p) (hv.kept k) (he.kept k) hok hle hn hno (hT.kept k) hov O hS);have OPS:=hid O;have DER:=hid hD;clear O hS hD;obtain ⟨s,o,rfl,hls,hou⟩:=hv;obtain ⟨x0,x1,x2,x3,x4,x5,sx,su,sp,rfl,ht,hx,hu,hp⟩:=he;have HLS:=hid hls;have HO:=hid hou;have HX:=hid hx;have OK:=hid hok;have LE:=hid hle;have TT:=hid hT;have OV:=hid hov;have HTT:=hid ht;have HU:=hid hu;have HP:=hid hp;obtain ⟨A,c,rfl,hc,-⟩:=hls;obtain ⟨B,d,rfl,-,-⟩:=hou;obtain ⟨AX,cx,rfl,-,-⟩:=hx;obtain ⟨AU,cu,rfl,-,-⟩:=hu;obtain ⟨AP,cp,rfl,-,-⟩:=hp;obtain ⟨W,hW,kW,hb,hb',lW⟩:=T0 w (.slice A ls.length c) (.slice B outs.length d) x0 x1 x2 x3 x4 x5 (.slice AX e.x.length cx) (.slice AU e.u.length cu) (.slice AP e.p.length cp)
 have HW:=hid hW;have K:=hid kW;have HB:=hid hb;have HB':=hid hb';obtain ⟨c0,c1⟩:=Eb hb;obtain ⟨d0,d1,d2,d3,d4,d5,d6,d7,d8⟩:=Bn hb';clear hok hle hW kW hb hb' hT ht hno;obtain ⟨T,hTI⟩:∃ T,Cg ov ls outs e p=T:=⟨_,rfl⟩;rw [hTI] at LC;obtain ⟨G,hGI⟩:∃ G,Ho ov ls outs e p=G:=⟨_,rfl⟩;rw [hGI];have HTI:=hid hTI;have HGI:=hid hGI;clear hTI hGI hov;generalize hnl:ls.length=n at *;have HN:=hid hnl;clear hnl;go_enter Tryz.func14,Tryz.ntmps14;go_upto_region 1 with fail;rw [←HW.out];go_step3;go_upto_region 1 with fail;go_wp2_with fail;refine (LC.out _ K.out).mono ?_;rintro e' w1 ⟨q,v,rfl,hvs⟩
 have HVS:=hid hvs;obtain ⟨AV,cv,rfl,hcv,-⟩:=hvs;have K1:=hid (K.out.trans q);have HB1:=hid (Bl HB.out q);have HB1':=hid (Bl HB'.out q);clear c0 c1 d0 d1 d2 d3 d4 d5 d6 d7 d8 q HW LC;simp only [];by_cases hk:T.k=0
 ·have gk:(T.k != 0)=false:=by simp [hk]
  have hgood:1≤p∧p≤300∧Iu ls outs e.x.length e.u.length e.p.length=true∧Nd e=true:=by
   have h:=HTI.out;unfold Cg at h;by_cases hg:1≤p∧p≤300∧Iu ls outs e.x.length e.u.length e.p.length=true∧Nd e=true
   ·exact hg
   ·rw [if_neg hg] at h;rw [←h] at hk;cases hk
  obtain ⟨pn,rfl⟩:∃ pn:Nat,p=(pn:Int):=⟨p.toNat,by omega⟩;have hTL:Cz ov e pn [] ls=T:=by
   rw [←HTI.out];unfold Cg;rw [if_pos hgood,Int.toNat_natCast]
  obtain ⟨p1,p2,hmt,hme⟩:=hgood;replace p1:1≤pn:=by omega
  replace p2:pn≤300:=by omega
  unfold Iu at hmt;simp only [Bool.and_eq_true,decide_eq_true_eq,List.all_eq_true] at hmt;obtain ⟨⟨⟨n200,o200⟩,hmls⟩,hoo⟩:=hmt;rw [HN.out] at n200 hoo;unfold Bv at hoo;simp only [Bool.and_eq_true,decide_eq_true_eq] at hoo;have HOO:=hid hoo;have O200:=hid o200;clear hoo o200;have hml:=(Gv _ _ _ ls 0).1 hmls;have ML:=hid hml;unfold Nd at hme;simp only [Bool.and_eq_true] at hme;obtain ⟨⟨⟨me1,me2⟩,me3⟩,me4⟩:=hme;have ECL:e.Cl:=⟨HTT.out.clean me1,HX.out.cl me2,HU.out.cl me3,HP.out.cl me4⟩;have hall:=Q6 (ov:=ov) (p:=pn) ECL p1 (fun l=>l∈ls) (fun l out hl hc=>by
   refine (V7 ECL hc (fun h1=>?_) p1 (fun hn a ha=>?_)).1
   ·obtain ⟨i,hi,he⟩:=List.mem_iff_getElem.1 hl;have hi':ls[i]?=some l:=by rw [List.getElem?_eq_getElem hi,he]
    have hm:=hml i l hi';obtain ⟨op,a,b,kk⟩:=l;simp only at h1;subst h1;rw [Adw] at hm;simp only [Bool.and_eq_true] at hm;obtain ⟨A',c',eA,-,hA⟩:=HLS.out;obtain ⟨bl,ol,-,hd⟩:=hA (by omega);obtain ⟨a0,a1,a2,y0,y1,y2,y3,y4,y5,g0,g1,g2,g3,g4,g5,hI⟩:=hd i _ hi';exact (hI.clean hm.1.1).1
   ·obtain ⟨i,hi,he⟩:=List.mem_iff_getElem.1 hl;have hm:=hml i l (by rw [List.getElem?_eq_getElem hi,he]);have h13:l.op=13:=by
     obtain ⟨op,a,b,kk⟩:=l;simp only at hn ⊢;have:=Adx hm (by omega) (by omega) (by omega) (by omega) (by omega);omega
    exact (OV.out l hl h13).1 a pn ha p1 p2) ls [] (fun l hl=>hl) (by intro a ha;cases ha) (by rw [hTL];exact hk)
  rw [hTL] at hall;obtain ⟨hvl,hvc⟩:=hall;rw [HN.out] at hvl;simp only [List.length_nil,Nat.zero_add] at hvl;have VCL:=hid hvc;have VLN:=hid hvl;clear hmls hml me1 me2 me3 me4 hvc hTL ECL;rw [hvl] at hcv;generalize hsv:T.v.length=nv at *;have HNV:=hid hsv;obtain ⟨wa,hwa,kwa,hwk,lwa⟩:=Ak7 w1 pn;obtain ⟨wb,hmk,kwb,lwb,hall⟩:=Abf wa (n:=n) (by omega);rw [lwa] at hall lwb;have HWA:=hid hwa;have KA:=hid kwa;have KB':=hid kwb;have HWK:=hid (hwk.kept kwb);have HALL:=hid hall;obtain ⟨c0,c1⟩:=Eb (Bl HB1.out kwa);obtain ⟨f0,f1⟩:=Eb (Bl HB1.out (kwa.trans kwb));clear hwa kwa kwb hwk hall hsv
  go_upto_region 4 with fail
  go_wp2_with (rw [←HWA.out])
  go_step3;go_wp2_with fail;clear c0 c1 f0 f1 hmk HWA;have HK:=hid hk;obtain rfl:=hvl;clear hk gk;generalize hbl:w1.heap.size+1=ball at *;generalize hbw:w1.heap.size=bw at *;have HBL:=hid hbl;have HBW:=hid hbw;clear hbl hbw;generalize hnx:e.x.length=nx at *;have HNX:=hid hnx;clear hnx
  go_loopw [41] (fun t wr=>∃ (k:Nat) (rows:List (List RawI)),k≤nv∧t=.int .i64 k∧Dh pn nx T.v [] (ls.take k)=⟨rows,0⟩∧rows.length=k∧(∀ r∈rows,r.length=nx∧Cl r)∧AllR wr ball nv wr.heap.size rows∧Wk wr bw pn 0∧Kept w1 wr) (fun t _=>(nv-intOf t).toNat)
  case atStart=>exact ⟨0,[],Nat.zero_le _,rfl,rfl,rfl,(by intro r hr;cases hr),HALL.out,HWK.out,KA.out.trans KB'.out⟩
  case round =>
   obtain ⟨k,rows,hk,rfl,hrow,hlen,hrl,hall,hwk,hKr⟩:=hrel;have KR:=hid hKr;have HROW:=hid hrow;have HLEN:=hid hlen;have HRL:=hid hrl;have HALR:=hid hall;have HWKR:=hid hwk;clear hKr hrow hlen hrl hall hwk HALL HWK KA KB';by_cases hlt:k<nv
   ·obtain ⟨⟨op,a,b,kk⟩,hl⟩:∃ l,ls[k]?=some l:=⟨_,List.getElem?_eq_getElem (by have:=HN.out;omega)⟩;have hml:=ML.out k _ hl;rw [Nat.zero_add] at hml;obtain ⟨A',c',eA,-,hA⟩:=HLS.out;injection eA with eA1 eA2 eA3
    subst eA1;obtain ⟨bl,ol,rfl,hd⟩:=hA (by have:=HN.out;omega);obtain ⟨a0,a1,a2,y0,y1,y2,y3,y4,y5,g0,g1,g2,g3,g4,g5,hI⟩:=(hd k _ hl).kept (K1.out.trans KR.out);have HI:=hid hI;obtain ⟨A1,l1,q1,A2,l2,q2,ei,-,-⟩:=Aq hI;injection ei with ei;injection ei with ei
    simp only [List.cons.injEq,and_true] at ei;obtain ⟨rfl,rfl,rfl,rfl,rfl,rfl⟩:=ei;obtain ⟨W2,hW2,kW2,HL,lW2⟩:=Ake wr (.int .i64 op) (.int .i64 a) (.int .i64 b) (.bool kk.lo.neg) (.slice A1 l1 q1) (.int .i64 kk.lo.e) (.bool kk.hi.neg) (.slice A2 l2 q2) (.int .i64 kk.hi.e);have HW2:=hid hW2;have K2:=hid kW2;have HLB:=hid HL;have HML:=hid hml;have HLK:=hid hl;clear hI hl hml hW2 kW2 HL hd hA eA2 eA3 HI;simp only [] at a0 a1 a2;generalize kk.lo.neg=z1 at *;generalize kk.lo.e=z2 at *;generalize kk.hi.neg=z3 at *;generalize kk.hi.e=z4 at *;go_upto_region 9 with fail;rw [←HW2.out];clear HW2 a0 a1 a2 g0 g1 g2 g3 g4 g5
    obtain ⟨W3,hmk,kW3,lW3,hD⟩:=Abg W2 (n:=nx) (by have:=LE.out.2.2.2.2.1;have:=HNX.out;omega);have hall3:=(HALR.out.kept K2.out).kept kW3;obtain ⟨Ao,ao,co,hold⟩:=hall3.old hlt;have hfree:=hall3.free k;have hput:=hall3.put (by have:=HLEN.out;omega) (A:=some ⟨W2.heap.size,0,none⟩) (a:=nx) (c:=nx);rw [HLEN.out] at hput;obtain ⟨hall4,kb4,hc4⟩:=hput;have HOLD:=hid hold;generalize hbd:W2.heap.size=bd at *;have HBD:=hid hbd;generalize hb14:wr.heap.size=b14 at *;have HB14:=hid hb14;have nbd:bd∉[ball]:=by have:=HALR.out.lt;simp;omega
    have nb14:b14∉[ball]:=by have:=HALR.out.lt;simp;omega
    have hD4:=hD.kb kb4 nbd;have hL4:=kb4.blk (Bl HLB.out kW3) nb14;have lw1:w1.heap.size≤ball:=by have:=HBL.out;have:=HBW.out;omega
    have hE4:=kb4.blk (Bl HB1'.out (KR.out.trans (K2.out.trans kW3))) (by have:=(Array.getElem?_eq_some_iff.1 HB1'.out).1;simp;omega);have hT4:=kb4.blk (Bl HB1.out (KR.out.trans (K2.out.trans kW3))) (by have:=(Array.getElem?_eq_some_iff.1 HB1.out).1;simp;omega);have hWk4:Wk _ bw pn 0:=kb4.blk ((HWKR.out.kept K2.out).kept kW3) (by have:=HBL.out;simp;omega);have k4:Kept w1 _:=KB.kept (KR.out.trans (K2.out.trans kW3)) kb4 (by intro x hx;simp at hx;omega);obtain ⟨d0,d1,d2,d3,d4,d5,d6,d7,d8⟩:=Bn (Bl HB1'.out (KR.out.trans K2.out));obtain ⟨r0,r1,r2,r3,r4,r5,r6,r7,r8⟩:=Bn hL4
    have HA4:=hid hall4;have HC4:=hid hc4;have HD4:=hid hD4;have HL4:=hid hL4;have HE4:=hid hE4;have HT4:=hid hT4;have HW4:=hid hWk4;have K4:=hid k4;have KB4:=hid kb4;clear hall3 hall4 kb4 hc4 hD hD4 hL4 hE4 hT4 hWk4 k4 hbd hb14 HLB HWKR;go_upto_region 11 with fail;generalize W3.setCell ⟨ball,k,none⟩ (.slice (some ⟨bd,0,none⟩) nx nx)=W4 at *;have hok:=OK.out _ (List.mem_of_getElem? HLK.out);clear hok d0 d1 d2 d3 d4 d5 d6 d7 d8 hold hfree hmk HOLD;have FR:Hid (Fr (.slice (some ⟨bd,0,none⟩) nx nx) (ball+1)):=hid (by
     intro g hg;simp [Value.ownBlock] at hg;subst hg;have:=HALR.out.lt;have:=HBD.out;have:=HB14.out;omega)
    have REND:=hid (fun (r:List RawI) (w9:World) (ub:Nat) (hd:Dw pn nx T.v rows ⟨op,a,b,kk⟩=(r,0)) (hn:r.length=nx) (hc:Cl r) (d:DRow w9 bd r) (h:AllR w9 ball nv ub rows) (hu:ub≤w9.heap.size) (hs:w9.cell? ⟨ball,k,none⟩=some (.slice (some ⟨bd,0,none⟩) nx nx)) =>
     show Dh pn nx T.v [] (ls.take (k+1))=⟨rows++[r],0⟩∧(∀ x∈rows++[r],x.length=nx∧Cl x)∧AllR w9 ball nv w9.heap.size (rows++[r]) by
      have hsn:=Na pn nx T.v (ls.take k) [] rows ⟨op,a,b,kk⟩ HROW.out;rw [hd,if_pos rfl] at hsn;refine ⟨by rw [List.take_add_one,HLK.out];exact hsn,fun x hx=>?_,?_⟩
      ·rcases List.mem_append.1 hx with hx | hx
       ·exact HRL.out x hx
       ·rw [List.mem_singleton.1 hx];exact ⟨hn,hc⟩
      ·have hds:=d.ivS (Nat.le_of_eq hn);rw [hn] at hds;exact (h.mono hu).snoc (by rw [HLEN.out];exact hs) hds FR.out (by intro g hg;simp [Value.ownBlock] at hg;subst hg;exact d.lt))
    by_cases hA:op=1∨op=2∨op=4∨op=5
    ·obtain ⟨r,hr⟩:∃ r,r=List.replicate nx rzI:=⟨_,rfl⟩;have hder:Dw pn nx T.v rows ⟨op,a,b,kk⟩=(r,0):=by unfold Dw;rw [if_pos hA,hr]
     have hrl:r.length=nx:=by rw [hr];simp
     have hrc:Cl r:=by rw [hr];exact Xl nx
     rw [←hr] at HD4;have HDER:=hid hder;have HRLN:=hid hrl;have HRC:=hid hrc;clear hder hrl hrc hr;rcases hA with rfl | rfl | rfl | rfl
     ·
      go_wp2_with fail;go_roundw
      case rel =>
       obtain ⟨e1,e2,e3⟩:=REND.out r _ _ HDER.out HRLN.out HRC.out HD4.out HA4.out (by have:=HD4.out.lt;have:=HBD.out;have:=HB14.out;omega) HC4.out;exact ⟨k+1,rows++[r],by omega,by go_num,e1,by simp [HLEN.out],e2,e3,HW4.out,K4.out⟩
      case measure=>simp only [intOf];omega
     ·
      go_wp2_with fail;go_roundw
      case rel =>
       obtain ⟨e1,e2,e3⟩:=REND.out r _ _ HDER.out HRLN.out HRC.out HD4.out HA4.out (by have:=HD4.out.lt;have:=HBD.out;have:=HB14.out;omega) HC4.out;exact ⟨k+1,rows++[r],by omega,by go_num,e1,by simp [HLEN.out],e2,e3,HW4.out,K4.out⟩
      case measure=>simp only [intOf];omega
     ·
      go_wp2_with fail;go_roundw
      case rel =>
       obtain ⟨e1,e2,e3⟩:=REND.out r _ _ HDER.out HRLN.out HRC.out HD4.out HA4.out (by have:=HD4.out.lt;have:=HBD.out;have:=HB14.out;omega) HC4.out;exact ⟨k+1,rows++[r],by omega,by go_num,e1,by simp [HLEN.out],e2,e3,HW4.out,K4.out⟩
      case measure=>simp only [intOf];omega
     ·
      go_wp2_with fail;go_roundw
      case rel =>
       obtain ⟨e1,e2,e3⟩:=REND.out r _ _ HDER.out HRLN.out HRC.out HD4.out HA4.out (by have:=HD4.out.lt;have:=HBD.out;have:=HB14.out;omega) HC4.out;exact ⟨k+1,rows++[r],by omega,by go_num,e1,by simp [HLEN.out],e2,e3,HW4.out,K4.out⟩
      case measure=>simp only [intOf];omega
    have hTb:=TT.out.kept (K1.out.trans K4.out);have lTT:=TT.out.lt;have lK1:=K1.out.size;have lAll:=HALR.out.lt;have lBD:=HBD.out;have lB14:=HB14.out;have lBL:=HBL.out;have lBW:=HBW.out;have NG:0∉[bd]:=by simp;omega
    have N14:b14∉[bd]:=by simp;omega
    have NALL:ball∉[bd]:=by simp;omega
    have NBW:bw∉[bd]:=by simp;omega
    by_cases h3:op=3
    ·subst h3;obtain ⟨hm1,hm2⟩:=Ah8 HML.out;obtain ⟨ka,rfl⟩:∃ ka:Nat,a=(ka:Int):=⟨a.toNat,by omega⟩;have hka:ka<nx:=by omega
     obtain ⟨r,hr⟩:∃ r,r=(List.replicate nx rzI).set ka (pt d1).raw:=⟨_,rfl⟩;have hder:Dw pn nx T.v rows ⟨3,ka,b,kk⟩=(r,0):=by rw [Af4,Int.toNat_natCast,hr]
     have hrl:r.length=nx:=by rw [hr];simp
     have hrc:Cl r:=by
      intro x hx;rw [hr] at hx;rcases List.mem_or_eq_of_mem_set hx with h | h
      ·exact Xl nx x h
      ·rw [h];exact Acz (Aah Hm)
     have SP:=hid (fun w' (q:KB W4 [bd] w')=>show Calls Tryz.prog 36 #[.int .i64 1] w' (RetI (pt d1).raw w') by
      have:=Xb (n:=1) (w:=w') (by decide) (hTb.kb q NG);rw [Vu] at this;exact this)
     have HDER:=hid hder;have HRLN:=hid hrl;have HRC:=hid hrc;have HR:=hid hr;clear hder hrl hrc hr hm1 hm2 hA;go_upto_region 17 with fail;clear r0 r1 r2 r3 r4 r5 r6 r7 r8
     refine rK 6 (fun i=>i==5) ([bd]) (fun L w=>SetJ bd (List.replicate nx rzI) r (L 5) w) ([(vE (.slice (some ⟨bd,0,none⟩) nx nx)),(vP b14 1),(vE (.int .i64 (ka:Int))),(fun v wv=>IvR wv v ((pt d1).raw)),(vE (.pointer (some ⟨bd,ka*6,none⟩))),(fun v _=>True)])
      (fun i hE L w w' kq fj=>by simp only [Hx hE 5];exact SetJ.kept kq fj) ((by exact HD4.out)) (by exact ⟨
        (kq 15),(kq 14),(kvl 1 64 fun _ k=>Cn HL4.out k N14 1 _ rfl),(kp fun _ aF wF F=>by have FK:=F.frame.1;exact sI (SP.out _ FK) fun _ _ h=>h),(kvv 0 63 2 65),(.inr fun LF aF wF F=>by have FK:=F.frame.1;have fj:=F.frame.2;have s66:=F.p 3 66;have s67:=F.v 4 67;obtain ⟨P1,i1,k1,P2,i2,k2,ee,v1,v2⟩:=Aq s66;simp only [Array.getD_eq_getD_getElem?] at ee;have hdr:=SetJ.first fj F.yet;obtain ⟨_,_,_,_,_,_,n0,n1,n2,n3,n4,n5,-⟩:=hdr.at (i:=ka) (a:=rzI) (by simp [hka]);have m0:=hdr.free (ka*6);have m1:=hdr.free (ka*6+1);have m2:=hdr.free (ka*6+2);have m3:=hdr.free (ka*6+3);have m4:=hdr.free (ka*6+4);have m5:=hdr.free (ka*6+5);have hset:=hdr.set (i:=ka) (by simp [hka]) (show IvR wF (.agg #[_,_,_,_,_,_]) (pt d1).raw from ⟨_,_,_,_,_,_,rfl,v1,v2⟩);exact By (w':=Si wF bd (ka*6) _ _ _ _ _ _) (by simp [Region.wanted]) (by go_simp;rfl) ⟨FK.trans hset.2 (by simp),SetJ.last (by rw [HR.out];exact hset.1)⟩ (Bw _ ⟨vR,vR,vR,.inr (fun u h=>by exact h.kb hset.2),vR,.inl rfl,trivial⟩) trivial),
        trivial⟩) ?_
     intro u wx L1 hL j1 hu;obtain ⟨q,j1⟩:=j1;have p66:=hp hu 3;simp only [Ay,An,if_true,Act.put,zlA,zlB,zlC,zlD,zlE,zlF,zlG,hv hu 0,hv hu 1,hv hu 2,hv hu 4];clear hu;generalize u 3=v66 at *;have hDX:=SetJ.done j1 (hL 5 (by decide));have HDX:=hid hDX;have HAX:=hid (HA4.out.kb q NALL (by intro x hx;simp at hx;subst hx;right;omega));have HCX:=hid (q.cell HC4.out NALL);have HWX:=hid (show Wk wx bw pn 0 from q.blk HW4.out NBW);have KX:=hid (KB.kept K4.out q (by intro x hx;simp at hx;subst hx;omega));clear j1 hL p66 hDX q SP;go_simp;go_wp2_with fail;go_roundw
     case rel =>
      obtain ⟨e1,e2,e3⟩:=REND.out r _ _ HDER.out HRLN.out HRC.out HDX.out HAX.out (by have:=HDX.out.lt;have:=HBD.out;have:=HB14.out;omega) HCX.out;exact ⟨k+1,rows++[r],by omega,by go_num,e1,by simp [HLEN.out],e2,e3,HWX.out,KX.out⟩
     case measure=>simp only [intOf];omega
    have n1:¬op=1:=fun h=>hA (.inl h)
    have n2:¬op=2:=fun h=>hA (.inr (.inl h))
    have n4:¬op=4:=fun h=>hA (.inr (.inr (.inl h)))
    have n5:¬op=5:=fun h=>hA (.inr (.inr (.inr h)))
    obtain ⟨ha1,ha2,hb1,hb2,-,-⟩:=Adx HML.out n1 n2 h3 n4 n5;obtain ⟨ka,rfl⟩:∃ ka:Nat,a=(ka:Int):=⟨a.toNat,by omega⟩;obtain ⟨kb,rfl⟩:∃ kb:Nat,b=(kb:Int):=⟨b.toNat,by omega⟩;have hka:ka<k:=by omega
    have hkb:kb<k:=by omega
    have hkan:ka<nv:=by omega
    have hkbn:kb<nv:=by omega
    obtain ⟨da,hda⟩:∃ r,rows[ka]?=some r:=⟨_,List.getElem?_eq_getElem (by have:=HLEN.out;omega)⟩;obtain ⟨db,hdb⟩:∃ r,rows[kb]?=some r:=⟨_,List.getElem?_eq_getElem (by have:=HLEN.out;omega)⟩;obtain ⟨sa,hsa,isa,fsa,lsa⟩:=HA4.out.at hda;obtain ⟨sb,hsb,isb,fsb,lsb⟩:=HA4.out.at hdb;obtain ⟨lda,cda⟩:=HRL.out da (List.mem_of_getElem? hda);obtain ⟨ldb,cdb⟩:=HRL.out db (List.mem_of_getElem? hdb);have hder:Dw pn nx T.v rows ⟨op,ka,kb,kk⟩=Ld pn op (atI T.v ka) (atI T.v kb) (atI T.v k) da db 0:=by
     unfold Dw;simp only [if_neg hA,if_neg h3,Int.toNat_natCast,HLEN.out];rw [List.getD_eq_getElem?_getD,List.getD_eq_getElem?_getD,hda,hdb];rfl
    have HDER:=hid hder;have t1:(op==1)=false:=by simp [n1]
    have t2:(op==2)=false:=by simp [n2]
    have t3:(op==3)=false:=by simp [h3]
    have t4:(op==4)=false:=by simp [n4]
    have t5:(op==5)=false:=by simp [n5]
    have ISA:=hid isa;have ISB:=hid isb;have FSA:=hid (And.intro fsa lsa);have FSB:=hid (And.intro fsb lsb);obtain ⟨Aa,ca,rfl,-,-⟩:=isa;obtain ⟨Ab,cb,rfl,-,-⟩:=isb;rw [lda] at hsa ISA FSA;rw [ldb] at hsb ISB FSB;obtain ⟨bV,oV,ea,rfl,-,hea,hata⟩:=HVS.out.at (show ka<T.v.length by have:=HNV.out;omega);obtain ⟨bV',oV',eb,eqv,-,heb,hatb⟩:=HVS.out.at (show kb<T.v.length by have:=HNV.out;omega);injection eqv with eqv
    injection eqv with q1 q2
    subst q1;subst q2;obtain ⟨bV',oV',ec,eqv,-,hec,hatc⟩:=HVS.out.at (show k<T.v.length by have:=HNV.out;omega);injection eqv with eqv
    injection eqv with q1 q2
    subst q1;subst q2;have at1:atI T.v ka=ea.iv:=by unfold atI;rw [Int.toNat_natCast,List.getD_eq_getElem?_getD,hea,Option.getD_some]
    have at2:atI T.v kb=eb.iv:=by unfold atI;rw [Int.toNat_natCast,List.getD_eq_getElem?_getD,heb,Option.getD_some]
    have at3:atI T.v k=ec.iv:=by unfold atI;rw [Int.toNat_natCast,List.getD_eq_getElem?_getD,hec,Option.getD_some]
    rw [at1,at2,at3] at HDER;obtain ⟨oka,rwa'⟩:=VCL.out ea (List.mem_of_getElem? hea);obtain ⟨okb,rwb'⟩:=VCL.out eb (List.mem_of_getElem? heb);obtain ⟨okc,rwc'⟩:=VCL.out ec (List.mem_of_getElem? hec);obtain ⟨p0,p1',p2',p3,p4,p5,s0,s1,s2,s3,s4,s5,hIa⟩:=hata.kept K4.out;obtain ⟨p0',p1'',p2'',p3',p4',p5',s0',s1',s2',s3',s4',s5',hIb⟩:=hatb.kept K4.out;obtain ⟨v0,v1,v2,v3,v4,v5,u0',u1',u2',u3',u4',u5',hIc⟩:=hatc.kept K4.out;obtain ⟨m0,-,-,-,-,-,lbV0,-⟩:=hata;have lbV:bV<w1.heap.size:=Ap lbV0;have CA:=hid (show Cells6 W4 bV (oV+ka*6) p0 p1' p2' p3 p4 p5 from ⟨s0,s1,s2,s3,s4,s5⟩);have CB:=hid (show Cells6 W4 bV (oV+kb*6) p0' p1'' p2'' p3' p4' p5' from ⟨s0',s1',s2',s3',s4',s5'⟩)
    have CCC:=hid (show Cells6 W4 bV (oV+k*6) v0 v1 v2 v3 v4 v5 from ⟨u0',u1',u2',u3',u4',u5'⟩);have IA:=hid (show IvC W4 _ ea.iv from hIa.ivC rwa');have IB:=hid (show IvC W4 _ eb.iv from hIb.ivC rwb');have IC:=hid (show IvC W4 _ ec.iv from hIc.ivC rwc');have HSA:=hid hsa;have HSB:=hid hsb;have NB14:b14∉[bd,bw]:=by simp;omega
    have NBALL:ball∉[bd,bw]:=by simp;omega
    have NBV:bV∉[bd,bw]:=by simp;omega
    have NG2:0∉[bd,bw]:=by simp;omega
    have NDW:bd∉[bw]:=by simp;omega
    clear hatb hatc s0 s1 s2 s3 s4 s5 s0' s1' s2' s3' s4' s5' u0' u1' u2' u3' u4' u5' hIa hIb hIc hea heb hec at1 at2 at3 hsa hsb hder rwa' rwb' rwc' fsa lsa fsb lsb ha1 ha2 hb1 hb2 n1 n2 h3 n4 n5 hA HML lbV0;go_upto_region 18 with fail;go_wp2_with fail;clear r0 r1 r2 r3 r4 r5 r6 r7 r8 t1 t2 t3 t4 t5;have hnxb:nx≤1000000000:=by have:=LE.out;have:=HNX.out;unfold Lf at *;omega
    go_loopw [70] (fun t wx=>∃ (j:Nat) (l:List RawI) (e':Int),j≤nx∧t=.int .i64 j∧Ld pn op ea.iv eb.iv ec.iv (da.take j) (db.take j) 0=(l,e')∧l.length=j∧Cl l∧DRow wx bd (l++List.replicate (nx-j) rzI)∧Wk wx bw pn e'∧KB W4 [bd,bw] wx) (fun t _=>(nx-intOf t).toNat)
    case atStart=>exact ⟨0,[],0,Nat.zero_le _,rfl,rfl,rfl,(by intro x hx;cases hx),(by simpa using HD4.out),HW4.out,KB.refl _ _⟩
    case round =>
     obtain ⟨j,l,ej,hj,rfl,hrg,hlj,hcl,hdj,hwj,hkx⟩:=hrel;have HRG:=hid hrg;have HLJ:=hid hlj;have HCLJ:=hid hcl;have HDJ:=hid hdj;have HWJ:=hid hwj;have KX:=hid hkx;clear hrg hlj hcl hdj hwj hkx;by_cases hjn:j<nx
     ·have hXX:∀ x∈[bd,bw],x<ball+1∨b14≤x:=by intro x hx;simp at hx;omega
      obtain ⟨bA,oA,x,rfl,-,hx,hatx⟩:=(ISA.out.kb2 KX.out FSA.out.1 FSA.out.2 hXX).at (show j<da.length by omega);obtain ⟨bB,oB,y,rfl,-,hy,haty⟩:=(ISB.out.kb2 KX.out FSB.out.1 FSB.out.2 hXX).at (show j<db.length by omega);have hfa:=FSA.out.1 bA rfl;have hla:=FSA.out.2 bA rfl;have hfb:=FSB.out.1 bB rfl;have hlb:=FSB.out.2 bB rfl;have NA:bA∉[bd,bw]:=by simp;omega
      have NB:bB∉[bd,bw]:=by simp;omega
      obtain ⟨i0,i1,i2,i3,i4,i5,s0,s1,s2,s3,s4,s5,hIx⟩:=hatx;obtain ⟨j0,j1',j2,j3,j4,j5,s0',s1',s2',s3',s4',s5',hIy⟩:=haty;have CX:=hid (show Cells6 _ bA (oA+j*6) i0 i1 i2 i3 i4 i5 from ⟨s0,s1,s2,s3,s4,s5⟩);have CY:=hid (show Cells6 _ bB (oB+j*6) j0 j1' j2 j3 j4 j5 from ⟨s0',s1',s2',s3',s4',s5'⟩);obtain ⟨okx,rwx⟩:=cda x (List.mem_of_getElem? hx);obtain ⟨oky,rwy⟩:=cdb y (List.mem_of_getElem? hy);have IX:=hid (hIx.ivC rwx);have IY:=hid (hIy.ivC rwy);obtain ⟨o1,ho1⟩:∃ o,o=Jl pn op ea.iv eb.iv ec.iv x.iv y.iv ej:=⟨_,rfl⟩;have hok1:o1.v.Ok:=by rw [ho1];exact Aha oka okb okc okx oky p1 _
      have HO1:=hid ho1;have HOK1:=hid hok1;have OKS:=hid (And.intro oka (And.intro okb (And.intro okc (And.intro okx oky))));have CAx:=hid (CA.out.kb KX.out NBV);have CBx:=hid (CB.out.kb KX.out NBV);have CCx:=hid (CCC.out.kb KX.out NBV);have IAx:=hid (IA.out.kb KX.out);have IBx:=hid (IB.out.kb KX.out);have ICx:=hid (IC.out.kb KX.out);have HSAx:=hid (KX.out.cell HSA.out NBALL);have HSBx:=hid (KX.out.cell HSB.out NBALL);have HL4x:=hid (KX.out.blk HL4.out NB14);have HTx:=hid (hTb.kb KX.out NG2);have HX1:=hid hx;have HY1:=hid hy;clear s0 s1 s2 s3 s4 s5 s0' s1' s2' s3' s4' s5' hIx hIy rwx rwy ho1 hok1 okx oky hx hy hfa hla hfb hlb
      have HATJ:Hid ((l++List.replicate (nx-j) rzI)[j]?=some rzI):=hid (by rw [List.getElem?_append_right (by have:=HLJ.out;omega),HLJ.out,Nat.sub_self,List.getElem?_replicate,if_pos (by omega)]);have HLTJ:Hid (j<(l++List.replicate (nx-j) rzI).length):=hid (by have:=HLJ.out;rw [List.length_append,List.length_replicate];omega);go_upto_region 21 with fail
      refine rK 38 (fun i=>i==35||i==37) ([bd,bw]) (fun L w=>GrJ bd bw pn ej o1.k (l++List.replicate (nx-j) rzI) ((l++List.replicate (nx-j) rzI).set j o1.v.raw) (L 35) (L 37) w) ([(vE (.slice (some ⟨bd,0,none⟩) nx nx)),(vE (.int .i64 (j:Int))),(vP bw 0),(vP b14 0),(vE (.int .i64 op)),(vE (.slice (some ⟨bV,oV,none⟩) nv cv)),(vP b14 1),(vE (.int .i64 (ka:Int))),(vE (.pointer (some ⟨bV,oV+ka*6,none⟩))),(vE (.agg #[p0,p1',p2',p3,p4,p5])),(vE (.slice (some ⟨bV,oV,none⟩) nv cv)),(vP b14 2),(vE (.int .i64 (kb:Int))),(vE (.pointer (some ⟨bV,oV+kb*6,none⟩))),(vE (.agg #[p0',p1'',p2'',p3',p4',p5'])),(vE (.slice (some ⟨bV,oV,none⟩) nv cv)),(vE (.int .i64 (k:Int))),(vE (.pointer (some ⟨bV,oV+k*6,none⟩))),(vE (.agg #[v0,v1,v2,v3,v4,v5])),(vE (.slice (some ⟨ball,0,none⟩) nv nv)),(vP b14 1),(vE (.int .i64 (ka:Int))),(vE (.pointer (some ⟨ball,ka,none⟩))),(vE (.slice (some ⟨bA,oA,none⟩) nx ca)),(vE (.int .i64 (j:Int))),(vE (.pointer (some ⟨bA,oA+j*6,none⟩))),(vE (.agg #[i0,i1,i2,i3,i4,i5])),(vE (.slice (some ⟨ball,0,none⟩) nv nv)),(vP b14 2),(vE (.int .i64 (kb:Int))),(vE (.pointer (some ⟨ball,kb,none⟩))),(vE (.slice (some ⟨bB,oB,none⟩) nx cb)),(vE (.int .i64 (j:Int))),(vE (.pointer (some ⟨bB,oB+j*6,none⟩))),(vE (.agg #[j0,j1',j2,j3,j4,j5])),(fun v wv=>IvR wv v o1.v.raw),(vE (.pointer (some ⟨bd,j*6,none⟩))),(fun v _=>True)])
       (fun i hE L w w' kq fj=>by simp only [Hx hE 35,Hx hE 37];exact GrJ.kept kq fj) ((by exact ⟨HDJ.out,HWJ.out⟩)) (by exact ⟨
         (kq 15),(kq 16),(kq 11),(kq 14),(kvl 3 76 fun _ k=>Cn HL4x.out k NB14 0 _ rfl),(kq 9),(kq 14),(kvl 6 79 fun _ k=>Cn HL4x.out k NB14 1 _ rfl),(kvv 5 78 7 80),(kp fun _ aF wF F=>by have FK:=F.frame.1;have s81:=F.v 8 81;exact sw (by (obtain ⟨n0,n1,n2,n3,n4,n5⟩:=CAx.out.kb FK NBV;go_simp)) rfl),(kq 9),(kq 14),(kvl 11 84 fun _ k=>Cn HL4x.out k NB14 2 _ rfl),(kvv 10 83 12 85),(kp fun _ aF wF F=>by have FK:=F.frame.1;have s86:=F.v 13 86;exact sw (by (obtain ⟨n0,n1,n2,n3,n4,n5⟩:=CBx.out.kb FK NBV;go_simp)) rfl),(kq 9),(kq 13),(kvv 15 88 16 89),(kp fun _ aF wF F=>by have FK:=F.frame.1;have s90:=F.v 17 90;exact sw (by (obtain ⟨n0,n1,n2,n3,n4,n5⟩:=CCx.out.kb FK NBV;go_simp)) rfl),(kq 12),(kq 14),(kvl 20 93 fun _ k=>Cn HL4x.out k NB14 1 _ rfl),(kvv 19 92 21 94),(kp fun _ aF wF F=>by have FK:=F.frame.1;have s95:=F.v 22 95;exact sw (by (have n0:=FK.cell HSAx.out NBALL;go_simp)) rfl),(kq 16),(kvv 23 96 24 97),(kp fun _ aF wF F=>by have FK:=F.frame.1;have s98:=F.v 25 98;exact sw (by (obtain ⟨n0,n1,n2,n3,n4,n5⟩:=CX.out.kb FK NA;go_simp)) rfl),(kq 12),(kq 14),(kvl 28 101 fun _ k=>Cn HL4x.out k NB14 2 _ rfl),(kvv 27 100 29 102),(kp fun _ aF wF F=>by have FK:=F.frame.1;have s103:=F.v 30 103;exact sw (by (have n0:=FK.cell HSBx.out NBALL;go_simp)) rfl),(kq 16),(kvv 31 104 32 105),(kp fun _ aF wF F=>by have FK:=F.frame.1;have s106:=F.v 33 106;exact sw (by (obtain ⟨n0,n1,n2,n3,n4,n5⟩:=CY.out.kb FK NB;go_simp)) rfl),(.inr fun LF aF wF F=>by have FK:=F.frame.1;have fj:=F.frame.2;have s75:=F.v 2 75;have s77:=F.v 4 77;have s82:=F.v 9 82;have s87:=F.v 14 87;have s91:=F.v 18 91;have s99:=F.v 26 99;have s107:=F.v 34 107;have fw:=GrJ.wk fj F.yet;have DD:=Akw (op:=op) fw (IAx.out.kb FK) (IBx.out.kb FK) (ICx.out.kb FK) (IX.out.kb FK) (IY.out.kb FK) OKS.out.1 OKS.out.2.1 OKS.out.2.2.1 OKS.out.2.2.2.1 OKS.out.2.2.2.2 (HTx.out.kb FK NG2) p1 (by omega) OPS.out (DER.out _ (List.mem_of_getElem? HLK.out));rw [←HO1.out] at DD;exact Es (by simp [Region.wanted]) (by go_simp) DD (fun e1 w1' he=>by obtain ⟨kb',hwk,u,rfl,hv⟩:=he;exact ⟨u,rfl,⟨⟨FK.trans kb' (by simp),GrJ.did NDW fj kb' hwk⟩,(Bw _ ⟨vR,vR,vR,vR,vR,vR,vR,vR,vR,vR,vR,vR,vR,vR,vR,vR,vR,vR,vR,vR,vR,vR,vR,vR,vR,vR,vR,vR,vR,vR,vR,vR,vR,vR,vR,.inl rfl,vR,.inr fun u h=>h,trivial⟩)⟩,hv⟩)),(kvv 0 73 1 74),(.inr fun LF aF wF F=>by have FK:=F.frame.1;have fj:=F.frame.2;have s108:=F.p 35 108;have s109:=F.v 36 109;obtain ⟨P1,t1,k1,P2,t2,k2,ee,v1',v2'⟩:=Aq s108;simp only [Array.getD_eq_getD_getElem?] at ee;have hdr:=GrJ.row fj F.yet;obtain ⟨_,_,_,_,_,_,n0,n1,n2,n3,n4,n5,-⟩:=hdr.at HATJ.out;have m0:=hdr.free (j*6);have m1:=hdr.free (j*6+1);have m2:=hdr.free (j*6+2);have m3:=hdr.free (j*6+3);have m4:=hdr.free (j*6+4);have m5:=hdr.free (j*6+5);have hset:=hdr.set HLTJ.out (show IvR wF (.agg #[_,_,_,_,_,_]) o1.v.raw from ⟨_,_,_,_,_,_,rfl,v1',v2'⟩);exact By (w':=Si wF bd (j*6) _ _ _ _ _ _) (by simp [Region.wanted]) (by go_simp;rfl) ⟨FK.trans hset.2 (by simp),GrJ.laid NBW fj hset.2 hset.1⟩ (Bw _ ⟨vR,vR,vR,vR,vR,vR,vR,vR,vR,vR,vR,vR,vR,vR,vR,vR,vR,vR,vR,vR,vR,vR,vR,vR,vR,vR,vR,vR,vR,vR,vR,vR,vR,vR,vR,.inr (fun u h=>by exact h.kb hset.2),vR,.inl rfl,trivial⟩) trivial),
         trivial⟩) ?_
      intro u wy L1 hL j1 hu;obtain ⟨q,j1⟩:=j1;have p108:=hp hu 35;simp only [Ay,An,if_true,Act.put,zlA,zlB,zlC,zlD,zlE,zlF,zlG,hv hu 0,hv hu 1,hv hu 2,hv hu 3,hv hu 4,hv hu 5,hv hu 6,hv hu 7,hv hu 8,hv hu 9,hv hu 10,hv hu 11,hv hu 12,hv hu 13,hv hu 14,hv hu 15,hv hu 16,hv hu 17,hv hu 18,hv hu 19,hv hu 20,hv hu 21,hv hu 22,hv hu 23,hv hu 24,hv hu 25,hv hu 26,hv hu 27,hv hu 28,hv hu 29,hv hu 30,hv hu 31,hv hu 32,hv hu 33,hv hu 34,hv hu 36];clear hu;generalize u 35=v108 at *;obtain ⟨hDX,hWX⟩:=GrJ.done j1 (hL 35 (by decide)) (hL 37 (by decide));rw [Aew HLJ.out hjn] at hDX;have HDX:=hid hDX
      have HWX:=hid hWX;have KY:=hid (KX.out.trans q (fun y hy=>.inl hy));clear j1 hL p108 hDX hWX q;go_simp;go_wp2_with fail;go_roundw
      case rel =>
       refine ⟨j+1,l++[o1.v.raw],o1.k,by omega,by go_num,?_,by simp [HLJ.out],HCLJ.out.snoc HOK1.out,HDX.out,HWX.out,KY.out⟩;rw [List.take_add_one,List.take_add_one,HX1.out,HY1.out];have hs:=Tf pn op ea.iv eb.iv ec.iv x y (da.take j) (db.take j) 0 (by rw [List.length_take,List.length_take,lda,ldb]);rw [HRG.out] at hs;simp only at hs;rw [←HO1.out] at hs;exact hs
      case measure=>simp only [intOf];omega
     ·obtain rfl:nx=j:=by omega
      have hfull:Ld pn op ea.iv eb.iv ec.iv da db 0=(l,ej):=by
       have:=HRG.out;rwa [List.take_of_length_le (by omega),List.take_of_length_le (by omega)] at this
      have hdl:=HDJ.out;rw [Nat.sub_self,List.replicate_zero,List.append_nil] at hdl;have HDX:=hid hdl;have HFULL:=hid (HDER.out.trans hfull);obtain ⟨w0,w1'⟩:=Eb HWJ.out;have hXX:∀ x∈[bd,bw],x<ball+1∨b14≤x:=by intro x hx;simp at hx;omega
      clear hfull hdl;by_cases hej:ej=0
      ·subst hej;obtain ⟨r,hr⟩:∃ r,r=l:=⟨_,rfl⟩;subst hr;have HDER':=HDER;clear HDER;have HDER:Hid (Dw pn nx T.v rows ⟨op,ka,kb,kk⟩=(r,0)):=HFULL;have HRLN:=HLJ;have HRC:=HCLJ;have HAX:=hid (HA4.out.kb KX.out NBALL hXX);have HCX:=hid (KX.out.cell HC4.out NBALL);have KXX:=hid (KB.kept K4.out KX.out (by intro x hx;simp at hx;omega));go_wp2_with fail;go_roundw
       case rel =>
        obtain ⟨e1,e2,e3⟩:=REND.out r _ _ HDER.out HRLN.out HRC.out HDX.out HAX.out (by have:=HDX.out.lt;have:=HBD.out;have:=HB14.out;omega) HCX.out;exact ⟨k+1,rows++[r],by omega,by go_num,e1,by simp [HLEN.out],e2,e3,HWJ.out,KXX.out⟩
       case measure=>simp only [intOf];omega
      ·have gej:(ej != 0)=true:=by simp [hej]
       have e1:G=⟨([],[]),ej⟩:=by
        have hsn:=Na pn nx T.v (ls.take k) [] rows ⟨op,ka,kb,kk⟩ HROW.out;rw [HFULL.out,if_neg hej] at hsn;have hall:Dh pn nx T.v [] ls=⟨[],ej⟩:=by
         conv=>lhs;rw [←List.take_append_drop (k+1) ls]
         rw [List.take_add_one,HLK.out]
         show Dh pn nx T.v [] (ls.take k++[⟨op,ka,kb,kk⟩]++_)=_
         rw [S5 pn nx T.v _ _ _ (by rw [hsn];exact hej),hsn]
        rw [←HGI.out];unfold Ho;rw [HTI.out,if_neg (by rw [HK.out];decide),Int.toNat_natCast,HNX.out,hall,if_pos hej]
       have KXX:=hid (KB.kept K4.out KX.out (by intro x hx;simp at hx;omega));go_wp2_with fail;go_region;go_wp2_with fail
       go_ret3
       subst e1;exact ⟨(K1.out.trans KXX.out).drew,_,_,rfl,Fy _,Tg _⟩
   ·obtain rfl:nv=k:=by omega
    have hfull:Dh pn nx T.v [] ls=⟨rows,0⟩:=by
     have:=HROW.out;rwa [List.take_of_length_le (by have:=HN.out;omega)] at this
    have e1:G=⟨(outs.map fun n=>T.v.getD n.toNat rzI,outs.map fun n=>rows.getD n.toNat []),0⟩:=by
     rw [←HGI.out];unfold Ho;rw [HTI.out,if_neg (by rw [HK.out];decide),Int.toNat_natCast,HNX.out,hfull,if_neg (by simp)]
    have HE1:=hid e1;obtain ⟨t0,t1⟩:=Eb (Bl HB1.out KR.out);clear hfull e1;generalize hmo:outs.length=mo at *;have HMO:=hid hmo;have hmo2:mo≤200:=by have:=O200.out;omega
    clear hmo;obtain ⟨BB,hBB⟩:∃ BB,BB=wr.heap.size:=⟨_,rfl⟩;have HBB:=hid hBB;clear hBB;go_upto_region 29 with fail;clear t0 t1;obtain ⟨V1,hV1⟩:∃ V1,V1=wr:=⟨wr,rfl⟩;subst hV1
    go_loopw [17,18,124] (fun v17 v18 ti wz=>∃ (i:Nat) (xs ys:List Value),i≤mo∧ti=.int .i64 (i:Int)∧OwnI wz BB v17 ((outs.take i).map fun n=>T.v.getD n.toNat rzI) xs∧(i=0→v17=.slice none 0 0) ∧
     OwnR wz BB v18 ((outs.take i).map fun n=>rows.getD n.toNat []) ys∧(∀ s∈ys,∀ g,s.ownBlock=some g→v17.ownBlock≠some g∧g<wz.heap.size)∧Kept V1 wz) (fun _ _ ti _=>(mo-intOf ti).toNat)
    case atStart=>exact ⟨0,[],[],Nat.zero_le _,rfl,OwnI.nil _ _,fun _=>rfl,OwnR.nil _ _,(by intro s hs;cases hs),Below.refl _ _⟩
    case round =>
     obtain ⟨i,xs,ys,hi,rfl,hoi,hnil,hor,hap,hkz⟩:=hrel;have HOI:=hid hoi;have HOR:=hid hor;have HNIL:=hid hnil;have HAP:=hid hap;have KZ:=hid hkz;clear hoi hor hnil hap hkz;by_cases hin:i<mo
     ·obtain ⟨z,hz⟩:∃ z,outs[i]?=some z:=⟨_,List.getElem?_eq_getElem (by have:=HMO.out;omega)⟩;obtain ⟨z0,z1⟩:=HOO.out z (List.mem_of_getElem? hz);obtain ⟨ko,rfl⟩:∃ ko:Nat,z=(ko:Int):=⟨z.toNat,by omega⟩;have hko:ko<nv:=by have:=HN.out;omega
      obtain ⟨row,hrw⟩:∃ r,rows[ko]?=some r:=⟨_,List.getElem?_eq_getElem (by have:=HLEN.out;omega)⟩;obtain ⟨sr,hsr,isr,fsr,lsr⟩:=HALR.out.at hrw;obtain ⟨hrn,-⟩:=HRL.out row (List.mem_of_getElem? hrw);obtain ⟨bV,oV,ea,rfl,-,hea,hata⟩:=HVS.out.at (show ko<T.v.length by have:=HNV.out;omega);obtain ⟨p0,p1',p2',p3,p4,p5,s0,s1,s2,s3,s4,s5,hIa⟩:=hata.kept (KR.out.trans KZ.out);have CA:=hid (show Cells6 wr bV (oV+ko*6) p0 p1' p2' p3 p4 p5 from ⟨s0,s1,s2,s3,s4,s5⟩);have IA:=hid hIa;have hBZ:=HBB.out;have hVB:bV<V1.heap.size:=by obtain ⟨_,_,_,_,_,_,a0,-⟩:=hata.kept KR.out;exact Ap a0
      have HSR:=hid ((KZ.out.cell (p:=⟨ball,ko,none⟩) (Ap hsr)).trans hsr);have ISR:=hid (isr.kept KZ.out);have LSR:=hid lsr;have HRN:=hid (show row.length≤1000000000 by have:=LE.out.2.2.2.2.1;have:=HNX.out;omega);have B17:=hid (fun g hg=>HOI.out.base g hg);have B18:=hid (fun g hg=>HOR.out.base g hg);have L17:=hid (fun g hg=>HOI.out.blt g hg);have L18:=hid (fun g hg=>HOR.out.blt g hg);have NX:∀ g,g<BB→g∉Ec u17++Ec u18:=by
       intro g hg hm;rcases List.mem_append.1 hm with hm | hm
       ·have:=B17.out g (Jw.1 hm);omega
       ·have:=B18.out g (Jw.1 hm);omega
      have NBALL:ball∉Ec u17++Ec u18:=NX _ (by have h9:ball<V1.heap.size:=Ap hsr;omega);have NBV:bV∉Ec u17++Ec u18:=NX _ (by omega);have NSR:Xm sr (Ec u17++Ec u18):=fun g hg=>NX g (by have:=LSR.out g hg;omega)
      have NS:=hid NSR;have SZ:=hid (show BB≤wr.heap.size by have:=KZ.out.size;omega);have AP:=hid (fun s hs g hg=>(HAP.out s hs g hg).1);have EA:=hid (show T.v.getD (ko:Int).toNat rzI=ea by rw [Int.toNat_natCast,List.getD_eq_getElem?_getD,hea];rfl);have ER:=hid (show rows.getD (ko:Int).toNat []=row by rw [Int.toNat_natCast,List.getD_eq_getElem?_getD,hrw];rfl);have HZ:=hid (show outs.take (i+1)=outs.take i++[(ko:Int)] by rw [List.take_add_one,hz];rfl);obtain ⟨l17,h17⟩:∃ l,l=(outs.take i).map fun n=>T.v.getD n.toNat rzI:=⟨_,rfl⟩
      obtain ⟨l18,h18⟩:∃ l,l=(outs.take i).map fun n=>rows.getD n.toNat []:=⟨_,rfl⟩
      rw [←h17] at HOI;rw [←h18] at HOR;have L9:=hid (show l17.length≤1000∧l18.length≤1000 by rw [h17,h18,List.length_map,List.length_map,List.length_take];have:=O200.out;have:=HMO.out;omega);have LN17:=hid (show l17=[]→u17=.slice none 0 0 from fun h=>HNIL.out (by
       rw [h17] at h;have h2:=congrArg List.length h;rw [List.length_map,List.length_take] at h2;have:=HMO.out;simp only [List.length_nil] at h2;omega))
      have H17:=hid h17;have H18:=hid h18;obtain ⟨B',d',ed,-,hB⟩:=(HO.out.kept (K1.out.trans (KR.out.trans KZ.out)));injection ed with ed1 ed2 ed3
      subst ed1;obtain ⟨bo,oo',rfl,ho⟩:=hB (by have:=HMO.out;omega);have ho0:=ho i _ hz;clear hrw hea hata s0 s1 s2 s3 s4 s5 hIa hsr isr fsr lsr hrn ho hB ed2 ed3 z0 z1 hz h17 h18 NX hVB hBZ NSR;go_upto_region 31 with fail;clear ho0
      refine Ux (m:=15) (E:=fun i=>i==6||i==12||i==13||i==14) (G:=fun L u w'=>GrG BB wr.heap.size l18 ys row L u w') (J:=fun L w=>KB wr (Ec u17++Ec u18) w∧(fun L w=>GrA BB u17 u18 l17 l18 xs ys (L 6) (L 12) (L 13) (L 14) w) L w) (l:=[(vE u17),(vE (.slice (some ⟨bV,oV,none⟩) nv cv)),(vE (.int .i64 (ko:Int))),(vE (.pointer (some ⟨bV,oV+ko*6,none⟩))),(vE (.agg #[p0,p1',p2',p3,p4,p5])),(fun v wv=>GrO wr.heap.size p0 p1' p2' p3 p4 p5 v wv),(fun v wv=>GrI BB wr.heap.size u17 (l17++[ea]) v wv),(vE u18),(vE (.slice (some ⟨ball,0,none⟩) nv nv)),(vE (.int .i64 (ko:Int))),(vE (.pointer (some ⟨ball,ko,none⟩))),(vE sr),(fun v wv=>GrK wr.heap.size row v wv),(fun v _=>True),(fun v _=>True)])
       (by kernel_rfl) (fun i hE L u v w w' k h=>by exact GrG.keep hE k h) (by exact GrG.zero) rfl rfl rfl rfl rfl (by kernel_rfl) (by kernel_rfl) (by kernel_rfl) (by kernel_rfl) (by kernel_rfl) ⟨mE,mE,mE,mE,mE,fun v w w' k h=>h.kept k,fun v w w' k h=>h.kept k,mE,mE,mE,mE,mE,fun v w w' k h=>h.kept k,fun v w w' k h=>by first | exact h | exact h.kept k | exact ⟨h.1,h.2.kept k⟩,fun v w w' k h=>by first | exact h | exact h.kept k | exact ⟨h.1,h.2.kept k⟩,trivial⟩ ⟨(KB.refl _ _).drew,(by exact ⟨fun _=>HOI.out.kept (Below.refl _ _).drew,fun _=>HOR.out.kept (Below.refl _ _).drew,(fun e=>by cases e),(fun e=>by cases e)⟩)⟩ (⟨
         (.inl ⟨rfl,fun LF aF wF F=>by
       have FK:KB wr (Ec u17++Ec u18) wF:=F.frame.1;have fj:=F.frame.2;refine ⟨fun wq kq=>⟨FK.step kq,by exact GrA.kept kq fj⟩,?_⟩;have s17:=F.q 17 u17
       exact sv rfl⟩),
        (.inl ⟨rfl,fun LF aF wF F=>by
       have FK:KB wr (Ec u17++Ec u18) wF:=F.frame.1;have fj:=F.frame.2;refine ⟨fun wq kq=>⟨FK.step kq,by exact GrA.kept kq fj⟩,?_⟩;have s9:=F.q 9 (.slice (some ⟨bV,oV,none⟩) nv cv)
       exact sv rfl⟩),
        (.inl ⟨rfl,fun LF aF wF F=>by
       have FK:KB wr (Ec u17++Ec u18) wF:=F.frame.1;have fj:=F.frame.2;refine ⟨fun wq kq=>⟨FK.step kq,by exact GrA.kept kq fj⟩,?_⟩;have s20:=F.q 20 (.int .i64 (ko:Int))
       exact sv rfl⟩),
        (.inl ⟨rfl,fun LF aF wF F=>by
       have FK:KB wr (Ec u17++Ec u18) wF:=F.frame.1;have fj:=F.frame.2;refine ⟨fun wq kq=>⟨FK.step kq,by exact GrA.kept kq fj⟩,?_⟩;have s129:=F.v 1 129;have s130:=F.v 2 130
       exact sv rfl⟩),
        (.inl ⟨rfl,fun LF aF wF F=>by
       have FK:KB wr (Ec u17++Ec u18) wF:=F.frame.1;have fj:=F.frame.2;refine ⟨fun wq kq=>⟨FK.step kq,by exact GrA.kept kq fj⟩,?_⟩;have s131:=F.v 3 131
       exact Ar (by simp [Region.wanted]) (by (obtain ⟨n0,n1,n2,n3,n4,n5⟩:=CA.out.kb FK NBV;go_simp)) rfl⟩),
        (.inl ⟨rfl,fun LF aF wF F=>by
       have FK:KB wr (Ec u17++Ec u18) wF:=F.frame.1;have fj:=F.frame.2;refine ⟨fun wq kq=>⟨FK.step kq,by exact GrA.kept kq fj⟩,?_⟩;have s132:=F.v 4 132;simp only [Array.getD_eq_getD_getElem?] at s132
       exact sNa ⟨_,rfl,FK.size,Et _ _ _ _ _ _ _⟩⟩),
        (.inr fun LF uF aF wF F FV=>by
       have FK:KB wr (Ec u17++Ec u18) wF:=F.frame.1;have fj:=F.frame.2;have s128:=F.v 0 128;have s133:=F.p 5 133
       obtain ⟨b3,e3,-,hb3⟩:=s133;have how:=GrA.iv fj F.yet;obtain ⟨v',w',g',hrr,hoo,hgg,-,hob,hwh,-⟩:=Afy 31 how LN17.out L9.out.1 (Nat.le_trans SZ.out FK.size) hb3 (IA.out.kb FK);exact G5 (by simp [Region.wanted]) (Lk (.tmp 128) (.tmp 133) _ rfl s128 e3 hrr) ⟨FK.grown hgg (fun g hg=>.inl (List.mem_append_left _ (Jw.2 hg))) how.blk,GrA.at6 fj LN17.out F.yet hgg AP.out⟩ (Bw _ ⟨.inr vS,.inr vS,.inr vS,.inr vS,.inr vS,.inr (fun u h=>by first | exact h.app hgg L17.out | exact h.app hgg how.blk L17.out),.inl rfl,.inr vS,.inr vS,.inr vS,.inr vS,.inr vS,.inr (fun u h=>by first | exact h.app hgg L17.out | exact h.app hgg how.blk L17.out),.inr (fun u h=>h),.inr (fun u h=>h),trivial⟩) ⟨_,g',hoo,hob,hwh.imp id (fun h=>Nat.le_trans FK.size h)⟩ (GrG.put6 FV.g (fun h12=>FV.is 12 (by decide) h12) how LN17.out L17.out AP.out hgg hob hwh)),
        (.inl ⟨rfl,fun LF aF wF F=>by
       have FK:KB wr (Ec u17++Ec u18) wF:=F.frame.1;have fj:=F.frame.2;refine ⟨fun wq kq=>⟨FK.step kq,by exact GrA.kept kq fj⟩,?_⟩;have s18:=F.q 18 u18
       exact sv rfl⟩),
        (.inl ⟨rfl,fun LF aF wF F=>by
       have FK:KB wr (Ec u17++Ec u18) wF:=F.frame.1;have fj:=F.frame.2;refine ⟨fun wq kq=>⟨FK.step kq,by exact GrA.kept kq fj⟩,?_⟩;have s12:=F.q 12 (.slice (some ⟨ball,0,none⟩) nv nv)
       exact sv rfl⟩),
        (.inl ⟨rfl,fun LF aF wF F=>by
       have FK:KB wr (Ec u17++Ec u18) wF:=F.frame.1;have fj:=F.frame.2;refine ⟨fun wq kq=>⟨FK.step kq,by exact GrA.kept kq fj⟩,?_⟩;have s20:=F.q 20 (.int .i64 (ko:Int))
       exact sv rfl⟩),
        (.inl ⟨rfl,fun LF aF wF F=>by
       have FK:KB wr (Ec u17++Ec u18) wF:=F.frame.1;have fj:=F.frame.2;refine ⟨fun wq kq=>⟨FK.step kq,by exact GrA.kept kq fj⟩,?_⟩;have s136:=F.v 8 136;have s137:=F.v 9 137
       exact sv rfl⟩),
        (.inl ⟨rfl,fun LF aF wF F=>by
       have FK:KB wr (Ec u17++Ec u18) wF:=F.frame.1;have fj:=F.frame.2;refine ⟨fun wq kq=>⟨FK.step kq,by exact GrA.kept kq fj⟩,?_⟩;have s138:=F.v 10 138
       exact Ar (by simp [Region.wanted]) (by (have n0:=FK.cell HSR.out NBALL;go_simp)) rfl⟩),
        (.inr fun LF uF aF wF F FV=>by
       have FK:KB wr (Ec u17++Ec u18) wF:=F.frame.1;have fj:=F.frame.2;have s139:=F.v 11 139
       obtain ⟨v',w',hr,hk,hv,hf⟩:=Ac4 wF (ISR.out.kb FK NS.out) HRN.out 31;exact G5 (by simp [Region.wanted]) (Lk _ _ _ rfl rfl s139 hr) ⟨FK.step hk,GrA.at12 hk fj⟩ (Bw _ ⟨.inr vS,.inr vS,.inr vS,.inr vS,.inr vS,.inr (fun u h=>by exact h.kept hk),.inr (fun u h=>by exact h.kept hk),.inr vS,.inr vS,.inr vS,.inr vS,.inr vS,.inl rfl,.inr (fun u h=>h),.inr (fun u h=>h),trivial⟩) ⟨hv,fun g hg=>⟨Nat.le_trans FK.size (hf g hg).1,(hf g hg).2⟩⟩ (GrG.put12 (v17:=u17) (l17:=l17++[ea]) (GrA.no13 fj F.yet) (GrA.no14 fj (GrA.no13 fj F.yet)) (fun h6=>FV.is 6 (by decide) h6) (fun g hg=>(hf g hg).1))),
        (.inr fun LF uF aF wF F FV=>by
       have FK:KB wr (Ec u17++Ec u18) wF:=F.frame.1;have fj:=F.frame.2;have s140:=F.p 12 140
       obtain ⟨A9,c9,e9,-,-⟩:=s140.1;have e7:=(FV.eq 12 140 (by kernel_rfl) rfl).symm.trans e9;have h9:=s140;simp only [Array.getD_eq_getD_getElem?] at e9;exact G5 (by simp [Region.wanted]) (by first | (go_simp;done) | (go_simp;rfl)) ⟨FK.step (Ad _ _),GrA.at13 (Ad _ _) fj (F.wait 12 (by kernel_rfl))⟩ (Bw _ ⟨.inr vS,.inr vS,.inr vS,.inr vS,.inr vS,.inr (fun u h=>by exact h.kept (Ad _ _)),.inr (fun u h=>by exact h.kept (Ad _ _)),.inr vS,.inr vS,.inr vS,.inr vS,.inr vS,.inr (fun u h=>by exact h.kept (Ad _ _)),.inl rfl,.inr (fun u h=>h),trivial⟩) trivial (GrG.put13 FV.g (GrA.no14 fj F.yet) (Ad _ _) rfl FK.size ((Ae (heap_alloc_new _ _) 0 _ rfl).trans (congrArg some e7.symm)) (FV.is 12 (by decide) (F.wait 12 (by kernel_rfl))))),
        (.inr fun LF uF aF wF F FV=>by
       have FK:KB wr (Ec u17++Ec u18) wF:=F.frame.1;have fj:=F.frame.2;have s135:=F.v 7 135;have s141:=F.p 13 141
       obtain ⟨b',e',hb',hc',hk'⟩:=FV.g.2.1 (F.wait 13 (by kernel_rfl));have e9:=(FV.eq 13 141 (by kernel_rfl) rfl).trans e';have how:=GrA.rw fj F.yet;obtain ⟨v',w',g',hrr,hoo,hgg,-⟩:=Ain 38 how L9.out.2 (Nat.le_trans SZ.out FK.size) hc' hk'.1;exact G5 (by simp [Region.wanted]) (Lk (.tmp 135) (.tmp 141) _ rfl s135 e9 hrr) ⟨FK.grown hgg (fun g hg=>.inl (List.mem_append_right _ (Jw.2 hg))) (fun g e=>(how.blk g e).nol),GrA.at14 fj LN17.out F.yet (F.wait 13 (by kernel_rfl)) hgg⟩ (Bw _ ⟨.inr vS,.inr vS,.inr vS,.inr vS,.inr vS,.inr (fun u h=>by first | exact h.app hgg L18.out | exact h.app hgg (fun g e=>(how.blk g e).nol) L18.out | exact h.app (by simp) hgg how.blk),.inr (fun u h=>by first | exact h.app hgg L18.out | exact h.app hgg (fun g e=>(how.blk g e).nol) L18.out | exact h.app (by simp) hgg how.blk),.inr vS,.inr vS,.inr vS,.inr vS,.inr vS,.inr (fun u h=>by first | exact h.app hgg L18.out | exact h.app hgg (fun g e=>(how.blk g e).nol) L18.out | exact h.app (by simp) hgg how.blk),.inr (fun u h=>h),.inl rfl,trivial⟩) trivial (GrG.put14 FV.g (F.wait 13 (by kernel_rfl)) how L18.out hgg hoo)),
        trivial⟩) ?_
      intro u wy L1 hL j1 hu hg;obtain ⟨hg1,hg2,hg3⟩:=hg;obtain ⟨q,j1⟩:=j1;have p133:=hp hu 5;have p134:=hp hu 6;have p140:=hp hu 12;have p141:=hp hu 13;have p142:=hp hu 14;simp only [Ay,An,if_true,Act.put,zlA,zlB,zlC,zlD,zlE,zlF,zlG,hv hu 0,hv hu 1,hv hu 2,hv hu 3,hv hu 4,hv hu 7,hv hu 8,hv hu 9,hv hu 10,hv hu 11];clear hu;generalize u 5=v133,u 6=v134,u 12=v140,u 13=v141,u 14=v142 at *;have g1:=hg1 (hL 6 (by decide)) (hL 12 (by decide));obtain ⟨g3,-⟩:=hg3 (hL 14 (by decide));obtain ⟨xs',g',o1,o2,o3⟩:=(show GrI BB wr.heap.size u17 (l17++[ea]) v134 wy from p134);obtain ⟨-,k2⟩:=(show GrK wr.heap.size row v140 wy from p140)
      have ap':∀ s∈ys++[v140],∀ g,s.ownBlock=some g→v134.ownBlock≠some g∧g<wy.heap.size:=by
       intro s hs g hgg;rcases List.mem_append.1 hs with hs | hs
       ·obtain ⟨a1,a2⟩:=HAP.out s hs g hgg;refine ⟨fun e=>?_,Nat.lt_of_lt_of_le a2 q.size⟩;rw [o2] at e;injection e with e
        subst e;rcases o3 with o3 | o3
        ·exact a1 o3
        ·omega
       ·rw [List.mem_singleton.1 hs] at hgg;exact ⟨g1 g hgg,(k2 g hgg).2⟩
      have kf:Kept V1 wy:=KB.kept KZ.out q (fun x hx=>by
       rw [←HBB.out];rcases List.mem_append.1 hx with hx | hx
       ·exact B17.out x (Jw.1 hx)
       ·exact B18.out x (Jw.1 hx))
      have FIN:=hid (And.intro o1 (And.intro g3 (And.intro ap' kf)));clear g1 g3 o1 o2 o3 k2 ap' kf hg1 hg2 hg3 hL j1 q p133 p134 p140 p141 p142;go_simp;rename_i hKK;refine hKK _ _ ?_;go_wp2_with fail;go_roundw
      case rel =>
       obtain ⟨o1,g3,ap',kf⟩:=FIN.out;refine ⟨i+1,xs',ys++[v140],by omega,by go_num,?_,fun h=>absurd h (by omega),?_,ap',kf⟩
       ·rw [HZ.out,List.map_append,←H17.out,List.map_singleton,EA.out];exact o1
       ·rw [HZ.out,List.map_append,←H18.out,List.map_singleton,ER.out];exact g3
      case measure=>simp only [intOf];omega
     ·obtain rfl:mo=i:=by omega
      have e1:=HE1.out;have h1:=HOI.out.ivS;have h2:=HOR.out.rowsS;rw [List.take_of_length_le (by have:=HMO.out;omega)] at h1 h2;have FIN:=hid (And.intro e1 (And.intro h1 h2));clear e1 h1 h2 HOI HOR HE1 HAP;go_wp2_with fail
      go_ret3
      obtain ⟨e1,h1,h2⟩:=FIN.out;subst e1;exact ⟨(K1.out.trans KR.out).trans KZ.out,_,_,rfl,h1,h2⟩
 ·have gk:(T.k != 0)=true:=by simp [hk]
  have e1:G=⟨([],[]),T.k⟩:=by
   rw [←HGI.out];unfold Ho;rw [HTI.out,if_pos hk]
  go_wp2_with fail
  go_ret3
  subst e1;exact ⟨K1.out,_,_,rfl,Fy _,Tg _⟩
end Go.Proofs.YtabjjdicffcolaaGreatDoor
