/- Words and contracts, part 23. -/
import Derived.Test.YtabjjdicffcolaaGreatDoorClaimSholdp21
import Derived.Deep.Upon
set_option maxRecDepth 100000
set_option maxHeartbeats 0
namespace Go.Proofs.YtabjjdicffcolaaGreatDoor
end Go.Proofs.YtabjjdicffcolaaGreatDoor
namespace Go.Proofs.YtabjjdicffcolaaGreatDoor
open Go.RowKit
variable {l r row:List RawI} {B hs:Nat} {o:Option Nat} {u v v0 x x' y y' z z':Value} {w w':World}
section
variable {P:Program} {ops:Array Oper} {Q:Exit→Act→World→Prop} {md:Region.Mode}
def Ld (P:Program) (ops:Array Oper) (Q:Exit→Act→World→Prop) (J:(Nat→Bool)→World→Prop) (V:Nat→Value→World→Prop) (G:(Nat→Bool)→(Nat→Value)→World→Prop) (L:Nat→Bool) (u:Nat→Value) (i:Nat) (o:Oper) (a:Act) (w:World):Prop :=
 if Region.wanted o (yielded ops a.tmps)=true then o.wp P a w (fun a' w'=>∃ v,a'=a.put o.dst v∧(J (upd L i true) w'∧∀ j,j≠i→∀ u,V j u w→V j u w')∧V i v w'∧G (upd L i true) (upd u i v) w') Q
  else J (upd L i true) w∧V i undef w∧G (upd L i true) (upd u i undef) w
theorem Ib {J:(Nat→Bool)→World→Prop}{V:Nat→Value→World→Prop}{G:(Nat→Bool)→(Nat→Value)→World→Prop}{L:Nat→Bool}{u:Nat→Value}{i:Nat}{o:Oper}{a:Act}{w w':World}{v:Value}(hw:Region.wanted o (yielded ops a.tmps)=true)
 (h:(execOp a.eval o).run P w=.ok (.value v) w') (hJ:J (upd L i true) w') (hV:∀ j,j≠i→∀ u,V j u w→V j u w') (hv:V i v w') (hG:G (upd L i true) (upd u i v) w'):Ld P ops Q J V G L u i o a w:=by
 unfold Ld;rw [if_pos hw];unfold Oper.wp;rw [h];exact ⟨v,rfl,⟨hJ,hV⟩,hv,hG⟩
theorem Pu {J:(Nat→Bool)→World→Prop}{V:Nat→Value→World→Prop}{G:(Nat→Bool)→(Nat→Value)→World→Prop}{L:Nat→Bool}{u:Nat→Value}{i:Nat}{o:Oper}{a:Act}{w w':World}(hw:Region.wanted o (yielded ops a.tmps)=true)
 (h:(execOp a.eval o).run P w=.ok .skip w') (hJ:J (upd L i true) w') (hV:∀ j,j≠i→∀ u,V j u w→V j u w') (hv:V i undef w') (hG:G (upd L i true) (upd u i undef) w'):Ld P ops Q J V G L u i o a w:=by
 unfold Ld;rw [if_pos hw];unfold Oper.wp;rw [h];exact ⟨undef,rfl,⟨hJ,hV⟩,hv,hG⟩
structure Aes (md:Region.Mode) (ops:Array Oper) (m:Nat) (V:Nat→Value→World→Prop) (G:(Nat→Bool)→(Nat→Value)→World→Prop) (L:Nat→Bool) (u:Nat→Value) (i:Nat) (a:Act) (w:World):Prop where
 eq:∀ j t,Bi md ops i j=true→Al ops j=some t→a.tmps.getD t undef=u j
 is:∀ j,j<m→L j=true→V j (u j) w
 g:G L u w
def Vn (P:Program) (md:Region.Mode) (ops:Array Oper) (Q:Exit→Act→World→Prop) (m:Nat) (J:(Nat→Bool)→World→Prop) (V:Nat→Value→World→Prop) (E:Nat→Bool) (G:(Nat→Bool)→(Nat→Value)→World→Prop) (a0:Act):Nat→Nat→List Oper→Prop
 | _,0,_=>True
 | _,_+1,[]=>True
 | i,k+1,o::l=>((E i=false∧∀ L a w,FindsG md ops m J V a0 L i a w→(∀ w',Kept w w'→J (upd L i true) w')∧Bf P ops Q V i o a w)∨(∀ L u a w,FindsG md ops m J V a0 L i a w→Aes md ops m V G L u i a w→Ld P ops Q J V G L u i o a w))∧Vn P md ops Q m J V E G a0 (i+1) k l
theorem Qr {m:Nat}{J:(Nat→Bool)→World→Prop}{V:Nat→Value→World→Prop}{E:Nat→Bool}{G:(Nat→Bool)→(Nat→Value)→World→Prop}{a0:Act}(hV:∀ j u w w',Kept w w'→V j u w→V j u w')
 (hG:∀ i,E i=false→∀ L u v w w',Kept w w'→G L u w→G (upd L i true) (upd u i v) w'):∀ (k i0:Nat) (l:List Oper),Vn P md ops Q m J V E G a0 i0 k l →
 ∀ i o,i<k→l[i]?=some o→∀ L u a w,FindsG md ops m J V a0 L (i0+i) a w→Aes md ops m V G L u (i0+i) a w→Ld P ops Q J V G L u (i0+i) o a w
 | 0,_,_,_,_,_,hi,_=>absurd hi (Nat.not_lt_zero _)
 | k+1,_,[],_,_,_,_,ho=>by simp at ho
 | k + 1, i0, x :: l, h, 0, o, _, ho => by
   simp at ho;subst ho;intro L u a w F F';rcases h.1 with ⟨h1,h3⟩ | h3
   ·obtain ⟨q1,q2⟩:=h3 L a w F;have q:=Tp hV q1 q2;unfold Bf at q2;unfold Ld;by_cases hw:Region.wanted x (yielded ops a.tmps)=true
    ·rw [if_pos hw] at q2 ⊢;refine Oper.wp_mono (fun a' w' qq=>?_) q2;obtain ⟨v,rfl,k,hv⟩:=qq;exact ⟨v,rfl,⟨q1 w' k,fun j _ u hu=>hV j u _ _ k hu⟩,hv,hG _ h1 L u v w w' k F'.g⟩
    ·rw [if_neg hw] at q2 ⊢;exact ⟨q1 w (Below.refl _ _),q2,hG _ h1 L u undef w w (Below.refl _ _) F'.g⟩
   ·exact h3 L u a w F F'
 | k + 1, i0, x :: l, h, i + 1, o, hi, ho => by
   have:=Qr hV hG k (i0+1) l h.2 i o (by omega) (by simpa using ho);have e:i0+1+i=i0+(i+1):=by omega
   rw [e] at this;exact this
theorem Y4 {id m:Nat}{E:Nat→Bool}{G:(Nat→Bool)→(Nat→Value)→World→Prop}{J:(Nat→Bool)→World→Prop}{l:List (Value→World→Prop)}{a0:Act}{W:World}(hm:P.follows .mixedOrders=true)
 (hG:∀ i,E i=false→∀ L u v w w',Kept w w'→G L u w→G (upd L i true) (upd u i v) w') (hG0:G (fun _=>false) (fun _=>undef) W.drew)
 (hsz:m=ops.size) (hap:Bs ops m=true) (hin:Cw ops m a0.tmps.size=true) (hbk:Dr .any ops=true) (hM:Jm l)
 (hJ:J (fun _=>false) W.drew) (hstep:Vn P .any ops Q m J (VL l) E G a0 0 m ops.toList)
 (hend:∀ u w L,(∀ i,i<m→L i=true)→J L w→(∀ i,i<m→VL l i (u i) w)→G L u w→Q .normal (Ax ops (fun _=>true) u m a0) w) :
 (Code.region id ops true).wp P Q a0 W:=by
 refine My (m:=m) (J:=fun L u w=>J L w∧(∀ j,j<m→L j=true→VL l j (u j) w)∧G L u w) hm hsz hap hin hbk ⟨hJ,fun j _ h=>by (cases h),hG0⟩ (fun i o hi ho L u a w F=>?_) (fun u w L hL hk=>hend u w L hL hk.1 (fun i hi=>hk.2.1 i hi (hL i hi)) hk.2.2);obtain ⟨f1,f2,f3⟩:=F.frame;have GG:FindsG .any ops m J (VL l) a0 L i a w:=⟨f1,F.yet,F.wait,F.defers,fun j t h1 h2=>by rw [F.done j t h1 h2];exact f2 j (F.lt j (F.wait j h1)) (F.wait j h1),F.old⟩;have h:=Qr (Io l hM) hG m 0 ops.toList hstep i o hi (by simpa using ho) L u a w (by simpa using GG) ⟨by simpa using F.done,f2,f3⟩;rw [Nat.zero_add] at h
 unfold Ld at h;unfold Mb;have up:∀ (v:Value) (w':World),(∀ j,j≠i→∀ u,VL l j u w→VL l j u w')→VL l i v w'→∀ j,j<m→upd L i true j=true→VL l j (upd u i v j) w':=by
  intro v w' hs hv j hj hL;by_cases e:j=i
  ·subst e;simpa [upd] using hv
  ·have:L j=true:=by simpa [upd,e] using hL
   have:=hs j e _ (f2 j hj this);simpa [upd,e] using this
 by_cases hw:Region.wanted o (yielded ops a.tmps)=true
 ·rw [if_pos hw] at h ⊢;refine Oper.wp_mono (fun a' w' q=>?_) h;obtain ⟨v,rfl,⟨k1,k2⟩,hv,hg⟩:=q;exact ⟨v,rfl,k1,up v w' k2 hv,hg⟩
 ·rw [if_neg hw] at h ⊢;obtain ⟨k1,k2,hg⟩:=h;exact ⟨k1,up undef w (fun j _ u h=>h) k2,hg⟩
end
def RowsS (w:World) (v:Value) (rows:List (List RawI)):Prop:=∃ A c,v=.slice A rows.length c∧rows.length≤c∧(0<rows.length→∃ b off,A=some ⟨b,off,none⟩∧∀ (i:Nat) (r:List RawI),rows[i]?=some r→∃ s:Value,w.cell? ⟨b,off+i,none⟩=some s∧IvS w s r)
theorem U8 (w:World):RowsS w (.slice none 0 0) []:=⟨none,0,rfl,Nat.le_refl _,fun h=>absurd h (by simp)⟩
theorem RowsS.kept {rows:List (List RawI)}(h:RowsS w v rows)(k:Kept w w'):RowsS w' v rows:=by
 obtain ⟨A,c,e,hc,h⟩:=h;refine ⟨A,c,e,hc,fun h0=>?_⟩;obtain ⟨b,off,e2,hb⟩:=h h0;refine ⟨b,off,e2,fun i r hi=>?_⟩;obtain ⟨s,h1,h2⟩:=hb i r hi;exact ⟨s,(k.cell (p:=⟨b,off+i,none⟩) (Am h1)).trans h1,h2.kept k⟩
theorem Mm {P:Program}{o:Oper}{a:Act}(s x:Operand)(t:TypeId){vs vx v':Value}
 (ho:o.op=.call { callee:=.builtin .append,args:=#[s,x],argTypes:=#[t,t] }) (hs:a.eval s=vs) (hx:a.eval x=vx)
 (hr:(Builtin.append_ #[t,t] o.type #[vs,vx]).run P w=.ok v' w'):(execOp a.eval o).run P w=.ok (.value v') w':=by
 unfold execOp;simp only [ho,resolve,invoke,builtin,Sem.run_bind,Sem.run_pure,Result.andThen_ok,List.map_toArray,List.map_cons,List.map_nil,hs,hx,hr]
theorem Ra (w:World)(o:Obj):Kept w (w.drew.alloc o):=(Below.refl _ _).drew.alloc (Nat.le_refl _) _
theorem Afb (w:World)(h:IvS w v r)(hn:r.length≤1000000000)(ty:TypeId) :
 ∃ v' w',(Builtin.append_ #[31,31] ty #[.slice none 0 0,v]).run Tryz.prog w=.ok v' w'∧Kept w w'∧IvS w' v' r∧∀ g,v'.ownBlock=some g→w.heap.size≤g∧g<w'.heap.size:=by
 obtain ⟨i0,hi,hz0,hz1,hz2⟩:=info_parts X6;obtain ⟨A,c,rfl,hc,h⟩:=h;by_cases h0:0<r.length
 ·obtain ⟨b,off,rfl,hat⟩:=h h0;have ad:∀ j,(⟨b,off,none⟩:Addr).add j=⟨b,off+j,none⟩:=by intro j;unfold Addr.add;split<;>simp_all
  have hex:∀ j,j<r.length*6→∃ u,w.cell? ⟨b,off+j,none⟩=some u:=by
   intro j hj;obtain ⟨x,y,z,x',y',z',a0,a1,a2,a3,a4,a5,-⟩:=hat (j/6) r[j/6] (List.getElem?_eq_getElem (by omega));have hm:j%6=0∨j%6=1∨j%6=2∨j%6=3∨j%6=4∨j%6=5:=by omega
   rcases hm with q | q | q | q | q | q
   ·exact ⟨x,by rw [show off+j=off+j/6*6 by omega];exact a0⟩
   ·exact ⟨y,by rw [show off+j=off+j/6*6+1 by omega];exact a1⟩
   ·exact ⟨z,by rw [show off+j=off+j/6*6+2 by omega];exact a2⟩
   ·exact ⟨x',by rw [show off+j=off+j/6*6+3 by omega];exact a3⟩
   ·exact ⟨y',by rw [show off+j=off+j/6*6+4 by omega];exact a4⟩
   ·exact ⟨z',by rw [show off+j=off+j/6*6+5 by omega];exact a5⟩
  obtain ⟨news,hN⟩:∃ news,news=(List.range (r.length*6)).map fun j=>(w.cell? ⟨b,off+j,none⟩).getD undef:=⟨_,rfl⟩
  have hl:news.length=r.length*6:=by rw [hN];simp
  have hnews:∀ j,j<r.length*6→news[j]?=w.cell? ⟨b,off+j,none⟩:=by
   intro j hj;obtain ⟨u,hu⟩:=hex j hj;rw [hN,List.getElem?_map,List.getElem?_range hj,hu];simp [hu]
  have hr:=run_append_nil (P:=Tryz.prog) w 31 ty 30 i0 _ Tryz.underlying31 hi hz0 ⟨b,off,none⟩ r.length c news (by rw [hl,hz1])
   (fun j u hu=>by
     have hj:j<r.length*6:=by rw [←hl];exact (List.getElem?_eq_some_iff.1 hu).1
     rw [ad,←hnews j hj];exact hu) h0 (by omega) (by rw [hz2];omega)
  have hK:=Ra w (.cells (news.toArray++Builtin.zeroCells (Value.agg #[.bool false,.slice none 0 0,.int .i64 0,.bool false,.slice none 0 0,.int .i64 0]).cells (grownCap w r.length 0 30-r.length)) 30);refine ⟨_,_,hr,hK,⟨_,_,rfl,grownCap_ge _ _ _ _,fun _=>⟨w.heap.size,0,rfl,fun i a ha=>?_⟩⟩,fun g hg=>by
   obtain rfl:w.heap.size=g:=Option.some.inj hg;exact ⟨Nat.le_refl _,by simp⟩⟩
  have hlt:i<r.length:=(List.getElem?_eq_some_iff.1 ha).1;obtain ⟨x,y,z,x',y',z',a0,a1,a2,a3,a4,a5,hI⟩:=hat i a ha;have hcell:∀ q u,q<6→w.cell? ⟨b,off+i*6+q,none⟩=some u→(w.drew.alloc (.cells (news.toArray++Builtin.zeroCells (Value.agg #[.bool false,.slice none 0 0,.int .i64 0,.bool false,.slice none 0 0,.int .i64 0]).cells (grownCap w r.length 0 30-r.length)) 30)).cell? ⟨w.heap.size,0+i*6+q,none⟩=some u:=by
   intro q u hq hu;generalize grownCap w r.length 0 30-r.length=gc;refine Ae (heap_alloc_new w.drew _) _ _ ?_;rw [Array.getElem?_append_left (by rw [List.size_toArray,hl];omega),List.getElem?_toArray,hnews _ (by omega),←hu]
   congr 2
   omega
  exact ⟨x,y,z,x',y',z',hcell 0 _ (by decide) a0,hcell 1 _ (by decide) a1,hcell 2 _ (by decide) a2,hcell 3 _ (by decide) a3,hcell 4 _ (by decide) a4,hcell 5 _ (by decide) a5,hI.kept hK⟩
 ·obtain rfl:r=[]:=List.eq_nil_of_length_eq_zero (by omega);have hsrc:Src Tryz.prog i0.size 31 (.slice A 0 c) 0 [] w:=by
   refine ⟨.inl ⟨_,Tryz.underlying31⟩,fun w'=>rfl,?_,?_,by simp,by simp⟩
   ·cases A<;>simp [Builtin.firstCells,loadCells,loadCellsFrom]
   ·cases A<;>simp [Builtin.firstCells,loadCells,loadCellsFrom]
  exact ⟨_,_,run_append_nothing w _ _ ty _ i0 Tryz.underlying31 hi none 0 0 (Nat.le_refl _) _ hsrc,Below.refl _ _,Hi _,fun g hg=>by cases hg⟩
theorem Afw {T:TypeId}{r:RawI}(h:IvR w (.agg #[x,y,z,x',y',z']) r):IvS (w.alloc (.cells #[x,y,z,x',y',z'] T)) (.slice (some ⟨w.heap.size,0,none⟩) 1 1) [r] :=
 ⟨_, 1, rfl, Nat.le_refl _, fun _ => ⟨_, 0, rfl, fun i a ha => by
  rcases i with _ | i
  ·cases ha;have hb:=heap_alloc_new w (.cells #[x,y,z,x',y',z'] T);exact ⟨x,y,z,x',y',z',Ae hb 0 _ rfl,Ae hb 1 _ rfl,Ae hb 2 _ rfl,Ae hb 3 _ rfl,Ae hb 4 _ rfl,Ae hb 5 _ rfl,h.kept (Ad _ _)⟩
  ·simp at ha⟩⟩
def Row1 (w:World) (v:Value) (row:List RawI):Prop:=∃ b s c,v=.slice (some ⟨b,0,none⟩) 1 c∧w.cell? ⟨b,0,none⟩=some s∧IvS w s row
theorem Row1.kept (h:Row1 w v row)(k:Kept w w'):Row1 w' v row:=by
 obtain ⟨b,s,c,e,hc,hs⟩:=h;exact ⟨b,s,c,e,(k.cell (p:=⟨b,0,none⟩) (Am hc)).trans hc,hs.kept k⟩
section
variable {P:Program} {ops:Array Oper} {Q:Exit→Act→World→Prop} {md:Region.Mode}
theorem Wq {id m:Nat}{J:(Nat→Bool)→(Nat→Value)→World→Prop}{a0:Act}{W:World}{o o':Oper}(hm:P.follows .mixedOrders=true)
 (hsz:m+2=ops.size) (ho:ops[m]?=some o) (hg:o.guard=none) (ho':ops[m+1]?=some o') (hg':o'.guard=none)
 (hap:Bs ops m=true) (hin:Cw ops m a0.tmps.size=true) (htl:Ja .any ops m=true) (hbk:Dr .any ops=true) (hwf:Bi .any ops (m+1) m=true)
 (hJ:J (fun _=>false) (fun _=>undef) W.drew)
 (hstep:∀ i o,i<m→ops[i]?=some o→∀ L u a w,Mi .any ops m J a0 L u i a w→Mb P ops Q J L u i o a w)
 (hend:∀ u w L,(∀ i,i<m→L i=true)→J L u w→o.wp P (Ax ops (fun _=>true) u m a0) w (fun a w=>o'.wp P a w (Q .normal) Q) Q) :
 (Code.region id ops true).wp P Q a0 W :=
 Pp hm hsz ho hg ho' hg' hap hin htl hbk hJ hstep fun u w L hL hk=>⟨hend u w L hL hk,.inl hwf⟩
theorem Wr {id m:Nat}{o1 o2:Oper}{E:Nat→Bool}{G:(Nat→Bool)→(Nat→Value)→World→Prop}{J:(Nat→Bool)→World→Prop}{l:List (Value→World→Prop)}{a0:Act}{W:World}(hm:P.follows .mixedOrders=true)
 (hG:∀ i,E i=false→∀ L u v w w',Kept w w'→G L u w→G (upd L i true) (upd u i v) w') (hG0:G (fun _=>false) (fun _=>undef) W.drew)
 (hsz:m+2=ops.size) (ho1:ops[m]?=some o1) (hg1:o1.guard=none) (ho2:ops[m+1]?=some o2) (hg2:o2.guard=none) (htl:Ja .any ops m=true) (hwf:Bi .any ops (m+1) m=true) (hap:Bs ops m=true) (hin:Cw ops m a0.tmps.size=true) (hbk:Dr .any ops=true) (hM:Jm l)
 (hJ:J (fun _=>false) W.drew) (hstep:Vn P .any ops Q m J (VL l) E G a0 0 m ops.toList)
 (hend:∀ u w L,(∀ i,i<m→L i=true)→J L w→(∀ i,i<m→VL l i (u i) w)→G L u w→o1.wp P (Ax ops (fun _=>true) u m a0) w (fun a w=>o2.wp P a w (Q .normal) Q) Q) :
 (Code.region id ops true).wp P Q a0 W:=by
 refine Wq (m:=m) (J:=fun L u w=>J L w∧(∀ j,j<m→L j=true→VL l j (u j) w)∧G L u w) hm hsz ho1 hg1 ho2 hg2 hap hin htl hbk hwf ⟨hJ,fun j _ h=>by (cases h),hG0⟩ (fun i o hi ho L u a w F=>?_) (fun u w L hL hk=>hend u w L hL hk.1 (fun i hi=>hk.2.1 i hi (hL i hi)) hk.2.2);obtain ⟨f1,f2,f3⟩:=F.frame;have GG:FindsG .any ops m J (VL l) a0 L i a w:=⟨f1,F.yet,F.wait,F.defers,fun j t h1 h2=>by rw [F.done j t h1 h2];exact f2 j (F.lt j (F.wait j h1)) (F.wait j h1),F.old⟩;have h:=Qr (Io l hM) hG m 0 ops.toList hstep i o hi (by simpa using ho) L u a w (by simpa using GG) ⟨by simpa using F.done,f2,f3⟩
 rw [Nat.zero_add] at h;unfold Ld at h;unfold Mb;have up:∀ (v:Value) (w':World),(∀ j,j≠i→∀ u,VL l j u w→VL l j u w')→VL l i v w'→∀ j,j<m→upd L i true j=true→VL l j (upd u i v j) w':=by
  intro v w' hs hv j hj hL;by_cases e:j=i
  ·subst e;simpa [upd] using hv
  ·have:L j=true:=by simpa [upd,e] using hL
   have:=hs j e _ (f2 j hj this);simpa [upd,e] using this
 by_cases hw:Region.wanted o (yielded ops a.tmps)=true
 ·rw [if_pos hw] at h ⊢;refine Oper.wp_mono (fun a' w' q=>?_) h;obtain ⟨v,rfl,⟨k1,k2⟩,hv,hg⟩:=q;exact ⟨v,rfl,k1,up v w' k2 hv,hg⟩
 ·rw [if_neg hw] at h ⊢;obtain ⟨k1,k2,hg⟩:=h;exact ⟨k1,up undef w (fun j _ u h=>h) k2,hg⟩
end
def GrK (hs:Nat) (row:List RawI) (u:Value) (w:World):Prop:=IvS w u row∧∀ g,u.ownBlock=some g→hs≤g∧g<w.heap.size
theorem GrK.kept (h:GrK hs row u w)(k:Kept w w'):GrK hs row u w':=⟨h.1.kept k,fun g hg=>⟨(h.2 g hg).1,Nat.lt_of_lt_of_le (h.2 g hg).2 k.size⟩⟩
theorem GrK.app (h:GrK hs row u w)(hg:w.grownBy w' o)(hN:∀ g,o=some g→NoL w g)(hlt:∀ g,o=some g→g<hs):GrK hs row u w' :=
 ⟨h.1.apart hg hN (fun g hg' e=>by have:=(h.2 g hg').1;have:=hlt g e;omega),fun g hg'=>⟨(h.2 g hg').1,Nat.lt_of_lt_of_le (h.2 g hg').2 hg.size⟩⟩
def GrO (hs:Nat) (x y z x' y' z':Value) (u:Value) (w:World):Prop:=∃ b,u=.slice (some ⟨b,0,none⟩) 1 1∧hs≤b∧BlkI w b x y z x' y' z'
theorem GrO.kept (h:GrO hs x y z x' y' z' u w)(k:Kept w w'):GrO hs x y z x' y' z' u w':=by
 obtain ⟨b,h1,h2,h3⟩:=h;exact ⟨b,h1,h2,h3.kept k⟩
theorem GrO.app (h:GrO hs x y z x' y' z' u w)(hg:w.grownBy w' o)(hlt:∀ g,o=some g→g<hs):GrO hs x y z x' y' z' u w':=by
 obtain ⟨b,h1,h2,h3⟩:=h;exact ⟨b,h1,h2,(hg.block b (Array.getElem?_eq_some_iff.1 h3).1 (fun e=>by have:=hlt b e.symm;omega)).trans h3⟩
def GrI (B hs:Nat) (v0:Value) (l:List RawI) (u:Value) (w:World):Prop:=∃ xs g,OwnI w B u l xs∧u.ownBlock=some g∧(v0.ownBlock=some g∨hs≤g)
theorem GrI.kept (h:GrI B hs v0 l u w)(k:Kept w w'):GrI B hs v0 l u w':=by
 obtain ⟨xs,g,h1,h2,h3⟩:=h;exact ⟨xs,g,h1.kept k,h2,h3⟩
theorem GrI.app (h:GrI B hs v0 l u w)(hl:l≠[])(hg:w.grownBy w' o)(hS:∀ g,o=some g→AllC SlC w g):GrI B hs v0 l u w':=by
 obtain ⟨xs,g,h1,h2,h3⟩:=h;exact ⟨xs,g,h1.apartR (fun e=>absurd e hl) hg hS,h2,h3⟩
def GrA (B:Nat) (v17 v18:Value) (l17:List RawI) (l18:List (List RawI)) (xs ys:List Value) (l6 l12 l13 l14:Bool) (w:World):Prop :=
 (l6=false→OwnI w B v17 l17 xs)∧(l14=false→OwnR w B v18 l18 ys)∧(l13=true→l12=true)∧(l14=true→l13=true)
section
variable {B:Nat} {v17 v18:Value} {l17:List RawI} {l18:List (List RawI)} {xs ys:List Value} {l6 l12 l13 l14:Bool} {w w':World}
theorem GrA.kept (k:Kept w w')(h:GrA B v17 v18 l17 l18 xs ys l6 l12 l13 l14 w):GrA B v17 v18 l17 l18 xs ys l6 l12 l13 l14 w':=⟨fun e=>(h.1 e).kept k,fun e=>(h.2.1 e).kept k,h.2.2⟩
theorem GrA.iv (h:GrA B v17 v18 l17 l18 xs ys l6 l12 l13 l14 w)(e:l6=false):OwnI w B v17 l17 xs:=h.1 e
theorem GrA.rw (h:GrA B v17 v18 l17 l18 xs ys l6 l12 l13 l14 w)(e:l14=false):OwnR w B v18 l18 ys:=h.2.1 e
theorem GrA.no14 (h:GrA B v17 v18 l17 l18 xs ys l6 l12 l13 l14 w)(e:l13=false):l14=false:=by
 rcases h.2.2 with ⟨-,h2⟩
 cases l14
 ·rfl
 ·rw [h2 rfl] at e;cases e
theorem GrA.no13 (h:GrA B v17 v18 l17 l18 xs ys l6 l12 l13 l14 w)(e:l12=false):l13=false:=by
 rcases h.2.2 with ⟨h1,-⟩
 cases l13
 ·rfl
 ·rw [h1 rfl] at e;cases e
theorem GrA.at12 (k:Kept w w')(h:GrA B v17 v18 l17 l18 xs ys l6 l12 l13 l14 w):GrA B v17 v18 l17 l18 xs ys l6 true l13 l14 w':=⟨fun e=>(h.1 e).kept k,fun e=>(h.2.1 e).kept k,fun _=>rfl,h.2.2.2⟩
theorem GrA.at13 (k:Kept w w')(h:GrA B v17 v18 l17 l18 xs ys l6 l12 l13 l14 w)(e:l12=true):GrA B v17 v18 l17 l18 xs ys l6 l12 true l14 w':=⟨fun e=>(h.1 e).kept k,fun e=>(h.2.1 e).kept k,fun _=>e,fun _=>rfl⟩
theorem GrA.at6 (h:GrA B v17 v18 l17 l18 xs ys l6 l12 l13 l14 w)(hn:l17=[]→v17=.slice none 0 0)(e:l6=false)(hg:w.grownBy w' v17.ownBlock)(hap:∀ s∈ys,∀ g,s.ownBlock=some g→v17.ownBlock≠some g):GrA B v17 v18 l17 l18 xs ys true l12 l13 l14 w' :=
 ⟨(fun e=>by cases e),fun e'=>(h.2.1 e').apartI hg (h.1 e).blk (fun g hg'=>(h.1 e).notS (fun hl=>by rw [hn hl] at hg';cases hg') hg') hap,h.2.2⟩
theorem GrA.at14 (h:GrA B v17 v18 l17 l18 xs ys l6 l12 l13 l14 w)(hn:l17=[]→v17=.slice none 0 0)(e:l14=false)(e':l13=true)(hg:w.grownBy w' v18.ownBlock):GrA B v17 v18 l17 l18 xs ys l6 l12 l13 true w' :=
 ⟨fun e6=>(h.1 e6).apartR hn hg (h.2.1 e).blk,(fun e=>by cases e),h.2.2.1,fun _=>e'⟩
end
def GrG (B hs:Nat) (l18:List (List RawI)) (ys:List Value) (row:List RawI) (L:Nat→Bool) (u:Nat→Value) (w:World):Prop :=
 (L 6=true→L 12=true→∀ g,(u 12).ownBlock=some g→(u 6).ownBlock≠some g) ∧
 (L 13=true→∃ b,u 13=.slice (some ⟨b,0,none⟩) 1 1∧hs≤b∧w.cell? ⟨b,0,none⟩=some (u 12)∧GrK hs row (u 12) w) ∧
 (L 14=true→OwnR w B (u 14) (l18++[row]) (ys++[u 12])∧∀ g,(u 12).ownBlock=some g→hs≤g)
section
variable {B hs:Nat} {v17 v18:Value} {l17:List RawI} {l18:List (List RawI)} {xs ys:List Value} {row:List RawI} {L:Nat→Bool} {u:Nat→Value} {w w':World}
theorem GrG.zero:GrG B hs l18 ys row (fun _=>false) u w:=⟨(fun e=>by cases e),(fun e=>by cases e),fun e=>by cases e⟩
theorem GrG.keep {i:Nat}{v:Value}(hE:(i==6||i==12||i==13||i==14)=false)(k:Kept w w')(h:GrG B hs l18 ys row L u w):GrG B hs l18 ys row (upd L i true) (upd u i v) w':=by
 simp only [Bool.or_eq_false_iff,beq_eq_false_iff_ne,ne_eq] at hE;obtain ⟨⟨⟨h6,h12⟩,h13⟩,h14⟩:=hE;obtain ⟨g1,g2,g3⟩:=h;have e6:(6:Nat)≠i:=fun e=>h6 e.symm
 have e12:(12:Nat)≠i:=fun e=>h12 e.symm
 have e13:(13:Nat)≠i:=fun e=>h13 e.symm
 have e14:(14:Nat)≠i:=fun e=>h14 e.symm
 unfold GrG;simp only [upd,e6,e12,e13,e14,if_false];refine ⟨g1,fun e=>?_,fun e=>⟨(g3 e).1.kept k,(g3 e).2⟩⟩;obtain ⟨b,q1,q2,q3,q4⟩:=g2 e;exact ⟨b,q1,q2,(k.cell (p:=⟨b,0,none⟩) (Am q3)).trans q3,q4.kept k⟩
theorem R6 {b j:Nat}{o:Option Nat}{v:Value}(hg:w.grownBy w' o)(hne:o≠some b)(h:w.cell? ⟨b,j,none⟩=some v):w'.cell? ⟨b,j,none⟩=some v:=by
 have:=hg.block b (Am h) (fun e=>hne e.symm);simp only [World.cell?,this];simpa only [World.cell?] using h
theorem GrG.put6 {v':Value}{g':Nat}(h:GrG B hs l18 ys row L u w)(h12:L 12=true→GrK hs row (u 12) w)(ho:OwnI w B v17 l17 xs)(hn:l17=[]→v17=.slice none 0 0)(hlt:∀ g,v17.ownBlock=some g→g<hs)
 (hap:∀ s∈ys,∀ g,s.ownBlock=some g→v17.ownBlock≠some g) (hg:w.grownBy w' v17.ownBlock) (hv:v'.ownBlock=some g') (hw:v17.ownBlock=some g'∨w.heap.size≤g'):GrG B hs l18 ys row (upd L 6 true) (upd u 6 v') w':=by
 obtain ⟨g1,g2,g3⟩:=h;refine ⟨fun _ e g hgg e'=>?_,fun e=>?_,fun e=>?_⟩
 ·obtain ⟨-,hb⟩:=h12 e;obtain ⟨b1,b2⟩:=hb g hgg;have e2:v'.ownBlock=some g:=e';rw [hv] at e2;injection e2 with e2
  subst e2;rcases hw with hw | hw
  ·have:=hlt _ hw;omega
  ·omega
 ·obtain ⟨b,q1,q2,q3,q4⟩:=g2 e;exact ⟨b,q1,q2,R6 hg (fun e=>by have:=hlt _ e;omega) q3,q4.app hg ho.blk hlt⟩
 ·obtain ⟨q1,q2⟩:=g3 e;refine ⟨q1.apartI hg ho.blk (fun g hg'=>ho.notS (fun hl=>by rw [hn hl] at hg';cases hg') hg') (fun s hs' g hgg e'=>?_),q2⟩;rcases List.mem_append.1 hs' with hs' | hs'
  ·exact hap s hs' g hgg e'
  ·rw [List.mem_singleton.1 hs'] at hgg;have h1:=q2 g hgg;have h2:=hlt g e';omega
theorem GrG.put12 {v':Value}(h13:L 13=false)(h14:L 14=false)(h6:L 6=true→GrI B hs v17 l17 (u 6) w)(hv:∀ g,v'.ownBlock=some g→w.heap.size≤g):GrG B hs l18 ys row (upd L 12 true) (upd u 12 v') w':=by
 refine ⟨fun e _ g hgg e'=>?_,fun e=>absurd (h13.symm.trans e) (by decide),fun e=>absurd (h14.symm.trans e) (by decide)⟩;obtain ⟨xs,g2,q1,q2,-⟩:=h6 e;have:=q1.blt g e';have:=hv g hgg;omega
theorem GrG.put13 {v':Value}{b:Nat}(h:GrG B hs l18 ys row L u w)(h14:L 14=false)(k:Kept w w')(hv:v'=.slice (some ⟨b,0,none⟩) 1 1)(hb:hs≤b)(hc:w'.cell? ⟨b,0,none⟩=some (u 12))(h12:GrK hs row (u 12) w):GrG B hs l18 ys row (upd L 13 true) (upd u 13 v') w':=by
 obtain ⟨g1,g2,g3⟩:=h;exact ⟨g1,fun _=>⟨b,hv,hb,hc,h12.kept k⟩,fun e=>absurd (h14.symm.trans e) (by decide)⟩
theorem GrG.put14 {v':Value}(h:GrG B hs l18 ys row L u w)(h13:L 13=true)(ho:OwnR w B v18 l18 ys)(hlt:∀ g,v18.ownBlock=some g→g<hs)(hg:w.grownBy w' v18.ownBlock)(hv:OwnR w' B v' (l18++[row]) (ys++[u 12])):GrG B hs l18 ys row (upd L 14 true) (upd u 14 v') w':=by
 obtain ⟨g1,g2,g3⟩:=h;refine ⟨g1,fun e=>?_,fun e=>⟨hv,?_⟩⟩
 ·obtain ⟨b,q1,q2,q3,q4⟩:=g2 e;exact ⟨b,q1,q2,R6 hg (fun e=>by have:=hlt _ e;omega) q3,q4.app hg (fun g e=>(ho.blk g e).nol) hlt⟩
 ·obtain ⟨b,q1,q2,q3,q4⟩:=g2 h13;exact fun g hg=>(q4.2 g hg).1
end
theorem OwnR.rowsS {l:List (List RawI)}{xs:List Value}(h:OwnR w B v l xs):RowsS w v l:=h.all
end Go.Proofs.YtabjjdicffcolaaGreatDoor
