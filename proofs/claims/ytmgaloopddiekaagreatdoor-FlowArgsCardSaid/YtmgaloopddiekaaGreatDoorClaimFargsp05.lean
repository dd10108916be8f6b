/- Words and contracts, part 5. -/
import Derived.Test.YtmgaloopddiekaaGreatDoorClaimFargsp04
import Derived.Test.YtmgaloopddiekaaGreatDoorProg
set_option maxRecDepth 100000
set_option maxHeartbeats 0
namespace Go.Proofs.YtmgaloopddiekaaGreatDoor
open Go.RowKit
abbrev U (n:Nat):Value:=.int .u64 n
def Own (w:World) (base:Nat) (v:Value) (xs:List Nat):Prop:=w.ownsRow base 54 1 v xs.length (xs.map U)
theorem Kx:(Tryz.prog.info? 54).map (fun i=>(i.zero,i.size,i.bytes))=some (some (.int .u64 0),1,8):=by kernel_rfl
theorem Own.shape {w:World}{base:Nat}{v:Value}{xs:List Nat}(h:Own w base v xs)(h0:0<xs.length) :
 ∃ g cap,v=.slice (some ⟨g,0,none⟩) xs.length cap∧base≤g∧g<w.heap.size∧xs.length≤cap:=by
 obtain ⟨_,h2⟩:=h;rcases h2 with ⟨_,h3⟩ | ⟨g,cap,cur,rfl,hg,hh,hc,_⟩
 ·omega
 ·exact ⟨g,cap,rfl,hg,by simpa using (Array.getElem?_eq_some_iff.1 hh).1,hc⟩
theorem Own.cell {w:World}{base g cap:Nat}{xs:List Nat}{n:Nat}(h:Own w base (.slice (some ⟨g,0,none⟩) n cap) xs)(j:Nat)(hj:j<xs.length) :
 w.cell? ⟨g,j,none⟩=some (.int .u64 (nth xs j)):=by
 have hn:n=xs.length:=by
  obtain ⟨_,h2⟩:=h;rcases h2 with ⟨h3,_⟩ | ⟨g',cap',cur,h3,_⟩
  ·simp at h3
  ·injection h3
 subst hn;have:=World.ownsRow.cellAt h j (by omega);rw [this,List.getElem?_map,List.getElem?_eq_getElem hj,nth,List.getD_eq_getElem?_getD,List.getElem?_eq_getElem hj];rfl
theorem Own.frozen {w:World}{base g cap:Nat}{xs:List Nat}{n:Nat}(h:Own w base (.slice (some ⟨g,0,none⟩) n cap) xs)(j:Nat):w.frozen? ⟨g,j,none⟩=false:=by
 have hn:n=xs.length:=by
  obtain ⟨_,h2⟩:=h;rcases h2 with ⟨h3,_⟩ | ⟨g',cap',cur,h3,_⟩
  ·simp at h3
  ·injection h3
 subst hn;exact World.ownsRow.frozenAt h j
theorem Own.stored {w:World}{base g cap:Nat}{xs:List Nat}{n:Nat}(h:Own w base (.slice (some ⟨g,0,none⟩) n cap) xs)(j y:Nat) :
 Own (w.setCell ⟨g,j,none⟩ (U y)) base (.slice (some ⟨g,0,none⟩) n cap) (xs.set j y):=by
 have hn:n=xs.length:=by
  obtain ⟨_,h2⟩:=h;rcases h2 with ⟨h3,_⟩ | ⟨g',cap',cur,h3,_⟩
  ·simp at h3
  ·injection h3
 subst hn;have:=World.ownsRow.stored h j (U y);unfold Own;rw [List.length_set,List.map_set];exact this.1
theorem Own.drewN {w:World}{base:Nat}{v:Value}{xs:List Nat}(h:Own w base v xs)(n:Nat):Own (w.drewN n) base v xs:=h
theorem Own.lim {w:World}{base:Nat}{v:Value}{xs:List Nat}(h:Own w base v xs)(hs:Small xs):Lim w v xs:=by
 by_cases h0:0<xs.length
 ·obtain ⟨g,cap,rfl,_,hg,hc⟩:=h.shape h0;exact ⟨hs,some ⟨g,0,none⟩,cap,rfl,hc,fun _=>⟨g,0,rfl,hg,fun i hi=>by rw [Nat.zero_add];exact h.cell i hi⟩⟩
 ·obtain rfl:xs=[]:=List.eq_nil_of_length_eq_zero (by omega);obtain ⟨_,h2⟩:=h;rcases h2 with ⟨rfl,_⟩ | ⟨g,cap,cur,rfl,_⟩
  ·exact Lim.nil w none 0
  ·exact Lim.nil w _ cap
theorem Lim.news {w:World}{a:Addr}{n c:Nat}{xs:List Nat}(h:Lim w (.slice (some a) n c) xs):∀ j u,(xs.map U)[j]?=some u→w.cell? (a.add j)=some u:=by
 intro j u hj;obtain ⟨hs,A,c',he,hc,hA⟩:=h;injection he with h1 h2 h3
 subst h1;rw [List.getElem?_map] at hj;by_cases hlt:j<xs.length
 ·obtain ⟨b,off,ha,hb,hcell⟩:=hA (by omega);injection ha with ha
  subst ha;have:=hcell j hlt;rw [List.getElem?_eq_getElem hlt] at hj;have hn:nth xs j=xs[j]:=by rw [nth,List.getD_eq_getElem?_getD,List.getElem?_eq_getElem hlt];rfl
  rw [hn] at this;have ea:(⟨b,off,none⟩:Addr).add j=⟨b,off+j,none⟩:=by
   unfold Addr.add;split
   ·rename_i e;subst e;rfl
   ·rfl
  rw [ea,this];exact hj
 ·rw [List.getElem?_eq_none (by omega)] at hj;cases hj
theorem Rm (xs:List Nat):∀ u∈xs.map U,u.oneCell'=true:=by
 intro u hu;obtain ⟨x,_,rfl⟩:=List.mem_map.1 hu;rfl
theorem Lim.len {w:World}{A:Option Addr}{n c:Nat}{xs:List Nat}(h:Lim w (.slice A n c) xs):n=xs.length:=by
 obtain ⟨hs,A',c',he,_⟩:=h;injection he
theorem Dn {w:World}{base:Nat}{v:Value}{xs ys:List Nat}{n:Nat}(h:w.ownsRow base 54 1 v n (xs.map U++ys.map U)):Own w base v (xs++ys):=by
 have hl:=h.1;rw [←List.map_append,List.length_map,Nat.mul_one] at hl;unfold Own;rw [hl,List.map_append];exact h
theorem Im {w:World}{base n c:Nat}{A:Option Addr}(h:w.ownsRow base 54 1 (.slice A n c) n (madeCells #[Value.int .u64 0] n).toList):Own w base (.slice A n c) (List.replicate n 0):=by
 unfold Own;rw [List.length_replicate,List.map_replicate];rw [toList_madeCells_one] at h;exact h
theorem Own.shape0 {w:World}{base:Nat}{v:Value}{xs:List Nat}(h:Own w base v xs) :
 ∃ A cap,v=.slice A xs.length cap∧(0<xs.length→∃ g,A=some ⟨g,0,none⟩∧base≤g∧g<w.heap.size):=by
 have h':=h;obtain ⟨_,h2⟩:=h;rcases h2 with ⟨rfl,h3⟩ | ⟨g,cap,cur,rfl,hg,hh,hc,_⟩
 ·exact ⟨none,0,by rw [h3],fun h0=>absurd h0 (by omega)⟩
 ·exact ⟨some ⟨g,0,none⟩,cap,rfl,fun _=>⟨g,rfl,hg,by simpa using (Array.getElem?_eq_some_iff.1 hh).1⟩⟩
end Go.Proofs.YtmgaloopddiekaaGreatDoor
namespace Go.Proofs.YtmgaloopddiekaaGreatDoor.Dg
open Go.RowKit
def Lim (w:World) (v:Value) (xs:List Nat):Prop :=
 Small xs∧∃ A c,v=.slice A xs.length c∧xs.length≤c∧(0<xs.length→∃ b off,A=some ⟨b,off,none⟩∧b<w.heap.size∧∀ i,i<xs.length→w.cell? ⟨b,off+i,none⟩=some (.int .u32 (nth xs i)))
theorem Lim.kept {w w':World}{v:Value}{xs:List Nat}(h:Lim w v xs)(k:Kept w w'):Lim w' v xs:=by
 obtain ⟨hs,A,c,rfl,hc,hA⟩:=h;refine ⟨hs,A,c,rfl,hc,fun h0=>?_⟩;obtain ⟨b,off,rfl,hb,hcell⟩:=hA h0;exact ⟨b,off,rfl,Nat.lt_of_lt_of_le hb k.size,fun i hi=>(k.cell (p:=⟨b,off+i,none⟩) hb).trans (hcell i hi)⟩
theorem Lim.drewN {w:World}{v:Value}{xs:List Nat}(h:Lim w v xs)(n:Nat):Lim (w.drewN n) v xs:=h
theorem Lim.take {w:World}{A:Option Addr}{n c:Nat}{xs:List Nat}(h:Lim w (.slice A n c) xs)(k:Nat)(hk:k≤xs.length):Lim w (.slice A k c) (xs.take k):=by
 obtain ⟨hs,A',c',he,hc,hA⟩:=h;injection he with h1 h2 h3
 subst h1;subst h3;have hl:(xs.take k).length=k:=by rw [List.length_take];omega
 refine ⟨fun x hx=>hs x (List.mem_of_mem_take hx),A,c,by rw [hl],by omega,fun h0=>?_⟩;obtain ⟨b,off,rfl,hb,hcell⟩:=hA (by omega);refine ⟨b,off,rfl,hb,fun i hi=>?_⟩;rw [hl] at hi;rw [hcell i (by omega)];have:nth (xs.take k) i=nth xs i:=by
  unfold nth;rw [List.getD_eq_getElem?_getD,List.getD_eq_getElem?_getD,List.getElem?_take,if_pos hi]
 rw [this]
theorem Lim.trimmed {w:World}{A:Option Addr}{n c:Nat}{xs:List Nat}(h:Lim w (.slice A n c) xs):Lim w (.slice A (tl xs) c) (limbs (val xs)):=by
 have:=h.take (tl xs) (Vu xs);rwa [Ng xs h.1] at this
theorem Lim.nil (w:World)(A:Option Addr)(c:Nat):Lim w (.slice A 0 c) [] :=
 ⟨(fun x hx=>by cases hx),A,c,rfl,Nat.zero_le _,fun h=>absurd h (by decide)⟩
def RetLim (xs:List Nat) (w:World) (e:Ending) (w':World):Prop:=∃ v,e=.returned v∧Lim w' v xs∧Kept w w'
def Sa (xs:List Nat) (w:World) (e:Ending) (w':World):Prop:=∃ v,e=.returned v∧Lim w v xs∧w=w'
abbrev U (n:Nat):Value:=.int .u32 n
def Own (w:World) (base:Nat) (v:Value) (xs:List Nat):Prop:=w.ownsRow base 91 1 v xs.length (xs.map U)
theorem Kx:(Tryz.prog.info? 91).map (fun i=>(i.zero,i.size,i.bytes))=some (some (.int .u32 0),1,4):=by kernel_rfl
theorem Own.shape {w:World}{base:Nat}{v:Value}{xs:List Nat}(h:Own w base v xs)(h0:0<xs.length) :
 ∃ g cap,v=.slice (some ⟨g,0,none⟩) xs.length cap∧base≤g∧g<w.heap.size∧xs.length≤cap:=by
 obtain ⟨_,h2⟩:=h;rcases h2 with ⟨_,h3⟩ | ⟨g,cap,cur,rfl,hg,hh,hc,_⟩
 ·omega
 ·exact ⟨g,cap,rfl,hg,by simpa using (Array.getElem?_eq_some_iff.1 hh).1,hc⟩
theorem Own.cell {w:World}{base g cap:Nat}{xs:List Nat}{n:Nat}(h:Own w base (.slice (some ⟨g,0,none⟩) n cap) xs)(j:Nat)(hj:j<xs.length) :
 w.cell? ⟨g,j,none⟩=some (.int .u32 (nth xs j)):=by
 have hn:n=xs.length:=by
  obtain ⟨_,h2⟩:=h;rcases h2 with ⟨h3,_⟩ | ⟨g',cap',cur,h3,_⟩
  ·simp at h3
  ·injection h3
 subst hn;have:=World.ownsRow.cellAt h j (by omega);rw [this,List.getElem?_map,List.getElem?_eq_getElem hj,nth,List.getD_eq_getElem?_getD,List.getElem?_eq_getElem hj];rfl
theorem Own.frozen {w:World}{base g cap:Nat}{xs:List Nat}{n:Nat}(h:Own w base (.slice (some ⟨g,0,none⟩) n cap) xs)(j:Nat):w.frozen? ⟨g,j,none⟩=false:=by
 have hn:n=xs.length:=by
  obtain ⟨_,h2⟩:=h;rcases h2 with ⟨h3,_⟩ | ⟨g',cap',cur,h3,_⟩
  ·simp at h3
  ·injection h3
 subst hn;exact World.ownsRow.frozenAt h j
theorem Own.stored {w:World}{base g cap:Nat}{xs:List Nat}{n:Nat}(h:Own w base (.slice (some ⟨g,0,none⟩) n cap) xs)(j y:Nat) :
 Own (w.setCell ⟨g,j,none⟩ (U y)) base (.slice (some ⟨g,0,none⟩) n cap) (xs.set j y):=by
 have hn:n=xs.length:=by
  obtain ⟨_,h2⟩:=h;rcases h2 with ⟨h3,_⟩ | ⟨g',cap',cur,h3,_⟩
  ·simp at h3
  ·injection h3
 subst hn;have:=World.ownsRow.stored h j (U y);unfold Own;rw [List.length_set,List.map_set];exact this.1
theorem Own.drewN {w:World}{base:Nat}{v:Value}{xs:List Nat}(h:Own w base v xs)(n:Nat):Own (w.drewN n) base v xs:=h
theorem Own.lim {w:World}{base:Nat}{v:Value}{xs:List Nat}(h:Own w base v xs)(hs:Small xs):Lim w v xs:=by
 by_cases h0:0<xs.length
 ·obtain ⟨g,cap,rfl,_,hg,hc⟩:=h.shape h0;exact ⟨hs,some ⟨g,0,none⟩,cap,rfl,hc,fun _=>⟨g,0,rfl,hg,fun i hi=>by rw [Nat.zero_add];exact h.cell i hi⟩⟩
 ·obtain rfl:xs=[]:=List.eq_nil_of_length_eq_zero (by omega);obtain ⟨_,h2⟩:=h;rcases h2 with ⟨rfl,_⟩ | ⟨g,cap,cur,rfl,_⟩
  ·exact Lim.nil w none 0
  ·exact Lim.nil w _ cap
theorem Lim.news {w:World}{a:Addr}{n c:Nat}{xs:List Nat}(h:Lim w (.slice (some a) n c) xs):∀ j u,(xs.map U)[j]?=some u→w.cell? (a.add j)=some u:=by
 intro j u hj;obtain ⟨hs,A,c',he,hc,hA⟩:=h;injection he with h1 h2 h3
 subst h1;rw [List.getElem?_map] at hj;by_cases hlt:j<xs.length
 ·obtain ⟨b,off,ha,hb,hcell⟩:=hA (by omega);injection ha with ha
  subst ha;have:=hcell j hlt;rw [List.getElem?_eq_getElem hlt] at hj;have hn:nth xs j=xs[j]:=by rw [nth,List.getD_eq_getElem?_getD,List.getElem?_eq_getElem hlt];rfl
  rw [hn] at this;have ea:(⟨b,off,none⟩:Addr).add j=⟨b,off+j,none⟩:=by
   unfold Addr.add;split
   ·rename_i e;subst e;rfl
   ·rfl
  rw [ea,this];exact hj
 ·rw [List.getElem?_eq_none (by omega)] at hj;cases hj
theorem Rm (xs:List Nat):∀ u∈xs.map U,u.oneCell'=true:=by
 intro u hu;obtain ⟨x,_,rfl⟩:=List.mem_map.1 hu;rfl
theorem Lim.len {w:World}{A:Option Addr}{n c:Nat}{xs:List Nat}(h:Lim w (.slice A n c) xs):n=xs.length:=by
 obtain ⟨hs,A',c',he,_⟩:=h;injection he
theorem Dn {w:World}{base:Nat}{v:Value}{xs ys:List Nat}{n:Nat}(h:w.ownsRow base 91 1 v n (xs.map U++ys.map U)):Own w base v (xs++ys):=by
 have hl:=h.1;rw [←List.map_append,List.length_map,Nat.mul_one] at hl;unfold Own;rw [hl,List.map_append];exact h
theorem Im {w:World}{base n c:Nat}{A:Option Addr}(h:w.ownsRow base 91 1 (.slice A n c) n (madeCells #[Value.int .u32 0] n).toList):Own w base (.slice A n c) (List.replicate n 0):=by
 unfold Own;rw [List.length_replicate,List.map_replicate];rw [toList_madeCells_one] at h;exact h
theorem Own.shape0 {w:World}{base:Nat}{v:Value}{xs:List Nat}(h:Own w base v xs) :
 ∃ A cap,v=.slice A xs.length cap∧(0<xs.length→∃ g,A=some ⟨g,0,none⟩∧base≤g∧g<w.heap.size):=by
 have h':=h;obtain ⟨_,h2⟩:=h;rcases h2 with ⟨rfl,h3⟩ | ⟨g,cap,cur,rfl,hg,hh,hc,_⟩
 ·exact ⟨none,0,by rw [h3],fun h0=>absurd h0 (by omega)⟩
 ·exact ⟨some ⟨g,0,none⟩,cap,rfl,fun _=>⟨g,rfl,hg,by simpa using (Array.getElem?_eq_some_iff.1 hh).1⟩⟩
def Xw (base:Nat) (v:Value):Prop:=∀ g off n c,v=.slice (some ⟨g,off,none⟩) n c→base≤g
def RetLimF (xs:List Nat) (w:World) (e:Ending) (w':World):Prop:=∃ v,e=.returned v∧Lim w' v xs∧Kept w w'∧(xs=[]∨Xw w.heap.size v)
theorem RetLimF.lim {xs:List Nat}{w:World}{e:Ending}{w':World}(h:RetLimF xs w e w'):RetLim xs w e w':=by
 obtain ⟨v,h1,h2,h3,-⟩:=h;exact ⟨v,h1,h2,h3⟩
theorem Own.fresh {w:World}{base n c k:Nat}{A:Option Addr}{xs:List Nat}(h:Own w base (.slice A n c) xs):Xw base (.slice A k c):=by
 intro g off n' c' he;injection he with h1 h2 h3
 subst h1;obtain ⟨_,h2⟩:=h;rcases h2 with ⟨h3,_⟩ | ⟨g',cap',cur,h3,hb,_⟩
 ·simp at h3
 ·injection h3 with h4
  injection h4 with h4
  injection h4 with h4
  omega
theorem Lim.far {w:World}{v:Value}{xs:List Nat}{b g j:Nat}{y:Value}(h:Lim w v xs)(hf:xs=[]∨Xw b v)(hg:g<b):Lim (w.setCell ⟨g,j,none⟩ y) v xs:=by
 obtain ⟨hs,A,c,rfl,hc,hA⟩:=h;refine ⟨hs,A,c,rfl,hc,fun h0=>?_⟩;obtain ⟨b',off,rfl,hb,hcell⟩:=hA h0;rcases hf with hf | hf
 ·rw [hf] at h0;exact absurd h0 (by decide)
 ·have hne:=hf b' off _ _ rfl;exact ⟨b',off,rfl,by simpa using hb,fun i hi=>(World.cell?_setCell_other (w:=w) (a:=⟨g,j,none⟩) (b:=⟨b',off+i,none⟩) (v:=y) (by intro he;injection he with h1;omega)).trans (hcell i hi)⟩
end Go.Proofs.YtmgaloopddiekaaGreatDoor.Dg
