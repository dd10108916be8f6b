/- Words and contracts, part 4. -/
import Derived.Test.YtabjjdicffcolaaGreatDoorClaimJfrontp02
import Derived.WalkKit
import Derived.WalkSmall
import Derived.Lib.Hide
import Derived.Test.YtabjjdicffcolaaGreatDoorProg
set_option maxRecDepth 100000
set_option maxHeartbeats 0
namespace Go.Proofs.YtabjjdicffcolaaGreatDoor
open Go.RowKit
variable {args:Array Value} {f:FuncId} {xs ys:List Nat} {a base c cap g n:Nat} {A:Option Addr} {P:Program} {v:Value} {w w':World}
def Lim (w:World) (v:Value) (xs:List Nat):Prop :=
 Small xs/\∃ A c,v=.slice A xs.length c/\xs.length<=c/\(0<xs.length->∃ b off,A=some ⟨b,off,none⟩/\b<w.heap.size/\∀ i,i<xs.length->w.cell? ⟨b,off+i,none⟩=some (.int .u64 (Ba xs i)))
abbrev Kept (w w':World):Prop:=Below w.heap.size w w'
theorem Kept.trans {a b c:World}(h:Kept a b)(k:Kept b c):Kept a c:=Below.trans h (Below.mono k h.size)
theorem Lim.kept (h:Lim w v xs)(k:Kept w w'):Lim w' v xs:=by
 obtain ⟨hs,A,c,rfl,hc,hA⟩:=h;refine ⟨hs,A,c,rfl,hc,λh0=>?_⟩;obtain ⟨b,off,rfl,hb,hcell⟩:=hA h0;exact ⟨b,off,rfl,Dn hb k.size,λi hi=>(k.cell (p:=⟨b,off+i,none⟩) hb).trans (hcell i hi)⟩
theorem Lim.drewN (h:Lim w v xs)(n:Nat):Lim (w.drewN n) v xs:=h
theorem Lim.take (h:Lim w (.slice A n c) xs)(k:Nat)(hk:k<=xs.length):Lim w (.slice A k c) (xs.take k):=by
 obtain ⟨hs,A',c',he,hc,hA⟩:=h;injection he with h1 h2 h3
 subst h1;subst h3;have hl:(xs.take k).length=k:=by rw [List.length_take];omega
 refine ⟨λx hx=>hs x (List.mem_of_mem_take hx),A,c,by rw [hl],by omega,λh0=>?_⟩;obtain ⟨b,off,rfl,hb,hcell⟩:=hA (by omega);refine ⟨b,off,rfl,hb,λi hi=>?_⟩;rw [hl] at hi;rw [hcell i (by omega)];have:Ba (xs.take k) i=Ba xs i:=by
  unfold Ba;rw [Da,Da,List.getElem?_take,Ak hi]
 rw [this]
theorem Lim.trimmed (h:Lim w (.slice A n c) xs):Lim w (.slice A (tl xs) c) (Al (Bq xs)):=by
 have:=h.take (tl xs) (oR xs);rwa [Zg xs h.1] at this
theorem Lim.nil (w:World)(A:Option Addr)(c:Nat):Lim w (.slice A 0 c) [] :=
 ⟨(λx hx=>by cases hx),A,c,rfl,Nat.zero_le _,λh=>absurd h (by decide)⟩
def RetQ (v:Value) (w:World) (e:Ending) (w':World):Prop:=e=.returned v/\∃ n,w'=w.drewN n
theorem RetQ.mk0 (v:Value)(w:World):RetQ v w (.returned v) w:=⟨rfl,0,rfl⟩
theorem Kept.drewN (h:Kept w w')(n:Nat):Kept w (w'.drewN n):=⟨h.os,h.tape,h.output,h.size,h.block⟩
theorem qt (h:Calls P f args (w.drewN a) (RetQ v (w.drewN a))) :
 Calls P f args (w.drewN a) λe w''=>e=.returned v/\∃ n,w''=w.drewN n :=
 h.mono λ_ _ ⟨he,m,hm⟩=>⟨he,a+m,by rw [hm,World.drewN_drewN]⟩
theorem dB {k:Nat}(h:Calls P f args (w.drewN (k+a)) (RetQ v (w.drewN (k+a)))) :
 Calls P f args (w.drewN (k+a)) λe w''=>e=.returned v/\∃ n,w''=w.drewN (k+n) :=
 h.mono λ_ _ ⟨he,m,hm⟩=>⟨he,a+m,by rw [hm,World.drewN_drewN,Nat.add_assoc]⟩
def RetLim (xs:List Nat) (w:World) (e:Ending) (w':World):Prop:=∃ v,e=.returned v/\Lim w' v xs/\Kept w w'
def lH (xs:List Nat) (w:World) (e:Ending) (w':World):Prop:=∃ v,e=.returned v/\Lim w v xs/\w=w'
abbrev U (n:Nat):Value:=.int .u64 n
def Own (w:World) (base:Nat) (v:Value) (xs:List Nat):Prop:=w.ownsRow base 55 1 v xs.length (xs.map U)
theorem Sy:(Tryz.prog.info? 55).map (λi=>(i.zero,i.size,i.bytes))=some (some (.int .u64 0),1,8):=by kernel_rfl
theorem Own.shape (h:Own w base v xs)(h0:0<xs.length) :
 ∃ g cap,v=.slice (some ⟨g,0,none⟩) xs.length cap/\base<=g/\g<w.heap.size/\xs.length<=cap:=by
 obtain ⟨_,h2⟩:=h;rcases h2 with ⟨_,h3⟩ | ⟨g,cap,cur,rfl,hg,hh,hc,_⟩
 ·omega
 ·exact ⟨g,cap,rfl,hg,by simpa using (Bi hh).1,hc⟩
theorem Own.cell (h:Own w base (.slice (some ⟨g,0,none⟩) n cap) xs)(j:Nat)(hj:j<xs.length) :
 w.cell? ⟨g,j,none⟩=some (.int .u64 (Ba xs j)):=by
 have hn:n=xs.length:=by
  obtain ⟨_,h2⟩:=h;rcases h2 with ⟨h3,_⟩ | ⟨g',cap',cur,h3,_⟩
  ·simp at h3
  ·injection h3
 subst hn;have:=World.ownsRow.cellAt h j (by omega);rw [this,List.getElem?_map,Cd hj,Ba,Da,Cd hj];rfl
theorem Own.frozen (h:Own w base (.slice (some ⟨g,0,none⟩) n cap) xs)(j:Nat):w.frozen? ⟨g,j,none⟩=false:=by
 have hn:n=xs.length:=by
  obtain ⟨_,h2⟩:=h;rcases h2 with ⟨h3,_⟩ | ⟨g',cap',cur,h3,_⟩
  ·simp at h3
  ·injection h3
 subst hn;exact World.ownsRow.frozenAt h j
theorem Own.stored (h:Own w base (.slice (some ⟨g,0,none⟩) n cap) xs)(j y:Nat) :
 Own (w.setCell ⟨g,j,none⟩ (U y)) base (.slice (some ⟨g,0,none⟩) n cap) (xs.set j y):=by
 have hn:n=xs.length:=by
  obtain ⟨_,h2⟩:=h;rcases h2 with ⟨h3,_⟩ | ⟨g',cap',cur,h3,_⟩
  ·simp at h3
  ·injection h3
 subst hn;have:=World.ownsRow.stored h j (U y);unfold Own;rw [List.length_set,List.map_set];exact this.1
theorem Own.lim (h:Own w base v xs)(hs:Small xs):Lim w v xs:=by
 by_cases h0:0<xs.length
 ·obtain ⟨g,cap,rfl,_,hg,hc⟩:=h.shape h0;exact ⟨hs,some ⟨g,0,none⟩,cap,rfl,hc,λ_=>⟨g,0,rfl,hg,λi hi=>by rw [Nat.zero_add];exact h.cell i hi⟩⟩
 ·obtain rfl:xs=[]:=G9 (by omega);obtain ⟨_,h2⟩:=h;rcases h2 with ⟨rfl,_⟩ | ⟨g,cap,cur,rfl,_⟩
  ·exact Lim.nil w none 0
  ·exact Lim.nil w _ cap
theorem Lim.news {a:Addr}(h:Lim w (.slice (some a) n c) xs):∀ j u,(xs.map U)[j]?=some u->w.cell? (a.add j)=some u:=by
 intro j u hj;obtain ⟨hs,A,c',he,hc,hA⟩:=h;injection he with h1 h2 h3
 subst h1;rw [List.getElem?_map] at hj;by_cases hlt:j<xs.length
 ·obtain ⟨b,off,ha,hb,hcell⟩:=hA (by omega);injection ha with ha
  subst ha;have:=hcell j hlt;rw [Cd hlt] at hj;have hn:Ba xs j=xs[j]:=by rw [Ba,Da,Cd hlt];rfl
  rw [hn] at this;have ea:(⟨b,off,none⟩:Addr).add j=⟨b,off+j,none⟩:=by
   unfold Addr.add;split
   ·rename_i e;subst e;rfl
   ·rfl
  rw [ea,this];exact hj
 ·rw [List.getElem?_eq_none (by omega)] at hj;cases hj
theorem gD (xs:List Nat):∀ u∈xs.map U,u.oneCell'=true:=by
 intro u hu;obtain ⟨x,_,rfl⟩:=List.mem_map.1 hu;rfl
theorem Lim.len (h:Lim w (.slice A n c) xs):n=xs.length:=by
 obtain ⟨hs,A',c',he,_⟩:=h;injection he
theorem Om (h:w.ownsRow base 55 1 v n (xs.map U++ys.map U)):Own w base v (xs++ys):=by
 have hl:=h.1;rw [<-List.map_append,List.length_map,Nat.mul_one] at hl;unfold Own;rw [hl,List.map_append];exact h
theorem Ol (h:w.ownsRow base 55 1 (.slice A n c) n (madeCells #[Value.int .u64 0] n).toList):Own w base (.slice A n c) (List.replicate n 0):=by
 unfold Own;rw [List.length_replicate,List.map_replicate];rw [toList_madeCells_one] at h;exact h
theorem Own.shape0 (h:Own w base v xs) :
 ∃ A cap,v=.slice A xs.length cap/\(0<xs.length->∃ g,A=some ⟨g,0,none⟩/\base<=g/\g<w.heap.size):=by
 have h':=h;obtain ⟨_,h2⟩:=h;rcases h2 with ⟨rfl,h3⟩ | ⟨g,cap,cur,rfl,hg,hh,hc,_⟩
 ·exact ⟨none,0,by rw [h3],λh0=>absurd h0 (by omega)⟩
 ·exact ⟨some ⟨g,0,none⟩,cap,rfl,λ_=>⟨g,rfl,hg,by simpa using (Bi hh).1⟩⟩
end Go.Proofs.YtabjjdicffcolaaGreatDoor
