/- Words and contracts, part 28. -/
import Derived.Test.YtabjjdicffcolaaGreatDoorClaimSholdp27
set_option maxRecDepth 100000
set_option maxHeartbeats 0
namespace Go.Proofs.YtabjjdicffcolaaGreatDoor
open Go.Lib (hid)
open Go.RowKit
variable {α:Type} {ls:List Ln} {X:List Nat} {c news xs:List Value} {b base g hs lo m n:Nat} {o:Outc (List RawI × List (List RawI))} {T:TypeId} {u v v' z:Value} {w w':World} {C:World→List Value→Prop}
structure OwnG (w:World) (base:Nat) (T:TypeId) (s:Nat) (v:Value) (n:Nat) (xs:List Value):Prop where
 row:w.ownsRow base T s v n xs
 nl:∀ u∈xs,Be u
 one:∀ u∈xs,u.oneCell'=true
 blk:∀ g,v.ownBlock=some g→NoL w g
theorem OwnG.nil (w:World)(base:Nat)(T:TypeId)(s:Nat):OwnG w base T s (.slice none 0 0) 0 [] :=
 ⟨World.ownsRow_nil _ _ _ _,by simp,by simp,by intro g h;simp [Value.ownBlock] at h⟩
theorem OwnG.same {s:Nat}(h:OwnG w base T s v n xs)(e:∀ g,v.ownBlock=some g→w'.heap[g]?=w.heap[g]?):OwnG w' base T s v n xs:=by
 obtain ⟨h1,h2,h3,h4⟩:=h;refine ⟨⟨h1.1,?_⟩,h2,h3,fun g hg=>(h4 g hg).of_block (e g hg)⟩;rcases h1.2 with hn | ⟨g,cap,cur,rfl,hb,hg,rest⟩
 ·exact .inl hn
 ·exact .inr ⟨g,cap,cur,rfl,hb,(e g rfl).trans hg,rest⟩
theorem OwnG.kb {s:Nat}(h:OwnG w base T s v n xs)(k:KB w X w')(hn:Zs v X):OwnG w' base T s v n xs :=
 h.same fun g hg=>by
  obtain ⟨cur,e,hc,-⟩:=h.blk g hg;rw [k.blk hc (hn g hg),hc]
theorem Yi (v:Value):Zs v []:=fun _ _ h=>by cases h
theorem OwnG.kept {s:Nat}(h:OwnG w base T s v n xs)(k:Kept w w'):OwnG w' base T s v n xs:=h.kb (k.kb []) (Yi v)
theorem OwnG.lt {s:Nat}(h:OwnG w base T s v n xs)(g:Nat)(hg:v.ownBlock=some g):g<w.heap.size∧base≤g:=by
 obtain ⟨cur,e,hc,-⟩:=h.blk g hg;refine ⟨(Array.getElem?_eq_some_iff.1 hc).1,?_⟩;rcases h.row.2 with ⟨rfl,-⟩ | ⟨g',cap,cur,rfl,hb,-⟩
 ·simp [Value.ownBlock] at hg
 ·simp [Value.ownBlock] at hg;subst hg;exact hb
theorem OwnG.shape {s:Nat}(h:OwnG w base T s v n xs):∃ A c,v=.slice A n c∧n≤c:=by
 rcases h.row.2 with ⟨rfl,rfl⟩ | ⟨g,cap,cur,rfl,-,-,hc,-⟩
 ·exact ⟨none,0,rfl,Nat.le_refl _⟩
 ·exact ⟨_,cap,rfl,hc⟩
theorem OwnG.at {s:Nat}(h:OwnG w base T s v n xs)(h0:0<n):∃ b c,v=.slice (some ⟨b,0,none⟩) n c∧n≤c∧∀ (j:Nat) u,xs[j]?=some u→w.cell? ⟨b,j,none⟩=some u:=by
 rcases h.row.2 with ⟨rfl,rfl⟩ | ⟨g,cap,cur,rfl,hb,hg,hc,-⟩
 ·omega
 ·refine ⟨g,cap,rfl,hc,fun j u hu=>?_⟩;have:=h.row.cells (g:=g) rfl j u hu;rw [show (⟨g,0,none⟩:Addr).add j=⟨g,j,none⟩ by unfold Addr.add;split<;>simp_all] at this;exact this
theorem OwnG.append {P:Program}{t e:TypeId}(ty:TypeId){i:TypeInfo}{size bytes:Nat}(ht:P.underlying t=some (.slice e))(hi:P.info? e=some i)(hz:i.zero=some z)
 (hsize:i.size=size) (hby:i.bytes=bytes) (hzs:z.cells.size=size) (hsz:0<size) (h2:bytes≤1000) (hzl:∀ u∈z.cells.toList,Be u)
 {v:Value} {n:Nat} {xs:List Value} (h:OwnG w base e size v n xs)
 {b m c:Nat} {news:List Value} (hl:news.length=m*size) (hnews:∀ j u,news[j]?=some u→w.cell? ⟨b,j,none⟩=some u) (h1:∀ u∈news,u.oneCell'=true)
 (hnl:∀ u∈news,Be u) (hm:0<m) (hn:n+m≤1000) (hbase:base≤w.heap.size) :
 ∃ v' w' g', (Builtin.append_ #[t, t] ty #[v, .slice (some ⟨b, 0, none⟩) m c]).run P w = .ok v' w' ∧ OwnG w' base e size v' (n + m) (xs ++ news) ∧ w.grownBy w' v.ownBlock ∧
   v'.ownBlock=some g'∧(v.ownBlock=some g'∨w.heap.size≤g'):=by
 have ad:∀ j,(⟨b,0,none⟩:Addr).add j=⟨b,j,none⟩:=by intro j;unfold Addr.add;split<;>simp_all
 have hnews':∀ j u,news[j]?=some u→w.cell? ((⟨b,0,none⟩:Addr).add j)=some u:=fun j u hu=>by rw [ad];exact hnews j u hu
 have h63:n+m≤maxLen:=by unfold maxLen;omega
 have hbytes:(n+m)*bytes≤140737488355328:=Nat.le_trans (Nat.mul_le_mul hn h2) (by decide);have hxs:∀ u∈xs++news,Be u:=fun u hu=>(List.mem_append.1 hu).elim (h.nl u) (hnl u)
 have hx1:∀ u∈xs++news,u.oneCell'=true:=fun u hu=>(List.mem_append.1 hu).elim (h.one u) (h1 u)
 obtain ⟨v',w',g',hr,q1,q2,q3,q4⟩:=Hl (P:=P) w base t ty e i z size bytes ht hi hz hsize hby hzs hsz v n xs h.row ⟨b,0,none⟩ m c news hl hnews' h1 h63 hbytes hbase hm h.nl hnl hzl h.blk;refine ⟨v',w',g',hr,⟨q1,hxs,hx1,fun g hg=>by rw [q3] at hg;cases hg;exact q4⟩,q2,q3,?_⟩;subst hsize;subst hby;have hown:=h.row;rcases hown.2 with ⟨rfl,rfl⟩ | ⟨g,cap,cur,rfl,hbg,hg,hnc,hcm,hcs,htake⟩
 ·have hr2:=run_append_nil (P:=P) w t ty e i z ht hi hz ⟨b,0,none⟩ m c news hl hnews' (by omega) (by simp only [maxLen] at h63;omega) (by have hb:=hbytes;simp only [Nat.zero_add] at hb;omega);rw [hr2] at hr;injection hr with e1 e2
  subst e1;simp [Value.ownBlock] at q3
  right;omega
 ·by_cases hroom:n+m≤cap
  ·have hfit:n*i.size+news.length≤cur.size:=by rw [hl,hcs,←Nat.add_mul];exact Nat.mul_le_mul_right _ hroom
   have hr2:=run_append_room (P:=P) w t ty e i ht hi g n cap cur hg ⟨b,0,none⟩ m c news hl hnews' h1 hroom hfit;rw [hr2] at hr;injection hr with e1 e2
   subst e1;simp [Value.ownBlock] at q3
   left;simp [Value.ownBlock,q3]
  ·have holds:∀ j u,xs[j]?=some u→w.cell? ((⟨g,0,none⟩:Addr).add j)=some u:=hown.cells (g:=g) rfl;have hr2:=run_append_grow (P:=P) w t ty e i z ht hi hz ⟨g,0,none⟩ n cap xs hown.1 holds ⟨b,0,none⟩ m c news hl hnews' (by omega) (by simp only [maxLen] at h63;omega) (growslice_fits (by omega) hbytes);rw [hr2] at hr;injection hr with e1 e2
   subst e1;simp [Value.ownBlock] at q3
   right;omega
def RowC {α:Type} (R:List Value→α→Prop):List Value→List α→Prop
 | xs,[]=>xs=[]
 | xs,a::l=>∃ c rest,xs=c++rest∧R c a∧RowC R rest l
theorem RowC.append {R:List Value→α→Prop}:∀ {l m:List α} {xs ys:List Value},RowC R xs l→RowC R ys m→RowC R (xs++ys) (l++m)
 | [],m,xs,ys,h,g=>by cases h;exact g
 | a :: l, m, xs, ys, h, g => by
   obtain ⟨c,rest,rfl,hc,hr⟩:=h;exact ⟨c,rest++ys,by rw [List.append_assoc],hc,hr.append g⟩
theorem RowC.one {R:List Value→α→Prop}{a:α}(h:R c a):RowC R c [a]:=⟨c,[],by rw [List.append_nil],h,rfl⟩
theorem RowC.mono {R S:List Value→α→Prop}(hs:∀ c a,R c a→S c a):∀ {l:List α} {xs:List Value},RowC R xs l→RowC S xs l
 | [],xs,h=>h
 | a :: l, xs, h => by
   obtain ⟨c,rest,rfl,hc,hr⟩:=h;exact ⟨c,rest,rfl,hs c a hc,hr.mono hs⟩
theorem RowC.at {R:List Value→α→Prop}{s:Nat}(hs:∀ c a,R c a→c.length=s):∀ {l:List α} {xs:List Value},RowC R xs l→∀ (i:Nat) (a:α),l[i]?=some a→∃ c,R c a∧∀ j,j<s→xs[i*s+j]?=c[j]?
 | [],xs,h,i,a,hi=>by simp at hi
 | b :: l, xs, h, 0, a, hi => by
   obtain ⟨c,rest,rfl,hc,hr⟩:=h;cases hi;exact ⟨c,hc,fun j hj=>by rw [Nat.zero_mul,Nat.zero_add,List.getElem?_append_left (by rw [hs c _ hc];exact hj)]⟩
 | b :: l, xs, h, i + 1, a, hi => by
   obtain ⟨c,rest,rfl,hc,hr⟩:=h;obtain ⟨d,hd,hj⟩:=hr.at hs i a hi;refine ⟨d,hd,fun j hj'=>?_⟩;rw [←hj j hj',List.getElem?_append_right (by rw [hs c _ hc,Nat.succ_mul];omega),hs c _ hc,Nat.succ_mul]
   congr 1;omega
def CellD (w:World) (c:List Value) (d:Raw):Prop:=∃ x y z,c=[x,y,z]∧DyR w (.agg #[x,y,z]) d
def CellI (w:World) (c:List Value) (a:RawI):Prop:=∃ x y z x' y' z',c=[x,y,z,x',y',z']∧IvR w (.agg #[x,y,z,x',y',z']) a
def CellL (w:World) (c:List Value) (l:Ln):Prop:=∃ x y z x' y' z',c=[.int .i64 l.op,.int .i64 l.a,.int .i64 l.b,x,y,z,x',y',z']∧IvR w (.agg #[x,y,z,x',y',z']) l.k
theorem CellD.kb {d:Raw}(h:CellD w c d)(k:KB w X w'):CellD w' c d:=by
 obtain ⟨x,y,z,e,h⟩:=h;exact ⟨x,y,z,e,h.kb k⟩
theorem CellI.kb {d:RawI}(h:CellI w c d)(k:KB w X w'):CellI w' c d:=by
 obtain ⟨x,y,z,x',y',z',e,h⟩:=h;exact ⟨x,y,z,x',y',z',e,h.kb k⟩
theorem CellL.kb {d:Ln}(h:CellL w c d)(k:KB w X w'):CellL w' c d:=by
 obtain ⟨x,y,z,x',y',z',e,h⟩:=h;exact ⟨x,y,z,x',y',z',e,h.kb k⟩
theorem CellL.nl {l:Ln}(h:CellL w c l):∀ u∈c,Be u∧u.oneCell'=true:=by
 obtain ⟨x,y,z,x',y',z',rfl,hI⟩:=h;have hc:=hI.cells;intro u hu;simp only [List.mem_cons,List.not_mem_nil,or_false] at hu hc;rcases hu with rfl | rfl | rfl | hu
 ·exact ⟨Af _,rfl⟩
 ·exact ⟨Af _,rfl⟩
 ·exact ⟨Af _,rfl⟩
 ·exact hc u hu
theorem CellI.nl {a:RawI}(h:CellI w c a):∀ u∈c,Be u∧u.oneCell'=true:=by
 obtain ⟨x,y,z,x',y',z',rfl,hI⟩:=h;exact hI.cells
theorem CellD.nl {d:Raw}(h:CellD w c d):∀ u∈c,Be u∧u.oneCell'=true:=by
 obtain ⟨x,y,z,rfl,hd⟩:=h;obtain ⟨A,l,c,e,-⟩:=Ay hd;injection e with e;injection e with e
 simp only [List.cons.injEq,and_true] at e;obtain ⟨rfl,rfl,rfl⟩:=e;intro u hu;simp only [List.mem_cons,List.not_mem_nil,or_false] at hu;rcases hu with rfl | rfl | rfl
 ·exact ⟨Ah _,rfl⟩
 ·exact ⟨Ag _ _ _,rfl⟩
 ·exact ⟨Af _,rfl⟩
theorem RowC.all {R:List Value→α→Prop}{Q:Value→Prop}(hq:∀ c a,R c a→∀ u∈c,Q u):∀ {l:List α} {xs:List Value},RowC R xs l→∀ u∈xs,Q u
 | [],xs,h,u,hu=>by cases h;cases hu
 | a :: l, xs, h, u, hu => by
   obtain ⟨c,rest,rfl,hc,hr⟩:=h;rcases List.mem_append.1 hu with hu | hu
   ·exact hq c a hc u hu
   ·exact hr.all hq u hu
theorem RowC.len {R:List Value→α→Prop}{s:Nat}(hs:∀ c a,R c a→c.length=s):∀ {l:List α} {xs:List Value},RowC R xs l→xs.length=l.length*s
 | [],xs,h=>by cases h;simp
 | a :: l, xs, h => by
   obtain ⟨c,rest,rfl,hc,hr⟩:=h;rw [List.length_append,hs c a hc,hr.len hs,List.length_cons,Nat.succ_mul,Nat.add_comm]
theorem CellD.len (c:List Value)(d:Raw)(h:CellD w c d):c.length=3:=by obtain ⟨x,y,z,rfl,-⟩:=h;rfl
theorem CellI.len (c:List Value)(d:RawI)(h:CellI w c d):c.length=6:=by obtain ⟨x,y,z,x',y',z',rfl,-⟩:=h;rfl
theorem CellL.len (c:List Value)(d:Ln)(h:CellL w c d):c.length=9:=by obtain ⟨x,y,z,x',y',z',rfl,-⟩:=h;rfl
theorem OwnG.ivS {l:List RawI}(h:OwnG w base T 6 v n xs)(hc:RowC (CellI w) xs l)(hn:l.length=n):IvS w v l:=by
 obtain ⟨A,c,rfl,hcap⟩:=h.shape;subst hn;refine ⟨A,c,rfl,hcap,fun h0=>?_⟩;obtain ⟨b,c',e,-,hcl⟩:=h.at h0;injection e with e
 subst e;refine ⟨b,0,rfl,fun i a hi=>?_⟩;obtain ⟨cc,⟨x,y,z,x',y',z',rfl,hI⟩,hj⟩:=hc.at CellI.len i a hi;rw [Nat.zero_add];exact ⟨x,y,z,x',y',z',hcl _ _ (hj 0 (by decide)),hcl _ _ (hj 1 (by decide)),hcl _ _ (hj 2 (by decide)),hcl _ _ (hj 3 (by decide)),hcl _ _ (hj 4 (by decide)),hcl _ _ (hj 5 (by decide)),hI⟩
def SrcC (lo:Nat) (m:Nat) (news:List Value) (w:World) (v:Value):Prop:=∃ b,v=.slice (some ⟨b,0,none⟩) m m∧lo≤b∧∀ j u,news[j]?=some u→w.cell? ⟨b,j,none⟩=some u
theorem SrcC.kept (h:SrcC lo m news w v)(k:Kept w w'):SrcC lo m news w' v:=by
 obtain ⟨b,e,hb,hc⟩:=h;exact ⟨b,e,hb,fun j u hu=>(k.cell (p:=⟨b,j,none⟩) (Am (hc j u hu))).trans (hc j u hu)⟩
theorem SrcC.kb (h:SrcC lo m news w v)(k:KB w X w')(hX:∀ x∈X,x<lo):SrcC lo m news w' v:=by
 obtain ⟨b,e,hb,hc⟩:=h;exact ⟨b,e,hb,fun j u hu=>k.cell (hc j u hu) (fun hx=>by have:=hX b hx;omega)⟩
def Rv (C:World→List Value→Prop):Prop:=∀ w w' X xs,KB w X w'→C w xs→C w' xs
def SrcR (C:World→List Value→Prop) (lo m:Nat) (w:World) (v:Value):Prop:=∃ cs,C w cs∧SrcC lo m cs w v
theorem SrcR.kept (hC:Rv C)(h:SrcR C lo m w v)(k:Kept w w'):SrcR C lo m w' v:=by
 obtain ⟨cs,h1,h2⟩:=h;exact ⟨cs,hC _ _ [] _ (k.kb []) h1,h2.kept k⟩
theorem SrcR.kb (hC:Rv C)(h:SrcR C lo m w v)(k:KB w X w')(hX:∀ x∈X,x<lo):SrcR C lo m w' v:=by
 obtain ⟨cs,h1,h2⟩:=h;exact ⟨cs,hC _ _ _ _ k h1,h2.kb k hX⟩
def Al5 (v:Value):List Nat:=v.ownBlock.toList
theorem Agb :g∈Al5 v↔v.ownBlock=some g:=by unfold Al5;simp [Option.mem_toList]
def AppV (base:Nat) (T:TypeId) (s:Nat) (v:Value) (n:Nat) (C:World→List Value→Prop) (hs:Nat) (w:World) (v':Value):Prop :=
 (∃ xs,OwnG w base T s v' n xs∧C w xs)∧∃ g',v'.ownBlock=some g'∧(v.ownBlock=some g'∨hs≤g')
theorem AppV.same {s:Nat}(hC:Rv C)(h:AppV base T s v n C hs w v')(k:KB w X w')(hX:Zs v' X):AppV base T s v n C hs w' v':=by
 obtain ⟨⟨xs,h1,h2⟩,h3⟩:=h;exact ⟨⟨xs,h1.kb k hX,hC _ _ _ _ k h2⟩,h3⟩
theorem AppV.kept {s:Nat}(hC:Rv C)(h:AppV base T s v n C hs w v')(k:Kept w w'):AppV base T s v n C hs w' v':=h.same hC (k.kb []) (Yi _)
theorem AppV.mono {s:Nat}{hs':Nat}(h:AppV base T s v n C hs w v')(hle:hs'≤hs):AppV base T s v n C hs' w v':=by
 obtain ⟨h1,g,h2,h3⟩:=h;exact ⟨h1,g,h2,h3.imp id fun q=>Nat.le_trans hle q⟩
theorem AppV.low {s:Nat}(hC:Rv C)(h:AppV base T s v n C hs w v')(k:KB w [b] w')(hb:b<base):AppV base T s v n C hs w' v':=by
 obtain ⟨⟨xs,h1,h2⟩,h3⟩:=h;exact ⟨⟨xs,h1.kb k (fun g hg hm=>by have:=(h1.lt g hg).2;simp at hm;omega),hC _ _ _ _ k h2⟩,h3⟩
def AppJ (base:Nat) (T:TypeId) (s:Nat) (v:Value) (n:Nat) (xs:List Value) (n':Nat) (C:World→List Value→Prop) (b:Nat) (cs:Array Value) (o:Nat) (TB:TypeId) (hs:Nat) (l0 l1 l2:Bool) (w:World):Prop :=
 (l1=false→OwnG w base T s v n xs)∧(l2=false→w.heap[b]?=some (.cells cs TB (0,0))) ∧
 (l2=true→l0=true∧l1=true∧∃ v',w.heap[b]?=some (.cells (cs.setIfInBounds o v') TB (0,0))∧AppV base T s v n' C hs w v')
section
variable {base:Nat} {T:TypeId} {s:Nat} {v:Value} {n:Nat} {xs:List Value} {n':Nat} {C:World→List Value→Prop} {b:Nat} {cs:Array Value} {o:Nat} {TB:TypeId} {hs:Nat} {l0 l1 l2:Bool} {w w':World}
theorem AppJ.kept (hC:Rv C)(k:Kept w w')(h:AppJ base T s v n xs n' C b cs o TB hs l0 l1 l2 w):AppJ base T s v n xs n' C b cs o TB hs l0 l1 l2 w':=by
 obtain ⟨h1,h2,h3⟩:=h;refine ⟨fun e=>(h1 e).kept k,fun e=>by have hc:=h2 e;rw [k.block b (Array.getElem?_eq_some_iff.1 hc).1,hc],fun e=>?_⟩;obtain ⟨e0,e1,v',hb,hv⟩:=h3 e;exact ⟨e0,e1,v',by rw [k.block b (Array.getElem?_eq_some_iff.1 hb).1,hb],hv.kept hC k⟩
theorem AppJ.first (hl:l2=false)(h1:OwnG w base T s v n xs)(h2:w.heap[b]?=some (.cells cs TB (0,0))):AppJ base T s v n xs n' C b cs o TB hs l0 l1 l2 w:=⟨fun _=>h1,fun _=>h2,fun e=>by rw [hl] at e;cases e⟩
theorem AppJ.own (h:AppJ base T s v n xs n' C b cs o TB hs l0 l1 l2 w)(hl:l1=false):OwnG w base T s v n xs:=h.1 hl
theorem AppJ.box (h:AppJ base T s v n xs n' C b cs o TB hs l0 l1 l2 w)(hl:l0=false):w.heap[b]?=some (.cells cs TB (0,0)):=by
 refine h.2.1 ?_;cases l2
 ·rfl
 ·have:=(h.2.2 rfl).1;rw [hl] at this;cases this
theorem AppJ.did (h:AppJ base T s v n xs n' C b cs o TB hs l0 l1 l2 w)(hl:l1=false)(hg:w.grownBy w' v.ownBlock)(hb:b∉Al5 v):AppJ base T s v n xs n' C b cs o TB hs l0 true l2 w':=by
 obtain ⟨h1,h2,h3⟩:=h;refine ⟨fun e=>(by cases e),fun e=>?_,fun e=>?_⟩
 ·have hc:=h2 e;rw [hg.block b (Array.getElem?_eq_some_iff.1 hc).1 (fun e=>hb (Agb.2 e.symm)),hc]
 ·have:=(h3 e).2.1;rw [hl] at this;cases this
theorem AppJ.laid {v' x:Value}(hC:Rv C)(h:AppJ base T s v n xs n' C b cs o TB hs l0 l1 l2 w)(h0:l0=true)(h1:l1=true)(hl:l2=false)(ha:AppV base T s v n' C hs w v')(hb:b<base)(ho:cs[o]?=some x)(hx:Be x) :
 AppJ base T s v n xs n' C b cs o TB hs l0 l1 true (w.setCell ⟨b,o,none⟩ v')∧KB w [b] (w.setCell ⟨b,o,none⟩ v'):=by
 have hcell:=Ae (h.2.1 hl) o x ho;have hk:KB w [b] (w.setCell ⟨b,o,none⟩ v'):=(KB.refl w _).setCell (by simp) hcell hx v';exact ⟨⟨fun e=>(by rw [h1] at e;cases e),fun e=>(by cases e),fun _=>⟨h0,h1,v',Aw (h.2.1 hl) _,ha.low hC hk hb⟩⟩,hk⟩
theorem AppJ.done (h:AppJ base T s v n xs n' C b cs o TB hs l0 l1 l2 w)(hl:l2=true):∃ v',w.heap[b]?=some (.cells (cs.setIfInBounds o v') TB (0,0))∧AppV base T s v n' C hs w v':=(h.2.2 hl).2.2
end
theorem Am2 {z:Int}(hz:z.natAbs≤100000){e:Int}(e1:-40≤e)(e2:e≤0)(hT:Tab w):Calls Tryz.prog 20 #[.int .i64 z,.int .i64 e] w (RetE ⟨(dyz z e).raw,0⟩ w):=by
 have hf:=Abz (smZ hz e1 e2);by_cases h:z<0
 ·obtain ⟨n,rfl⟩:∃ n:Nat,z=-(n:Int):=⟨z.natAbs,by omega⟩;have:=Akv (w:=w) (k:=n) (e:=e) (by omega) (by omega) (by omega) (by omega) hT;rw [decide_eq_true h,Int.natAbs_neg,Int.natAbs_natCast] at hf;rw [hf] at this;exact this
 ·obtain ⟨n,rfl⟩:∃ n:Nat,z=(n:Int):=⟨z.natAbs,by omega⟩;have:=Oc (w:=w) (k:=n) (e:=e) (by omega) (by omega) (by omega) hT;rw [decide_eq_false h,Int.natAbs_natCast] at hf;rw [hf] at this;exact this
theorem RetGr.good {e:Ending}(h:RetGr o w e w'):Fk (fun u w=>∃ a b,u=.tuple #[a,b,.int .i64 o.k]∧IvS w a o.v.1∧RowsS w b o.v.2) w e w':=by
 obtain ⟨k,a,b,he,h1,h2⟩:=h;exact ⟨_,he,k,a,b,rfl,h1,h2⟩
def GrV (o:Outc (List RawI × List (List RawI))) (w:World) (u:Value):Prop:=∃ a b,u=.tuple #[a,b,.int .i64 o.k]∧IvS w a o.v.1∧RowsS w b o.v.2
theorem GrV.kept (h:GrV o w u)(k:Kept w w'):GrV o w' u:=by
 obtain ⟨a,b,e,h1,h2⟩:=h;exact ⟨a,b,e,h1.kept k,h2.kept k⟩
theorem Anv:(dyz 9 0).raw=⟨false,[9],0⟩:=by
 have hl:=G4 9 (by decide) (by decide);have h:Bu false 9 0=⟨⟨false,9,0⟩,0⟩:=Qa (d:=⟨false,9,0⟩) ⟨by rw [hl];decide,fun h=>absurd h (by decide),fun _=>rfl,by decide,by decide⟩;have h2:dyz 9 0=⟨false,9,0⟩:=congrArg Outc.v h;rw [h2];unfold Dy.raw;rw [hl]
theorem Anu:(dyz 6 0).raw=⟨false,[3],1⟩:=by
 have hl:=G4 3 (by decide) (by decide);have ht:tz 6=1:=Hb 6 1 3 rfl rfl;have h:Bu false 6 0=⟨⟨false,3,1⟩,0⟩:=by
  unfold Bu;rw [ht,if_neg (by decide),if_neg (by show ¬64<(limbs 3).length;rw [hl];decide),if_neg (by decide),if_neg (by decide)];rfl
 have h2:dyz 6 0=⟨false,3,1⟩:=congrArg Outc.v h;rw [h2];unfold Dy.raw;rw [hl]
theorem Yc:W5 Ma:=by
 intro l hl;unfold Ma at hl;simp only [List.mem_cons,List.not_mem_nil,or_false] at hl;rcases hl with rfl | rfl
 ·exact ⟨by decide,by decide,by show (0:Nat)≤17592186044416;decide,by show (0:Nat)≤17592186044416;decide⟩
 ·exact ⟨by decide,by decide,by show (0:Nat)≤17592186044416;decide,by show (0:Nat)≤17592186044416;decide⟩
theorem Zd:rzI.lens 17592186044416:=⟨by show (0:Nat)≤17592186044416;decide,by show (0:Nat)≤17592186044416;decide⟩
theorem Afz:Mh t10E:=⟨Zd,(by
 intro a ha;unfold t10E at ha;simp only [List.mem_cons,List.not_mem_nil,or_false] at ha;subst ha;exact F4 (Yn (Kg 3 0))),(by intro a ha;cases ha),(by intro a ha;cases ha),by decide,by decide,by decide⟩
theorem Ai2:Mh ⟨rzI,[],[],[]⟩:=⟨Zd,(by intro a ha;cases ha),(by intro a ha;cases ha),(by intro a ha;cases ha),by decide,by decide,by decide⟩
theorem Ai5 {cs:Array Value}(h:w.heap[b]?=some (.cells cs T (0,0)))(hc:RowC (CellL w) cs.toList ls):LnS w (.slice (some ⟨b,0,none⟩) ls.length ls.length) ls:=by
 refine ⟨_,_,rfl,Nat.le_refl _,fun _=>⟨b,0,rfl,fun i a hi=>?_⟩⟩;obtain ⟨cc,⟨x,y,z,x',y',z',rfl,hI⟩,hj⟩:=hc.at CellL.len i a hi;rw [Nat.zero_add];have hcl:∀ (j:Nat) u,cs.toList[j]?=some u→w.cell? ⟨b,j,none⟩=some u:=fun j u hu=>Ae h j u (by rwa [Array.getElem?_toList] at hu)
 exact ⟨hcl _ _ (hj 0 (by decide)),hcl _ _ (hj 1 (by decide)),hcl _ _ (hj 2 (by decide)),x,y,z,x',y',z',hcl _ _ (hj 3 (by decide)),hcl _ _ (hj 4 (by decide)),hcl _ _ (hj 5 (by decide)),hcl _ _ (hj 6 (by decide)),hcl _ _ (hj 7 (by decide)),hcl _ _ (hj 8 (by decide)),hI⟩
theorem Afv {n:Int}(h:w.heap[b]?=some (.cells #[.int .i64 n] T (0,0))):InS w (.slice (some ⟨b,0,none⟩) 1 1) [n] :=
 ⟨_, _, rfl, Nat.le_refl _, fun _ => ⟨b, 0, rfl, fun i a hi => by
  rcases i with _ | i
  ·cases hi;exact Ae h 0 _ rfl
  ·simp at hi⟩⟩
theorem Abs (w:World)(op a b:Int):CellL w [.int .i64 op,.int .i64 a,.int .i64 b,.bool false,.slice none 0 0,.int .i64 0,.bool false,.slice none 0 0,.int .i64 0] ⟨op,a,b,rzI⟩:=⟨_,_,_,_,_,_,rfl,Ep w⟩
theorem Ala (w:World):∃ V,V=((w.alloc (.cells #[.int .i64 3,.int .i64 0,.int .i64 0,.bool false,.slice none 0 0,.int .i64 0,.bool false,.slice none 0 0,.int .i64 0,.int .i64 8,.int .i64 0,.int .i64 0,.bool false,.slice none 0 0,.int .i64 0,.bool false,.slice none 0 0,.int .i64 0] 52)).alloc
 (.cells #[.int .i64 1] 3)).alloc (.cells #[.slice (some ⟨w.heap.size,0,none⟩) 2 2,.slice (some ⟨w.heap.size+1,0,none⟩) 1 1] 25)∧Kept w V ∧
 V.heap[w.heap.size+1+1]?=some (.cells #[.slice (some ⟨w.heap.size,0,none⟩) 2 2,.slice (some ⟨w.heap.size+1,0,none⟩) 1 1] 25 (0,0)) ∧
 TpR V (.agg #[.slice (some ⟨w.heap.size,0,none⟩) 2 2,.slice (some ⟨w.heap.size+1,0,none⟩) 1 1]) Ma [1]:=by
 obtain ⟨w1,h1⟩:∃ w1,w1=w.alloc (.cells #[.int .i64 3,.int .i64 0,.int .i64 0,.bool false,.slice none 0 0,.int .i64 0,.bool false,.slice none 0 0,.int .i64 0,.int .i64 8,.int .i64 0,.int .i64 0,.bool false,.slice none 0 0,.int .i64 0,.bool false,.slice none 0 0,.int .i64 0] 52):=⟨_,rfl⟩;have k1:Kept w w1:=by rw [h1];exact Ad _ _
 have s1:w1.heap.size=w.heap.size+1:=by rw [h1];simp
 have b1:=(congrArg (fun v:World=>v.heap[w.heap.size]?) h1).trans (heap_alloc_new _ _);rw [←h1];obtain ⟨w2,h2⟩:∃ w2,w2=w1.alloc (.cells #[.int .i64 1] 3):=⟨_,rfl⟩;have k2:Kept w1 w2:=by rw [h2];exact Ad _ _
 have s2:w2.heap.size=w.heap.size+1+1:=by rw [h2,←s1];simp
 have b2:=(congrArg (fun v:World=>v.heap[w1.heap.size]?) h2).trans (heap_alloc_new _ _);rw [←h2];refine ⟨_,rfl,(k1.trans k2).trans (Ad _ _),?_,_,_,rfl,?_,?_⟩
 ·rw [←s2];exact heap_alloc_new _ _
 ·have hb:=Bk b1 (k2.trans (Ad w2 (.cells #[.slice (some ⟨w.heap.size,0,none⟩) 2 2,.slice (some ⟨w.heap.size+1,0,none⟩) 1 1] 25)));exact Ai5 hb (RowC.append (RowC.one (Abs _ 3 0 0)) (RowC.one (Abs _ 8 0 0)))
 ·have hb:=Bk b2 (Ad w2 (.cells #[.slice (some ⟨w.heap.size,0,none⟩) 2 2,.slice (some ⟨w.heap.size+1,0,none⟩) 1 1] 25));rw [s1] at hb;exact Afv hb
theorem Aca (hn:n<18446744073709551616)(h:w.heap[b]?=some (.cells #[.int .u64 (n:Int)] T (0,0))):Lim w (.slice (some ⟨b,0,none⟩) 1 1) [n]:=by
 refine ⟨fun x hx=>by simp at hx;omega,some ⟨b,0,none⟩,1,rfl,Nat.le_refl _,fun _=>⟨b,0,rfl,(Array.getElem?_eq_some_iff.1 h).1,fun i hi=>?_⟩⟩;have hi:i<1:=hi;obtain rfl:i=0:=by omega
 exact Ae h 0 _ rfl
def Vk (op:Int):Prop:=op=6∨op=7∨op=8
theorem Agt:Zt Vk :=
 ⟨fun _ _ _ _ _ _ _=>Ake,fun _ _ _ _ _ _ _=>Aki,fun _ _ _ _ _ _ _=>Akf,fun h=>absurd h (by unfold Vk;decide),fun h=>absurd h (by unfold Vk;decide),fun h=>absurd h (by unfold Vk;decide),fun h=>absurd h (by unfold Vk;decide)⟩
def Op678 (ls:List Ln):Prop:=∀ l∈ls,l.op=1∨l.op=3∨l.op=6∨l.op=7∨l.op=8
theorem Op678.s (h:Op678 ls):∀ l∈ls,6≤l.op→l.op≤12→Vk l.op:=fun l hl h6 _=>by
 have:=h l hl;unfold Vk;omega
theorem Op678.d (h:Op678 ls):∀ l∈ls,Ahz Vk l.op:=fun l hl n hn=>by
 rcases h l hl with e | e | e | e | e<;>rw [e] at hn<;>(unfold Vk;simp [Ako] at hn<;>omega)
theorem Lb (hT:Tab w):Calls Tryz.prog 13 #[] w (RetK (.bool true) w):=by
 have T:=hid hT;have O10:Op678 Ma:=by intro l hl;unfold Ma at hl;simp only [List.mem_cons,List.not_mem_nil,or_false] at hl;rcases hl with rfl | rfl<;>simp
 obtain ⟨d3,hd3⟩:∃ d,d=dyz 3 0:=⟨_,rfl⟩;have C1:=hid (fun w1 (k:Kept w w1)=>show Calls Tryz.prog 20 #[.int .i64 3,.int .i64 0] w1 (RetE ⟨d3.raw,0⟩ w1) by rw [hd3];exact Am2 (z:=3) (e:=0) (by decide) (by decide) (by decide) (hT.kept k));have C2:=hid (fun w1 (k:Kept w w1) vt ve (ht:TpR w1 vt Ma [1]) (he:EnR w1 ve ⟨rzI,[(pt d3).raw],[],[]⟩)=>show Calls Tryz.prog 14 #[vt,ve,.int .i64 20] w1 (RetGr ⟨([(pt (dyz 9 0)).raw],[[(pt (dyz 6 0)).raw]]),0⟩ w1) by
  have h:=V8 (ov:=fun _ _=>⟨iz,0⟩) (p:=20) ht (e:=t10E) (by rw [hd3] at he;exact he) Yc Afz (by decide) (hT.kept k) (by intro l hl;unfold Ma at hl;simp only [List.mem_cons,List.not_mem_nil,or_false] at hl;rcases hl with rfl | rfl<;>(intro h;exact absurd h (by decide))) Agt O10.s O10.d;rw [Ahl] at h;exact h)
 have C3:=hid (fun w1 (k:Kept w w1) vt ve (ht:TpR w1 vt Ma [1]) (he:EnR w1 ve ⟨rzI,[],[],[]⟩)=>show Calls Tryz.prog 14 #[vt,ve,.int .i64 20] w1 (RetGr ⟨([],[]),1⟩ w1) by
  have h:=V8 (ov:=fun _ _=>⟨iz,0⟩) (p:=20) ht he Yc Ai2 (by decide) (hT.kept k) (by intro l hl;unfold Ma at hl;simp only [List.mem_cons,List.not_mem_nil,or_false] at hl;rcases hl with rfl | rfl<;>(intro h;exact absurd h (by decide))) Agt O10.s O10.d;rw [Ahm] at h;exact h)
 have G9:=hid (show (pt (dyz 9 0)).raw=⟨⟨false,[9],0⟩,⟨false,[9],0⟩⟩ by show RawI.mk (dyz 9 0).raw (dyz 9 0).raw=_;rw [Anv]);have G6:=hid (show (pt (dyz 6 0)).raw=⟨⟨false,[3],1⟩,⟨false,[3],1⟩⟩ by show RawI.mk (dyz 6 0).raw (dyz 6 0).raw=_;rw [Anu]);rw [G9.out,G6.out] at C2;clear hd3 hT G9 G6 O10;go_enter Tryz.func13,Tryz.ntmps13;go_wp2_with fail;refine (C1.out _ (Below.refl _ _)).mono ?_;rintro e w1 ⟨q,u,rfl,hd⟩;obtain ⟨A1,l1,c1,rfl,hd⟩:=Bj hd;simp only [];obtain ⟨V1,hV1,kV1,hb1,lV1⟩:=Aia w1 (.bool d3.neg) (.slice A1 l1 c1) (.int .i64 d3.e);have HV:=hid hV1;have K:=hid (q.trans kV1);have B1:=hid hb1
 have D1:=hid (hd.kept kV1);clear hV1 hb1 hd q kV1;go_upto_region 2 with fail;rw [←HV.out];clear HV;obtain ⟨V2,hV2,kV2,hb2,ht2⟩:=Ala V1;have HV:=hid hV2;have B2:=hid hb2;have T2:=hid ht2;have KX:=hid kV2;clear hV2 hb2 ht2 kV2;go_upto_region 3 with fail;rw [←HV.out];clear HV;replace K:=hid (K.out.trans KX.out);replace D1:=hid (D1.out.kept KX.out);replace B1:=hid (B1.out.kept KX.out);clear KX;generalize V1.heap.size+1+1=n3 at *;generalize w1.heap.size=n1 at *
 refine rgL 13 ([(vE (.agg #[.slice (some ⟨V1.heap.size,0,none⟩) 2 2,.slice (some ⟨V1.heap.size+1,0,none⟩) 1 1])),(vE (.agg #[.bool d3.neg,.slice A1 l1 c1,.int .i64 d3.e])),(fun v wv=>IvR wv v ((pt d3).raw)),(fun v wv=>IvS wv v [(pt d3).raw]),(fun v wv=>EnR wv v ⟨rzI,[(pt d3).raw],[],[]⟩),(fun v wv=>GrV ⟨([⟨⟨false,[9],0⟩,⟨false,[9],0⟩⟩],[[⟨⟨false,[3],1⟩,⟨false,[3],1⟩⟩]]),0⟩ wv v),(fun v wv=>GrV ⟨([⟨⟨false,[9],0⟩,⟨false,[9],0⟩⟩],[[⟨⟨false,[3],1⟩,⟨false,[3],1⟩⟩]]),0⟩ wv v),(fun v wv=>IvS wv v [⟨⟨false,[9],0⟩,⟨false,[9],0⟩⟩]),(fun v wv=>RowsS wv v [[⟨⟨false,[3],1⟩,⟨false,[3],1⟩⟩]]),(vE (.int .i64 0)),(fun v wv=>IvS wv v [⟨⟨false,[9],0⟩,⟨false,[9],0⟩⟩]),(fun v wv=>RowsS wv v [[⟨⟨false,[3],1⟩,⟨false,[3],1⟩⟩]]),(vE (.int .i64 0))])
  (hM:=⟨⟨mE,mE,fun v w w' k h=>by first | exact h | exact h.kept k | exact ⟨h.1,h.2.kept k⟩,fun v w w' k h=>by first | exact h | exact h.kept k | exact ⟨h.1,h.2.kept k⟩,fun v w w' k h=>by first | exact h | exact h.kept k | exact ⟨h.1,h.2.kept k⟩,fun v w w' k h=>by first | exact h | exact h.kept k | exact ⟨h.1,h.2.kept k⟩,fun v w w' k h=>by first | exact h | exact h.kept k | exact ⟨h.1,h.2.kept k⟩,fun v w w' k h=>by first | exact h | exact h.kept k | exact ⟨h.1,h.2.kept k⟩,fun v w w' k h=>by first | exact h | exact h.kept k | exact ⟨h.1,h.2.kept k⟩,mE,fun v w w' k h=>by first | exact h | exact h.kept k | exact ⟨h.1,h.2.kept k⟩,fun v w w' k h=>by first | exact h | exact h.kept k | exact ⟨h.1,h.2.kept k⟩,mE,trivial⟩⟩) ⟨
    (fun aF wF F=>by have s3:=F.q 3 (.pointer (some ⟨n3,0,none⟩));have c0:=Ai B2.out F.kept 0 _ rfl;have c1:=Ai B2.out F.kept 1 _ rfl;exact sv rfl),(gql 1 fun _ k=>c3 B1.out k),(fun aF wF F=>by have s21:=F.v 1 21;exact sI (Akm (D1.out.kept F.kept)) fun _ _ h=>h),(fun aF wF F=>by have s22:=F.p 2 22;obtain ⟨P1,t1,k1,P2,t2,k2,ee,v1',v2'⟩:=Aq s22;simp only [Array.getD_eq_getD_getElem?] at ee;exact sNa (Afw ⟨_,_,_,_,_,_,rfl,v1',v2'⟩)),(fun aF wF F=>by have s23:=F.p 3 23;have hs:=s23;obtain ⟨A9,c9,e9,-,-⟩:=s23;rw [e9] at hs;simp only [Array.getD_eq_getD_getElem?] at e9;exact sv ⟨_,_,_,_,_,_,_,_,_,rfl,Ep _,hs,Hi _,Hi _⟩),(fun aF wF F=>by have s20:=F.v 0 20;have s24:=F.p 4 24;exact Av (by simp [Region.wanted]) (by go_simp) (C2.out _ (K.out.trans F.kept) _ _ (T2.out.kept F.kept) s24) (fun _ _ h=>RetGr.good h) (fun _ _ h=>h)),(gm 5 25),(fun aF wF F=>by have s19:=F.p 6 19;obtain ⟨a,b,ee,h1,h2⟩:=s19;exact sv h1),(fun aF wF F=>by have s19:=F.p 6 19;obtain ⟨a,b,ee,h1,h2⟩:=s19;exact sv h2),(fun aF wF F=>by have s19:=F.p 6 19;exact sw (by obtain ⟨a,b,ee,h1,h2⟩:=s19;go_simp) rfl),(gm 7 26),(gm 8 27),(gv 9 28),
    trivial⟩ ?_
 intro u w2 q hu;have p22:=hp hu 2;have p23:=hp hu 3;have p24:=hp hu 4;have p25:=hp hu 5;have p19:=hp hu 6;have p26:=hp hu 7;have p27:=hp hu 8;have p4:=hp hu 10;have p5:=hp hu 11;simp only [Ax,Al,if_true,Act.put,zlA,zlB,zlC,zlD,zlE,zlF,zlG,hv hu 0,hv hu 1,hv hu 9,hv hu 12];clear hu;generalize u 2=v22,u 3=v23,u 4=v24,u 5=v25,u 6=v19,u 7=v26,u 8=v27,u 10=v4,u 11=v5 at *;clear p19 p22 p23 p24 p25 p26 p27;obtain ⟨A4,c4,rfl,-,h4⟩:=p4;obtain ⟨b4,o4,rfl,g4⟩:=h4 (by simp);obtain ⟨x0,x1,x2,x3,x4,x5,s0,s1,s2,s3,s4,s5,hI4⟩:=g4 0 _ rfl;obtain ⟨A5,c5,rfl,-,h5⟩:=p5;obtain ⟨b5,o5,rfl,g5⟩:=h5 (by simp);obtain ⟨s,hs,hS⟩:=g5 0 _ rfl
 obtain ⟨A6,c6,rfl,-,h6⟩:=hS;obtain ⟨b6,o6,rfl,g6⟩:=h6 (by simp);obtain ⟨y0,y1,y2,y3,y4,y5,r0,r1,r2,r3,r4,r5,hI6⟩:=g6 0 _ rfl;rw [Nat.zero_mul,Nat.add_zero] at s0 s1 s2 r0 r1 r2;rw [Nat.add_zero] at hs;have E0:=hid (And.intro s0 (And.intro s1 s2));have E6:=hid (And.intro r0 (And.intro r1 r2));have ES:=hid hs;obtain ⟨_,_,_,_,_,_,hh4,d4,-⟩:=hI4;simp only [Value.agg.injEq,List.cons.injEq,Array.mk.injEq,and_true] at hh4;obtain ⟨rfl,rfl,rfl,rfl,rfl,rfl⟩:=hh4;obtain ⟨_,_,_,_,_,_,hh6,d6,-⟩:=hI6;simp only [Value.agg.injEq,List.cons.injEq,Array.mk.injEq,and_true] at hh6;obtain ⟨rfl,rfl,rfl,rfl,rfl,rfl⟩:=hh6
 have D4:=hid d4;have D6:=hid d6;clear s0 s1 s2 s3 s4 s5 r0 r1 r2 r3 r4 r5 d4 d6 h4 h5 h6 g4 g5 g6 hs;obtain ⟨e0,e1⟩:=E4 (Bk B2.out q);replace K:=hid (K.out.trans q);have TT2:=hid (T2.out.kept q);clear B1 B2 D1 T2 q;go_wp2_with fail;refine (C3.out _ K.out _ _ TT2.out ⟨_,_,_,_,_,_,_,_,_,rfl,Ep _,Hi _,Hi _,Hi _⟩).mono ?_;rintro e w3 ⟨q3,a,b,rfl,-,-⟩;replace K:=hid (K.out.trans q3)
 have F0:=hid (show w3.cell? ⟨b4,o4,none⟩=some x0∧w3.cell? ⟨b4,o4+1,none⟩=some x1∧w3.cell? ⟨b4,o4+2,none⟩=some x2 from
  ⟨(q3.cell (p:=⟨b4,o4,none⟩) (Am E0.out.1)).trans E0.out.1,(q3.cell (p:=⟨b4,o4+1,none⟩) (Am E0.out.2.1)).trans E0.out.2.1,(q3.cell (p:=⟨b4,o4+2,none⟩) (Am E0.out.2.2)).trans E0.out.2.2⟩)
 have F6:=hid (show w3.cell? ⟨b6,o6,none⟩=some y0∧w3.cell? ⟨b6,o6+1,none⟩=some y1∧w3.cell? ⟨b6,o6+2,none⟩=some y2 from
  ⟨(q3.cell (p:=⟨b6,o6,none⟩) (Am E6.out.1)).trans E6.out.1,(q3.cell (p:=⟨b6,o6+1,none⟩) (Am E6.out.2.1)).trans E6.out.2.1,(q3.cell (p:=⟨b6,o6+2,none⟩) (Am E6.out.2.2)).trans E6.out.2.2⟩)
 have FS:=hid ((q3.cell (p:=⟨b5,o5,none⟩) (Am ES.out)).trans ES.out);replace D4:=hid (D4.out.kept q3);replace D6:=hid (D6.out.kept q3);clear E0 E6 ES TT2 q3 e0 e1 C1 C2 C3;simp only [];go_upto_region 5 with fail
 refine rS 48 ([(vE (.int .i64 0)),(vE (.bool true)),(vE (.bool true)),(vE (.int .i64 0)),(vE (.bool true)),(vE (.bool true)),(vE (.bool true)),(vE (.slice (some ⟨b4,o4,none⟩) 1 c4)),(vE (.int .i64 1)),(vE (.bool true)),(vE (.bool true)),(vE (.bool true)),(vE (.slice (some ⟨b4,o4,none⟩) 1 c4)),(vE (.pointer (some ⟨b4,o4,none⟩))),(vE (.pointer (some ⟨b4,o4,none⟩))),(vE (.agg #[x0,x1,x2])),(fun v wv=>∃ b,v=.slice (some ⟨b,0,none⟩) 1 1∧Lim wv (.slice (some ⟨b,0,none⟩) 1 1) [9]),(fun v wv=>DyR wv v ⟨false,[9],0⟩),(vE (.bool true)),(vE (.bool true)),(vE (.bool true)),(vE (.slice (some ⟨b5,o5,none⟩) 1 c5)),(vE (.int .i64 1)),(vE (.bool true)),(vE (.bool true)),(vE (.bool true)),(vE (.slice (some ⟨b5,o5,none⟩) 1 c5)),(vE (.pointer (some ⟨b5,o5,none⟩))),(vE (.slice (some ⟨b6,o6,none⟩) 1 c6)),(vE (.int .i64 1)),(vE (.bool true)),(vE (.bool true)),(vE (.bool true)),(vE (.slice (some ⟨b5,o5,none⟩) 1 c5)),(vE (.pointer (some ⟨b5,o5,none⟩))),(vE (.slice (some ⟨b6,o6,none⟩) 1 c6)),(vE (.pointer (some ⟨b6,o6,none⟩))),(vE (.pointer (some ⟨b6,o6,none⟩))),(vE (.agg #[y0,y1,y2])),(fun v wv=>∃ b,v=.slice (some ⟨b,0,none⟩) 1 1∧Lim wv (.slice (some ⟨b,0,none⟩) 1 1) [3]),(fun v wv=>DyR wv v ⟨false,[3],1⟩),(vE (.bool true)),(vE (.bool true)),(vE (.bool true)),(vE (.int .i64 1)),(vE (.bool true)),(vE (.bool true)),(vE (.bool true))])
  (hM:=⟨⟨mE,mE,mE,mE,mE,mE,mE,mE,mE,mE,mE,mE,mE,mE,mE,mE,fun v w w' k h=>by obtain ⟨b,h1,h2⟩:=h;exact ⟨b,h1,h2.kept k⟩,mD,mE,mE,mE,mE,mE,mE,mE,mE,mE,mE,mE,mE,mE,mE,mE,mE,mE,mE,mE,mE,mE,fun v w w' k h=>by obtain ⟨b,h1,h2⟩:=h;exact ⟨b,h1,h2.kept k⟩,mD,mE,mE,mE,mE,mE,mE,mE,trivial⟩⟩) ⟨
    (gq 2),(gv 0 36),(gv 1 37),(fun aF wF F=>by have s6:=F.q 6 (.int .i64 0);have sg:=F.v 2 38;exact Ar ((Aj rfl rfl sg).trans rfl) (by go_simp) rfl),(fun aF wF F=>by have s39:=F.v 3 39;have sg:=F.v 2 38;exact Ar ((Aj rfl rfl sg).trans rfl) (by go_simp) rfl),(gvv 2 38 4 40),(gv 5 41),(fun aF wF F=>by have s4:=F.q 4 (.slice (some ⟨b4,o4,none⟩) 1 c4);have sg:=F.v 6 42;exact Ar ((Aj rfl rfl sg).trans rfl) (by go_simp) rfl),(fun aF wF F=>by have s43:=F.v 7 43;have sg:=F.v 6 42;exact Ar ((Aj rfl rfl sg).trans rfl) (by go_simp) rfl),(fun aF wF F=>by have s44:=F.v 8 44;have sg:=F.v 6 42;exact Ar ((Aj rfl rfl sg).trans rfl) (by go_simp) rfl),(gvv 6 42 9 45),(gv 10 46),(fun aF wF F=>by have s4:=F.q 4 (.slice (some ⟨b4,o4,none⟩) 1 c4);have sg:=F.v 11 47;exact Ar ((Aj rfl rfl sg).trans rfl) (by go_simp) rfl),(fun aF wF F=>by have s48:=F.v 12 48;have sg:=F.v 11 47;exact Ar ((Aj rfl rfl sg).trans rfl) (by go_simp) rfl),(fun aF wF F=>by have s49:=F.v 13 49;have sg:=F.v 11 47;exact Ar ((Aj rfl rfl sg).trans rfl) (by go_simp) rfl),(fun aF wF F=>by have s50:=F.v 14 50;have sg:=F.v 11 47;exact Ar ((Aj rfl rfl sg).trans rfl) (by (have n0:=(F.kept.cell (p:=⟨b4,o4,none⟩) (Am F0.out.1)).trans F0.out.1;have n1:=(F.kept.cell (p:=⟨b4,o4+1,none⟩) (Am F0.out.2.1)).trans F0.out.2.1;have n2:=(F.kept.cell (p:=⟨b4,o4+2,none⟩) (Am F0.out.2.2)).trans F0.out.2.2;go_simp)) rfl),(fun aF wF F=>by have sg:=F.v 11 47;exact Pv ((Aj rfl rfl sg).trans rfl) (by first | (go_simp;done) | (go_simp;rfl)) (Ad _ _) ⟨_,rfl,Aca (n:=9) (T:=55) (by decide) (heap_alloc_new _ _)⟩),(fun aF wF F=>by have s52:=F.p 16 52;have sg:=F.v 11 47;obtain ⟨b,ee,hh⟩:=s52;simp only [Array.getD_eq_getD_getElem?] at ee;exact Ar ((Aj rfl rfl sg).trans rfl) (by go_simp) ⟨_,rfl,hh,by decide,by decide⟩),(fun aF wF F=>by have s51:=F.v 15 51;have s53:=F.p 17 53;have sg:=F.v 11 47;exact Av ((Aj rfl rfl sg).trans rfl) (by go_simp) (Pc (D4.out.kept F.kept) s53 (by decide)) (fun _ _ h=>RetK.good h) (fun _ _ h=>h)),(gvv 11 47 18 54),(gv 19 55),(fun aF wF F=>by have s5:=F.q 5 (.slice (some ⟨b5,o5,none⟩) 1 c5);have sg:=F.v 20 56;exact Ar ((Aj rfl rfl sg).trans rfl) (by go_simp) rfl),(fun aF wF F=>by have s57:=F.v 21 57;have sg:=F.v 20 56;exact Ar ((Aj rfl rfl sg).trans rfl) (by go_simp) rfl),(fun aF wF F=>by have s58:=F.v 22 58;have sg:=F.v 20 56;exact Ar ((Aj rfl rfl sg).trans rfl) (by go_simp) rfl),(gvv 20 56 23 59),(gv 24 60),(fun aF wF F=>by have s5:=F.q 5 (.slice (some ⟨b5,o5,none⟩) 1 c5);have sg:=F.v 25 61;exact Ar ((Aj rfl rfl sg).trans rfl) (by go_simp) rfl),(fun aF wF F=>by have s62:=F.v 26 62;have sg:=F.v 25 61;exact Ar ((Aj rfl rfl sg).trans rfl) (by go_simp) rfl),(fun aF wF F=>by have s63:=F.v 27 63;have sg:=F.v 25 61;exact Ar ((Aj rfl rfl sg).trans rfl) (by (have n0:=(F.kept.cell (p:=⟨b5,o5,none⟩) (Am FS.out)).trans FS.out;go_simp)) rfl),(fun aF wF F=>by have s64:=F.v 28 64;have sg:=F.v 25 61;exact Ar ((Aj rfl rfl sg).trans rfl) (by go_simp) rfl),(fun aF wF F=>by have s65:=F.v 29 65;have sg:=F.v 25 61;exact Ar ((Aj rfl rfl sg).trans rfl) (by go_simp) rfl),(gvv 25 61 30 66),(gv 31 67),(fun aF wF F=>by have s5:=F.q 5 (.slice (some ⟨b5,o5,none⟩) 1 c5);have sg:=F.v 32 68;exact Ar ((Aj rfl rfl sg).trans rfl) (by go_simp) rfl),(fun aF wF F=>by have s69:=F.v 33 69;have sg:=F.v 32 68;exact Ar ((Aj rfl rfl sg).trans rfl) (by go_simp) rfl),(fun aF wF F=>by have s70:=F.v 34 70;have sg:=F.v 32 68;exact Ar ((Aj rfl rfl sg).trans rfl) (by (have n0:=(F.kept.cell (p:=⟨b5,o5,none⟩) (Am FS.out)).trans FS.out;go_simp)) rfl),(fun aF wF F=>by have s71:=F.v 35 71;have sg:=F.v 32 68;exact Ar ((Aj rfl rfl sg).trans rfl) (by go_simp) rfl),(fun aF wF F=>by have s72:=F.v 36 72;have sg:=F.v 32 68;exact Ar ((Aj rfl rfl sg).trans rfl) (by go_simp) rfl),(fun aF wF F=>by have s73:=F.v 37 73;have sg:=F.v 32 68;exact Ar ((Aj rfl rfl sg).trans rfl) (by (have n0:=(F.kept.cell (p:=⟨b6,o6,none⟩) (Am F6.out.1)).trans F6.out.1;have n1:=(F.kept.cell (p:=⟨b6,o6+1,none⟩) (Am F6.out.2.1)).trans F6.out.2.1;have n2:=(F.kept.cell (p:=⟨b6,o6+2,none⟩) (Am F6.out.2.2)).trans F6.out.2.2;go_simp)) rfl),(fun aF wF F=>by have sg:=F.v 32 68;exact Pv ((Aj rfl rfl sg).trans rfl) (by first | (go_simp;done) | (go_simp;rfl)) (Ad _ _) ⟨_,rfl,Aca (n:=3) (T:=55) (by decide) (heap_alloc_new _ _)⟩),(fun aF wF F=>by have s75:=F.p 39 75;have sg:=F.v 32 68;obtain ⟨b,ee,hh⟩:=s75;simp only [Array.getD_eq_getD_getElem?] at ee;exact Ar ((Aj rfl rfl sg).trans rfl) (by go_simp) ⟨_,rfl,hh,by decide,by decide⟩),(fun aF wF F=>by have s74:=F.v 38 74;have s76:=F.p 40 76;have sg:=F.v 32 68;exact Av ((Aj rfl rfl sg).trans rfl) (by go_simp) (Pc (D6.out.kept F.kept) s76 (by decide)) (fun _ _ h=>RetK.good h) (fun _ _ h=>h)),(gvv 32 68 41 77),(gv 42 78),(fun aF wF F=>by have s9:=F.q 9 (.int .i64 1);have sg:=F.v 43 79;exact Ar ((Aj rfl rfl sg).trans rfl) (by go_simp) rfl),(fun aF wF F=>by have s80:=F.v 44 80;have sg:=F.v 43 79;exact Ar ((Aj rfl rfl sg).trans rfl) (by go_simp) rfl),(gvv 43 79 45 81),(gv 46 82),
    trivial⟩ ?_
 intro u w4 q hu;have p52:=hp hu 16;have p53:=hp hu 17;have p75:=hp hu 39;have p76:=hp hu 40;simp only [Ax,Al,if_true,Act.put,zlA,zlB,zlC,zlD,zlE,zlF,zlG,hv hu 0,hv hu 1,hv hu 2,hv hu 3,hv hu 4,hv hu 5,hv hu 6,hv hu 7,hv hu 8,hv hu 9,hv hu 10,hv hu 11,hv hu 12,hv hu 13,hv hu 14,hv hu 15,hv hu 18,hv hu 19,hv hu 20,hv hu 21,hv hu 22,hv hu 23,hv hu 24,hv hu 25,hv hu 26,hv hu 27,hv hu 28,hv hu 29,hv hu 30,hv hu 31,hv hu 32,hv hu 33,hv hu 34,hv hu 35,hv hu 36,hv hu 37,hv hu 38,hv hu 41,hv hu 42,hv hu 43,hv hu 44,hv hu 45,hv hu 46,hv hu 47];clear hu;generalize u 16=v52,u 17=v53,u 39=v75,u 40=v76 at *
 go_wp2_with fail;go_ret;exact ⟨rfl,K.out.trans q⟩
end Go.Proofs.YtabjjdicffcolaaGreatDoor
