/- Words and contracts, part 44. -/
import Derived.Test.YtmgaloopddiekaaGreatDoorClaimFargsp37
import Derived.Test.YtmgaloopddiekaaGreatDoorClaimFargsp43
set_option maxRecDepth 100000
set_option maxHeartbeats 0
namespace Go.Proofs.YtmgaloopddiekaaGreatDoor
open Go.Lib (hid)
open Go.RowKit
def ovF:Iv→Nat→Outc Iv:=fun _ _=>⟨iz,0⟩
def tF:List Ln:=[⟨1,0,0,⟨⟨false,[1],0⟩,⟨false,[1],0⟩⟩⟩]
def oF:Iv:=pt (dyz 1 0)
def hF:Dy:=dyz 1 (-4)
def eF:Dy:=dyz 1 (-2)
def xF (j:Nat):Dy:=dyz j (-4)
def gF (j:Nat):Iv:=⟨xF j,xF (j+1)⟩
def aF9 (j:Nat):Iv:=⟨dz,xF j⟩
def lfF (j:Nat):Dy:=dyz (4-(j:Int)) (-4)
def bF9 (j:Nat):Iv:=⟨dyz ((j:Int)-2) (-4),dyz ((j:Int)+2) (-4)⟩
def zF:Iv:=⟨dz,hF⟩
theorem Az {a:Iv}(h:Ck a.raw=true):a.Ok:=by
 have:=Gi (a:=a.raw) (Cq _) (Cq _) h;rw [Iv.raw_iv] at this;exact this.1
theorem Hn {S:Int→Prop}{w:World}{As Ao Ap:Option Addr}{ns cs no co np cp k:Nat}{a t:Iv}{c9:List RawI}{u v:Value}(Y:SysF S ovF w As ns cs Ao no co Ap np cp 60 tF [0] [])(h9:S 9)(oa:a.Ok)(ot:t.Ok)(hu:IvR w u t.raw)(hv:IvS w v [a.raw])
 (hw:Lj k 60=true) (hr:(De a 60).k=0) (hst:Mc ovF 60 tF [0] [] [] [[(De a 60).v.raw]] (List.range' 0 k)=⟨[c9],0⟩) :
 Calls Tryz.prog 191 #[.agg #[.slice As ns cs,.slice Ao no co],u,v,.slice Ap np cp,.int .i64 (k:Int),.int .i64 60] w (O6 ⟨[c9],0⟩ w):=by
 obtain ⟨rfl,rfl,rfl⟩:=Y.nil rfl;obtain ⟨b,o,c,A,l,d,A',l',d',rfl,hc,hC,hI⟩:=hv.one;obtain ⟨B,i,g,B',i',g',rfl,-,-⟩:=Ar hu;have k12:k≤12:=by
  unfold Lj at hw;simp only [Bool.and_eq_true,decide_eq_true_eq] at hw;omega
 refine Xp (fun h=>absurd rfl h) fun w1 q B=>Ad4 (ov:=ovF) (time:=[]) Y.O h9 B.b B.k B.f B.x B.p B.t (Six.kept hC q) (hI.kept q) (Wd oa) (hu.kept q) (Wd ot) (Y.hv.kept q) Y.hok Y.hn rfl (by intro n hn;simp only [List.mem_singleton] at hn;subst hn;exact ⟨by decide,by decide⟩) hw (by kernel_rfl) ?_ (Y.hT.kept q) (by rw [Iv.raw_iv];exact hr) (by rw [Iv.raw_iv];exact hst)
 intro n c9 hn _ _ i l hl;rcases i with _ | i
 ·cases hl;exact Ajl rfl (by have:=Gi (a:=⟨⟨false,[1],0⟩,⟨false,[1],0⟩⟩) (by intro x hx;simp at hx;omega) (by intro x hx;simp at hx;omega) (by kernel_rfl);exact this) (by omega) (by decide) (by decide)
 ·simp [tF] at hl
def cF (a:Iv) (k:Nat):List RawI:=a.raw::oF.raw::List.replicate k rzI
def ysF (s:Iv) (k:Nat):Iv:=if k=0 then s else if k=1 then oF else iz
def qsF (k:Nat):Iv:=if k=0 then pt hF else iz
theorem Aby:Qz ovF tF [0] [] 60 (pt (xF 0)) ⟨xF 0,xF 1⟩ zF oF zF (-3) (dyz 1 (-3)) (bF9 0) oF zF (gF 0) oF zF (gF 0) (gF 0) :=
 ⟨by show _ = _; kernel_rfl, by kernel_rfl, by kernel_rfl, by decide, by kernel_rfl, by kernel_rfl, by kernel_rfl, by show _ = _; kernel_rfl, by kernel_rfl, by kernel_rfl, by kernel_rfl, by show _ = _; kernel_rfl, by kernel_rfl, by kernel_rfl, by kernel_rfl,
  Az (by kernel_rfl),Az (by kernel_rfl),Em _ _,Az (by kernel_rfl),Az (by kernel_rfl),Az (by kernel_rfl),Az (by kernel_rfl),Az (by kernel_rfl),Az (by kernel_rfl),Az (by kernel_rfl),Az (by kernel_rfl)⟩
theorem Afk:Zd 60 (cF (pt (xF 0)) 2) (cF (gF 0) 3) (pt hF) (ysF (pt (xF 1))) qsF:=by
 refine ⟨rfl,rfl,?_,by kernel_rfl,?_,?_,?_,?_⟩
 ·intro k hk;have:(∀ k,k<4→Ck (gI (cF (pt (xF 0)) 2) k).raw=true)∧(∀ k,k<4→(gI (cF (pt (xF 0)) 2) k).raw=(cF (pt (xF 0)) 2).getD k rzI):=⟨fun k hk=>by rcases k with _ | _ | _ | _ | k<;>first | omega | kernel_rfl,fun k hk=>by rcases k with _ | _ | _ | _ | k<;>first | omega | kernel_rfl⟩;exact ⟨Az (this.1 k hk),this.2 k hk⟩
 ·intro k hk;rcases k with _ | _ | _ | _ | k<;>first | omega | kernel_rfl
 ·intro k hk;rcases k with _ | _ | _ | _ | k<;>first | omega | kernel_rfl
 ·intro k hk;have:∀ k,k<5→Ck (ysF (pt (xF 1)) k).raw=true:=fun k hk=>by rcases k with _ | _ | _ | _ | _ | k<;>first | omega | kernel_rfl
  exact Az (this k hk)
 ·intro k hk;have:∀ k,k<4→Ck (qsF k).raw=true:=fun k hk=>by rcases k with _ | _ | _ | _ | k<;>first | omega | kernel_rfl
  exact Az (this k hk)
theorem Ab2:Q4 ovF tF [0] [] 60 (pt (xF 0)) (xF 0) hF (xF 1) (gF 0) (pt (xF 1)) :=
 ⟨by kernel_rfl, ⟨_, _, _, _, _, _, _, _, _, _, _, Aby     ⟩,
  ⟨oF, pt hF, pt (xF 1), pt (xF 1), by show _ = _; kernel_rfl, by kernel_rfl, by kernel_rfl, by kernel_rfl, Az     (by kernel_rfl), Az     (by kernel_rfl), Az     (by kernel_rfl), Az     (by kernel_rfl), Az     (by kernel_rfl),
   cF (pt (xF 0)) 2,cF (gF 0) 3,ysF (pt (xF 1)),qsF,Afk,rfl,
   fun Y h9 u v hu hv=>Hn (k:=3) (a:=pt (xF 0)) (t:=pt (xF 0)) Y h9 (Az (by kernel_rfl)) (Az (by kernel_rfl)) hu hv (by kernel_rfl) (by kernel_rfl) (by kernel_rfl),
   fun Y h9 u v hu hv=>Hn (k:=4) (a:=gF 0) (t:=gF 0) Y h9 (Az (by kernel_rfl)) (Az (by kernel_rfl)) hu hv (by kernel_rfl) (by kernel_rfl) (by kernel_rfl)⟩,
  Az (by kernel_rfl),Em _ _,Em _ _,Az (by kernel_rfl),Az (by kernel_rfl),Az (by kernel_rfl),Az (by kernel_rfl)⟩
theorem Abz:Qz ovF tF [0] [] 60 (pt (xF 1)) ⟨xF 1,xF 2⟩ zF oF zF (-3) (dyz 1 (-3)) (bF9 1) oF zF (gF 1) oF zF (gF 1) (gF 1) :=
 ⟨by show _ = _; kernel_rfl, by kernel_rfl, by kernel_rfl, by decide, by kernel_rfl, by kernel_rfl, by kernel_rfl, by show _ = _; kernel_rfl, by kernel_rfl, by kernel_rfl, by kernel_rfl, by show _ = _; kernel_rfl, by kernel_rfl, by kernel_rfl, by kernel_rfl,
  Az (by kernel_rfl),Az (by kernel_rfl),Em _ _,Az (by kernel_rfl),Az (by kernel_rfl),Az (by kernel_rfl),Az (by kernel_rfl),Az (by kernel_rfl),Az (by kernel_rfl),Az (by kernel_rfl),Az (by kernel_rfl)⟩
theorem Afl:Zd 60 (cF (pt (xF 1)) 2) (cF (gF 1) 3) (pt hF) (ysF (pt (xF 2))) qsF:=by
 refine ⟨rfl,rfl,?_,by kernel_rfl,?_,?_,?_,?_⟩
 ·intro k hk;have:(∀ k,k<4→Ck (gI (cF (pt (xF 1)) 2) k).raw=true)∧(∀ k,k<4→(gI (cF (pt (xF 1)) 2) k).raw=(cF (pt (xF 1)) 2).getD k rzI):=⟨fun k hk=>by rcases k with _ | _ | _ | _ | k<;>first | omega | kernel_rfl,fun k hk=>by rcases k with _ | _ | _ | _ | k<;>first | omega | kernel_rfl⟩;exact ⟨Az (this.1 k hk),this.2 k hk⟩
 ·intro k hk;rcases k with _ | _ | _ | _ | k<;>first | omega | kernel_rfl
 ·intro k hk;rcases k with _ | _ | _ | _ | k<;>first | omega | kernel_rfl
 ·intro k hk;have:∀ k,k<5→Ck (ysF (pt (xF 2)) k).raw=true:=fun k hk=>by rcases k with _ | _ | _ | _ | _ | k<;>first | omega | kernel_rfl
  exact Az (this k hk)
 ·intro k hk;have:∀ k,k<4→Ck (qsF k).raw=true:=fun k hk=>by rcases k with _ | _ | _ | _ | k<;>first | omega | kernel_rfl
  exact Az (this k hk)
theorem Ab3:Q4 ovF tF [0] [] 60 (pt (xF 1)) (xF 1) hF (xF 2) (gF 1) (pt (xF 2)) :=
 ⟨by kernel_rfl, ⟨_, _, _, _, _, _, _, _, _, _, _, Abz     ⟩,
  ⟨oF, pt hF, pt (xF 2), pt (xF 2), by show _ = _; kernel_rfl, by kernel_rfl, by kernel_rfl, by kernel_rfl, Az     (by kernel_rfl), Az     (by kernel_rfl), Az     (by kernel_rfl), Az     (by kernel_rfl), Az     (by kernel_rfl),
   cF (pt (xF 1)) 2,cF (gF 1) 3,ysF (pt (xF 2)),qsF,Afl,rfl,
   fun Y h9 u v hu hv=>Hn (k:=3) (a:=pt (xF 1)) (t:=pt (xF 1)) Y h9 (Az (by kernel_rfl)) (Az (by kernel_rfl)) hu hv (by kernel_rfl) (by kernel_rfl) (by kernel_rfl),
   fun Y h9 u v hu hv=>Hn (k:=4) (a:=gF 1) (t:=gF 1) Y h9 (Az (by kernel_rfl)) (Az (by kernel_rfl)) hu hv (by kernel_rfl) (by kernel_rfl) (by kernel_rfl)⟩,
  Az (by kernel_rfl),Em _ _,Em _ _,Az (by kernel_rfl),Az (by kernel_rfl),Az (by kernel_rfl),Az (by kernel_rfl)⟩
theorem Ab0:Qz ovF tF [0] [] 60 (pt (xF 2)) ⟨xF 2,xF 3⟩ zF oF zF (-3) (dyz 1 (-3)) (bF9 2) oF zF (gF 2) oF zF (gF 2) (gF 2) :=
 ⟨by show _ = _; kernel_rfl, by kernel_rfl, by kernel_rfl, by decide, by kernel_rfl, by kernel_rfl, by kernel_rfl, by show _ = _; kernel_rfl, by kernel_rfl, by kernel_rfl, by kernel_rfl, by show _ = _; kernel_rfl, by kernel_rfl, by kernel_rfl, by kernel_rfl,
  Az (by kernel_rfl),Az (by kernel_rfl),Em _ _,Az (by kernel_rfl),Az (by kernel_rfl),Az (by kernel_rfl),Az (by kernel_rfl),Az (by kernel_rfl),Az (by kernel_rfl),Az (by kernel_rfl),Az (by kernel_rfl)⟩
theorem Afm:Zd 60 (cF (pt (xF 2)) 2) (cF (gF 2) 3) (pt hF) (ysF (pt (xF 3))) qsF:=by
 refine ⟨rfl,rfl,?_,by kernel_rfl,?_,?_,?_,?_⟩
 ·intro k hk;have:(∀ k,k<4→Ck (gI (cF (pt (xF 2)) 2) k).raw=true)∧(∀ k,k<4→(gI (cF (pt (xF 2)) 2) k).raw=(cF (pt (xF 2)) 2).getD k rzI):=⟨fun k hk=>by rcases k with _ | _ | _ | _ | k<;>first | omega | kernel_rfl,fun k hk=>by rcases k with _ | _ | _ | _ | k<;>first | omega | kernel_rfl⟩;exact ⟨Az (this.1 k hk),this.2 k hk⟩
 ·intro k hk;rcases k with _ | _ | _ | _ | k<;>first | omega | kernel_rfl
 ·intro k hk;rcases k with _ | _ | _ | _ | k<;>first | omega | kernel_rfl
 ·intro k hk;have:∀ k,k<5→Ck (ysF (pt (xF 3)) k).raw=true:=fun k hk=>by rcases k with _ | _ | _ | _ | _ | k<;>first | omega | kernel_rfl
  exact Az (this k hk)
 ·intro k hk;have:∀ k,k<4→Ck (qsF k).raw=true:=fun k hk=>by rcases k with _ | _ | _ | _ | k<;>first | omega | kernel_rfl
  exact Az (this k hk)
theorem Ab4:Q4 ovF tF [0] [] 60 (pt (xF 2)) (xF 2) hF (xF 3) (gF 2) (pt (xF 3)) :=
 ⟨by kernel_rfl, ⟨_, _, _, _, _, _, _, _, _, _, _, Ab0     ⟩,
  ⟨oF, pt hF, pt (xF 3), pt (xF 3), by show _ = _; kernel_rfl, by kernel_rfl, by kernel_rfl, by kernel_rfl, Az     (by kernel_rfl), Az     (by kernel_rfl), Az     (by kernel_rfl), Az     (by kernel_rfl), Az     (by kernel_rfl),
   cF (pt (xF 2)) 2,cF (gF 2) 3,ysF (pt (xF 3)),qsF,Afm,rfl,
   fun Y h9 u v hu hv=>Hn (k:=3) (a:=pt (xF 2)) (t:=pt (xF 2)) Y h9 (Az (by kernel_rfl)) (Az (by kernel_rfl)) hu hv (by kernel_rfl) (by kernel_rfl) (by kernel_rfl),
   fun Y h9 u v hu hv=>Hn (k:=4) (a:=gF 2) (t:=gF 2) Y h9 (Az (by kernel_rfl)) (Az (by kernel_rfl)) hu hv (by kernel_rfl) (by kernel_rfl) (by kernel_rfl)⟩,
  Az (by kernel_rfl),Em _ _,Em _ _,Az (by kernel_rfl),Az (by kernel_rfl),Az (by kernel_rfl),Az (by kernel_rfl)⟩
theorem Ab1:Qz ovF tF [0] [] 60 (pt (xF 3)) ⟨xF 3,xF 4⟩ zF oF zF (-3) (dyz 1 (-3)) (bF9 3) oF zF (gF 3) oF zF (gF 3) (gF 3) :=
 ⟨by show _ = _; kernel_rfl, by kernel_rfl, by kernel_rfl, by decide, by kernel_rfl, by kernel_rfl, by kernel_rfl, by show _ = _; kernel_rfl, by kernel_rfl, by kernel_rfl, by kernel_rfl, by show _ = _; kernel_rfl, by kernel_rfl, by kernel_rfl, by kernel_rfl,
  Az (by kernel_rfl),Az (by kernel_rfl),Em _ _,Az (by kernel_rfl),Az (by kernel_rfl),Az (by kernel_rfl),Az (by kernel_rfl),Az (by kernel_rfl),Az (by kernel_rfl),Az (by kernel_rfl),Az (by kernel_rfl)⟩
theorem Afn:Zd 60 (cF (pt (xF 3)) 2) (cF (gF 3) 3) (pt hF) (ysF (pt (xF 4))) qsF:=by
 refine ⟨rfl,rfl,?_,by kernel_rfl,?_,?_,?_,?_⟩
 ·intro k hk;have:(∀ k,k<4→Ck (gI (cF (pt (xF 3)) 2) k).raw=true)∧(∀ k,k<4→(gI (cF (pt (xF 3)) 2) k).raw=(cF (pt (xF 3)) 2).getD k rzI):=⟨fun k hk=>by rcases k with _ | _ | _ | _ | k<;>first | omega | kernel_rfl,fun k hk=>by rcases k with _ | _ | _ | _ | k<;>first | omega | kernel_rfl⟩;exact ⟨Az (this.1 k hk),this.2 k hk⟩
 ·intro k hk;rcases k with _ | _ | _ | _ | k<;>first | omega | kernel_rfl
 ·intro k hk;rcases k with _ | _ | _ | _ | k<;>first | omega | kernel_rfl
 ·intro k hk;have:∀ k,k<5→Ck (ysF (pt (xF 4)) k).raw=true:=fun k hk=>by rcases k with _ | _ | _ | _ | _ | k<;>first | omega | kernel_rfl
  exact Az (this k hk)
 ·intro k hk;have:∀ k,k<4→Ck (qsF k).raw=true:=fun k hk=>by rcases k with _ | _ | _ | _ | k<;>first | omega | kernel_rfl
  exact Az (this k hk)
theorem Ab5:Q4 ovF tF [0] [] 60 (pt (xF 3)) (xF 3) hF (xF 4) (gF 3) (pt (xF 4)) :=
 ⟨by kernel_rfl, ⟨_, _, _, _, _, _, _, _, _, _, _, Ab1     ⟩,
  ⟨oF, pt hF, pt (xF 4), pt (xF 4), by show _ = _; kernel_rfl, by kernel_rfl, by kernel_rfl, by kernel_rfl, Az     (by kernel_rfl), Az     (by kernel_rfl), Az     (by kernel_rfl), Az     (by kernel_rfl), Az     (by kernel_rfl),
   cF (pt (xF 3)) 2,cF (gF 3) 3,ysF (pt (xF 4)),qsF,Afn,rfl,
   fun Y h9 u v hu hv=>Hn (k:=3) (a:=pt (xF 3)) (t:=pt (xF 3)) Y h9 (Az (by kernel_rfl)) (Az (by kernel_rfl)) hu hv (by kernel_rfl) (by kernel_rfl) (by kernel_rfl),
   fun Y h9 u v hu hv=>Hn (k:=4) (a:=gF 3) (t:=gF 3) Y h9 (Az (by kernel_rfl)) (Az (by kernel_rfl)) hu hv (by kernel_rfl) (by kernel_rfl) (by kernel_rfl)⟩,
  Az (by kernel_rfl),Em _ _,Em _ _,Az (by kernel_rfl),Az (by kernel_rfl),Az (by kernel_rfl),Az (by kernel_rfl)⟩
theorem Ahy:Aa3 ovF tF [0] [] 60 4 eF hF (fun j=>pt (xF j)) gF aF9 xF lfF:=by
 have e:∀ (P:Nat→Prop),P 0→P 1→P 2→P 3→∀ j,j<4→P j:=by
  intro P h0 h1 h2 h3 j hj;rcases j with _ | _ | _ | _ | j
  ·exact h0
  ·exact h1
  ·exact h2
  ·exact h3
  ·omega
 refine ⟨by decide,e _ Ab2 Ab3 Ab4 Ab5,e _ ?_ ?_ ?_ ?_,e _ (by kernel_rfl) (by kernel_rfl) (by kernel_rfl) (by kernel_rfl),e _ ?_ ?_ ?_ ?_,e _ (by kernel_rfl) (by kernel_rfl) (by kernel_rfl) (by kernel_rfl),by kernel_rfl,?_,?_,?_,Em _ _,Em _ _⟩
 ·rw [show Ce (xF 0).q eF.q=-1 by kernel_rfl];decide
 ·rw [show Ce (xF 1).q eF.q=-1 by kernel_rfl];decide
 ·rw [show Ce (xF 2).q eF.q=-1 by kernel_rfl];decide
 ·rw [show Ce (xF 3).q eF.q=-1 by kernel_rfl];decide
 ·rw [show Ce (lfF 0).q hF.q=1 by kernel_rfl];decide
 ·rw [show Ce (lfF 1).q hF.q=1 by kernel_rfl];decide
 ·rw [show Ce (lfF 2).q hF.q=1 by kernel_rfl];decide
 ·rw [show Ce (lfF 3).q hF.q=0 by kernel_rfl];decide
 ·rw [show Ce (xF 4).q eF.q=0 by kernel_rfl];decide
 ·intro j hj;refine ⟨Yx (Em _ _),?_,Em _ _⟩;have:∀ j,j≤4→Ck (aF9 j).raw=true:=fun k hk=>by rcases k with _ | _ | _ | _ | _ | k<;>first | omega | kernel_rfl
  exact Az (this j hj)
 ·intro j hj;have:∀ j,j<4→Ck (gF j).raw=true:=fun k hk=>by rcases k with _ | _ | _ | _ | k<;>first | omega | kernel_rfl
  exact ⟨Az (this j hj),Em _ _⟩
theorem Ahx:Fj tF [0] [(pt (xF 0)).raw] [] (xF 0).raw eF.raw hF.raw 60=true:=by kernel_rfl
theorem Afi:Fj tF [0] [] [] rz ⟨false,[1],0⟩ hF.raw 60=false:=by kernel_rfl
theorem Afj:Fj tF [0] [rzI] [] ⟨false,[1],0⟩ rz hF.raw 60=false:=by kernel_rfl
theorem Ahw:hF.raw=⟨false,[1],-4⟩:=by kernel_rfl
theorem Aje:eF.raw=⟨false,[1],-2⟩:=by kernel_rfl
theorem Ajf:(pt (xF 0)).raw=rzI:=by kernel_rfl
theorem Ajg:(xF 0).raw=rz:=by kernel_rfl
theorem Sq:Ke tF:=by
 intro l hl;simp only [tF,List.mem_cons,List.not_mem_nil,or_false] at hl;subst hl;exact ⟨by decide,by decide,by show (1:Nat)≤17592186044416;decide,by show (1:Nat)≤17592186044416;decide⟩
theorem Pt {w:World}{b n:Nat}{T:TypeId}(hn:n<18446744073709551616)(h:w.heap[b]?=some (.cells #[.int .u64 (n:Int)] T (0,0))):Lim w (.slice (some ⟨b,0,none⟩) 1 1) [n]:=by
 refine ⟨fun x hx=>by simp at hx;omega,some ⟨b,0,none⟩,1,rfl,Nat.le_refl _,fun _=>⟨b,0,rfl,(Array.getElem?_eq_some_iff.1 h).1,fun i hi=>?_⟩⟩;have hi:i<1:=hi;obtain rfl:i=0:=by omega
 exact Ag h 0 _ rfl
theorem Aj2 {w:World}{b:Nat}{T:TypeId}{op x y:Int}{k0 k1 k2 k3 k4 k5:Value}{r:RawI}(h:w.heap[b]?=some (.cells #[.int .i64 op,.int .i64 x,.int .i64 y,k0,k1,k2,k3,k4,k5] T (0,0)))(hk:IvR w (.agg #[k0,k1,k2,k3,k4,k5]) r):LnS w (.slice (some ⟨b,0,none⟩) 1 1) [⟨op,x,y,r⟩] :=
 ⟨_, _, rfl, Nat.le_refl _, fun _ => ⟨b, 0, rfl, fun i a hi => by
  rcases i with _ | i
  ·cases hi;exact ⟨Ag h 0 _ rfl,Ag h 1 _ rfl,Ag h 2 _ rfl,_,_,_,_,_,_,Ag h 3 _ rfl,Ag h 4 _ rfl,Ag h 5 _ rfl,Ag h 6 _ rfl,Ag h 7 _ rfl,Ag h 8 _ rfl,hk⟩
  ·simp at hi⟩⟩
theorem Ajj {w:World}{b:Nat}{T:TypeId}{n:Int}(h:w.heap[b]?=some (.cells #[.int .i64 n] T (0,0))):InS w (.slice (some ⟨b,0,none⟩) 1 1) [n] :=
 ⟨_, _, rfl, Nat.le_refl _, fun _ => ⟨b, 0, rfl, fun i a hi => by
  rcases i with _ | i
  ·cases hi;exact Ag h 0 _ rfl
  ·simp at hi⟩⟩
theorem Ag7 {w:World}{b:Nat}{T:TypeId}{k0 k1 k2 k3 k4 k5:Value}{r:RawI}(h:w.heap[b]?=some (.cells #[k0,k1,k2,k3,k4,k5] T (0,0)))(hk:IvR w (.agg #[k0,k1,k2,k3,k4,k5]) r):IvS w (.slice (some ⟨b,0,none⟩) 1 1) [r] :=
 ⟨_, _, rfl, Nat.le_refl _, fun _ => ⟨b, 0, rfl, fun i a hi => by
  rcases i with _ | i
  ·cases hi;exact ⟨_,_,_,_,_,_,Ag h 0 _ rfl,Ag h 1 _ rfl,Ag h 2 _ rfl,Ag h 3 _ rfl,Ag h 4 _ rfl,Ag h 5 _ rfl,hk⟩
  ·simp at hi⟩⟩
theorem Ag2 (w:World)(x z:Value):∃ V,V=(w.alloc (.cells #[.int .u64 1] 54)).alloc (.cells #[x,.slice (some ⟨w.heap.size,0,none⟩) 1 1,z] 30)∧Kept w V∧Blk V (w.heap.size+1) x (.slice (some ⟨w.heap.size,0,none⟩) 1 1) z∧Lim V (.slice (some ⟨w.heap.size,0,none⟩) 1 1) [1] :=
 ⟨_,rfl,(Ad _ _).trans (Ad _ _),C8 _ _ _ _ _,Pt (n:=1) (T:=54) (by decide) (by rw [Below.heap_alloc _ _ _ (by simp)];exact heap_alloc_new _ _)⟩
theorem Ai5 (w:World)(cs:Array Value)(n1:Int)(m:Nat):∃ V,V=((w.alloc (.cells cs 53)).alloc (.cells #[.int .i64 n1] 3)).alloc (.cells #[.slice (some ⟨w.heap.size,0,none⟩) m m,.slice (some ⟨w.heap.size+1,0,none⟩) 1 1] 25)∧Kept w V ∧
 V.heap[w.heap.size]?=some (.cells cs 53 (0,0))∧V.heap[w.heap.size+1]?=some (.cells #[.int .i64 n1] 3 (0,0)) ∧
 V.heap[w.heap.size+1+1]?=some (.cells #[.slice (some ⟨w.heap.size,0,none⟩) m m,.slice (some ⟨w.heap.size+1,0,none⟩) 1 1] 25 (0,0)):=by
 have st:∀ (v:World) (n:Nat) (c:Array Value) (T:TypeId),v.heap.size=n→(v.alloc (.cells c T)).heap[n]?=some (.cells c T (0,0))∧(v.alloc (.cells c T)).heap.size=n+1∧Kept v (v.alloc (.cells c T)):=by
  intro v n c T h;subst h;exact ⟨heap_alloc_new _ _,by simp,Ad _ _⟩
 obtain ⟨a0,z0,k0⟩:=st w _ cs 53 rfl;obtain ⟨a1,z1,k1⟩:=st _ _ #[.int .i64 n1] 3 z0;obtain ⟨a2,z2,k2⟩:=st _ _ #[.slice (some ⟨w.heap.size,0,none⟩) m m,.slice (some ⟨w.heap.size+1,0,none⟩) 1 1] 25 z1;exact ⟨_,rfl,(k0.trans k1).trans k2,Aj a0 (k1.trans k2),Aj a1 k2,a2⟩
theorem Aei {S:Int→Prop}{w:World}(O:R8 S)(h9:S 9)(hT:Tab w):Calls Tryz.prog 17 #[] w (RetK (.bool true) w):=by
 have T:=hid hT;have TO:=hid (fun (w1:World) (As Ao:Option Addr) (ns cs no co:Nat) (hv:TpR w1 (.agg #[.slice As ns cs,.slice Ao no co]) tF [0]) (hT:Tab w1) vx vf vt vh (hx:IvS w1 vx [rzI]) (h1:DyR w1 vf rz) (h2:DyR w1 vt ⟨false,[1],-2⟩) (h3:DyR w1 vh ⟨false,[1],-4⟩) =>
  show Calls Tryz.prog 18 #[.agg #[.slice As ns cs,.slice Ao no co],vx,.slice none 0 0,vf,vt,vh,.int .i64 60] w1 (Kf ⟨[(pt (xF 4)).raw],0⟩ w1) from
   Ajx (p:=60) (te:=eF) (h:=hF) ⟨hv,Sq,by decide,by decide,Hb _,(by intro a ha;cases ha),by decide,hT,(by intro l hl h;simp only [tF,List.mem_singleton] at hl;subst hl;exact absurd h (by decide)),O,(by intro l hl h;simp only [tF,List.mem_singleton] at hl;subst hl;exact absurd h (by decide)),by decide,by decide,fun _=>⟨rfl,rfl,rfl⟩⟩ h9 (by rw [Ajf];exact hx) (by rw [Ajg];exact h1) (by rw [Aje];exact h2) (by rw [Ahw];exact h3) Ahy Ahx (by simp))
 have TB:=hid (fun (w1:World) s o (hv:TpR w1 (.agg #[s,o]) tF [0]) (hT:Tab w1) vf vt vh (h1:DyR w1 vf rz) (h2:DyR w1 vt ⟨false,[1],0⟩) (h3:DyR w1 vh ⟨false,[1],-4⟩) =>
  Y9 (bits:=60) hv Sq (by decide) (by decide) (Hb w1) (Hb w1) (by simp) (by simp) (by intro a ha;cases ha) (by intro a ha;cases ha) h1 h2 h3 (by decide) (by decide) (by decide) hT (Ahw▸Afi))
 have OB:=hid (fun (w1:World) s o (hv:TpR w1 (.agg #[s,o]) tF [0]) (hT:Tab w1) vx vf vt vh (hx:IvS w1 vx [rzI]) (h1:DyR w1 vf ⟨false,[1],0⟩) (h2:DyR w1 vt rz) (h3:DyR w1 vh ⟨false,[1],-4⟩) =>
  Rn (bits:=60) hv Sq (by decide) (by decide) (Hb w1) hx (by simp) (by simp) (by intro a ha;cases ha) (by intro a ha;simp only [List.mem_singleton] at ha;subst ha;exact ⟨by decide,by decide⟩) h1 h2 h3 (by decide) (by decide) (by decide) hT (Ahw▸Afj))
 have HAS:=hid (fun (w1:World) v u (hv:IvR w1 v (pt (xF 4)).raw) (hu:DyR w1 u ⟨false,[1],-2⟩)=>show Calls Tryz.prog 20 #[v,u] w1 (RetK (.bool true) w1) by
  have h:=Ab8 (a:=pt (xF 4)) (d:=eF) hv (by rw [Aje];exact hu) (Yx (Em _ _)) (Em _ _);rwa [show Wy (pt (xF 4)) eF=true by kernel_rfl] at h)
 clear hT O h9;generalize (pt (xF 4)).raw=r9 at *;obtain ⟨V1,hV1,kV1,hb1,hl1⟩:=Ag2 w (.bool false) (.int .i64 0);have HV1:=hid hV1;have D1:=hid (show DyR V1 (.agg #[.bool false,.slice (some ⟨w.heap.size,0,none⟩) 1 1,.int .i64 0]) ⟨false,[1],0⟩ from ⟨_,rfl,hl1,by decide,by decide⟩);have B1:=hid hb1;have K:=hid kV1;obtain ⟨-,a0,a1,a2,-⟩:=hb1.facts;clear hV1 kV1 hb1 hl1;go_enter Tryz.func17,Tryz.ntmps17;go_upto_region 2 with fail;rw [←HV1.out];clear HV1;go_wp2_with fail;refine (Up D1.out).mono ?_;rintro e w1 ⟨q,v,rfl,hv⟩;obtain ⟨P1,l1,d1,P2,l2,d2,rfl,-,-⟩:=Ar hv;simp only [] at hv ⊢;obtain ⟨V2,hV2,kV2,b0,b1,b2⟩:=Ai5 w1 #[.int .i64 1,.int .i64 0,.int .i64 0,.bool false,.slice P1 l1 d1,.int .i64 0,.bool false,.slice P2 l2 d2,.int .i64 0] 0 1
 have HV2:=hid hV2;have kk:=q.trans kV2;replace K:=hid (K.out.trans kk);replace D1:=hid (D1.out.kept kk);replace B1:=hid (B1.out.kept kk);have TP:=hid (show TpR V2 (.agg #[.slice (some ⟨w1.heap.size,0,none⟩) 1 1,.slice (some ⟨w1.heap.size+1,0,none⟩) 1 1]) tF [0] from ⟨_,_,rfl,Aj2 b0 (hv.kept kV2),Ajj b1⟩);have BT:=hid b2;clear hv hV2 b0 b1 b2 kV2 q kk a0 a1 a2;go_upto_region 3 with fail;rw [←HV2.out];clear HV2;generalize w1.heap.size+1+1=nT at *;generalize w1.heap.size+1=nO at *;generalize w1.heap.size=nL at *;obtain ⟨V3,hV3,kV3,hb3,hl3⟩:=Ag2 V2 (.bool false) (.int .i64 (-4));have HV3:=hid hV3
 have D3:=hid (show DyR V3 (.agg #[.bool false,.slice (some ⟨V2.heap.size,0,none⟩) 1 1,.int .i64 (-4)]) ⟨false,[1],-4⟩ from ⟨_,rfl,hl3,by decide,by decide⟩);have B3:=hid hb3;replace K:=hid (K.out.trans kV3);replace D1:=hid (D1.out.kept kV3);replace B1:=hid (B1.out.kept kV3);replace TP:=hid (TP.out.kept kV3);replace BT:=hid (Aj BT.out kV3);clear hV3 kV3 hb3 hl3;go_upto_region 4 with fail;rw [←HV3.out];clear HV3;generalize V2.heap.size+1=n3 at *;generalize V2.heap.size=n2 at *;generalize w.heap.size+1=n1 at *;generalize w.heap.size=n0 at *;obtain ⟨c0,c1⟩:=Cj BT.out;obtain ⟨-,a0,a1,a2,-⟩:=B3.out.facts
 have KA:∀ (o o':Obj),Kept V3 ((V3.alloc o).alloc o'):=fun o o'=>(Ad V3 o).trans (Ad (V3.alloc o) o')
 obtain ⟨-,a0',a1',a2',-⟩:=(B3.out.kept (KA (.cells #[.bool false,.slice none 0 0,.int .i64 0,.bool false,.slice none 0 0,.int .i64 0] 51) (.cells #[.int .u64 1] 54))).facts;have IX:=hid (fun o'=>(Ag7 (T:=51) (r:=rzI) (heap_alloc_new V3 (.cells #[.bool false,.slice none 0 0,.int .i64 0,.bool false,.slice none 0 0,.int .i64 0] 51)) (Ft _)).kept (Ad _ o'));have KA':=hid KA;clear KA;go_wp2_with fail
 have D5:=hid (show DyR ((V3.alloc (.cells #[.bool false,.slice none 0 0,.int .i64 0,.bool false,.slice none 0 0,.int .i64 0] 51)).alloc (.cells #[.int .u64 1] 54)) (.agg #[.bool false,.slice (some ⟨V3.heap.size+1,0,none⟩) 1 1,.int .i64 (-2)]) ⟨false,[1],-2⟩ from
  ⟨_,rfl,Pt (n:=1) (T:=54) (by decide) (by have:=heap_alloc_new (V3.alloc (.cells #[.bool false,.slice none 0 0,.int .i64 0,.bool false,.slice none 0 0,.int .i64 0] 51)) (.cells #[.int .u64 1] 54);simpa using this),by decide,by decide⟩)
 refine (TO.out _ _ _ _ _ _ _ (TP.out.kept (KA'.out _ _)) (T.out.kept (K.out.trans (KA'.out _ _))) _ _ _ _ (IX.out _) (Hg _) D5.out (D3.out.kept (KA'.out _ _))).mono ?_;rintro e w5 ⟨q,v,rfl,hv⟩;have kk:=(KA'.out _ _).trans q;replace K:=hid (K.out.trans kk);replace D1:=hid (D1.out.kept kk);replace B1:=hid (B1.out.kept kk);replace D3:=hid (D3.out.kept kk);replace B3:=hid (B3.out.kept kk);replace TP:=hid (TP.out.kept kk);replace BT:=hid (Aj BT.out kk);have HV:=hid hv;obtain ⟨A9,c9,rfl,-,-⟩:=hv;simp only [List.length_singleton] at HV;clear q kk c0 c1 a0 a1 a2 a0' a1' a2' KA' IX D5 TO;obtain ⟨c0,c1⟩:=Cj BT.out
 obtain ⟨-,a0,a1,a2,-⟩:=B3.out.facts;obtain ⟨-,b0,b1,b2,-⟩:=B1.out.facts;simp only [];go_wp2_with fail;refine (TB.out _ _ _ TP.out (T.out.kept K.out) _ _ _ (Hg _) D1.out D3.out).mono ?_;rintro e w6 ⟨rfl,q⟩;replace K:=hid (K.out.trans q);replace D1:=hid (D1.out.kept q);replace B1:=hid (B1.out.kept q);replace D3:=hid (D3.out.kept q);replace B3:=hid (B3.out.kept q);replace TP:=hid (TP.out.kept q);replace BT:=hid (Aj BT.out q);replace HV:=hid (HV.out.kept q);clear q c0 c1 a0 a1 a2 b0 b1 b2 TB;have KA:=hid (fun (o:Obj)=>Ad w6 o);have IX:=hid (Ag7 (T:=51) (r:=rzI) (heap_alloc_new w6 (.cells #[.bool false,.slice none 0 0,.int .i64 0,.bool false,.slice none 0 0,.int .i64 0] 51)) (Ft _))
 obtain ⟨c0,c1⟩:=Cj BT.out;obtain ⟨-,a0,a1,a2,-⟩:=(B3.out.kept (Ad w6 (.cells #[.bool false,.slice none 0 0,.int .i64 0,.bool false,.slice none 0 0,.int .i64 0] 51))).facts;obtain ⟨-,b0,b1,b2,-⟩:=(B1.out.kept (Ad w6 (.cells #[.bool false,.slice none 0 0,.int .i64 0,.bool false,.slice none 0 0,.int .i64 0] 51))).facts;simp only [];go_wp2_with fail;refine (OB.out _ _ _ (TP.out.kept (KA.out _)) (T.out.kept (K.out.trans (KA.out _))) _ _ _ _ IX.out (D1.out.kept (KA.out _)) (Hg _) (D3.out.kept (KA.out _))).mono ?_;rintro e w7 ⟨rfl,q⟩;have kk:=(KA.out _).trans q;replace K:=hid (K.out.trans kk)
 replace HV:=hid (HV.out.kept kk);clear q kk c0 c1 a0 a1 a2 b0 b1 b2 KA IX OB D1 B1 D3 B3 TP BT;obtain ⟨b,o,c,A,l,d,A',l',d',e1,-,⟨x0,x1,x2,x3,x4,x5⟩,hI⟩:=HV.out.one;simp only [Value.slice.injEq,true_and] at e1;obtain ⟨rfl,rfl⟩:=e1;have HI:=hid hI
 have D5:=hid (show DyR (w7.alloc (.cells #[.int .u64 1] 54)) (.agg #[.bool false,.slice (some ⟨w7.heap.size,0,none⟩) 1 1,.int .i64 (-2)]) ⟨false,[1],-2⟩ from
  ⟨_,rfl,Pt (n:=1) (T:=54) (by decide) (heap_alloc_new _ _),by decide,by decide⟩)
 generalize r9.lo.neg=z1 at *;generalize r9.lo.e=z2 at *;generalize r9.hi.neg=z3 at *;generalize r9.hi.e=z4 at *;clear hI HV;simp only [];go_wp2_with fail;refine (HAS.out _ _ _ (HI.out.kept (Ad _ _)) D5.out).mono ?_;rintro e w8 ⟨rfl,q⟩;simp only [];go_wp2_with fail;go_ret;exact ⟨rfl,K.out.trans ((Ad _ _).trans q)⟩
def S9F (op:Int):Prop:=op=9
theorem Ajq:R8 S9F :=
 ⟨fun h=>absurd h (by unfold S9F;decide),fun h=>absurd h (by unfold S9F;decide),fun h=>absurd h (by unfold S9F;decide),fun _ _ _ _ _ _ _=>Aiu,fun h=>absurd h (by unfold S9F;decide),fun h=>absurd h (by unfold S9F;decide),fun h=>absurd h (by unfold S9F;decide)⟩
theorem Afg {w:World}{vt vx vp vf vg vh:Value}{ls:List Ln}{outs:List Int}{x p:List RawI}{rf rt rh:Raw}{bits:Int}(hv:TpR w vt ls outs)(hx:IvS w vx x)(hp:IvS w vp p)(h1:DyR w vf rf)(h2:DyR w vg rt)(h3:DyR w vh rh)(hok:Ke ls)
 (hn:ls.length≤1000000000000000) (hno:outs.length≤1000000000000000) (lx:∀ a∈x,a.lens 17592186044416) (nx:x.length≤1000000000000000) (lp:∀ a∈p,a.lens 17592186044416) (np:p.length≤1000000000000000)
 (l1:rf.m.length≤17592186044416) (l2:rt.m.length≤17592186044416) (l3:rh.m.length≤17592186044416) (hT:Tab w) :
 Calls Tryz.prog 4 #[vt,vx,vp,vf,vg,vh,.int .i64 bits] w (RetK (.bool true) w) :=
 Wq hv hx hp h1 h2 h3 hok hn hno lx nx lp np l1 l2 l3 hT fun _ h=>Aei Ajq rfl h
end Go.Proofs.YtmgaloopddiekaaGreatDoor
