/- Plain mathematics, no program: of greater intervals, or of fewer bits, each operation of a tape makes no less; its errors are limbs and exponents alone, where the greater one has none. -/
import Derived.Test.YtabjjdicffcolaaGreatDoorClaimTusesp36
set_option maxRecDepth 100000
set_option maxHeartbeats 16000000
namespace Go.Proofs.YtabjjdicffcolaaGreatDoor
theorem Ws {a b:Int}(h:pw a≤pw b):a≤b:=by
 rcases Int.lt_or_le b a with h1 | h1
 ·exfalso
  have h2:=Fw (show b+1≤a by omega);have h3:=Hf b;rw [Ez,Om] at h2
  grind
 ·exact h1
theorem Hb {a b:Int}(h:pw a<pw b):a<b:=by
 rcases Int.lt_or_le a b with h1 | h1
 ·exact h1
 ·exfalso
  have h2:=Fw h1
  grind
theorem Aa7 {d:Dy}(hn:d.neg=false):d.q=(d.m:Rat)*pw d.e:=by
 unfold Dy.q sq;rw [hn]
 rfl
theorem U7 {d:Dy}(h:d.m≠0)(hn:d.neg=false):0<d.q:=by
 rw [Aa7 hn];exact Zu h d.e
theorem Jf {d:Dy}(h:d.m≠0)(hn:d.neg=false):pw (Bh d-1)≤d.q∧d.q<pw (Bh d):=by
 rw [Aa7 hn];exact Ts h d.e
theorem Gb {p:Nat}(hp:1≤p):Fits p 1:=⟨false,1,0,hp,by simp [sq,Gd]⟩
theorem Hk {p:Nat}(hp:1≤p)(e:Int):Fits p (pw e):=by
 have h:=(Gb hp).pw e
 rwa [Rat.one_mul] at h
theorem Ul {x:Dy}{c:Int}(h:x.m≠0)(hn:x.neg=false)(hq:pw c≤x.q):c+1≤Bh x:=by
 have h1:=(Jf h hn).2;have h2:pw c<pw (Bh x):=by grind
 have:=Hb h2;omega
theorem Xv {x:Dy}{c:Int}(h:x.m≠0)(hn:x.neg=false)(hq:x.q≤pw c):Bh x≤c+1:=by
 have h1:=(Jf h hn).1;have h2:pw (Bh x-1)≤pw c:=by grind
 have:=Ws h2;omega
theorem Yz {x:Dy}(h:x.m≠0)(hn:x.neg=false)(h1:1≤x.q)(h2:x.q<2):Bh x=1:=by
 have a:=Ul (c:=0) h hn (by rw [Gd];exact h1);have b:=(Jf h hn).1;have c:pw (Bh x-1)<pw 1:=by rw [Om];grind
 have:=Hb c;omega
theorem Ajq {s t:Dy}{p:Nat}(p2:p≤2000)(s0:s.m≠0)(sn:s.neg=false)(sb:bl s.m≤p)(s1:1≤s.q)(t0:t.m≠0)(tn:t.neg=false)(tk:t.Ok)(h2:s.q+t.q<2) :
 ((D5 s t).k=0↔-4095≤t.e)∧((D5 s t).k=0→(D5 s t).v.m≠0∧(D5 s t).v.neg=false∧Bh (D5 s t).v=1∧-5000≤(D5 s t).v.e):=by
 have t1:=U7 t0 tn;have hs1:=(Jf s0 sn).1;have hs2:=(Jf s0 sn).2;have hs3:Bh s=1:=by
  have a:pw (Bh s-1)<pw 1:=by rw [Om];grind
  have b:pw 0<pw (Bh s):=by rw [Gd];grind
  have:=Hb a;have:=Hb b;omega
 have hs4:(bl s.m:Int)+s.e=1:=hs3;have sp:=Ct _ s0;have key:∀ (n:Nat) (e:Int),n≠0→(n:Rat)*pw e=s.q+t.q→(bl n:Int)+e=1:=by
  intro n e hn he;obtain ⟨a,b⟩:=Ts hn e;rw [he] at a b;have c:pw (bl n+e-1)<pw 1:=by rw [Om];grind
  have d:pw 0<pw (bl n+e):=by rw [Gd];grind
  have:=Hb c;have:=Hb d;omega
 unfold D5;rw [if_neg s0,if_neg t0]
 by_cases h:s.e<t.e
 ·rw [if_pos h];have hn:t.m*2^(t.e-s.e).toNat+s.m≠0:=by omega
  have he:((t.m*2^(t.e-s.e).toNat+s.m:Nat):Rat)*pw s.e=s.q+t.q:=by
   rw [Aa7 sn,Aa7 tn,Rat.natCast_add,Rat.add_mul,←Hh t.m (Int.le_of_lt h)]
   grind
  have hb:=key _ _ hn he;have hg:¬(¬t.e=s.e∧4097-(bl t.m:Int)<t.e-s.e):=by
   have hbt:bl t.m+(t.e-s.e).toNat≤bl (t.m*2^(t.e-s.e).toNat+s.m):=by
    rw [←Fm _ _ t0];exact Jn (Nat.le_add_right _ _)
   omega
  have hz:=Ng _ _ hn (Bl (t.m*2^(t.e-s.e).toNat+s.m));unfold Lo;rw [if_neg hg,if_pos (tn.trans sn.symm),tn];obtain ⟨k1,k2⟩:=Li (neg:=false) (e:=s.e) hn (by omega) (by omega) (by omega);obtain ⟨f1,f2,f3⟩:=F7 (neg:=false) (e:=s.e) hn (by omega) (by omega) (by omega);have f2':=f2;unfold Bh at f2';exact ⟨⟨fun _=>by omega,fun _=>k1⟩,fun _=>⟨f1,k2,by omega,by omega⟩⟩
 ·rw [if_neg h];have hn:s.m*2^(s.e-t.e).toNat+t.m≠0:=by omega
  have he:((s.m*2^(s.e-t.e).toNat+t.m:Nat):Rat)*pw t.e=s.q+t.q:=by
   rw [Aa7 sn,Aa7 tn,Rat.natCast_add,Rat.add_mul,←Hh s.m (by omega:t.e≤s.e)]
  have hb:=key _ _ hn he;have hz:=Ng _ _ hn (Bl (s.m*2^(s.e-t.e).toNat+t.m));unfold Lo
  by_cases hte:-4095≤t.e
  ·rw [if_neg (by omega), if_pos (sn.trans tn.symm), sn];obtain ⟨k1,k2⟩:=Li (neg:=false) (e:=t.e) hn (by omega) (by omega) (by omega);obtain ⟨f1,f2,f3⟩:=F7 (neg:=false) (e:=t.e) hn (by omega) (by omega) (by omega);have f2':=f2;unfold Bh at f2';exact ⟨⟨fun _=>hte,fun _=>k1⟩,fun _=>⟨f1,k2,by omega,by omega⟩⟩
  ·have hk : ∀ o : Outc Dy, o.k ≠ 0 → (o.k = 0 ↔ -4095 ≤ t.e) ∧ (o.k = 0 → o.v.m ≠ 0 ∧ o.v.neg = false ∧ Bh   o.v = 1 ∧ -5000 ≤ o.v.e) :=
    fun o ho=>⟨⟨fun a=>absurd a ho,fun a=>absurd a hte⟩,fun a=>absurd a ho⟩
   apply hk
   split
   ·decide
   ·rw [if_pos (sn.trans tn.symm)];have ho:(s.m*2^(s.e-t.e).toNat+t.m)%2=1:=by
     have h1:=tk.odd t0;have h2:(s.e-t.e).toNat=(s.e-t.e).toNat-1+1:=by omega
     rw [h2,Nat.pow_succ,←Nat.mul_assoc];omega
    have hl:64<(limbs (s.m*2^(s.e-t.e).toNat+t.m)).length:=by
     refine Decidable.byContradiction fun hc=>?_
     have hb2:=Cr (s.m*2^(s.e-t.e).toNat+t.m) 64 (by omega);omega
    unfold Ch;rw [if_neg hn,Yt ho,Nat.pow_zero,Nat.div_one,if_pos hl]
    decide
theorem Ro {d:Dy}{p:Nat}{up:Bool}(p1:1≤p)(p2:p≤2000)(h0:d.m≠0)(h1:-1000000≤d.e)(h2:Bh d≤1000000) :
 It up p d.q (G8 p up d).q∧(G8 p up d).neg=d.neg∧(G8 p up d).m≠0∧bl (G8 p up d).m≤p:=by
 unfold Bh at h2;obtain ⟨a,b,c⟩:=Yc (neg:=d.neg) (rest:=false) (up:=up) h0 p1 p2 h1 h2;obtain ⟨x,y,z⟩:=Ri (neg:=d.neg) (rest:=false) (up:=up) h0 p1 p2 h1 h2;exact ⟨Rt p1 a,b,x,y⟩
theorem Oe (p:Nat)(up:Bool):G8 p up dz=dz:=by
 unfold G8 Dh Jo;have h:E6 0 false p (up != dz.neg)=0:=by unfold E6 I8;simp [bl]
 show (Ch dz.neg (E6 0 false p (up != dz.neg)) _).v=dz
 rw [h]
 rfl
theorem Kt {up:Bool}{p:Nat}{x d b:Rat}(h:It up p x d)(hb:Fits p b)(hx:x≤b):d≤b:=by
 cases up with
 | true=>exact IsUp.best h b hb hx
 | false=>exact Rat.le_trans (IsDown.le h) hx
theorem Le {up:Bool}{p:Nat}{x d b:Rat}(h:It up p x d)(hb:Fits p b)(hx:b≤x):b≤d:=by
 cases up with
 | true=>exact Rat.le_trans hx (IsUp.le h)
 | false=>exact IsDown.best h b hb hx
theorem Zq {s t:Dy}{p:Nat}{up:Bool}(p1:1≤p)(p2:p≤2000)(s0:s.m≠0)(sn:s.neg=false)(sb:bl s.m≤p)(s1:1≤s.q)(t0:t.m≠0)(tn:t.neg=false)(tk:t.Ok)(h2:s.q+t.q<2) :
 (-4095≤t.e→It up p (s.q+t.q) (Dx p up s t).q∧(Dx p up s t).neg=false∧(Dx p up s t).m≠0∧bl (Dx p up s t).m≤p)∧(t.e < -4095→Dx p up s t=dz):=by
 obtain ⟨a,b⟩:=Ajq p2 s0 sn sb s1 t0 tn tk h2;constructor
 ·intro h;have hk:=a.2 h;obtain ⟨b1,b2,b3,b4⟩:=b hk;have hq:=Xd hk;obtain ⟨c1,c2,c3,c4⟩:=Ro (up:=up) p1 p2 b1 (by omega) (by omega);rw [hq] at c1;exact ⟨c1,c2.trans b2,c3,c4⟩
 ·intro h;have hk:(D5   s t).k≠0:=fun e=>by have:=a.1 e;omega
  have hz:(D5 s t).v=dz:=by
   have hs:s.Ok∨True:=.inr trivial;unfold D5 at hk ⊢;rw [if_neg s0,if_neg t0] at hk ⊢
   split at hk<;>rename_i hc
   ·rw [if_pos hc];exact (Uj _ _).2 hk
   ·rw [if_neg hc];exact (Uj _ _).2 hk
  unfold Dx;rw [hz,Oe]
theorem Afk {r:Rat}(h0:0≤r)(h1:r≤1/2)(j:Nat):2*eT r (j+1)≤eT r j:=by
 have h2:=Pq r j;have h3:=Gm h0 (j+1);have h4:=Gm h0 j;have h5:(1:Rat)≤((j+1:Nat):Rat):=by exact_mod_cast Nat.le_add_left 1 j
 have h6:=Rat.mul_le_mul_of_nonneg_right h5 h3;have h7:=Rat.mul_le_mul_of_nonneg_right h1 h4;rw [h2] at h6
 grind
theorem Af2 {r:Rat}(h0:0≤r)(h1:r≤1/2)(j n:Nat):eS r n≤eS r (j+1)+eT r j:=by
 have step:∀ m,eS r (j+1+m)+eT r (j+m)≤eS r (j+1)+eT r j:=by
  intro m
  induction m with
  | zero=>exact Rat.le_refl
  | succ m ih =>
    have h2:=Afk h0 h1 (j+m);have e1:eS r (j+1+(m+1))=eS r (j+1+m)+eT r (j+1+m):=rfl;have e2:j+1+m=j+m+1:=by omega
    rw [e2] at e1 ih;have e3:j+(m+1)=j+m+1:=by omega
    rw [e1,e3]
    grind
 have h2:=step n;have h3:=Yk h0 (m:=n) (n:=j+1+n) (by omega);have h4:=Gm h0 (j+n)
 grind
def sB (j:Nat):Nat:=if j≤1 then 65536 else 65790+j
theorem Ai1:(sB 1:Rat)*pw (-16)=1:=by decide +kernel
theorem U5:pw (-1)=1/2:=by decide +kernel
theorem Akh:pw (-8)=1/256:=by decide +kernel
theorem Ag6 {j:Nat}(h:1≤j):(sB j:Rat)*pw (-16)+pw (-8*(j:Int))≤(sB (j+1):Rat)*pw (-16):=by
 by_cases h1:j=1
 ·subst h1
  decide +kernel
 ·have e : (sB (j + 1) : Rat) = (sB j : Rat) + 1 := by
   have:sB (j+1)=sB j+1:=by
    unfold sB;rw [if_neg (by omega),if_neg (by omega)];omega
   rw [this,Rat.natCast_add]
   rfl
  have h2:=Fw (show -8*(j:Int)≤-16 by omega);rw [e]
  grind
theorem Aht {j:Nat}(h:j≤500):(sB j:Rat)*pw (-16)≤17/16:=by
 have h1:sB j≤69632:=by unfold sB;split<;>omega
 have h2:=(Gp (-16)).2 (Cq.2 h1);have h3:((69632:Nat):Rat)*pw (-16)=17/16:=by decide +kernel
 rwa [h3] at h2
theorem Age {j p:Nat}(h:j≤500)(hp:17≤p):Fits p ((sB j:Rat)*pw (-16)):=by
 have h1:sB j<2^17:=by unfold sB;split<;>omega
 exact (J5 (p:=p) (m:=sB j) (Nat.le_trans (Gu _ _ h1) hp)).pw (-16)
structure NI (p:Nat) (up:Bool) (r:Rat) (j:Nat) (s t:Dy):Prop where
 s0:s.m≠0
 sn:s.neg=false
 sb:bl s.m≤p
 s1:1≤s.q
 s2:s.q≤(sB j:Rat)*pw (-16)
 t0:t.m≠0
 tn:t.neg=false
 tb:bl t.m≤p
 t2:t.q≤pw (-8*((j:Int)-1))
 t3:-(p:Int)-8≤Bh t
 dir:if up then eT r (j-1)≤t.q∧eS r j≤s.q else t.q≤eT r (j-1)∧s.q≤eS r j
theorem Ra:one.q=1:=by decide +kernel
theorem NI.start {p:Nat}{up:Bool}{r:Rat}(p1:1≤p):NI p up r 1 one one:=by
 have b:bl one.m=1:=by decide
 have t:Bh one=1:=by decide
 refine ⟨by decide,rfl,by omega,by rw [Ra];exact Rat.le_refl,by rw [Ra,Ai1];exact Rat.le_refl,by decide,rfl,by omega,?_,by omega,?_⟩
 ·rw [Ra   ]
  show (1:Rat)≤pw 0
  rw [Gd];exact Rat.le_refl
 ·rw [Ra   , Xi    ];cases up
  ·exact ⟨Rat.le_refl,Rat.le_refl⟩
  ·exact ⟨Rat.le_refl,Rat.le_refl⟩
theorem Ahi (r:Rat){j:Nat}(h:1≤j):eT r j=eT r (j-1)*r/(j:Rat):=by
 obtain ⟨i,rfl⟩:∃ i,j=i+1:=⟨j-1,by omega⟩
 rfl
theorem Ox {p j:Nat}{up:Bool}{r s t:Dy}(p1:1≤p)(p2:p≤2000)(hr:r.m≠0)(rn:r.neg=false)(hr1:-500≤r.e)(hr2:Bh r≤-8)(j1:1≤j)(j2:j≤500)(h:NI p up r.q j s t) :
 (Cm p up r t j).m≠0∧(Cm p up r t j).neg=false∧bl (Cm p up r t j).m≤p∧(Cm p up r t j).q≤pw (-8*(j:Int))∧Bh t+Bh r-25≤Bh (Cm p up r t j) ∧
   (if up then eT r.q j≤(Cm p up r t j).q else (Cm p up r t j).q≤eT r.q j):=by
 have tp:=U7 h.t0 h.tn;have tt:=(Jf h.t0 h.tn).1;have rp:=U7 hr rn;have rt:r.q<pw (-8):=by
  have:=(Jf hr rn).2;have:=Fw hr2
  grind
 have t4:Bh t≤100:=by
  have a:=h.t2;have b:=Fw (show -8*((j:Int)-1)≤0 by omega);have c:pw (Bh t-1)≤pw 0:=by grind
  have:=Ws c;omega
 have t3:=h.t3;obtain ⟨a1,a2,a3⟩:=Qr (up:=up) p1 p2 hr hr1 hr2 h.t0 h.tb (by omega) t4 j1 (by omega);obtain ⟨b1,b2,b3⟩:=Xy (up:=up) p1 p2 hr rn hr1 hr2 h.t0 h.tn h.tb (by omega) t4 j1 (by omega);have hj:(1:Rat)≤(j:Rat):=by exact_mod_cast j1
 have hji:(0:Rat)<(j:Rat)⁻¹:=Rat.inv_pos.2 (by grind);have hjm:(j:Rat)*(j:Rat)⁻¹=1:=Rat.mul_inv_cancel _ (by grind);have hji1:(j:Rat)⁻¹≤1:=by
  have:=Rat.mul_le_mul_of_nonneg_right hj (Rat.le_of_lt hji)
  grind
 have tr0:0<t.q*r.q:=Rat.mul_pos tp rp;have hle:t.q*r.q/(j:Rat)≤t.q*r.q:=by
  rw [Rat.div_def];have:=Rat.mul_le_mul_of_nonneg_left hji1 (Rat.le_of_lt tr0)
  grind
 refine ⟨a1,b1,a2,?_,b3,?_⟩
 ·refine Kt     b2 (Hk      p1 _) (Rat.le_trans hle ?_);have e:-8*(j:Int)=-8*((j:Int)-1)+-8:=by omega
  rw [e,Ez];have c1:=Rat.mul_le_mul_of_nonneg_right h.t2 (Rat.le_of_lt rp);have c2:=Rat.mul_le_mul_of_nonneg_left (Rat.le_of_lt rt) (Dc (-8*((j:Int)-1)));exact Rat.le_trans c1 c2
 ·have hd := h.dir;have hm:∀ {x y:Rat},x≤y→x*r.q/(j:Rat)≤y*r.q/(j:Rat):=fun hxy=>by
   rw [Rat.div_def,Rat.div_def];exact Rat.mul_le_mul_of_nonneg_right (Rat.mul_le_mul_of_nonneg_right hxy (Rat.le_of_lt rp)) (Rat.le_of_lt hji)
  rw [Ahi _ j1];cases up with
  | true =>
    rw [if_pos rfl] at hd
    show _≤_
    exact Rat.le_trans (hm hd.1) (IsUp.le b2)
  | false =>
    rw [if_neg (by decide)] at hd
    show _≤_
    exact Rat.le_trans (IsDown.le b2) (hm hd.1)
theorem NI.next {p j:Nat}{up:Bool}{r s t:Dy}(p1:17≤p)(p2:p≤2000)(hr:r.m≠0)(rn:r.neg=false)(hr1:-500≤r.e)(hr2:Bh r≤-8)(j1:1≤j)(j2:j≤499)(h:NI p up r.q j s t) :
 (s.q+(Cm p up r t j).q<2)∧(-4095≤(Cm p up r t j).e→(Dx p up s (Cm p up r t j)).m≠0∧(Dx p up s (Cm p up r t j)).neg=false∧bl (Dx p up s (Cm p up r t j)).m≤p∧1≤(Dx p up s (Cm p up r t j)).q ∧
   (Dx p up s (Cm p up r t j)).q≤(sB (j+1):Rat)*pw (-16)∧(if up then eS r.q (j+1)≤(Dx p up s (Cm p up r t j)).q else (Dx p up s (Cm p up r t j)).q≤eS r.q (j+1))) ∧
   ((Cm p up r t j).e < -4095→Dx p up s (Cm p up r t j)=dz):=by
 obtain ⟨a1,a2,a3,a4,a5,a6⟩:=Ox (up:=up) (s:=s) (by omega) p2 hr rn hr1 hr2 j1 (by omega) h;have tk:(Cm p up r t j).Ok:=(Ix _ _ _ _).1;generalize Cm p up r t j=t' at *;have hs:=h.s2;have hb:=Ag6 j1;have hb2:=Aht (show j+1≤500 by omega);have hsum:s.q+t'.q≤(sB (j+1):Rat)*pw (-16):=by grind
 have hlt:s.q+t'.q<2:=by grind
 have tp:=U7 a1 a2;obtain ⟨c1,c2⟩:=Zq (up:=up) (by omega) p2 h.s0 h.sn h.sb h.s1 a1 a2 tk hlt;refine ⟨hlt,fun he=>?_,c2⟩;obtain ⟨d1,d2,d3,d4⟩:=c1 he;refine ⟨d3,d2,d4,?_,Kt d1 (Age (by omega) p1) hsum,?_⟩
 ·have := h.s1;exact Le d1 (Gb (by omega)) (by grind)
 ·have hd := h.dir;have e:eS r.q (j+1)=eS r.q j+eT r.q j:=rfl;rw [e];cases up with
  | true =>
    have hd2:eT r.q (j-1)≤t.q∧eS r.q j≤s.q:=hd;have a6':eT r.q j≤t'.q:=a6
    show _≤_
    have:=IsUp.le d1
    grind
  | false =>
    have hd2:t.q≤eT r.q (j-1)∧s.q≤eS r.q j:=hd;have a6':t'.q≤eT r.q j:=a6
    show _≤_
    have:=IsDown.le d1
    grind
def P8 (p:Nat) (r x:Dy):Prop:=(x=dz∧Bh r < -60∨x.m≠0∧x.neg=false∧bl x.m≤p∧1≤x.q∧x.q<2)∧∃ n,1≤n∧x.q≤eS r.q n
def Rl (p:Nat) (r x:Dy):Prop:=x.m≠0∧x.neg=false∧bl x.m≤p∧(Bh r < -60∧x.q≤1/2∧-6000≤Bh x∨1≤x.q∧x.q<2∧∀ n,eS r.q n≤x.q)
theorem Ad6 {p j:Nat}{up:Bool}{r s t:Dy}(p1:17≤p)(p2:p≤2000)(hr:r.m≠0)(rn:r.neg=false)(hr1:-500≤r.e)(hr2:Bh r≤-8)(j1:1≤j)(j2:j≤498)(h:NI p up r.q j s t) :
 if up then Rl p r (Ib p up (Dx p up s (Cm p up r t j),Cm p up r t j)) else P8 p r (Ib p up (Dx p up s (Cm p up r t j),Cm p up r t j)):=by
 obtain ⟨a1,a2,a3,a4,a5,a6⟩:=Ox (up:=up) (s:=s) (by omega) p2 hr rn hr1 hr2 j1 (by omega) h;obtain ⟨b1,b2,b3⟩:=h.next p1 p2 hr rn hr1 hr2 j1 (by omega);have tk:(Cm p up r t j).Ok:=(Ix _ _ _ _).1;have t3:=h.t3;generalize Cm p up r t j=t' at *;have rp:=U7 hr rn;have tp:=U7 a1 a2;have rt:r.q≤1/2:=by
  have:=(Jf hr rn).2;have:=Fw (show Bh r≤-1 by omega);have e:=U5
  grind
 have a5':Bh t+Bh r-25≤(bl t'.m:Int)+t'.e:=a5
 by_cases he:-4095≤t'.e
 ·obtain ⟨c1, c2, c3, c4, c5, c6⟩ := b2 he;have hb2:=Aht   (show j+1≤500 by omega);cases up with
  | false =>
    show P8 _ _ _
    refine ⟨.inr ⟨c1,c2,c3,c4,?_⟩,j+1,by omega,c6⟩
    show (Dx p false s t').q<2
    grind
  | true =>
    show Rl p r (Dx p true (Dx p true s t') t')
    have a6':eT r.q j≤t'.q:=a6;have c6':eS r.q (j+1)≤(Dx p true s t').q:=c6;have t8:t'.q≤pw (-8):=Rat.le_trans a4 (Fw (by omega));have e8:=Akh;generalize Dx p true s t'=s' at *;have c5':=Rat.le_trans c5 hb2;have t8':t'.q≤1/256:=by rw [←e8];exact t8
    clear hb2 c5 t8 e8 b1 b2 b3 a4 a5' h a5;obtain ⟨d1,-⟩:=Zq (up:=true) (by omega) p2 c1 c2 c3 c4 a1 a2 tk (by grind);obtain ⟨f1,f2,f3,f4⟩:=d1 he;have hup:=IsUp.le f1;refine ⟨f3,f2,f4,.inr ⟨by grind,?_,fun n=>?_⟩⟩
    ·have hf : Fits p (3 / 2) := by
      have:=(J5 (p:=p) (m:=3) (Nat.le_trans (Gu 3 2 (by decide)) (by omega))).pw (-1);have e:((3:Nat):Rat)*pw (-1)=3/2:=by decide +kernel
      rwa [e] at this
     have:=Kt f1 hf (by grind)
     grind
    ·have := Af2     (Rat.le_of_lt rp) rt j n
     grind
 ·have h0 := b3 (by omega);have hr60:Bh   r < -60:=by omega
  cases up with
  | false =>
    show P8 _ _ _
    refine ⟨.inl ⟨h0,hr60⟩,1,by omega,?_⟩
    show (Dx p false s t').q≤_
    rw [h0,Aaz,Xi]
    decide
  | true =>
    show Rl p r (Dx p true (Dx p true s t') t')
    rw [h0];have e:Dx p true dz t'=G8 p true t':=by
     unfold Dx D5;rw [if_pos (show dz.m=0 from rfl)]
     rfl
    rw [e];have tt:Bh t'≤0:=by
     have c:=(Jf a1 a2).1;have d:=Fw (show -8*(j:Int)≤-8 by omega);have f:pw (Bh t'-1)≤pw (-8):=by grind
     have:=Ws f;omega
    have hr3:Bh r=(bl r.m:Int)+r.e:=rfl;have te:-5000≤t'.e:=by omega
    obtain ⟨c1,c2,c3,c4⟩:=Ro (up:=true) (by omega) p2 a1 (by omega) (by omega);refine ⟨c3,c2.trans a2,c4,.inl ⟨hr60,?_,?_⟩⟩
    ·have f2 := Hk (p := p) (by omega) (-1);have e2:=U5;rw [←e2];exact Kt c1 f2 (Rat.le_trans a4 (Fw (by omega)))
    ·have u1 := Le c1 (Hk (by omega) (Bh t' - 1)) (Jf a1 a2).1;have:=Ul c3 (c2.trans a2) u1;have e3:Bh t'=(bl t'.m:Int)+t'.e:=rfl;omega
theorem Uf {p:Nat}{up:Bool}{r:Dy}(p1:17≤p)(p2:p≤2000)(hr:r.m≠0)(rn:r.neg=false)(hr1:-500≤r.e)(hr2:Bh r≤-8):∀ (f j:Nat) (s t:Dy) (o:Dy × Dy),NI p up r.q j s t→1≤j→j+f≤498→F0 p up r f j s t=some o →
 if up then Rl p r (Ib p up o) else P8 p r (Ib p up o)
 | 0,j,s,t,o,_,_,_,h=>by simp [F0] at h
 | f + 1, j, s, t, o, hI, j1, j2, h => by
   rw [F0] at h
   split at h
   ·obtain rfl := Option.some.inj h;exact Ad6 p1 p2 hr rn hr1 hr2 j1 (by omega) hI
   ·rename_i hc
    obtain ⟨a1,a2,a3,a4,a5,a6⟩:=Ox (up:=up) (s:=s) (by omega) p2 hr rn hr1 hr2 j1 (by omega) hI;obtain ⟨b1,b2,b3⟩:=hI.next p1 p2 hr rn hr1 hr2 j1 (by omega);have he:-4095≤(Cm p up r t j).e:=by
     have:¬(bl (Cm p up r t j).m:Int)+(Cm p up r t j).e < -(p:Int)-8:=hc;omega
    obtain ⟨c1,c2,c3,c4,c5,c6⟩:=b2 he;refine Uf p1 p2 hr rn hr1 hr2 f (j+1) _ _ o ⟨c1,c2,c3,c4,c5,a1,a2,a3,?_,by omega,?_⟩ (by omega) (by omega) h
    ·have e : -8 * (((j + 1 : Nat) : Int) - 1) = -8 * (j : Int) := by omega
     rw [e];exact a4
    ·cases up with
     | true=>exact ⟨a6,c6⟩
     | false=>exact ⟨a6,c6⟩
end Go.Proofs.YtabjjdicffcolaaGreatDoor
namespace Go.Proofs.YtabjjdicffcolaaGreatDoor
def sqn (x:Rat):Nat→Rat
 | 0=>x
 | k+1=>sqn (x*x) k
theorem Hv:∀ (k:Nat) {x y:Rat},0≤x→x≤y→sqn x k≤sqn y k
 | 0,_,_,_,h=>h
 | k + 1, x, y, h0, h => by
   refine Hv k (Rat.mul_nonneg h0 h0) ?_;have h1:=Rat.mul_le_mul_of_nonneg_left h h0;have h2:=Rat.mul_le_mul_of_nonneg_right h (Rat.le_trans h0 h);exact Rat.le_trans h1 h2
theorem Zw:∀ k,sqn 1 k=1
 | 0=>rfl
 | k + 1 => by
   show sqn (1*1) k=1
   rw [Rat.mul_one];exact Zw k
theorem Ajc {x:Rat}(k:Nat)(h:1≤x):1≤sqn x k:=by
 have h2:=Hv k (show (0:Rat)≤1 by decide) h
 rwa [Zw] at h2
theorem Aff {x:Rat}(h:0≤x)(n:Nat):eS x n≤eS (x*pw (-1)) n*eS (x*pw (-1)) n:=by
 have e:=U5;have h1:0≤x*pw (-1):=Rat.mul_nonneg h (Dc _);have h2:=Ah4 h1 h1 n;have h3:x*pw (-1)+x*pw (-1)=x:=by rw [e];grind
 rwa [h3] at h2
theorem Tg {x:Rat}(h:0≤x)(n k:Nat):∀ i:Nat,sqn (eS x n) k≤sqn (eS (x*pw (-(i:Int))) n) (k+i)
 | 0 => by
   have e:x*pw (-((0:Nat):Int))=x:=by
    rw [show (-((0:Nat):Int))=0 from rfl,Gd,Rat.mul_one]
   rw [e];exact Rat.le_refl
 | i + 1 => by
   have h1:=Tg h n k i;have h0:0≤x*pw (-(i:Int)):=Rat.mul_nonneg h (Dc _);have h2:=Hv (k+i) (Oy h0 n) (Aff h0 n);have e:x*pw (-(i:Int))*pw (-1)=x*pw (-((i+1:Nat):Int)):=by
    rw [Rat.mul_assoc,←Ez]
    congr 2
    omega
   rw [e] at h2;exact Rat.le_trans h1 h2
theorem Aiw {d:Dy}(h0:d.m≠0)(hl:bl d.m≤4096)(h1:-400≤d.e)(h2:Bh d≤7):(Gy d).q=d.q*pw (-(Cs d:Int))∧(Gy d).neg=d.neg∧Bh (Gy d)=Bh d-(Cs d:Int):=by
 have hp:=Ct _ h0;have h2':=h2;unfold Bh at h2';have hK:(Cs d:Int)=max (Bh d+8) 0:=by unfold Cs;omega
 have hz:=Ng _ _ h0 (Bl d.m);have ek:(Gj d (-(Cs d:Int)))=Ch d.neg d.m (d.e+-(Cs d:Int)):=by
  unfold Gj;rw [if_neg h0,if_neg (by omega)]
 obtain ⟨a,b⟩:=Li (neg:=d.neg) (n:=d.m) (e:=d.e+-(Cs d:Int)) h0 (by omega) (by omega) (by omega);obtain ⟨c,f,g⟩:=F7 (neg:=d.neg) (n:=d.m) (e:=d.e+-(Cs d:Int)) h0 (by omega) (by omega) (by omega);refine ⟨Adn (by rw [ek];exact a),?_,?_⟩
 ·unfold Gy;rw [ek];exact b
 ·unfold Gy;rw [ek,f];unfold Bh;omega
def eP (a:Dy) (n:Nat):Rat:=sqn (eS (Gy a).q n) (Cs a)
structure ExN (a:Dy):Prop where
 m:a.m≠0
 neg:a.neg=false
 len:bl a.m≤4096
 e:-400≤a.e
 top:Bh a≤7
theorem ExN.r {a:Dy}(h:ExN a):(Gy a).q=a.q*pw (-(Cs a:Int))∧(Gy a).neg=false∧Bh (Gy a)=Bh a-(Cs a:Int)∧(Gy a).m≠0∧-500≤(Gy a).e∧Bh (Gy a)≤-8:=by
 obtain ⟨b1,b2,b3⟩:=Aiw h.m h.len h.e h.top;obtain ⟨c1,c2,c3⟩:=Q0 h.m h.len h.e h.top;exact ⟨b1,b2.trans h.neg,b3,c1,c2,c3⟩
theorem ExN.pos {a:Dy}(h:ExN a):0<a.q:=U7 h.m h.neg
theorem ExN.rpos {a:Dy}(h:ExN a):0≤(Gy a).q:=by
 rw [h.r.1];exact Rat.mul_nonneg (Rat.le_of_lt h.pos) (Dc _)
theorem Ahu {a:Dy}(h:ExN a){n:Nat}(hn:1≤n):1≤eP a n:=Ajc _ (Aja h.rpos hn)
theorem Yy {a b:Dy}(ha:ExN a)(hb:ExN b)(h:a.q≤b.q)(n:Nat):eP a n≤eP b n:=by
 have ht:Bh a≤Bh b:=by
  have h1:=(Jf ha.m ha.neg).1;have h2:=(Jf hb.m hb.neg).2;have h3:pw (Bh a-1)<pw (Bh b):=by grind
  have:=Hb h3;omega
 have hk:Cs a≤Cs b:=by unfold Cs;omega
 unfold eP;obtain ⟨i,hi⟩:∃ i:Nat,Cs b=Cs a+i:=⟨Cs b-Cs a,by omega⟩;rw [ha.r.1,hb.r.1,hi];have h1:a.q*pw (-(Cs a:Int))≤b.q*pw (-(Cs a:Int)):=Rat.mul_le_mul_of_nonneg_right h (Dc _);have h0:0≤a.q*pw (-(Cs a:Int)):=Rat.mul_nonneg (Rat.le_of_lt ha.pos) (Dc _);have h2:=Hv (Cs a) (Oy h0 n) (Ago h0 h1 n);have h3:=Tg (Rat.le_trans h0 h1) n (Cs a) i;have e:b.q*pw (-(Cs a:Int))*pw (-(i:Int))=b.q*pw (-((Cs a+i:Nat):Int)):=by
  rw [Rat.mul_assoc,←Ez]
  congr 2
  omega
 rw [e] at h3;exact Rat.le_trans h2 h3
def EL (d:Dy) (y:Rat):Prop:=if d.m=0 then y≤1 else if d.neg then ∃ c,1≤c∧(∀ n,eP (C9 d) n≤c)∧y*c≤1 else ∃ n,1≤n∧y≤eP (C9 d) n
def EU (d:Dy) (y:Rat):Prop:=if d.m=0 then 1≤y else if d.neg then 0<y∧∃ n,1≤y*eP (C9 d) n else ∀ n,eP (C9 d) n≤y
theorem Ug {d:Dy}:d.q=if d.neg then -(C9 d).q else (C9 d).q:=by
 unfold Dy.q sq C9;cases d.neg
 ·simp
 ·simp [Rat.neg_mul]
def ExM (d:Dy):Prop:=d.m≠0→ExN (C9 d)
theorem Adj   {d d':Dy}{y y':Rat}(hd:ExM d)(hd':ExM d')(h:d.q≤d'.q)(hl:EL d y)(hu:EU d' y'):y≤y':=by
 have q0:∀ {d:Dy},d.m=0→d.q=0:=fun h=>Mw h
 unfold EL at hl;unfold EU at hu
 by_cases h1:d.m=0
 ·rw [if_pos h1] at hl
  by_cases h2:d'.m=0
  ·rw [if_pos h2] at hu;exact Rat.le_trans hl hu
  ·rw [if_neg h2] at hu;have n2:=hd' h2;cases hn:d'.neg with
   | true =>
     exfalso
     have e:=Ug (d:=d');rw [hn,if_pos rfl] at e;have:=n2.pos;rw [q0 h1,e] at h
     grind
   | false =>
     rw [hn,if_neg (by decide)] at hu;exact Rat.le_trans hl (Rat.le_trans (Ahu n2 (Nat.le_refl 1)) (hu 1))
 ·rw [if_neg h1] at hl;have n1:=hd h1;have e1:=Ug     (d:=d);have p1:=n1.pos;cases hn1:d.neg with
  | true =>
    rw [hn1,if_pos rfl] at hl e1;obtain ⟨c,c1,c2,c3⟩:=hl;have hy:y≤1:=by
     rcases Rat.le_total (a:=y) (b:=0) with hy0 | hy0
     ·exact Rat.le_trans hy0 (by decide)
     ·have := Rat.mul_le_mul_of_nonneg_left c1 hy0;rw [Rat.mul_one] at this;exact Rat.le_trans this c3
    by_cases h2:d'.m=0
    ·rw [if_pos h2] at hu;exact Rat.le_trans hy hu
    ·rw [if_neg h2] at hu;have n2:=hd' h2;cases hn:d'.neg with
     | true =>
       rw [hn,if_pos rfl] at hu;obtain ⟨u1,n,u2⟩:=hu;have e2:=Ug (d:=d');rw [hn,if_pos rfl] at e2;have h3:(C9 d').q≤(C9 d).q:=by
        rw [e1,e2] at h
        grind
       have h4:=Rat.le_trans (Yy n2 n1 h3 n) (c2 n);have h5:=Rat.mul_le_mul_of_nonneg_left h4 (Rat.le_of_lt u1);have h6:y*c≤y'*c:=Rat.le_trans c3 (Rat.le_trans u2 h5);have h7:0<c:=by grind
       have h8:0<c⁻¹:=Rat.inv_pos.2 h7;have h9:c*c⁻¹=1:=Rat.mul_inv_cancel _ (by grind);have h10:=Rat.mul_le_mul_of_nonneg_right h6 (Rat.le_of_lt h8)
       rwa [Rat.mul_assoc,Rat.mul_assoc,h9,Rat.mul_one,Rat.mul_one] at h10
     | false =>
       rw [hn,if_neg (by decide)] at hu;exact Rat.le_trans hy (Rat.le_trans (Ahu n2 (Nat.le_refl 1)) (hu 1))
  | false =>
    rw [hn1,if_neg (by decide)] at hl e1;obtain ⟨n,hn0,hl⟩:=hl
    by_cases h2:d'.m=0
    ·exfalso
     rw [q0 h2,e1] at h
     grind
    ·rw [if_neg h2] at hu;have n2:=hd' h2;have e2:=Ug     (d:=d');have p2:=n2.pos;cases hn:d'.neg with
     | true =>
       exfalso
       rw [hn,if_pos rfl] at e2;rw [e1,e2] at h
       grind
     | false =>
       rw [hn,if_neg (by decide)] at hu e2;rw [e1,e2] at h;exact Rat.le_trans hl (Rat.le_trans (Yy n1 n2 h n) (hu n))
def ExpS (d:Dy) (p:Nat) (up:Bool) (z:Dy):Prop:=∃ lo hi,EL d lo∧EU d hi∧It up p lo z.q∧It up p hi z.q
theorem ExpS.order {d d':Dy}{p p':Nat}{z z':Dy}(hd:ExM d)(hd':ExM d')(h:d.q≤d'.q)(a:ExpS d p false z)(b:ExpS d' p' true z'):z.q≤z'.q:=by
 obtain ⟨lo,hi,a1,a2,a3,a4⟩:=a;obtain ⟨lo',hi',b1,b2,b3,b4⟩:=b;exact Rat.le_trans (IsDown.le a3) (Rat.le_trans (Adj hd hd' h a1 b2) (IsUp.le b4))
theorem ExpS.down {d d':Dy}{p p':Nat}{z z':Dy}(hd:ExM d)(hd':ExM d')(h:d.q≤d'.q)(hp:p≤p')(a:ExpS d p false z)(b:ExpS d' p' false z'):z.q≤z'.q:=by
 obtain ⟨lo,hi,a1,a2,a3,a4⟩:=a;obtain ⟨lo',hi',b1,b2,b3,b4⟩:=b;exact IsDown.mono a3 b4 hp (Adj hd hd' h a1 b2)
theorem ExpS.up {d d':Dy}{p p':Nat}{z z':Dy}(hd:ExM d)(hd':ExM d')(h:d.q≤d'.q)(hp:p'≤p)(a:ExpS d p true z)(b:ExpS d' p' true z'):z.q≤z'.q:=by
 obtain ⟨lo,hi,a1,a2,a3,a4⟩:=a;obtain ⟨lo',hi',b1,b2,b3,b4⟩:=b;exact IsUp.mono b4 a3 hp (Adj hd hd' h a1 b2)
structure Nm (p:Nat) (B:Int) (x:Dy):Prop where
 m:x.m≠0
 neg:x.neg=false
 b:bl x.m≤p
 lo:-B≤Bh x
 hi:Bh x≤B
theorem Nm.pos {p:Nat}{B:Int}{x:Dy}(h:Nm p B x):0<x.q:=U7 h.m h.neg
theorem Rz {p:Nat}{B:Int}{up:Bool}{d:Dy}(p1:1≤p)(p2:p≤2000)(h0:d.m≠0)(hn:d.neg=false)(h1:-1000000≤d.e)(h2:Bh d≤B)(h3:-B≤Bh d)(hB:B≤1000000) :
 Nm p (B+1) (G8 p up d)∧It up p d.q (G8 p up d).q:=by
 obtain ⟨a,b,c,e⟩:=Ro (up:=up) p1 p2 h0 h1 (by omega);obtain ⟨t1,t2⟩:=Jf h0 hn;have hb:=b.trans hn;have u1:=Le a (Hk p1 (Bh d-1)) t1;have u2:=Kt a (Hk p1 (Bh d)) (Rat.le_of_lt t2);have:=Ul c hb u1;have:=Xv c hb u2;exact ⟨⟨c,hb,e,by omega,by omega⟩,a⟩
theorem Ah5 {p:Nat}{x:Dy}{B:Int}(p2:p≤2000)(h:Nm p B x)(hB:B≤200000):(Cw x x).v.m≠0∧(Cw x x).v.neg=false∧(Cw x x).v.q=x.q*x.q∧Bh (Cw x x).v≤2*Bh x∧2*Bh x-1≤Bh (Cw x x).v∧-900000≤(Cw x x).v.e:=by
 have hlo:=h.lo;have hhi:=h.hi;have hb:=h.b;have hp:=Ct _ h.m;unfold Bh at hlo hhi;have hz:=Nat.mul_ne_zero h.m h.m;have h1:=Im (Nat.le_refl (bl x.m)) (Nat.le_refl (bl x.m));have h2:=Ov h.m h.m;have h3:=Ng _ _ hz (Bl _);obtain ⟨a,b⟩:=Li (neg:=x.neg != x.neg) (e:=x.e+x.e) hz (by omega) (by omega) (by omega);obtain ⟨c,f,g⟩:=F7 (neg:=x.neg != x.neg) (e:=x.e+x.e) hz (by omega) (by omega) (by omega);have f':Bh (Cw x x).v=(bl (x.m*x.m):Int)+(x.e+x.e):=f;have g':bl (Cw x x).v.m=bl (x.m*x.m)-tz (x.m*x.m):=g;refine ⟨c,?_,Xh a,?_,?_,?_⟩
 ·refine Eq.trans b ?_;cases x.neg<;>rfl
 ·rw [f'];unfold Bh;omega
 ·rw [f'];unfold Bh;omega
 ·unfold Bh at f';omega
theorem Aez {p:Nat}{up:Bool}{x:Dy}{B:Int}(p1:1≤p)(p2:p≤2000)(h:Nm p B x)(hB:B≤200000):Nm p (2*B+2) (Qy p up x)∧It up p (x.q*x.q) (Qy p up x).q:=by
 obtain ⟨a,b,c,d,e,f⟩:=Ah5 p2 h hB;have hlo:=h.lo;have hhi:=h.hi;obtain ⟨g1,g2⟩:=Rz (B:=2*B+1) (up:=up) p1 p2 a b (by omega) (by omega) (by omega) (by omega);rw [c] at g2;exact ⟨⟨g1.m,g1.neg,g1.b,by have:=g1.lo;show _≤Bh (G8 p up (Cw x x).v);omega,by have:=g1.hi;show Bh (G8 p up (Cw x x).v)≤_;omega⟩,g2⟩
theorem Tx {p:Nat}{up:Bool}(p1:1≤p)(p2:p≤2000):∀ (k:Nat) (x:Dy) (B:Int),k≤15→B+2≤2^(17-k)→Nm p B x→1≤x.q →
 Nm p 200000 (La p up k x)∧1≤(La p up k x).q∧(if up then sqn x.q k≤(La p up k x).q else (La p up k x).q≤sqn x.q k)
 | 0, x, B, _, hB, h, h1 => by
   have hB':B+2≤131072:=by simpa using hB
   refine ⟨⟨h.m,h.neg,h.b,?_,?_⟩,h1,?_⟩
   ·have := h.lo
    show _≤Bh x
    omega
   ·have := h.hi
    show Bh x≤_
    omega
   ·cases up
    ·exact Rat.le_refl
    ·exact Rat.le_refl
 | k + 1, x, B, hk, hB, h, h1 => by
   have e:(17-k:Nat)=17-(k+1)+1:=by omega
   have hB2:(2*B+2)+2≤2^(17-k):=by
    rw [e,Int.pow_succ];omega
   have hBm:B≤200000:=by
    have h2:(2:Int)^(17-(k+1))≤2^17:=by
     have:=Nat.pow_le_pow_right (show 0<2 by decide) (show 17-(k+1)≤17 by omega)
     exact_mod_cast this
    have h3:(2:Int)^17=131072:=by decide
    omega
   obtain ⟨g1,g2⟩:=Aez (up:=up) p1 p2 h hBm;have hx:1≤x.q*x.q:=by
    have:=Rat.mul_le_mul_of_nonneg_left h1 (Rat.le_trans (show (0:Rat)≤1 by decide) h1)
    grind
   have h1':=Le g2 (Gb p1) hx;obtain ⟨i1,i2,i3⟩:=Tx p1 p2 k (Qy p up x) (2*B+2) (by omega) hB2 g1 h1';refine ⟨i1,i2,?_⟩;cases up with
   | true =>
     have i3':sqn (Qy p true x).q k≤(La p true k (Qy p true x)).q:=i3
     show sqn (x.q*x.q) k≤(La p true k (Qy p true x)).q
     exact Rat.le_trans (Hv k (Rat.le_trans (show (0:Rat)≤1 by decide) hx) (IsUp.le g2)) i3'
   | false =>
     have i3':(La p false k (Qy p false x)).q≤sqn (Qy p false x).q k:=i3
     show (La p false k (Qy p false x)).q≤sqn (x.q*x.q) k
     exact Rat.le_trans i3' (Hv k (Rat.le_trans (show (0:Rat)≤1 by decide) h1') (IsDown.le g2))
theorem Ai5 {p:Nat}{d:Dy}(p1:17≤p)(p2:p≤2000)(h:ExN (C9 d))(hn:F0 p false (Gy (C9 d)) 400 1 one one=some (Et p false d)) :
 (H8 p false d (Et p false d)=dz)∨(Nm p 200000 (H8 p false d (Et p false d))∧1≤(H8 p false d (Et p false d)).q∧∃ n,1≤n∧(H8 p false d (Et p false d)).q≤eP (C9 d) n):=by
 obtain ⟨r1,r2,r3,r4,r5,r6⟩:=h.r;have hg:P8 p (Gy (C9 d)) (Ib p false (Et p false d)):=Uf (up:=false) p1 p2 r4 r2 r5 r6 400 1 one one _ (NI.start (by omega)) (by decide) (by decide) hn;obtain ⟨g,n,hn1,hn2⟩:=hg;unfold H8;have hK:Cs (C9 d)≤15:=by have:=h.top;unfold Cs;omega
 generalize Ib p false (Et p false d)=x at *
 rcases g with ⟨g1,g2⟩ | ⟨g1,g2,g3,g4,g5⟩
 ·left
  have hk0:Cs (C9 d)=0:=by
   have hk:(Cs (C9 d):Int)=max (Bh (C9 d)+8) 0:=by unfold Cs;omega
   omega
  rw [hk0,g1]
  rfl
 ·right
  have ht:=Yz g1 g2 g4 g5;have hB:(2:Int)+2≤2^(17-Cs (C9 d)):=by
   have:=Nat.pow_le_pow_right (show 0<2 by decide) (show 2≤17-Cs (C9 d) by omega);have h2:((2^2:Nat):Int)≤((2^(17-Cs (C9 d)):Nat):Int):=by exact_mod_cast this
   have h3:((2^(17-Cs (C9 d)):Nat):Int)=(2:Int)^(17-Cs (C9 d)):=by norm_cast
   omega
  obtain ⟨i1,i2,i3⟩:=Tx (up:=false) (by omega) p2 (Cs (C9 d)) x 2 hK hB ⟨g1,g2,g3,by omega,by omega⟩ g4;refine ⟨i1,i2,n,hn1,?_⟩;have i3':(La p false (Cs (C9 d)) x).q≤sqn x.q (Cs (C9 d)):=i3;exact Rat.le_trans i3' (Hv _ (Rat.le_trans (show (0:Rat)≤1 by decide) g4) hn2)
theorem Ah9 {p:Nat}{d:Dy}(p1:17≤p)(p2:p≤2000)(h:ExN (C9 d))(hn:F0 p true (Gy (C9 d)) 400 1 one one=some (Et p true d)) :
 Nm p 200000 (H8 p true d (Et p true d))∧((H8 p true d (Et p true d)).q≤1/2∨(1≤(H8 p true d (Et p true d)).q∧∀ n,eP (C9 d) n≤(H8 p true d (Et p true d)).q)):=by
 obtain ⟨r1,r2,r3,r4,r5,r6⟩:=h.r;have hg:Rl p (Gy (C9 d)) (Ib p true (Et p true d)):=Uf (up:=true) p1 p2 r4 r2 r5 r6 400 1 one one _ (NI.start (by omega)) (by decide) (by decide) hn;obtain ⟨g1,g2,g3,g⟩:=hg;unfold H8;have hK:Cs (C9 d)≤15:=by have:=h.top;unfold Cs;omega
 generalize Ib p true (Et p true d)=x at *
 rcases g with ⟨g4,g5,g6⟩ | ⟨g4,g5,g6⟩
 ·have hk0 : Cs   (C9   d) = 0 := by
   have hk:(Cs (C9 d):Int)=max (Bh (C9 d)+8) 0:=by unfold Cs;omega
   omega
  rw [hk0];have ht:Bh x≤0:=by
   have e:=U5;have:=Xv (c:=-1) g1 g2 (by rw [e];exact g5);omega
  refine ⟨⟨g1,g2,g3,?_,?_⟩,.inl g5⟩
  ·show _ ≤ Bh   x
   omega
  ·show Bh   x ≤ _
   omega
 ·have ht := Yz      g1 g2 g4 g5;have hB:(2:Int)+2≤2^(17-Cs   (C9   d)):=by
   have:=Nat.pow_le_pow_right (show 0<2 by decide) (show 2≤17-Cs (C9 d) by omega);have h2:((2^2:Nat):Int)≤((2^(17-Cs (C9 d)):Nat):Int):=by exact_mod_cast this
   have h3:((2^(17-Cs (C9 d)):Nat):Int)=(2:Int)^(17-Cs (C9 d)):=by norm_cast
   omega
  obtain ⟨i1,i2,i3⟩:=Tx (up:=true) (by omega) p2 (Cs (C9 d)) x 2 hK hB ⟨g1,g2,g3,by omega,by omega⟩ g4;refine ⟨i1,.inr ⟨i2,fun n=>?_⟩⟩;have i3':sqn x.q (Cs (C9 d))≤(La p true (Cs (C9 d)) x).q:=i3;exact Rat.le_trans (Hv _ (Oy h.rpos n) (g6 n)) i3'
end Go.Proofs.YtabjjdicffcolaaGreatDoor
namespace Go.Proofs.YtabjjdicffcolaaGreatDoor
theorem T5 {a b:Rat}(h0:0<a)(h:a≤b):1/b≤1/a:=by
 have hb:0<b:=by grind
 have ia:0<a⁻¹:=Rat.inv_pos.2 h0;have ib:0<b⁻¹:=Rat.inv_pos.2 hb;have ea:a*a⁻¹=1:=Rat.mul_inv_cancel _ (by grind);have eb:b*b⁻¹=1:=Rat.mul_inv_cancel _ (by grind);have h1:=Rat.mul_le_mul_of_nonneg_right h (Rat.le_of_lt (Rat.mul_pos ia ib));rw [Rat.div_def,Rat.div_def,Rat.one_mul,Rat.one_mul];have e1:a*(a⁻¹*b⁻¹)=b⁻¹:=by rw [←Rat.mul_assoc,ea,Rat.one_mul]
 have e2:b*(a⁻¹*b⁻¹)=a⁻¹:=by rw [Rat.mul_comm a⁻¹ b⁻¹,←Rat.mul_assoc,eb,Rat.one_mul]
 rwa [e1,e2] at h1
theorem Ahz (c:Int):1/pw c=pw (-c):=by
 have h:=M0 c;have h0:=Hf c;have e:pw c*(pw c)⁻¹=1:=Rat.mul_inv_cancel _ (by grind);rw [Rat.div_def,Rat.one_mul];have h1:pw c*(pw c)⁻¹=pw c*pw (-c):=by rw [e,h]
 grind
theorem Ahp {p:Nat}{up:Bool}{b:Dy}(p1:1≤p)(p2:p≤2000)(h:Nm p 200000 b) :
 Nm p 200010 (Cg one b p up).v∧It up p (1/b.q) (Cg one b p up).v.q∧-300000≤(Cg one b p up).v.e:=by
 have b1:=h.m;have hlo:=h.lo;have hhi:=h.hi;have hb:=h.b;have hbb:=Ct _ b1;have o1:one.m≠0:=by decide
 have ob:bl one.m=1:=by decide
 have oe:one.e=0:=rfl;unfold Bh at hlo hhi;have ez:Cg one b p up=Bt one b p up:=by
  unfold Cg;rw [if_neg b1]
 rw [ez];have hK:Bw one b p=p+1+bl b.m-bl one.m:=rfl;have hq:=Pz one.m b.m p o1 b1 (Bw one b p) (by omega);have hk:bl (2^Bw one b p)≤Bw one b p+1:=Gu _ _ (Nat.pow_lt_pow_right (by decide) (by omega));have hm2:=Im (Nat.le_refl (bl one.m)) hk;have hd:=Tj (x:=one.m*2^Bw one b p) b1;have hz:one.m*2^Bw one b p/b.m≠0:=by intro h;rw [h,Gc] at hq;omega
 obtain ⟨x,y,z⟩:=Yc (neg:=one.neg != b.neg) (rest:=decide (¬one.m*2^Bw one b p%b.m=0)) (up:=up) (e:=one.e-b.e-Bw one b p) hz p1 p2 (by omega) (by omega);obtain ⟨x',y',z'⟩:=Ri (neg:=one.neg != b.neg) (rest:=decide (¬one.m*2^Bw one b p%b.m=0)) (up:=up) (e:=one.e-b.e-Bw one b p) hz p1 p2 (by omega) (by omega);have hneg:(Bt one b p up).v.neg=false:=by
  refine Eq.trans y ?_;rw [h.neg]
  rfl
 have hdir:It up p (1/b.q) (Bt one b p up).v.q:=by
  have:=Ma (up:=up) p1 b1 x
  rwa [Ra] at this
 have hm':(Bt one b p up).v.m≠0:=x';have hb':bl (Bt one b p up).v.m≤p:=y';obtain ⟨t1,t2⟩:=Jf b1 h.neg;have u1:=T5 (Hf _) t1;have u2:=T5 h.pos (Rat.le_of_lt t2);rw [Ahz] at u1 u2;have v1:=Ul hm' hneg (Le hdir (Hk p1 _) u2);have v2:=Xv hm' hneg (Kt hdir (Hk p1 _) u1);have hlo':=h.lo;have hhi':=h.hi;have e3:Bh (Bt one b p up).v=(bl (Bt one b p up).v.m:Int)+(Bt one b p up).v.e:=rfl;exact ⟨⟨hm',hneg,hb',by omega,by omega⟩,hdir,by omega⟩
theorem Adm {a b:Dy}(h:Jj a.raw b.raw=true):a=b:=by
 unfold Jj Dy.raw at h;simp only [Bool.and_eq_true,beq_iff_eq] at h;obtain ⟨⟨h1,h2⟩,h3⟩:=h;have h4:a.m=b.m:=by
  have:=congrArg val h3
  rwa [Bq,Bq] at this
 cases a;cases b;simp only at h1 h2 h4;subst h1 h2 h4
 rfl
theorem Nm.e {p:Nat}{B:Int}{x:Dy}(h:Nm p B x):-B-p≤x.e:=by
 have h1:=h.lo;have h2:=h.b;unfold Bh at h1;omega
theorem Xl {d:Dy}{p w:Nat}{up:Bool}(ok:d.Ok)(p1:1≤p)(p2:p≤300)(w1:17≤w)(w2:w≤2000)(hz:d.m≠0)(hd:-400≤d.e∧(d.m≠0→Bh (C9 d)≤7))(hs:exX d p w up=exY d p w up):ExpS d p up (exX d p w up):=by
 have hN:ExN (C9 d):=⟨hz,rfl,Cr d.m 64 ok.len,hd.1,hd.2 hz⟩;have lo:=Ai5 w1 w2 hN (P3 ok hz hd (by omega) w2 false);have hi:=Ah9 w1 w2 hN (P3 ok hz hd (by omega) w2 true);have eX:exX d p w up=G8 p up (bnE d w).1:=rfl;have eY:exY d p w up=G8 p up (bnE d w).2:=rfl;have eB:bnE d w=K0 w d (H8 w false d (Et w false d)) (H8 w true d (Et w true d)):=rfl;generalize H8 w false d (Et w false d)=L at *;generalize H8 w true d (Et w true d)=H at *;obtain ⟨hH,hi⟩:=hi;have two:pw 1=2:=Om;have half:pw (-1)=1/2:=U5;cases hn:d.neg with
 | false =>
   have eb:bnE d w=(L,H):=by
    rw [eB];unfold K0;rw [hn]
    rfl
   rw [eb] at eX eY;have eX:exX d p w up=G8 p up L:=eX;have eY:exY d p w up=G8 p up H:=eY;obtain ⟨g1,g2⟩:=Rz (B:=200000) (up:=up) p1 (by omega) hH.m hH.neg (by have:=hH.e;omega) hH.hi hH.lo (by decide);rw [←eY,←hs] at g1 g2
   rcases lo with lo | ⟨lo1,lo2,lo3⟩
   ·exfalso
    rw [lo,Oe] at eX;rw [eX] at g1;exact g1.m rfl
   ·obtain ⟨f1, f2⟩ := Rz     (B := 200000) (up := up) p1 (by omega) lo1.m lo1.neg (by have := lo1.e; omega) lo1.hi lo1.lo (by decide);rw [←eX] at f1 f2
    rcases hi with hi | ⟨hi1,hi2⟩
    ·exfalso
     have a:=Le f2 (Gb p1) lo2;have b:=Kt g2 (Hk p1 (-1)) (by rw [half];exact hi);rw [half] at b
     grind
    ·refine ⟨L.q, H.q, ?_, ?_, f2, g2⟩
     ·unfold EL;rw [if_neg hz,hn,if_neg (by decide)];exact lo3
     ·unfold EU;rw [if_neg hz,hn,if_neg (by decide)];exact hi2
 | true =>
   have eb:bnE d w=((Cg one H w false).v,(Cg one L w true).v):=by
    rw [eB];unfold K0;rw [hn]
    rfl
   rw [eb] at eX eY;have eX:exX d p w up=G8 p up (Cg one H w false).v:=eX;have eY:exY d p w up=G8 p up (Cg one L w true).v:=eY;obtain ⟨qH,dH,tH⟩:=Ahp (up:=false) (by omega) w2 hH;obtain ⟨f1,f2⟩:=Rz (B:=200010) (up:=up) p1 (by omega) qH.m qH.neg (by omega) qH.hi qH.lo (by decide);rw [←eX] at f1 f2
   rcases lo with lo | ⟨lo1,lo2,n,lo3,lo4⟩
   ·exfalso
    have e:(Cg one L w true).v=dz:=by
     rw [lo]
     rfl
    rw [e,Oe] at eY;rw [hs,eY] at f1;exact f1.m rfl
   ·obtain ⟨qL, dL, tL⟩ := Ahp   (up := true) (by omega) w2 lo1;obtain ⟨g1,g2⟩:=Rz     (B:=200010) (up:=up) p1 (by omega) qL.m qL.neg (by omega) qL.hi qL.lo (by decide);rw [←eY,←hs] at g1 g2;have L0:=lo1.pos;have H0:=hH.pos;have iL:L.q*(L.q)⁻¹=1:=Rat.mul_inv_cancel _ (by grind);have iH:H.q*(H.q)⁻¹=1:=Rat.mul_inv_cancel _ (by grind)
    rcases hi with hi | ⟨hi1,hi2⟩
    ·exfalso
     have a:pw 1≤1/H.q:=by
      have:=T5 H0 hi;rw [two];have e:(1:Rat)/(1/2)=2:=by decide +kernel
      rwa [e] at this
     have a1:=Le dH (Hk (by omega) 1) a;have a2:=Le f2 (Hk p1 1) a1;have b:1/L.q≤1:=by
      have:=T5 (show (0:Rat)<1 by decide) lo2;have e:(1:Rat)/1=1:=by decide +kernel
      rwa [e] at this
     have b1:=Kt dL (Gb (by omega)) b;have b2:=Kt g2 (Gb p1) b1;rw [two] at a2
     grind
    ·refine ⟨(Cg    one H w false).v.q, (Cg    one L w true).v.q, ?_, ?_, f2, g2⟩
     ·unfold EL;rw [if_neg hz,hn,if_pos rfl];refine ⟨H.q,hi1,hi2,?_⟩;have:=Rat.mul_le_mul_of_nonneg_right (IsDown.le dH) (Rat.le_of_lt H0);rw [Rat.div_def,Rat.one_mul,Rat.mul_comm (H.q)⁻¹,iH] at this;exact this
     ·unfold EU;rw [if_neg hz,hn,if_pos rfl];refine ⟨qL.pos,n,?_⟩;have h1:=Rat.mul_le_mul_of_nonneg_right (IsUp.le dL) (Rat.le_of_lt L0);rw [Rat.div_def,Rat.one_mul,Rat.mul_comm (L.q)⁻¹,iL] at h1;exact Rat.le_trans h1 (Rat.mul_le_mul_of_nonneg_left lo4 (Rat.le_of_lt qL.pos))
theorem Sk {d:Dy}{p:Nat}{up:Bool}(ok:d.Ok)(p1:1≤p)(p2:p≤300)(hz:d.m≠0)(hd:-400≤d.e∧(d.m≠0→Bh (C9 d)≤7)):∀ (f w:Nat),17≤w→(Mu d p up f w).k=0→ExpS d p up (Mu d p up f w).v
 | 0, _, _, h => by
   rw [Mu] at h;exact absurd h (by decide)
 | f + 1, w, hw, h => by
   rw [Mu] at h ⊢
   split at h
   ·exact absurd h (by decide)
   ·rename_i h1
    rw [if_neg h1]
    split at h
    ·rename_i h2
     rw [if_pos h2];exact Xl ok p1 p2 hw (by omega) hz hd (Adm h2)
    ·rename_i h2
     rw [if_neg h2];exact Sk ok p1 p2 hz hd f _ (by omega) h
theorem Abr {d:Dy}{p:Nat}{up:Bool}(p1:1≤p)(hz:d.m=0):ExpS d p up one:=by
 refine ⟨1,1,?_,?_,?_,?_⟩
 ·unfold EL;rw [if_pos hz];exact Rat.le_refl
 ·unfold EU;rw [if_pos hz];exact Rat.le_refl
 ·rw [Ra   ]; cases up
  ·exact IsDown.of_fits (Gb p1)
  ·exact IsUp.of_fits (Gb p1)
 ·rw [Ra   ]; cases up
  ·exact IsDown.of_fits (Gb p1)
  ·exact IsUp.of_fits (Gb p1)
theorem Aiq {r:Raw}{p:Int}(h:Fg r p=0):Fc r=true∧1≤p∧p≤300:=by
 unfold Fg at h
 split at h
 ·rename_i h1
  simp only [Bool.and_eq_true,Bool.not_eq_true',decide_eq_false_iff_not] at h1;exact ⟨h1.1.1,by omega,by omega⟩
 ·exact absurd h (by decide)
theorem Zl {d:Dy}{p:Int}(ok:d.Ok)(h:Fg d.raw p=0):ExM d:=fun hz=>by
 have hd:=M5 h;exact ⟨hz,rfl,Cr d.m 64 ok.len,hd.1,hd.2 hz⟩
theorem Sw {d:Dy}{p:Nat}{up:Bool}(ok:d.Ok)(h:(F9 d p up).k=0):ExM d∧ExpS d p up (F9 d p up).v∧Fg d.raw p=0∧1≤p∧p≤300:=by
 unfold F9 at h ⊢
 split at h
 ·rename_i h0
  exact absurd h h0
 ·rename_i h0
  have h0':Fg d.raw p=0:=by omega
  obtain ⟨-,p1,p2⟩:=Aiq h0';rw [if_neg h0]
  split at h
  ·rename_i hz
   rw [if_pos hz];exact ⟨Zl ok h0',Abr (by omega) hz,h0',by omega,by omega⟩
  ·rename_i hz
   rw [if_neg hz];exact ⟨Zl ok h0',Sk ok (by omega) (by omega) hz (M5 h0') _ _ (by omega) h,h0',by omega,by omega⟩
def ovE (a b:Int):Int:=if a=1∨b=1 then 1 else if a=4∨b=4 then 4 else if a=2∨b=2 then 2 else 0
def ovI (a:Iv) (p:Nat):Outc Iv :=
 if ovE (Fg a.lo.raw p) (Fg a.hi.raw p)≠0 then ⟨iz,ovE (Fg a.lo.raw p) (Fg a.hi.raw p)⟩
 else if (F9 a.lo p false).k≠0∨(F9 a.hi p true).k≠0 then ⟨iz,max (F9 a.lo p false).k (F9 a.hi p true).k⟩
 else ⟨⟨(F9 a.lo p false).v,(F9 a.hi p true).v⟩,0⟩
theorem Kr (r:Raw)(p:Int):Fg r p=0∨Fg r p=1∨Fg r p=2∨Fg r p=4:=by
 unfold Fg
 split
 ·split
  ·split<;>simp
  ·simp
 ·simp
theorem Aek {a b:Int}(ha:a=0∨a=1∨a=2∨a=4)(hb:b=0∨b=1∨b=2∨b=4):ovE a b=0↔a=0∧b=0:=by
 unfold ovE
 rcases ha with rfl | rfl | rfl | rfl<;>rcases hb with rfl | rfl | rfl | rfl<;>simp
theorem Adb (d:Dy)(p:Nat)(up:Bool):∀ f w,(Mu d p up f w).k=0∨(Mu d p up f w).k=2
 | 0,_=>.inr rfl
 | f + 1, w => by
   rw [Mu]
   split
   ·exact .inr rfl
   ·split
    ·exact .inl rfl
    ·exact Adb d p up f _
theorem Aeb {d:Dy}{p:Nat}{up:Bool}(h:Fg d.raw p=0):(F9 d p up).k=0∨(F9 d p up).k=2:=by
 unfold F9;rw [if_neg (by rw [h];decide)]
 split
 ·exact .inl rfl
 ·exact Adb _ _ _ _ _
theorem Ack {a:Iv}{p:Nat}(h:(ovI a p).k=0):(F9 a.lo p false).k=0∧(F9 a.hi p true).k=0∧(ovI a p).v=⟨(F9 a.lo p false).v,(F9 a.hi p true).v⟩:=by
 unfold ovI at h ⊢
 split at h
 ·rename_i h0
  exact absurd h h0
 ·rename_i h0
  rw [if_neg h0];have h0':=(Aek (Kr a.lo.raw p) (Kr a.hi.raw p)).1 (by omega)
  split at h
  ·rename_i h1
   exfalso
   have h':max (F9 a.lo p false).k (F9 a.hi p true).k=0:=h
   rcases Aeb (up:=false) h0'.1 with e1 | e1<;>rcases Aeb (up:=true) h0'.2 with e2 | e2<;>omega
  ·rename_i h1
   rw [if_neg h1];exact ⟨by omega,by omega,rfl⟩
theorem Acr (a:Iv)(p:Nat)(ha:a.Ok)(_:1≤p)(_:p≤300):OkI (ovI a p):=by
 by_cases hk:(ovI a p).k=0
 ·obtain ⟨a1, a2, a3⟩ := Ack hk;obtain ⟨c1,c2,-⟩:=Sw ha.lo a1;obtain ⟨c3,c4,-⟩:=Sw ha.hi a2;refine ⟨?_,fun h=>absurd hk h⟩;rw [a3];exact ⟨(Zx _ _ _).1,(Zx _ _ _).1,c2.order c1 c3 ha.le c4⟩
 ·have hz : (ovI a p).v = iz := by
   unfold ovI at hk ⊢
   split
   ·rfl
   ·split
    ·rfl
    ·rename_i h1 h2
     rw [if_neg h1,if_neg h2] at hk;exact absurd rfl hk
  exact ⟨by rw [hz];exact Abu,fun _=>hz⟩
end Go.Proofs.YtabjjdicffcolaaGreatDoor
namespace Go.Proofs.YtabjjdicffcolaaGreatDoor
def Wth (a x:Iv):Prop:=x.lo.q≤a.lo.q∧a.hi.q≤x.hi.q
theorem Wth.refl (a:Iv):Wth a a:=⟨Rat.le_refl,Rat.le_refl⟩
theorem Wth.trans {a b c:Iv}(h:Wth a b)(h':Wth b c):Wth a c:=⟨Rat.le_trans h'.1 h.1,Rat.le_trans h.2 h'.2⟩
theorem IsRootDown.mono {p p':Nat}{x x' d d':Rat}(h:IsRootDown p x d)(h':IsRootDown p' x' d')(hp:p≤p')(hx:x≤x'):d≤d' :=
 h'.best d (h.fits.mono hp) h.nonneg (Rat.le_trans h.le hx)
theorem IsRootUp.mono {p p':Nat}{x x' d d':Rat}(h:IsRootUp p x d)(h':IsRootUp p' x' d')(hp:p≤p')(hx:x'≤x):d'≤d :=
 h'.best d (h.fits.mono hp) h.nonneg (Rat.le_trans hx h.le)
end Go.Proofs.YtabjjdicffcolaaGreatDoor
