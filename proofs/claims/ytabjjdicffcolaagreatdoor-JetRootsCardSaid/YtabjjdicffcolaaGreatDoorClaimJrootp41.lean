/- Words and contracts, part 41. -/
import Derived.Test.YtabjjdicffcolaaGreatDoorClaimJrootp33
set_option maxRecDepth 100000
set_option maxHeartbeats 0
namespace Go.Proofs.YtabjjdicffcolaaGreatDoor
theorem Abo {a b:Int}(h:pw a≤pw b):a≤b:=by
 rcases Int.lt_or_le b a with h1 | h1
 ·exfalso;have h2:=Ga (show b+1≤a by omega);have h3:=Hi b;rw [Fb,Qq] at h2;grind
 ·exact h1
theorem Hu {a b:Int}(h:pw a<pw b):a<b:=by
 rcases Int.lt_or_le a b with h1 | h1
 ·exact h1
 ·exfalso;have h2:=Ga h1;grind
theorem Aeb {d:Dy}(hn:d.neg=false):d.q=(d.m:Rat)*pw d.e:=by
 unfold Dy.q sq;rw [hn];rfl
theorem Uz {d:Dy}(h:d.m≠0)(hn:d.neg=false):0<d.q:=by
 rw [Aeb hn];exact Ts h d.e
theorem Jq {d:Dy}(h:d.m≠0)(hn:d.neg=false):pw (Bb d-1)≤d.q∧d.q<pw (Bb d):=by
 rw [Aeb hn];exact Xe h d.e
theorem Gk {p:Nat}(hp:1≤p):Fits p 1:=⟨false,1,0,hp,by simp [sq,Fp]⟩
theorem Hf {p:Nat}(hp:1≤p)(e:Int):Fits p (pw e):=by
 have h:=(Gk hp).pw e;rwa [Rat.one_mul] at h
theorem Xy {x:Dy}{c:Int}(h:x.m≠0)(hn:x.neg=false)(hq:pw c≤x.q):c+1≤Bb x:=by
 have h1:=(Jq h hn).2;have h2:pw c<pw (Bb x):=by grind
 have:=Hu h2;omega
theorem Ab3 {x:Dy}{c:Int}(h:x.m≠0)(hn:x.neg=false)(hq:x.q≤pw c):Bb x≤c+1:=by
 have h1:=(Jq h hn).1;have h2:pw (Bb x-1)≤pw c:=by grind
 have:=Abo h2;omega
theorem Adf {x:Dy}(h:x.m≠0)(hn:x.neg=false)(h1:1≤x.q)(h2:x.q<2):Bb x=1:=by
 have a:=Xy (c:=0) h hn (by rw [Fp];exact h1);have b:=(Jq h hn).1;have c:pw (Bb x-1)<pw 1:=by rw [Qq];grind
 have:=Hu c;omega
theorem Ao0 {s t:Dy}{p:Nat}(p2:p≤2000)(s0:s.m≠0)(sn:s.neg=false)(sb:bl s.m≤p)(s1:1≤s.q)(t0:t.m≠0)(tn:t.neg=false)(tk:t.Ok)(h2:s.q+t.q<2) :
 ((Dz s t).k=0↔-4095≤t.e)∧((Dz s t).k=0→(Dz s t).v.m≠0∧(Dz s t).v.neg=false∧Bb (Dz s t).v=1∧-5000≤(Dz s t).v.e):=by
 have t1:=Uz t0 tn;have hs1:=(Jq s0 sn).1;have hs2:=(Jq s0 sn).2;have hs3:Bb s=1:=by
  have a:pw (Bb s-1)<pw 1:=by rw [Qq];grind
  have b:pw 0<pw (Bb s):=by rw [Fp];grind
  have:=Hu a;have:=Hu b;omega
 have hs4:(bl s.m:Int)+s.e=1:=hs3;have sp:=Co _ s0;have key:∀ (n:Nat) (e:Int),n≠0→(n:Rat)*pw e=s.q+t.q→(bl n:Int)+e=1:=by
  intro n e hn he;obtain ⟨a,b⟩:=Xe hn e;rw [he] at a b;have c:pw (bl n+e-1)<pw 1:=by rw [Qq];grind
  have d:pw 0<pw (bl n+e):=by rw [Fp];grind
  have:=Hu c;have:=Hu d;omega
 unfold Dz;rw [if_neg s0,if_neg t0];by_cases h:s.e<t.e
 ·rw [if_pos h];have hn:t.m*2^(t.e-s.e).toNat+s.m≠0:=by omega
  have he:((t.m*2^(t.e-s.e).toNat+s.m:Nat):Rat)*pw s.e=s.q+t.q:=by
   rw [Aeb sn,Aeb tn,Rat.natCast_add,Rat.add_mul,←H3 t.m (Int.le_of_lt h)];grind
  have hb:=key _ _ hn he;have hg:¬(¬t.e=s.e∧4097-(bl t.m:Int)<t.e-s.e):=by
   have hbt:bl t.m+(t.e-s.e).toNat≤bl (t.m*2^(t.e-s.e).toNat+s.m):=by
    rw [←Hq _ _ t0];exact Gq (Nat.le_add_right _ _)
   omega
  have hz:=M9 _ _ hn (Bd (t.m*2^(t.e-s.e).toNat+s.m));unfold Kw;rw [if_neg hg,if_pos (tn.trans sn.symm),tn];obtain ⟨k1,k2⟩:=Mm (neg:=false) (e:=s.e) hn (by omega) (by omega) (by omega);obtain ⟨f1,f2,f3⟩:=Gj (neg:=false) (e:=s.e) hn (by omega) (by omega) (by omega);have f2':=f2;unfold Bb at f2';exact ⟨⟨fun _=>by omega,fun _=>k1⟩,fun _=>⟨f1,k2,by omega,by omega⟩⟩
 ·rw [if_neg h];have hn:s.m*2^(s.e-t.e).toNat+t.m≠0:=by omega
  have he:((s.m*2^(s.e-t.e).toNat+t.m:Nat):Rat)*pw t.e=s.q+t.q:=by
   rw [Aeb sn,Aeb tn,Rat.natCast_add,Rat.add_mul,←H3 s.m (by omega:t.e≤s.e)]
  have hb:=key _ _ hn he;have hz:=M9 _ _ hn (Bd (s.m*2^(s.e-t.e).toNat+t.m));unfold Kw;by_cases hte:-4095≤t.e
  ·rw [if_neg (by omega),if_pos (sn.trans tn.symm),sn];obtain ⟨k1,k2⟩:=Mm (neg:=false) (e:=t.e) hn (by omega) (by omega) (by omega);obtain ⟨f1,f2,f3⟩:=Gj (neg:=false) (e:=t.e) hn (by omega) (by omega) (by omega);have f2':=f2;unfold Bb at f2';exact ⟨⟨fun _=>hte,fun _=>k1⟩,fun _=>⟨f1,k2,by omega,by omega⟩⟩
  ·have hk:∀ o:Outc Dy,o.k≠0→(o.k=0↔-4095≤t.e)∧(o.k=0→o.v.m≠0∧o.v.neg=false∧Bb o.v=1∧-5000≤o.v.e) :=
    fun o ho=>⟨⟨fun a=>absurd a ho,fun a=>absurd a hte⟩,fun a=>absurd a ho⟩
   apply hk;split
   ·decide
   ·rw [if_pos (sn.trans tn.symm)];have ho:(s.m*2^(s.e-t.e).toNat+t.m)%2=1:=by
     have h1:=tk.odd t0;have h2:(s.e-t.e).toNat=(s.e-t.e).toNat-1+1:=by omega
     rw [h2,Nat.pow_succ,←Nat.mul_assoc];omega
    have hl:64<(Aj (s.m*2^(s.e-t.e).toNat+t.m)).length:=by
     refine Decidable.byContradiction fun hc=>?_
     have hb2:=Df (s.m*2^(s.e-t.e).toNat+t.m) 64 (by omega);omega
    unfold Bw;rw [if_neg hn,Adh ho,Nat.pow_zero,Nat.div_one,if_pos hl]
    decide
theorem Tv {d:Dy}{p:Nat}{up:Bool}(p1:1≤p)(p2:p≤2000)(h0:d.m≠0)(h1:-1000000≤d.e)(h2:Bb d≤1000000) :
 Fq up p d.q (Hw p up d).q∧(Hw p up d).neg=d.neg∧(Hw p up d).m≠0∧bl (Hw p up d).m≤p:=by
 unfold Bb at h2;obtain ⟨a,b,c⟩:=Aa0 (neg:=d.neg) (rest:=false) (up:=up) h0 p1 p2 h1 h2;obtain ⟨x,y,z⟩:=Su (neg:=d.neg) (rest:=false) (up:=up) h0 p1 p2 h1 h2;exact ⟨Sw p1 a,b,x,y⟩
theorem Qt (p:Nat)(up:Bool):Hw p up dz=dz:=by
 unfold Hw Cw Iu;have h:Eb 0 false p (up != dz.neg)=0:=by unfold Eb Ie;simp [bl]
 show (Bw dz.neg (Eb 0 false p (up != dz.neg)) _).v=dz
 rw [h];rfl
theorem Lf {up:Bool}{p:Nat}{x d b:Rat}(h:Fq up p x d)(hb:Fits p b)(hx:x≤b):d≤b:=by
 cases up with
 | true=>exact IsUp.best h b hb hx
 | false=>exact Rat.le_trans (IsDown.le h) hx
theorem Ml {up:Bool}{p:Nat}{x d b:Rat}(h:Fq up p x d)(hb:Fits p b)(hx:b≤x):b≤d:=by
 cases up with
 | true=>exact Rat.le_trans hx (IsUp.le h)
 | false=>exact IsDown.best h b hb hx
theorem Acy {s t:Dy}{p:Nat}{up:Bool}(p1:1≤p)(p2:p≤2000)(s0:s.m≠0)(sn:s.neg=false)(sb:bl s.m≤p)(s1:1≤s.q)(t0:t.m≠0)(tn:t.neg=false)(tk:t.Ok)(h2:s.q+t.q<2) :
 (-4095≤t.e→Fq up p (s.q+t.q) (D3 p up s t).q∧(D3 p up s t).neg=false∧(D3 p up s t).m≠0∧bl (D3 p up s t).m≤p)∧(t.e < -4095→D3 p up s t=dz):=by
 obtain ⟨a,b⟩:=Ao0 p2 s0 sn sb s1 t0 tn tk h2;constructor
 ·intro h;have hk:=a.2 h;obtain ⟨b1,b2,b3,b4⟩:=b hk;have hq:=Pa hk;obtain ⟨c1,c2,c3,c4⟩:=Tv (up:=up) p1 p2 b1 (by omega) (by omega);rw [hq] at c1;exact ⟨c1,c2.trans b2,c3,c4⟩
 ·intro h;have hk:(Dz s t).k≠0:=fun e=>by have:=a.1 e;omega
  have hz:(Dz s t).v=dz:=by
   have hs:s.Ok∨True:=.inr trivial;unfold Dz at hk ⊢;rw [if_neg s0,if_neg t0] at hk ⊢;split at hk<;>rename_i hc
   ·rw [if_pos hc];exact (Xv _ _).2 hk
   ·rw [if_neg hc];exact (Xv _ _).2 hk
  unfold D3;rw [hz,Qt]
theorem Ai6 {r:Rat}(h0:0≤r)(h1:r≤1/2)(j:Nat):2*eT r (j+1)≤eT r j:=by
 have h2:=R9 r j;have h3:=Gx h0 (j+1);have h4:=Gx h0 j;have h5:(1:Rat)≤((j+1:Nat):Rat):=by exact_mod_cast Nat.le_add_left 1 j
 have h6:=Rat.mul_le_mul_of_nonneg_right h5 h3;have h7:=Rat.mul_le_mul_of_nonneg_right h1 h4;rw [h2] at h6;grind
theorem Ai5 {r:Rat}(h0:0≤r)(h1:r≤1/2)(j n:Nat):eS r n≤eS r (j+1)+eT r j:=by
 have step:∀ m,eS r (j+1+m)+eT r (j+m)≤eS r (j+1)+eT r j:=by
  intro m
  induction m with
  | zero=>exact Rat.le_refl
  | succ m ih =>
    have h2:=Ai6 h0 h1 (j+m);have e1:eS r (j+1+(m+1))=eS r (j+1+m)+eT r (j+1+m):=rfl;have e2:j+1+m=j+m+1:=by omega
    rw [e2] at e1 ih;have e3:j+(m+1)=j+m+1:=by omega
    rw [e1,e3];grind
 have h2:=step n;have h3:=Ack h0 (m:=n) (n:=j+1+n) (by omega);have h4:=Gx h0 (j+n);grind
def sB (j:Nat):Nat:=if j≤1 then 65536 else 65790+j
theorem Ane:(sB 1:Rat)*pw (-16)=1:=by decide +kernel
theorem Zi:pw (-1)=1/2:=by decide +kernel
theorem Aop:pw (-8)=1/256:=by decide +kernel
theorem Akr {j:Nat}(h:1≤j):(sB j:Rat)*pw (-16)+pw (-8*(j:Int))≤(sB (j+1):Rat)*pw (-16):=by
 by_cases h1:j=1
 ·subst h1
  decide +kernel
 ·have e:(sB (j+1):Rat)=(sB j:Rat)+1:=by
   have:sB (j+1)=sB j+1:=by
    unfold sB;rw [if_neg (by omega),if_neg (by omega)];omega
   rw [this,Rat.natCast_add];rfl
  have h2:=Ga (show -8*(j:Int)≤-16 by omega);rw [e];grind
theorem Alo {j:Nat}(h:j≤500):(sB j:Rat)*pw (-16)≤17/16:=by
 have h1:sB j≤69632:=by unfold sB;split<;>omega
 have h2:=(G5 (-16)).2 (Cn.2 h1);have h3:((69632:Nat):Rat)*pw (-16)=17/16:=by decide +kernel
 rwa [h3] at h2
theorem Akq {j p:Nat}(h:j≤500)(hp:17≤p):Fits p ((sB j:Rat)*pw (-16)):=by
 have h1:sB j<2^17:=by unfold sB;split<;>omega
 exact (Kj (p:=p) (m:=sB j) (Nat.le_trans (Ej _ _ h1) hp)).pw (-16)
structure NI (p:Nat) (up:Bool) (r:Rat) (j:Nat) (s t:Dy):Prop where
 s0:s.m≠0
 sn:s.neg=false
 sb:bl s.m≤p
 s1:1≤s.q
 s2:s.q≤(sB j:Rat)*pw (-16)
 t0:t.m≠0
 tn:t.neg=false
 tb:bl t.m≤p
 t2:t.q≤pw (-8*((j:Int)-1))
 t3:-(p:Int)-8≤Bb t
 dir:if up then eT r (j-1)≤t.q∧eS r j≤s.q else t.q≤eT r (j-1)∧s.q≤eS r j
theorem Rc:one.q=1:=by decide +kernel
theorem NI.start {p:Nat}{up:Bool}{r:Rat}(p1:1≤p):NI p up r 1 one one:=by
 have b:bl one.m=1:=by decide
 have t:Bb one=1:=by decide
 refine ⟨by decide,rfl,by omega,by rw [Rc];exact Rat.le_refl,by rw [Rc,Ane];exact Rat.le_refl,by decide,rfl,by omega,?_,by omega,?_⟩
 ·rw [Rc]
  show (1:Rat)≤pw 0
  rw [Fp];exact Rat.le_refl
 ·rw [Rc,Aa5];cases up
  ·exact ⟨Rat.le_refl,Rat.le_refl⟩
  ·exact ⟨Rat.le_refl,Rat.le_refl⟩
theorem Ai7 (r:Rat){j:Nat}(h:1≤j):eT r j=eT r (j-1)*r/(j:Rat):=by
 obtain ⟨i,rfl⟩:∃ i,j=i+1:=⟨j-1,by omega⟩;rfl
theorem Qm {p j:Nat}{up:Bool}{r s t:Dy}(p1:1≤p)(p2:p≤2000)(hr:r.m≠0)(rn:r.neg=false)(hr1:-500≤r.e)(hr2:Bb r≤-8)(j1:1≤j)(j2:j≤500)(h:NI p up r.q j s t) :
 (Cj p up r t j).m≠0∧(Cj p up r t j).neg=false∧bl (Cj p up r t j).m≤p∧(Cj p up r t j).q≤pw (-8*(j:Int))∧Bb t+Bb r-25≤Bb (Cj p up r t j) ∧
   (if up then eT r.q j≤(Cj p up r t j).q else (Cj p up r t j).q≤eT r.q j):=by
 have tp:=Uz h.t0 h.tn;have tt:=(Jq h.t0 h.tn).1;have rp:=Uz hr rn;have rt:r.q<pw (-8):=by
  have:=(Jq hr rn).2;have:=Ga hr2;grind
 have t4:Bb t≤100:=by
  have a:=h.t2;have b:=Ga (show -8*((j:Int)-1)≤0 by omega);have c:pw (Bb t-1)≤pw 0:=by grind
  have:=Abo c;omega
 have t3:=h.t3;obtain ⟨a1,a2,a3⟩:=Tq (up:=up) p1 p2 hr hr1 hr2 h.t0 h.tb (by omega) t4 j1 (by omega);obtain ⟨b1,b2,b3⟩:=Abk (up:=up) p1 p2 hr rn hr1 hr2 h.t0 h.tn h.tb (by omega) t4 j1 (by omega);have hj:(1:Rat)≤(j:Rat):=by exact_mod_cast j1
 have hji:(0:Rat)<(j:Rat)⁻¹:=Rat.inv_pos.2 (by grind);have hjm:(j:Rat)*(j:Rat)⁻¹=1:=Rat.mul_inv_cancel _ (by grind);have hji1:(j:Rat)⁻¹≤1:=by
  have:=Rat.mul_le_mul_of_nonneg_right hj (Rat.le_of_lt hji);grind
 have tr0:0<t.q*r.q:=Rat.mul_pos tp rp;have hle:t.q*r.q/(j:Rat)≤t.q*r.q:=by
  rw [Rat.div_def];have:=Rat.mul_le_mul_of_nonneg_left hji1 (Rat.le_of_lt tr0);grind
 refine ⟨a1,b1,a2,?_,b3,?_⟩
 ·refine Lf b2 (Hf p1 _) (Rat.le_trans hle ?_);have e:-8*(j:Int)=-8*((j:Int)-1)+-8:=by omega
  rw [e,Fb];have c1:=Rat.mul_le_mul_of_nonneg_right h.t2 (Rat.le_of_lt rp);have c2:=Rat.mul_le_mul_of_nonneg_left (Rat.le_of_lt rt) (Dg (-8*((j:Int)-1)));exact Rat.le_trans c1 c2
 ·have hd:=h.dir;have hm:∀ {x y:Rat},x≤y→x*r.q/(j:Rat)≤y*r.q/(j:Rat):=fun hxy=>by
   rw [Rat.div_def,Rat.div_def];exact Rat.mul_le_mul_of_nonneg_right (Rat.mul_le_mul_of_nonneg_right hxy (Rat.le_of_lt rp)) (Rat.le_of_lt hji)
  rw [Ai7 _ j1];cases up with
  | true =>
    rw [if_pos rfl] at hd
    show _≤_
    exact Rat.le_trans (hm hd.1) (IsUp.le b2)
  | false =>
    rw [if_neg (by decide)] at hd
    show _≤_
    exact Rat.le_trans (IsDown.le b2) (hm hd.1)
theorem NI.next {p j:Nat}{up:Bool}{r s t:Dy}(p1:17≤p)(p2:p≤2000)(hr:r.m≠0)(rn:r.neg=false)(hr1:-500≤r.e)(hr2:Bb r≤-8)(j1:1≤j)(j2:j≤499)(h:NI p up r.q j s t) :
 (s.q+(Cj p up r t j).q<2)∧(-4095≤(Cj p up r t j).e→(D3 p up s (Cj p up r t j)).m≠0∧(D3 p up s (Cj p up r t j)).neg=false∧bl (D3 p up s (Cj p up r t j)).m≤p∧1≤(D3 p up s (Cj p up r t j)).q ∧
   (D3 p up s (Cj p up r t j)).q≤(sB (j+1):Rat)*pw (-16)∧(if up then eS r.q (j+1)≤(D3 p up s (Cj p up r t j)).q else (D3 p up s (Cj p up r t j)).q≤eS r.q (j+1))) ∧
   ((Cj p up r t j).e < -4095→D3 p up s (Cj p up r t j)=dz):=by
 obtain ⟨a1,a2,a3,a4,a5,a6⟩:=Qm (up:=up) (s:=s) (by omega) p2 hr rn hr1 hr2 j1 (by omega) h;have tk:(Cj p up r t j).Ok:=(Js _ _ _ _).1;generalize Cj p up r t j=t' at *;have hs:=h.s2;have hb:=Akr j1;have hb2:=Alo (show j+1≤500 by omega);have hsum:s.q+t'.q≤(sB (j+1):Rat)*pw (-16):=by grind
 have hlt:s.q+t'.q<2:=by grind
 have tp:=Uz a1 a2;obtain ⟨c1,c2⟩:=Acy (up:=up) (by omega) p2 h.s0 h.sn h.sb h.s1 a1 a2 tk hlt;refine ⟨hlt,fun he=>?_,c2⟩;obtain ⟨d1,d2,d3,d4⟩:=c1 he;refine ⟨d3,d2,d4,?_,Lf d1 (Akq (by omega) p1) hsum,?_⟩
 ·have:=h.s1;exact Ml d1 (Gk (by omega)) (by grind)
 ·have hd:=h.dir;have e:eS r.q (j+1)=eS r.q j+eT r.q j:=rfl;rw [e];cases up with
  | true =>
    have hd2:eT r.q (j-1)≤t.q∧eS r.q j≤s.q:=hd;have a6':eT r.q j≤t'.q:=a6
    show _≤_
    have:=IsUp.le d1;grind
  | false =>
    have hd2:t.q≤eT r.q (j-1)∧s.q≤eS r.q j:=hd;have a6':t'.q≤eT r.q j:=a6
    show _≤_
    have:=IsDown.le d1;grind
def Sk (p:Nat) (r x:Dy):Prop:=(x=dz∧Bb r < -60∨x.m≠0∧x.neg=false∧bl x.m≤p∧1≤x.q∧x.q<2)∧∃ n,1≤n∧x.q≤eS r.q n
def Sj (p:Nat) (r x:Dy):Prop:=x.m≠0∧x.neg=false∧bl x.m≤p∧(Bb r < -60∧x.q≤1/2∧-6000≤Bb x∨1≤x.q∧x.q<2∧∀ n,eS r.q n≤x.q)
theorem Ag1 {p j:Nat}{up:Bool}{r s t:Dy}(p1:17≤p)(p2:p≤2000)(hr:r.m≠0)(rn:r.neg=false)(hr1:-500≤r.e)(hr2:Bb r≤-8)(j1:1≤j)(j2:j≤498)(h:NI p up r.q j s t) :
 if up then Sj p r (I7 p up (D3 p up s (Cj p up r t j),Cj p up r t j)) else Sk p r (I7 p up (D3 p up s (Cj p up r t j),Cj p up r t j)):=by
 obtain ⟨a1,a2,a3,a4,a5,a6⟩:=Qm (up:=up) (s:=s) (by omega) p2 hr rn hr1 hr2 j1 (by omega) h;obtain ⟨b1,b2,b3⟩:=h.next p1 p2 hr rn hr1 hr2 j1 (by omega);have tk:(Cj p up r t j).Ok:=(Js _ _ _ _).1;have t3:=h.t3;generalize Cj p up r t j=t' at *;have rp:=Uz hr rn;have tp:=Uz a1 a2;have rt:r.q≤1/2:=by
  have:=(Jq hr rn).2;have:=Ga (show Bb r≤-1 by omega);have e:=Zi;grind
 have a5':Bb t+Bb r-25≤(bl t'.m:Int)+t'.e:=a5;by_cases he:-4095≤t'.e
 ·obtain ⟨c1,c2,c3,c4,c5,c6⟩:=b2 he;have hb2:=Alo (show j+1≤500 by omega);cases up with
  | false =>
    show Sk _ _ _
    refine ⟨.inr ⟨c1,c2,c3,c4,?_⟩,j+1,by omega,c6⟩
    show (D3 p false s t').q<2
    grind
  | true =>
    show Sj p r (D3 p true (D3 p true s t') t')
    have a6':eT r.q j≤t'.q:=a6;have c6':eS r.q (j+1)≤(D3 p true s t').q:=c6;have t8:t'.q≤pw (-8):=Rat.le_trans a4 (Ga (by omega));have e8:=Aop;generalize D3 p true s t'=s' at *;have c5':=Rat.le_trans c5 hb2;have t8':t'.q≤1/256:=by rw [←e8];exact t8
    clear hb2 c5 t8 e8 b1 b2 b3 a4 a5' h a5;obtain ⟨d1,-⟩:=Acy (up:=true) (by omega) p2 c1 c2 c3 c4 a1 a2 tk (by grind);obtain ⟨f1,f2,f3,f4⟩:=d1 he;have hup:=IsUp.le f1;refine ⟨f3,f2,f4,.inr ⟨by grind,?_,fun n=>?_⟩⟩
    ·have hf:Fits p (3/2):=by
      have:=(Kj (p:=p) (m:=3) (Nat.le_trans (Ej 3 2 (by decide)) (by omega))).pw (-1);have e:((3:Nat):Rat)*pw (-1)=3/2:=by decide +kernel
      rwa [e] at this
     have:=Lf f1 hf (by grind);grind
    ·have:=Ai5 (Rat.le_of_lt rp) rt j n;grind
 ·have h0:=b3 (by omega);have hr60:Bb r < -60:=by omega
  cases up with
  | false =>
    show Sk _ _ _
    refine ⟨.inl ⟨h0,hr60⟩,1,by omega,?_⟩
    show (D3 p false s t').q≤_
    rw [h0,Wy,Aa5]
    decide
  | true =>
    show Sj p r (D3 p true (D3 p true s t') t')
    rw [h0];have e:D3 p true dz t'=Hw p true t':=by
     unfold D3 Dz;rw [if_pos (show dz.m=0 from rfl)];rfl
    rw [e];have tt:Bb t'≤0:=by
     have c:=(Jq a1 a2).1;have d:=Ga (show -8*(j:Int)≤-8 by omega);have f:pw (Bb t'-1)≤pw (-8):=by grind
     have:=Abo f;omega
    have hr3:Bb r=(bl r.m:Int)+r.e:=rfl;have te:-5000≤t'.e:=by omega
    obtain ⟨c1,c2,c3,c4⟩:=Tv (up:=true) (by omega) p2 a1 (by omega) (by omega);refine ⟨c3,c2.trans a2,c4,.inl ⟨hr60,?_,?_⟩⟩
    ·have f2:=Hf (p:=p) (by omega) (-1);have e2:=Zi;rw [←e2];exact Lf c1 f2 (Rat.le_trans a4 (Ga (by omega)))
    ·have u1:=Ml c1 (Hf (by omega) (Bb t'-1)) (Jq a1 a2).1;have:=Xy c3 (c2.trans a2) u1;have e3:Bb t'=(bl t'.m:Int)+t'.e:=rfl;omega
theorem Xj {p:Nat}{up:Bool}{r:Dy}(p1:17≤p)(p2:p≤2000)(hr:r.m≠0)(rn:r.neg=false)(hr1:-500≤r.e)(hr2:Bb r≤-8):∀ (f j:Nat) (s t:Dy) (o:Dy × Dy),NI p up r.q j s t→1≤j→j+f≤498→Gf p up r f j s t=some o →
 if up then Sj p r (I7 p up o) else Sk p r (I7 p up o)
 | 0,j,s,t,o,_,_,_,h=>by simp [Gf] at h
 | f + 1, j, s, t, o, hI, j1, j2, h => by
   rw [Gf] at h;split at h
   ·obtain rfl:=Option.some.inj h;exact Ag1 p1 p2 hr rn hr1 hr2 j1 (by omega) hI
   ·rename_i hc;obtain ⟨a1,a2,a3,a4,a5,a6⟩:=Qm (up:=up) (s:=s) (by omega) p2 hr rn hr1 hr2 j1 (by omega) hI;obtain ⟨b1,b2,b3⟩:=hI.next p1 p2 hr rn hr1 hr2 j1 (by omega);have he:-4095≤(Cj p up r t j).e:=by
     have:¬(bl (Cj p up r t j).m:Int)+(Cj p up r t j).e < -(p:Int)-8:=hc;omega
    obtain ⟨c1,c2,c3,c4,c5,c6⟩:=b2 he;refine Xj p1 p2 hr rn hr1 hr2 f (j+1) _ _ o ⟨c1,c2,c3,c4,c5,a1,a2,a3,?_,by omega,?_⟩ (by omega) (by omega) h
    ·have e:-8*(((j+1:Nat):Int)-1)=-8*(j:Int):=by omega
     rw [e];exact a4
    ·cases up with
     | true=>exact ⟨a6,c6⟩
     | false=>exact ⟨a6,c6⟩
end Go.Proofs.YtabjjdicffcolaaGreatDoor
namespace Go.Proofs.YtabjjdicffcolaaGreatDoor
def sqn (x:Rat):Nat→Rat
 | 0=>x
 | k+1=>sqn (x*x) k
theorem Io:∀ (k:Nat) {x y:Rat},0≤x→x≤y→sqn x k≤sqn y k
 | 0,_,_,_,h=>h
 | k + 1, x, y, h0, h => by
   refine Io k (Rat.mul_nonneg h0 h0) ?_;have h1:=Rat.mul_le_mul_of_nonneg_left h h0;have h2:=Rat.mul_le_mul_of_nonneg_right h (Rat.le_trans h0 h);exact Rat.le_trans h1 h2
theorem Ac9:∀ k,sqn 1 k=1
 | 0=>rfl
 | k + 1 => by
   show sqn (1*1) k=1
   rw [Rat.mul_one];exact Ac9 k
theorem Ani {x:Rat}(k:Nat)(h:1≤x):1≤sqn x k:=by
 have h2:=Io k (show (0:Rat)≤1 by decide) h;rwa [Ac9] at h2
theorem Ai3 {x:Rat}(h:0≤x)(n:Nat):eS x n≤eS (x*pw (-1)) n*eS (x*pw (-1)) n:=by
 have e:=Zi;have h1:0≤x*pw (-1):=Rat.mul_nonneg h (Dg _);have h2:=Amg h1 h1 n;have h3:x*pw (-1)+x*pw (-1)=x:=by rw [e];grind
 rwa [h3] at h2
theorem Vi {x:Rat}(h:0≤x)(n k:Nat):∀ i:Nat,sqn (eS x n) k≤sqn (eS (x*pw (-(i:Int))) n) (k+i)
 | 0 => by
   have e:x*pw (-((0:Nat):Int))=x:=by
    rw [show (-((0:Nat):Int))=0 from rfl,Fp,Rat.mul_one]
   rw [e];exact Rat.le_refl
 | i + 1 => by
   have h1:=Vi h n k i;have h0:0≤x*pw (-(i:Int)):=Rat.mul_nonneg h (Dg _);have h2:=Io (k+i) (Qd h0 n) (Ai3 h0 n);have e:x*pw (-(i:Int))*pw (-1)=x*pw (-((i+1:Nat):Int)):=by
    rw [Rat.mul_assoc,←Fb]
    congr 2
    omega
   rw [e] at h2;exact Rat.le_trans h1 h2
theorem Al1 {d:Dy}(h0:d.m≠0)(hl:bl d.m≤4096)(h1:-400≤d.e)(h2:Bb d≤7):(Hb d).q=d.q*pw (-(Cp d:Int))∧(Hb d).neg=d.neg∧Bb (Hb d)=Bb d-(Cp d:Int):=by
 have hp:=Co _ h0;have h2':=h2;unfold Bb at h2';have hK:(Cp d:Int)=max (Bb d+8) 0:=by unfold Cp;omega
 have hz:=M9 _ _ h0 (Bd d.m);have ek:(Gw d (-(Cp d:Int)))=Bw d.neg d.m (d.e+-(Cp d:Int)):=by
  unfold Gw;rw [if_neg h0,if_neg (by omega)]
 obtain ⟨a,b⟩:=Mm (neg:=d.neg) (n:=d.m) (e:=d.e+-(Cp d:Int)) h0 (by omega) (by omega) (by omega);obtain ⟨c,f,g⟩:=Gj (neg:=d.neg) (n:=d.m) (e:=d.e+-(Cp d:Int)) h0 (by omega) (by omega) (by omega);refine ⟨Ahu (by rw [ek];exact a),?_,?_⟩
 ·unfold Hb;rw [ek];exact b
 ·unfold Hb;rw [ek,f];unfold Bb;omega
def eP (a:Dy) (n:Nat):Rat:=sqn (eS (Hb a).q n) (Cp a)
structure ExN (a:Dy):Prop where
 m:a.m≠0
 neg:a.neg=false
 len:bl a.m≤4096
 e:-400≤a.e
 top:Bb a≤7
theorem ExN.r {a:Dy}(h:ExN a):(Hb a).q=a.q*pw (-(Cp a:Int))∧(Hb a).neg=false∧Bb (Hb a)=Bb a-(Cp a:Int)∧(Hb a).m≠0∧-500≤(Hb a).e∧Bb (Hb a)≤-8:=by
 obtain ⟨b1,b2,b3⟩:=Al1 h.m h.len h.e h.top;obtain ⟨c1,c2,c3⟩:=So h.m h.len h.e h.top;exact ⟨b1,b2.trans h.neg,b3,c1,c2,c3⟩
theorem ExN.pos {a:Dy}(h:ExN a):0<a.q:=Uz h.m h.neg
theorem ExN.rpos {a:Dy}(h:ExN a):0≤(Hb a).q:=by
 rw [h.r.1];exact Rat.mul_nonneg (Rat.le_of_lt h.pos) (Dg _)
theorem Alk {a:Dy}(h:ExN a){n:Nat}(hn:1≤n):1≤eP a n:=Ani _ (Amh h.rpos hn)
theorem Acj {a b:Dy}(ha:ExN a)(hb:ExN b)(h:a.q≤b.q)(n:Nat):eP a n≤eP b n:=by
 have ht:Bb a≤Bb b:=by
  have h1:=(Jq ha.m ha.neg).1;have h2:=(Jq hb.m hb.neg).2;have h3:pw (Bb a-1)<pw (Bb b):=by grind
  have:=Hu h3;omega
 have hk:Cp a≤Cp b:=by unfold Cp;omega
 unfold eP;obtain ⟨i,hi⟩:∃ i:Nat,Cp b=Cp a+i:=⟨Cp b-Cp a,by omega⟩;rw [ha.r.1,hb.r.1,hi];have h1:a.q*pw (-(Cp a:Int))≤b.q*pw (-(Cp a:Int)):=Rat.mul_le_mul_of_nonneg_right h (Dg _);have h0:0≤a.q*pw (-(Cp a:Int)):=Rat.mul_nonneg (Rat.le_of_lt ha.pos) (Dg _);have h2:=Io (Cp a) (Qd h0 n) (Ai4 h0 h1 n);have h3:=Vi (Rat.le_trans h0 h1) n (Cp a) i;have e:b.q*pw (-(Cp a:Int))*pw (-(i:Int))=b.q*pw (-((Cp a+i:Nat):Int)):=by
  rw [Rat.mul_assoc,←Fb]
  congr 2
  omega
 rw [e] at h3;exact Rat.le_trans h2 h3
def EL (d:Dy) (y:Rat):Prop:=if d.m=0 then y≤1 else if d.neg then ∃ c,1≤c∧(∀ n,eP (Ck d) n≤c)∧y*c≤1 else ∃ n,1≤n∧y≤eP (Ck d) n
def EU (d:Dy) (y:Rat):Prop:=if d.m=0 then 1≤y else if d.neg then 0<y∧∃ n,1≤y*eP (Ck d) n else ∀ n,eP (Ck d) n≤y
theorem Wm {d:Dy}:d.q=if d.neg then -(Ck d).q else (Ck d).q:=by
 unfold Dy.q sq Ck;cases d.neg
 ·simp
 ·simp [Rat.neg_mul]
def ExM (d:Dy):Prop:=d.m≠0→ExN (Ck d)
theorem Ae3   {d d':Dy}{y y':Rat}(hd:ExM d)(hd':ExM d')(h:d.q≤d'.q)(hl:EL d y)(hu:EU d' y'):y≤y':=by
 have q0:∀ {d:Dy},d.m=0→d.q=0:=fun h=>Pb h
 unfold EL at hl;unfold EU at hu;by_cases h1:d.m=0
 ·rw [if_pos h1] at hl;by_cases h2:d'.m=0
  ·rw [if_pos h2] at hu;exact Rat.le_trans hl hu
  ·rw [if_neg h2] at hu;have n2:=hd' h2;cases hn:d'.neg with
   | true =>
     exfalso;have e:=Wm (d:=d');rw [hn,if_pos rfl] at e;have:=n2.pos;rw [q0 h1,e] at h;grind
   | false =>
     rw [hn,if_neg (by decide)] at hu;exact Rat.le_trans hl (Rat.le_trans (Alk n2 (Nat.le_refl 1)) (hu 1))
 ·rw [if_neg h1] at hl;have n1:=hd h1;have e1:=Wm     (d:=d);have p1:=n1.pos;cases hn1:d.neg with
  | true =>
    rw [hn1,if_pos rfl] at hl e1;obtain ⟨c,c1,c2,c3⟩:=hl;have hy:y≤1:=by
     rcases Rat.le_total (a:=y) (b:=0) with hy0 | hy0
     ·exact Rat.le_trans hy0 (by decide)
     ·have:=Rat.mul_le_mul_of_nonneg_left c1 hy0;rw [Rat.mul_one] at this;exact Rat.le_trans this c3
    by_cases h2:d'.m=0
    ·rw [if_pos h2] at hu;exact Rat.le_trans hy hu
    ·rw [if_neg h2] at hu;have n2:=hd' h2;cases hn:d'.neg with
     | true =>
       rw [hn,if_pos rfl] at hu;obtain ⟨u1,n,u2⟩:=hu;have e2:=Wm (d:=d');rw [hn,if_pos rfl] at e2;have h3:(Ck d').q≤(Ck d).q:=by
        rw [e1,e2] at h;grind
       have h4:=Rat.le_trans (Acj n2 n1 h3 n) (c2 n);have h5:=Rat.mul_le_mul_of_nonneg_left h4 (Rat.le_of_lt u1);have h6:y*c≤y'*c:=Rat.le_trans c3 (Rat.le_trans u2 h5);have h7:0<c:=by grind
       have h8:0<c⁻¹:=Rat.inv_pos.2 h7;have h9:c*c⁻¹=1:=Rat.mul_inv_cancel _ (by grind);have h10:=Rat.mul_le_mul_of_nonneg_right h6 (Rat.le_of_lt h8);rwa [Rat.mul_assoc,Rat.mul_assoc,h9,Rat.mul_one,Rat.mul_one] at h10
     | false =>
       rw [hn,if_neg (by decide)] at hu;exact Rat.le_trans hy (Rat.le_trans (Alk n2 (Nat.le_refl 1)) (hu 1))
  | false =>
    rw [hn1,if_neg (by decide)] at hl e1;obtain ⟨n,hn0,hl⟩:=hl;by_cases h2:d'.m=0
    ·exfalso;rw [q0 h2,e1] at h;grind
    ·rw [if_neg h2] at hu;have n2:=hd' h2;have e2:=Wm (d:=d');have p2:=n2.pos;cases hn:d'.neg with
     | true =>
       exfalso;rw [hn,if_pos rfl] at e2;rw [e1,e2] at h;grind
     | false =>
       rw [hn,if_neg (by decide)] at hu e2;rw [e1,e2] at h;exact Rat.le_trans hl (Rat.le_trans (Acj n1 n2 h n) (hu n))
def ExpS (d:Dy) (p:Nat) (up:Bool) (z:Dy):Prop:=∃ lo hi,EL d lo∧EU d hi∧Fq up p lo z.q∧Fq up p hi z.q
theorem ExpS.order {d d':Dy}{p p':Nat}{z z':Dy}(hd:ExM d)(hd':ExM d')(h:d.q≤d'.q)(a:ExpS d p false z)(b:ExpS d' p' true z'):z.q≤z'.q:=by
 obtain ⟨lo,hi,a1,a2,a3,a4⟩:=a;obtain ⟨lo',hi',b1,b2,b3,b4⟩:=b;exact Rat.le_trans (IsDown.le a3) (Rat.le_trans (Ae3 hd hd' h a1 b2) (IsUp.le b4))
theorem ExpS.down {d d':Dy}{p p':Nat}{z z':Dy}(hd:ExM d)(hd':ExM d')(h:d.q≤d'.q)(hp:p≤p')(a:ExpS d p false z)(b:ExpS d' p' false z'):z.q≤z'.q:=by
 obtain ⟨lo,hi,a1,a2,a3,a4⟩:=a;obtain ⟨lo',hi',b1,b2,b3,b4⟩:=b;exact IsDown.mono a3 b4 hp (Ae3 hd hd' h a1 b2)
theorem ExpS.up {d d':Dy}{p p':Nat}{z z':Dy}(hd:ExM d)(hd':ExM d')(h:d.q≤d'.q)(hp:p'≤p)(a:ExpS d p true z)(b:ExpS d' p' true z'):z.q≤z'.q:=by
 obtain ⟨lo,hi,a1,a2,a3,a4⟩:=a;obtain ⟨lo',hi',b1,b2,b3,b4⟩:=b;exact IsUp.mono b4 a3 hp (Ae3 hd hd' h a1 b2)
structure Nm (p:Nat) (B:Int) (x:Dy):Prop where
 m:x.m≠0
 neg:x.neg=false
 b:bl x.m≤p
 lo:-B≤Bb x
 hi:Bb x≤B
theorem Nm.pos {p:Nat}{B:Int}{x:Dy}(h:Nm p B x):0<x.q:=Uz h.m h.neg
theorem Tw {p:Nat}{B:Int}{up:Bool}{d:Dy}(p1:1≤p)(p2:p≤2000)(h0:d.m≠0)(hn:d.neg=false)(h1:-1000000≤d.e)(h2:Bb d≤B)(h3:-B≤Bb d)(hB:B≤1000000) :
 Nm p (B+1) (Hw p up d)∧Fq up p d.q (Hw p up d).q:=by
 obtain ⟨a,b,c,e⟩:=Tv (up:=up) p1 p2 h0 h1 (by omega);obtain ⟨t1,t2⟩:=Jq h0 hn;have hb:=b.trans hn;have u1:=Ml a (Hf p1 (Bb d-1)) t1;have u2:=Lf a (Hf p1 (Bb d)) (Rat.le_of_lt t2);have:=Xy c hb u1;have:=Ab3 c hb u2;exact ⟨⟨c,hb,e,by omega,by omega⟩,a⟩
theorem Amv {p:Nat}{x:Dy}{B:Int}(p2:p≤2000)(h:Nm p B x)(hB:B≤200000):(Bq x x).v.m≠0∧(Bq x x).v.neg=false∧(Bq x x).v.q=x.q*x.q∧Bb (Bq x x).v≤2*Bb x∧2*Bb x-1≤Bb (Bq x x).v∧-900000≤(Bq x x).v.e:=by
 have hlo:=h.lo;have hhi:=h.hi;have hb:=h.b;have hp:=Co _ h.m;unfold Bb at hlo hhi;have hz:=Nat.mul_ne_zero h.m h.m;have h1:=F9 (Nat.le_refl (bl x.m)) (Nat.le_refl (bl x.m));have h2:=Ql h.m h.m;have h3:=M9 _ _ hz (Bd _);obtain ⟨a,b⟩:=Mm (neg:=x.neg != x.neg) (e:=x.e+x.e) hz (by omega) (by omega) (by omega);obtain ⟨c,f,g⟩:=Gj (neg:=x.neg != x.neg) (e:=x.e+x.e) hz (by omega) (by omega) (by omega);have f':Bb (Bq x x).v=(bl (x.m*x.m):Int)+(x.e+x.e):=f;have g':bl (Bq x x).v.m=bl (x.m*x.m)-tz (x.m*x.m):=g;refine ⟨c,?_,Ls a,?_,?_,?_⟩
 ·refine Eq.trans b ?_;cases x.neg<;>rfl
 ·rw [f'];unfold Bb;omega
 ·rw [f'];unfold Bb;omega
 ·unfold Bb at f';omega
theorem Ahy {p:Nat}{up:Bool}{x:Dy}{B:Int}(p1:1≤p)(p2:p≤2000)(h:Nm p B x)(hB:B≤200000):Nm p (2*B+2) (Ue p up x)∧Fq up p (x.q*x.q) (Ue p up x).q:=by
 obtain ⟨a,b,c,d,e,f⟩:=Amv p2 h hB;have hlo:=h.lo;have hhi:=h.hi;obtain ⟨g1,g2⟩:=Tw (B:=2*B+1) (up:=up) p1 p2 a b (by omega) (by omega) (by omega) (by omega);rw [c] at g2;exact ⟨⟨g1.m,g1.neg,g1.b,by have:=g1.lo;show _≤Bb (Hw p up (Bq x x).v);omega,by have:=g1.hi;show Bb (Hw p up (Bq x x).v)≤_;omega⟩,g2⟩
theorem Xt {p:Nat}{up:Bool}(p1:1≤p)(p2:p≤2000):∀ (k:Nat) (x:Dy) (B:Int),k≤15→B+2≤2^(17-k)→Nm p B x→1≤x.q →
 Nm p 200000 (Me p up k x)∧1≤(Me p up k x).q∧(if up then sqn x.q k≤(Me p up k x).q else (Me p up k x).q≤sqn x.q k)
 | 0, x, B, _, hB, h, h1 => by
   have hB':B+2≤131072:=by simpa using hB
   refine ⟨⟨h.m,h.neg,h.b,?_,?_⟩,h1,?_⟩
   ·have:=h.lo
    show _≤Bb x
    omega
   ·have:=h.hi
    show Bb x≤_
    omega
   ·cases up
    ·exact Rat.le_refl
    ·exact Rat.le_refl
 | k + 1, x, B, hk, hB, h, h1 => by
   have e:(17-k:Nat)=17-(k+1)+1:=by omega
   have hB2:(2*B+2)+2≤2^(17-k):=by
    rw [e,Int.pow_succ];omega
   have hBm:B≤200000:=by
    have h2:(2:Int)^(17-(k+1))≤2^17:=by
     have:=Nat.pow_le_pow_right (show 0<2 by decide) (show 17-(k+1)≤17 by omega)
     exact_mod_cast this
    have h3:(2:Int)^17=131072:=by decide
    omega
   obtain ⟨g1,g2⟩:=Ahy (up:=up) p1 p2 h hBm;have hx:1≤x.q*x.q:=by
    have:=Rat.mul_le_mul_of_nonneg_left h1 (Rat.le_trans (show (0:Rat)≤1 by decide) h1);grind
   have h1':=Ml g2 (Gk p1) hx;obtain ⟨i1,i2,i3⟩:=Xt p1 p2 k (Ue p up x) (2*B+2) (by omega) hB2 g1 h1';refine ⟨i1,i2,?_⟩;cases up with
   | true =>
     have i3':sqn (Ue p true x).q k≤(Me p true k (Ue p true x)).q:=i3
     show sqn (x.q*x.q) k≤(Me p true k (Ue p true x)).q
     exact Rat.le_trans (Io k (Rat.le_trans (show (0:Rat)≤1 by decide) hx) (IsUp.le g2)) i3'
   | false =>
     have i3':(Me p false k (Ue p false x)).q≤sqn (Ue p false x).q k:=i3
     show (Me p false k (Ue p false x)).q≤sqn (x.q*x.q) k
     exact Rat.le_trans i3' (Io k (Rat.le_trans (show (0:Rat)≤1 by decide) h1') (IsDown.le g2))
theorem Al3 {p:Nat}{d:Dy}(p1:17≤p)(p2:p≤2000)(h:ExN (Ck d))(hn:Gf p false (Hb (Ck d)) 400 1 one one=some (Ey p false d)) :
 (Ir p false d (Ey p false d)=dz)∨(Nm p 200000 (Ir p false d (Ey p false d))∧1≤(Ir p false d (Ey p false d)).q∧∃ n,1≤n∧(Ir p false d (Ey p false d)).q≤eP (Ck d) n):=by
 obtain ⟨r1,r2,r3,r4,r5,r6⟩:=h.r;have hg:Sk p (Hb (Ck d)) (I7 p false (Ey p false d)):=Xj (up:=false) p1 p2 r4 r2 r5 r6 400 1 one one _ (NI.start (by omega)) (by decide) (by decide) hn;obtain ⟨g,n,hn1,hn2⟩:=hg;unfold Ir;have hK:Cp (Ck d)≤15:=by have:=h.top;unfold Cp;omega
 generalize I7 p false (Ey p false d)=x at *;rcases g with ⟨g1,g2⟩ | ⟨g1,g2,g3,g4,g5⟩
 ·left
  have hk0:Cp (Ck d)=0:=by
   have hk:(Cp (Ck d):Int)=max (Bb (Ck d)+8) 0:=by unfold Cp;omega
   omega
  rw [hk0,g1];rfl
 ·right
  have ht:=Adf g1 g2 g4 g5;have hB:(2:Int)+2≤2^(17-Cp (Ck d)):=by
   have:=Nat.pow_le_pow_right (show 0<2 by decide) (show 2≤17-Cp (Ck d) by omega);have h2:((2^2:Nat):Int)≤((2^(17-Cp (Ck d)):Nat):Int):=by exact_mod_cast this
   have h3:((2^(17-Cp (Ck d)):Nat):Int)=(2:Int)^(17-Cp (Ck d)):=by norm_cast
   omega
  obtain ⟨i1,i2,i3⟩:=Xt (up:=false) (by omega) p2 (Cp (Ck d)) x 2 hK hB ⟨g1,g2,g3,by omega,by omega⟩ g4;refine ⟨i1,i2,n,hn1,?_⟩;have i3':(Me p false (Cp (Ck d)) x).q≤sqn x.q (Cp (Ck d)):=i3;exact Rat.le_trans i3' (Io _ (Rat.le_trans (show (0:Rat)≤1 by decide) g4) hn2)
theorem Al2 {p:Nat}{d:Dy}(p1:17≤p)(p2:p≤2000)(h:ExN (Ck d))(hn:Gf p true (Hb (Ck d)) 400 1 one one=some (Ey p true d)) :
 Nm p 200000 (Ir p true d (Ey p true d))∧((Ir p true d (Ey p true d)).q≤1/2∨(1≤(Ir p true d (Ey p true d)).q∧∀ n,eP (Ck d) n≤(Ir p true d (Ey p true d)).q)):=by
 obtain ⟨r1,r2,r3,r4,r5,r6⟩:=h.r;have hg:Sj p (Hb (Ck d)) (I7 p true (Ey p true d)):=Xj (up:=true) p1 p2 r4 r2 r5 r6 400 1 one one _ (NI.start (by omega)) (by decide) (by decide) hn;obtain ⟨g1,g2,g3,g⟩:=hg;unfold Ir;have hK:Cp (Ck d)≤15:=by have:=h.top;unfold Cp;omega
 generalize I7 p true (Ey p true d)=x at *;rcases g with ⟨g4,g5,g6⟩ | ⟨g4,g5,g6⟩
 ·have hk0:Cp (Ck d)=0:=by
   have hk:(Cp (Ck d):Int)=max (Bb (Ck d)+8) 0:=by unfold Cp;omega
   omega
  rw [hk0];have ht:Bb x≤0:=by
   have e:=Zi;have:=Ab3 (c:=-1) g1 g2 (by rw [e];exact g5);omega
  refine ⟨⟨g1,g2,g3,?_,?_⟩,.inl g5⟩
  ·show _≤Bb x
   omega
  ·show Bb x≤_
   omega
 ·have ht:=Adf g1 g2 g4 g5;have hB:(2:Int)+2≤2^(17-Cp (Ck d)):=by
   have:=Nat.pow_le_pow_right (show 0<2 by decide) (show 2≤17-Cp (Ck d) by omega);have h2:((2^2:Nat):Int)≤((2^(17-Cp (Ck d)):Nat):Int):=by exact_mod_cast this
   have h3:((2^(17-Cp (Ck d)):Nat):Int)=(2:Int)^(17-Cp (Ck d)):=by norm_cast
   omega
  obtain ⟨i1,i2,i3⟩:=Xt (up:=true) (by omega) p2 (Cp (Ck d)) x 2 hK hB ⟨g1,g2,g3,by omega,by omega⟩ g4;refine ⟨i1,.inr ⟨i2,fun n=>?_⟩⟩;have i3':sqn x.q (Cp (Ck d))≤(Me p true (Cp (Ck d)) x).q:=i3;exact Rat.le_trans (Io _ (Qd h.rpos n) (g6 n)) i3'
end Go.Proofs.YtabjjdicffcolaaGreatDoor
namespace Go.Proofs.YtabjjdicffcolaaGreatDoor
theorem W9 {a b:Rat}(h0:0<a)(h:a≤b):1/b≤1/a:=by
 have hb:0<b:=by grind
 have ia:0<a⁻¹:=Rat.inv_pos.2 h0;have ib:0<b⁻¹:=Rat.inv_pos.2 hb;have ea:a*a⁻¹=1:=Rat.mul_inv_cancel _ (by grind);have eb:b*b⁻¹=1:=Rat.mul_inv_cancel _ (by grind);have h1:=Rat.mul_le_mul_of_nonneg_right h (Rat.le_of_lt (Rat.mul_pos ia ib));rw [Rat.div_def,Rat.div_def,Rat.one_mul,Rat.one_mul];have e1:a*(a⁻¹*b⁻¹)=b⁻¹:=by rw [←Rat.mul_assoc,ea,Rat.one_mul]
 have e2:b*(a⁻¹*b⁻¹)=a⁻¹:=by rw [Rat.mul_comm a⁻¹ b⁻¹,←Rat.mul_assoc,eb,Rat.one_mul]
 rwa [e1,e2] at h1
theorem Amj (c:Int):1/pw c=pw (-c):=by
 have h:=Oz c;have h0:=Hi c;have e:pw c*(pw c)⁻¹=1:=Rat.mul_inv_cancel _ (by grind);rw [Rat.div_def,Rat.one_mul];have h1:pw c*(pw c)⁻¹=pw c*pw (-c):=by rw [e,h]
 grind
theorem Aln {p:Nat}{up:Bool}{b:Dy}(p1:1≤p)(p2:p≤2000)(h:Nm p 200000 b) :
 Nm p 200010 (Ch one b p up).v∧Fq up p (1/b.q) (Ch one b p up).v.q∧-300000≤(Ch one b p up).v.e:=by
 have b1:=h.m;have hlo:=h.lo;have hhi:=h.hi;have hb:=h.b;have hbb:=Co _ b1;have o1:one.m≠0:=by decide
 have ob:bl one.m=1:=by decide
 have oe:one.e=0:=rfl;unfold Bb at hlo hhi;have ez:Ch one b p up=Bh one b p up:=by
  unfold Ch;rw [if_neg b1]
 rw [ez];have hK:Bu one b p=p+1+bl b.m-bl one.m:=rfl;have hq:=Px one.m b.m p o1 b1 (Bu one b p) (by omega);have hk:bl (2^Bu one b p)≤Bu one b p+1:=Ej _ _ (Nat.pow_lt_pow_right (by decide) (by omega));have hm2:=F9 (Nat.le_refl (bl one.m)) hk;have hd:=Rv (x:=one.m*2^Bu one b p) b1;have hz:one.m*2^Bu one b p/b.m≠0:=by intro h;rw [h,Gr] at hq;omega
 obtain ⟨x,y,z⟩:=Aa0 (neg:=one.neg != b.neg) (rest:=decide (¬one.m*2^Bu one b p%b.m=0)) (up:=up) (e:=one.e-b.e-Bu one b p) hz p1 p2 (by omega) (by omega);obtain ⟨x',y',z'⟩:=Su (neg:=one.neg != b.neg) (rest:=decide (¬one.m*2^Bu one b p%b.m=0)) (up:=up) (e:=one.e-b.e-Bu one b p) hz p1 p2 (by omega) (by omega);have hneg:(Bh one b p up).v.neg=false:=by
  refine Eq.trans y ?_;rw [h.neg];rfl
 have hdir:Fq up p (1/b.q) (Bh one b p up).v.q:=by
  have:=Nv (up:=up) p1 b1 x;rwa [Rc] at this
 have hm':(Bh one b p up).v.m≠0:=x';have hb':bl (Bh one b p up).v.m≤p:=y';obtain ⟨t1,t2⟩:=Jq b1 h.neg;have u1:=W9 (Hi _) t1;have u2:=W9 h.pos (Rat.le_of_lt t2);rw [Amj] at u1 u2;have v1:=Xy hm' hneg (Ml hdir (Hf p1 _) u2);have v2:=Ab3 hm' hneg (Lf hdir (Hf p1 _) u1);have hlo':=h.lo;have hhi':=h.hi;have e3:Bb (Bh one b p up).v=(bl (Bh one b p up).v.m:Int)+(Bh one b p up).v.e:=rfl;exact ⟨⟨hm',hneg,hb',by omega,by omega⟩,hdir,by omega⟩
theorem Ahr {a b:Dy}(h:Kr a.raw b.raw=true):a=b:=by
 unfold Kr Dy.raw at h;simp only [Bool.and_eq_true,beq_iff_eq] at h;obtain ⟨⟨h1,h2⟩,h3⟩:=h;have h4:a.m=b.m:=by
  have:=congrArg val h3;rwa [Cd,Cd] at this
 cases a;cases b;simp only at h1 h2 h4;subst h1 h2 h4;rfl
theorem Nm.e {p:Nat}{B:Int}{x:Dy}(h:Nm p B x):-B-p≤x.e:=by
 have h1:=h.lo;have h2:=h.b;unfold Bb at h1;omega
theorem Abv {d:Dy}{p w:Nat}{up:Bool}(ok:d.Ok)(p1:1≤p)(p2:p≤300)(w1:17≤w)(w2:w≤2000)(hz:d.m≠0)(hd:-400≤d.e∧(d.m≠0→Bb (Ck d)≤7))(hs:exX d p w up=exY d p w up):ExpS d p up (exX d p w up):=by
 have hN:ExN (Ck d):=⟨hz,rfl,Df d.m 64 ok.len,hd.1,hd.2 hz⟩;have lo:=Al3 w1 w2 hN (Sb ok hz hd (by omega) w2 false);have hi:=Al2 w1 w2 hN (Sb ok hz hd (by omega) w2 true);have eX:exX d p w up=Hw p up (bnE d w).1:=rfl;have eY:exY d p w up=Hw p up (bnE d w).2:=rfl;have eB:bnE d w=L8 w d (Ir w false d (Ey w false d)) (Ir w true d (Ey w true d)):=rfl;generalize Ir w false d (Ey w false d)=L at *;generalize Ir w true d (Ey w true d)=H at *;obtain ⟨hH,hi⟩:=hi;have two:pw 1=2:=Qq;have half:pw (-1)=1/2:=Zi;cases hn:d.neg with
 | false =>
   have eb:bnE d w=(L,H):=by
    rw [eB];unfold L8;rw [hn];rfl
   rw [eb] at eX eY;have eX:exX d p w up=Hw p up L:=eX;have eY:exY d p w up=Hw p up H:=eY;obtain ⟨g1,g2⟩:=Tw (B:=200000) (up:=up) p1 (by omega) hH.m hH.neg (by have:=hH.e;omega) hH.hi hH.lo (by decide);rw [←eY,←hs] at g1 g2;rcases lo with lo | ⟨lo1,lo2,lo3⟩
   ·exfalso;rw [lo,Qt] at eX;rw [eX] at g1;exact g1.m rfl
   ·obtain ⟨f1,f2⟩:=Tw (B:=200000) (up:=up) p1 (by omega) lo1.m lo1.neg (by have:=lo1.e;omega) lo1.hi lo1.lo (by decide);rw [←eX] at f1 f2;rcases hi with hi | ⟨hi1,hi2⟩
    ·exfalso;have a:=Ml f2 (Gk p1) lo2;have b:=Lf g2 (Hf p1 (-1)) (by rw [half];exact hi);rw [half] at b;grind
    ·refine ⟨L.q,H.q,?_,?_,f2,g2⟩
     ·unfold EL;rw [if_neg hz,hn,if_neg (by decide)];exact lo3
     ·unfold EU;rw [if_neg hz,hn,if_neg (by decide)];exact hi2
 | true =>
   have eb:bnE d w=((Ch one H w false).v,(Ch one L w true).v):=by
    rw [eB];unfold L8;rw [hn];rfl
   rw [eb] at eX eY;have eX:exX d p w up=Hw p up (Ch one H w false).v:=eX;have eY:exY d p w up=Hw p up (Ch one L w true).v:=eY;obtain ⟨qH,dH,tH⟩:=Aln (up:=false) (by omega) w2 hH;obtain ⟨f1,f2⟩:=Tw (B:=200010) (up:=up) p1 (by omega) qH.m qH.neg (by omega) qH.hi qH.lo (by decide);rw [←eX] at f1 f2;rcases lo with lo | ⟨lo1,lo2,n,lo3,lo4⟩
   ·exfalso;have e:(Ch one L w true).v=dz:=by
     rw [lo];rfl
    rw [e,Qt] at eY;rw [hs,eY] at f1;exact f1.m rfl
   ·obtain ⟨qL,dL,tL⟩:=Aln (up:=true) (by omega) w2 lo1;obtain ⟨g1,g2⟩:=Tw (B:=200010) (up:=up) p1 (by omega) qL.m qL.neg (by omega) qL.hi qL.lo (by decide);rw [←eY,←hs] at g1 g2;have L0:=lo1.pos;have H0:=hH.pos;have iL:L.q*(L.q)⁻¹=1:=Rat.mul_inv_cancel _ (by grind);have iH:H.q*(H.q)⁻¹=1:=Rat.mul_inv_cancel _ (by grind);rcases hi with hi | ⟨hi1,hi2⟩
    ·exfalso;have a:pw 1≤1/H.q:=by
      have:=W9 H0 hi;rw [two];have e:(1:Rat)/(1/2)=2:=by decide +kernel
      rwa [e] at this
     have a1:=Ml dH (Hf (by omega) 1) a;have a2:=Ml f2 (Hf p1 1) a1;have b:1/L.q≤1:=by
      have:=W9 (show (0:Rat)<1 by decide) lo2;have e:(1:Rat)/1=1:=by decide +kernel
      rwa [e] at this
     have b1:=Lf dL (Gk (by omega)) b;have b2:=Lf g2 (Gk p1) b1;rw [two] at a2;grind
    ·refine ⟨(Ch one H w false).v.q,(Ch one L w true).v.q,?_,?_,f2,g2⟩
     ·unfold EL;rw [if_neg hz,hn,if_pos rfl];refine ⟨H.q,hi1,hi2,?_⟩;have:=Rat.mul_le_mul_of_nonneg_right (IsDown.le dH) (Rat.le_of_lt H0);rw [Rat.div_def,Rat.one_mul,Rat.mul_comm (H.q)⁻¹,iH] at this;exact this
     ·unfold EU;rw [if_neg hz,hn,if_pos rfl];refine ⟨qL.pos,n,?_⟩;have h1:=Rat.mul_le_mul_of_nonneg_right (IsUp.le dL) (Rat.le_of_lt L0);rw [Rat.div_def,Rat.one_mul,Rat.mul_comm (L.q)⁻¹,iL] at h1;exact Rat.le_trans h1 (Rat.mul_le_mul_of_nonneg_left lo4 (Rat.le_of_lt qL.pos))
theorem Vj {d:Dy}{p:Nat}{up:Bool}(ok:d.Ok)(p1:1≤p)(p2:p≤300)(hz:d.m≠0)(hd:-400≤d.e∧(d.m≠0→Bb (Ck d)≤7)):∀ (f w:Nat),17≤w→(Oq d p up f w).k=0→ExpS d p up (Oq d p up f w).v
 | 0, _, _, h => by
   rw [Oq] at h;exact absurd h (by decide)
 | f + 1, w, hw, h => by
   rw [Oq] at h ⊢;split at h
   ·exact absurd h (by decide)
   ·rename_i h1;rw [if_neg h1];split at h
    ·rename_i h2;rw [if_pos h2];exact Abv ok p1 p2 hw (by omega) hz hd (Ahr h2)
    ·rename_i h2;rw [if_neg h2];exact Vj ok p1 p2 hz hd f _ (by omega) h
theorem Adt {d:Dy}{p:Nat}{up:Bool}(p1:1≤p)(hz:d.m=0):ExpS d p up one:=by
 refine ⟨1,1,?_,?_,?_,?_⟩
 ·unfold EL;rw [if_pos hz];exact Rat.le_refl
 ·unfold EU;rw [if_pos hz];exact Rat.le_refl
 ·rw [Rc];cases up
  ·exact IsDown.of_fits (Gk p1)
  ·exact IsUp.of_fits (Gk p1)
 ·rw [Rc];cases up
  ·exact IsDown.of_fits (Gk p1)
  ·exact IsUp.of_fits (Gk p1)
theorem Ams {r:Raw}{p:Int}(h:Ff r p=0):Hn r=true∧1≤p∧p≤300:=by
 unfold Ff at h;split at h
 ·rename_i h1;simp only [Bool.and_eq_true,Bool.not_eq_true',decide_eq_false_iff_not] at h1;exact ⟨h1.1.1,by omega,by omega⟩
 ·exact absurd h (by decide)
theorem Acn {d:Dy}{p:Int}(ok:d.Ok)(h:Ff d.raw p=0):ExM d:=fun hz=>by
 have hd:=Ow h;exact ⟨hz,rfl,Df d.m 64 ok.len,hd.1,hd.2 hz⟩
theorem Ki {d:Dy}{p:Nat}{up:Bool}(ok:d.Ok)(h:(Du d p up).k=0):ExM d∧ExpS d p up (Du d p up).v∧Ff d.raw p=0∧1≤p∧p≤300:=by
 unfold Du at h ⊢;split at h
 ·rename_i h0;exact absurd h h0
 ·rename_i h0;have h0':Ff d.raw p=0:=by omega
  obtain ⟨-,p1,p2⟩:=Ams h0';rw [if_neg h0];split at h
  ·rename_i hz;rw [if_pos hz];exact ⟨Acn ok h0',Adt (by omega) hz,h0',by omega,by omega⟩
  ·rename_i hz;rw [if_neg hz];exact ⟨Acn ok h0',Vj ok (by omega) (by omega) hz (Ow h0') _ _ (by omega) h,h0',by omega,by omega⟩
def ovE (a b:Int):Int:=if a=1∨b=1 then 1 else if a=4∨b=4 then 4 else if a=2∨b=2 then 2 else 0
def ovI (a:Iv) (p:Nat):Outc Iv :=
 if ovE (Ff a.lo.raw p) (Ff a.hi.raw p)≠0 then ⟨iz,ovE (Ff a.lo.raw p) (Ff a.hi.raw p)⟩
 else if (Du a.lo p false).k≠0∨(Du a.hi p true).k≠0 then ⟨iz,max (Du a.lo p false).k (Du a.hi p true).k⟩
 else ⟨⟨(Du a.lo p false).v,(Du a.hi p true).v⟩,0⟩
theorem Lq (r:Raw)(p:Int):Ff r p=0∨Ff r p=1∨Ff r p=2∨Ff r p=4:=by
 unfold Ff;split
 ·split
  ·split<;>simp
  ·simp
 ·simp
theorem Ahc {a b:Int}(ha:a=0∨a=1∨a=2∨a=4)(hb:b=0∨b=1∨b=2∨b=4):ovE a b=0↔a=0∧b=0:=by
 unfold ovE;rcases ha with rfl | rfl | rfl | rfl<;>rcases hb with rfl | rfl | rfl | rfl<;>simp
theorem Af2 (d:Dy)(p:Nat)(up:Bool):∀ f w,(Oq d p up f w).k=0∨(Oq d p up f w).k=2
 | 0,_=>.inr rfl
 | f + 1, w => by
   rw [Oq];split
   ·exact .inr rfl
   ·split
    ·exact .inl rfl
    ·exact Af2 d p up f _
theorem Af1 {d:Dy}{p:Nat}{up:Bool}(h:Ff d.raw p=0):(Du d p up).k=0∨(Du d p up).k=2:=by
 unfold Du;rw [if_neg (by rw [h];decide)];split
 ·exact .inl rfl
 ·exact Af2 _ _ _ _ _
theorem Ahd {a:Iv}{p:Nat}(h:(ovI a p).k=0):(Du a.lo p false).k=0∧(Du a.hi p true).k=0∧(ovI a p).v=⟨(Du a.lo p false).v,(Du a.hi p true).v⟩:=by
 unfold ovI at h ⊢;split at h
 ·rename_i h0;exact absurd h h0
 ·rename_i h0;rw [if_neg h0];have h0':=(Ahc (Lq a.lo.raw p) (Lq a.hi.raw p)).1 (by omega);split at h
  ·rename_i h1;exfalso;have h':max (Du a.lo p false).k (Du a.hi p true).k=0:=h;rcases Af1 (up:=false) h0'.1 with e1 | e1<;>rcases Af1 (up:=true) h0'.2 with e2 | e2<;>omega
  ·rename_i h1;rw [if_neg h1];exact ⟨by omega,by omega,rfl⟩
theorem Ahe (a:Iv)(p:Nat)(ha:a.Ok)(_:1≤p)(_:p≤300):OkI (ovI a p):=by
 by_cases hk:(ovI a p).k=0
 ·obtain ⟨a1,a2,a3⟩:=Ahd hk;obtain ⟨c1,c2,-⟩:=Ki ha.lo a1;obtain ⟨c3,c4,-⟩:=Ki ha.hi a2;refine ⟨?_,fun h=>absurd hk h⟩;rw [a3];exact ⟨(Wz _ _ _).1,(Wz _ _ _).1,c2.order c1 c3 ha.le c4⟩
 ·have hz:(ovI a p).v=iz:=by
   unfold ovI at hk ⊢;split
   ·rfl
   ·split
    ·rfl
    ·rename_i h1 h2;rw [if_neg h1,if_neg h2] at hk;exact absurd rfl hk
  exact ⟨by rw [hz];exact Q9,fun _=>hz⟩
end Go.Proofs.YtabjjdicffcolaaGreatDoor
