/- Words and contracts, part 35. -/
import Derived.Test.YtabjjdicffcolaaGreatDoorClaimSevalp28
import Derived.Test.YtabjjdicffcolaaGreatDoorClaimSevalp34
set_option maxRecDepth 100000
set_option maxHeartbeats 0
namespace Go.Proofs.YtabjjdicffcolaaGreatDoor
theorem Fs {neg:Bool}{n:Nat}{e:Int}(h0:n≠0)(hb:bl n-tz n≤4096)(h1:-1048576≤e)(h2:bl n+e≤1048576) :
 (Bt neg n e).v.m≠0∧Ba (Bt neg n e).v=bl n+e∧bl (Bt neg n e).v.m=bl n-tz n:=by
 have ht:tz n<bl n:=Ma n (bl n) h0 (Bc n);have hd:bl (n/2^tz n)=bl n-tz n:=On _ _;have hl:(Ai (n/2^tz n)).length≤64:=Ow (k:=64) (by omega);unfold Bt;rw [if_neg h0,if_neg (by omega),if_neg (by omega),if_neg (by omega)];refine ⟨?_,?_,hd⟩
 ·show n/2^tz n≠0
  intro h;rw [h,Gg] at hd;omega
 ·show ((bl (n/2^tz n):Nat):Int)+(e+tz n)=bl n+e
  omega
theorem Qp {neg:Bool}{m:Nat}{e:Int}{rest:Bool}{p:Nat}{up:Bool}(hm:m≠0)(p1:1≤p)(p2:p≤2000)(h1:-1000000≤e)(h2:bl m+e≤1000000) :
 (I5 neg m e rest p up).v.m≠0∧bl (I5 neg m e rest p up).v.m≤p∧Ba (I5 neg m e rest p up).v≤bl m+e+1:=by
 unfold I5;have hp:=Ct m hm;have hb:bl (m/2^(bl m-p))=bl m-(bl m-p):=On _ _;have h2':Eo m rest p (up != neg)≤m/2^(bl m-p)+1∧m/2^(bl m-p)≤Eo m rest p (up != neg):=by
  unfold Eo Ig;simp only;split<;>omega
 have h3:=Bc (m/2^(bl m-p));have h5:2^bl (m/2^(bl m-p))≤2^p:=Nat.pow_le_pow_right (by decide) (by omega);have hz:Eo m rest p (up != neg)≠0:=by
  intro h;rw [h] at h2';have h0:m/2^(bl m-p)=0:=Nat.le_zero.1 h2'.2;rw [h0,Gg] at hb;omega
 have h6:bl (Eo m rest p (up != neg))≤bl (m/2^(bl m-p))+1:=E7 _ _ (by
  have:=Nat.two_pow_succ (bl (m/2^(bl m-p)));have:=Nat.two_pow_pos (bl (m/2^(bl m-p)));generalize m/2^(bl m-p)=z at *;omega)
 have h7:bl (Eo m rest p (up != neg))-tz (Eo m rest p (up != neg))≤p:=by
  by_cases hl:bl (Eo m rest p (up != neg))≤p
  ·omega
  ·have h8:=Dg _ hz;have h9:2^p≤2^(bl (Eo m rest p (up != neg))-1):=Nat.pow_le_pow_right (by decide) (by omega);have h10:Eo m rest p (up != neg)=2^p:=by
    generalize m/2^(bl m-p)=z at *;omega
   have h11:tz (Eo m rest p (up != neg))=p:=Ge _ p 1 rfl (by rw [h10,Nat.one_mul]);omega
 obtain ⟨a,b,c⟩:=Fs (neg:=neg) (e:=e+((bl m-p:Nat):Int)) hz (by omega) (by omega) (by omega);exact ⟨a,by omega,by omega⟩
theorem Ak4 {j:Nat}(j1:1≤j)(j2:j≤1000000):(ofN j).m≠0∧1≤Ba (ofN j)∧Ba (ofN j)≤20∧bl (ofN j).m≤20:=by
 have hb:bl j≤20:=E7 _ _ (by omega);have hp:=Ct j (by omega);obtain ⟨a,b,c⟩:=Fs (neg:=false) (n:=j) (e:=0) (by omega) (by omega) (by decide) (by omega);exact ⟨a,by unfold ofN;omega,by unfold ofN;omega,by unfold ofN;omega⟩
theorem Rc {p:Nat}{up:Bool}{r t:Dy}{j:Nat}(p1:1≤p)(p2:p≤2000)(hr:r.m≠0)(hr1:-500≤r.e)(hr2:Ba r≤-8)(ht:t.m≠0)(ht1:bl t.m≤p)(ht2:-3000≤Ba t)(ht3:Ba t≤100)
 (j1:1≤j) (j2:j≤1000000):(Ci p up r t j).m≠0∧bl (Ci p up r t j).m≤p∧Ba (Ci p up r t j)≤Ba t-6:=by
 obtain ⟨b1,b2,b3,b4⟩:=Ak4 j1 j2;have hbt:=Ct _ ht;have hbr:=Ct _ hr;unfold Ba at hr2 ht2 ht3;have hmz:t.m*r.m≠0:=Nat.mul_ne_zero ht hr;have hmb:=Ga (Nat.le_refl (bl t.m)) (Nat.le_refl (bl r.m));have hmp:=Ct _ hmz;obtain ⟨c1,c2,c3⟩:=Fs (neg:=t.neg != r.neg) (n:=t.m*r.m) (e:=t.e+r.e) hmz (by omega) (by omega) (by omega);unfold Ci Cf;rw [if_neg b1];obtain ⟨a,ha⟩:∃ a,a=(Ch t r).v:=⟨_,rfl⟩;have c1:a.m≠0:=by rw [ha];exact c1
 have c2:Ba a=bl (t.m*r.m)+(t.e+r.e):=by rw [ha];exact c2
 have c3:bl a.m≤bl (t.m*r.m):=by rw [ha];show bl (Bt _ _ _).v.m≤_;omega
 rw [←ha];generalize ofN j=b at *;have hba:=Ct _ c1;have hbb:=Ct _ b1;unfold Ba at c2 b2 b3;unfold Bq;have hK:Bu a b p=p+1+bl b.m-bl a.m:=rfl;have hq:=P8 a.m b.m p c1 b1 (Bu a b p) (by omega);have hk:bl (2^Bu a b p)≤Bu a b p+1:=E7 _ _ (Nat.pow_lt_pow_right (by decide) (by omega));have hm2:=Ga (Nat.le_refl (bl a.m)) hk;have hd:=Ty (x:=a.m*2^Bu a b p) b1;have hz:a.m*2^Bu a b p/b.m≠0:=by intro h;rw [h,Gg] at hq;omega
 obtain ⟨x,y,z⟩:=Qp (neg:=a.neg != b.neg) (rest:=decide (¬a.m*2^Bu a b p%b.m=0)) (up:=up) (e:=a.e-b.e-Bu a b p) hz p1 p2 (by omega) (by omega);exact ⟨x,y,by unfold Ba at *;omega⟩
theorem Wd {p:Nat}{up:Bool}{r:Dy}(p1:1≤p)(p2:p≤2000)(hr:r.m≠0)(hr1:-500≤r.e)(hr2:Ba r≤-8):∀ (f j:Nat) (s t:Dy),t.m≠0→bl t.m≤p→-(p:Int)-8≤Ba t→Ba t≤100 →
 Ba t < -(p:Int)-8+6*f→1≤j→j+f≤1000000→∃ o,Fm p up r f j s t=some o
 | 0,j,s,t,_,_,h1,_,h2,_,_=>by omega
 | f + 1, j, s, t, ht, ht1, h1, h3, h2, j1, j2 => by
   obtain ⟨a,b,c⟩:=Rc (up:=up) p1 p2 hr hr1 hr2 ht ht1 (by omega) h3 j1 (by omega);rw [Fm];split
   ·exact ⟨_,rfl⟩
   ·exact Wd p1 p2 hr hr1 hr2 f (j+1) _ _ a b (by omega) (by omega) (by omega) (by omega) (by omega)
theorem Yo         {p : Nat} {up : Bool} {r : Dy} (p1 : 1 ≤ p) (p2 : p ≤ 2000) (hr : r.m ≠ 0) (hr1 : -500 ≤ r.e) (hr2 : Ba   r ≤ -8) : ∃ o, Fm    p up r 400 1 one one = some o :=
 Wd       p1 p2 hr hr1 hr2 400 1 one one (by decide) (by have : bl one.m = 1 := by decide
                                                         omega) (by have : Ba   one = 1 := by decide
                                                                    omega) (by decide) (by have : Ba   one = 1 := by decide
                                                                                           omega) (by decide) (by decide)
theorem Qh {d:Dy}(h0:d.m≠0)(hl:bl d.m≤4096)(h1:-400≤d.e)(h2:Ba d≤7):(Gh d).m≠0∧-500≤(Gh d).e∧Ba (Gh d)≤-8:=by
 have hp:=Ct _ h0;have h2':=h2;unfold Ba at h2';have hK:(Cm d:Int)=max (Ba d+8) 0:=by unfold Cm;omega
 obtain ⟨a,b,c⟩:=Fs (neg:=d.neg) (n:=d.m) (e:=d.e+-(Cm d:Int)) h0 (by omega) (by omega) (by omega);unfold Gh F5;rw [if_neg h0,if_neg (by omega)];have ht:tz d.m<bl d.m:=Ma d.m (bl d.m) h0 (Bc d.m);refine ⟨a,?_,?_⟩
 ·have b':=b;unfold Ba at b';omega
 ·rw [b];unfold Ba at hK;omega
end Go.Proofs.YtabjjdicffcolaaGreatDoor
namespace Go.Proofs.YtabjjdicffcolaaGreatDoor
def B8 (f:Nat→Rat):Nat→Rat
 | 0=>0
 | n+1=>B8 f n+f n
theorem Gd {f g:Nat→Rat}:∀ n,(∀ i,i<n→f i=g i)→B8 f n=B8 g n
 | 0,_=>rfl
 | n + 1, h => by
   rw [B8,B8,Gd n (fun i hi=>h i (by omega)),h n (by omega)]
theorem J7 (a:Rat)(f:Nat→Rat):∀ n,B8 (fun i=>a*f i) n=a*B8 f n
 | 0=>by simp [B8]
 | n + 1 => by
   rw [B8,B8,J7 a f n];grind
theorem Pd (f g:Nat→Rat):∀ n,B8 (fun i=>f i+g i) n=B8 f n+B8 g n
 | 0=>by simp only [B8];grind
 | n + 1 => by
   rw [B8,B8,B8,Pd f g n];grind
theorem Po (f:Nat→Rat):∀ n,B8 f (n+1)=f 0+B8 (fun i=>f (i+1)) n
 | 0=>by simp only [B8];grind
 | n + 1 => by
   rw [B8,Po f n,B8];grind
theorem Oh {f:Nat→Rat}:∀ n,(∀ i,i<n→0≤f i)→0≤B8 f n
 | 0,_=>Rat.le_refl
 | n + 1, h => by
   have h1:=Oh n (fun i hi=>h i (by omega));have h2:=h n (by omega);rw [B8];grind
theorem Sb {f g:Nat→Rat}:∀ n,(∀ i,i<n→f i≤g i)→B8 f n≤B8 g n
 | 0,_=>Rat.le_refl
 | n + 1, h => by
   have h1:=Sb n (fun i hi=>h i (by omega));have h2:=h n (by omega);rw [B8,B8];grind
def eT (x:Rat):Nat→Rat
 | 0=>1
 | n+1=>eT x n*x/((n+1:Nat):Rat)
def eS (x:Rat) (n:Nat):Rat:=B8 (eT x) n
theorem succ_pos (n:Nat):(0:Rat)<((n+1:Nat):Rat):=by exact_mod_cast Nat.succ_pos n
theorem P6 (x:Rat)(n:Nat):((n+1:Nat):Rat)*eT x (n+1)=x*eT x n:=by
 have h:=succ_pos n;rw [eT];generalize ((n+1:Nat):Rat)=k at *;rw [Rat.div_def];have hk:k*k⁻¹=1:=Rat.mul_inv_cancel k (by grind);grind
theorem F7 {x:Rat}(h:0≤x):∀ n,0≤eT x n
 | 0=>show (0:Rat)≤1 by decide
 | n + 1 => by
   rw [eT,Rat.div_def];exact Rat.mul_nonneg (Rat.mul_nonneg (F7 h n) h) (Rat.le_of_lt (Rat.inv_pos.2 (succ_pos n)))
def conv (x y:Rat) (k:Nat):Rat:=B8 (fun i=>eT x i*eT y (k-i)) (k+1)
theorem Aa3 (x y:Rat)(k:Nat):((k+1:Nat):Rat)*conv x y (k+1)=(x+y)*conv x y k:=by
 have A:B8 (fun i=>(i:Rat)*(eT x i*eT y (k+1-i))) (k+1+1)=x*conv x y k:=by
  rw [Po];have e:B8 (fun i=>((i+1:Nat):Rat)*(eT x (i+1)*eT y (k+1-(i+1)))) (k+1)=B8 (fun i=>x*(eT x i*eT y (k-i))) (k+1):=Gd _ (fun i hi=>by
   have h:=P6 x i;have e:k+1-(i+1)=k-i:=by omega
   rw [e];grind)
  rw [e,J7];unfold conv;have z:((0:Nat):Rat)=0:=rfl;rw [z];grind
 have B:B8 (fun i=>((k+1-i:Nat):Rat)*(eT x i*eT y (k+1-i))) (k+1+1)=y*conv x y k:=by
  rw [B8];have e:B8 (fun i=>((k+1-i:Nat):Rat)*(eT x i*eT y (k+1-i))) (k+1)=B8 (fun i=>y*(eT x i*eT y (k-i))) (k+1):=Gd _ (fun i hi=>by
   have h:=P6 y (k-i);have e:k+1-i=k-i+1:=by omega
   rw [e];grind)
  rw [e,J7];unfold conv;have z:((k+1-(k+1):Nat):Rat)=0:=by rw [Nat.sub_self];rfl
  rw [z];grind
 have C:B8 (fun i=>((k+1:Nat):Rat)*(eT x i*eT y (k+1-i))) (k+1+1)=B8 (fun i=>(i:Rat)*(eT x i*eT y (k+1-i))+((k+1-i:Nat):Rat)*(eT x i*eT y (k+1-i))) (k+1+1) :=
  Gd _ (fun i hi=>by
   have e:((k+1:Nat):Rat)=(i:Rat)+((k+1-i:Nat):Rat):=by
    rw [←Rat.natCast_add]
    congr 1
    omega
   rw [e];grind)
 rw [Pd,A,B,J7] at C;unfold conv at *;grind
theorem Zi (x y:Rat):∀ k,conv x y k=eT (x+y) k
 | 0=>by simp only [conv,B8,Nat.sub_self,eT];grind
 | k + 1 => by
   have h:=Aa3 x y k;have h2:=P6 (x+y) k;rw [Zi x y k] at h;rw [←h2] at h;have hp:=succ_pos k;generalize ((k+1:Nat):Rat)=q at *;have hk:q*q⁻¹=1:=Rat.mul_inv_cancel q (by grind);grind
theorem Zq {x:Rat}(h:0≤x){m:Nat}:∀ {n:Nat},m≤n→eS x m≤eS x n
 | 0, hm => by
   have e:m=0:=by omega
   rw [e];exact Rat.le_refl
 | n + 1, hm => by
   by_cases e:m=n+1
   ·rw [e];exact Rat.le_refl
   ·have h1:=Zq h (m:=m) (n:=n) (by omega);have h2:=F7 h n;have h3:eS x (n+1)=eS x n+eT x n:=rfl;grind
theorem X9 (x:Rat):eS x 1=1:=by
 show (0:Rat)+1=1
 grind
theorem Ai3 {x:Rat}(h:0≤x){n:Nat}(hn:1≤n):1≤eS x n:=by
 have:=Zq h hn;rwa [X9] at this
theorem Oq {x:Rat}(h:0≤x)(n:Nat):0≤eS x n:=Oh _ (fun i _=>F7 h i)
theorem Zr {x y:Rat}(h:0≤x)(hy:x≤y):∀ n,eT x n≤eT y n
 | 0=>Rat.le_refl
 | n + 1 => by
   have h1:=Zr h hy n;have h2:eT x n*x≤eT y n*x:=Rat.mul_le_mul_of_nonneg_right h1 h;have h3:eT y n*x≤eT y n*y:=Rat.mul_le_mul_of_nonneg_left hy (F7 (Rat.le_trans h hy) n);rw [eT,eT,Rat.div_def,Rat.div_def];exact Rat.mul_le_mul_of_nonneg_right (Rat.le_trans h2 h3) (Rat.le_of_lt (Rat.inv_pos.2 (succ_pos n)))
theorem Age {x y:Rat}(h:0≤x)(hy:x≤y)(n:Nat):eS x n≤eS y n:=Sb n (fun i _=>Zr h hy i)
theorem Sa (x y:Rat):∀ n,B8 (conv x y) n=B8 (fun i=>eT x i*eS y (n-i)) n
 | 0=>rfl
 | n + 1 => by
   have e:B8 (fun i=>eT x i*eS y (n+1-i)) (n+1)=B8 (fun i=>eT x i*eS y (n-i)+eT x i*eT y (n-i)) (n+1):=Gd _ (fun i hi=>by
    have e:n+1-i=n-i+1:=by omega
    have e2:eS y (n-i+1)=eS y (n-i)+eT y (n-i):=rfl;rw [e,e2];grind)
   rw [e,Pd,B8,Sa x y n];have h:B8 (fun i=>eT x i*eS y (n-i)) (n+1)=B8 (fun i=>eT x i*eS y (n-i)) n:=by
    rw [B8,Nat.sub_self];have z:eS y 0=0:=rfl;rw [z];grind
   rw [h];rfl
theorem Ai2 {x y:Rat}(hx:0≤x)(hy:0≤y)(n:Nat):eS (x+y) n≤eS x n*eS y n:=by
 have h1:eS (x+y) n=B8 (conv x y) n:=Gd n (fun i _=>(Zi x y i).symm);rw [h1,Sa];have h2:B8 (fun i=>eT x i*eS y (n-i)) n≤B8 (fun i=>eS y n*eT x i) n:=Sb n (fun i _=>by
  have h3:=Rat.mul_le_mul_of_nonneg_left (Zq hy (m:=n-i) (n:=n) (by omega)) (F7 hx i);grind)
 rw [J7] at h2;have h4:B8 (eT x) n=eS x n:=rfl;rw [h4] at h2;grind
end Go.Proofs.YtabjjdicffcolaaGreatDoor
namespace Go.Proofs.YtabjjdicffcolaaGreatDoor
theorem Ll {neg:Bool}{n:Nat}{e:Int}(h0:n≠0)(hb:bl n-tz n≤4096)(h1:-1048576≤e)(h2:bl n+e≤1048576) :
 (Bt neg n e).k=0∧(Bt neg n e).v.neg=neg:=by
 have ht:tz n<bl n:=Ma n (bl n) h0 (Bc n);have hl:(Ai (n/2^tz n)).length≤64:=Ow (k:=64) (by rw [On];omega);unfold Bt;rw [if_neg h0,if_neg (by omega),if_neg (by omega),if_neg (by omega)];exact ⟨rfl,rfl⟩
theorem Xw {neg:Bool}{m:Nat}{e:Int}{rest:Bool}{p:Nat}{up:Bool}(hm:m≠0)(p1:1≤p)(p2:p≤2000)(h1:-1000000≤e)(h2:bl m+e≤1000000) :
 (I5 neg m e rest p up).k=0∧(I5 neg m e rest p up).v.neg=neg∧bl m+e≤Ba (I5 neg m e rest p up).v:=by
 unfold I5;have hp:=Ct m hm;have hb:bl (m/2^(bl m-p))=bl m-(bl m-p):=On _ _;have h2':Eo m rest p (up != neg)≤m/2^(bl m-p)+1∧m/2^(bl m-p)≤Eo m rest p (up != neg):=by
  unfold Eo Ig;simp only;split<;>omega
 have h3:=Bc (m/2^(bl m-p));have h4:=Fw h2'.2;have hz:Eo m rest p (up != neg)≠0:=by
  intro h;rw [h,Gg] at h4;omega
 have h6:bl (Eo m rest p (up != neg))≤bl (m/2^(bl m-p))+1:=E7 _ _ (by
  have:=Nat.two_pow_succ (bl (m/2^(bl m-p)));have:=Nat.two_pow_pos (bl (m/2^(bl m-p)));generalize m/2^(bl m-p)=z at *;omega)
 obtain ⟨a,b⟩:=Ll (neg:=neg) (e:=e+((bl m-p:Nat):Int)) hz (by omega) (by omega) (by omega);obtain ⟨c,d,-⟩:=Fs (neg:=neg) (e:=e+((bl m-p:Nat):Int)) hz (by omega) (by omega) (by omega);exact ⟨a,b,by omega⟩
theorem Xr {x y:Nat}(h:y≠0):bl x≤bl (x/y)+bl y:=by
 by_cases hx:x=0
 ·rw [hx,Gg];omega
 ·refine E7 _ _ ?_;have h1:=Bc (x/y);have h2:=Bc y;have h3:=Nat.lt_mul_div_succ x (Nat.pos_of_ne_zero h);have h4:y*(x/y+1)≤2^bl y*2^bl (x/y):=Nat.mul_le_mul (Nat.le_of_lt h2) h1;rw [←Nat.pow_add] at h4;rw [Nat.add_comm];omega
theorem Oy {x y:Nat}(hx:x≠0)(hy:y≠0):bl x+bl y≤bl (x*y)+1:=by
 have h1:=Dg x hx;have h2:=Dg y hy;have h3:=Nat.mul_le_mul h1 h2;rw [←Nat.pow_add] at h3;have h4:=Nat.lt_of_le_of_lt h3 (Bc (x*y));have h5:=(Nat.pow_lt_pow_iff_right (by decide:1<2)).1 h4;have:=Ct x hx;have:=Ct y hy;omega
theorem Yp {p:Nat}{up:Bool}{r t:Dy}{j:Nat}(p1:1≤p)(p2:p≤2000)(hr:r.m≠0)(rn:r.neg=false)(hr1:-500≤r.e)(hr2:Ba r≤-8)(ht:t.m≠0)(tn:t.neg=false)(ht1:bl t.m≤p)(ht2:-3000≤Ba t)(ht3:Ba t≤100)
 (j1:1≤j) (j2:j≤1000000):(Ci p up r t j).neg=false∧Il up p (t.q*r.q/(j:Rat)) (Ci p up r t j).q∧Ba t+Ba r-25≤Ba (Ci p up r t j):=by
 obtain ⟨b1,b2,b3,b4⟩:=Ak4 j1 j2;have hjq:(ofN j).q=(j:Rat):=by
  have hb:bl j≤20:=E7 _ _ (by omega);have h:=Kj (Ll (neg:=false) (n:=j) (e:=0) (by omega) (by omega) (by decide) (by omega)).1
  show (Bt false j 0).v.q=_
  rw [h,F1,Rat.mul_one];rfl
 have hbt:=Ct _ ht;have hbr:=Ct _ hr;unfold Ba at hr2 ht2 ht3;have hmz:t.m*r.m≠0:=Nat.mul_ne_zero ht hr;have hmb:=Ga (Nat.le_refl (bl t.m)) (Nat.le_refl (bl r.m));have hmp:=Ct _ hmz;have hmg:=Oy ht hr;obtain ⟨c1,c2,c3⟩:=Fs (neg:=t.neg != r.neg) (n:=t.m*r.m) (e:=t.e+r.e) hmz (by omega) (by omega) (by omega);obtain ⟨c4,c5⟩:=Ll (neg:=t.neg != r.neg) (n:=t.m*r.m) (e:=t.e+r.e) hmz (by omega) (by omega) (by omega);have hmq:(Ch t r).v.q=t.q*r.q:=Up c4;unfold Ci Cf;rw [if_neg b1,←hjq,←hmq];obtain ⟨a,ha⟩:∃ a,a=(Ch t r).v:=⟨_,rfl⟩;have c1:a.m≠0:=by rw [ha];exact c1
 have c2:Ba a=bl (t.m*r.m)+(t.e+r.e):=by rw [ha];exact c2
 have c3:bl a.m≤bl (t.m*r.m):=by rw [ha];show bl (Bt _ _ _).v.m≤_;omega
 have c5:a.neg=false:=by rw [ha];refine Eq.trans c5 ?_;rw [tn,rn];rfl
 have b5:(ofN j).neg=false:=by
  have hb:bl j≤20:=E7 _ _ (by omega);exact (Ll (neg:=false) (n:=j) (e:=0) (by omega) (by omega) (by decide) (by omega)).2
 rw [←ha];clear hmq ha hjq;generalize ofN j=b at *;have hba:=Ct _ c1;have hbb:=Ct _ b1;unfold Ba at c2 b2 b3;have hK:Bu a b p=p+1+bl b.m-bl a.m:=rfl;have hq:=P8 a.m b.m p c1 b1 (Bu a b p) (by omega);have hk:bl (2^Bu a b p)≤Bu a b p+1:=E7 _ _ (Nat.pow_lt_pow_right (by decide) (by omega));have hm2:=Ga (Nat.le_refl (bl a.m)) hk;have hk1:Bu a b p+1≤bl (2^Bu a b p):=by
  have h:=Bc (2^Bu a b p);have h2:=(Nat.pow_lt_pow_iff_right (by decide:1<2)).1 h;omega
 have hm3:=Oy c1 (Nat.ne_of_gt (Nat.two_pow_pos (Bu a b p)));have hd:=Ty (x:=a.m*2^Bu a b p) b1;have hd2:=Xr (x:=a.m*2^Bu a b p) b1;have hz:a.m*2^Bu a b p/b.m≠0:=by intro h;rw [h,Gg] at hq;omega
 obtain ⟨x,y,z⟩:=Xw (neg:=a.neg != b.neg) (rest:=decide (¬a.m*2^Bu a b p%b.m=0)) (up:=up) (e:=a.e-b.e-Bu a b p) hz p1 p2 (by omega) (by omega);refine ⟨?_,Mm p1 b1 x,?_⟩
 ·refine Eq.trans y ?_;rw [c5,b5];rfl
 ·have z':(bl (a.m*2^Bu a b p/b.m):Int)+(a.e-b.e-Bu a b p)≤Ba (Bq a b p up).v:=z;unfold Ba at z' ⊢;omega
end Go.Proofs.YtabjjdicffcolaaGreatDoor
namespace Go.Proofs.YtabjjdicffcolaaGreatDoor
theorem Yt {a b:Int}(h:pw a≤pw b):a≤b:=by
 rcases Int.lt_or_le b a with h1 | h1
 ·exfalso;have h2:=Fj (show b+1≤a by omega);have h3:=G0 b;rw [Ef,O7] at h2;grind
 ·exact h1
theorem Gz {a b:Int}(h:pw a<pw b):a<b:=by
 rcases Int.lt_or_le a b with h1 | h1
 ·exact h1
 ·exfalso;have h2:=Fj h1;grind
theorem Abu {d:Dy}(hn:d.neg=false):d.q=(d.m:Rat)*pw d.e:=by
 unfold Dy.q sq;rw [hn];rfl
theorem Wn {d:Dy}(h:d.m≠0)(hn:d.neg=false):0<d.q:=by
 rw [Abu hn];exact Ri h d.e
theorem Jd {d:Dy}(h:d.m≠0)(hn:d.neg=false):pw (Ba d-1)≤d.q∧d.q<pw (Ba d):=by
 rw [Abu hn];exact Un h d.e
theorem Ft {p:Nat}(hp:1≤p):Fits p 1:=⟨false,1,0,hp,by simp [sq,F1]⟩
theorem Hb {p:Nat}(hp:1≤p)(e:Int):Fits p (pw e):=by
 have h:=(Ft hp).pw e;rwa [Rat.one_mul] at h
theorem U8 {x:Dy}{c:Int}(h:x.m≠0)(hn:x.neg=false)(hq:pw c≤x.q):c+1≤Ba x:=by
 have h1:=(Jd h hn).2;have h2:pw c<pw (Ba x):=by grind
 have:=Gz h2;omega
theorem Y9 {x:Dy}{c:Int}(h:x.m≠0)(hn:x.neg=false)(hq:x.q≤pw c):Ba x≤c+1:=by
 have h1:=(Jd h hn).1;have h2:pw (Ba x-1)≤pw c:=by grind
 have:=Yt h2;omega
theorem Aat {x:Dy}(h:x.m≠0)(hn:x.neg=false)(h1:1≤x.q)(h2:x.q<2):Ba x=1:=by
 have a:=U8 (c:=0) h hn (by rw [F1];exact h1);have b:=(Jd h hn).1;have c:pw (Ba x-1)<pw 1:=by rw [O7];grind
 have:=Gz c;omega
theorem Ak3 {s t:Dy}{p:Nat}(p2:p≤2000)(s0:s.m≠0)(sn:s.neg=false)(sb:bl s.m≤p)(s1:1≤s.q)(t0:t.m≠0)(tn:t.neg=false)(tk:t.Ok)(h2:s.q+t.q<2) :
 ((Dj s t).k=0↔-4095≤t.e)∧((Dj s t).k=0→(Dj s t).v.m≠0∧(Dj s t).v.neg=false∧Ba (Dj s t).v=1∧-5000≤(Dj s t).v.e):=by
 have t1:=Wn t0 tn;have hs1:=(Jd s0 sn).1;have hs2:=(Jd s0 sn).2;have hs3:Ba s=1:=by
  have a:pw (Ba s-1)<pw 1:=by rw [O7];grind
  have b:pw 0<pw (Ba s):=by rw [F1];grind
  have:=Gz a;have:=Gz b;omega
 have hs4:(bl s.m:Int)+s.e=1:=hs3;have sp:=Ct _ s0;have key:∀ (n:Nat) (e:Int),n≠0→(n:Rat)*pw e=s.q+t.q→(bl n:Int)+e=1:=by
  intro n e hn he;obtain ⟨a,b⟩:=Un hn e;rw [he] at a b;have c:pw (bl n+e-1)<pw 1:=by rw [O7];grind
  have d:pw 0<pw (bl n+e):=by rw [F1];grind
  have:=Gz c;have:=Gz d;omega
 unfold Dj;rw [if_neg s0,if_neg t0];by_cases h:s.e<t.e
 ·rw [if_pos h];have hn:t.m*2^(t.e-s.e).toNat+s.m≠0:=by omega
  have he:((t.m*2^(t.e-s.e).toNat+s.m:Nat):Rat)*pw s.e=s.q+t.q:=by
   rw [Abu sn,Abu tn,Rat.natCast_add,Rat.add_mul,←Hc t.m (Int.le_of_lt h)];grind
  have hb:=key _ _ hn he;have hg:¬(¬t.e=s.e∧4097-(bl t.m:Int)<t.e-s.e):=by
   have hbt:bl t.m+(t.e-s.e).toNat≤bl (t.m*2^(t.e-s.e).toNat+s.m):=by
    rw [←Gs _ _ t0];exact Fw (Nat.le_add_right _ _)
   omega
  have hz:=Ma _ _ hn (Bc (t.m*2^(t.e-s.e).toNat+s.m));unfold J6;rw [if_neg hg,if_pos (tn.trans sn.symm),tn];obtain ⟨k1,k2⟩:=Ll (neg:=false) (e:=s.e) hn (by omega) (by omega) (by omega);obtain ⟨f1,f2,f3⟩:=Fs (neg:=false) (e:=s.e) hn (by omega) (by omega) (by omega);have f2':=f2;unfold Ba at f2';exact ⟨⟨fun _=>by omega,fun _=>k1⟩,fun _=>⟨f1,k2,by omega,by omega⟩⟩
 ·rw [if_neg h];have hn:s.m*2^(s.e-t.e).toNat+t.m≠0:=by omega
  have he:((s.m*2^(s.e-t.e).toNat+t.m:Nat):Rat)*pw t.e=s.q+t.q:=by
   rw [Abu sn,Abu tn,Rat.natCast_add,Rat.add_mul,←Hc s.m (by omega:t.e≤s.e)]
  have hb:=key _ _ hn he;have hz:=Ma _ _ hn (Bc (s.m*2^(s.e-t.e).toNat+t.m));unfold J6;by_cases hte:-4095≤t.e
  ·rw [if_neg (by omega),if_pos (sn.trans tn.symm),sn];obtain ⟨k1,k2⟩:=Ll (neg:=false) (e:=t.e) hn (by omega) (by omega) (by omega);obtain ⟨f1,f2,f3⟩:=Fs (neg:=false) (e:=t.e) hn (by omega) (by omega) (by omega);have f2':=f2;unfold Ba at f2';exact ⟨⟨fun _=>hte,fun _=>k1⟩,fun _=>⟨f1,k2,by omega,by omega⟩⟩
  ·have hk:∀ o:Outc Dy,o.k≠0→(o.k=0↔-4095≤t.e)∧(o.k=0→o.v.m≠0∧o.v.neg=false∧Ba o.v=1∧-5000≤o.v.e) :=
    fun o ho=>⟨⟨fun a=>absurd a ho,fun a=>absurd a hte⟩,fun a=>absurd a ho⟩
   apply hk;split
   ·decide
   ·rw [if_pos (sn.trans tn.symm)];have ho:(s.m*2^(s.e-t.e).toNat+t.m)%2=1:=by
     have h1:=tk.odd t0;have h2:(s.e-t.e).toNat=(s.e-t.e).toNat-1+1:=by omega
     rw [h2,Nat.pow_succ,←Nat.mul_assoc];omega
    have hl:64<(Ai (s.m*2^(s.e-t.e).toNat+t.m)).length:=by
     refine Decidable.byContradiction fun hc=>?_
     have hb2:=Da (s.m*2^(s.e-t.e).toNat+t.m) 64 (by omega);omega
    unfold Bt;rw [if_neg hn,Aav ho,Nat.pow_zero,Nat.div_one,if_pos hl]
    decide
theorem Rm {d:Dy}{p:Nat}{up:Bool}(p1:1≤p)(p2:p≤2000)(h0:d.m≠0)(h1:-1000000≤d.e)(h2:Ba d≤1000000) :
 Il up p d.q (G4 p up d).q∧(G4 p up d).neg=d.neg∧(G4 p up d).m≠0∧bl (G4 p up d).m≤p:=by
 unfold Ba at h2;obtain ⟨a,b,c⟩:=Xw (neg:=d.neg) (rest:=false) (up:=up) h0 p1 p2 h1 h2;obtain ⟨x,y,z⟩:=Qp (neg:=d.neg) (rest:=false) (up:=up) h0 p1 p2 h1 h2;exact ⟨Qr p1 a,b,x,y⟩
theorem O8 (p:Nat)(up:Bool):G4 p up dz=dz:=by
 unfold G4 Dc I5;have h:Eo 0 false p (up != dz.neg)=0:=by unfold Eo Ig;simp [bl]
 show (Bt dz.neg (Eo 0 false p (up != dz.neg)) _).v=dz
 rw [h];rfl
theorem Kg {up:Bool}{p:Nat}{x d b:Rat}(h:Il up p x d)(hb:Fits p b)(hx:x≤b):d≤b:=by
 cases up with
 | true=>exact IsUp.best h b hb hx
 | false=>exact Rat.le_trans (IsDown.le h) hx
theorem Li {up:Bool}{p:Nat}{x d b:Rat}(h:Il up p x d)(hb:Fits p b)(hx:b≤x):b≤d:=by
 cases up with
 | true=>exact Rat.le_trans hx (IsUp.le h)
 | false=>exact IsDown.best h b hb hx
theorem Aab {s t:Dy}{p:Nat}{up:Bool}(p1:1≤p)(p2:p≤2000)(s0:s.m≠0)(sn:s.neg=false)(sb:bl s.m≤p)(s1:1≤s.q)(t0:t.m≠0)(tn:t.neg=false)(tk:t.Ok)(h2:s.q+t.q<2) :
 (-4095≤t.e→Il up p (s.q+t.q) (Ds p up s t).q∧(Ds p up s t).neg=false∧(Ds p up s t).m≠0∧bl (Ds p up s t).m≤p)∧(t.e < -4095→Ds p up s t=dz):=by
 obtain ⟨a,b⟩:=Ak3 p2 s0 sn sb s1 t0 tn tk h2;constructor
 ·intro h;have hk:=a.2 h;obtain ⟨b1,b2,b3,b4⟩:=b hk;have hq:=U6 hk;obtain ⟨c1,c2,c3,c4⟩:=Rm (up:=up) p1 p2 b1 (by omega) (by omega);rw [hq] at c1;exact ⟨c1,c2.trans b2,c3,c4⟩
 ·intro h;have hk:(Dj s t).k≠0:=fun e=>by have:=a.1 e;omega
  have hz:(Dj s t).v=dz:=by
   have hs:s.Ok∨True:=.inr trivial;unfold Dj at hk ⊢;rw [if_neg s0,if_neg t0] at hk ⊢;split at hk<;>rename_i hc
   ·rw [if_pos hc];exact (U5 _ _).2 hk
   ·rw [if_neg hc];exact (U5 _ _).2 hk
  unfold Ds;rw [hz,O8]
theorem Agg {r:Rat}(h0:0≤r)(h1:r≤1/2)(j:Nat):2*eT r (j+1)≤eT r j:=by
 have h2:=P6 r j;have h3:=F7 h0 (j+1);have h4:=F7 h0 j;have h5:(1:Rat)≤((j+1:Nat):Rat):=by exact_mod_cast Nat.le_add_left 1 j
 have h6:=Rat.mul_le_mul_of_nonneg_right h5 h3;have h7:=Rat.mul_le_mul_of_nonneg_right h1 h4;rw [h2] at h6;grind
theorem Agf {r:Rat}(h0:0≤r)(h1:r≤1/2)(j n:Nat):eS r n≤eS r (j+1)+eT r j:=by
 have step:∀ m,eS r (j+1+m)+eT r (j+m)≤eS r (j+1)+eT r j:=by
  intro m
  induction m with
  | zero=>exact Rat.le_refl
  | succ m ih =>
    have h2:=Agg h0 h1 (j+m);have e1:eS r (j+1+(m+1))=eS r (j+1+m)+eT r (j+1+m):=rfl;have e2:j+1+m=j+m+1:=by omega
    rw [e2] at e1 ih;have e3:j+(m+1)=j+m+1:=by omega
    rw [e1,e3];grind
 have h2:=step n;have h3:=Zq h0 (m:=n) (n:=j+1+n) (by omega);have h4:=F7 h0 (j+n);grind
def sB (j:Nat):Nat:=if j≤1 then 65536 else 65790+j
theorem Ajr:(sB 1:Rat)*pw (-16)=1:=by decide +kernel
theorem Wl:pw (-1)=1/2:=by decide +kernel
theorem Aky:pw (-8)=1/256:=by decide +kernel
theorem Ahi {j:Nat}(h:1≤j):(sB j:Rat)*pw (-16)+pw (-8*(j:Int))≤(sB (j+1):Rat)*pw (-16):=by
 by_cases h1:j=1
 ·subst h1
  decide +kernel
 ·have e:(sB (j+1):Rat)=(sB j:Rat)+1:=by
   have:sB (j+1)=sB j+1:=by
    unfold sB;rw [if_neg (by omega),if_neg (by omega)];omega
   rw [this,Rat.natCast_add];rfl
  have h2:=Fj (show -8*(j:Int)≤-16 by omega);rw [e];grind
theorem Aic {j:Nat}(h:j≤500):(sB j:Rat)*pw (-16)≤17/16:=by
 have h1:sB j≤69632:=by unfold sB;split<;>omega
 have h2:=(Gb (-16)).2 (Cj.2 h1);have h3:((69632:Nat):Rat)*pw (-16)=17/16:=by decide +kernel
 rwa [h3] at h2
theorem Ahh {j p:Nat}(h:j≤500)(hp:17≤p):Fits p ((sB j:Rat)*pw (-16)):=by
 have h1:sB j<2^17:=by unfold sB;split<;>omega
 exact (Jr (p:=p) (m:=sB j) (Nat.le_trans (E7 _ _ h1) hp)).pw (-16)
structure NI (p:Nat) (up:Bool) (r:Rat) (j:Nat) (s t:Dy):Prop where
 s0:s.m≠0
 sn:s.neg=false
 sb:bl s.m≤p
 s1:1≤s.q
 s2:s.q≤(sB j:Rat)*pw (-16)
 t0:t.m≠0
 tn:t.neg=false
 tb:bl t.m≤p
 t2:t.q≤pw (-8*((j:Int)-1))
 t3:-(p:Int)-8≤Ba t
 dir:if up then eT r (j-1)≤t.q∧eS r j≤s.q else t.q≤eT r (j-1)∧s.q≤eS r j
theorem Re:one.q=1:=by decide +kernel
theorem NI.start {p:Nat}{up:Bool}{r:Rat}(p1:1≤p):NI p up r 1 one one:=by
 have b:bl one.m=1:=by decide
 have t:Ba one=1:=by decide
 refine ⟨by decide,rfl,by omega,by rw [Re];exact Rat.le_refl,by rw [Re,Ajr];exact Rat.le_refl,by decide,rfl,by omega,?_,by omega,?_⟩
 ·rw [Re]
  show (1:Rat)≤pw 0
  rw [F1];exact Rat.le_refl
 ·rw [Re,X9];cases up
  ·exact ⟨Rat.le_refl,Rat.le_refl⟩
  ·exact ⟨Rat.le_refl,Rat.le_refl⟩
theorem Agh (r:Rat){j:Nat}(h:1≤j):eT r j=eT r (j-1)*r/(j:Rat):=by
 obtain ⟨i,rfl⟩:∃ i,j=i+1:=⟨j-1,by omega⟩;rfl
theorem Oz {p j:Nat}{up:Bool}{r s t:Dy}(p1:1≤p)(p2:p≤2000)(hr:r.m≠0)(rn:r.neg=false)(hr1:-500≤r.e)(hr2:Ba r≤-8)(j1:1≤j)(j2:j≤500)(h:NI p up r.q j s t) :
 (Ci p up r t j).m≠0∧(Ci p up r t j).neg=false∧bl (Ci p up r t j).m≤p∧(Ci p up r t j).q≤pw (-8*(j:Int))∧Ba t+Ba r-25≤Ba (Ci p up r t j) ∧
   (if up then eT r.q j≤(Ci p up r t j).q else (Ci p up r t j).q≤eT r.q j):=by
 have tp:=Wn h.t0 h.tn;have tt:=(Jd h.t0 h.tn).1;have rp:=Wn hr rn;have rt:r.q<pw (-8):=by
  have:=(Jd hr rn).2;have:=Fj hr2;grind
 have t4:Ba t≤100:=by
  have a:=h.t2;have b:=Fj (show -8*((j:Int)-1)≤0 by omega);have c:pw (Ba t-1)≤pw 0:=by grind
  have:=Yt c;omega
 have t3:=h.t3;obtain ⟨a1,a2,a3⟩:=Rc (up:=up) p1 p2 hr hr1 hr2 h.t0 h.tb (by omega) t4 j1 (by omega);obtain ⟨b1,b2,b3⟩:=Yp (up:=up) p1 p2 hr rn hr1 hr2 h.t0 h.tn h.tb (by omega) t4 j1 (by omega);have hj:(1:Rat)≤(j:Rat):=by exact_mod_cast j1
 have hji:(0:Rat)<(j:Rat)⁻¹:=Rat.inv_pos.2 (by grind);have hjm:(j:Rat)*(j:Rat)⁻¹=1:=Rat.mul_inv_cancel _ (by grind);have hji1:(j:Rat)⁻¹≤1:=by
  have:=Rat.mul_le_mul_of_nonneg_right hj (Rat.le_of_lt hji);grind
 have tr0:0<t.q*r.q:=Rat.mul_pos tp rp;have hle:t.q*r.q/(j:Rat)≤t.q*r.q:=by
  rw [Rat.div_def];have:=Rat.mul_le_mul_of_nonneg_left hji1 (Rat.le_of_lt tr0);grind
 refine ⟨a1,b1,a2,?_,b3,?_⟩
 ·refine Kg b2 (Hb p1 _) (Rat.le_trans hle ?_);have e:-8*(j:Int)=-8*((j:Int)-1)+-8:=by omega
  rw [e,Ef];have c1:=Rat.mul_le_mul_of_nonneg_right h.t2 (Rat.le_of_lt rp);have c2:=Rat.mul_le_mul_of_nonneg_left (Rat.le_of_lt rt) (Db (-8*((j:Int)-1)));exact Rat.le_trans c1 c2
 ·have hd:=h.dir;have hm:∀ {x y:Rat},x≤y→x*r.q/(j:Rat)≤y*r.q/(j:Rat):=fun hxy=>by
   rw [Rat.div_def,Rat.div_def];exact Rat.mul_le_mul_of_nonneg_right (Rat.mul_le_mul_of_nonneg_right hxy (Rat.le_of_lt rp)) (Rat.le_of_lt hji)
  rw [Agh _ j1];cases up with
  | true =>
    rw [if_pos rfl] at hd
    show _≤_
    exact Rat.le_trans (hm hd.1) (IsUp.le b2)
  | false =>
    rw [if_neg (by decide)] at hd
    show _≤_
    exact Rat.le_trans (IsDown.le b2) (hm hd.1)
theorem NI.next {p j:Nat}{up:Bool}{r s t:Dy}(p1:17≤p)(p2:p≤2000)(hr:r.m≠0)(rn:r.neg=false)(hr1:-500≤r.e)(hr2:Ba r≤-8)(j1:1≤j)(j2:j≤499)(h:NI p up r.q j s t) :
 (s.q+(Ci p up r t j).q<2)∧(-4095≤(Ci p up r t j).e→(Ds p up s (Ci p up r t j)).m≠0∧(Ds p up s (Ci p up r t j)).neg=false∧bl (Ds p up s (Ci p up r t j)).m≤p∧1≤(Ds p up s (Ci p up r t j)).q ∧
   (Ds p up s (Ci p up r t j)).q≤(sB (j+1):Rat)*pw (-16)∧(if up then eS r.q (j+1)≤(Ds p up s (Ci p up r t j)).q else (Ds p up s (Ci p up r t j)).q≤eS r.q (j+1))) ∧
   ((Ci p up r t j).e < -4095→Ds p up s (Ci p up r t j)=dz):=by
 obtain ⟨a1,a2,a3,a4,a5,a6⟩:=Oz (up:=up) (s:=s) (by omega) p2 hr rn hr1 hr2 j1 (by omega) h;have tk:(Ci p up r t j).Ok:=(Iy _ _ _ _).1;generalize Ci p up r t j=t' at *;have hs:=h.s2;have hb:=Ahi j1;have hb2:=Aic (show j+1≤500 by omega);have hsum:s.q+t'.q≤(sB (j+1):Rat)*pw (-16):=by grind
 have hlt:s.q+t'.q<2:=by grind
 have tp:=Wn a1 a2;obtain ⟨c1,c2⟩:=Aab (up:=up) (by omega) p2 h.s0 h.sn h.sb h.s1 a1 a2 tk hlt;refine ⟨hlt,fun he=>?_,c2⟩;obtain ⟨d1,d2,d3,d4⟩:=c1 he;refine ⟨d3,d2,d4,?_,Kg d1 (Ahh (by omega) p1) hsum,?_⟩
 ·have:=h.s1;exact Li d1 (Ft (by omega)) (by grind)
 ·have hd:=h.dir;have e:eS r.q (j+1)=eS r.q j+eT r.q j:=rfl;rw [e];cases up with
  | true =>
    have hd2:eT r.q (j-1)≤t.q∧eS r.q j≤s.q:=hd;have a6':eT r.q j≤t'.q:=a6
    show _≤_
    have:=IsUp.le d1;grind
  | false =>
    have hd2:t.q≤eT r.q (j-1)∧s.q≤eS r.q j:=hd;have a6':t'.q≤eT r.q j:=a6
    show _≤_
    have:=IsDown.le d1;grind
def Qd (p:Nat) (r x:Dy):Prop:=(x=dz∧Ba r < -60∨x.m≠0∧x.neg=false∧bl x.m≤p∧1≤x.q∧x.q<2)∧∃ n,1≤n∧x.q≤eS r.q n
def Qc (p:Nat) (r x:Dy):Prop:=x.m≠0∧x.neg=false∧bl x.m≤p∧(Ba r < -60∧x.q≤1/2∧-6000≤Ba x∨1≤x.q∧x.q<2∧∀ n,eS r.q n≤x.q)
theorem Aea {p j:Nat}{up:Bool}{r s t:Dy}(p1:17≤p)(p2:p≤2000)(hr:r.m≠0)(rn:r.neg=false)(hr1:-500≤r.e)(hr2:Ba r≤-8)(j1:1≤j)(j2:j≤498)(h:NI p up r.q j s t) :
 if up then Qc p r (Ic p up (Ds p up s (Ci p up r t j),Ci p up r t j)) else Qd p r (Ic p up (Ds p up s (Ci p up r t j),Ci p up r t j)):=by
 obtain ⟨a1,a2,a3,a4,a5,a6⟩:=Oz (up:=up) (s:=s) (by omega) p2 hr rn hr1 hr2 j1 (by omega) h;obtain ⟨b1,b2,b3⟩:=h.next p1 p2 hr rn hr1 hr2 j1 (by omega);have tk:(Ci p up r t j).Ok:=(Iy _ _ _ _).1;have t3:=h.t3;generalize Ci p up r t j=t' at *;have rp:=Wn hr rn;have tp:=Wn a1 a2;have rt:r.q≤1/2:=by
  have:=(Jd hr rn).2;have:=Fj (show Ba r≤-1 by omega);have e:=Wl;grind
 have a5':Ba t+Ba r-25≤(bl t'.m:Int)+t'.e:=a5;by_cases he:-4095≤t'.e
 ·obtain ⟨c1,c2,c3,c4,c5,c6⟩:=b2 he;have hb2:=Aic (show j+1≤500 by omega);cases up with
  | false =>
    show Qd _ _ _
    refine ⟨.inr ⟨c1,c2,c3,c4,?_⟩,j+1,by omega,c6⟩
    show (Ds p false s t').q<2
    grind
  | true =>
    show Qc p r (Ds p true (Ds p true s t') t')
    have a6':eT r.q j≤t'.q:=a6;have c6':eS r.q (j+1)≤(Ds p true s t').q:=c6;have t8:t'.q≤pw (-8):=Rat.le_trans a4 (Fj (by omega));have e8:=Aky;generalize Ds p true s t'=s' at *;have c5':=Rat.le_trans c5 hb2;have t8':t'.q≤1/256:=by rw [←e8];exact t8
    clear hb2 c5 t8 e8 b1 b2 b3 a4 a5' h a5;obtain ⟨d1,-⟩:=Aab (up:=true) (by omega) p2 c1 c2 c3 c4 a1 a2 tk (by grind);obtain ⟨f1,f2,f3,f4⟩:=d1 he;have hup:=IsUp.le f1;refine ⟨f3,f2,f4,.inr ⟨by grind,?_,fun n=>?_⟩⟩
    ·have hf:Fits p (3/2):=by
      have:=(Jr (p:=p) (m:=3) (Nat.le_trans (E7 3 2 (by decide)) (by omega))).pw (-1);have e:((3:Nat):Rat)*pw (-1)=3/2:=by decide +kernel
      rwa [e] at this
     have:=Kg f1 hf (by grind);grind
    ·have:=Agf (Rat.le_of_lt rp) rt j n;grind
 ·have h0:=b3 (by omega);have hr60:Ba r < -60:=by omega
  cases up with
  | false =>
    show Qd _ _ _
    refine ⟨.inl ⟨h0,hr60⟩,1,by omega,?_⟩
    show (Ds p false s t').q≤_
    rw [h0,X8,X9]
    decide
  | true =>
    show Qc p r (Ds p true (Ds p true s t') t')
    rw [h0];have e:Ds p true dz t'=G4 p true t':=by
     unfold Ds Dj;rw [if_pos (show dz.m=0 from rfl)];rfl
    rw [e];have tt:Ba t'≤0:=by
     have c:=(Jd a1 a2).1;have d:=Fj (show -8*(j:Int)≤-8 by omega);have f:pw (Ba t'-1)≤pw (-8):=by grind
     have:=Yt f;omega
    have hr3:Ba r=(bl r.m:Int)+r.e:=rfl;have te:-5000≤t'.e:=by omega
    obtain ⟨c1,c2,c3,c4⟩:=Rm (up:=true) (by omega) p2 a1 (by omega) (by omega);refine ⟨c3,c2.trans a2,c4,.inl ⟨hr60,?_,?_⟩⟩
    ·have f2:=Hb (p:=p) (by omega) (-1);have e2:=Wl;rw [←e2];exact Kg c1 f2 (Rat.le_trans a4 (Fj (by omega)))
    ·have u1:=Li c1 (Hb (by omega) (Ba t'-1)) (Jd a1 a2).1;have:=U8 c3 (c2.trans a2) u1;have e3:Ba t'=(bl t'.m:Int)+t'.e:=rfl;omega
theorem Ur {p:Nat}{up:Bool}{r:Dy}(p1:17≤p)(p2:p≤2000)(hr:r.m≠0)(rn:r.neg=false)(hr1:-500≤r.e)(hr2:Ba r≤-8):∀ (f j:Nat) (s t:Dy) (o:Dy × Dy),NI p up r.q j s t→1≤j→j+f≤498→Fm p up r f j s t=some o →
 if up then Qc p r (Ic p up o) else Qd p r (Ic p up o)
 | 0,j,s,t,o,_,_,_,h=>by simp [Fm] at h
 | f + 1, j, s, t, o, hI, j1, j2, h => by
   rw [Fm] at h;split at h
   ·obtain rfl:=Option.some.inj h;exact Aea p1 p2 hr rn hr1 hr2 j1 (by omega) hI
   ·rename_i hc;obtain ⟨a1,a2,a3,a4,a5,a6⟩:=Oz (up:=up) (s:=s) (by omega) p2 hr rn hr1 hr2 j1 (by omega) hI;obtain ⟨b1,b2,b3⟩:=hI.next p1 p2 hr rn hr1 hr2 j1 (by omega);have he:-4095≤(Ci p up r t j).e:=by
     have:¬(bl (Ci p up r t j).m:Int)+(Ci p up r t j).e < -(p:Int)-8:=hc;omega
    obtain ⟨c1,c2,c3,c4,c5,c6⟩:=b2 he;refine Ur p1 p2 hr rn hr1 hr2 f (j+1) _ _ o ⟨c1,c2,c3,c4,c5,a1,a2,a3,?_,by omega,?_⟩ (by omega) (by omega) h
    ·have e:-8*(((j+1:Nat):Int)-1)=-8*(j:Int):=by omega
     rw [e];exact a4
    ·cases up with
     | true=>exact ⟨a6,c6⟩
     | false=>exact ⟨a6,c6⟩
end Go.Proofs.YtabjjdicffcolaaGreatDoor
namespace Go.Proofs.YtabjjdicffcolaaGreatDoor
open Go.Lib (hid)
open Go.RowKit
def Ek (p:Nat) (up:Bool) (d:Dy):Dy × Dy:=(Fm p up (Gh (Cv d)) 400 1 one one).getD (one,one)
def bnE (d:Dy) (w:Nat):Dy × Dy:=K7 w d (Hy w false d (Ek w false d)) (Hy w true d (Ek w true d))
def exX (d:Dy) (p w:Nat) (up:Bool):Dy:=G4 p up (bnE d w).1
def exY (d:Dy) (p w:Nat) (up:Bool):Dy:=G4 p up (bnE d w).2
def M8 (d:Dy) (p:Nat) (up:Bool):Nat→Nat→Outc Dy
 | 0,_=>bad 2
 | f+1,w=>if 2000<w then bad 2 else if J1 (exX d p w up).raw (exY d p w up).raw=true then good (exX d p w up) else M8 d p up f (w+w/2)
def Fq (d:Dy) (p:Nat) (up:Bool):Outc Dy:=if E4 d.raw p≠0 then bad (E4 d.raw p) else if d.m=0 then good one else M8 d p up 2000 (p+40)
theorem Ada (d:Dy)(p w:Nat)(up:Bool):(exX d p w up).Ok:=Mn _ _ _
theorem Zt (d:Dy)(p:Nat)(up:Bool):∀ f w,(M8 d p up f w).Ok
 | 0,_=>Lh _
 | f + 1, w => by
   rw [M8];split
   ·exact Lh _
   ·split
    ·exact N0 (Ada _ _ _ _)
    ·exact Zt d p up f _
theorem Zs (d:Dy)(p:Nat)(up:Bool):(Fq d p up).Ok:=by
 unfold Fq;split
 ·exact Lh _
 ·split
  ·exact N0 Hm
  ·exact Zt _ _ _ _ _
def ExB (S:Nat) (z:Bool) (d:Dy) (v:Value) (w:World):Prop:=∃ b,v=.pointer (some ⟨b,0,none⟩)∧S≤b∧(z=false→Blk w b (.bool false) (.slice none 0 0) (.int .i64 0)) ∧
 (z=true→∃ A l c,Blk w b (.bool d.neg) (.slice A l c) (.int .i64 d.e)∧DyR w (.agg #[.bool d.neg,.slice A l c,.int .i64 d.e]) d.raw)
theorem ExB.kept {S:Nat}{z:Bool}{d:Dy}{v:Value}{w w':World}(h:ExB S z d v w)(k:Kept w w'):ExB S z d v w':=by
 obtain ⟨b,h1,h2,h4,h5⟩:=h;exact ⟨b,h1,h2,fun e=>(h4 e).kept k,fun e=>by obtain ⟨A,l,c,a1,a2⟩:=h5 e;exact ⟨A,l,c,a1.kept k,a2.kept k⟩⟩
theorem ExB.ne {S:Nat}{z:Bool}{d:Dy}{v:Value}{w:World}(h:ExB S z d v w):v≠.pointer (some ⟨w.heap.size,0,none⟩):=by
 obtain ⟨b,rfl,h2,h4,h5⟩:=h;intro e;have hb:b<w.heap.size:=by
  cases z with
  | false=>exact (h4 rfl).facts.1
  | true=>obtain ⟨A,l,c,a1,a2⟩:=h5 rfl;exact a1.facts.1
 cases e;omega
theorem ExB.new {S:Nat}(d:Dy){w:World}(h:S≤w.heap.size):ExB S false d (.pointer (some ⟨w.heap.size,0,none⟩)) (w.alloc (.cells #[.bool false,.slice none 0 0,.int .i64 0] 28)) :=
 ⟨_,rfl,h,fun _=>Dn _,fun e=>by cases e⟩
theorem ExB.other {S b0:Nat}{z:Bool}{d:Dy}{v:Value}{w:World}(h:ExB S z d v w)(hb:Blk w b0 (.bool false) (.slice none 0 0) (.int .i64 0))(hv:v≠.pointer (some ⟨b0,0,none⟩))(x' y' z':Value) :
 ExB S z d v (dyW w b0 x' y' z'):=by
 obtain ⟨b,h1,h2,h4,h5⟩:=h;have hne:¬b=b0:=fun e=>hv (by rw [h1,e])
 refine ⟨b,h1,h2,fun e=>(h4 e).laid_other hne _ _ _,fun e=>?_⟩;obtain ⟨A,l,c,a1,a2⟩:=h5 e;exact ⟨A,l,c,a1.laid_other hne _ _ _,a2.dyW hb (Ah _) (Ag _ _ _) (Af _) _ _ _⟩
theorem ExB.laid {S b0:Nat}{d:Dy}{w:World}{A:Option Addr}{l c:Nat}(hb:Blk w b0 (.bool false) (.slice none 0 0) (.int .i64 0))(hS:S≤b0)(hd:DyR w (.agg #[.bool d.neg,.slice A l c,.int .i64 d.e]) d.raw) :
 ExB S true d (.pointer (some ⟨b0,0,none⟩)) (dyW w b0 (.bool d.neg) (.slice A l c) (.int .i64 d.e)) :=
 ⟨_,rfl,hS,fun e=>(by cases e),fun _=>⟨A,l,c,hb.laid _ _ _,hd.dyW hb (Ah _) (Ag _ _ _) (Af _) _ _ _⟩⟩
def ExG (S:Nat) (x y:Dy) (L:Nat→Bool) (u:Nat→Value) (w:World):Prop :=
 (L 10=true→ExB S (L 12) x (u 10) w)∧(L 11=true→ExB S (L 13) y (u 11) w)∧(L 10=true→L 11=true→u 10≠u 11)∧(L 10=false→L 12=false)∧(L 11=false→L 13=false)
theorem ExG.keep {S:Nat}{x y:Dy}{L:Nat→Bool}{u:Nat→Value}{w w':World}{i:Nat}{v:Value}(hE:(i==10||i==11||i==12||i==13)=false)(k:Kept w w')(h:ExG S x y L u w):ExG S x y (upd L i true) (upd u i v) w':=by
 simp only [Bool.or_eq_false_iff,beq_eq_false_iff_ne] at hE;obtain ⟨⟨⟨h10,h11⟩,h12⟩,h13⟩:=hE;obtain ⟨a,b,c,d,e⟩:=h;have u1:∀ {α:Type} (f:Nat→α) (x:α) (j:Nat),¬i=j→upd f i x j=f j:=fun f x j hj=>by unfold upd;rw [if_neg (fun e=>hj e.symm)]
 refine ⟨?_,?_,?_,?_,?_⟩<;>simp only [u1 _ _ 10 h10,u1 _ _ 11 h11,u1 _ _ 12 h12,u1 _ _ 13 h13]
 ·exact fun q=>(a q).kept k
 ·exact fun q=>(b q).kept k
 ·exact c
 ·exact d
 ·exact e
theorem ExG.put10 {S:Nat}{x y:Dy}{L:Nat→Bool}{u:Nat→Value}{w:World}(hS:S≤w.heap.size)(h:ExG S x y L u w)(h0:L 10=false) :
 ExG S x y (upd L 10 true) (upd u 10 (.pointer (some ⟨w.heap.size,0,none⟩))) (w.alloc (.cells #[.bool false,.slice none 0 0,.int .i64 0] 28)):=by
 obtain ⟨a,b,c,d,e⟩:=h;have h12:=d h0;unfold ExG;simp only [upd,reduceIte,Nat.reduceEqDiff,h12];exact ⟨fun _=>ExB.new x hS,fun q=>(b q).kept (Ad _ _),fun _ q=>fun e=>(b q).ne e.symm,fun q=>trivial,e⟩
theorem ExG.put11 {S:Nat}{x y:Dy}{L:Nat→Bool}{u:Nat→Value}{w:World}(hS:S≤w.heap.size)(h:ExG S x y L u w)(h0:L 11=false) :
 ExG S x y (upd L 11 true) (upd u 11 (.pointer (some ⟨w.heap.size,0,none⟩))) (w.alloc (.cells #[.bool false,.slice none 0 0,.int .i64 0] 28)):=by
 obtain ⟨a,b,c,d,e⟩:=h;have h13:=e h0;unfold ExG;simp only [upd,reduceIte,Nat.reduceEqDiff,h13];exact ⟨fun q=>(a q).kept (Ad _ _),fun _=>ExB.new y hS,fun q _=>(a q).ne,d,fun q=>trivial⟩
theorem ExG.put12 {S b0:Nat}{x y:Dy}{L:Nat→Bool}{u:Nat→Value}{w:World}{A:Option Addr}{l c:Nat}{v:Value}(h:ExG S x y L u w)(h0:L 10=true)(e0:u 10=.pointer (some ⟨b0,0,none⟩))(hS:S≤b0)
 (hb:Blk w b0 (.bool false) (.slice none 0 0) (.int .i64 0)) (hd:DyR w (.agg #[.bool x.neg,.slice A l c,.int .i64 x.e]) x.raw) :
 ExG S x y (upd L 12 true) (upd u 12 v) (dyW w b0 (.bool x.neg) (.slice A l c) (.int .i64 x.e)):=by
 obtain ⟨a,b,c,d,e⟩:=h;unfold ExG;simp only [upd,reduceIte,Nat.reduceEqDiff,h0];refine ⟨fun _=>by rw [e0];exact ExB.laid hb hS hd,fun q=>(b q).other hb (fun ee=>c h0 q (e0.trans ee.symm)) _ _ _,fun _ q=>c h0 q,fun q=>by (cases q),e⟩
theorem ExG.put13 {S b0:Nat}{x y:Dy}{L:Nat→Bool}{u:Nat→Value}{w:World}{A:Option Addr}{l c:Nat}{v:Value}(h:ExG S x y L u w)(h0:L 11=true)(e0:u 11=.pointer (some ⟨b0,0,none⟩))(hS:S≤b0)
 (hb:Blk w b0 (.bool false) (.slice none 0 0) (.int .i64 0)) (hd:DyR w (.agg #[.bool y.neg,.slice A l c,.int .i64 y.e]) y.raw) :
 ExG S x y (upd L 13 true) (upd u 13 v) (dyW w b0 (.bool y.neg) (.slice A l c) (.int .i64 y.e)):=by
 obtain ⟨a,b,c,d,e⟩:=h;unfold ExG;simp only [upd,reduceIte,Nat.reduceEqDiff,h0];refine ⟨fun q=>(a q).other hb (fun ee=>c q h0 (ee.trans e0.symm)) _ _ _,fun _=>by rw [e0];exact ExB.laid hb hS hd,fun q _=>c q h0,d,fun q=>by (cases q)⟩
theorem Ac8 (w:World):DyR w (.agg #[.bool false,.slice none 0 0,.int .i64 0]) (bad 2:Outc Dy).raw.v:=by
 have h:(bad 2:Outc Dy).raw.v=rz:=Ez;rw [h];exact Cc w
theorem Ahv     {w:World}{v:Value}{d:Dy}{p:Nat}{up:Bool}(hv:DyR w v d.raw)(ok:d.Ok)(p1:1≤p)(p2:p≤300)(hT:Tab w)(h0:E4   d.raw p=0)(hz:d.m≠0)
 (hB:∀ wk:Nat,1≤wk→wk≤2000→∀ w1,Kept w w1→Calls Tryz.prog 184 #[v,.int .i64 (wk:Int)] w1 (Acm (bnE d wk).1.raw (bnE d wk).2.raw w1))
 (hO:∀ wk,(bnE d wk).1.Ok∧(bnE d wk).2.Ok) :
 Calls Tryz.prog 144 #[v,.int .i64 (p:Int),.bool up] w (RetE (M8 d p up 2000 (p+40)).raw w):=by
 have C:=hid (fun w1 (k:Kept w w1)=>Sh (p:=(p:Int)) (hv.kept k) (by have:=Dr ok;omega) (hT.kept k));rw [h0] at C;have CB:=hid hB;have C1:=hid (fun (wk:Nat) w1 v (k:Kept w w1) (h:DyR w1 v (bnE d wk).1.raw)=>show Calls Tryz.prog 185 #[.agg #[.int .i64 (p:Int),.bool up],v] w1 (RetD (exX d p wk up).raw w1) from Mb h (hO wk).1 p1 (by omega) (hT.kept k));have C2:=hid (fun (wk:Nat) w1 v (k:Kept w w1) (h:DyR w1 v (bnE d wk).2.raw)=>show Calls Tryz.prog 185 #[.agg #[.int .i64 (p:Int),.bool up],v] w1 (RetD (exY d p wk up).raw w1) from Mb h (hO wk).2 p1 (by omega) (hT.kept k))
 have CS:=hid (fun (wk:Nat) w1 v u (h:DyR w1 v (exX d p wk up).raw) (h2:DyR w1 u (exY d p wk up).raw)=>show Calls Tryz.prog 35 #[v,u] w1 (RetK (.bool (J1 (exX d p wk up).raw (exY d p wk up).raw)) w1) from
  Nx h h2 (by have:=Dr (Ada d p wk up);omega))
 obtain ⟨A,l,c,rfl,hl,-,-,-⟩:=hv.shape;have hl0:((l:Int)==0)=false:=by
  have:=Bj d.m hz;rw [beq_eq_false_iff_ne,hl]
  show ((Ai d.m).length:Int)≠0
  omega
 clear hv hl hT ok hz h0 hB hO;obtain ⟨fu,hf0⟩:∃ f,f=2000:=⟨_,rfl⟩;rw [←hf0];obtain ⟨o,ho⟩:∃ o,o=M8 d p up fu (p+40):=⟨_,rfl⟩;rw [←ho];have HO:=hid ho;have HF:=hid hf0;clear ho hf0;generalize hn1:d.raw.neg=n1 at *;generalize he1:d.raw.e=e1 at *;clear hn1 he1;obtain ⟨W,hW,kW,BA,BR⟩:=Kc w (.bool n1) (.slice A l c) (.int .i64 e1);have HW:=hid hW;have K:=hid kW;have HA:=hid BA;have HB:=hid BR;obtain ⟨-,a0,a1,a2,-⟩:=BA.facts;clear hW kW BA BR;go_enter Tryz.func144,Tryz.ntmps144;go_upto_region 1 with fail;rw [←HW.out];go_step3;go_wp2_with fail;refine (C.out _ K.out).mono ?_;rintro ee w1 ⟨rfl,q⟩
 simp only [];replace K:=hid (K.out.trans q);replace HA:=hid (HA.out.kept q);replace HB:=hid (HB.out.kept q);clear q a0 a1 a2 HW C;obtain ⟨-,a0,a1,a2,-⟩:=HA.out.facts;go_wp2_with fail;go_step3;go_wp2_with fail;clear a0 a1 a2 hl0
 go_loopw [9] (fun j wr=>∃ f wk:Nat,j=.int .i64 (wk:Int)∧2≤wk∧2000<wk+f∧M8 d p up f wk=o∧wk≤3000∧Kept w wr∧Blk wr w.heap.size (.bool n1) (.slice A l c) (.int .i64 e1) ∧
  Blk wr (w.heap.size+1) (.bool false) (.slice none 0 0) (.int .i64 0)) (fun j _=>(3001-intOf j).toNat)
 case atStart=>exact ⟨fu,p+40,by simp,by omega,by have:=HF.out;omega,HO.out.symm,by omega,K.out,HA.out,HB.out⟩
 case round =>
  clear HO K HA HB;obtain ⟨f,wk,rfl,hw1,hw2,hE,hw3,hK,hA,hB⟩:=hrel;have K:=hid hK;have HA:=hid hA;have HB:=hid hB;have HE:=hid hE;clear hK hA hB hE;obtain ⟨-,a0,a1,a2,-⟩:=HA.out.facts;obtain ⟨-,x0,x1,x2,y0,y1,y2⟩:=HB.out.facts;cases f with
  | zero =>
    have hwk:2000<wk:=by omega
    have ho:o=bad 2:=HE.out.symm;subst ho;clear HE;go_wp2_with fail;exact Dv (HB.out.laid _ _ _) rfl rfl rfl ⟨Am K.out (by omega),_,rfl,Ac8 _⟩
  | succ f =>
    have hE:=HE.out;rw [M8] at hE;by_cases hwk:2000<wk
    ·rw [if_pos hwk] at hE;subst hE;clear HE;go_wp2_with fail;exact Dv (HB.out.laid _ _ _) rfl rfl rfl ⟨Am K.out (by omega),_,rfl,Ac8 _⟩
    ·rw [if_neg hwk] at hE;replace HE:=hid hE;have hwk':wk≤2000:=by omega
     clear hE hwk;have CBw:=hid (CB.out wk (by omega) hwk');go_wp2_with fail;refine (CBw.out _ K.out).mono ?_;rintro ee w2 ⟨q,va,vb,rfl,h1,h2⟩;obtain ⟨A1,j1,c1,rfl,h1⟩:=Bi h1;obtain ⟨A2,j2,c2,rfl,h2⟩:=Bi h2;simp only [];obtain ⟨W2,hW2,kW2,BL,BH⟩:=Qi w2 (.bool (bnE d wk).1.neg) (.slice A1 j1 c1) (.int .i64 (bnE d wk).1.e) (.bool (bnE d wk).2.neg) (.slice A2 j2 c2) (.int .i64 (bnE d wk).2.e);have HW2:=hid hW2;have kk:=q.trans kW2;have lR:w.heap.size+1<w2.heap.size:=Nat.lt_of_lt_of_le HB.out.facts.1 q.size;have lW:w2.heap.size≤W2.heap.size:=kW2.size;replace K:=hid (K.out.trans kk)
     replace HA:=hid (HA.out.kept kk);replace HB:=hid (HB.out.kept kk);have HL:=hid BL;have HH:=hid BH;have ZL:=hid (h1.kept kW2);have ZH:=hid (h2.kept kW2);clear hW2 kW2 BL BH q h1 h2 kk CBw a0 a1 a2 x0 x1 x2 y0 y1 y2;replace C1:=hid (C1.out wk);replace C2:=hid (C2.out wk);replace CS:=hid (CS.out wk);generalize bnE d wk=lh at *;obtain ⟨lo,hi⟩:=lh;generalize hxe:exX d p wk up=x at *;generalize hye:exY d p wk up=y at *;clear hxe hye;go_upto_region 10 with fail;rw [←HW2.out];clear HW2;generalize w2.heap.size=b10 at *;have NN:∀ b:Nat,b∉([]:List Nat):=fun b=>by simp
     refine Ww (m:=14) (E:=fun i=>i==10||i==11||i==12||i==13) (G:=fun L u w'=>ExG W2.heap.size x y L u w') (J:=fun L w=>KB W2 [] w∧(fun L w'=>True) L w) (l:=[(vE (.int .i64 (p:Int))),(vE (.bool up)),(vE (.agg #[.int .i64 (p:Int),.bool up])),(vE (.agg #[.bool lo.neg,.slice A1 j1 c1,.int .i64 lo.e])),(fun v wv=>DyR wv v x.raw),(vE (.int .i64 (p:Int))),(vE (.bool up)),(vE (.agg #[.int .i64 (p:Int),.bool up])),(vE (.agg #[.bool hi.neg,.slice A2 j2 c2,.int .i64 hi.e])),(fun v wv=>DyR wv v y.raw),(fun v _=>∃ b,v=.pointer (some ⟨b,0,none⟩)),(fun v _=>∃ b,v=.pointer (some ⟨b,0,none⟩)),(fun v _=>True),(fun v _=>True)])
      (by kernel_rfl) (fun i hE L u v w w' k h=>by exact ExG.keep hE k h) (by exact ⟨fun e=>(by cases e),fun e=>(by cases e),fun e=>(by cases e),fun _=>rfl,fun _=>rfl⟩) rfl (by kernel_rfl) (by kernel_rfl) (by kernel_rfl) ⟨mE,mE,mE,mE,mD,mE,mE,mE,mE,mD,fun v w w' k h=>by first | exact h | exact h.kept k | exact ⟨h.1,h.2.kept k⟩,fun v w w' k h=>by first | exact h | exact h.kept k | exact ⟨h.1,h.2.kept k⟩,fun v w w' k h=>by first | exact h | exact h.kept k | exact ⟨h.1,h.2.kept k⟩,fun v w w' k h=>by first | exact h | exact h.kept k | exact ⟨h.1,h.2.kept k⟩,trivial⟩ ⟨(KB.refl _ _).drew,(by trivial)⟩ (⟨
        (.inl ⟨rfl,fun LF aF wF F=>by
      have FK:KB W2 [] wF:=F.frame.1;have fj:=F.frame.2;refine ⟨fun wq kq=>⟨FK.step kq,by trivial⟩,?_⟩;have s1:=F.q 1 (.int .i64 (p:Int))
      exact sv rfl⟩),
       (.inl ⟨rfl,fun LF aF wF F=>by
      have FK:KB W2 [] wF:=F.frame.1;have fj:=F.frame.2;refine ⟨fun wq kq=>⟨FK.step kq,by trivial⟩,?_⟩;have s2:=F.q 2 (.bool up)
      exact sv rfl⟩),
       (.inl ⟨rfl,fun LF aF wF F=>by
      have FK:KB W2 [] wF:=F.frame.1;have fj:=F.frame.2;refine ⟨fun wq kq=>⟨FK.step kq,by trivial⟩,?_⟩;have s42:=F.v 0 42;have s43:=F.v 1 43;simp only [Array.getD_eq_getD_getElem?] at s42;simp only [Array.getD_eq_getD_getElem?] at s43
      exact sv rfl⟩),
       (.inl ⟨rfl,fun LF aF wF F=>by
      have FK:KB W2 [] wF:=F.frame.1;have fj:=F.frame.2;refine ⟨fun wq kq=>⟨FK.step kq,by trivial⟩,?_⟩;have s10:=F.q 10 (.pointer (some ⟨b10,0,none⟩));have c0:=Cn HL.out FK (NN _) 0 _ rfl;have c1:=Cn HL.out FK (NN _) 1 _ rfl;have c2:=Cn HL.out FK (NN _) 2 _ rfl
      exact sv rfl⟩),
       (.inl ⟨rfl,fun LF aF wF F=>by
      have FK:KB W2 [] wF:=F.frame.1;have fj:=F.frame.2;refine ⟨fun wq kq=>⟨FK.step kq,by trivial⟩,?_⟩;have s44:=F.v 2 44;have s45:=F.v 3 45
      exact Av (by simp [Region.wanted]) (by go_simp) (C1.out _ _ (K.out.trans FK.nil) (ZL.out.kept FK.nil)) (fun _ _ h=>RetD.good h) (fun _ _ h=>h)⟩),
       (.inl ⟨rfl,fun LF aF wF F=>by
      have FK:KB W2 [] wF:=F.frame.1;have fj:=F.frame.2;refine ⟨fun wq kq=>⟨FK.step kq,by trivial⟩,?_⟩;have s1:=F.q 1 (.int .i64 (p:Int))
      exact sv rfl⟩),
       (.inl ⟨rfl,fun LF aF wF F=>by
      have FK:KB W2 [] wF:=F.frame.1;have fj:=F.frame.2;refine ⟨fun wq kq=>⟨FK.step kq,by trivial⟩,?_⟩;have s2:=F.q 2 (.bool up)
      exact sv rfl⟩),
       (.inl ⟨rfl,fun LF aF wF F=>by
      have FK:KB W2 [] wF:=F.frame.1;have fj:=F.frame.2;refine ⟨fun wq kq=>⟨FK.step kq,by trivial⟩,?_⟩;have s47:=F.v 5 47;have s48:=F.v 6 48;simp only [Array.getD_eq_getD_getElem?] at s47;simp only [Array.getD_eq_getD_getElem?] at s48
      exact sv rfl⟩),
       (.inl ⟨rfl,fun LF aF wF F=>by
      have FK:KB W2 [] wF:=F.frame.1;have fj:=F.frame.2;refine ⟨fun wq kq=>⟨FK.step kq,by trivial⟩,?_⟩;have s11:=F.q 11 (.pointer (some ⟨b10+1,0,none⟩));have c0:=Cn HH.out FK (NN _) 0 _ rfl;have c1:=Cn HH.out FK (NN _) 1 _ rfl;have c2:=Cn HH.out FK (NN _) 2 _ rfl
      exact sv rfl⟩),
       (.inl ⟨rfl,fun LF aF wF F=>by
      have FK:KB W2 [] wF:=F.frame.1;have fj:=F.frame.2;refine ⟨fun wq kq=>⟨FK.step kq,by trivial⟩,?_⟩;have s49:=F.v 7 49;have s50:=F.v 8 50
      exact Av (by simp [Region.wanted]) (by go_simp) (C2.out _ _ (K.out.trans FK.nil) (ZH.out.kept FK.nil)) (fun _ _ h=>RetD.good h) (fun _ _ h=>h)⟩),
       (.inr fun LF uF aF wF F FV=>by
      have FK:KB W2 [] wF:=F.frame.1;have fj:=F.frame.2
      exact G5 (by simp [Region.wanted]) (by go_simp) ⟨(FK.nil.trans (Ad _ _)).kb [],trivial⟩ (Bw _ ⟨.inr vS,.inr vS,.inr vS,.inr vS,.inr (fun u h=>by first | exact h.kept (Ad _ _) | exact h),.inr vS,.inr vS,.inr vS,.inr vS,.inr (fun u h=>by first | exact h.kept (Ad _ _) | exact h),.inl rfl,.inr (fun u h=>by first | exact h.kept (Ad _ _) | exact h),.inr (fun u h=>h),.inr (fun u h=>h),trivial⟩) ⟨_,rfl⟩ (FV.g.put10 FK.size F.yet)),
       (.inr fun LF uF aF wF F FV=>by
      have FK:KB W2 [] wF:=F.frame.1;have fj:=F.frame.2
      exact G5 (by simp [Region.wanted]) (by go_simp) ⟨(FK.nil.trans (Ad _ _)).kb [],trivial⟩ (Bw _ ⟨.inr vS,.inr vS,.inr vS,.inr vS,.inr (fun u h=>by first | exact h.kept (Ad _ _) | exact h),.inr vS,.inr vS,.inr vS,.inr vS,.inr (fun u h=>by first | exact h.kept (Ad _ _) | exact h),.inr (fun u h=>by first | exact h.kept (Ad _ _) | exact h),.inl rfl,.inr (fun u h=>h),.inr (fun u h=>h),trivial⟩) ⟨_,rfl⟩ (FV.g.put11 FK.size F.yet)),
       (.inr fun LF uF aF wF F FV=>by
      have FK:KB W2 [] wF:=F.frame.1;have fj:=F.frame.2;have s12:=F.p 10 12;have s46:=F.p 4 46
      obtain ⟨b,hb,hS,B0,-⟩:=FV.g.1 (F.wait 10 (by kernel_rfl));replace B0:=B0 F.yet;have e12:=(FV.eq 10 12 (by kernel_rfl) rfl).trans hb;clear s12;obtain ⟨A3,j3,c3,e46,z1⟩:=Bi s46;obtain ⟨-,y0,y1,y2,g0,g1,g2⟩:=B0.facts;exact Oe (w':=dyW wF b (.bool x.neg) (.slice A3 j3 c3) (.int .i64 x.e)) (by simp [Region.wanted]) (by go_simp;rfl) ⟨(Am FK.nil hS).kb [],trivial⟩ (Bw _ ⟨.inr vS,.inr vS,.inr vS,.inr vS,.inr (fun u h=>by first | exact h.dyW B0 (Ah _) (Ag _ _ _) (Af _) _ _ _ | exact h),.inr vS,.inr vS,.inr vS,.inr vS,.inr (fun u h=>by first | exact h.dyW B0 (Ah _) (Ag _ _ _) (Af _) _ _ _ | exact h),.inr (fun u h=>by first | exact h.dyW B0 (Ah _) (Ag _ _ _) (Af _) _ _ _ | exact h),.inr (fun u h=>by first | exact h.dyW B0 (Ah _) (Ag _ _ _) (Af _) _ _ _ | exact h),.inl rfl,.inr (fun u h=>h),trivial⟩) trivial (FV.g.put12 (F.wait 10 (by kernel_rfl)) hb hS B0 z1)),
       (.inr fun LF uF aF wF F FV=>by
      have FK:KB W2 [] wF:=F.frame.1;have fj:=F.frame.2;have s13:=F.p 11 13;have s51:=F.p 9 51
      obtain ⟨b,hb,hS,B0,-⟩:=FV.g.2.1 (F.wait 11 (by kernel_rfl));replace B0:=B0 F.yet;have e13:=(FV.eq 11 13 (by kernel_rfl) rfl).trans hb;clear s13;obtain ⟨A3,j3,c3,e51,z1⟩:=Bi s51;obtain ⟨-,y0,y1,y2,g0,g1,g2⟩:=B0.facts;exact Oe (w':=dyW wF b (.bool y.neg) (.slice A3 j3 c3) (.int .i64 y.e)) (by simp [Region.wanted]) (by go_simp;rfl) ⟨(Am FK.nil hS).kb [],trivial⟩ (Bw _ ⟨.inr vS,.inr vS,.inr vS,.inr vS,.inr (fun u h=>by first | exact h.dyW B0 (Ah _) (Ag _ _ _) (Af _) _ _ _ | exact h),.inr vS,.inr vS,.inr vS,.inr vS,.inr (fun u h=>by first | exact h.dyW B0 (Ah _) (Ag _ _ _) (Af _) _ _ _ | exact h),.inr (fun u h=>by first | exact h.dyW B0 (Ah _) (Ag _ _ _) (Af _) _ _ _ | exact h),.inr (fun u h=>by first | exact h.dyW B0 (Ah _) (Ag _ _ _) (Af _) _ _ _ | exact h),.inr (fun u h=>h),.inl rfl,trivial⟩) trivial (FV.g.put13 (F.wait 11 (by kernel_rfl)) hb hS B0 z1)),
       trivial⟩) ?_
     intro u w5 L1 hL j1 hu hg;obtain ⟨hgx,hgy,hgn,-,-⟩:=hg;replace hgx:=hgx (hL 10 (by decide));replace hgy:=hgy (hL 11 (by decide));rw [hL 12 (by decide)] at hgx;rw [hL 13 (by decide)] at hgy;obtain ⟨q5,j1⟩:=j1;have p46:=hp hu 4;have p51:=hp hu 9;have p12:=hp hu 10;have p13:=hp hu 11;simp only [Ay,An,if_true,Act.put,zlA,zlB,zlC,zlD,zlE,zlF,zlG,hv hu 0,hv hu 1,hv hu 2,hv hu 3,hv hu 5,hv hu 6,hv hu 7,hv hu 8];clear hu;generalize u 4=v46,u 9=v51,u 10=v12,u 11=v13 at *;obtain ⟨b12,rfl,hb12,-,hx⟩:=hgx;obtain ⟨b13,rfl,hb13,-,hy⟩:=hgy;obtain ⟨A3,j3,c3,BX,Z3⟩:=hx rfl;obtain ⟨A4,j4,c4,BY,Z4⟩:=hy rfl
     have lX:w.heap.size+1<b12:=by omega
     replace K:=hid (K.out.trans q5.nil);replace HA:=hid (HA.out.kept q5.nil);replace HB:=hid (HB.out.kept q5.nil);have HX:=hid BX;have HY:=hid BY;replace Z3:=hid Z3;replace Z4:=hid Z4;clear hx hy BX BY q5 j1 hL hgn p46 p51 p12 p13 HL HH ZL ZH C1 C2;obtain ⟨-,a0,a1,a2,-⟩:=HX.out.facts;obtain ⟨-,x0,x1,x2,-⟩:=HY.out.facts;go_wp2_with fail;refine (CS.out _ _ _ Z3.out Z4.out).mono ?_;rintro ee w6 ⟨rfl,q⟩;simp only [];replace K:=hid (K.out.trans q);replace HA:=hid (HA.out.kept q);replace HB:=hid (HB.out.kept q);replace HX:=hid (HX.out.kept q);replace Z3:=hid (Z3.out.kept q);clear q a0 a1 a2 x0 x1 x2 HY Z4 CS
     cases hsm:J1 x.raw y.raw with
     | true =>
       rw [hsm,if_pos rfl] at HE;have ho:=HE.out;subst ho;clear HE;obtain ⟨-,a0,a1,a2,-⟩:=HX.out.facts;obtain ⟨-,x0,x1,x2,y0,y1,y2⟩:=HB.out.facts;go_wp2_with fail;rw [Exit.noGoto_ret];exact Dv (HB.out.laid _ _ _) rfl rfl rfl ⟨Am K.out (by omega),_,rfl,Z3.out.dyW HB.out (Ah _) (Ag _ _ _) (Af _) _ _ _⟩
     | false =>
       rw [hsm,if_neg (by decide)] at HE;go_wp2_with fail;exact ⟨⟨f,wk+wk/2,congrArg (Value.int .i64) (by omega),by omega,by omega,HE.out,by omega,K.out,HA.out,HB.out⟩,by simp [intOf];omega⟩
theorem Akm:far.q=64:=by
 have h:pw 6=((2^6:Nat):Rat):=Hz 6
 show (1:Rat)*pw 6=64
 rw [h,Rat.one_mul];rfl
theorem Afh {m:Nat}{e:Int}(h0:m≠0)(h:(m:Rat)*pw e≤64):(bl m:Int)+e≤7:=by
 by_cases hc:(bl m:Int)+e≤7
 ·exact hc
 ·exfalso;have hp:=Ct m h0;have h2:pw ((bl m-1:Nat):Int)≤(m:Rat):=by rw [Hz];exact Rat.natCast_le_natCast.2 (Dg m h0)
  have h3:pw ((bl m-1:Nat):Int)*pw e≤(m:Rat)*pw e:=Rat.mul_le_mul_of_nonneg_right h2 (Db e);rw [←Ef] at h3;have h4:pw 7≤pw (((bl m-1:Nat):Int)+e):=Fj (by omega);have h5:pw 7=128:=(Hz 7).trans (by rfl);grind
theorem Nf {d:Dy}{p:Int}(h:E4 d.raw p=0):-400≤d.e∧(d.m≠0→Ba (Cv d)≤7):=by
 unfold E4 at h;split at h
 ·split at h
  ·rename_i h1 h2;split at h
   ·exact absurd h (by decide)
   ·rename_i h3;refine ⟨by have:d.raw.e=d.e:=rfl;omega,fun h0=>?_⟩;simp only [Bool.and_eq_true,decide_eq_true_eq,Dy.raw_dy] at h2;have a:=Ke.1 h2.1;have b:=Pz.1 h2.2;rw [Aeb] at b;rw [Akm] at a b;refine Afh h0 ?_
    show (d.m:Rat)*pw d.e≤64
    unfold Dy.q sq at a b;cases hn:d.neg<;>simp only [hn] at a b<;>grind
  ·exact absurd h (by decide)
 ·exact absurd h (by decide)
theorem P7 {d:Dy}(ok:d.Ok)(hz:d.m≠0)(h:-400≤d.e∧(d.m≠0→Ba (Cv d)≤7)){wk:Nat}(h1:1≤wk)(h2:wk≤2000)(up:Bool):Fm wk up (Gh (Cv d)) 400 1 one one=some (Ek wk up d):=by
 obtain ⟨a,b,c⟩:=Qh (d:=Cv d) hz (Da d.m 64 ok.len) h.1 (h.2 hz);obtain ⟨o,ho⟩:=Yo (up:=up) h1 h2 a b c;unfold Ek;rw [ho];rfl
theorem Ad9 (p:Nat)(up:Bool)(d:Dy):(Ek p up d).1.Ok∧(Ek p up d).2.Ok:=by
 unfold Ek;cases h:Fm p up (Gh (Cv d)) 400 1 one one with
 | none=>exact ⟨Hm,Hm⟩
 | some o=>exact Lu _ _ _ _ h Hm Hm
theorem Aip (d:Dy)(w:Nat):(bnE d w).1.Ok∧(bnE d w).2.Ok:=by
 have h:∀ up,(Hy w up d (Ek w up d)).Ok:=fun up=>Qb _ _ _ _ (N4 (Ad9 _ _ _))
 unfold bnE K7;split
 ·exact ⟨(Iy _ _ _ _).1,(Iy _ _ _ _).1⟩
 ·exact ⟨h _,h _⟩
theorem Aay {w:World}{v:Value}{d:Dy}{p:Nat}{up:Bool}(hv:DyR w v d.raw)(ok:d.Ok)(p1:1≤p)(p2:p≤300)(hT:Tab w) :
 Calls Tryz.prog 144 #[v,.int .i64 (p:Int),.bool up] w (RetE (Fq d p up).raw w):=by
 unfold Fq;by_cases h0:E4 d.raw p=0
 ·rw [if_neg (by simpa using h0)];by_cases hz:d.m=0
  ·rw [if_pos hz];exact Aht hv ok hT h0 hz
  ·rw [if_neg hz];have hm:=Nf h0;exact Ahv hv ok p1 p2 hT h0 hz (fun wk a b w1 k=>Acf (hv.kept k) ok a b (hT.kept k) (P7 ok hz hm a b false) (P7 ok hz hm a b true) (by decide)) (Aip d)
 ·rw [if_pos h0];have h:=Ahu (up:=up) hv (by have:=Dr ok;omega) hT h0;have e:(bad (E4 d.raw p):Outc Dy).raw=⟨rz,E4 d.raw p⟩:=by show Outc.mk dz.raw _=_;rw [Ez];rfl
  rw [e];exact h
def sqn (x:Rat):Nat→Rat
 | 0=>x
 | k+1=>sqn (x*x) k
theorem Ht:∀ (k:Nat) {x y:Rat},0≤x→x≤y→sqn x k≤sqn y k
 | 0,_,_,_,h=>h
 | k + 1, x, y, h0, h => by
   refine Ht k (Rat.mul_nonneg h0 h0) ?_;have h1:=Rat.mul_le_mul_of_nonneg_left h h0;have h2:=Rat.mul_le_mul_of_nonneg_right h (Rat.le_trans h0 h);exact Rat.le_trans h1 h2
theorem Aap:∀ k,sqn 1 k=1
 | 0=>rfl
 | k + 1 => by
   show sqn (1*1) k=1
   rw [Rat.mul_one];exact Aap k
theorem Ajv {x:Rat}(k:Nat)(h:1≤x):1≤sqn x k:=by
 have h2:=Ht k (show (0:Rat)≤1 by decide) h;rwa [Aap] at h2
theorem Agd {x:Rat}(h:0≤x)(n:Nat):eS x n≤eS (x*pw (-1)) n*eS (x*pw (-1)) n:=by
 have e:=Wl;have h1:0≤x*pw (-1):=Rat.mul_nonneg h (Db _);have h2:=Ai2 h1 h1 n;have h3:x*pw (-1)+x*pw (-1)=x:=by rw [e];grind
 rwa [h3] at h2
theorem Sx {x:Rat}(h:0≤x)(n k:Nat):∀ i:Nat,sqn (eS x n) k≤sqn (eS (x*pw (-(i:Int))) n) (k+i)
 | 0 => by
   have e:x*pw (-((0:Nat):Int))=x:=by
    rw [show (-((0:Nat):Int))=0 from rfl,F1,Rat.mul_one]
   rw [e];exact Rat.le_refl
 | i + 1 => by
   have h1:=Sx h n k i;have h0:0≤x*pw (-(i:Int)):=Rat.mul_nonneg h (Db _);have h2:=Ht (k+i) (Oq h0 n) (Agd h0 n);have e:x*pw (-(i:Int))*pw (-1)=x*pw (-((i+1:Nat):Int)):=by
    rw [Rat.mul_assoc,←Ef]
    congr 2
    omega
   rw [e] at h2;exact Rat.le_trans h1 h2
theorem Aiq {d:Dy}(h0:d.m≠0)(hl:bl d.m≤4096)(h1:-400≤d.e)(h2:Ba d≤7):(Gh d).q=d.q*pw (-(Cm d:Int))∧(Gh d).neg=d.neg∧Ba (Gh d)=Ba d-(Cm d:Int):=by
 have hp:=Ct _ h0;have h2':=h2;unfold Ba at h2';have hK:(Cm d:Int)=max (Ba d+8) 0:=by unfold Cm;omega
 have hz:=Ma _ _ h0 (Bc d.m);have ek:(F5 d (-(Cm d:Int)))=Bt d.neg d.m (d.e+-(Cm d:Int)):=by
  unfold F5;rw [if_neg h0,if_neg (by omega)]
 obtain ⟨a,b⟩:=Ll (neg:=d.neg) (n:=d.m) (e:=d.e+-(Cm d:Int)) h0 (by omega) (by omega) (by omega);obtain ⟨c,f,g⟩:=Fs (neg:=d.neg) (n:=d.m) (e:=d.e+-(Cm d:Int)) h0 (by omega) (by omega) (by omega);refine ⟨Aez (by rw [ek];exact a),?_,?_⟩
 ·unfold Gh;rw [ek];exact b
 ·unfold Gh;rw [ek,f];unfold Ba;omega
def eP (a:Dy) (n:Nat):Rat:=sqn (eS (Gh a).q n) (Cm a)
structure ExN (a:Dy):Prop where
 m:a.m≠0
 neg:a.neg=false
 len:bl a.m≤4096
 e:-400≤a.e
 top:Ba a≤7
theorem ExN.r {a:Dy}(h:ExN a):(Gh a).q=a.q*pw (-(Cm a:Int))∧(Gh a).neg=false∧Ba (Gh a)=Ba a-(Cm a:Int)∧(Gh a).m≠0∧-500≤(Gh a).e∧Ba (Gh a)≤-8:=by
 obtain ⟨b1,b2,b3⟩:=Aiq h.m h.len h.e h.top;obtain ⟨c1,c2,c3⟩:=Qh h.m h.len h.e h.top;exact ⟨b1,b2.trans h.neg,b3,c1,c2,c3⟩
theorem ExN.pos {a:Dy}(h:ExN a):0<a.q:=Wn h.m h.neg
theorem ExN.rpos {a:Dy}(h:ExN a):0≤(Gh a).q:=by
 rw [h.r.1];exact Rat.mul_nonneg (Rat.le_of_lt h.pos) (Db _)
theorem Ah6 {a:Dy}(h:ExN a){n:Nat}(hn:1≤n):1≤eP a n:=Ajv _ (Ai3 h.rpos hn)
theorem Zp {a b:Dy}(ha:ExN a)(hb:ExN b)(h:a.q≤b.q)(n:Nat):eP a n≤eP b n:=by
 have ht:Ba a≤Ba b:=by
  have h1:=(Jd ha.m ha.neg).1;have h2:=(Jd hb.m hb.neg).2;have h3:pw (Ba a-1)<pw (Ba b):=by grind
  have:=Gz h3;omega
 have hk:Cm a≤Cm b:=by unfold Cm;omega
 unfold eP;obtain ⟨i,hi⟩:∃ i:Nat,Cm b=Cm a+i:=⟨Cm b-Cm a,by omega⟩;rw [ha.r.1,hb.r.1,hi];have h1:a.q*pw (-(Cm a:Int))≤b.q*pw (-(Cm a:Int)):=Rat.mul_le_mul_of_nonneg_right h (Db _);have h0:0≤a.q*pw (-(Cm a:Int)):=Rat.mul_nonneg (Rat.le_of_lt ha.pos) (Db _);have h2:=Ht (Cm a) (Oq h0 n) (Age h0 h1 n);have h3:=Sx (Rat.le_trans h0 h1) n (Cm a) i;have e:b.q*pw (-(Cm a:Int))*pw (-(i:Int))=b.q*pw (-((Cm a+i:Nat):Int)):=by
  rw [Rat.mul_assoc,←Ef]
  congr 2
  omega
 rw [e] at h3;exact Rat.le_trans h2 h3
def EL (d:Dy) (y:Rat):Prop:=if d.m=0 then y≤1 else if d.neg then ∃ c,1≤c∧(∀ n,eP (Cv d) n≤c)∧y*c≤1 else ∃ n,1≤n∧y≤eP (Cv d) n
def EU (d:Dy) (y:Rat):Prop:=if d.m=0 then 1≤y else if d.neg then 0<y∧∃ n,1≤y*eP (Cv d) n else ∀ n,eP (Cv d) n≤y
theorem Tw {d:Dy}:d.q=if d.neg then -(Cv d).q else (Cv d).q:=by
 unfold Dy.q sq Cv;cases d.neg
 ·simp
 ·simp [Rat.neg_mul]
def ExM (d:Dy):Prop:=d.m≠0→ExN (Cv d)
theorem Ach   {d d':Dy}{y y':Rat}(hd:ExM d)(hd':ExM d')(h:d.q≤d'.q)(hl:EL d y)(hu:EU d' y'):y≤y':=by
 have q0:∀ {d:Dy},d.m=0→d.q=0:=fun h=>Nn h
 unfold EL at hl;unfold EU at hu;by_cases h1:d.m=0
 ·rw [if_pos h1] at hl;by_cases h2:d'.m=0
  ·rw [if_pos h2] at hu;exact Rat.le_trans hl hu
  ·rw [if_neg h2] at hu;have n2:=hd' h2;cases hn:d'.neg with
   | true =>
     exfalso;have e:=Tw (d:=d');rw [hn,if_pos rfl] at e;have:=n2.pos;rw [q0 h1,e] at h;grind
   | false =>
     rw [hn,if_neg (by decide)] at hu;exact Rat.le_trans hl (Rat.le_trans (Ah6 n2 (Nat.le_refl 1)) (hu 1))
 ·rw [if_neg h1] at hl;have n1:=hd h1;have e1:=Tw     (d:=d);have p1:=n1.pos;cases hn1:d.neg with
  | true =>
    rw [hn1,if_pos rfl] at hl e1;obtain ⟨c,c1,c2,c3⟩:=hl;have hy:y≤1:=by
     rcases Rat.le_total (a:=y) (b:=0) with hy0 | hy0
     ·exact Rat.le_trans hy0 (by decide)
     ·have:=Rat.mul_le_mul_of_nonneg_left c1 hy0;rw [Rat.mul_one] at this;exact Rat.le_trans this c3
    by_cases h2:d'.m=0
    ·rw [if_pos h2] at hu;exact Rat.le_trans hy hu
    ·rw [if_neg h2] at hu;have n2:=hd' h2;cases hn:d'.neg with
     | true =>
       rw [hn,if_pos rfl] at hu;obtain ⟨u1,n,u2⟩:=hu;have e2:=Tw (d:=d');rw [hn,if_pos rfl] at e2;have h3:(Cv d').q≤(Cv d).q:=by
        rw [e1,e2] at h;grind
       have h4:=Rat.le_trans (Zp n2 n1 h3 n) (c2 n);have h5:=Rat.mul_le_mul_of_nonneg_left h4 (Rat.le_of_lt u1);have h6:y*c≤y'*c:=Rat.le_trans c3 (Rat.le_trans u2 h5);have h7:0<c:=by grind
       have h8:0<c⁻¹:=Rat.inv_pos.2 h7;have h9:c*c⁻¹=1:=Rat.mul_inv_cancel _ (by grind);have h10:=Rat.mul_le_mul_of_nonneg_right h6 (Rat.le_of_lt h8);rwa [Rat.mul_assoc,Rat.mul_assoc,h9,Rat.mul_one,Rat.mul_one] at h10
     | false =>
       rw [hn,if_neg (by decide)] at hu;exact Rat.le_trans hy (Rat.le_trans (Ah6 n2 (Nat.le_refl 1)) (hu 1))
  | false =>
    rw [hn1,if_neg (by decide)] at hl e1;obtain ⟨n,hn0,hl⟩:=hl;by_cases h2:d'.m=0
    ·exfalso;rw [q0 h2,e1] at h;grind
    ·rw [if_neg h2] at hu;have n2:=hd' h2;have e2:=Tw (d:=d');have p2:=n2.pos;cases hn:d'.neg with
     | true =>
       exfalso;rw [hn,if_pos rfl] at e2;rw [e1,e2] at h;grind
     | false =>
       rw [hn,if_neg (by decide)] at hu e2;rw [e1,e2] at h;exact Rat.le_trans hl (Rat.le_trans (Zp n1 n2 h n) (hu n))
def ExpS (d:Dy) (p:Nat) (up:Bool) (z:Dy):Prop:=∃ lo hi,EL d lo∧EU d hi∧Il up p lo z.q∧Il up p hi z.q
theorem ExpS.order {d d':Dy}{p p':Nat}{z z':Dy}(hd:ExM d)(hd':ExM d')(h:d.q≤d'.q)(a:ExpS d p false z)(b:ExpS d' p' true z'):z.q≤z'.q:=by
 obtain ⟨lo,hi,a1,a2,a3,a4⟩:=a;obtain ⟨lo',hi',b1,b2,b3,b4⟩:=b;exact Rat.le_trans (IsDown.le a3) (Rat.le_trans (Ach hd hd' h a1 b2) (IsUp.le b4))
theorem ExpS.down {d d':Dy}{p p':Nat}{z z':Dy}(hd:ExM d)(hd':ExM d')(h:d.q≤d'.q)(hp:p≤p')(a:ExpS d p false z)(b:ExpS d' p' false z'):z.q≤z'.q:=by
 obtain ⟨lo,hi,a1,a2,a3,a4⟩:=a;obtain ⟨lo',hi',b1,b2,b3,b4⟩:=b;exact IsDown.mono a3 b4 hp (Ach hd hd' h a1 b2)
theorem ExpS.up {d d':Dy}{p p':Nat}{z z':Dy}(hd:ExM d)(hd':ExM d')(h:d.q≤d'.q)(hp:p'≤p)(a:ExpS d p true z)(b:ExpS d' p' true z'):z.q≤z'.q:=by
 obtain ⟨lo,hi,a1,a2,a3,a4⟩:=a;obtain ⟨lo',hi',b1,b2,b3,b4⟩:=b;exact IsUp.mono b4 a3 hp (Ach hd hd' h a1 b2)
structure Nm (p:Nat) (B:Int) (x:Dy):Prop where
 m:x.m≠0
 neg:x.neg=false
 b:bl x.m≤p
 lo:-B≤Ba x
 hi:Ba x≤B
theorem Nm.pos {p:Nat}{B:Int}{x:Dy}(h:Nm p B x):0<x.q:=Wn h.m h.neg
theorem Rn {p:Nat}{B:Int}{up:Bool}{d:Dy}(p1:1≤p)(p2:p≤2000)(h0:d.m≠0)(hn:d.neg=false)(h1:-1000000≤d.e)(h2:Ba d≤B)(h3:-B≤Ba d)(hB:B≤1000000) :
 Nm p (B+1) (G4 p up d)∧Il up p d.q (G4 p up d).q:=by
 obtain ⟨a,b,c,e⟩:=Rm (up:=up) p1 p2 h0 h1 (by omega);obtain ⟨t1,t2⟩:=Jd h0 hn;have hb:=b.trans hn;have u1:=Li a (Hb p1 (Ba d-1)) t1;have u2:=Kg a (Hb p1 (Ba d)) (Rat.le_of_lt t2);have:=U8 c hb u1;have:=Y9 c hb u2;exact ⟨⟨c,hb,e,by omega,by omega⟩,a⟩
theorem Ajk {p:Nat}{x:Dy}{B:Int}(p2:p≤2000)(h:Nm p B x)(hB:B≤200000):(Ch x x).v.m≠0∧(Ch x x).v.neg=false∧(Ch x x).v.q=x.q*x.q∧Ba (Ch x x).v≤2*Ba x∧2*Ba x-1≤Ba (Ch x x).v∧-900000≤(Ch x x).v.e:=by
 have hlo:=h.lo;have hhi:=h.hi;have hb:=h.b;have hp:=Ct _ h.m;unfold Ba at hlo hhi;have hz:=Nat.mul_ne_zero h.m h.m;have h1:=Ga (Nat.le_refl (bl x.m)) (Nat.le_refl (bl x.m));have h2:=Oy h.m h.m;have h3:=Ma _ _ hz (Bc _);obtain ⟨a,b⟩:=Ll (neg:=x.neg != x.neg) (e:=x.e+x.e) hz (by omega) (by omega) (by omega);obtain ⟨c,f,g⟩:=Fs (neg:=x.neg != x.neg) (e:=x.e+x.e) hz (by omega) (by omega) (by omega);have f':Ba (Ch x x).v=(bl (x.m*x.m):Int)+(x.e+x.e):=f;have g':bl (Ch x x).v.m=bl (x.m*x.m)-tz (x.m*x.m):=g;refine ⟨c,?_,Up a,?_,?_,?_⟩
 ·refine Eq.trans b ?_;cases x.neg<;>rfl
 ·rw [f'];unfold Ba;omega
 ·rw [f'];unfold Ba;omega
 ·unfold Ba at f';omega
theorem Ae2 {p:Nat}{up:Bool}{x:Dy}{B:Int}(p1:1≤p)(p2:p≤2000)(h:Nm p B x)(hB:B≤200000):Nm p (2*B+2) (Rx p up x)∧Il up p (x.q*x.q) (Rx p up x).q:=by
 obtain ⟨a,b,c,d,e,f⟩:=Ajk p2 h hB;have hlo:=h.lo;have hhi:=h.hi;obtain ⟨g1,g2⟩:=Rn (B:=2*B+1) (up:=up) p1 p2 a b (by omega) (by omega) (by omega) (by omega);rw [c] at g2;exact ⟨⟨g1.m,g1.neg,g1.b,by have:=g1.lo;show _≤Ba (G4 p up (Ch x x).v);omega,by have:=g1.hi;show Ba (G4 p up (Ch x x).v)≤_;omega⟩,g2⟩
theorem U4 {p:Nat}{up:Bool}(p1:1≤p)(p2:p≤2000):∀ (k:Nat) (x:Dy) (B:Int),k≤15→B+2≤2^(17-k)→Nm p B x→1≤x.q →
 Nm p 200000 (Le p up k x)∧1≤(Le p up k x).q∧(if up then sqn x.q k≤(Le p up k x).q else (Le p up k x).q≤sqn x.q k)
 | 0, x, B, _, hB, h, h1 => by
   have hB':B+2≤131072:=by simpa using hB
   refine ⟨⟨h.m,h.neg,h.b,?_,?_⟩,h1,?_⟩
   ·have:=h.lo
    show _≤Ba x
    omega
   ·have:=h.hi
    show Ba x≤_
    omega
   ·cases up
    ·exact Rat.le_refl
    ·exact Rat.le_refl
 | k + 1, x, B, hk, hB, h, h1 => by
   have e:(17-k:Nat)=17-(k+1)+1:=by omega
   have hB2:(2*B+2)+2≤2^(17-k):=by
    rw [e,Int.pow_succ];omega
   have hBm:B≤200000:=by
    have h2:(2:Int)^(17-(k+1))≤2^17:=by
     have:=Nat.pow_le_pow_right (show 0<2 by decide) (show 17-(k+1)≤17 by omega)
     exact_mod_cast this
    have h3:(2:Int)^17=131072:=by decide
    omega
   obtain ⟨g1,g2⟩:=Ae2 (up:=up) p1 p2 h hBm;have hx:1≤x.q*x.q:=by
    have:=Rat.mul_le_mul_of_nonneg_left h1 (Rat.le_trans (show (0:Rat)≤1 by decide) h1);grind
   have h1':=Li g2 (Ft p1) hx;obtain ⟨i1,i2,i3⟩:=U4 p1 p2 k (Rx p up x) (2*B+2) (by omega) hB2 g1 h1';refine ⟨i1,i2,?_⟩;cases up with
   | true =>
     have i3':sqn (Rx p true x).q k≤(Le p true k (Rx p true x)).q:=i3
     show sqn (x.q*x.q) k≤(Le p true k (Rx p true x)).q
     exact Rat.le_trans (Ht k (Rat.le_trans (show (0:Rat)≤1 by decide) hx) (IsUp.le g2)) i3'
   | false =>
     have i3':(Le p false k (Rx p false x)).q≤sqn (Rx p false x).q k:=i3
     show (Le p false k (Rx p false x)).q≤sqn (x.q*x.q) k
     exact Rat.le_trans i3' (Ht k (Rat.le_trans (show (0:Rat)≤1 by decide) h1') (IsDown.le g2))
theorem Ais {p:Nat}{d:Dy}(p1:17≤p)(p2:p≤2000)(h:ExN (Cv d))(hn:Fm p false (Gh (Cv d)) 400 1 one one=some (Ek p false d)) :
 (Hy p false d (Ek p false d)=dz)∨(Nm p 200000 (Hy p false d (Ek p false d))∧1≤(Hy p false d (Ek p false d)).q∧∃ n,1≤n∧(Hy p false d (Ek p false d)).q≤eP (Cv d) n):=by
 obtain ⟨r1,r2,r3,r4,r5,r6⟩:=h.r;have hg:Qd p (Gh (Cv d)) (Ic p false (Ek p false d)):=Ur (up:=false) p1 p2 r4 r2 r5 r6 400 1 one one _ (NI.start (by omega)) (by decide) (by decide) hn;obtain ⟨g,n,hn1,hn2⟩:=hg;unfold Hy;have hK:Cm (Cv d)≤15:=by have:=h.top;unfold Cm;omega
 generalize Ic p false (Ek p false d)=x at *;rcases g with ⟨g1,g2⟩ | ⟨g1,g2,g3,g4,g5⟩
 ·left
  have hk0:Cm (Cv d)=0:=by
   have hk:(Cm (Cv d):Int)=max (Ba (Cv d)+8) 0:=by unfold Cm;omega
   omega
  rw [hk0,g1];rfl
 ·right
  have ht:=Aat g1 g2 g4 g5;have hB:(2:Int)+2≤2^(17-Cm (Cv d)):=by
   have:=Nat.pow_le_pow_right (show 0<2 by decide) (show 2≤17-Cm (Cv d) by omega);have h2:((2^2:Nat):Int)≤((2^(17-Cm (Cv d)):Nat):Int):=by exact_mod_cast this
   have h3:((2^(17-Cm (Cv d)):Nat):Int)=(2:Int)^(17-Cm (Cv d)):=by norm_cast
   omega
  obtain ⟨i1,i2,i3⟩:=U4 (up:=false) (by omega) p2 (Cm (Cv d)) x 2 hK hB ⟨g1,g2,g3,by omega,by omega⟩ g4;refine ⟨i1,i2,n,hn1,?_⟩;have i3':(Le p false (Cm (Cv d)) x).q≤sqn x.q (Cm (Cv d)):=i3;exact Rat.le_trans i3' (Ht _ (Rat.le_trans (show (0:Rat)≤1 by decide) g4) hn2)
theorem Air {p:Nat}{d:Dy}(p1:17≤p)(p2:p≤2000)(h:ExN (Cv d))(hn:Fm p true (Gh (Cv d)) 400 1 one one=some (Ek p true d)) :
 Nm p 200000 (Hy p true d (Ek p true d))∧((Hy p true d (Ek p true d)).q≤1/2∨(1≤(Hy p true d (Ek p true d)).q∧∀ n,eP (Cv d) n≤(Hy p true d (Ek p true d)).q)):=by
 obtain ⟨r1,r2,r3,r4,r5,r6⟩:=h.r;have hg:Qc p (Gh (Cv d)) (Ic p true (Ek p true d)):=Ur (up:=true) p1 p2 r4 r2 r5 r6 400 1 one one _ (NI.start (by omega)) (by decide) (by decide) hn;obtain ⟨g1,g2,g3,g⟩:=hg;unfold Hy;have hK:Cm (Cv d)≤15:=by have:=h.top;unfold Cm;omega
 generalize Ic p true (Ek p true d)=x at *;rcases g with ⟨g4,g5,g6⟩ | ⟨g4,g5,g6⟩
 ·have hk0:Cm (Cv d)=0:=by
   have hk:(Cm (Cv d):Int)=max (Ba (Cv d)+8) 0:=by unfold Cm;omega
   omega
  rw [hk0];have ht:Ba x≤0:=by
   have e:=Wl;have:=Y9 (c:=-1) g1 g2 (by rw [e];exact g5);omega
  refine ⟨⟨g1,g2,g3,?_,?_⟩,.inl g5⟩
  ·show _≤Ba x
   omega
  ·show Ba x≤_
   omega
 ·have ht:=Aat g1 g2 g4 g5;have hB:(2:Int)+2≤2^(17-Cm (Cv d)):=by
   have:=Nat.pow_le_pow_right (show 0<2 by decide) (show 2≤17-Cm (Cv d) by omega);have h2:((2^2:Nat):Int)≤((2^(17-Cm (Cv d)):Nat):Int):=by exact_mod_cast this
   have h3:((2^(17-Cm (Cv d)):Nat):Int)=(2:Int)^(17-Cm (Cv d)):=by norm_cast
   omega
  obtain ⟨i1,i2,i3⟩:=U4 (up:=true) (by omega) p2 (Cm (Cv d)) x 2 hK hB ⟨g1,g2,g3,by omega,by omega⟩ g4;refine ⟨i1,.inr ⟨i2,fun n=>?_⟩⟩;have i3':sqn x.q (Cm (Cv d))≤(Le p true (Cm (Cv d)) x).q:=i3;exact Rat.le_trans (Ht _ (Oq h.rpos n) (g6 n)) i3'
theorem Uk {a b:Rat}(h0:0<a)(h:a≤b):1/b≤1/a:=by
 have hb:0<b:=by grind
 have ia:0<a⁻¹:=Rat.inv_pos.2 h0;have ib:0<b⁻¹:=Rat.inv_pos.2 hb;have ea:a*a⁻¹=1:=Rat.mul_inv_cancel _ (by grind);have eb:b*b⁻¹=1:=Rat.mul_inv_cancel _ (by grind);have h1:=Rat.mul_le_mul_of_nonneg_right h (Rat.le_of_lt (Rat.mul_pos ia ib));rw [Rat.div_def,Rat.div_def,Rat.one_mul,Rat.one_mul];have e1:a*(a⁻¹*b⁻¹)=b⁻¹:=by rw [←Rat.mul_assoc,ea,Rat.one_mul]
 have e2:b*(a⁻¹*b⁻¹)=a⁻¹:=by rw [Rat.mul_comm a⁻¹ b⁻¹,←Rat.mul_assoc,eb,Rat.one_mul]
 rwa [e1,e2] at h1
theorem Ai8 (c:Int):1/pw c=pw (-c):=by
 have h:=Ng c;have h0:=G0 c;have e:pw c*(pw c)⁻¹=1:=Rat.mul_inv_cancel _ (by grind);rw [Rat.div_def,Rat.one_mul];have h1:pw c*(pw c)⁻¹=pw c*pw (-c):=by rw [e,h]
 grind
theorem Aib {p:Nat}{up:Bool}{b:Dy}(p1:1≤p)(p2:p≤2000)(h:Nm p 200000 b) :
 Nm p 200010 (Cf one b p up).v∧Il up p (1/b.q) (Cf one b p up).v.q∧-300000≤(Cf one b p up).v.e:=by
 have b1:=h.m;have hlo:=h.lo;have hhi:=h.hi;have hb:=h.b;have hbb:=Ct _ b1;have o1:one.m≠0:=by decide
 have ob:bl one.m=1:=by decide
 have oe:one.e=0:=rfl;unfold Ba at hlo hhi;have ez:Cf one b p up=Bq one b p up:=by
  unfold Cf;rw [if_neg b1]
 rw [ez];have hK:Bu one b p=p+1+bl b.m-bl one.m:=rfl;have hq:=P8 one.m b.m p o1 b1 (Bu one b p) (by omega);have hk:bl (2^Bu one b p)≤Bu one b p+1:=E7 _ _ (Nat.pow_lt_pow_right (by decide) (by omega));have hm2:=Ga (Nat.le_refl (bl one.m)) hk;have hd:=Ty (x:=one.m*2^Bu one b p) b1;have hz:one.m*2^Bu one b p/b.m≠0:=by intro h;rw [h,Gg] at hq;omega
 obtain ⟨x,y,z⟩:=Xw (neg:=one.neg != b.neg) (rest:=decide (¬one.m*2^Bu one b p%b.m=0)) (up:=up) (e:=one.e-b.e-Bu one b p) hz p1 p2 (by omega) (by omega);obtain ⟨x',y',z'⟩:=Qp (neg:=one.neg != b.neg) (rest:=decide (¬one.m*2^Bu one b p%b.m=0)) (up:=up) (e:=one.e-b.e-Bu one b p) hz p1 p2 (by omega) (by omega);have hneg:(Bq one b p up).v.neg=false:=by
  refine Eq.trans y ?_;rw [h.neg];rfl
 have hdir:Il up p (1/b.q) (Bq one b p up).v.q:=by
  have:=Mm (up:=up) p1 b1 x;rwa [Re] at this
 have hm':(Bq one b p up).v.m≠0:=x';have hb':bl (Bq one b p up).v.m≤p:=y';obtain ⟨t1,t2⟩:=Jd b1 h.neg;have u1:=Uk (G0 _) t1;have u2:=Uk h.pos (Rat.le_of_lt t2);rw [Ai8] at u1 u2;have v1:=U8 hm' hneg (Li hdir (Hb p1 _) u2);have v2:=Y9 hm' hneg (Kg hdir (Hb p1 _) u1);have hlo':=h.lo;have hhi':=h.hi;have e3:Ba (Bq one b p up).v=(bl (Bq one b p up).v.m:Int)+(Bq one b p up).v.e:=rfl;exact ⟨⟨hm',hneg,hb',by omega,by omega⟩,hdir,by omega⟩
theorem Aev {a b:Dy}(h:J1 a.raw b.raw=true):a=b:=by
 unfold J1 Dy.raw at h;simp only [Bool.and_eq_true,beq_iff_eq] at h;obtain ⟨⟨h1,h2⟩,h3⟩:=h;have h4:a.m=b.m:=by
  have:=congrArg val h3;rwa [Bz,Bz] at this
 cases a;cases b;simp only at h1 h2 h4;subst h1 h2 h4;rfl
theorem Nm.e {p:Nat}{B:Int}{x:Dy}(h:Nm p B x):-B-p≤x.e:=by
 have h1:=h.lo;have h2:=h.b;unfold Ba at h1;omega
theorem Y6 {d:Dy}{p w:Nat}{up:Bool}(ok:d.Ok)(p1:1≤p)(p2:p≤300)(w1:17≤w)(w2:w≤2000)(hz:d.m≠0)(hd:-400≤d.e∧(d.m≠0→Ba (Cv d)≤7))(hs:exX d p w up=exY d p w up):ExpS d p up (exX d p w up):=by
 have hN:ExN (Cv d):=⟨hz,rfl,Da d.m 64 ok.len,hd.1,hd.2 hz⟩;have lo:=Ais w1 w2 hN (P7 ok hz hd (by omega) w2 false);have hi:=Air w1 w2 hN (P7 ok hz hd (by omega) w2 true);have eX:exX d p w up=G4 p up (bnE d w).1:=rfl;have eY:exY d p w up=G4 p up (bnE d w).2:=rfl;have eB:bnE d w=K7 w d (Hy w false d (Ek w false d)) (Hy w true d (Ek w true d)):=rfl;generalize Hy w false d (Ek w false d)=L at *;generalize Hy w true d (Ek w true d)=H at *;obtain ⟨hH,hi⟩:=hi;have two:pw 1=2:=O7;have half:pw (-1)=1/2:=Wl;cases hn:d.neg with
 | false =>
   have eb:bnE d w=(L,H):=by
    rw [eB];unfold K7;rw [hn];rfl
   rw [eb] at eX eY;have eX:exX d p w up=G4 p up L:=eX;have eY:exY d p w up=G4 p up H:=eY;obtain ⟨g1,g2⟩:=Rn (B:=200000) (up:=up) p1 (by omega) hH.m hH.neg (by have:=hH.e;omega) hH.hi hH.lo (by decide);rw [←eY,←hs] at g1 g2;rcases lo with lo | ⟨lo1,lo2,lo3⟩
   ·exfalso;rw [lo,O8] at eX;rw [eX] at g1;exact g1.m rfl
   ·obtain ⟨f1,f2⟩:=Rn (B:=200000) (up:=up) p1 (by omega) lo1.m lo1.neg (by have:=lo1.e;omega) lo1.hi lo1.lo (by decide);rw [←eX] at f1 f2;rcases hi with hi | ⟨hi1,hi2⟩
    ·exfalso;have a:=Li f2 (Ft p1) lo2;have b:=Kg g2 (Hb p1 (-1)) (by rw [half];exact hi);rw [half] at b;grind
    ·refine ⟨L.q,H.q,?_,?_,f2,g2⟩
     ·unfold EL;rw [if_neg hz,hn,if_neg (by decide)];exact lo3
     ·unfold EU;rw [if_neg hz,hn,if_neg (by decide)];exact hi2
 | true =>
   have eb:bnE d w=((Cf one H w false).v,(Cf one L w true).v):=by
    rw [eB];unfold K7;rw [hn];rfl
   rw [eb] at eX eY;have eX:exX d p w up=G4 p up (Cf one H w false).v:=eX;have eY:exY d p w up=G4 p up (Cf one L w true).v:=eY;obtain ⟨qH,dH,tH⟩:=Aib (up:=false) (by omega) w2 hH;obtain ⟨f1,f2⟩:=Rn (B:=200010) (up:=up) p1 (by omega) qH.m qH.neg (by omega) qH.hi qH.lo (by decide);rw [←eX] at f1 f2;rcases lo with lo | ⟨lo1,lo2,n,lo3,lo4⟩
   ·exfalso;have e:(Cf one L w true).v=dz:=by
     rw [lo];rfl
    rw [e,O8] at eY;rw [hs,eY] at f1;exact f1.m rfl
   ·obtain ⟨qL,dL,tL⟩:=Aib (up:=true) (by omega) w2 lo1;obtain ⟨g1,g2⟩:=Rn (B:=200010) (up:=up) p1 (by omega) qL.m qL.neg (by omega) qL.hi qL.lo (by decide);rw [←eY,←hs] at g1 g2;have L0:=lo1.pos;have H0:=hH.pos;have iL:L.q*(L.q)⁻¹=1:=Rat.mul_inv_cancel _ (by grind);have iH:H.q*(H.q)⁻¹=1:=Rat.mul_inv_cancel _ (by grind);rcases hi with hi | ⟨hi1,hi2⟩
    ·exfalso;have a:pw 1≤1/H.q:=by
      have:=Uk H0 hi;rw [two];have e:(1:Rat)/(1/2)=2:=by decide +kernel
      rwa [e] at this
     have a1:=Li dH (Hb (by omega) 1) a;have a2:=Li f2 (Hb p1 1) a1;have b:1/L.q≤1:=by
      have:=Uk (show (0:Rat)<1 by decide) lo2;have e:(1:Rat)/1=1:=by decide +kernel
      rwa [e] at this
     have b1:=Kg dL (Ft (by omega)) b;have b2:=Kg g2 (Ft p1) b1;rw [two] at a2;grind
    ·refine ⟨(Cf one H w false).v.q,(Cf one L w true).v.q,?_,?_,f2,g2⟩
     ·unfold EL;rw [if_neg hz,hn,if_pos rfl];refine ⟨H.q,hi1,hi2,?_⟩;have:=Rat.mul_le_mul_of_nonneg_right (IsDown.le dH) (Rat.le_of_lt H0);rw [Rat.div_def,Rat.one_mul,Rat.mul_comm (H.q)⁻¹,iH] at this;exact this
     ·unfold EU;rw [if_neg hz,hn,if_pos rfl];refine ⟨qL.pos,n,?_⟩;have h1:=Rat.mul_le_mul_of_nonneg_right (IsUp.le dL) (Rat.le_of_lt L0);rw [Rat.div_def,Rat.one_mul,Rat.mul_comm (L.q)⁻¹,iL] at h1;exact Rat.le_trans h1 (Rat.mul_le_mul_of_nonneg_left lo4 (Rat.le_of_lt qL.pos))
theorem Sz {d:Dy}{p:Nat}{up:Bool}(ok:d.Ok)(p1:1≤p)(p2:p≤300)(hz:d.m≠0)(hd:-400≤d.e∧(d.m≠0→Ba (Cv d)≤7)):∀ (f w:Nat),17≤w→(M8 d p up f w).k=0→ExpS d p up (M8 d p up f w).v
 | 0, _, _, h => by
   rw [M8] at h;exact absurd h (by decide)
 | f + 1, w, hw, h => by
   rw [M8] at h ⊢;split at h
   ·exact absurd h (by decide)
   ·rename_i h1;rw [if_neg h1];split at h
    ·rename_i h2;rw [if_pos h2];exact Y6 ok p1 p2 hw (by omega) hz hd (Aev h2)
    ·rename_i h2;rw [if_neg h2];exact Sz ok p1 p2 hz hd f _ (by omega) h
theorem Aa7 {d:Dy}{p:Nat}{up:Bool}(p1:1≤p)(hz:d.m=0):ExpS d p up one:=by
 refine ⟨1,1,?_,?_,?_,?_⟩
 ·unfold EL;rw [if_pos hz];exact Rat.le_refl
 ·unfold EU;rw [if_pos hz];exact Rat.le_refl
 ·rw [Re];cases up
  ·exact IsDown.of_fits (Ft p1)
  ·exact IsUp.of_fits (Ft p1)
 ·rw [Re];cases up
  ·exact IsDown.of_fits (Ft p1)
  ·exact IsUp.of_fits (Ft p1)
theorem Ajg {r:Raw}{p:Int}(h:E4 r p=0):Gp r=true∧1≤p∧p≤300:=by
 unfold E4 at h;split at h
 ·rename_i h1;simp only [Bool.and_eq_true,Bool.not_eq_true',decide_eq_false_iff_not] at h1;exact ⟨h1.1.1,by omega,by omega⟩
 ·exact absurd h (by decide)
theorem Zu {d:Dy}{p:Int}(ok:d.Ok)(h:E4 d.raw p=0):ExM d:=fun hz=>by
 have hd:=Nf h;exact ⟨hz,rfl,Da d.m 64 ok.len,hd.1,hd.2 hz⟩
theorem Sy {d:Dy}{p:Nat}{up:Bool}(ok:d.Ok)(h:(Fq d p up).k=0):ExM d∧ExpS d p up (Fq d p up).v∧E4 d.raw p=0∧1≤p∧p≤300:=by
 unfold Fq at h ⊢;split at h
 ·rename_i h0;exact absurd h h0
 ·rename_i h0;have h0':E4 d.raw p=0:=by omega
  obtain ⟨-,p1,p2⟩:=Ajg h0';rw [if_neg h0];split at h
  ·rename_i hz;rw [if_pos hz];exact ⟨Zu ok h0',Aa7 (by omega) hz,h0',by omega,by omega⟩
  ·rename_i hz;rw [if_neg hz];exact ⟨Zu ok h0',Sz ok (by omega) (by omega) hz (Nf h0') _ _ (by omega) h,h0',by omega,by omega⟩
def ovE (a b:Int):Int:=if a=1∨b=1 then 1 else if a=4∨b=4 then 4 else if a=2∨b=2 then 2 else 0
def ovI (a:Iv) (p:Nat):Outc Iv :=
 if ovE (E4 a.lo.raw p) (E4 a.hi.raw p)≠0 then ⟨iz,ovE (E4 a.lo.raw p) (E4 a.hi.raw p)⟩
 else if (Fq a.lo p false).k≠0∨(Fq a.hi p true).k≠0 then ⟨iz,max (Fq a.lo p false).k (Fq a.hi p true).k⟩
 else ⟨⟨(Fq a.lo p false).v,(Fq a.hi p true).v⟩,0⟩
theorem Kp (r:Raw)(p:Int):E4 r p=0∨E4 r p=1∨E4 r p=2∨E4 r p=4:=by
 unfold E4;split
 ·split
  ·split<;>simp
  ·simp
 ·simp
theorem Ael {a b:Int}(ha:a=0∨a=1∨a=2∨a=4)(hb:b=0∨b=1∨b=2∨b=4):ovE a b=0↔a=0∧b=0:=by
 unfold ovE;rcases ha with rfl | rfl | rfl | rfl<;>rcases hb with rfl | rfl | rfl | rfl<;>simp
theorem Adc (d:Dy)(p:Nat)(up:Bool):∀ f w,(M8 d p up f w).k=0∨(M8 d p up f w).k=2
 | 0,_=>.inr rfl
 | f + 1, w => by
   rw [M8];split
   ·exact .inr rfl
   ·split
    ·exact .inl rfl
    ·exact Adc d p up f _
theorem Adb {d:Dy}{p:Nat}{up:Bool}(h:E4 d.raw p=0):(Fq d p up).k=0∨(Fq d p up).k=2:=by
 unfold Fq;rw [if_neg (by rw [h];decide)];split
 ·exact .inl rfl
 ·exact Adc _ _ _ _ _
theorem Aem {a:Iv}{p:Nat}(h:(ovI a p).k=0):(Fq a.lo p false).k=0∧(Fq a.hi p true).k=0∧(ovI a p).v=⟨(Fq a.lo p false).v,(Fq a.hi p true).v⟩:=by
 unfold ovI at h ⊢;split at h
 ·rename_i h0;exact absurd h h0
 ·rename_i h0;rw [if_neg h0];have h0':=(Ael (Kp a.lo.raw p) (Kp a.hi.raw p)).1 (by omega);split at h
  ·rename_i h1;exfalso;have h':max (Fq a.lo p false).k (Fq a.hi p true).k=0:=h;rcases Adb (up:=false) h0'.1 with e1 | e1<;>rcases Adb (up:=true) h0'.2 with e2 | e2<;>omega
  ·rename_i h1;rw [if_neg h1];exact ⟨by omega,by omega,rfl⟩
theorem Aen (a:Iv)(p:Nat)(ha:a.Ok)(_:1≤p)(_:p≤300):OkI (ovI a p):=by
 by_cases hk:(ovI a p).k=0
 ·obtain ⟨a1,a2,a3⟩:=Aem hk;obtain ⟨c1,c2,-⟩:=Sy ha.lo a1;obtain ⟨c3,c4,-⟩:=Sy ha.hi a2;refine ⟨?_,fun h=>absurd hk h⟩;rw [a3];exact ⟨(Zs _ _ _).1,(Zs _ _ _).1,c2.order c1 c3 ha.le c4⟩
 ·have hz:(ovI a p).v=iz:=by
   unfold ovI at hk ⊢;split
   ·rfl
   ·split
    ·rfl
    ·rename_i h1 h2;rw [if_neg h1,if_neg h2] at hk;exact absurd rfl hk
  exact ⟨by rw [hz];exact Q4,fun _=>hz⟩
def Wth (a x:Iv):Prop:=x.lo.q≤a.lo.q∧a.hi.q≤x.hi.q
theorem Wth.refl (a:Iv):Wth a a:=⟨Rat.le_refl,Rat.le_refl⟩
theorem Wth.trans {a b c:Iv}(h:Wth a b)(h':Wth b c):Wth a c:=⟨Rat.le_trans h'.1 h.1,Rat.le_trans h.2 h'.2⟩
theorem IsRootDown.mono {p p':Nat}{x x' d d':Rat}(h:IsRootDown p x d)(h':IsRootDown p' x' d')(hp:p≤p')(hx:x≤x'):d≤d' :=
 h'.best d (h.fits.mono hp) h.nonneg (Rat.le_trans h.le hx)
theorem IsRootUp.mono {p p':Nat}{x x' d d':Rat}(h:IsRootUp p x d)(h':IsRootUp p' x' d')(hp:p≤p')(hx:x'≤x):d'≤d :=
 h'.best d (h.fits.mono hp) h.nonneg (Rat.le_trans hx h.le)
end Go.Proofs.YtabjjdicffcolaaGreatDoor
