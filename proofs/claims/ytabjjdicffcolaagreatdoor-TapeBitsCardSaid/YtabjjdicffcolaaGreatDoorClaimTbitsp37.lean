/- Plain mathematics, no program: of greater intervals, or of fewer bits, each operation of a tape makes no less; its errors are limbs and exponents alone, where the greater one has none. -/
import Derived.Test.YtabjjdicffcolaaGreatDoorClaimTbitsp29
import Derived.Test.YtabjjdicffcolaaGreatDoorClaimTbitsp36
set_option maxRecDepth 100000
set_option maxHeartbeats 16000000
namespace Go.Proofs.YtabjjdicffcolaaGreatDoor
def sqn (x:Rat):Nat→Rat
 | 0=>x
 | k+1=>sqn (x*x) k
theorem sqn_mono:∀ (k:Nat) {x y:Rat},0≤x→x≤y→sqn x k≤sqn y k
 | 0,_,_,_,h=>h
 | k + 1, x, y, h0, h => by
   refine sqn_mono k (Rat.mul_nonneg h0 h0) ?_;have h1:=Rat.mul_le_mul_of_nonneg_left h h0;have h2:=Rat.mul_le_mul_of_nonneg_right h (Rat.le_trans h0 h);exact Rat.le_trans h1 h2
theorem sqn_one:∀ k,sqn 1 k=1
 | 0=>rfl
 | k + 1 => by
   show sqn (1*1) k=1
   rw [Rat.mul_one];exact sqn_one k
theorem sqn_ge {x:Rat}(k:Nat)(h:1≤x):1≤sqn x k:=by
 have h2:=sqn_mono k (show (0:Rat)≤1 by decide) h
 rwa [sqn_one] at h2
theorem eS_half {x:Rat}(h:0≤x)(n:Nat):eS x n≤eS (x*pw (-1)) n*eS (x*pw (-1)) n:=by
 have e:=pw_m1;have h1:0≤x*pw (-1):=Rat.mul_nonneg h (pw_nonneg _);have h2:=eS_add h1 h1 n;have h3:x*pw (-1)+x*pw (-1)=x:=by rw [e];grind
 rwa [h3] at h2
theorem eS_halves {x:Rat}(h:0≤x)(n k:Nat):∀ i:Nat,sqn (eS x n) k≤sqn (eS (x*pw (-(i:Int))) n) (k+i)
 | 0 => by
   have e:x*pw (-((0:Nat):Int))=x:=by
    rw [show (-((0:Nat):Int))=0 from rfl,pw_zero,Rat.mul_one]
   rw [e];exact Rat.le_refl
 | i + 1 => by
   have h1:=eS_halves h n k i;have h0:0≤x*pw (-(i:Int)):=Rat.mul_nonneg h (pw_nonneg _);have h2:=sqn_mono (k+i) (eS_nonneg h0 n) (eS_half h0 n);have e:x*pw (-(i:Int))*pw (-1)=x*pw (-((i+1:Nat):Int)):=by
    rw [Rat.mul_assoc,←pw_add]
    congr 2
    omega
   rw [e] at h2;exact Rat.le_trans h1 h2
theorem bndR_q {d:Dy}(h0:d.m≠0)(hl:bl d.m≤4096)(h1:-400≤d.e)(h2:topD d≤7):(bndR d).q=d.q*pw (-(bndK d:Int))∧(bndR d).neg=d.neg∧topD (bndR d)=topD d-(bndK d:Int):=by
 have hp:=bl_pos _ h0;have h2':=h2;unfold topD at h2';have hK:(bndK d:Int)=max (topD d+8) 0:=by unfold bndK;omega
 have hz:=tz_lt _ _ h0 (lt_two_bl d.m);have ek:(shiftD d (-(bndK d:Int)))=fitD d.neg d.m (d.e+-(bndK d:Int)):=by
  unfold shiftD;rw [if_neg h0,if_neg (by omega)]
 obtain ⟨a,b⟩:=fitD_k (neg:=d.neg) (n:=d.m) (e:=d.e+-(bndK d:Int)) h0 (by omega) (by omega) (by omega);obtain ⟨c,f,g⟩:=fitD_top (neg:=d.neg) (n:=d.m) (e:=d.e+-(bndK d:Int)) h0 (by omega) (by omega) (by omega);refine ⟨shiftD_q (by rw [ek];exact a),?_,?_⟩
 ·unfold bndR;rw [ek];exact b
 ·unfold bndR;rw [ek,f];unfold topD;omega
def eP (a:Dy) (n:Nat):Rat:=sqn (eS (bndR a).q n) (bndK a)
structure ExN (a:Dy):Prop where
 m:a.m≠0
 neg:a.neg=false
 len:bl a.m≤4096
 e:-400≤a.e
 top:topD a≤7
theorem ExN.r {a:Dy}(h:ExN a):(bndR a).q=a.q*pw (-(bndK a:Int))∧(bndR a).neg=false∧topD (bndR a)=topD a-(bndK a:Int)∧(bndR a).m≠0∧-500≤(bndR a).e∧topD (bndR a)≤-8:=by
 obtain ⟨b1,b2,b3⟩:=bndR_q h.m h.len h.e h.top;obtain ⟨c1,c2,c3⟩:=bndR_facts h.m h.len h.e h.top;exact ⟨b1,b2.trans h.neg,b3,c1,c2,c3⟩
theorem ExN.pos {a:Dy}(h:ExN a):0<a.q:=q_gt h.m h.neg
theorem ExN.rpos {a:Dy}(h:ExN a):0≤(bndR a).q:=by
 rw [h.r.1];exact Rat.mul_nonneg (Rat.le_of_lt h.pos) (pw_nonneg _)
theorem eP_ge {a:Dy}(h:ExN a){n:Nat}(hn:1≤n):1≤eP a n:=sqn_ge _ (eS_pos h.rpos hn)
theorem eP_mono {a b:Dy}(ha:ExN a)(hb:ExN b)(h:a.q≤b.q)(n:Nat):eP a n≤eP b n:=by
 have ht:topD a≤topD b:=by
  have h1:=(q_top ha.m ha.neg).1;have h2:=(q_top hb.m hb.neg).2;have h3:pw (topD a-1)<pw (topD b):=by grind
  have:=pw_lt_inv h3;omega
 have hk:bndK a≤bndK b:=by unfold bndK;omega
 unfold eP;obtain ⟨i,hi⟩:∃ i:Nat,bndK b=bndK a+i:=⟨bndK b-bndK a,by omega⟩;rw [ha.r.1,hb.r.1,hi];have h1:a.q*pw (-(bndK a:Int))≤b.q*pw (-(bndK a:Int)):=Rat.mul_le_mul_of_nonneg_right h (pw_nonneg _);have h0:0≤a.q*pw (-(bndK a:Int)):=Rat.mul_nonneg (Rat.le_of_lt ha.pos) (pw_nonneg _);have h2:=sqn_mono (bndK a) (eS_nonneg h0 n) (eS_mono h0 h1 n);have h3:=eS_halves (Rat.le_trans h0 h1) n (bndK a) i;have e:b.q*pw (-(bndK a:Int))*pw (-(i:Int))=b.q*pw (-((bndK a+i:Nat):Int)):=by
  rw [Rat.mul_assoc,←pw_add]
  congr 2
  omega
 rw [e] at h3;exact Rat.le_trans h2 h3
def EL (d:Dy) (y:Rat):Prop:=if d.m=0 then y≤1 else if d.neg then ∃ c,1≤c∧(∀ n,eP (absD d) n≤c)∧y*c≤1 else ∃ n,1≤n∧y≤eP (absD d) n
def EU (d:Dy) (y:Rat):Prop:=if d.m=0 then 1≤y else if d.neg then 0<y∧∃ n,1≤y*eP (absD d) n else ∀ n,eP (absD d) n≤y
theorem absD_q {d:Dy}:d.q=if d.neg then -(absD d).q else (absD d).q:=by
 unfold Dy.q sq absD;cases d.neg
 ·simp
 ·simp [Rat.neg_mul]
def ExM (d:Dy):Prop:=d.m≠0→ExN (absD d)
theorem EL_EU {d d':Dy}{y y':Rat}(hd:ExM d)(hd':ExM d')(h:d.q≤d'.q)(hl:EL d y)(hu:EU d' y'):y≤y':=by
 have q0:∀ {d:Dy},d.m=0→d.q=0:=fun h=>zero_q h
 unfold EL at hl;unfold EU at hu
 by_cases h1:d.m=0
 ·rw [if_pos h1] at hl
  by_cases h2:d'.m=0
  ·rw [if_pos h2] at hu;exact Rat.le_trans hl hu
  ·rw [if_neg h2] at hu;have n2:=hd' h2;cases hn:d'.neg with
   | true =>
     exfalso
     have e:=absD_q (d:=d');rw [hn,if_pos rfl] at e;have:=n2.pos;rw [q0 h1,e] at h
     grind
   | false =>
     rw [hn,if_neg (by decide)] at hu;exact Rat.le_trans hl (Rat.le_trans (eP_ge n2 (Nat.le_refl 1)) (hu 1))
 ·rw [if_neg h1] at hl;have n1:=hd h1;have e1:=absD_q (d:=d);have p1:=n1.pos;cases hn1:d.neg with
  | true =>
    rw [hn1,if_pos rfl] at hl e1;obtain ⟨c,c1,c2,c3⟩:=hl;have hy:y≤1:=by
     rcases Rat.le_total (a:=y) (b:=0) with hy0 | hy0
     ·exact Rat.le_trans hy0 (by decide)
     ·have := Rat.mul_le_mul_of_nonneg_left c1 hy0;rw [Rat.mul_one] at this;exact Rat.le_trans this c3
    by_cases h2:d'.m=0
    ·rw [if_pos h2] at hu;exact Rat.le_trans hy hu
    ·rw [if_neg h2] at hu;have n2:=hd' h2;cases hn:d'.neg with
     | true =>
       rw [hn,if_pos rfl] at hu;obtain ⟨u1,n,u2⟩:=hu;have e2:=absD_q (d:=d');rw [hn,if_pos rfl] at e2;have h3:(absD d').q≤(absD d).q:=by
        rw [e1,e2] at h
        grind
       have h4:=Rat.le_trans (eP_mono n2 n1 h3 n) (c2 n);have h5:=Rat.mul_le_mul_of_nonneg_left h4 (Rat.le_of_lt u1);have h6:y*c≤y'*c:=Rat.le_trans c3 (Rat.le_trans u2 h5);have h7:0<c:=by grind
       have h8:0<c⁻¹:=Rat.inv_pos.2 h7;have h9:c*c⁻¹=1:=Rat.mul_inv_cancel _ (by grind);have h10:=Rat.mul_le_mul_of_nonneg_right h6 (Rat.le_of_lt h8)
       rwa [Rat.mul_assoc,Rat.mul_assoc,h9,Rat.mul_one,Rat.mul_one] at h10
     | false =>
       rw [hn,if_neg (by decide)] at hu;exact Rat.le_trans hy (Rat.le_trans (eP_ge n2 (Nat.le_refl 1)) (hu 1))
  | false =>
    rw [hn1,if_neg (by decide)] at hl e1;obtain ⟨n,hn0,hl⟩:=hl
    by_cases h2:d'.m=0
    ·exfalso
     rw [q0 h2,e1] at h
     grind
    ·rw [if_neg h2] at hu;have n2:=hd' h2;have e2:=absD_q (d:=d');have p2:=n2.pos;cases hn:d'.neg with
     | true =>
       exfalso
       rw [hn,if_pos rfl] at e2;rw [e1,e2] at h
       grind
     | false =>
       rw [hn,if_neg (by decide)] at hu e2;rw [e1,e2] at h;exact Rat.le_trans hl (Rat.le_trans (eP_mono n1 n2 h n) (hu n))
def ExpS (d:Dy) (p:Nat) (up:Bool) (z:Dy):Prop:=∃ lo hi,EL d lo∧EU d hi∧IsDir up p lo z.q∧IsDir up p hi z.q
theorem ExpS.order {d d':Dy}{p p':Nat}{z z':Dy}(hd:ExM d)(hd':ExM d')(h:d.q≤d'.q)(a:ExpS d p false z)(b:ExpS d' p' true z'):z.q≤z'.q:=by
 obtain ⟨lo,hi,a1,a2,a3,a4⟩:=a;obtain ⟨lo',hi',b1,b2,b3,b4⟩:=b;exact Rat.le_trans (IsDown.le a3) (Rat.le_trans (EL_EU hd hd' h a1 b2) (IsUp.le b4))
theorem ExpS.down {d d':Dy}{p p':Nat}{z z':Dy}(hd:ExM d)(hd':ExM d')(h:d.q≤d'.q)(hp:p≤p')(a:ExpS d p false z)(b:ExpS d' p' false z'):z.q≤z'.q:=by
 obtain ⟨lo,hi,a1,a2,a3,a4⟩:=a;obtain ⟨lo',hi',b1,b2,b3,b4⟩:=b;exact IsDown.mono a3 b4 hp (EL_EU hd hd' h a1 b2)
theorem ExpS.up {d d':Dy}{p p':Nat}{z z':Dy}(hd:ExM d)(hd':ExM d')(h:d.q≤d'.q)(hp:p'≤p)(a:ExpS d p true z)(b:ExpS d' p' true z'):z.q≤z'.q:=by
 obtain ⟨lo,hi,a1,a2,a3,a4⟩:=a;obtain ⟨lo',hi',b1,b2,b3,b4⟩:=b;exact IsUp.mono b4 a3 hp (EL_EU hd hd' h a1 b2)
structure Nm (p:Nat) (B:Int) (x:Dy):Prop where
 m:x.m≠0
 neg:x.neg=false
 b:bl x.m≤p
 lo:-B≤topD x
 hi:topD x≤B
theorem Nm.pos {p:Nat}{B:Int}{x:Dy}(h:Nm p B x):0<x.q:=q_gt h.m h.neg
theorem rnd_nm {p:Nat}{B:Int}{up:Bool}{d:Dy}(p1:1≤p)(p2:p≤2000)(h0:d.m≠0)(hn:d.neg=false)(h1:-1000000≤d.e)(h2:topD d≤B)(h3:-B≤topD d)(hB:B≤1000000) :
 Nm p (B+1) (rndS p up d)∧IsDir up p d.q (rndS p up d).q:=by
 obtain ⟨a,b,c,e⟩:=rndS_dir (up:=up) p1 p2 h0 h1 (by omega);obtain ⟨t1,t2⟩:=q_top h0 hn;have hb:=b.trans hn;have u1:=dir_ge a (fits_pw p1 (topD d-1)) t1;have u2:=dir_le a (fits_pw p1 (topD d)) (Rat.le_of_lt t2);have:=top_ge c hb u1;have:=top_le c hb u2;exact ⟨⟨c,hb,e,by omega,by omega⟩,a⟩
theorem mul_nm {p:Nat}{x:Dy}{B:Int}(p2:p≤2000)(h:Nm p B x)(hB:B≤200000):(mulD x x).v.m≠0∧(mulD x x).v.neg=false∧(mulD x x).v.q=x.q*x.q∧topD (mulD x x).v≤2*topD x∧2*topD x-1≤topD (mulD x x).v∧-900000≤(mulD x x).v.e:=by
 have hlo:=h.lo;have hhi:=h.hi;have hb:=h.b;have hp:=bl_pos _ h.m;unfold topD at hlo hhi;have hz:=Nat.mul_ne_zero h.m h.m;have h1:=mul_lt_bl (Nat.le_refl (bl x.m)) (Nat.le_refl (bl x.m));have h2:=mul_bl_ge h.m h.m;have h3:=tz_lt _ _ hz (lt_two_bl _);obtain ⟨a,b⟩:=fitD_k (neg:=x.neg != x.neg) (e:=x.e+x.e) hz (by omega) (by omega) (by omega);obtain ⟨c,f,g⟩:=fitD_top (neg:=x.neg != x.neg) (e:=x.e+x.e) hz (by omega) (by omega) (by omega);have f':topD (mulD x x).v=(bl (x.m*x.m):Int)+(x.e+x.e):=f;have g':bl (mulD x x).v.m=bl (x.m*x.m)-tz (x.m*x.m):=g;refine ⟨c,?_,mulD_q a,?_,?_,?_⟩
 ·refine Eq.trans b ?_;cases x.neg<;>rfl
 ·rw [f'];unfold topD;omega
 ·rw [f'];unfold topD;omega
 ·unfold topD at f';omega
theorem sqr_step {p:Nat}{up:Bool}{x:Dy}{B:Int}(p1:1≤p)(p2:p≤2000)(h:Nm p B x)(hB:B≤200000):Nm p (2*B+2) (sqrS p up x)∧IsDir up p (x.q*x.q) (sqrS p up x).q:=by
 obtain ⟨a,b,c,d,e,f⟩:=mul_nm p2 h hB;have hlo:=h.lo;have hhi:=h.hi;obtain ⟨g1,g2⟩:=rnd_nm (B:=2*B+1) (up:=up) p1 p2 a b (by omega) (by omega) (by omega) (by omega);rw [c] at g2;exact ⟨⟨g1.m,g1.neg,g1.b,by have:=g1.lo;show _≤topD (rndS p up (mulD x x).v);omega,by have:=g1.hi;show topD (rndS p up (mulD x x).v)≤_;omega⟩,g2⟩
theorem sqr_all {p:Nat}{up:Bool}(p1:1≤p)(p2:p≤2000):∀ (k:Nat) (x:Dy) (B:Int),k≤15→B+2≤2^(17-k)→Nm p B x→1≤x.q →
 Nm p 200000 (sqrN p up k x)∧1≤(sqrN p up k x).q∧(if up then sqn x.q k≤(sqrN p up k x).q else (sqrN p up k x).q≤sqn x.q k)
 | 0, x, B, _, hB, h, h1 => by
   have hB':B+2≤131072:=by simpa using hB
   refine ⟨⟨h.m,h.neg,h.b,?_,?_⟩,h1,?_⟩
   ·have := h.lo
    show _≤topD x
    omega
   ·have := h.hi
    show topD x≤_
    omega
   ·cases up
    ·exact Rat.le_refl
    ·exact Rat.le_refl
 | k + 1, x, B, hk, hB, h, h1 => by
   have e:(17-k:Nat)=17-(k+1)+1:=by omega
   have hB2:(2*B+2)+2≤2^(17-k):=by
    rw [e,Int.pow_succ];omega
   have hBm:B≤200000:=by
    have h2:(2:Int)^(17-(k+1))≤2^17:=by
     have:=Nat.pow_le_pow_right (show 0<2 by decide) (show 17-(k+1)≤17 by omega)
     exact_mod_cast this
    have h3:(2:Int)^17=131072:=by decide
    omega
   obtain ⟨g1,g2⟩:=sqr_step (up:=up) p1 p2 h hBm;have hx:1≤x.q*x.q:=by
    have:=Rat.mul_le_mul_of_nonneg_left h1 (Rat.le_trans (show (0:Rat)≤1 by decide) h1)
    grind
   have h1':=dir_ge g2 (fits_one p1) hx;obtain ⟨i1,i2,i3⟩:=sqr_all p1 p2 k (sqrS p up x) (2*B+2) (by omega) hB2 g1 h1';refine ⟨i1,i2,?_⟩;cases up with
   | true =>
     have i3':sqn (sqrS p true x).q k≤(sqrN p true k (sqrS p true x)).q:=i3
     show sqn (x.q*x.q) k≤(sqrN p true k (sqrS p true x)).q
     exact Rat.le_trans (sqn_mono k (Rat.le_trans (show (0:Rat)≤1 by decide) hx) (IsUp.le g2)) i3'
   | false =>
     have i3':(sqrN p false k (sqrS p false x)).q≤sqn (sqrS p false x).q k:=i3
     show (sqrN p false k (sqrS p false x)).q≤sqn (x.q*x.q) k
     exact Rat.le_trans i3' (sqn_mono k (Rat.le_trans (show (0:Rat)≤1 by decide) h1') (IsDown.le g2))
theorem bnd_lo {p:Nat}{d:Dy}(p1:17≤p)(p2:p≤2000)(h:ExN (absD d))(hn:nearG p false (bndR (absD d)) 400 1 one one=some (nearO p false d)) :
 (bndD p false d (nearO p false d)=dz)∨(Nm p 200000 (bndD p false d (nearO p false d))∧1≤(bndD p false d (nearO p false d)).q∧∃ n,1≤n∧(bndD p false d (nearO p false d)).q≤eP (absD d) n):=by
 obtain ⟨r1,r2,r3,r4,r5,r6⟩:=h.r;have hg:NearLo p (bndR (absD d)) (nearD p false (nearO p false d)):=near_go (up:=false) p1 p2 r4 r2 r5 r6 400 1 one one _ (NI.start (by omega)) (by decide) (by decide) hn;obtain ⟨g,n,hn1,hn2⟩:=hg;unfold bndD;have hK:bndK (absD d)≤15:=by have:=h.top;unfold bndK;omega
 generalize nearD p false (nearO p false d)=x at *
 rcases g with ⟨g1,g2⟩ | ⟨g1,g2,g3,g4,g5⟩
 ·left
  have hk0:bndK (absD d)=0:=by
   have hk:(bndK (absD d):Int)=max (topD (absD d)+8) 0:=by unfold bndK;omega
   omega
  rw [hk0,g1]
  rfl
 ·right
  have ht:=top_one g1 g2 g4 g5;have hB:(2:Int)+2≤2^(17-bndK (absD d)):=by
   have:=Nat.pow_le_pow_right (show 0<2 by decide) (show 2≤17-bndK (absD d) by omega);have h2:((2^2:Nat):Int)≤((2^(17-bndK (absD d)):Nat):Int):=by exact_mod_cast this
   have h3:((2^(17-bndK (absD d)):Nat):Int)=(2:Int)^(17-bndK (absD d)):=by norm_cast
   omega
  obtain ⟨i1,i2,i3⟩:=sqr_all (up:=false) (by omega) p2 (bndK (absD d)) x 2 hK hB ⟨g1,g2,g3,by omega,by omega⟩ g4;refine ⟨i1,i2,n,hn1,?_⟩;have i3':(sqrN p false (bndK (absD d)) x).q≤sqn x.q (bndK (absD d)):=i3;exact Rat.le_trans i3' (sqn_mono _ (Rat.le_trans (show (0:Rat)≤1 by decide) g4) hn2)
theorem bnd_hi {p:Nat}{d:Dy}(p1:17≤p)(p2:p≤2000)(h:ExN (absD d))(hn:nearG p true (bndR (absD d)) 400 1 one one=some (nearO p true d)) :
 Nm p 200000 (bndD p true d (nearO p true d))∧((bndD p true d (nearO p true d)).q≤1/2∨(1≤(bndD p true d (nearO p true d)).q∧∀ n,eP (absD d) n≤(bndD p true d (nearO p true d)).q)):=by
 obtain ⟨r1,r2,r3,r4,r5,r6⟩:=h.r;have hg:NearHi p (bndR (absD d)) (nearD p true (nearO p true d)):=near_go (up:=true) p1 p2 r4 r2 r5 r6 400 1 one one _ (NI.start (by omega)) (by decide) (by decide) hn;obtain ⟨g1,g2,g3,g⟩:=hg;unfold bndD;have hK:bndK (absD d)≤15:=by have:=h.top;unfold bndK;omega
 generalize nearD p true (nearO p true d)=x at *
 rcases g with ⟨g4,g5,g6⟩ | ⟨g4,g5,g6⟩
 ·have hk0 : bndK (absD d) = 0 := by
   have hk:(bndK (absD d):Int)=max (topD (absD d)+8) 0:=by unfold bndK;omega
   omega
  rw [hk0];have ht:topD x≤0:=by
   have e:=pw_m1;have:=top_le (c:=-1) g1 g2 (by rw [e];exact g5);omega
  refine ⟨⟨g1,g2,g3,?_,?_⟩,.inl g5⟩
  ·show _ ≤ topD x
   omega
  ·show topD x ≤ _
   omega
 ·have ht := top_one g1 g2 g4 g5;have hB:(2:Int)+2≤2^(17-bndK (absD d)):=by
   have:=Nat.pow_le_pow_right (show 0<2 by decide) (show 2≤17-bndK (absD d) by omega);have h2:((2^2:Nat):Int)≤((2^(17-bndK (absD d)):Nat):Int):=by exact_mod_cast this
   have h3:((2^(17-bndK (absD d)):Nat):Int)=(2:Int)^(17-bndK (absD d)):=by norm_cast
   omega
  obtain ⟨i1,i2,i3⟩:=sqr_all (up:=true) (by omega) p2 (bndK (absD d)) x 2 hK hB ⟨g1,g2,g3,by omega,by omega⟩ g4;refine ⟨i1,.inr ⟨i2,fun n=>?_⟩⟩;have i3':sqn x.q (bndK (absD d))≤(sqrN p true (bndK (absD d)) x).q:=i3;exact Rat.le_trans (sqn_mono _ (eS_nonneg h.rpos n) (g6 n)) i3'
end Go.Proofs.YtabjjdicffcolaaGreatDoor
namespace Go.Proofs.YtabjjdicffcolaaGreatDoor
theorem inv_le {a b:Rat}(h0:0<a)(h:a≤b):1/b≤1/a:=by
 have hb:0<b:=by grind
 have ia:0<a⁻¹:=Rat.inv_pos.2 h0;have ib:0<b⁻¹:=Rat.inv_pos.2 hb;have ea:a*a⁻¹=1:=Rat.mul_inv_cancel _ (by grind);have eb:b*b⁻¹=1:=Rat.mul_inv_cancel _ (by grind);have h1:=Rat.mul_le_mul_of_nonneg_right h (Rat.le_of_lt (Rat.mul_pos ia ib));rw [Rat.div_def,Rat.div_def,Rat.one_mul,Rat.one_mul];have e1:a*(a⁻¹*b⁻¹)=b⁻¹:=by rw [←Rat.mul_assoc,ea,Rat.one_mul]
 have e2:b*(a⁻¹*b⁻¹)=a⁻¹:=by rw [Rat.mul_comm a⁻¹ b⁻¹,←Rat.mul_assoc,eb,Rat.one_mul]
 rwa [e1,e2] at h1
theorem inv_pw (c:Int):1/pw c=pw (-c):=by
 have h:=pw_neg c;have h0:=pw_pos c;have e:pw c*(pw c)⁻¹=1:=Rat.mul_inv_cancel _ (by grind);rw [Rat.div_def,Rat.one_mul];have h1:pw c*(pw c)⁻¹=pw c*pw (-c):=by rw [e,h]
 grind
theorem quot1 {p:Nat}{up:Bool}{b:Dy}(p1:1≤p)(p2:p≤2000)(h:Nm p 200000 b) :
 Nm p 200010 (quotZ one b p up).v∧IsDir up p (1/b.q) (quotZ one b p up).v.q∧-300000≤(quotZ one b p up).v.e:=by
 have b1:=h.m;have hlo:=h.lo;have hhi:=h.hi;have hb:=h.b;have hbb:=bl_pos _ b1;have o1:one.m≠0:=by decide
 have ob:bl one.m=1:=by decide
 have oe:one.e=0:=rfl;unfold topD at hlo hhi;have ez:quotZ one b p up=quotD one b p up:=by
  unfold quotZ;rw [if_neg b1]
 rw [ez];have hK:quotK one b p=p+1+bl b.m-bl one.m:=rfl;have hq:=quot_bl one.m b.m p o1 b1 (quotK one b p) (by omega);have hk:bl (2^quotK one b p)≤quotK one b p+1:=bl_le _ _ (Nat.pow_lt_pow_right (by decide) (by omega));have hm2:=mul_lt_bl (Nat.le_refl (bl one.m)) hk;have hd:=bl_quot (x:=one.m*2^quotK one b p) b1;have hz:one.m*2^quotK one b p/b.m≠0:=by intro h;rw [h,bl_zero] at hq;omega
 obtain ⟨x,y,z⟩:=cutD_k (neg:=one.neg != b.neg) (rest:=decide (¬one.m*2^quotK one b p%b.m=0)) (up:=up) (e:=one.e-b.e-quotK one b p) hz p1 p2 (by omega) (by omega);obtain ⟨x',y',z'⟩:=cutD_top (neg:=one.neg != b.neg) (rest:=decide (¬one.m*2^quotK one b p%b.m=0)) (up:=up) (e:=one.e-b.e-quotK one b p) hz p1 p2 (by omega) (by omega);have hneg:(quotD one b p up).v.neg=false:=by
  refine Eq.trans y ?_;rw [h.neg]
  rfl
 have hdir:IsDir up p (1/b.q) (quotD one b p up).v.q:=by
  have:=quotD_dir (up:=up) p1 b1 x
  rwa [one_q] at this
 have hm':(quotD one b p up).v.m≠0:=x';have hb':bl (quotD one b p up).v.m≤p:=y';obtain ⟨t1,t2⟩:=q_top b1 h.neg;have u1:=inv_le (pw_pos _) t1;have u2:=inv_le h.pos (Rat.le_of_lt t2);rw [inv_pw] at u1 u2;have v1:=top_ge hm' hneg (dir_ge hdir (fits_pw p1 _) u2);have v2:=top_le hm' hneg (dir_le hdir (fits_pw p1 _) u1);have hlo':=h.lo;have hhi':=h.hi;have e3:topD (quotD one b p up).v=(bl (quotD one b p up).v.m:Int)+(quotD one b p up).v.e:=rfl;exact ⟨⟨hm',hneg,hb',by omega,by omega⟩,hdir,by omega⟩
theorem sameR_eq {a b:Dy}(h:sameR a.raw b.raw=true):a=b:=by
 unfold sameR Dy.raw at h;simp only [Bool.and_eq_true,beq_iff_eq] at h;obtain ⟨⟨h1,h2⟩,h3⟩:=h;have h4:a.m=b.m:=by
  have:=congrArg val h3
  rwa [val_limbs,val_limbs] at this
 cases a;cases b;simp only at h1 h2 h4;subst h1 h2 h4
 rfl
theorem Nm.e {p:Nat}{B:Int}{x:Dy}(h:Nm p B x):-B-p≤x.e:=by
 have h1:=h.lo;have h2:=h.b;unfold topD at h1;omega
theorem round_spec {d:Dy}{p w:Nat}{up:Bool}(ok:d.Ok)(p1:1≤p)(p2:p≤300)(w1:17≤w)(w2:w≤2000)(hz:d.m≠0)(hd:-400≤d.e∧(d.m≠0→topD (absD d)≤7))(hs:exX d p w up=exY d p w up):ExpS d p up (exX d p w up):=by
 have hN:ExN (absD d):=⟨hz,rfl,bl_of_len d.m 64 ok.len,hd.1,hd.2 hz⟩;have lo:=bnd_lo w1 w2 hN (near_of ok hz hd (by omega) w2 false);have hi:=bnd_hi w1 w2 hN (near_of ok hz hd (by omega) w2 true);have eX:exX d p w up=rndS p up (bnE d w).1:=rfl;have eY:exY d p w up=rndS p up (bnE d w).2:=rfl;have eB:bnE d w=bndsD w d (bndD w false d (nearO w false d)) (bndD w true d (nearO w true d)):=rfl;generalize bndD w false d (nearO w false d)=L at *;generalize bndD w true d (nearO w true d)=H at *;obtain ⟨hH,hi⟩:=hi;have two:pw 1=2:=pw_one;have half:pw (-1)=1/2:=pw_m1;cases hn:d.neg with
 | false =>
   have eb:bnE d w=(L,H):=by
    rw [eB];unfold bndsD;rw [hn]
    rfl
   rw [eb] at eX eY;have eX:exX d p w up=rndS p up L:=eX;have eY:exY d p w up=rndS p up H:=eY;obtain ⟨g1,g2⟩:=rnd_nm (B:=200000) (up:=up) p1 (by omega) hH.m hH.neg (by have:=hH.e;omega) hH.hi hH.lo (by decide);rw [←eY,←hs] at g1 g2
   rcases lo with lo | ⟨lo1,lo2,lo3⟩
   ·exfalso
    rw [lo,rndS_zero] at eX;rw [eX] at g1;exact g1.m rfl
   ·obtain ⟨f1, f2⟩ := rnd_nm (B := 200000) (up := up) p1 (by omega) lo1.m lo1.neg (by have := lo1.e; omega) lo1.hi lo1.lo (by decide);rw [←eX] at f1 f2
    rcases hi with hi | ⟨hi1,hi2⟩
    ·exfalso
     have a:=dir_ge f2 (fits_one p1) lo2;have b:=dir_le g2 (fits_pw p1 (-1)) (by rw [half];exact hi);rw [half] at b
     grind
    ·refine ⟨L.q, H.q, ?_, ?_, f2, g2⟩
     ·unfold EL;rw [if_neg hz,hn,if_neg (by decide)];exact lo3
     ·unfold EU;rw [if_neg hz,hn,if_neg (by decide)];exact hi2
 | true =>
   have eb:bnE d w=((quotZ one H w false).v,(quotZ one L w true).v):=by
    rw [eB];unfold bndsD;rw [hn]
    rfl
   rw [eb] at eX eY;have eX:exX d p w up=rndS p up (quotZ one H w false).v:=eX;have eY:exY d p w up=rndS p up (quotZ one L w true).v:=eY;obtain ⟨qH,dH,tH⟩:=quot1 (up:=false) (by omega) w2 hH;obtain ⟨f1,f2⟩:=rnd_nm (B:=200010) (up:=up) p1 (by omega) qH.m qH.neg (by omega) qH.hi qH.lo (by decide);rw [←eX] at f1 f2
   rcases lo with lo | ⟨lo1,lo2,n,lo3,lo4⟩
   ·exfalso
    have e:(quotZ one L w true).v=dz:=by
     rw [lo]
     rfl
    rw [e,rndS_zero] at eY;rw [hs,eY] at f1;exact f1.m rfl
   ·obtain ⟨qL, dL, tL⟩ := quot1 (up := true) (by omega) w2 lo1;obtain ⟨g1,g2⟩:=rnd_nm (B:=200010) (up:=up) p1 (by omega) qL.m qL.neg (by omega) qL.hi qL.lo (by decide);rw [←eY,←hs] at g1 g2;have L0:=lo1.pos;have H0:=hH.pos;have iL:L.q*(L.q)⁻¹=1:=Rat.mul_inv_cancel _ (by grind);have iH:H.q*(H.q)⁻¹=1:=Rat.mul_inv_cancel _ (by grind)
    rcases hi with hi | ⟨hi1,hi2⟩
    ·exfalso
     have a:pw 1≤1/H.q:=by
      have:=inv_le H0 hi;rw [two];have e:(1:Rat)/(1/2)=2:=by decide +kernel
      rwa [e] at this
     have a1:=dir_ge dH (fits_pw (by omega) 1) a;have a2:=dir_ge f2 (fits_pw p1 1) a1;have b:1/L.q≤1:=by
      have:=inv_le (show (0:Rat)<1 by decide) lo2;have e:(1:Rat)/1=1:=by decide +kernel
      rwa [e] at this
     have b1:=dir_le dL (fits_one (by omega)) b;have b2:=dir_le g2 (fits_one p1) b1;rw [two] at a2
     grind
    ·refine ⟨(quotZ one H w false).v.q, (quotZ one L w true).v.q, ?_, ?_, f2, g2⟩
     ·unfold EL;rw [if_neg hz,hn,if_pos rfl];refine ⟨H.q,hi1,hi2,?_⟩;have:=Rat.mul_le_mul_of_nonneg_right (IsDown.le dH) (Rat.le_of_lt H0);rw [Rat.div_def,Rat.one_mul,Rat.mul_comm (H.q)⁻¹,iH] at this;exact this
     ·unfold EU;rw [if_neg hz,hn,if_pos rfl];refine ⟨qL.pos,n,?_⟩;have h1:=Rat.mul_le_mul_of_nonneg_right (IsUp.le dL) (Rat.le_of_lt L0);rw [Rat.div_def,Rat.one_mul,Rat.mul_comm (L.q)⁻¹,iL] at h1;exact Rat.le_trans h1 (Rat.mul_le_mul_of_nonneg_left lo4 (Rat.le_of_lt qL.pos))
theorem expL_spec {d:Dy}{p:Nat}{up:Bool}(ok:d.Ok)(p1:1≤p)(p2:p≤300)(hz:d.m≠0)(hd:-400≤d.e∧(d.m≠0→topD (absD d)≤7)):∀ (f w:Nat),17≤w→(expL d p up f w).k=0→ExpS d p up (expL d p up f w).v
 | 0, _, _, h => by
   rw [expL] at h;exact absurd h (by decide)
 | f + 1, w, hw, h => by
   rw [expL] at h ⊢
   split at h
   ·exact absurd h (by decide)
   ·rename_i h1
    rw [if_neg h1]
    split at h
    ·rename_i h2
     rw [if_pos h2];exact round_spec ok p1 p2 hw (by omega) hz hd (sameR_eq h2)
    ·rename_i h2
     rw [if_neg h2];exact expL_spec ok p1 p2 hz hd f _ (by omega) h
theorem expS_zero {d:Dy}{p:Nat}{up:Bool}(p1:1≤p)(hz:d.m=0):ExpS d p up one:=by
 refine ⟨1,1,?_,?_,?_,?_⟩
 ·unfold EL;rw [if_pos hz];exact Rat.le_refl
 ·unfold EU;rw [if_pos hz];exact Rat.le_refl
 ·rw [one_q]; cases up
  ·exact IsDown.of_fits (fits_one p1)
  ·exact IsUp.of_fits (fits_one p1)
 ·rw [one_q]; cases up
  ·exact IsDown.of_fits (fits_one p1)
  ·exact IsUp.of_fits (fits_one p1)
theorem mayX_p {r:Raw}{p:Int}(h:mayX r p=0):mayD r=true∧1≤p∧p≤300:=by
 unfold mayX at h
 split at h
 ·rename_i h1
  simp only [Bool.and_eq_true,Bool.not_eq_true',decide_eq_false_iff_not] at h1;exact ⟨h1.1.1,by omega,by omega⟩
 ·exact absurd h (by decide)
theorem expM_of {d:Dy}{p:Int}(ok:d.Ok)(h:mayX d.raw p=0):ExM d:=fun hz=>by
 have hd:=mayX_facts h;exact ⟨hz,rfl,bl_of_len d.m 64 ok.len,hd.1,hd.2 hz⟩
theorem expD_spec {d:Dy}{p:Nat}{up:Bool}(ok:d.Ok)(h:(expD d p up).k=0):ExM d∧ExpS d p up (expD d p up).v∧mayX d.raw p=0∧1≤p∧p≤300:=by
 unfold expD at h ⊢
 split at h
 ·rename_i h0
  exact absurd h h0
 ·rename_i h0
  have h0':mayX d.raw p=0:=by omega
  obtain ⟨-,p1,p2⟩:=mayX_p h0';rw [if_neg h0]
  split at h
  ·rename_i hz
   rw [if_pos hz];exact ⟨expM_of ok h0',expS_zero (by omega) hz,h0',by omega,by omega⟩
  ·rename_i hz
   rw [if_neg hz];exact ⟨expM_of ok h0',expL_spec ok (by omega) (by omega) hz (mayX_facts h0') _ _ (by omega) h,h0',by omega,by omega⟩
def ovE (a b:Int):Int:=if a=1∨b=1 then 1 else if a=4∨b=4 then 4 else if a=2∨b=2 then 2 else 0
def ovI (a:Iv) (p:Nat):Outc Iv :=
 if ovE (mayX a.lo.raw p) (mayX a.hi.raw p)≠0 then ⟨iz,ovE (mayX a.lo.raw p) (mayX a.hi.raw p)⟩
 else if (expD a.lo p false).k≠0∨(expD a.hi p true).k≠0 then ⟨iz,max (expD a.lo p false).k (expD a.hi p true).k⟩
 else ⟨⟨(expD a.lo p false).v,(expD a.hi p true).v⟩,0⟩
theorem mayX_cases (r:Raw)(p:Int):mayX r p=0∨mayX r p=1∨mayX r p=2∨mayX r p=4:=by
 unfold mayX
 split
 ·split
  ·split<;>simp
  ·simp
 ·simp
theorem ovE_zero {a b:Int}(ha:a=0∨a=1∨a=2∨a=4)(hb:b=0∨b=1∨b=2∨b=4):ovE a b=0↔a=0∧b=0:=by
 unfold ovE
 rcases ha with rfl | rfl | rfl | rfl<;>rcases hb with rfl | rfl | rfl | rfl<;>simp
theorem expL_k (d:Dy)(p:Nat)(up:Bool):∀ f w,(expL d p up f w).k=0∨(expL d p up f w).k=2
 | 0,_=>.inr rfl
 | f + 1, w => by
   rw [expL]
   split
   ·exact .inr rfl
   ·split
    ·exact .inl rfl
    ·exact expL_k d p up f _
theorem expD_k {d:Dy}{p:Nat}{up:Bool}(h:mayX d.raw p=0):(expD d p up).k=0∨(expD d p up).k=2:=by
 unfold expD;rw [if_neg (by rw [h];decide)]
 split
 ·exact .inl rfl
 ·exact expL_k _ _ _ _ _
theorem ovI_good {a:Iv}{p:Nat}(h:(ovI a p).k=0):(expD a.lo p false).k=0∧(expD a.hi p true).k=0∧(ovI a p).v=⟨(expD a.lo p false).v,(expD a.hi p true).v⟩:=by
 unfold ovI at h ⊢
 split at h
 ·rename_i h0
  exact absurd h h0
 ·rename_i h0
  rw [if_neg h0];have h0':=(ovE_zero (mayX_cases a.lo.raw p) (mayX_cases a.hi.raw p)).1 (by omega)
  split at h
  ·rename_i h1
   exfalso
   have h':max (expD a.lo p false).k (expD a.hi p true).k=0:=h
   rcases expD_k (up:=false) h0'.1 with e1 | e1<;>rcases expD_k (up:=true) h0'.2 with e2 | e2<;>omega
  ·rename_i h1
   rw [if_neg h1];exact ⟨by omega,by omega,rfl⟩
theorem ovI_ok (a:Iv)(p:Nat)(ha:a.Ok)(_:1≤p)(_:p≤300):OkI (ovI a p):=by
 by_cases hk:(ovI a p).k=0
 ·obtain ⟨a1, a2, a3⟩ := ovI_good hk;obtain ⟨c1,c2,-⟩:=expD_spec ha.lo a1;obtain ⟨c3,c4,-⟩:=expD_spec ha.hi a2;refine ⟨?_,fun h=>absurd hk h⟩;rw [a3];exact ⟨(expD_ok _ _ _).1,(expD_ok _ _ _).1,c2.order c1 c3 ha.le c4⟩
 ·have hz : (ovI a p).v = iz := by
   unfold ovI at hk ⊢
   split
   ·rfl
   ·split
    ·rfl
    ·rename_i h1 h2
     rw [if_neg h1,if_neg h2] at hk;exact absurd rfl hk
  exact ⟨by rw [hz];exact iz_ok,fun _=>hz⟩
theorem ovI_le {a b:Iv}{p q:Nat}(ha:a.Ok)(hb:b.Ok)(h1:a.lo.q≤b.lo.q)(h2:b.hi.q≤a.hi.q)(hp:p≤q)(ka:(ovI a p).k=0)(kb:(ovI b q).k=0):(ovI a p).v.lo.q≤(ovI b q).v.lo.q∧(ovI b q).v.hi.q≤(ovI a p).v.hi.q:=by
 obtain ⟨a1,a2,a3⟩:=ovI_good ka;obtain ⟨b1,b2,b3⟩:=ovI_good kb;rw [a3,b3];obtain ⟨c1,c2,-⟩:=expD_spec ha.lo a1;obtain ⟨c3,c4,-⟩:=expD_spec ha.hi a2;obtain ⟨d1,d2,-⟩:=expD_spec hb.lo b1;obtain ⟨d3,d4,-⟩:=expD_spec hb.hi b2;exact ⟨c2.down c1 d1 h1 hp d2,d4.up d3 c3 h2 hp c4⟩
end Go.Proofs.YtabjjdicffcolaaGreatDoor
namespace Go.Proofs.YtabjjdicffcolaaGreatDoor
def Wth (a x:Iv):Prop:=x.lo.q≤a.lo.q∧a.hi.q≤x.hi.q
theorem Wth.refl (a:Iv):Wth a a:=⟨Rat.le_refl,Rat.le_refl⟩
theorem Wth.trans {a b c:Iv}(h:Wth a b)(h':Wth b c):Wth a c:=⟨Rat.le_trans h'.1 h.1,Rat.le_trans h.2 h'.2⟩
theorem grow_round {a x:Iv}{n m:Nat}(hm:1≤m)(hn:m≤n)(w:Wth a x)(h1:(roundI a n).k=0)(h2:(roundI x m).k=0):Wth (roundI a n).v (roundI x m).v:=by
 obtain ⟨k1,k2,e⟩:=ends_ok h1;obtain ⟨k3,k4,e'⟩:=ends_ok h2;unfold roundI;rw [e,e'];exact ⟨(dirD_down hm k3).mono (dirD_down (Nat.le_trans hm hn) k1) hn w.1,(dirD_up hm k4).mono (dirD_up (Nat.le_trans hm hn) k2) hn w.2⟩
theorem grow_neg {a x:Iv}{n m:Nat}(hm:1≤m)(hn:m≤n)(w:Wth a x)(h1:(negI a n).k=0)(h2:(negI x m).k=0):Wth (negI a n).v (negI x m).v :=
 grow_round (a:=⟨negD a.hi,negD a.lo⟩) (x:=⟨negD x.hi,negD x.lo⟩) hm hn ⟨by simp only [negD_q];have:=w.2;grind,by simp only [negD_q];have:=w.1;grind⟩ h1 h2
theorem IsRootDown.mono {p p':Nat}{x x' d d':Rat}(h:IsRootDown p x d)(h':IsRootDown p' x' d')(hp:p≤p')(hx:x≤x'):d≤d' :=
 h'.best d (h.fits.mono hp) h.nonneg (Rat.le_trans h.le hx)
theorem IsRootUp.mono {p p':Nat}{x x' d d':Rat}(h:IsRootUp p x d)(h':IsRootUp p' x' d')(hp:p≤p')(hx:x'≤x):d'≤d :=
 h'.best d (h.fits.mono hp) h.nonneg (Rat.le_trans hx h.le)
theorem grow_sqrt {a x:Iv}(ha:a.Ok)(hx:x.Ok){n m:Nat}(hm:1≤m)(hn:m≤n)(w:Wth a x)(h1:(sqrtI a n).k=0)(h2:(sqrtI x m).k=0):Wth (sqrtI a n).v (sqrtI x m).v:=by
 unfold sqrtI at h1 h2 ⊢
 by_cases hs:sg a.lo<0
 ·rw [if_pos hs] at h1;exact absurd h1 (by decide)
 ·by_cases hs' : sg x.lo < 0
  ·rw [if_pos hs'] at h2;exact absurd h2 (by decide)
  ·rw [if_neg hs] at h1 ⊢;rw [if_neg hs'] at h2 ⊢;obtain ⟨n1,n2⟩:=sqrtI_neg ha hs;obtain ⟨n3,n4⟩:=sqrtI_neg hx hs';obtain ⟨k1,k2,e⟩:=ends_ok h1;obtain ⟨k3,k4,e'⟩:=ends_ok h2;rw [e,e'];exact ⟨(rootD_down hm n3 k3).mono (rootD_down (Nat.le_trans hm hn) n1 k1) hn w.1,(rootD_up hm n4 k4).mono (rootD_up (Nat.le_trans hm hn) n2 k2) hn w.2⟩
def end1 (a:Iv) (i:Bool):Dy:=if i then a.hi else a.lo
theorem end1_in {a:Iv}(h:a.lo.q≤a.hi.q)(i:Bool):a.lo.q≤(end1 a i).q∧(end1 a i).q≤a.hi.q:=by
 cases i
 ·exact ⟨Rat.le_refl,h⟩
 ·exact ⟨h,Rat.le_refl⟩
theorem divI_spec {a b:Iv}(hb:b.Ok){p:Nat}(hp:1≤p)(hk:(divI a b p).k=0):¬(b.lo.q≤0∧0≤b.hi.q) ∧
 (∃ i j,IsDown p ((end1 a i).q/(end1 b j).q) (divI a b p).v.lo.q)∧(∃ i j,IsUp p ((end1 a i).q/(end1 b j).q) (divI a b p).v.hi.q) ∧
 (∀ i j,∃ d,IsDown p ((end1 a i).q/(end1 b j).q) d∧(divI a b p).v.lo.q≤d)∧(∀ i j,∃ d,IsUp p ((end1 a i).q/(end1 b j).q) d∧d≤(divI a b p).v.hi.q):=by
 unfold divI at hk ⊢
 by_cases hz:hasZero b=true
 ·rw [if_pos hz] at hk;exact absurd hk (by decide)
 ·rw [if_neg hz] at hk ⊢;have hz':¬(b.lo.q≤0∧0≤b.hi.q):=fun h=>hz ((hasZero_iff b).2 h)
  obtain ⟨n1,n2⟩:=hasZero_nz hb hz;obtain ⟨k1,k2,k3,k4,e⟩:=four_ok hk;rw [e] at hk ⊢;obtain ⟨k5,k6,k7,k8,e⟩:=four_ok hk;rw [e];simp only;obtain ⟨l1,l2,l3,l4⟩:=least4 (x:=(quotD a.lo b.lo p false).v) (y:=(quotD a.lo b.hi p false).v) (z:=(quotD a.hi b.lo p false).v) (u:=(quotD a.hi b.hi p false).v);obtain ⟨g1,g2,g3,g4⟩:=greatest4 (x:=(quotD a.lo b.lo p true).v) (y:=(quotD a.lo b.hi p true).v) (z:=(quotD a.hi b.lo p true).v) (u:=(quotD a.hi b.hi p true).v);have d1:=quotD_down hp n1 k1;have d2:=quotD_down hp n2 k2;have d3:=quotD_down hp n1 k3;have d4:=quotD_down hp n2 k4;have u1:=quotD_up hp n1 k5
  have u2:=quotD_up hp n2 k6;have u3:=quotD_up hp n1 k7;have u4:=quotD_up hp n2 k8;refine ⟨hz',?_,?_,?_,?_⟩
  ·rcases least4_mem (x := (quotD a.lo b.lo p false).v) (y := (quotD a.lo b.hi p false).v) (z := (quotD a.hi b.lo p false).v) (u := (quotD a.hi b.hi p false).v) with h | h | h | h <;> rw [h]
   ·exact ⟨false,false,d1⟩
   ·exact ⟨false,true,d2⟩
   ·exact ⟨true,false,d3⟩
   ·exact ⟨true,true,d4⟩
  ·rcases greatest4_mem (x := (quotD a.lo b.lo p true).v) (y := (quotD a.lo b.hi p true).v) (z := (quotD a.hi b.lo p true).v) (u := (quotD a.hi b.hi p true).v) with h | h | h | h <;> rw [h]
   ·exact ⟨false,false,u1⟩
   ·exact ⟨false,true,u2⟩
   ·exact ⟨true,false,u3⟩
   ·exact ⟨true,true,u4⟩
  ·intro i j;cases i<;>cases j
   ·exact ⟨_,d1,l1⟩
   ·exact ⟨_,d2,l2⟩
   ·exact ⟨_,d3,l3⟩
   ·exact ⟨_,d4,l4⟩
  ·intro i j;cases i<;>cases j
   ·exact ⟨_,u1,g1⟩
   ·exact ⟨_,u2,g2⟩
   ·exact ⟨_,u3,g3⟩
   ·exact ⟨_,u4,g4⟩
theorem inv_antiW {u v:Rat}(h:u≤v)(hs:0<u∨v<0):v⁻¹≤u⁻¹:=by
 rcases hs with h1 | h1
 ·exact inv_anti h1 h
 ·exact inv_antiN h1 h
theorem min4 (a b c d:Rat):∃ L,(L=a∨L=b∨L=c∨L=d)∧L≤a∧L≤b∧L≤c∧L≤d:=by
 have two:∀ x y:Rat,∃ L,(L=x∨L=y)∧L≤x∧L≤y:=fun x y=>by
  rcases Rat.le_total (a:=x) (b:=y) with h | h
  ·exact ⟨x,.inl rfl,Rat.le_refl,h⟩
  ·exact ⟨y,.inr rfl,h,Rat.le_refl⟩
 obtain ⟨x,hx,x1,x2⟩:=two a b;obtain ⟨y,hy,y1,y2⟩:=two c d;obtain ⟨L,hL,l1,l2⟩:=two x y;refine ⟨L,?_,by grind,by grind,by grind,by grind⟩
 rcases hL with rfl | rfl
 ·rcases hx with h | h
  ·exact .inl h
  ·exact .inr (.inl h)
 ·rcases hy with h | h
  ·exact .inr (.inr (.inl h))
  ·exact .inr (.inr (.inr h))
theorem max4 (a b c d:Rat):∃ L,(L=a∨L=b∨L=c∨L=d)∧a≤L∧b≤L∧c≤L∧d≤L:=by
 obtain ⟨L,h,h1,h2,h3,h4⟩:=min4 (-a) (-b) (-c) (-d);exact ⟨-L,by grind,by grind,by grind,by grind,by grind⟩
theorem div_between {x y:Iv}(hz:¬(y.lo.q≤0∧0≤y.hi.q)){u v:Rat}(u1:x.lo.q≤u)(u2:u≤x.hi.q)(v1:y.lo.q≤v)(v2:v≤y.hi.q) :
 (∃ i j,(end1 x i).q/(end1 y j).q≤u/v)∧(∃ i j,u/v≤(end1 x i).q/(end1 y j).q):=by
 have hs:0<y.lo.q∨y.hi.q<0:=by grind
 have i1:y.hi.q⁻¹≤v⁻¹:=inv_antiW v2 (by grind);have i2:v⁻¹≤y.lo.q⁻¹:=inv_antiW v1 (by grind);simp only [Rat.div_def];constructor
 ·obtain ⟨L, hL, l1, l2, l3, l4⟩ := min4 (x.lo.q * y.hi.q⁻¹) (x.lo.q * y.lo.q⁻¹) (x.hi.q * y.hi.q⁻¹) (x.hi.q * y.lo.q⁻¹);have h:=bilin u1 u2 i1 i2 l1 l2 l3 l4
  rcases hL with e | e | e | e
  ·exact ⟨false,true,by rw [e] at h;exact h⟩
  ·exact ⟨false,false,by rw [e] at h;exact h⟩
  ·exact ⟨true,true,by rw [e] at h;exact h⟩
  ·exact ⟨true,false,by rw [e] at h;exact h⟩
 ·obtain ⟨L, hL, l1, l2, l3, l4⟩ := max4 (x.lo.q * y.hi.q⁻¹) (x.lo.q * y.lo.q⁻¹) (x.hi.q * y.hi.q⁻¹) (x.hi.q * y.lo.q⁻¹);have h:=bilin' u1 u2 i1 i2 l1 l2 l3 l4
  rcases hL with e | e | e | e
  ·exact ⟨false,true,by rw [e] at h;exact h⟩
  ·exact ⟨false,false,by rw [e] at h;exact h⟩
  ·exact ⟨true,true,by rw [e] at h;exact h⟩
  ·exact ⟨true,false,by rw [e] at h;exact h⟩
theorem grow_div {a b x y:Iv}(ha:a.Ok)(hb:b.Ok)(hy:y.Ok){n m:Nat}(hm:1≤m)(hn:m≤n)(w:Wth a x)(w':Wth b y)(h1:(divI a b n).k=0)(h2:(divI x y m).k=0):Wth (divI a b n).v (divI x y m).v:=by
 obtain ⟨-,⟨i,j,d⟩,⟨i',j',d'⟩,-,-⟩:=divI_spec hb (Nat.le_trans hm hn) h1;obtain ⟨z,-,-,lo,hi⟩:=divI_spec hy hm h2;constructor
 ·have e1 := end1_in ha.le i;have e2:=end1_in hb.le j;obtain ⟨⟨r,s,hr⟩,-⟩:=div_between z (Rat.le_trans w.1 e1.1) (Rat.le_trans e1.2 w.2) (Rat.le_trans w'.1 e2.1) (Rat.le_trans e2.2 w'.2);obtain ⟨t,t1,t2⟩:=lo r s;exact Rat.le_trans t2 (t1.mono d hn hr)
 ·have e1 := end1_in ha.le i';have e2:=end1_in hb.le j';obtain ⟨-,⟨r,s,hr⟩⟩:=div_between z (Rat.le_trans w.1 e1.1) (Rat.le_trans e1.2 w.2) (Rat.le_trans w'.1 e2.1) (Rat.le_trans e2.2 w'.2);obtain ⟨t,t1,t2⟩:=hi r s;exact Rat.le_trans (t1.mono d' hn hr) t2
theorem grow_one {a b x y:Iv}(ha:a.Ok)(hb:b.Ok)(hx:x.Ok)(hy:y.Ok){n m:Nat}(hm:1≤m)(hn:m≤n)(w:Wth a x)(w':Wth b y){op:Int}(h1:(oneI ovI op a b n).k=0)(h2:(oneI ovI op x y m).k=0) :
 Wth (oneI ovI op a b n).v (oneI ovI op x y m).v:=by
 unfold oneI at h1 h2 ⊢
 by_cases c6:op=6
 ·simp only [if_pos c6] at h1 h2 ⊢;exact grow_add hm hn w.1 w.2 w'.1 w'.2 h1 h2
 by_cases c7:op=7
 ·simp only [if_neg c6,if_pos c7] at h1 h2 ⊢;exact grow_sub hm hn w.1 w.2 w'.1 w'.2 h1 h2
 by_cases c8:op=8
 ·simp only [if_neg c6,if_neg c7,if_pos c8] at h1 h2 ⊢;exact grow_mul ha.le hb.le hm hn w.1 w.2 w'.1 w'.2 h1 h2
 by_cases c9:op=9
 ·simp only [if_neg c6,if_neg c7,if_neg c8,if_pos c9] at h1 h2 ⊢;exact grow_div ha hb hy hm hn w w' h1 h2
 by_cases c10:op=10
 ·simp only [if_neg c6,if_neg c7,if_neg c8,if_neg c9,if_pos c10] at h1 h2 ⊢;exact grow_neg hm hn w h1 h2
 by_cases c11:op=11
 ·simp only [if_neg c6,if_neg c7,if_neg c8,if_neg c9,if_neg c10,if_pos c11] at h1 h2 ⊢;exact grow_sqr ha.le hm hn w.1 w.2 h1 h2
 by_cases c12:op=12
 ·simp only [if_neg c6,if_neg c7,if_neg c8,if_neg c9,if_neg c10,if_neg c11,if_pos c12] at h1 h2 ⊢;exact grow_sqrt ha hx hm hn w h1 h2
 ·simp only [if_neg c6, if_neg c7, if_neg c8, if_neg c9, if_neg c10, if_neg c11, if_neg c12] at h1 h2 ⊢;exact ovI_le hx ha w.1 w.2 hn h2 h1
def Lmb (k:Int):Prop:=k=0∨k=2∨k=3
theorem fitD_lmb (neg:Bool)(n:Nat)(e:Int):Lmb (fitD neg n e).k:=by
 unfold fitD Lmb
 split
 ·exact .inl rfl
 ·split
  ·exact .inr (.inl rfl)
  ·split
   ·exact .inr (.inr rfl)
   ·split
    ·exact .inr (.inr rfl)
    ·exact .inl rfl
theorem sumC_lmb (a b:Dy):Lmb (sumC a b).k:=by
 unfold sumC
 split
 ·exact .inr (.inl rfl)
 ·split
  ·exact fitD_lmb _ _ _
  ·split
   ·exact fitD_lmb _ _ _
   ·exact fitD_lmb _ _ _
theorem sumD_lmb (a b:Dy):Lmb (sumD a b).k:=by
 unfold sumD
 split
 ·exact .inl rfl
 ·split
  ·exact .inl rfl
  ·split
   ·exact sumC_lmb _ _
   ·exact sumC_lmb _ _
theorem bind_lmb {α β:Type}{o:Outc α}{z:β}{f:α→Outc β}(h:Lmb o.k)(h':o.k=0→Lmb (f o.v).k):Lmb (o.bind z f).k:=by
 unfold Outc.bind
 split
 ·rename_i h0
  exact h' h0
 ·exact h
theorem ends_lmb {a b:Outc Dy}(h:Lmb a.k)(h':Lmb b.k):Lmb (ends a b).k:=bind_lmb h fun _=>bind_lmb h' fun _=>.inl rfl
theorem rndD_lmb {o:Outc Dy}(p:Nat)(up:Bool)(h:Lmb o.k):Lmb (rndD o p up).k:=bind_lmb h fun _=>fitD_lmb _ _ _
theorem four_lmb {a b c d:Outc Dy}{f:Dy→Dy→Dy→Dy→Outc Iv}(h1:Lmb a.k)(h2:Lmb b.k)(h3:Lmb c.k)(h4:Lmb d.k)(h:∀ x y z u,Lmb (f x y z u).k):Lmb (four a b c d f).k :=
 bind_lmb h1 fun _=>bind_lmb h2 fun _=>bind_lmb h3 fun _=>bind_lmb h4 fun _=>h _ _ _ _
theorem round_lmb (a:Iv)(p:Nat):Lmb (roundI a p).k:=ends_lmb (fitD_lmb _ _ _) (fitD_lmb _ _ _)
theorem add_lmb (a b:Iv)(p:Nat):Lmb (addI a b p).k:=ends_lmb (rndD_lmb _ _ (sumD_lmb _ _)) (rndD_lmb _ _ (sumD_lmb _ _))
theorem mul_lmb (a b:Iv)(p:Nat):Lmb (mulI a b p).k:=four_lmb (fitD_lmb _ _ _) (fitD_lmb _ _ _) (fitD_lmb _ _ _) (fitD_lmb _ _ _) fun _ _ _ _=>ends_lmb (fitD_lmb _ _ _) (fitD_lmb _ _ _)
theorem sqr_lmb (a:Iv)(p:Nat):Lmb (sqrI a p).k:=bind_lmb (fitD_lmb _ _ _) fun _=>bind_lmb (fitD_lmb _ _ _) fun _=>ends_lmb (fitD_lmb _ _ _) (fitD_lmb _ _ _)
theorem div_lmb (a b:Iv)(p:Nat)(h:¬hasZero b=true):Lmb (divI a b p).k:=by
 unfold divI;rw [if_neg h];exact four_lmb (fitD_lmb _ _ _) (fitD_lmb _ _ _) (fitD_lmb _ _ _) (fitD_lmb _ _ _) fun _ _ _ _=>four_lmb (fitD_lmb _ _ _) (fitD_lmb _ _ _) (fitD_lmb _ _ _) (fitD_lmb _ _ _) fun _ _ _ _=>.inl rfl
theorem sqrt_lmb (a:Iv)(p:Nat)(h:¬sg a.lo<0):Lmb (sqrtI a p).k:=by
 unfold sqrtI;rw [if_neg h];exact ends_lmb (fitD_lmb _ _ _) (fitD_lmb _ _ _)
theorem mayX_dom {r:Raw}{p:Int}(h:mayX r p=0∨mayX r p=2):mayD r=true∧1≤p∧p≤300∧r.dy.q≤far.q∧(negD far).q≤r.dy.q:=by
 unfold mayX at h
 split at h
 ·rename_i h1
  simp only [Bool.and_eq_true,Bool.not_eq_true',decide_eq_false_iff_not] at h1
  split at h
  ·rename_i h2
   simp only [Bool.and_eq_true,decide_eq_true_eq] at h2;have a:=cmpQ_le.1 h2.1;have b:=cmpQ_ge.1 h2.2;exact ⟨h1.1.1,by omega,by omega,a,b⟩
  ·simp at h
 ·simp at h
theorem mayX_in {r:Raw}{p:Int}(h0:mayD r=true)(h1:1≤p)(h2:p≤300)(h3:r.dy.q≤far.q)(h4:(negD far).q≤r.dy.q):mayX r p=0∨mayX r p=2:=by
 unfold mayX;have c1:(mayD r&&!decide (p<1)&&!decide (300<p))=true:=by simp [h0];omega
 have c2:(decide (cmpQ r.dy.q far.q≤0)&&decide (0≤cmpQ r.dy.q (negD far).q))=true:=by simp only [Bool.and_eq_true,decide_eq_true_eq];exact ⟨cmpQ_le.2 h3,cmpQ_ge.2 h4⟩
 rw [if_pos c1,if_pos c2]
 split
 ·exact .inr rfl
 ·exact .inl rfl
theorem ov_lmb {a x:Iv}{n m:Nat}(ha:a.Ok)(n1:1≤n)(n2:n≤300)(w:Wth a x)(h:(ovI x m).k=0):Lmb (ovI a n).k:=by
 obtain ⟨k1,k2,-⟩:=ovI_good h;have hm:∀ {d:Dy} {up:Bool},(expD d m up).k=0→mayX d.raw m=0:=fun hk=>by
  unfold expD at hk
  split at hk
  ·rename_i h0
   exact absurd hk h0
  ·rename_i h0
   omega
 have l1:=mayX_dom (.inl (hm k1));have l2:=mayX_dom (.inl (hm k2));simp only [Dy.raw_dy] at l1 l2;have hle:=ha.le;have a1:mayX a.lo.raw n=0∨mayX a.lo.raw n=2:=mayX_in ha.lo.may (by omega) (by omega) (by rw [Dy.raw_dy];have:=w.2;have:=l2.2.2.2.1;grind) (by rw [Dy.raw_dy];have:=w.1;have:=l1.2.2.2.2;grind);have a2:mayX a.hi.raw n=0∨mayX a.hi.raw n=2:=mayX_in ha.hi.may (by omega) (by omega) (by rw [Dy.raw_dy];have:=w.2;have:=l2.2.2.2.1;grind) (by rw [Dy.raw_dy];have:=w.1;have:=l1.2.2.2.2;grind);have he:ovE (mayX a.lo.raw n) (mayX a.hi.raw n)=0∨ovE (mayX a.lo.raw n) (mayX a.hi.raw n)=2:=by
  rcases a1 with a1 | a1<;>rcases a2 with a2 | a2<;>rw [a1,a2]<;>simp [ovE]
 unfold ovI
 split
 ·rename_i h0
  rcases he with he | he
  ·exact absurd he h0
  ·exact .inr (.inl he)
 ·rename_i h0
  have h00:=(ovE_zero (mayX_cases a.lo.raw n) (mayX_cases a.hi.raw n)).1 (by omega)
  split
  ·show Lmb (max _ _)
   unfold Lmb
   rcases expD_k (up:=false) h00.1 with e1 | e1<;>rcases expD_k (up:=true) h00.2 with e2 | e2<;>rw [e1,e2]<;>decide
  ·exact .inl rfl
theorem one_lmb {a b x y:Iv}(ha:a.Ok){n m:Nat}(n1:1≤n)(n2:n≤300)(w:Wth a x)(w':Wth b y){op:Int}(h:(oneI ovI op x y m).k=0):Lmb (oneI ovI op a b n).k:=by
 unfold oneI at h ⊢
 by_cases c6:op=6
 ·simp only [if_pos c6];exact add_lmb _ _ _
 by_cases c7:op=7
 ·simp only [if_neg c6,if_pos c7];exact add_lmb a ⟨negD b.hi,negD b.lo⟩ n
 by_cases c8:op=8
 ·simp only [if_neg c6,if_neg c7,if_pos c8];exact mul_lmb _ _ _
 by_cases c9:op=9
 ·simp only [if_neg c6, if_neg c7, if_neg c8, if_pos c9] at h ⊢;refine div_lmb _ _ _ fun hz=>?_
  have hz':=(hasZero_iff b).1 hz;have hy:hasZero y=true:=(hasZero_iff y).2 ⟨by have:=w'.1;grind,by have:=w'.2;grind⟩;unfold divI at h;rw [if_pos hy] at h;exact absurd h (by decide)
 by_cases c10:op=10
 ·simp only [if_neg c6,if_neg c7,if_neg c8,if_neg c9,if_pos c10];exact ends_lmb (fitD_lmb _ _ _) (fitD_lmb _ _ _)
 by_cases c11:op=11
 ·simp only [if_neg c6,if_neg c7,if_neg c8,if_neg c9,if_neg c10,if_pos c11];exact sqr_lmb _ _
 by_cases c12:op=12
 ·simp only [if_neg c6, if_neg c7, if_neg c8, if_neg c9, if_neg c10, if_neg c11, if_pos c12] at h ⊢;refine sqrt_lmb _ _ fun hs=>?_
  have hx2:sg x.lo<0:=by
   rw [sg_q] at hs ⊢;have h1:=cmpQ_lt.1 hs;have:=w.1;exact cmpQ_lt.2 (by grind)
  unfold sqrtI at h;rw [if_pos hx2] at h;exact absurd h (by decide)
 ·simp only [if_neg c6, if_neg c7, if_neg c8, if_neg c9, if_neg c10, if_neg c11, if_neg c12] at h ⊢;exact ov_lmb ha n1 n2 w h
end Go.Proofs.YtabjjdicffcolaaGreatDoor
