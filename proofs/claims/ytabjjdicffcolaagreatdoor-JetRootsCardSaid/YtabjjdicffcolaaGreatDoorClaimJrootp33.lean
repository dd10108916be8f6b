/- Words and contracts, part 33. -/
import Derived.Test.YtabjjdicffcolaaGreatDoorClaimJrootp30
import Derived.Test.YtabjjdicffcolaaGreatDoorClaimJrootp32
set_option maxRecDepth 100000
set_option maxHeartbeats 0
namespace Go.Proofs.YtabjjdicffcolaaGreatDoor
theorem Gj {neg:Bool}{n:Nat}{e:Int}(h0:n≠0)(hb:bl n-tz n≤4096)(h1:-1048576≤e)(h2:bl n+e≤1048576) :
 (Bw neg n e).v.m≠0∧Bb (Bw neg n e).v=bl n+e∧bl (Bw neg n e).v.m=bl n-tz n:=by
 have ht:tz n<bl n:=M9 n (bl n) h0 (Bd n);have hd:bl (n/2^tz n)=bl n-tz n:=Mi _ _;have hl:(Aj (n/2^tz n)).length≤64:=Nn (k:=64) (by omega);unfold Bw;rw [if_neg h0,if_neg (by omega),if_neg (by omega),if_neg (by omega)];refine ⟨?_,?_,hd⟩
 ·show n/2^tz n≠0
  intro h;rw [h,Gr] at hd;omega
 ·show ((bl (n/2^tz n):Nat):Int)+(e+tz n)=bl n+e
  omega
theorem Su {neg:Bool}{m:Nat}{e:Int}{rest:Bool}{p:Nat}{up:Bool}(hm:m≠0)(p1:1≤p)(p2:p≤2000)(h1:-1000000≤e)(h2:bl m+e≤1000000) :
 (Iu neg m e rest p up).v.m≠0∧bl (Iu neg m e rest p up).v.m≤p∧Bb (Iu neg m e rest p up).v≤bl m+e+1:=by
 unfold Iu;have hp:=Co m hm;have hb:bl (m/2^(bl m-p))=bl m-(bl m-p):=Mi _ _;have h2':Eb m rest p (up != neg)≤m/2^(bl m-p)+1∧m/2^(bl m-p)≤Eb m rest p (up != neg):=by
  unfold Eb Ie;simp only;split<;>omega
 have h3:=Bd (m/2^(bl m-p));have h5:2^bl (m/2^(bl m-p))≤2^p:=Nat.pow_le_pow_right (by decide) (by omega);have hz:Eb m rest p (up != neg)≠0:=by
  intro h;rw [h] at h2';have h0:m/2^(bl m-p)=0:=Nat.le_zero.1 h2'.2;rw [h0,Gr] at hb;omega
 have h6:bl (Eb m rest p (up != neg))≤bl (m/2^(bl m-p))+1:=Ej _ _ (by
  have:=Nat.two_pow_succ (bl (m/2^(bl m-p)));have:=Nat.two_pow_pos (bl (m/2^(bl m-p)));generalize m/2^(bl m-p)=z at *;omega)
 have h7:bl (Eb m rest p (up != neg))-tz (Eb m rest p (up != neg))≤p:=by
  by_cases hl:bl (Eb m rest p (up != neg))≤p
  ·omega
  ·have h8:=Dl _ hz;have h9:2^p≤2^(bl (Eb m rest p (up != neg))-1):=Nat.pow_le_pow_right (by decide) (by omega);have h10:Eb m rest p (up != neg)=2^p:=by
    generalize m/2^(bl m-p)=z at *;omega
   have h11:tz (Eb m rest p (up != neg))=p:=Hx _ p 1 rfl (by rw [h10,Nat.one_mul]);omega
 obtain ⟨a,b,c⟩:=Gj (neg:=neg) (e:=e+((bl m-p:Nat):Int)) hz (by omega) (by omega) (by omega);exact ⟨a,by omega,by omega⟩
theorem Ao1 {j:Nat}(j1:1≤j)(j2:j≤1000000):(ofN j).m≠0∧1≤Bb (ofN j)∧Bb (ofN j)≤20∧bl (ofN j).m≤20:=by
 have hb:bl j≤20:=Ej _ _ (by omega);have hp:=Co j (by omega);obtain ⟨a,b,c⟩:=Gj (neg:=false) (n:=j) (e:=0) (by omega) (by omega) (by decide) (by omega);exact ⟨a,by unfold ofN;omega,by unfold ofN;omega,by unfold ofN;omega⟩
theorem Tq {p:Nat}{up:Bool}{r t:Dy}{j:Nat}(p1:1≤p)(p2:p≤2000)(hr:r.m≠0)(hr1:-500≤r.e)(hr2:Bb r≤-8)(ht:t.m≠0)(ht1:bl t.m≤p)(ht2:-3000≤Bb t)(ht3:Bb t≤100)
 (j1:1≤j) (j2:j≤1000000):(Cj p up r t j).m≠0∧bl (Cj p up r t j).m≤p∧Bb (Cj p up r t j)≤Bb t-6:=by
 obtain ⟨b1,b2,b3,b4⟩:=Ao1 j1 j2;have hbt:=Co _ ht;have hbr:=Co _ hr;unfold Bb at hr2 ht2 ht3;have hmz:t.m*r.m≠0:=Nat.mul_ne_zero ht hr;have hmb:=F9 (Nat.le_refl (bl t.m)) (Nat.le_refl (bl r.m));have hmp:=Co _ hmz;obtain ⟨c1,c2,c3⟩:=Gj (neg:=t.neg != r.neg) (n:=t.m*r.m) (e:=t.e+r.e) hmz (by omega) (by omega) (by omega);unfold Cj Ch;rw [if_neg b1];obtain ⟨a,ha⟩:∃ a,a=(Bq t r).v:=⟨_,rfl⟩;have c1:a.m≠0:=by rw [ha];exact c1
 have c2:Bb a=bl (t.m*r.m)+(t.e+r.e):=by rw [ha];exact c2
 have c3:bl a.m≤bl (t.m*r.m):=by rw [ha];show bl (Bw _ _ _).v.m≤_;omega
 rw [←ha];generalize ofN j=b at *;have hba:=Co _ c1;have hbb:=Co _ b1;unfold Bb at c2 b2 b3;unfold Bh;have hK:Bu a b p=p+1+bl b.m-bl a.m:=rfl;have hq:=Px a.m b.m p c1 b1 (Bu a b p) (by omega);have hk:bl (2^Bu a b p)≤Bu a b p+1:=Ej _ _ (Nat.pow_lt_pow_right (by decide) (by omega));have hm2:=F9 (Nat.le_refl (bl a.m)) hk;have hd:=Rv (x:=a.m*2^Bu a b p) b1;have hz:a.m*2^Bu a b p/b.m≠0:=by intro h;rw [h,Gr] at hq;omega
 obtain ⟨x,y,z⟩:=Su (neg:=a.neg != b.neg) (rest:=decide (¬a.m*2^Bu a b p%b.m=0)) (up:=up) (e:=a.e-b.e-Bu a b p) hz p1 p2 (by omega) (by omega);exact ⟨x,y,by unfold Bb at *;omega⟩
theorem Zc {p:Nat}{up:Bool}{r:Dy}(p1:1≤p)(p2:p≤2000)(hr:r.m≠0)(hr1:-500≤r.e)(hr2:Bb r≤-8):∀ (f j:Nat) (s t:Dy),t.m≠0→bl t.m≤p→-(p:Int)-8≤Bb t→Bb t≤100 →
 Bb t < -(p:Int)-8+6*f→1≤j→j+f≤1000000→∃ o,Gf p up r f j s t=some o
 | 0,j,s,t,_,_,h1,_,h2,_,_=>by omega
 | f + 1, j, s, t, ht, ht1, h1, h3, h2, j1, j2 => by
   obtain ⟨a,b,c⟩:=Tq (up:=up) p1 p2 hr hr1 hr2 ht ht1 (by omega) h3 j1 (by omega);rw [Gf];split
   ·exact ⟨_,rfl⟩
   ·exact Zc p1 p2 hr hr1 hr2 f (j+1) _ _ a b (by omega) (by omega) (by omega) (by omega) (by omega)
theorem Abj        {p : Nat} {up : Bool} {r : Dy} (p1 : 1 ≤ p) (p2 : p ≤ 2000) (hr : r.m ≠ 0) (hr1 : -500 ≤ r.e) (hr2 : Bb   r ≤ -8) : ∃ o, Gf    p up r 400 1 one one = some o :=
 Zc       p1 p2 hr hr1 hr2 400 1 one one (by decide) (by have : bl one.m = 1 := by decide
                                                         omega) (by have : Bb   one = 1 := by decide
                                                                    omega) (by decide) (by have : Bb   one = 1 := by decide
                                                                                           omega) (by decide) (by decide)
theorem So {d:Dy}(h0:d.m≠0)(hl:bl d.m≤4096)(h1:-400≤d.e)(h2:Bb d≤7):(Hb d).m≠0∧-500≤(Hb d).e∧Bb (Hb d)≤-8:=by
 have hp:=Co _ h0;have h2':=h2;unfold Bb at h2';have hK:(Cp d:Int)=max (Bb d+8) 0:=by unfold Cp;omega
 obtain ⟨a,b,c⟩:=Gj (neg:=d.neg) (n:=d.m) (e:=d.e+-(Cp d:Int)) h0 (by omega) (by omega) (by omega);unfold Hb Gw;rw [if_neg h0,if_neg (by omega)];have ht:tz d.m<bl d.m:=M9 d.m (bl d.m) h0 (Bd d.m);refine ⟨a,?_,?_⟩
 ·have b':=b;unfold Bb at b';omega
 ·rw [b];unfold Bb at hK;omega
end Go.Proofs.YtabjjdicffcolaaGreatDoor
namespace Go.Proofs.YtabjjdicffcolaaGreatDoor
open Go.Lib (hid)
open Go.RowKit
def Ey (p:Nat) (up:Bool) (d:Dy):Dy × Dy:=(Gf p up (Hb (Ck d)) 400 1 one one).getD (one,one)
def bnE (d:Dy) (w:Nat):Dy × Dy:=L8 w d (Ir w false d (Ey w false d)) (Ir w true d (Ey w true d))
def exX (d:Dy) (p w:Nat) (up:Bool):Dy:=Hw p up (bnE d w).1
def exY (d:Dy) (p w:Nat) (up:Bool):Dy:=Hw p up (bnE d w).2
def Oq (d:Dy) (p:Nat) (up:Bool):Nat→Nat→Outc Dy
 | 0,_=>bad 2
 | f+1,w=>if 2000<w then bad 2 else if Kr (exX d p w up).raw (exY d p w up).raw=true then good (exX d p w up) else Oq d p up f (w+w/2)
def Du (d:Dy) (p:Nat) (up:Bool):Outc Dy:=if Ff d.raw p≠0 then bad (Ff d.raw p) else if d.m=0 then good one else Oq d p up 2000 (p+40)
theorem Af0 (d:Dy)(p w:Nat)(up:Bool):(exX d p w up).Ok:=Nw _ _ _
theorem Acm (d:Dy)(p:Nat)(up:Bool):∀ f w,(Oq d p up f w).Ok
 | 0,_=>Mh _
 | f + 1, w => by
   rw [Oq];split
   ·exact Mh _
   ·split
    ·exact Pj (Af0 _ _ _ _)
    ·exact Acm d p up f _
theorem Wz (d:Dy)(p:Nat)(up:Bool):(Du d p up).Ok:=by
 unfold Du;split
 ·exact Mh _
 ·split
  ·exact Pj I5
  ·exact Acm _ _ _ _ _
def ExB (S:Nat) (z:Bool) (d:Dy) (v:Value) (w:World):Prop:=∃ b,v=.pointer (some ⟨b,0,none⟩)∧S≤b∧(z=false→Blk w b (.bool false) (.slice none 0 0) (.int .i64 0)) ∧
 (z=true→∃ A l c,Blk w b (.bool d.neg) (.slice A l c) (.int .i64 d.e)∧DyR w (.agg #[.bool d.neg,.slice A l c,.int .i64 d.e]) d.raw)
theorem ExB.kept {S:Nat}{z:Bool}{d:Dy}{v:Value}{w w':World}(h:ExB S z d v w)(k:Kept w w'):ExB S z d v w':=by
 obtain ⟨b,h1,h2,h4,h5⟩:=h;exact ⟨b,h1,h2,fun e=>(h4 e).kept k,fun e=>by obtain ⟨A,l,c,a1,a2⟩:=h5 e;exact ⟨A,l,c,a1.kept k,a2.kept k⟩⟩
theorem ExB.ne {S:Nat}{z:Bool}{d:Dy}{v:Value}{w:World}(h:ExB S z d v w):v≠.pointer (some ⟨w.heap.size,0,none⟩):=by
 obtain ⟨b,rfl,h2,h4,h5⟩:=h;intro e;have hb:b<w.heap.size:=by
  cases z with
  | false=>exact (h4 rfl).facts.1
  | true=>obtain ⟨A,l,c,a1,a2⟩:=h5 rfl;exact a1.facts.1
 cases e;omega
theorem ExB.new {S:Nat}(d:Dy){w:World}(h:S≤w.heap.size):ExB S false d (.pointer (some ⟨w.heap.size,0,none⟩)) (w.alloc (.cells #[.bool false,.slice none 0 0,.int .i64 0] 28)) :=
 ⟨_,rfl,h,fun _=>Ds _,fun e=>by cases e⟩
theorem ExB.other {S b0:Nat}{z:Bool}{d:Dy}{v:Value}{w:World}(h:ExB S z d v w)(hb:Blk w b0 (.bool false) (.slice none 0 0) (.int .i64 0))(hv:v≠.pointer (some ⟨b0,0,none⟩))(x' y' z':Value) :
 ExB S z d v (dyW w b0 x' y' z'):=by
 obtain ⟨b,h1,h2,h4,h5⟩:=h;have hne:¬b=b0:=fun e=>hv (by rw [h1,e])
 refine ⟨b,h1,h2,fun e=>(h4 e).laid_other hne _ _ _,fun e=>?_⟩;obtain ⟨A,l,c,a1,a2⟩:=h5 e;exact ⟨A,l,c,a1.laid_other hne _ _ _,a2.dyW hb (Ag _) (Ae _ _ _) (Ah _) _ _ _⟩
theorem ExB.laid {S b0:Nat}{d:Dy}{w:World}{A:Option Addr}{l c:Nat}(hb:Blk w b0 (.bool false) (.slice none 0 0) (.int .i64 0))(hS:S≤b0)(hd:DyR w (.agg #[.bool d.neg,.slice A l c,.int .i64 d.e]) d.raw) :
 ExB S true d (.pointer (some ⟨b0,0,none⟩)) (dyW w b0 (.bool d.neg) (.slice A l c) (.int .i64 d.e)) :=
 ⟨_,rfl,hS,fun e=>(by cases e),fun _=>⟨A,l,c,hb.laid _ _ _,hd.dyW hb (Ag _) (Ae _ _ _) (Ah _) _ _ _⟩⟩
def ExG (S:Nat) (x y:Dy) (L:Nat→Bool) (u:Nat→Value) (w:World):Prop :=
 (L 10=true→ExB S (L 12) x (u 10) w)∧(L 11=true→ExB S (L 13) y (u 11) w)∧(L 10=true→L 11=true→u 10≠u 11)∧(L 10=false→L 12=false)∧(L 11=false→L 13=false)
theorem ExG.keep {S:Nat}{x y:Dy}{L:Nat→Bool}{u:Nat→Value}{w w':World}{i:Nat}{v:Value}(hE:(i==10||i==11||i==12||i==13)=false)(k:Kept w w')(h:ExG S x y L u w):ExG S x y (upd L i true) (upd u i v) w':=by
 simp only [Bool.or_eq_false_iff,beq_eq_false_iff_ne] at hE;obtain ⟨⟨⟨h10,h11⟩,h12⟩,h13⟩:=hE;obtain ⟨a,b,c,d,e⟩:=h;have u1:∀ {α:Type} (f:Nat→α) (x:α) (j:Nat),¬i=j→upd f i x j=f j:=fun f x j hj=>by unfold upd;rw [if_neg (fun e=>hj e.symm)]
 refine ⟨?_,?_,?_,?_,?_⟩<;>simp only [u1 _ _ 10 h10,u1 _ _ 11 h11,u1 _ _ 12 h12,u1 _ _ 13 h13]
 ·exact fun q=>(a q).kept k
 ·exact fun q=>(b q).kept k
 ·exact c
 ·exact d
 ·exact e
theorem ExG.put10 {S:Nat}{x y:Dy}{L:Nat→Bool}{u:Nat→Value}{w:World}(hS:S≤w.heap.size)(h:ExG S x y L u w)(h0:L 10=false) :
 ExG S x y (upd L 10 true) (upd u 10 (.pointer (some ⟨w.heap.size,0,none⟩))) (w.alloc (.cells #[.bool false,.slice none 0 0,.int .i64 0] 28)):=by
 obtain ⟨a,b,c,d,e⟩:=h;have h12:=d h0;unfold ExG;simp only [upd,reduceIte,Nat.reduceEqDiff,h12];exact ⟨fun _=>ExB.new x hS,fun q=>(b q).kept (Ad _ _),fun _ q=>fun e=>(b q).ne e.symm,fun q=>trivial,e⟩
theorem ExG.put11 {S:Nat}{x y:Dy}{L:Nat→Bool}{u:Nat→Value}{w:World}(hS:S≤w.heap.size)(h:ExG S x y L u w)(h0:L 11=false) :
 ExG S x y (upd L 11 true) (upd u 11 (.pointer (some ⟨w.heap.size,0,none⟩))) (w.alloc (.cells #[.bool false,.slice none 0 0,.int .i64 0] 28)):=by
 obtain ⟨a,b,c,d,e⟩:=h;have h13:=e h0;unfold ExG;simp only [upd,reduceIte,Nat.reduceEqDiff,h13];exact ⟨fun q=>(a q).kept (Ad _ _),fun _=>ExB.new y hS,fun q _=>(a q).ne,d,fun q=>trivial⟩
theorem ExG.put12 {S b0:Nat}{x y:Dy}{L:Nat→Bool}{u:Nat→Value}{w:World}{A:Option Addr}{l c:Nat}{v:Value}(h:ExG S x y L u w)(h0:L 10=true)(e0:u 10=.pointer (some ⟨b0,0,none⟩))(hS:S≤b0)
 (hb:Blk w b0 (.bool false) (.slice none 0 0) (.int .i64 0)) (hd:DyR w (.agg #[.bool x.neg,.slice A l c,.int .i64 x.e]) x.raw) :
 ExG S x y (upd L 12 true) (upd u 12 v) (dyW w b0 (.bool x.neg) (.slice A l c) (.int .i64 x.e)):=by
 obtain ⟨a,b,c,d,e⟩:=h;unfold ExG;simp only [upd,reduceIte,Nat.reduceEqDiff,h0];refine ⟨fun _=>by rw [e0];exact ExB.laid hb hS hd,fun q=>(b q).other hb (fun ee=>c h0 q (e0.trans ee.symm)) _ _ _,fun _ q=>c h0 q,fun q=>by (cases q),e⟩
theorem ExG.put13 {S b0:Nat}{x y:Dy}{L:Nat→Bool}{u:Nat→Value}{w:World}{A:Option Addr}{l c:Nat}{v:Value}(h:ExG S x y L u w)(h0:L 11=true)(e0:u 11=.pointer (some ⟨b0,0,none⟩))(hS:S≤b0)
 (hb:Blk w b0 (.bool false) (.slice none 0 0) (.int .i64 0)) (hd:DyR w (.agg #[.bool y.neg,.slice A l c,.int .i64 y.e]) y.raw) :
 ExG S x y (upd L 13 true) (upd u 13 v) (dyW w b0 (.bool y.neg) (.slice A l c) (.int .i64 y.e)):=by
 obtain ⟨a,b,c,d,e⟩:=h;unfold ExG;simp only [upd,reduceIte,Nat.reduceEqDiff,h0];refine ⟨fun q=>(a q).other hb (fun ee=>c q h0 (ee.trans e0.symm)) _ _ _,fun _=>by rw [e0];exact ExB.laid hb hS hd,fun q _=>c q h0,d,fun q=>by (cases q)⟩
def Ce (f:Nat→Rat):Nat→Rat
 | 0=>0
 | n+1=>Ce f n+f n
theorem G8 {f g:Nat→Rat}:∀ n,(∀ i,i<n→f i=g i)→Ce f n=Ce g n
 | 0,_=>rfl
 | n + 1, h => by
   rw [Ce,Ce,G8 n (fun i hi=>h i (by omega)),h n (by omega)]
theorem Kx (a:Rat)(f:Nat→Rat):∀ n,Ce (fun i=>a*f i) n=a*Ce f n
 | 0=>by simp [Ce]
 | n + 1 => by
   rw [Ce,Ce,Kx a f n];grind
theorem Qy (f g:Nat→Rat):∀ n,Ce (fun i=>f i+g i) n=Ce f n+Ce g n
 | 0=>by simp only [Ce];grind
 | n + 1 => by
   rw [Ce,Ce,Ce,Qy f g n];grind
theorem Ri (f:Nat→Rat):∀ n,Ce f (n+1)=f 0+Ce (fun i=>f (i+1)) n
 | 0=>by simp only [Ce];grind
 | n + 1 => by
   rw [Ce,Ri f n,Ce];grind
theorem P4 {f:Nat→Rat}:∀ n,(∀ i,i<n→0≤f i)→0≤Ce f n
 | 0,_=>Rat.le_refl
 | n + 1, h => by
   have h1:=P4 n (fun i hi=>h i (by omega));have h2:=h n (by omega);rw [Ce];grind
theorem Un {f g:Nat→Rat}:∀ n,(∀ i,i<n→f i≤g i)→Ce f n≤Ce g n
 | 0,_=>Rat.le_refl
 | n + 1, h => by
   have h1:=Un n (fun i hi=>h i (by omega));have h2:=h n (by omega);rw [Ce,Ce];grind
def eT (x:Rat):Nat→Rat
 | 0=>1
 | n+1=>eT x n*x/((n+1:Nat):Rat)
def eS (x:Rat) (n:Nat):Rat:=Ce (eT x) n
theorem succ_pos (n:Nat):(0:Rat)<((n+1:Nat):Rat):=by exact_mod_cast Nat.succ_pos n
theorem R9 (x:Rat)(n:Nat):((n+1:Nat):Rat)*eT x (n+1)=x*eT x n:=by
 have h:=succ_pos n;rw [eT];generalize ((n+1:Nat):Rat)=k at *;rw [Rat.div_def];have hk:k*k⁻¹=1:=Rat.mul_inv_cancel k (by grind);grind
theorem Gx {x:Rat}(h:0≤x):∀ n,0≤eT x n
 | 0=>show (0:Rat)≤1 by decide
 | n + 1 => by
   rw [eT,Rat.div_def];exact Rat.mul_nonneg (Rat.mul_nonneg (Gx h n) h) (Rat.le_of_lt (Rat.inv_pos.2 (succ_pos n)))
def conv (x y:Rat) (k:Nat):Rat:=Ce (fun i=>eT x i*eT y (k-i)) (k+1)
theorem Adq (x y:Rat)(k:Nat):((k+1:Nat):Rat)*conv x y (k+1)=(x+y)*conv x y k:=by
 have A:Ce (fun i=>(i:Rat)*(eT x i*eT y (k+1-i))) (k+1+1)=x*conv x y k:=by
  rw [Ri];have e:Ce (fun i=>((i+1:Nat):Rat)*(eT x (i+1)*eT y (k+1-(i+1)))) (k+1)=Ce (fun i=>x*(eT x i*eT y (k-i))) (k+1):=G8 _ (fun i hi=>by
   have h:=R9 x i;have e:k+1-(i+1)=k-i:=by omega
   rw [e];grind)
  rw [e,Kx];unfold conv;have z:((0:Nat):Rat)=0:=rfl;rw [z];grind
 have B:Ce (fun i=>((k+1-i:Nat):Rat)*(eT x i*eT y (k+1-i))) (k+1+1)=y*conv x y k:=by
  rw [Ce];have e:Ce (fun i=>((k+1-i:Nat):Rat)*(eT x i*eT y (k+1-i))) (k+1)=Ce (fun i=>y*(eT x i*eT y (k-i))) (k+1):=G8 _ (fun i hi=>by
   have h:=R9 y (k-i);have e:k+1-i=k-i+1:=by omega
   rw [e];grind)
  rw [e,Kx];unfold conv;have z:((k+1-(k+1):Nat):Rat)=0:=by rw [Nat.sub_self];rfl
  rw [z];grind
 have C:Ce (fun i=>((k+1:Nat):Rat)*(eT x i*eT y (k+1-i))) (k+1+1)=Ce (fun i=>(i:Rat)*(eT x i*eT y (k+1-i))+((k+1-i:Nat):Rat)*(eT x i*eT y (k+1-i))) (k+1+1) :=
  G8 _ (fun i hi=>by
   have e:((k+1:Nat):Rat)=(i:Rat)+((k+1-i:Nat):Rat):=by
    rw [←Rat.natCast_add]
    congr 1
    omega
   rw [e];grind)
 rw [Qy,A,B,Kx] at C;unfold conv at *;grind
theorem Acc (x y:Rat):∀ k,conv x y k=eT (x+y) k
 | 0=>by simp only [conv,Ce,Nat.sub_self,eT];grind
 | k + 1 => by
   have h:=Adq x y k;have h2:=R9 (x+y) k;rw [Acc x y k] at h;rw [←h2] at h;have hp:=succ_pos k;generalize ((k+1:Nat):Rat)=q at *;have hk:q*q⁻¹=1:=Rat.mul_inv_cancel q (by grind);grind
theorem Ack {x:Rat}(h:0≤x){m:Nat}:∀ {n:Nat},m≤n→eS x m≤eS x n
 | 0, hm => by
   have e:m=0:=by omega
   rw [e];exact Rat.le_refl
 | n + 1, hm => by
   by_cases e:m=n+1
   ·rw [e];exact Rat.le_refl
   ·have h1:=Ack h (m:=m) (n:=n) (by omega);have h2:=Gx h n;have h3:eS x (n+1)=eS x n+eT x n:=rfl;grind
theorem Aa5 (x:Rat):eS x 1=1:=by
 show (0:Rat)+1=1
 grind
theorem Amh {x:Rat}(h:0≤x){n:Nat}(hn:1≤n):1≤eS x n:=by
 have:=Ack h hn;rwa [Aa5] at this
theorem Qd {x:Rat}(h:0≤x)(n:Nat):0≤eS x n:=P4 _ (fun i _=>Gx h i)
theorem Acl {x y:Rat}(h:0≤x)(hy:x≤y):∀ n,eT x n≤eT y n
 | 0=>Rat.le_refl
 | n + 1 => by
   have h1:=Acl h hy n;have h2:eT x n*x≤eT y n*x:=Rat.mul_le_mul_of_nonneg_right h1 h;have h3:eT y n*x≤eT y n*y:=Rat.mul_le_mul_of_nonneg_left hy (Gx (Rat.le_trans h hy) n);rw [eT,eT,Rat.div_def,Rat.div_def];exact Rat.mul_le_mul_of_nonneg_right (Rat.le_trans h2 h3) (Rat.le_of_lt (Rat.inv_pos.2 (succ_pos n)))
theorem Ai4 {x y:Rat}(h:0≤x)(hy:x≤y)(n:Nat):eS x n≤eS y n:=Un n (fun i _=>Acl h hy i)
theorem Um (x y:Rat):∀ n,Ce (conv x y) n=Ce (fun i=>eT x i*eS y (n-i)) n
 | 0=>rfl
 | n + 1 => by
   have e:Ce (fun i=>eT x i*eS y (n+1-i)) (n+1)=Ce (fun i=>eT x i*eS y (n-i)+eT x i*eT y (n-i)) (n+1):=G8 _ (fun i hi=>by
    have e:n+1-i=n-i+1:=by omega
    have e2:eS y (n-i+1)=eS y (n-i)+eT y (n-i):=rfl;rw [e,e2];grind)
   rw [e,Qy,Ce,Um x y n];have h:Ce (fun i=>eT x i*eS y (n-i)) (n+1)=Ce (fun i=>eT x i*eS y (n-i)) n:=by
    rw [Ce,Nat.sub_self];have z:eS y 0=0:=rfl;rw [z];grind
   rw [h];rfl
theorem Amg {x y:Rat}(hx:0≤x)(hy:0≤y)(n:Nat):eS (x+y) n≤eS x n*eS y n:=by
 have h1:eS (x+y) n=Ce (conv x y) n:=G8 n (fun i _=>(Acc x y i).symm);rw [h1,Um];have h2:Ce (fun i=>eT x i*eS y (n-i)) n≤Ce (fun i=>eS y n*eT x i) n:=Un n (fun i _=>by
  have h3:=Rat.mul_le_mul_of_nonneg_left (Ack hy (m:=n-i) (n:=n) (by omega)) (Gx hx i);grind)
 rw [Kx] at h2;have h4:Ce (eT x) n=eS x n:=rfl;rw [h4] at h2;grind
theorem Mm {neg:Bool}{n:Nat}{e:Int}(h0:n≠0)(hb:bl n-tz n≤4096)(h1:-1048576≤e)(h2:bl n+e≤1048576) :
 (Bw neg n e).k=0∧(Bw neg n e).v.neg=neg:=by
 have ht:tz n<bl n:=M9 n (bl n) h0 (Bd n);have hl:(Aj (n/2^tz n)).length≤64:=Nn (k:=64) (by rw [Mi];omega);unfold Bw;rw [if_neg h0,if_neg (by omega),if_neg (by omega),if_neg (by omega)];exact ⟨rfl,rfl⟩
theorem Aa0 {neg:Bool}{m:Nat}{e:Int}{rest:Bool}{p:Nat}{up:Bool}(hm:m≠0)(p1:1≤p)(p2:p≤2000)(h1:-1000000≤e)(h2:bl m+e≤1000000) :
 (Iu neg m e rest p up).k=0∧(Iu neg m e rest p up).v.neg=neg∧bl m+e≤Bb (Iu neg m e rest p up).v:=by
 unfold Iu;have hp:=Co m hm;have hb:bl (m/2^(bl m-p))=bl m-(bl m-p):=Mi _ _;have h2':Eb m rest p (up != neg)≤m/2^(bl m-p)+1∧m/2^(bl m-p)≤Eb m rest p (up != neg):=by
  unfold Eb Ie;simp only;split<;>omega
 have h3:=Bd (m/2^(bl m-p));have h4:=Gq h2'.2;have hz:Eb m rest p (up != neg)≠0:=by
  intro h;rw [h,Gr] at h4;omega
 have h6:bl (Eb m rest p (up != neg))≤bl (m/2^(bl m-p))+1:=Ej _ _ (by
  have:=Nat.two_pow_succ (bl (m/2^(bl m-p)));have:=Nat.two_pow_pos (bl (m/2^(bl m-p)));generalize m/2^(bl m-p)=z at *;omega)
 obtain ⟨a,b⟩:=Mm (neg:=neg) (e:=e+((bl m-p:Nat):Int)) hz (by omega) (by omega) (by omega);obtain ⟨c,d,-⟩:=Gj (neg:=neg) (e:=e+((bl m-p:Nat):Int)) hz (by omega) (by omega) (by omega);exact ⟨a,b,by omega⟩
theorem Aat {x y:Nat}(h:y≠0):bl x≤bl (x/y)+bl y:=by
 by_cases hx:x=0
 ·rw [hx,Gr];omega
 ·refine Ej _ _ ?_;have h1:=Bd (x/y);have h2:=Bd y;have h3:=Nat.lt_mul_div_succ x (Nat.pos_of_ne_zero h);have h4:y*(x/y+1)≤2^bl y*2^bl (x/y):=Nat.mul_le_mul (Nat.le_of_lt h2) h1;rw [←Nat.pow_add] at h4;rw [Nat.add_comm];omega
theorem Ql {x y:Nat}(hx:x≠0)(hy:y≠0):bl x+bl y≤bl (x*y)+1:=by
 have h1:=Dl x hx;have h2:=Dl y hy;have h3:=Nat.mul_le_mul h1 h2;rw [←Nat.pow_add] at h3;have h4:=Nat.lt_of_le_of_lt h3 (Bd (x*y));have h5:=(Nat.pow_lt_pow_iff_right (by decide:1<2)).1 h4;have:=Co x hx;have:=Co y hy;omega
theorem Abk {p:Nat}{up:Bool}{r t:Dy}{j:Nat}(p1:1≤p)(p2:p≤2000)(hr:r.m≠0)(rn:r.neg=false)(hr1:-500≤r.e)(hr2:Bb r≤-8)(ht:t.m≠0)(tn:t.neg=false)(ht1:bl t.m≤p)(ht2:-3000≤Bb t)(ht3:Bb t≤100)
 (j1:1≤j) (j2:j≤1000000):(Cj p up r t j).neg=false∧Fq up p (t.q*r.q/(j:Rat)) (Cj p up r t j).q∧Bb t+Bb r-25≤Bb (Cj p up r t j):=by
 obtain ⟨b1,b2,b3,b4⟩:=Ao1 j1 j2;have hjq:(ofN j).q=(j:Rat):=by
  have hb:bl j≤20:=Ej _ _ (by omega);have h:=Lh (Mm (neg:=false) (n:=j) (e:=0) (by omega) (by omega) (by decide) (by omega)).1
  show (Bw false j 0).v.q=_
  rw [h,Fp,Rat.mul_one];rfl
 have hbt:=Co _ ht;have hbr:=Co _ hr;unfold Bb at hr2 ht2 ht3;have hmz:t.m*r.m≠0:=Nat.mul_ne_zero ht hr;have hmb:=F9 (Nat.le_refl (bl t.m)) (Nat.le_refl (bl r.m));have hmp:=Co _ hmz;have hmg:=Ql ht hr;obtain ⟨c1,c2,c3⟩:=Gj (neg:=t.neg != r.neg) (n:=t.m*r.m) (e:=t.e+r.e) hmz (by omega) (by omega) (by omega);obtain ⟨c4,c5⟩:=Mm (neg:=t.neg != r.neg) (n:=t.m*r.m) (e:=t.e+r.e) hmz (by omega) (by omega) (by omega);have hmq:(Bq t r).v.q=t.q*r.q:=Ls c4;unfold Cj Ch;rw [if_neg b1,←hjq,←hmq];obtain ⟨a,ha⟩:∃ a,a=(Bq t r).v:=⟨_,rfl⟩;have c1:a.m≠0:=by rw [ha];exact c1
 have c2:Bb a=bl (t.m*r.m)+(t.e+r.e):=by rw [ha];exact c2
 have c3:bl a.m≤bl (t.m*r.m):=by rw [ha];show bl (Bw _ _ _).v.m≤_;omega
 have c5:a.neg=false:=by rw [ha];refine Eq.trans c5 ?_;rw [tn,rn];rfl
 have b5:(ofN j).neg=false:=by
  have hb:bl j≤20:=Ej _ _ (by omega);exact (Mm (neg:=false) (n:=j) (e:=0) (by omega) (by omega) (by decide) (by omega)).2
 rw [←ha];clear hmq ha hjq;generalize ofN j=b at *;have hba:=Co _ c1;have hbb:=Co _ b1;unfold Bb at c2 b2 b3;have hK:Bu a b p=p+1+bl b.m-bl a.m:=rfl;have hq:=Px a.m b.m p c1 b1 (Bu a b p) (by omega);have hk:bl (2^Bu a b p)≤Bu a b p+1:=Ej _ _ (Nat.pow_lt_pow_right (by decide) (by omega));have hm2:=F9 (Nat.le_refl (bl a.m)) hk;have hk1:Bu a b p+1≤bl (2^Bu a b p):=by
  have h:=Bd (2^Bu a b p);have h2:=(Nat.pow_lt_pow_iff_right (by decide:1<2)).1 h;omega
 have hm3:=Ql c1 (Nat.ne_of_gt (Nat.two_pow_pos (Bu a b p)));have hd:=Rv (x:=a.m*2^Bu a b p) b1;have hd2:=Aat (x:=a.m*2^Bu a b p) b1;have hz:a.m*2^Bu a b p/b.m≠0:=by intro h;rw [h,Gr] at hq;omega
 obtain ⟨x,y,z⟩:=Aa0 (neg:=a.neg != b.neg) (rest:=decide (¬a.m*2^Bu a b p%b.m=0)) (up:=up) (e:=a.e-b.e-Bu a b p) hz p1 p2 (by omega) (by omega);refine ⟨?_,Nv p1 b1 x,?_⟩
 ·refine Eq.trans y ?_;rw [c5,b5];rfl
 ·have z':(bl (a.m*2^Bu a b p/b.m):Int)+(a.e-b.e-Bu a b p)≤Bb (Bh a b p up).v:=z;unfold Bb at z' ⊢;omega
theorem Afw (w:World):DyR w (.agg #[.bool false,.slice none 0 0,.int .i64 0]) (bad 2:Outc Dy).raw.v:=by
 have h:(bad 2:Outc Dy).raw.v=rz:=E5;rw [h];exact Ca w
theorem Ak8     {w:World}{v:Value}{d:Dy}{p:Nat}{up:Bool}(hv:DyR w v d.raw)(ok:d.Ok)(p1:1≤p)(p2:p≤300)(hT:Tab w)(h0:Ff   d.raw p=0)(hz:d.m≠0)
 (hB:∀ wk:Nat,1≤wk→wk≤2000→∀ w1,Kept w w1→Calls Tryz.prog 184 #[v,.int .i64 (wk:Int)] w1 (Ae7 (bnE d wk).1.raw (bnE d wk).2.raw w1))
 (hO:∀ wk,(bnE d wk).1.Ok∧(bnE d wk).2.Ok) :
 Calls Tryz.prog 144 #[v,.int .i64 (p:Int),.bool up] w (RetE (Oq d p up 2000 (p+40)).raw w):=by
 have C:=hid (fun w1 (k:Kept w w1)=>Ut (p:=(p:Int)) (hv.kept k) (by have:=Dx ok;omega) (hT.kept k));rw [h0] at C;have CB:=hid hB;have C1:=hid (fun (wk:Nat) w1 v (k:Kept w w1) (h:DyR w1 v (bnE d wk).1.raw)=>show Calls Tryz.prog 185 #[.agg #[.int .i64 (p:Int),.bool up],v] w1 (RetD (exX d p wk up).raw w1) from Nb h (hO wk).1 p1 (by omega) (hT.kept k));have C2:=hid (fun (wk:Nat) w1 v (k:Kept w w1) (h:DyR w1 v (bnE d wk).2.raw)=>show Calls Tryz.prog 185 #[.agg #[.int .i64 (p:Int),.bool up],v] w1 (RetD (exY d p wk up).raw w1) from Nb h (hO wk).2 p1 (by omega) (hT.kept k))
 have CS:=hid (fun (wk:Nat) w1 v u (h:DyR w1 v (exX d p wk up).raw) (h2:DyR w1 u (exY d p wk up).raw)=>show Calls Tryz.prog 35 #[v,u] w1 (RetK (.bool (Kr (exX d p wk up).raw (exY d p wk up).raw)) w1) from
  Ww h h2 (by have:=Dx (Af0 d p wk up);omega))
 obtain ⟨A,l,c,rfl,hl,-,-,-⟩:=hv.shape;have hl0:((l:Int)==0)=false:=by
  have:=Bj d.m hz;rw [beq_eq_false_iff_ne,hl]
  show ((Aj d.m).length:Int)≠0
  omega
 clear hv hl hT ok hz h0 hB hO;obtain ⟨fu,hf0⟩:∃ f,f=2000:=⟨_,rfl⟩;rw [←hf0];obtain ⟨o,ho⟩:∃ o,o=Oq d p up fu (p+40):=⟨_,rfl⟩;rw [←ho];have HO:=hid ho;have HF:=hid hf0;clear ho hf0;generalize hn1:d.raw.neg=n1 at *;generalize he1:d.raw.e=e1 at *;clear hn1 he1;obtain ⟨W,hW,kW,BA,BR⟩:=Lb w (.bool n1) (.slice A l c) (.int .i64 e1);have HW:=hid hW;have K:=hid kW;have HA:=hid BA;have HB:=hid BR;obtain ⟨-,a0,a1,a2,-⟩:=BA.facts;clear hW kW BA BR;go_enter Tryz.func144,Tryz.ntmps144;go_upto_region 1 with fail;rw [←HW.out];go_step3;go_wp2_with fail;refine (C.out _ K.out).mono ?_;rintro ee w1 ⟨rfl,q⟩
 simp only [];replace K:=hid (K.out.trans q);replace HA:=hid (HA.out.kept q);replace HB:=hid (HB.out.kept q);clear q a0 a1 a2 HW C;obtain ⟨-,a0,a1,a2,-⟩:=HA.out.facts;go_wp2_with fail;go_step3;go_wp2_with fail;clear a0 a1 a2 hl0
 go_loopw [9] (fun j wr=>∃ f wk:Nat,j=.int .i64 (wk:Int)∧2≤wk∧2000<wk+f∧Oq d p up f wk=o∧wk≤3000∧Kept w wr∧Blk wr w.heap.size (.bool n1) (.slice A l c) (.int .i64 e1) ∧
  Blk wr (w.heap.size+1) (.bool false) (.slice none 0 0) (.int .i64 0)) (fun j _=>(3001-intOf j).toNat)
 case atStart=>exact ⟨fu,p+40,by simp,by omega,by have:=HF.out;omega,HO.out.symm,by omega,K.out,HA.out,HB.out⟩
 case round =>
  clear HO K HA HB;obtain ⟨f,wk,rfl,hw1,hw2,hE,hw3,hK,hA,hB⟩:=hrel;have K:=hid hK;have HA:=hid hA;have HB:=hid hB;have HE:=hid hE;clear hK hA hB hE;obtain ⟨-,a0,a1,a2,-⟩:=HA.out.facts;obtain ⟨-,x0,x1,x2,y0,y1,y2⟩:=HB.out.facts;cases f with
  | zero =>
    have hwk:2000<wk:=by omega
    have ho:o=bad 2:=HE.out.symm;subst ho;clear HE;go_wp2_with fail;exact D7 (HB.out.laid _ _ _) rfl rfl rfl ⟨Am K.out (by omega),_,rfl,Afw _⟩
  | succ f =>
    have hE:=HE.out;rw [Oq] at hE;by_cases hwk:2000<wk
    ·rw [if_pos hwk] at hE;subst hE;clear HE;go_wp2_with fail;exact D7 (HB.out.laid _ _ _) rfl rfl rfl ⟨Am K.out (by omega),_,rfl,Afw _⟩
    ·rw [if_neg hwk] at hE;replace HE:=hid hE;have hwk':wk≤2000:=by omega
     clear hE hwk;have CBw:=hid (CB.out wk (by omega) hwk');go_wp2_with fail;refine (CBw.out _ K.out).mono ?_;rintro ee w2 ⟨q,va,vb,rfl,h1,h2⟩;obtain ⟨A1,j1,c1,rfl,h1⟩:=Bg h1;obtain ⟨A2,j2,c2,rfl,h2⟩:=Bg h2;simp only [];obtain ⟨W2,hW2,kW2,BL,BH⟩:=Wo w2 (.bool (bnE d wk).1.neg) (.slice A1 j1 c1) (.int .i64 (bnE d wk).1.e) (.bool (bnE d wk).2.neg) (.slice A2 j2 c2) (.int .i64 (bnE d wk).2.e);have HW2:=hid hW2;have kk:=q.trans kW2;have lR:w.heap.size+1<w2.heap.size:=Nat.lt_of_lt_of_le HB.out.facts.1 q.size;have lW:w2.heap.size≤W2.heap.size:=kW2.size;replace K:=hid (K.out.trans kk)
     replace HA:=hid (HA.out.kept kk);replace HB:=hid (HB.out.kept kk);have HL:=hid BL;have HH:=hid BH;have ZL:=hid (h1.kept kW2);have ZH:=hid (h2.kept kW2);clear hW2 kW2 BL BH q h1 h2 kk CBw a0 a1 a2 x0 x1 x2 y0 y1 y2;replace C1:=hid (C1.out wk);replace C2:=hid (C2.out wk);replace CS:=hid (CS.out wk);generalize bnE d wk=lh at *;obtain ⟨lo,hi⟩:=lh;generalize hxe:exX d p wk up=x at *;generalize hye:exY d p wk up=y at *;clear hxe hye;go_upto_region 10 with fail;rw [←HW2.out];clear HW2;generalize w2.heap.size=b10 at *;have NN:∀ b:Nat,b∉([]:List Nat):=fun b=>by simp
     refine Re (m:=14) (E:=fun i=>i==10||i==11||i==12||i==13) (G:=fun L u w'=>ExG W2.heap.size x y L u w') (J:=fun L w=>KB W2 [] w∧(fun L w'=>True) L w) (l:=[(vE (.int .i64 (p:Int))),(vE (.bool up)),(vE (.agg #[.int .i64 (p:Int),.bool up])),(vE (.agg #[.bool lo.neg,.slice A1 j1 c1,.int .i64 lo.e])),(fun v wv=>DyR wv v x.raw),(vE (.int .i64 (p:Int))),(vE (.bool up)),(vE (.agg #[.int .i64 (p:Int),.bool up])),(vE (.agg #[.bool hi.neg,.slice A2 j2 c2,.int .i64 hi.e])),(fun v wv=>DyR wv v y.raw),(fun v _=>∃ b,v=.pointer (some ⟨b,0,none⟩)),(fun v _=>∃ b,v=.pointer (some ⟨b,0,none⟩)),(fun v _=>True),(fun v _=>True)])
      (by kernel_rfl) (fun i hE L u v w w' k h=>by exact ExG.keep hE k h) (by exact ⟨fun e=>(by cases e),fun e=>(by cases e),fun e=>(by cases e),fun _=>rfl,fun _=>rfl⟩) rfl (by kernel_rfl) (by kernel_rfl) (by kernel_rfl) ⟨mE,mE,mE,mE,mD,mE,mE,mE,mE,mD,fun v w w' k h=>by first | exact h | exact h.kept k | exact ⟨h.1,h.2.kept k⟩,fun v w w' k h=>by first | exact h | exact h.kept k | exact ⟨h.1,h.2.kept k⟩,fun v w w' k h=>by first | exact h | exact h.kept k | exact ⟨h.1,h.2.kept k⟩,fun v w w' k h=>by first | exact h | exact h.kept k | exact ⟨h.1,h.2.kept k⟩,trivial⟩ ⟨(KB.refl _ _).drew,(by trivial)⟩ (⟨
        (.inl ⟨rfl,fun LF aF wF F=>by
      have FK:KB W2 [] wF:=F.frame.1;have fj:=F.frame.2;refine ⟨fun wq kq=>⟨FK.step kq,by trivial⟩,?_⟩;have s1:=F.q 1 (.int .i64 (p:Int))
      exact sv rfl⟩),
       (.inl ⟨rfl,fun LF aF wF F=>by
      have FK:KB W2 [] wF:=F.frame.1;have fj:=F.frame.2;refine ⟨fun wq kq=>⟨FK.step kq,by trivial⟩,?_⟩;have s2:=F.q 2 (.bool up)
      exact sv rfl⟩),
       (.inl ⟨rfl,fun LF aF wF F=>by
      have FK:KB W2 [] wF:=F.frame.1;have fj:=F.frame.2;refine ⟨fun wq kq=>⟨FK.step kq,by trivial⟩,?_⟩;have s42:=F.v 0 42;have s43:=F.v 1 43;simp only [Array.getD_eq_getD_getElem?] at s42;simp only [Array.getD_eq_getD_getElem?] at s43
      exact sv rfl⟩),
       (.inl ⟨rfl,fun LF aF wF F=>by
      have FK:KB W2 [] wF:=F.frame.1;have fj:=F.frame.2;refine ⟨fun wq kq=>⟨FK.step kq,by trivial⟩,?_⟩;have s10:=F.q 10 (.pointer (some ⟨b10,0,none⟩));have c0:=Bx HL.out FK (NN _) 0 _ rfl;have c1:=Bx HL.out FK (NN _) 1 _ rfl;have c2:=Bx HL.out FK (NN _) 2 _ rfl
      exact sv rfl⟩),
       (.inl ⟨rfl,fun LF aF wF F=>by
      have FK:KB W2 [] wF:=F.frame.1;have fj:=F.frame.2;refine ⟨fun wq kq=>⟨FK.step kq,by trivial⟩,?_⟩;have s44:=F.v 2 44;have s45:=F.v 3 45
      exact Ar (by simp [Region.wanted]) (by go_simp) (C1.out _ _ (K.out.trans FK.nil) (ZL.out.kept FK.nil)) (fun _ _ h=>RetD.good h) (fun _ _ h=>h)⟩),
       (.inl ⟨rfl,fun LF aF wF F=>by
      have FK:KB W2 [] wF:=F.frame.1;have fj:=F.frame.2;refine ⟨fun wq kq=>⟨FK.step kq,by trivial⟩,?_⟩;have s1:=F.q 1 (.int .i64 (p:Int))
      exact sv rfl⟩),
       (.inl ⟨rfl,fun LF aF wF F=>by
      have FK:KB W2 [] wF:=F.frame.1;have fj:=F.frame.2;refine ⟨fun wq kq=>⟨FK.step kq,by trivial⟩,?_⟩;have s2:=F.q 2 (.bool up)
      exact sv rfl⟩),
       (.inl ⟨rfl,fun LF aF wF F=>by
      have FK:KB W2 [] wF:=F.frame.1;have fj:=F.frame.2;refine ⟨fun wq kq=>⟨FK.step kq,by trivial⟩,?_⟩;have s47:=F.v 5 47;have s48:=F.v 6 48;simp only [Array.getD_eq_getD_getElem?] at s47;simp only [Array.getD_eq_getD_getElem?] at s48
      exact sv rfl⟩),
       (.inl ⟨rfl,fun LF aF wF F=>by
      have FK:KB W2 [] wF:=F.frame.1;have fj:=F.frame.2;refine ⟨fun wq kq=>⟨FK.step kq,by trivial⟩,?_⟩;have s11:=F.q 11 (.pointer (some ⟨b10+1,0,none⟩));have c0:=Bx HH.out FK (NN _) 0 _ rfl;have c1:=Bx HH.out FK (NN _) 1 _ rfl;have c2:=Bx HH.out FK (NN _) 2 _ rfl
      exact sv rfl⟩),
       (.inl ⟨rfl,fun LF aF wF F=>by
      have FK:KB W2 [] wF:=F.frame.1;have fj:=F.frame.2;refine ⟨fun wq kq=>⟨FK.step kq,by trivial⟩,?_⟩;have s49:=F.v 7 49;have s50:=F.v 8 50
      exact Ar (by simp [Region.wanted]) (by go_simp) (C2.out _ _ (K.out.trans FK.nil) (ZH.out.kept FK.nil)) (fun _ _ h=>RetD.good h) (fun _ _ h=>h)⟩),
       (.inr fun LF uF aF wF F FV=>by
      have FK:KB W2 [] wF:=F.frame.1;have fj:=F.frame.2
      exact O8 (by simp [Region.wanted]) (by go_simp) ⟨(FK.nil.trans (Ad _ _)).kb [],trivial⟩ (Jf _ ⟨.inr vS,.inr vS,.inr vS,.inr vS,.inr (fun u h=>by first | exact h.kept (Ad _ _) | exact h),.inr vS,.inr vS,.inr vS,.inr vS,.inr (fun u h=>by first | exact h.kept (Ad _ _) | exact h),.inl rfl,.inr (fun u h=>by first | exact h.kept (Ad _ _) | exact h),.inr (fun u h=>h),.inr (fun u h=>h),trivial⟩) ⟨_,rfl⟩ (FV.g.put10 FK.size F.yet)),
       (.inr fun LF uF aF wF F FV=>by
      have FK:KB W2 [] wF:=F.frame.1;have fj:=F.frame.2
      exact O8 (by simp [Region.wanted]) (by go_simp) ⟨(FK.nil.trans (Ad _ _)).kb [],trivial⟩ (Jf _ ⟨.inr vS,.inr vS,.inr vS,.inr vS,.inr (fun u h=>by first | exact h.kept (Ad _ _) | exact h),.inr vS,.inr vS,.inr vS,.inr vS,.inr (fun u h=>by first | exact h.kept (Ad _ _) | exact h),.inr (fun u h=>by first | exact h.kept (Ad _ _) | exact h),.inl rfl,.inr (fun u h=>h),.inr (fun u h=>h),trivial⟩) ⟨_,rfl⟩ (FV.g.put11 FK.size F.yet)),
       (.inr fun LF uF aF wF F FV=>by
      have FK:KB W2 [] wF:=F.frame.1;have fj:=F.frame.2;have s12:=F.p 10 12;have s46:=F.p 4 46
      obtain ⟨b,hb,hS,B0,-⟩:=FV.g.1 (F.wait 10 (by kernel_rfl));replace B0:=B0 F.yet;have e12:=(FV.eq 10 12 (by kernel_rfl) rfl).trans hb;clear s12;obtain ⟨A3,j3,c3,e46,z1⟩:=Bg s46;obtain ⟨-,y0,y1,y2,g0,g1,g2⟩:=B0.facts;exact L4 (w':=dyW wF b (.bool x.neg) (.slice A3 j3 c3) (.int .i64 x.e)) (by simp [Region.wanted]) (by go_simp;rfl) ⟨(Am FK.nil hS).kb [],trivial⟩ (Jf _ ⟨.inr vS,.inr vS,.inr vS,.inr vS,.inr (fun u h=>by first | exact h.dyW B0 (Ag _) (Ae _ _ _) (Ah _) _ _ _ | exact h),.inr vS,.inr vS,.inr vS,.inr vS,.inr (fun u h=>by first | exact h.dyW B0 (Ag _) (Ae _ _ _) (Ah _) _ _ _ | exact h),.inr (fun u h=>by first | exact h.dyW B0 (Ag _) (Ae _ _ _) (Ah _) _ _ _ | exact h),.inr (fun u h=>by first | exact h.dyW B0 (Ag _) (Ae _ _ _) (Ah _) _ _ _ | exact h),.inl rfl,.inr (fun u h=>h),trivial⟩) trivial (FV.g.put12 (F.wait 10 (by kernel_rfl)) hb hS B0 z1)),
       (.inr fun LF uF aF wF F FV=>by
      have FK:KB W2 [] wF:=F.frame.1;have fj:=F.frame.2;have s13:=F.p 11 13;have s51:=F.p 9 51
      obtain ⟨b,hb,hS,B0,-⟩:=FV.g.2.1 (F.wait 11 (by kernel_rfl));replace B0:=B0 F.yet;have e13:=(FV.eq 11 13 (by kernel_rfl) rfl).trans hb;clear s13;obtain ⟨A3,j3,c3,e51,z1⟩:=Bg s51;obtain ⟨-,y0,y1,y2,g0,g1,g2⟩:=B0.facts;exact L4 (w':=dyW wF b (.bool y.neg) (.slice A3 j3 c3) (.int .i64 y.e)) (by simp [Region.wanted]) (by go_simp;rfl) ⟨(Am FK.nil hS).kb [],trivial⟩ (Jf _ ⟨.inr vS,.inr vS,.inr vS,.inr vS,.inr (fun u h=>by first | exact h.dyW B0 (Ag _) (Ae _ _ _) (Ah _) _ _ _ | exact h),.inr vS,.inr vS,.inr vS,.inr vS,.inr (fun u h=>by first | exact h.dyW B0 (Ag _) (Ae _ _ _) (Ah _) _ _ _ | exact h),.inr (fun u h=>by first | exact h.dyW B0 (Ag _) (Ae _ _ _) (Ah _) _ _ _ | exact h),.inr (fun u h=>by first | exact h.dyW B0 (Ag _) (Ae _ _ _) (Ah _) _ _ _ | exact h),.inr (fun u h=>h),.inl rfl,trivial⟩) trivial (FV.g.put13 (F.wait 11 (by kernel_rfl)) hb hS B0 z1)),
       trivial⟩) ?_
     intro u w5 L1 hL j1 hu hg;obtain ⟨hgx,hgy,hgn,-,-⟩:=hg;replace hgx:=hgx (hL 10 (by decide));replace hgy:=hgy (hL 11 (by decide));rw [hL 12 (by decide)] at hgx;rw [hL 13 (by decide)] at hgy;obtain ⟨q5,j1⟩:=j1;have p46:=hp hu 4;have p51:=hp hu 9;have p12:=hp hu 10;have p13:=hp hu 11;simp only [Av,An,if_true,Act.put,zlA,zlB,zlC,zlD,zlE,zlF,zlG,hv hu 0,hv hu 1,hv hu 2,hv hu 3,hv hu 5,hv hu 6,hv hu 7,hv hu 8];clear hu;generalize u 4=v46,u 9=v51,u 10=v12,u 11=v13 at *;obtain ⟨b12,rfl,hb12,-,hx⟩:=hgx;obtain ⟨b13,rfl,hb13,-,hy⟩:=hgy;obtain ⟨A3,j3,c3,BX,Z3⟩:=hx rfl;obtain ⟨A4,j4,c4,BY,Z4⟩:=hy rfl
     have lX:w.heap.size+1<b12:=by omega
     replace K:=hid (K.out.trans q5.nil);replace HA:=hid (HA.out.kept q5.nil);replace HB:=hid (HB.out.kept q5.nil);have HX:=hid BX;have HY:=hid BY;replace Z3:=hid Z3;replace Z4:=hid Z4;clear hx hy BX BY q5 j1 hL hgn p46 p51 p12 p13 HL HH ZL ZH C1 C2;obtain ⟨-,a0,a1,a2,-⟩:=HX.out.facts;obtain ⟨-,x0,x1,x2,-⟩:=HY.out.facts;go_wp2_with fail;refine (CS.out _ _ _ Z3.out Z4.out).mono ?_;rintro ee w6 ⟨rfl,q⟩;simp only [];replace K:=hid (K.out.trans q);replace HA:=hid (HA.out.kept q);replace HB:=hid (HB.out.kept q);replace HX:=hid (HX.out.kept q);replace Z3:=hid (Z3.out.kept q);clear q a0 a1 a2 x0 x1 x2 HY Z4 CS
     cases hsm:Kr x.raw y.raw with
     | true =>
       rw [hsm,if_pos rfl] at HE;have ho:=HE.out;subst ho;clear HE;obtain ⟨-,a0,a1,a2,-⟩:=HX.out.facts;obtain ⟨-,x0,x1,x2,y0,y1,y2⟩:=HB.out.facts;go_wp2_with fail;rw [Exit.noGoto_ret];exact D7 (HB.out.laid _ _ _) rfl rfl rfl ⟨Am K.out (by omega),_,rfl,Z3.out.dyW HB.out (Ag _) (Ae _ _ _) (Ah _) _ _ _⟩
     | false =>
       rw [hsm,if_neg (by decide)] at HE;go_wp2_with fail;exact ⟨⟨f,wk+wk/2,congrArg (Value.int .i64) (by omega),by omega,by omega,HE.out,by omega,K.out,HA.out,HB.out⟩,by simp [intOf];omega⟩
theorem Aoi:far.q=64:=by
 have h:pw 6=((2^6:Nat):Rat):=Ix 6
 show (1:Rat)*pw 6=64
 rw [h,Rat.one_mul];rfl
theorem Ah9 {m:Nat}{e:Int}(h0:m≠0)(h:(m:Rat)*pw e≤64):(bl m:Int)+e≤7:=by
 by_cases hc:(bl m:Int)+e≤7
 ·exact hc
 ·exfalso;have hp:=Co m h0;have h2:pw ((bl m-1:Nat):Int)≤(m:Rat):=by rw [Ix];exact Rat.natCast_le_natCast.2 (Dl m h0)
  have h3:pw ((bl m-1:Nat):Int)*pw e≤(m:Rat)*pw e:=Rat.mul_le_mul_of_nonneg_right h2 (Dg e);rw [←Fb] at h3;have h4:pw 7≤pw (((bl m-1:Nat):Int)+e):=Ga (by omega);have h5:pw 7=128:=(Ix 7).trans (by rfl);grind
theorem Ow {d:Dy}{p:Int}(h:Ff d.raw p=0):-400≤d.e∧(d.m≠0→Bb (Ck d)≤7):=by
 unfold Ff at h;split at h
 ·split at h
  ·rename_i h1 h2;split at h
   ·exact absurd h (by decide)
   ·rename_i h3;refine ⟨by have:d.raw.e=d.e:=rfl;omega,fun h0=>?_⟩;simp only [Bool.and_eq_true,decide_eq_true_eq,Dy.raw_dy] at h2;have a:=Jc.1 h2.1;have b:=Ry.1 h2.2;rw [Xk] at b;rw [Aoi] at a b;refine Ah9 h0 ?_
    show (d.m:Rat)*pw d.e≤64
    unfold Dy.q sq at a b;cases hn:d.neg<;>simp only [hn] at a b<;>grind
  ·exact absurd h (by decide)
 ·exact absurd h (by decide)
theorem Sb {d:Dy}(ok:d.Ok)(hz:d.m≠0)(h:-400≤d.e∧(d.m≠0→Bb (Ck d)≤7)){wk:Nat}(h1:1≤wk)(h2:wk≤2000)(up:Bool):Gf wk up (Hb (Ck d)) 400 1 one one=some (Ey wk up d):=by
 obtain ⟨a,b,c⟩:=So (d:=Ck d) hz (Df d.m 64 ok.len) h.1 (h.2 hz);obtain ⟨o,ho⟩:=Abj (up:=up) h1 h2 a b c;unfold Ey;rw [ho];rfl
theorem Ag0 (p:Nat)(up:Bool)(d:Dy):(Ey p up d).1.Ok∧(Ey p up d).2.Ok:=by
 unfold Ey;cases h:Gf p up (Hb (Ck d)) 400 1 one one with
 | none=>exact ⟨I5,I5⟩
 | some o=>exact Mu _ _ _ _ h I5 I5
theorem Al0 (d:Dy)(w:Nat):(bnE d w).1.Ok∧(bnE d w).2.Ok:=by
 have h:∀ up,(Ir w up d (Ey w up d)).Ok:=fun up=>Sg _ _ _ _ (Pr (Ag0 _ _ _))
 unfold bnE L8;split
 ·exact ⟨(Js _ _ _ _).1,(Js _ _ _ _).1⟩
 ·exact ⟨h _,h _⟩
theorem Adk {w:World}{v:Value}{d:Dy}{p:Nat}{up:Bool}(hv:DyR w v d.raw)(ok:d.Ok)(p1:1≤p)(p2:p≤300)(hT:Tab w) :
 Calls Tryz.prog 144 #[v,.int .i64 (p:Int),.bool up] w (RetE (Du d p up).raw w):=by
 unfold Du;by_cases h0:Ff d.raw p=0
 ·rw [if_neg (by simpa using h0)];by_cases hz:d.m=0
  ·rw [if_pos hz];exact Ak6 hv ok hT h0 hz
  ·rw [if_neg hz];have hm:=Ow h0;exact Ak8 hv ok p1 p2 hT h0 hz (fun wk a b w1 k=>Ae1 (hv.kept k) ok a b (hT.kept k) (Sb ok hz hm a b false) (Sb ok hz hm a b true) (by decide)) (Al0 d)
 ·rw [if_pos h0];have h:=Ak7 (up:=up) hv (by have:=Dx ok;omega) hT h0;have e:(bad (Ff d.raw p):Outc Dy).raw=⟨rz,Ff d.raw p⟩:=by show Outc.mk dz.raw _=_;rw [E5];rfl
  rw [e];exact h
end Go.Proofs.YtabjjdicffcolaaGreatDoor
