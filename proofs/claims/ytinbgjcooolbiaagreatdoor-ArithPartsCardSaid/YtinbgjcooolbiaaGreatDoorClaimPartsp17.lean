/- Words and contracts, part 17. -/
import Derived.Test.YtinbgjcooolbiaaGreatDoorClaimPartsp05
import Derived.Test.YtinbgjcooolbiaaGreatDoorClaimPartsp11
import Derived.Test.YtinbgjcooolbiaaGreatDoorClaimPartsp14
set_option maxRecDepth 100000
set_option maxHeartbeats 0
namespace Go.Proofs.YtinbgjcooolbiaaGreatDoor
def Eo (a b:Dy):Int :=
 if (bl a.m:Int)+a.e<bl b.m+b.e then -1 else if (bl b.m:Int)+b.e<bl a.m+a.e then 1
 else Bp (a.m*2^(a.e-min a.e b.e).toNat) (b.m*2^(b.e-min a.e b.e).toNat)
theorem Xh {m:Nat}(h:m≠0)(e:Int):pw (bl m+e-1)≤(m:Rat)*pw e∧(m:Rat)*pw e<pw (bl m+e):=by
 have h1:=Cz m h;have h2:=Bi m;have h3:=Gc m h;constructor
 ·have e1:pw (bl m+e-1)=((2^(bl m-1):Nat):Rat)*pw e:=by
   rw [←Hy,←Fg];congr 1;omega
  rw [e1,Ff,Bz];exact h1
 ·have e1:pw (bl m+e)=((2^bl m:Nat):Rat)*pw e:=by
   rw [←Hy,←Fg]
  rw [e1,N3,B8];exact h2
theorem Jm {x y:Rat}(h:x<y):Bq x y=-1:=by unfold Bq;rw [if_pos h]
theorem Jl {x y:Rat}(h:y<x):Bq x y=1:=by unfold Bq;rw [if_neg (by grind),if_neg (by grind)]
theorem Ud {a b:Dy}(ha:a.m≠0)(hb:b.m≠0):Eo a b=Bq ((a.m:Rat)*pw a.e) ((b.m:Rat)*pw b.e):=by
 obtain ⟨a1,a2⟩:=Xh ha a.e;obtain ⟨b1,b2⟩:=Xh hb b.e;unfold Eo;by_cases h1:(bl a.m:Int)+a.e<bl b.m+b.e
 ·rw [if_pos h1,Jm];have:=Pf (show (bl a.m:Int)+a.e≤bl b.m+b.e-1 by omega);grind
 ·rw [if_neg h1];by_cases h2:(bl b.m:Int)+b.e<bl a.m+a.e
  ·rw [if_pos h2,Jl];have:=Pf (show (bl b.m:Int)+b.e≤bl a.m+a.e-1 by omega);grind
  ·rw [if_neg h2];exact (Wd a.m b.m (Int.min_le_left _ _) (Int.min_le_right _ _)).symm
def sg (d:Dy):Int:=if d.m=0 then 0 else if d.neg then -1 else 1
theorem Pl {d:Dy}(h:sg d=1):0<d.q∧d.q=(d.m:Rat)*pw d.e∧d.m≠0:=by
 unfold sg at h;by_cases h0:d.m=0
 ·rw [if_pos h0] at h;exact absurd h (by decide)
 ·rw [if_neg h0] at h;unfold Dy.q sq;cases hn:d.neg
  ·simp only [Bool.false_eq_true,if_false];exact ⟨Yf h0 _,trivial,h0⟩
  ·rw [hn] at h;exact absurd h (by decide)
theorem Kw {d:Dy}(h:sg d=-1):d.q<0∧d.q=-((d.m:Rat)*pw d.e)∧d.m≠0:=by
 unfold sg at h;by_cases h0:d.m=0
 ·rw [if_pos h0] at h;exact absurd h (by decide)
 ·rw [if_neg h0] at h;unfold Dy.q sq;cases hn:d.neg
  ·rw [hn] at h;exact absurd h (by decide)
  ·simp only [if_true,Rat.neg_mul];have:=Yf h0 d.e;exact ⟨by grind,trivial,h0⟩
theorem Pm {d:Dy}(h:sg d=0):d.q=0:=by
 unfold sg at h;by_cases h0:d.m=0
 ·exact Nb h0
 ·rw [if_neg h0] at h;split at h<;>exact absurd h (by decide)
theorem Ft (d:Dy):sg d=-1∨sg d=0∨sg d=1:=by
 unfold sg;split
 ·exact .inr (.inl rfl)
 ·split
  ·exact .inl rfl
  ·exact .inr (.inr rfl)
theorem Vc (d:Dy):sg d=Bq d.q 0:=by
 rcases Ft d with h | h | h
 ·rw [h,Jm (Kw h).1]
 ·rw [h,Pm h,I0]
 ·rw [h,Jl (Pl h).1]
theorem Rz {a b:Dy}(h:sg a<sg b):Bq a.q b.q=-1:=by
 apply Jm;rw [Vc,Vc] at h;have h1:=@Gp a.q 0;have h2:=@Lm b.q 0;have h3:=@Fk a.q 0;have h4:=@Op b.q 0;rcases Ft a with ha | ha | ha<;>rcases Ft b with hb | hb | hb<;>rw [Vc] at ha hb<;>rw [ha,hb] at h<;>first | (exact absurd h (by decide)) | skip
 all_goals (rw [ha] at h1 h3;rw [hb] at h2 h4;simp at h1 h2 h3 h4;grind)
theorem Wf {a b:Dy}(h:sg b<sg a):Bq a.q b.q=1:=by
 have h1:=Rz h;have h2:=P5 b.q a.q;have h3:=@Gp b.q a.q;rw [h1] at h3;exact Jl (h3.1 (by decide))
theorem P6 {a b:Dy}(h:sg a=sg b):Bq a.q b.q=if sg a=0 then 0 else sg a*Eo a b:=by
 rcases Ft a with ha | ha | ha
 ·rw [ha,if_neg (by decide)];obtain ⟨_,a1,a2⟩:=Kw ha;obtain ⟨_,b1,b2⟩:=Kw (h▸ha);rw [a1,b1,P5,Ud a2 b2];omega
 ·rw [ha,if_pos rfl,Pm ha,Pm (h▸ha),I0]
 ·rw [ha,if_neg (by decide)];obtain ⟨_,a1,a2⟩:=Pl ha;obtain ⟨_,b1,b2⟩:=Pl (h▸ha);rw [a1,b1,Ud a2 b2];omega
structure Iv where
 lo:Dy
 hi:Dy
def iz:Iv:=⟨dz,dz⟩
structure RawI where
 lo:Raw
 hi:Raw
def Iv.raw (a:Iv):RawI:=⟨a.lo.raw,a.hi.raw⟩
structure Iv.Ok (a:Iv):Prop where
 lo:a.lo.Ok
 hi:a.hi.Ok
 le:a.lo.q≤a.hi.q
def Ex (a:RawI):Bool:=Eu a.lo&&Eu a.hi&&decide (Bq a.lo.dy.q a.hi.dy.q≤0)
theorem Fq {a:Iv}(h:a.Ok):Ex a.raw=true:=by
 unfold Ex Iv.raw;simp only [h.lo.may,h.hi.may,Dy.raw_dy,Bool.true_and,decide_eq_true_eq];exact Fk.2 h.le
def Outc.bind {α β:Type} (o:Outc α) (z:β) (f:α→Outc β):Outc β:=if o.k=0 then f o.v else ⟨z,o.k⟩
theorem Outc.bind_of {α β:Type}{o:Outc α}(z:β)(f:α→Outc β)(h:o.k=0):o.bind z f=f o.v:=by unfold Outc.bind;rw [if_pos h]
def Gk (lo hi:Outc Dy):Outc Iv:=lo.bind iz fun l=>hi.bind iz fun h=>⟨⟨l,h⟩,0⟩
def Yo (o:Outc Dy) (p:Nat) (up:Bool):Outc Dy:=o.bind dz fun d=>Fc d p up
def Lz (a b:Iv) (p:Nat):Outc Iv:=Gk (Yo (Ia a.lo b.lo) p false) (Yo (Ia a.hi b.hi) p true)
def By (d:Dy):List Dy→Dy
 | []=>d
 | x::l=>By (if Bq x.q d.q<0 then x else d) l
def Ay (d:Dy):List Dy→Dy
 | []=>d
 | x::l=>Ay (if 0<Bq x.q d.q then x else d) l
def four (a b c d:Outc Dy) (f:Dy→Dy→Dy→Dy→Outc Iv):Outc Iv :=
 a.bind iz fun x=>b.bind iz fun y=>c.bind iz fun z=>d.bind iz fun u=>f x y z u
def Br (b:Iv):Bool:=decide (Bq b.lo.q 0≤0)&&decide (Bq 0 b.hi.q≤0)
def Fa (a b:Iv) (p:Nat):Outc Iv :=
 if Br b then ⟨iz,4⟩ else
 four (Bh a.lo b.lo p false) (Bh a.lo b.hi p false) (Bh a.hi b.lo p false) (Bh a.hi b.hi p false) fun x y z u =>
 four (Bh a.lo b.lo p true) (Bh a.lo b.hi p true) (Bh a.hi b.lo p true) (Bh a.hi b.hi p true) fun x' y' z' u' =>
  ⟨⟨By x [x,y,z,u],Ay x' [x',y',z',u']⟩,0⟩
def My (a:Iv) (p:Nat):Outc Iv :=
 (Ih a.lo a.lo).bind iz fun x=>(Ih a.hi a.hi).bind iz fun y =>
   Gk (Fc (if Br a then dz else By x [x,y]) p false) (Fc (Ay x [x,y]) p true)
def Ee (a:Iv) (p:Nat):Outc Iv :=
 if sg a.lo<0 then ⟨iz,4⟩ else Gk (Df a.lo p false) (Df a.hi p true)
end Go.Proofs.YtinbgjcooolbiaaGreatDoor
namespace Go.Proofs.YtinbgjcooolbiaaGreatDoor
theorem Ur (l:List Dy):∀ d:Dy,(By d l).q≤d.q∧∀ x∈l,(By d l).q≤x.q:=by
 induction l with
 | nil=>intro d;exact ⟨Rat.le_refl,fun x hx=>by cases hx⟩
 | cons y l ih =>
   intro d;unfold By;obtain ⟨h1,h2⟩:=ih (if Bq y.q d.q<0 then y else d);have hc:=@Gp y.q d.q;have h3:(if Bq y.q d.q<0 then y else d).q≤d.q∧(if Bq y.q d.q<0 then y else d).q≤y.q:=by
    by_cases h:Bq y.q d.q<0
    ·rw [if_pos h];have:=hc.1 h;constructor<;>grind
    ·rw [if_neg h];have:¬y.q<d.q:=fun hh=>h (hc.2 hh);constructor<;>grind
   refine ⟨by grind,fun x hx=>?_⟩;rcases List.mem_cons.1 hx with rfl | hx
   ·grind
   ·exact h2 x hx
theorem Si (l:List Dy):∀ d:Dy,By d l=d∨By d l∈l:=by
 induction l with
 | nil=>intro d;exact .inl rfl
 | cons y l ih =>
   intro d;unfold By;rcases ih (if Bq y.q d.q<0 then y else d) with h | h
   ·rw [h];split
    ·exact .inr (List.mem_cons_self ..)
    ·exact .inl rfl
   ·exact .inr (List.mem_cons_of_mem _ h)
theorem O0 (l:List Dy):∀ d:Dy,d.q≤(Ay d l).q∧∀ x∈l,x.q≤(Ay d l).q:=by
 induction l with
 | nil=>intro d;exact ⟨Rat.le_refl,fun x hx=>by cases hx⟩
 | cons y l ih =>
   intro d;unfold Ay;obtain ⟨h1,h2⟩:=ih (if 0<Bq y.q d.q then y else d);have hc:=@Lm y.q d.q;have h3:d.q≤(if 0<Bq y.q d.q then y else d).q∧y.q≤(if 0<Bq y.q d.q then y else d).q:=by
    by_cases h:0<Bq y.q d.q
    ·rw [if_pos h];have:=hc.1 h;constructor<;>grind
    ·rw [if_neg h];have:¬d.q<y.q:=fun hh=>h (hc.2 hh);constructor<;>grind
   refine ⟨by grind,fun x hx=>?_⟩;rcases List.mem_cons.1 hx with rfl | hx
   ·grind
   ·exact h2 x hx
theorem Nc (l:List Dy):∀ d:Dy,Ay d l=d∨Ay d l∈l:=by
 induction l with
 | nil=>intro d;exact .inl rfl
 | cons y l ih =>
   intro d;unfold Ay;rcases ih (if 0<Bq y.q d.q then y else d) with h | h
   ·rw [h];split
    ·exact .inr (List.mem_cons_self ..)
    ·exact .inl rfl
   ·exact .inr (List.mem_cons_of_mem _ h)
theorem Nx {d:Dy}{l:List Dy}(hd:d.Ok)(hl:∀ x∈l,Dy.Ok x):(By d l).Ok:=by
 rcases Si l d with h | h
 ·rw [h];exact hd
 ·exact hl _ h
theorem J4 {d:Dy}{l:List Dy}(hd:d.Ok)(hl:∀ x∈l,Dy.Ok x):(Ay d l).Ok:=by
 rcases Nc l d with h | h
 ·rw [h];exact hd
 ·exact hl _ h
theorem Ab4 {x y z u:Dy}:(By x [x,y,z,u]).q≤x.q∧(By x [x,y,z,u]).q≤y.q∧(By x [x,y,z,u]).q≤z.q∧(By x [x,y,z,u]).q≤u.q:=by
 obtain ⟨a,b⟩:=Ur [x,y,z,u] x;exact ⟨a,b y (by simp),b z (by simp),b u (by simp)⟩
theorem Um {x y z u:Dy}:x.q≤(Ay x [x,y,z,u]).q∧y.q≤(Ay x [x,y,z,u]).q∧z.q≤(Ay x [x,y,z,u]).q∧u.q≤(Ay x [x,y,z,u]).q:=by
 obtain ⟨a,b⟩:=O0 [x,y,z,u] x;exact ⟨a,b y (by simp),b z (by simp),b u (by simp)⟩
theorem K9 (b:Iv):Br b=true↔b.lo.q≤0∧0≤b.hi.q:=by
 unfold Br;simp only [Bool.and_eq_true,decide_eq_true_eq];rw [Fk,Fk]
end Go.Proofs.YtinbgjcooolbiaaGreatDoor
namespace Go.Proofs.YtinbgjcooolbiaaGreatDoor
def OkI (o:Outc Iv):Prop:=o.v.Ok∧(o.k≠0→o.v=iz)
theorem Adm:iz.Ok:=⟨dz_ok,dz_ok,Rat.le_refl⟩
theorem Gm (k:Int):OkI ⟨iz,k⟩:=⟨Adm,fun _=>rfl⟩
theorem Wu {lo hi:Outc Dy}(h1:lo.Ok)(h2:hi.Ok)(h:lo.k=0→hi.k=0→lo.v.q≤hi.v.q):OkI (Gk lo hi):=by
 unfold Gk Outc.bind;by_cases k1:lo.k=0
 ·simp only [if_pos k1];by_cases k2:hi.k=0
  ·simp only [if_pos k2];exact ⟨⟨h1.1,h2.1,h k1 k2⟩,fun h=>absurd rfl h⟩
  ·simp only [if_neg k2];exact Gm _
 ·simp only [if_neg k1];exact Gm _
theorem Qh {a b c d:Outc Dy}{f:Dy→Dy→Dy→Dy→Outc Iv}(h:a.k=0→b.k=0→c.k=0→d.k=0→OkI (f a.v b.v c.v d.v)):OkI (four a b c d f):=by
 unfold four Outc.bind;by_cases k1:a.k=0
 ·simp only [if_pos k1];by_cases k2:b.k=0
  ·simp only [if_pos k2];by_cases k3:c.k=0
   ·simp only [if_pos k3];by_cases k4:d.k=0
    ·simp only [if_pos k4];exact h k1 k2 k3 k4
    ·simp only [if_neg k4];exact Gm _
   ·simp only [if_neg k3];exact Gm _
  ·simp only [if_neg k2];exact Gm _
 ·simp only [if_neg k1];exact Gm _
theorem Me {b:Iv}(hb:b.Ok)(h:¬Br b=true):¬b.lo.m=0∧¬b.hi.m=0:=by
 have hz:=fun x=>h ((K9 b).2 x)
 have:=hb.le;constructor
 ·intro h0;have:=Nb h0;exact hz ⟨by grind,by grind⟩
 ·intro h0;have:=Nb h0;exact hz ⟨by grind,by grind⟩
theorem Sr {a b:Dy}{p:Nat}(hp:1≤p)(hb:¬b.m=0)(hk:(Bh a b p false).k=0):IsDown p (a.q/b.q) (Bh a b p false).v.q:=N8 hp hb hk
theorem Yj {a b:Dy}{p:Nat}(hp:1≤p)(hb:¬b.m=0)(hk:(Bh a b p true).k=0):IsUp p (a.q/b.q) (Bh a b p true).v.q:=N8 hp hb hk
theorem Zs {a b:Iv}(hb:b.Ok){p:Nat}(hp:1≤p):OkI (Fa a b p):=by
 unfold Fa;by_cases hz:Br b=true
 ·rw [if_pos hz];exact Gm _
 ·rw [if_neg hz];obtain ⟨n1,n2⟩:=Me hb hz;refine Qh fun h1 h2 h3 h4=>Qh fun k1 k2 k3 k4=>⟨⟨?_,?_,?_⟩,fun h=>absurd rfl h⟩
  ·refine Nx (C8 _ _ _ _).1 fun x hx=>?_
   simp only [List.mem_cons,List.not_mem_nil,or_false] at hx;rcases hx with rfl | rfl | rfl | rfl<;>exact (C8 _ _ _ _).1
  ·refine J4 (C8 _ _ _ _).1 fun x hx=>?_
   simp only [List.mem_cons,List.not_mem_nil,or_false] at hx;rcases hx with rfl | rfl | rfl | rfl<;>exact (C8 _ _ _ _).1
  ·have d1:=(Sr hp n1 h1).le;have d2:=(Yj hp n1 k1).le;have l:=(Ab4 (x:=(Bh a.lo b.lo p false).v) (y:=(Bh a.lo b.hi p false).v) (z:=(Bh a.hi b.lo p false).v) (u:=(Bh a.hi b.hi p false).v)).1;have g:=(Um (x:=(Bh a.lo b.lo p true).v) (y:=(Bh a.lo b.hi p true).v) (z:=(Bh a.hi b.lo p true).v) (u:=(Bh a.hi b.hi p true).v)).1
   show (By _ _).q≤(Ay _ _).q
   grind
theorem Aap {x y d e:Rat}(hd:d*d≤x)(hxy:x≤y)(he:0≤e)(hy:y≤e*e):d≤e:=by
 by_cases h:d≤e
 ·exact h
 ·have:=Xg he (show e<d by grind);grind
theorem Vg {a:Iv}(ha:a.Ok)(h:¬sg a.lo<0):a.lo.neg=false∧a.hi.neg=false:=by
 rw [Vc] at h;have h0:0≤a.lo.q:=by
  have:=@Gp a.lo.q 0;grind
 have h1:0≤a.hi.q:=by have:=ha.le;grind
 have key:∀ d:Dy,d.Ok→0≤d.q→d.neg=false:=by
  intro d hd hq;by_cases hm:d.m=0
  ·exact (hd.zero hm).1
  ·cases hn:d.neg
   ·rfl
   ·have:sg d=-1:=by unfold sg;rw [if_neg hm,hn];rfl
    have:=(Kw this).1;grind
 exact ⟨key _ ha.lo h0,key _ ha.hi h1⟩
theorem Sw {d:Dy}{p:Nat}(hp:1≤p)(hn:d.neg=false)(hk:(Df d p false).k=0):Jj p d.q (Df d p false).v.q:=N9 hp hn hk
theorem Yp {d:Dy}{p:Nat}(hp:1≤p)(hn:d.neg=false)(hk:(Df d p true).k=0):Ly p d.q (Df d p true).v.q:=N9 hp hn hk
theorem Yv {a:Iv}(ha:a.Ok){p:Nat}(hp:1≤p):OkI (Ee a p):=by
 unfold Ee;by_cases hs:sg a.lo<0
 ·rw [if_pos hs];exact Gm _
 ·rw [if_neg hs];obtain ⟨n1,n2⟩:=Vg ha hs;refine Wu (Mn _ _ _) (Mn _ _ _) fun k1 k2=>?_
  have d1:=Sw hp n1 k1;have d2:=Yp hp n2 k2;exact Aap d1.le ha.le d2.nonneg d2.le
theorem IsDown.sign {p:Nat}{x d:Rat}(h:IsDown p x d)(hx:0≤x):0≤d:=h.best 0 (Fits.zero p) hx
end Go.Proofs.YtinbgjcooolbiaaGreatDoor
namespace Go.Proofs.YtinbgjcooolbiaaGreatDoor
theorem Pp {n:Nat}(h:n%2=1):tz n=0:=Hg n 0 n h (by simp)
theorem I2 {d:Dy}(h:d.Ok):Bu d.neg d.m d.e=⟨d,0⟩:=by
 unfold Bu;by_cases h0:d.m=0
 ·rw [if_pos h0];obtain ⟨a,b⟩:=h.zero h0;cases d with | mk n m e =>
   simp only at a b h0;subst a b h0;rfl
 ·rw [if_neg h0,Pp (h.odd h0)];have hl:=h.len;have h1:=h.lo;have h2:=h.hi;rw [if_neg (by simpa using hl),if_neg (by simp;omega),if_neg (by simp;omega)];simp [good]
theorem Jn {d:Dy}(h:d.Ok){p:Nat}(hp:bl d.m≤p)(up:Bool):Fc d p up=⟨d,0⟩:=by
 unfold Fc Id E0 Fv;have e0:bl d.m-p=0:=by omega
 simp only [e0,Nat.lt_irrefl,decide_false,Bool.false_and,Bool.or_false,Bool.false_eq_true,if_false,Nat.pow_zero,Nat.div_one,Int.ofNat_zero,Int.add_zero];exact I2 h
def pt (d:Dy):Iv:=⟨d,d⟩
theorem Ty {d:Dy}(h:d.Ok):(pt d).Ok:=⟨h,h,Rat.le_refl⟩
theorem Mm {o:Outc Dy}(h0:o.k=0)(h:o.v.Ok){p:Nat}(hp:bl o.v.m≤p)(up:Bool):Yo o p up=⟨o.v,0⟩:=by
 unfold Yo;rw [Outc.bind_of _ _ h0,Jn h hp]
end Go.Proofs.YtinbgjcooolbiaaGreatDoor
namespace Go.Proofs.YtinbgjcooolbiaaGreatDoor
def Ik (neg:Bool) (m:Nat) (e:Int):Outc Dy :=
 if m=0 then good dz else if 256<(Dg.limbs (m/2^tz m)).length then bad 2
 else if 1048576<e∨e < -1053576∨1048576<e+tz m∨e+tz m < -1048576 then bad 3 else good ⟨neg,m/2^tz m,e+tz m⟩
theorem Tp (x:Nat):256<(Dg.limbs x).length↔64<(limbs x).length:=by
 rw [Dg.length_limbs,length_limbs];split<;>omega
theorem Xc {x:Nat}:64<(limbs x).length↔4096<bl x:=by
 rw [length_limbs];unfold bl;split<;>omega
theorem Xv {neg:Bool}{m:Nat}{e:Int}(h:m≠0→tz m≤5000):Ik neg m e=Bu neg m e:=by
 unfold Ik Bu;by_cases h0:m=0
 ·rw [if_pos h0,if_pos h0]
 ·rw [if_neg h0,if_neg h0];have ht:=h h0;by_cases h1:64<(limbs (m/2^tz m)).length
  ·rw [if_pos h1,if_pos ((Tp _).2 h1)]
  ·rw [if_neg h1,if_neg (fun hh=>h1 ((Tp _).1 hh))];by_cases h2:1048576<e∨e < -1048576-(tz m:Int)
   ·rw [if_pos h2,if_pos (by omega)]
   ·rw [if_neg h2];by_cases h3:1048576<e+(tz m:Int)
    ·rw [if_pos h3,if_pos (by omega)]
    ·rw [if_neg h3,if_neg (by omega)]
theorem Xw {neg:Bool}{m:Nat}{e:Int}(h:m%2=1):Ik neg m e=Bu neg m e:=Xv fun _=>by rw [Pp h];omega
theorem Kz {d:Dy}(h:d.Ok):bl d.m≤4096:=by
 have:=h.len;by_cases hc:4096<bl d.m
 ·exact absurd (Xc.2 hc) (by omega)
 ·omega
def Gv (neg:Bool) (m:Nat) (p:Nat) (up:Bool):Nat :=
 if bl m≤p then m else if up != neg&&decide (m/2^(bl m-p)*2^(bl m-p)≠m) then m/2^(bl m-p)+1 else m/2^(bl m-p)
theorem Wi (neg:Bool)(m p:Nat)(up:Bool):Gv neg m p up=E0 m false p (up != neg):=by
 unfold Gv E0 Fv;simp only [Bool.false_or];by_cases h:bl m≤p
 ·rw [if_pos h];have:bl m-p=0:=by omega
  rw [this];simp
 ·rw [if_neg h];have hm:m≠0:=by rintro rfl;exact h (by rw [Ey];omega)
  have e1:(decide (m/2^(bl m-p)*2^(bl m-p)≠m))=(decide (0<bl m-p)&&decide (tz m<bl m-p)):=by
   have e2:(tz m<bl m-p)↔m/2^(bl m-p)*2^(bl m-p)≠m:=by
    rw [Hf _ _ hm];have:=Nat.div_add_mod m (2^(bl m-p));rw [Nat.mul_comm] at this;omega
   have e3:0<bl m-p:=by omega
   simp only [e2,e3,decide_true,Bool.true_and]
  rw [e1,Bool.and_comm]
end Go.Proofs.YtinbgjcooolbiaaGreatDoor
namespace Go.Proofs.YtinbgjcooolbiaaGreatDoor
def Hi (neg:Bool) (m:Nat) (e:Int):Outc Dy:=if m=0 then good dz else Ik neg (m/2^tz m) (e+tz m)
theorem Rs (neg:Bool)(m:Nat)(e:Int):Hi neg m e=Bu neg m e:=by
 unfold Hi;by_cases h0:m=0
 ·rw [if_pos h0];unfold Bu;rw [if_pos h0]
 ·rw [if_neg h0];have ho:=Ju m h0;rw [Xw ho];unfold Bu;rw [if_neg h0,if_neg (by omega),Pp ho,Nat.pow_zero,Nat.div_one];split
  ·rfl
  ·by_cases h2:1048576<e∨e < -1048576-(tz m:Int)
   ·rw [if_pos h2];rcases h2 with h2 | h2
    ·rw [if_pos (.inl (by omega))]
    ·rw [if_pos (.inr (by omega))]
   ·rw [if_neg h2];by_cases h3:1048576<e+(tz m:Int)
    ·rw [if_pos h3,if_pos (.inl h3)]
    ·rw [if_neg h3,if_neg (by omega),if_neg (by omega)];simp
theorem L8 {m1 m2 t p:Nat}{rest d:Bool}(h1:m2/2^(t+1)=m1)(h2:m2%2^(t+1)≠0↔rest=true)(hp:p<bl m1) :
 E0 m2 false p d=E0 m1 rest p d∧bl m2-p=bl m1-p+(t+1):=by
 have hb:=V6 m2 (t+1);rw [h1] at hb;have hc:bl m2-p=bl m1-p+(t+1):=by omega
 refine ⟨?_,hc⟩;have hm1:m1≠0:=by rintro rfl;rw [Ey] at hp;omega
 have hm2:m2≠0:=by rintro rfl;rw [Nat.zero_div] at h1;exact hm1 h1.symm
 unfold E0 Fv;rw [hc];obtain ⟨c,hcc⟩:∃ c,bl m1-p=c:=⟨_,rfl⟩;rw [hcc];have hc0:0<c:=by omega
 have e1:m2/2^(c+(t+1))=m1/2^c:=by
  rw [Nat.add_comm c,Nat.pow_add,←Nat.div_div_eq_div_mul,h1]
 have e2:m2%2^(c+(t+1))≠0↔rest=true∨m1%2^c≠0:=by
  rw [←h2,Nat.add_comm c,Nat.pow_add,Nat.mod_mul,h1];have hT:0<2^(t+1):=Nat.two_pow_pos _;generalize 2^(t+1)=T at *;generalize m2%T=r at *;generalize m1%2^c=s at *;constructor
  ·intro h;by_cases hr:r=0
   ·refine .inr fun hs=>h ?_
    rw [hr,hs];simp
   ·exact .inl hr
  ·rintro (h | h)
   ·omega
   ·have:=Nat.mul_pos hT (Nat.pos_of_ne_zero h);omega
 have e3:(tz m2<c+(t+1))↔(rest=true∨tz m1<c):=by
  rw [Hf _ _ hm2,Hf _ _ hm1,e2]
 dsimp only;rw [e1];have e4:(false||decide (0<c+(t+1))&&decide (tz m2<c+(t+1)))=(rest||decide (0<c)&&decide (tz m1<c)):=by
  have a1:decide (0<c+(t+1))=true:=decide_eq_true (by omega);have a2:decide (0<c)=true:=decide_eq_true hc0;rw [a1,a2,Bool.false_or,Bool.true_and,Bool.true_and];cases rest
  ·rw [Bool.false_or,decide_eq_decide,e3];simp
  ·rw [Bool.true_or,decide_eq_true_eq,e3];exact .inl rfl
 simp only [e4]
def Ch (a b:Dy) (p:Nat):Nat:=p+3+bl b.m-bl a.m
def Jg (a b:Dy) (p:Nat):Nat:=if a.m*2^Ch a b p%b.m=0 then a.m*2^Ch a b p/b.m*2 else a.m*2^Ch a b p/b.m*2+1
theorem Ke (q st t:Nat)(h:st≤1):(q*2+st)/2^(t+1)=q/2^t∧((q*2+st)%2^(t+1)≠0↔st≠0∨q%2^t≠0):=by
 have e:(2:Nat)^(t+1)=2*2^t:=by rw [Nat.pow_succ,Nat.mul_comm]
 rw [e,←Nat.div_div_eq_div_mul,Nat.mod_mul];have e1:(q*2+st)/2=q:=by omega
 have e2:(q*2+st)%2=st:=by omega
 rw [e1,e2];refine ⟨rfl,?_⟩;generalize q%2^t=y;omega
theorem Yl (X T B:Nat)(hT:0<T):X*T/B/T=X/B:=by
 rw [Nat.div_div_eq_div_mul,Nat.mul_div_mul_right _ _ hT]
theorem U0 (X T B:Nat)(hT:0<T)(hB:0<B):(X*T%B≠0∨X*T/B%T≠0)↔X%B≠0:=by
 constructor
 ·intro h hX;have h1:X=B*(X/B):=by have:=Nat.div_add_mod X B;omega
  have h2:X*T=X/B*T*B:=by
   calc X*T=B*(X/B)*T:=by rw [←h1]
    _=X/B*T*B:=by rw [Nat.mul_comm B,Nat.mul_assoc,Nat.mul_assoc,Nat.mul_comm B]
  rcases h with h | h
  ·apply h;rw [h2,Nat.mul_mod_left]
  ·apply h;rw [h2,Nat.mul_div_cancel _ hB,Nat.mul_mod_left]
 ·intro h;by_cases h1:X*T%B=0
  ·refine .inr fun h2=>h ?_
   have g1:X*T=B*(X*T/B):=by have:=Nat.div_add_mod (X*T) B;omega
   have g2:X*T/B=T*(X*T/B/T):=by have:=Nat.div_add_mod (X*T/B) T;omega
   rw [g2,←Nat.mul_assoc,Nat.mul_comm B,Nat.mul_assoc,Nat.mul_comm X] at g1;have g3:=Nat.eq_of_mul_eq_mul_left hT g1;rw [g3,Nat.mul_mod_right]
  ·exact .inl h1
theorem Ym {a b:Dy}{p:Nat}{up:Bool}(ha:a.m≠0)(hb:b.m≠0) :
 Hi (a.neg != b.neg) (Gv (a.neg != b.neg) (Jg a b p) p up) (a.e-b.e-Ch a b p-1+((bl (Jg a b p)-p:Nat):Int))=Bh a b p up:=by
 rw [Rs,Wi];unfold Bh Id;have hB:=Nat.pos_of_ne_zero hb;obtain ⟨t,ht⟩:∃ t,Ch a b p=Ce a b p+t:=⟨Ch a b p-Ce a b p,by unfold Ch Ce;omega⟩;have hk:=T7 a.m b.m p ha hb (Ce a b p) (by unfold Ce;omega);have hst:∃ st,st≤1∧(st≠0↔a.m*2^Ch a b p%b.m≠0)∧Jg a b p=a.m*2^Ch a b p/b.m*2+st:=by
  unfold Jg;by_cases h:a.m*2^Ch a b p%b.m=0
  ·exact ⟨0,by omega,by simp [h],by rw [if_pos h];omega⟩
  ·exact ⟨1,by omega,by simp [h],by rw [if_neg h]⟩
 obtain ⟨st,s1,s2,s3⟩:=hst;rw [s3,ht];rw [ht] at s2;have hT:0<2^t:=Nat.two_pow_pos _;have eX:a.m*2^(Ce a b p+t)=a.m*2^Ce a b p*2^t:=by rw [Nat.pow_add,Nat.mul_assoc]
 rw [eX] at s2 ⊢;obtain ⟨d1,d2⟩:=Ke (a.m*2^Ce a b p*2^t/b.m) st t s1;rw [Yl _ _ _ hT] at d1;rw [s2,U0 _ _ _ hT hB] at d2;obtain ⟨c1,c2⟩:=L8 (rest:=decide (¬a.m*2^Ce a b p%b.m=0)) (d:=up != (a.neg != b.neg)) d1 (by rw [d2,decide_eq_true_eq]) hk;rw [c1,c2]
 congr 1
 omega
theorem U1 {a b:Dy}{p:Nat}{up:Bool}(ha:a.m=0):Bh a b p up=good dz:=by
 unfold Bh Id;rw [ha];have h:∀ c d,E0 (0*2^Ce a b p/b.m) (decide (¬0*2^Ce a b p%b.m=0)) c d=0:=by
  intro c d;rw [Nat.zero_mul,Nat.zero_div,Nat.zero_mod];unfold E0 Fv;simp [Ey]
 rw [h];unfold Bu;rw [if_pos rfl]
def Ed (d:Dy) (p:Nat):Nat:=2*p+6-bl d.m
def Bx (d:Dy) (p:Nat):Nat:=if (d.e-Ed d p)%2=0 then Ed d p else Ed d p+1
theorem Jr (d:Dy)(p:Nat):(d.e-Bx d p)%2=0:=by
 unfold Bx;by_cases h:(d.e-Ed d p)%2=0
 ·rw [if_pos h];exact h
 ·rw [if_neg h];omega
theorem Sy (d:Dy)(p:Nat):∃ t,Bx d p=Ds d p+2*t:=by
 refine ⟨(Bx d p-Ds d p)/2,?_⟩;have h1:=Jr d p;have h2:=H4 d p;have h3:Ds d p≤Bx d p:=by
  unfold Bx Ds;have:Fi d p≤Ed d p:=by unfold Fi Ed;omega
  split<;>split<;>omega
 omega
def Ld (d:Dy) (p:Nat):Nat:=if isq (d.m*2^Bx d p)*isq (d.m*2^Bx d p)=d.m*2^Bx d p then isq (d.m*2^Bx d p)*2 else isq (d.m*2^Bx d p)*2+1
theorem W9 (M T:Nat)(hT:0<T):isq (M*(T*T))/T=isq M∧((¬isq (M*(T*T))*isq (M*(T*T))=M*(T*T)∨isq (M*(T*T))%T≠0)↔¬isq M*isq M=M):=by
 obtain ⟨s1,s2⟩:=Dz (M*(T*T));obtain ⟨x1,x2⟩:=Dz M;have key:isq (M*(T*T))/T=isq M:=by
  generalize isq (M*(T*T))=r at *;symm;apply Hr
  ·have h1:r/T*T≤r:=Nat.div_mul_le_self _ _;have h2:=Nat.mul_le_mul h1 h1;have h3:r/T*T*(r/T*T)=r/T*(r/T)*(T*T):=by
    rw [Nat.mul_assoc,Nat.mul_assoc];congr 1;rw [Nat.mul_comm,Nat.mul_assoc]
   rw [h3] at h2;exact Nat.le_of_mul_le_mul_right (Nat.le_trans h2 s1) (Nat.mul_pos hT hT)
  ·have h1:r+1≤(r/T+1)*T:=by
    have:=Nat.div_add_mod r T;have:=Nat.mod_lt r hT;rw [Nat.add_mul,Nat.one_mul,Nat.mul_comm (r/T)];omega
   have h2:=Nat.mul_le_mul h1 h1;have h3:(r/T+1)*T*((r/T+1)*T)=(r/T+1)*(r/T+1)*(T*T):=by
    rw [Nat.mul_assoc,Nat.mul_assoc];congr 1;rw [Nat.mul_comm,Nat.mul_assoc]
   rw [h3] at h2;exact Nat.lt_of_mul_lt_mul_right (Nat.lt_of_lt_of_le s2 h2)
 refine ⟨key,?_⟩;constructor
 ·intro h hx;have e:isq (M*(T*T))=isq M*T:=by
   apply Hr
   ·have:isq M*T*(isq M*T)=isq M*isq M*(T*T):=by
     rw [Nat.mul_assoc,Nat.mul_assoc];congr 1;rw [Nat.mul_comm,Nat.mul_assoc]
    rw [this,hx];exact Nat.le_refl _
   ·have h3:isq M*T*(isq M*T)=isq M*isq M*(T*T):=by
     rw [Nat.mul_assoc,Nat.mul_assoc];congr 1;rw [Nat.mul_comm,Nat.mul_assoc]
    have h4:isq M*T*(isq M*T)<(isq M*T+1)*(isq M*T+1):=by
     rw [Nat.add_mul,Nat.mul_add,Nat.one_mul];omega
    rw [h3,hx] at h4;exact h4
  rcases h with h | h
  ·apply h;rw [e];have:isq M*T*(isq M*T)=isq M*isq M*(T*T):=by
    rw [Nat.mul_assoc,Nat.mul_assoc];congr 1;rw [Nat.mul_comm,Nat.mul_assoc]
   rw [this,hx]
  ·apply h;rw [e,Nat.mul_mod_left]
 ·intro h;by_cases h1:isq (M*(T*T))*isq (M*(T*T))=M*(T*T)
  ·refine .inr fun h2=>h ?_
   have e:isq (M*(T*T))=isq M*T:=by
    have:=Nat.div_add_mod (isq (M*(T*T))) T;rw [key,h2] at this;rw [←this,Nat.mul_comm];omega
   rw [e] at h1;have h3:isq M*T*(isq M*T)=isq M*isq M*(T*T):=by
    rw [Nat.mul_assoc,Nat.mul_assoc];congr 1;rw [Nat.mul_comm,Nat.mul_assoc]
   rw [h3] at h1;exact Nat.eq_of_mul_eq_mul_right (Nat.mul_pos hT hT) h1
  ·exact .inl h1
theorem Yr {d:Dy}{p:Nat}{up:Bool}(hd:d.m≠0) :
 Hi false (Gv false (Ld d p) p up) ((d.e-Bx d p)/2-1+((bl (Ld d p)-p:Nat):Int))=Df d p up:=by
 rw [Rs,Wi];unfold Df Id;obtain ⟨t,ht⟩:=Sy d p;have hk0:2*p+2≤bl d.m+Ds d p:=by have:=Ra d p;unfold Fi at this;omega
 have hk:=T9 d.m p hd (Ds d p) hk0;have hst:∃ st,st≤1∧(st≠0↔¬isq (d.m*2^Bx d p)*isq (d.m*2^Bx d p)=d.m*2^Bx d p)∧Ld d p=isq (d.m*2^Bx d p)*2+st:=by
  unfold Ld;by_cases h:isq (d.m*2^Bx d p)*isq (d.m*2^Bx d p)=d.m*2^Bx d p
  ·exact ⟨0,by omega,by simp [h],by rw [if_pos h];omega⟩
  ·exact ⟨1,by omega,by simp [h],by rw [if_neg h]⟩
 obtain ⟨st,s1,s2,s3⟩:=hst;have e1:=Jr d p;have e2:=H4 d p;rw [s3,ht];rw [ht] at s2 e1;have hT:0<2^t:=Nat.two_pow_pos _;have eX:d.m*2^(Ds d p+2*t)=d.m*2^Ds d p*(2^t*2^t):=by
  rw [Nat.pow_add,←Nat.mul_assoc,←Nat.pow_add,←Nat.two_mul]
 rw [eX] at s2 ⊢;obtain ⟨d1,d2⟩:=Ke (isq (d.m*2^Ds d p*(2^t*2^t))) st t s1;obtain ⟨i1,i2⟩:=W9 (d.m*2^Ds d p) (2^t) hT;rw [i1] at d1;rw [s2,i2] at d2;obtain ⟨c1,c2⟩:=L8 (rest:=decide (¬isq (d.m*2^Ds d p)*isq (d.m*2^Ds d p)=d.m*2^Ds d p)) (d:=up != false) d1 (by rw [d2,decide_eq_true_eq]) hk;rw [c1,c2]
 congr 1
 omega
end Go.Proofs.YtinbgjcooolbiaaGreatDoor
