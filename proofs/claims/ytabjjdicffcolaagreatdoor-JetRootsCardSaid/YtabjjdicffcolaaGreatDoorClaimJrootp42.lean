/- Words and contracts, part 42. -/
import Derived.Test.YtabjjdicffcolaaGreatDoorClaimJrootp40
import Derived.Test.YtabjjdicffcolaaGreatDoorClaimJrootp41
set_option maxRecDepth 100000
set_option maxHeartbeats 0
namespace Go.Proofs.YtabjjdicffcolaaGreatDoor
open Go.RowKit
def exC (z:Int) (p:Nat) (up:Bool):Bool :=
 decide ((Du (dyz z (-3)) p up).k=0)&&decide ((Du (dyz z (-3)) p up).v.m≠0)&&!(Du (dyz z (-3)) p up).v.neg&&decide (-((p:Int)+5)≤(Du (dyz z (-3)) p up).v.e)&&decide ((bl (Du (dyz z (-3)) p up).v.m:Int)+(Du (dyz z (-3)) p up).v.e≤4)
def exA (z:Int):Bool:=(List.range 41).all fun k=>exC z (20+k) true&&exC z (20+k) false&&exC (-z) (20+k) true&&exC (-z) (20+k) false
def sqC (z:Int) (p:Nat):Bool :=
 let o:=Cc (pt (dyz z (-3))) p
 decide (o.k=0)&&decide (o.v.lo.m≠0)&&!o.v.lo.neg&&decide (-((p:Int)+5)≤o.v.lo.e)&&decide ((bl o.v.lo.m:Int)+o.v.lo.e≤4)&&decide (-((p:Int)+5)≤o.v.hi.e)&&decide ((bl o.v.hi.m:Int)+o.v.hi.e≤4)
def sqA (z:Int):Bool:=(List.range 41).all fun k=>sqC z (20+k)
set_option maxRecDepth 100000
theorem Ape:sqA 8=true:=by decide +kernel
theorem Apf:sqA 9=true:=by decide +kernel
theorem Aos:sqA 10=true:=by decide +kernel
theorem Aot:sqA 11=true:=by decide +kernel
theorem Aou:sqA 12=true:=by decide +kernel
theorem Aov:sqA 13=true:=by decide +kernel
theorem Aow:sqA 14=true:=by decide +kernel
theorem Aox:sqA 15=true:=by decide +kernel
theorem Aoy:sqA 16=true:=by decide +kernel
theorem Af3 {d d':Dy}{p:Nat}(h0:d.m≠0)(hn:d.neg=false)(h0':d'.m≠0)(hn':d'.neg=true)(ha:Ck d'=Ck d){El Eh Fl Fh:Rat}
 (a1:∃ lo hi,EL d lo∧EU d hi∧Fq false p lo El∧Fq false p hi El) (a2:∃ lo hi,EL d lo∧EU d hi∧Fq true p lo Eh∧Fq true p hi Eh)
 (b1:∃ lo hi,EL d' lo∧EU d' hi∧Fq false p lo Fl∧Fq false p hi Fl) (b2:∃ lo hi,EL d' lo∧EU d' hi∧Fq true p lo Fh∧Fq true p hi Fh)
 (pE:0<El) (pF:0<Fl) (lE:El≤Eh) (lF:Fl≤Fh):∃ e f:Rat,El≤e∧e≤Eh∧Fl≤f∧f≤Fh∧e*f=1:=by
 obtain ⟨lo,-,l1,-,l2,-⟩:=a1;obtain ⟨-,hi,-,u1,-,u2⟩:=a2;obtain ⟨lo',-,l1',-,l2',-⟩:=b1;obtain ⟨-,hi',-,u1',-,u2'⟩:=b2;have l2:=IsDown.le l2;have u2:=IsUp.le u2;have l2':=IsDown.le l2';have u2':=IsUp.le u2';unfold EL at l1 l1';unfold EU at u1 u1';rw [if_neg h0,hn,if_neg (by decide)] at l1 u1;rw [if_neg h0',hn',if_pos rfl,ha] at l1' u1';obtain ⟨n,-,l1⟩:=l1;obtain ⟨c,c1,c2,c3⟩:=l1';obtain ⟨q0,m,u3⟩:=u1';have k1:El*Fl≤1:=by
  have h1:El≤c:=Rat.le_trans l2 (Rat.le_trans l1 (c2 n));have h2:=Rat.mul_le_mul_of_nonneg_right h1 (Rat.le_of_lt pF);have h3:=Rat.mul_le_mul_of_nonneg_right l2' (show (0:Rat)≤c by grind);grind
 have k2:1≤Eh*Fh:=by
  have h1:eP (Ck d) m≤Eh:=Rat.le_trans (u1 m) u2;have h2:=Rat.mul_le_mul_of_nonneg_left h1 (Rat.le_of_lt q0);have h3:=Rat.mul_le_mul_of_nonneg_right u2' (show (0:Rat)≤Eh by grind);grind
 have pFh:0<Fh:=by grind
 have pEi:0<El⁻¹:=Rat.inv_pos.2 pE;have pFi:0<Fh⁻¹:=Rat.inv_pos.2 pFh;have eE:El*El⁻¹=1:=Rat.mul_inv_cancel _ (by grind);have eF:Fh*Fh⁻¹=1:=Rat.mul_inv_cancel _ (by grind);rcases Rat.le_total (a:=El*Fh) (b:=1) with h | h
 ·-- the opposite's upper end
  refine ⟨Fh⁻¹,Fh,?_,?_,lF,Rat.le_refl,by grind⟩
  ·have:=Rat.mul_le_mul_of_nonneg_right h (Rat.le_of_lt pFi);rw [Rat.mul_assoc,eF] at this;grind
  ·have:=Rat.mul_le_mul_of_nonneg_right k2 (Rat.le_of_lt pFi);rw [Rat.mul_assoc,eF] at this;grind
 ·refine ⟨El,El⁻¹,Rat.le_refl,lE,?_,?_,eE⟩
  ·have:=Rat.mul_le_mul_of_nonneg_right k1 (Rat.le_of_lt pEi);rw [Rat.mul_comm El Fl,Rat.mul_assoc,eE] at this;grind
  ·have:=Rat.mul_le_mul_of_nonneg_right h (Rat.le_of_lt pEi);rw [Rat.mul_comm El Fh,Rat.mul_assoc,eE] at this;grind
def ev1 (a:Nat→Rat) (e:Rat):Rat:=a 1*e
def ev2 (a:Nat→Rat) (e:Rat):Rat:=(a 1*ev1 a e+2*a 2*e)/2
def ev3 (a:Nat→Rat) (e:Rat):Rat:=(a 1*ev2 a e+2*a 2*ev1 a e+3*a 3*e)/3
def ev (a:Nat→Rat) (e:Rat) (n:Nat):Rat:=if n=0 then e else if n=1 then ev1 a e else if n=2 then ev2 a e else ev3 a e
theorem Ai9 {a b:Nat→Rat}{e f:Rat}(h:e*f=1)(hab:∀ n,b n=-a n){n:Nat}(hn:n<4):Ah6 (ev a e) (ev b f) n (ev a e 0*ev b f n) (List.range' 1 n)=if n=0 then 1 else 0:=by
 have h1:=hab 1;have h2:=hab 2;have h3:=hab 3;have:n=0∨n=1∨n=2∨n=3:=by omega
 rcases this with rfl | rfl | rfl | rfl
 ·exact h
 ·show e*(b 1*f)+a 1*e*f=0
  rw [h1];grind
 ·show e*((b 1*(b 1*f)+2*b 2*f)/2)+a 1*e*(b 1*f)+(a 1*(a 1*e)+2*a 2*e)/2*f=0
  rw [h1,h2];grind
 ·show e*((b 1*((b 1*(b 1*f)+2*b 2*f)/2)+2*b 2*(b 1*f)+3*b 3*f)/3)+a 1*e*((b 1*(b 1*f)+2*b 2*f)/2)+(a 1*(a 1*e)+2*a 2*e)/2*(b 1*f)+(a 1*((a 1*(a 1*e)+2*a 2*e)/2)+2*a 2*(a 1*e)+3*a 3*e)/3*f=0
  rw [h1,h2,h3];grind
def N6 (a:Nat→Rat) (x:Rat):Rat:=a 1/(x+x)
def U5 (a:Nat→Rat) (x:Rat):Rat:=(a 2-N6 a x*N6 a x)/(x+x)
def Akp (a:Nat→Rat) (x:Rat):Rat:=(a 3-N6 a x*U5 a x-U5 a x*N6 a x)/(x+x)
def rtv (a:Nat→Rat) (x:Rat) (n:Nat):Rat:=if n=0 then x else if n=1 then N6 a x else if n=2 then U5 a x else Akp a x
theorem Anb {a:Nat→Rat}{x:Rat}(h:x≠0){n:Nat}(h0:n≠0)(hn:n<4):sqV (rtv a x) n=a n:=by
 have hx:x+x≠0:=by grind
 have e1:N6 a x*(x+x)=a 1:=Rat.div_mul_cancel hx;have e2:U5 a x*(x+x)=a 2-N6 a x*N6 a x:=Rat.div_mul_cancel hx;have e3:Akp a x*(x+x)=a 3-N6 a x*U5 a x-U5 a x*N6 a x:=Rat.div_mul_cancel hx;have:n=1∨n=2∨n=3:=by omega
 rcases this with rfl | rfl | rfl
 ·show x*N6 a x+N6 a x*x=a 1
  grind
 ·show x*U5 a x+N6 a x*N6 a x+U5 a x*x=a 2
  grind
 ·show x*Akp a x+N6 a x*U5 a x+U5 a x*N6 a x+Akp a x*x=a 3
  grind
def Cm (f:Nat→Int):List RawI:=(List.range 4).map fun i=>(pt (dyz (f i) (-3))).raw
theorem Eu (f:Nat→Int):(Cm f).length=4:=by simp [Cm]
theorem Se (f:Nat→Int){i:Nat}(h:i<4):(Cm f)[i]?=some (pt (dyz (f i) (-3))).raw:=by
 unfold Cm;rw [List.getElem?_map,List.getElem?_range h];rfl
theorem Hj (f:Nat→Int){i:Nat}(h:i<4):gI (Cm f) i=pt (dyz (f i) (-3)):=by
 unfold gI;rw [List.getD_eq_getElem?_getD,Se f h];exact Iv.raw_iv _
theorem Ny {f:Nat→Int}(h:∀ i,(f i).natAbs≤16):Cf (eR f) (fun _=>3) (fun _=>2) (Cm f):=by
 intro i hi;rw [Eu] at hi;rw [Hj f hi,Se f hi];have h8:=h i;have hb:=Ej (f i).natAbs 5 (by omega);have hr:RgI (pt (dyz (f i) (-3))) 3 2:=RgI.pt (J3 (fun _=>by omega) (fun _=>by omega) (by omega) (by decide) (by decide)).2;refine ⟨⟨Mb (He _ _),rfl⟩,hr,?_⟩;have:=Aga (dyz (f i) (-3));rwa [Vg (Ac8 h8)] at this
theorem Aax {p:Nat}{f:Nat→Int}(p1:20≤p)(h:∀ i,(f i).natAbs≤16):Eg p (Cm f) [] (List.range' 0 4)=⟨Cm f,0⟩:=by
 have h20:2^20≤2^p:=Nat.pow_le_pow_right (by decide) p1;have e:(2:Nat)^20=1048576:=rfl;refine Sr (g:=Cm f) (fun i hi=>?_) 4 0 (by rw [Eu]);rw [Eu] at hi;rw [Hj f hi,Se f hi];exact ⟨Vh (by have:=h i;omega),rfl⟩
theorem Akn {ov:Iv→Nat→Outc Iv}{p:Nat}{a:Nat→Int}{b:List RawI}(p1:20≤p)(ha:∀ i,(a i).natAbs≤16):Ei ov p 10 (Cm a) b [] (List.range' 0 4)=⟨Cm fun i=>-a i,0⟩:=by
 refine Ss (g:=Cm fun i=>-a i) (fun c i hi=>?_) 4 0 (by rw [Eu]);rw [Eu] at hi;rw [Hj _ hi,Se _ hi];refine ⟨?_,rfl⟩;have e:Cb ov p 10 (Cm a) b c i=Mv (gI (Cm a) i) p:=rfl;have h8:=ha i;have h20:2^20≤2^p:=Nat.pow_le_pow_right (by decide) p1;have e20:(2:Nat)^20=1048576:=rfl;have e2:Mv (pt (dyz (a i) (-3))) p=Cv (pt (dyz (-a i) (-3))) p:=by
  rw [←Aci (Ac8 h8)];rfl
 rw [e,Hj a hi,e2];exact Vh (by omega)
theorem Qh {p n:Nat}{a b:List RawI}{f g:Nat→Rat}{A B:Int}(p1:1≤p)(p2:p≤300)(hA:A≤100000)(hB:B+3*n+3≤99990)(hAB:A+B+3*n+3≤3900)
 (h:∀ j,1≤j→j<n→GoodI (Cg (gI a j) (gI b (n-j)) p) A B∧In (f j*g (n-j)) (Cg (gI a j) (gI b (n-j)) p).v):∀ (m j:Nat) (s:Iv) (v:Rat),1≤j→j+m≤n→RgI s A (B+3*j)→In v s →
   (Fe p a b n s (List.range' j m)).k=0∧RgI (Fe p a b n s (List.range' j m)).v A (B+3*n+3)∧In (Acv f g n v (List.range' j m)) (Fe p a b n s (List.range' j m)).v
 | 0,j,s,v,_,e,r,i=>⟨rfl,r.mono (Int.le_refl _) (by omega),i⟩
 | m + 1, j, s, v, hj, e, r, i => by
   obtain ⟨g1,i1⟩:=h j hj (by omega);have g2:=Ak4 (p:=p) r (g1.2.mono (Int.le_refl _) (B':=B+3*j) (by omega)) (by omega) hA (by omega) (by omega);rw [Ti _ _ _ _ _ _ _ (Nat.succ_pos m),Outc.th_ok g1.1,Outc.th_ok g2.1];exact Qh p1 p2 hA hB hAB h m (j+1) _ _ (by omega) (by omega) (g2.2.mono (Int.le_refl _) (by omega)) (Anl p1 g2.1 i i1)
theorem Ve {ov:Iv→Nat→Outc Iv}{p:Nat}{op:Int}{a b:List RawI}{f:Nat→Rat}{A B:Nat→Int}{L:Nat}{v0:Iv}(h:∀ c n,n≠0→n<L→Cf f A B c→c.length=n→gI c 0=v0→(Cb ov p op a b c n).v.Ok∧GoodI (Cb ov p op a b c n) (A n) (B n)∧In (f n) (Cb ov p op a b c n).v):∀ (m:Nat) (c:List RawI),c.length+m≤L→0<c.length→Cf f A B c→gI c 0=v0 →
 (Ei ov p op a b c (List.range' c.length m)).k=0∧Cf f A B (Ei ov p op a b c (List.range' c.length m)).v∧(Ei ov p op a b c (List.range' c.length m)).v.length=c.length+m∧gI (Ei ov p op a b c (List.range' c.length m)).v 0=v0
 | 0,c,_,_,hc,h0=>⟨rfl,hc,rfl,h0⟩
 | m + 1, c, hl, hp, hc, h0 => by
   obtain ⟨ok,g,i⟩:=h c c.length (by omega) (by omega) hc rfl h0;rw [Jj _ _ _ _ _ _ _ _ (Nat.succ_pos m),if_pos g.1];have ih:=Ve h m _ (by simp;omega) (by simp) (hc.snoc ok g.2 i) ((Tc hp).trans h0);simp only [List.length_append,List.length_cons,List.length_nil,Nat.zero_add] at ih ⊢;rw [show m.succ-1=m from rfl];exact ⟨ih.1,ih.2.1,by rw [ih.2.2.1];omega,ih.2.2.2⟩
theorem Ado {ov:Iv→Nat→Outc Iv}{p:Nat}{op:Int}{a b:List RawI}{f:Nat→Rat}{A B:Nat→Int}{m:Nat}(ok:(Cb ov p op a b [] 0).v.Ok)(g:GoodI (Cb ov p op a b [] 0) (A 0) (B 0))(i:In (f 0) (Cb ov p op a b [] 0).v)
 (h:∀ c n,n≠0→n<m+1→Cf f A B c→c.length=n→gI c 0=(Cb ov p op a b [] 0).v→(Cb ov p op a b c n).v.Ok∧GoodI (Cb ov p op a b c n) (A n) (B n)∧In (f n) (Cb ov p op a b c n).v) :
 ∃ r,Ei ov p op a b [] (List.range' 0 (m+1))=⟨r,0⟩∧Cf f A B r∧r.length=m+1∧gI r 0=(Cb ov p op a b [] 0).v:=by
 have h1:=Ve (L:=m+1) h m [(Cb ov p op a b [] 0).v.raw] (by simp;omega) (by simp) (Afn ok g.2 i) (Tb [] _);rw [Jj _ _ _ _ _ _ _ _ (Nat.succ_pos m),if_pos g.1];obtain ⟨k0,q,ql,q0⟩:=h1;exact ⟨_,Acu k0 rfl,q,ql.trans (by simp;omega),q0⟩
def rtA (n:Nat):Int:=if n=0 then 65 else if n=1 then 80 else if n=2 then 240 else 400
def rtB (n:Nat):Int:=if n=0 then 4 else if n=1 then 75 else if n=2 then 240 else 420
theorem Ahg {d:Dy}(h0:d.m≠0)(hn:d.neg=false):0<d.q:=Uz h0 hn
theorem Aj1 (ov:Iv→Nat→Outc Iv)(p:Nat)(a b c:List RawI){n:Nat}(h:n≠0):Cb ov p 12 a b c n=(Fe p c c n (gI a n) (List.range' 1 (n-1))).th fun x=>(Ef (gI c 0) (gI c 0) p).th fun y=>Da x y p:=by
 show (if n=0 then _ else _)=_
 rw [if_neg h]
theorem Aho (a:Nat→Rat)(x:Rat){n:Nat}(h0:n≠0)(h:n<4):Acv (rtv a x) (rtv a x) n (a n) (List.range' 1 (n-1))/(x+x)=rtv a x n:=by
 have:n=1∨n=2∨n=3:=by omega
 rcases this with rfl | rfl | rfl<;>rfl
theorem Am9 {ov:Iv→Nat→Outc Iv}{p:Nat}{a:Nat→Int}{b:List RawI}(p1:20≤p)(p2:p≤60)(ha:∀ i,(a i).natAbs≤16)
 (k0:(Cc (pt (dyz (a 0) (-3))) p).k=0) (ok:(Cc (pt (dyz (a 0) (-3))) p).v.Ok) (m0:(Cc (pt (dyz (a 0) (-3))) p).v.lo.m≠0) (n0:(Cc (pt (dyz (a 0) (-3))) p).v.lo.neg=false) (rg:RgI (Cc (pt (dyz (a 0) (-3))) p).v 65 4) :
 ∃ r,Ei ov p 12 (Cm a) b [] (List.range' 0 4)=⟨r,0⟩∧Cf (rtv (eR a) (Cc (pt (dyz (a 0) (-3))) p).v.lo.q) rtA rtB r∧r.length=4∧gI r 0=(Cc (pt (dyz (a 0) (-3))) p).v:=by
 have e0:Cb ov p 12 (Cm a) b [] 0=Cc (pt (dyz (a 0) (-3))) p:=by
  show Cc (gI (Cm a) 0) p=_
  rw [Hj a (by decide)]
 rw [←e0];rw [←e0] at k0 ok m0 n0 rg;generalize hv:Cb ov p 12 (Cm a) b [] 0=o at *;have hc:=Ny ha;have hl:=Eu a;have hx:=Ahg m0 n0;have ih:In o.v.lo.q o.v:=⟨Rat.le_refl,ok.le⟩;subst hv;refine Ado (m:=3) ok ⟨k0,rg⟩ ih fun c n hn0 hn hcc hcl hc0=>?_
 rw [Aj1 _ _ _ _ _ hn0,hc0];have g2:=Ru (p:=p) rg rg (by omega) (by decide) (by decide) (by decide);have i2:=Aar (by omega) g2.1 ih ih;generalize hov:Cb ov p 12 (Cm a) b [] 0=o at *;have pc:0<(Ef o.v o.v p).v.lo.q:=by
  obtain ⟨t1,-⟩:=Jq m0 n0;have h1:=Hi (Bb o.v.lo-1);have h2:=(U9 (by omega) g2.1).1.best (pw (Bb o.v.lo-1)) (Hf (by omega) _) (by grind);grind
 have hz:¬Di (Ef o.v o.v p).v=true:=by
  rw [Gz];rintro ⟨h1,-⟩;grind
 have oy:(Ef   o.v o.v p).v.Ok:=(Jy      ok ok (by omega)).1;obtain ⟨-,ra,ia⟩:=hc n (by omega);have key : ∃ At Bt : Int, (Fe    p c c n (gI (Cm   a) n) (List.range' 1 (n - 1))).k = 0 ∧ RgI (Fe    p c c n (gI (Cm   a) n) (List.range' 1 (n - 1))).v At Bt ∧ In (Acv   (rtv (eR a) o.v.lo.q) (rtv (eR a) o.v.lo.q) n (eR a n) (List.range' 1 (n - 1))) (Fe    p c c n (gI (Cm   a) n) (List.range' 1 (n - 1))).v ∧ At + 68 ≤ rtA n ∧ Bt + 70 ≤ rtB n ∧ At ≤ 400 ∧ Bt ≤ 400 := by
  have:n=1∨n=2∨n=3:=by omega
  rcases this with rfl | rfl | rfl
  ·exact ⟨3,2,rfl,ra,ia,by decide,by decide,by decide,by decide⟩
  ·obtain ⟨k1,rl,il⟩:=Qh (p:=p) (n:=2) (a:=c) (b:=c) (A:=160) (B:=151) (by omega) (by omega) (by decide) (by decide) (by decide)
    (fun j h1 h2=>by
      obtain rfl:j=1:=by omega
      exact Pq (by omega) (by omega) hcc hcc (by omega) (by omega) (by decide) (by decide) (by decide) (by decide) (by decide)) 1 1 (gI (Cm a) 2) (eR a 2) (by omega) (by omega) (ra.mono (by decide) (by decide)) ia
   exact ⟨160,160,k1,rl.mono (by decide) (by decide),il,by decide,by decide,by decide,by decide⟩
  ·obtain ⟨k1,rl,il⟩:=Qh (p:=p) (n:=3) (a:=c) (b:=c) (A:=320) (B:=316) (by omega) (by omega) (by decide) (by decide) (by decide)
    (fun j h1 h2=>by
      have:j=1∨j=2:=by omega
      rcases this with rfl | rfl<;>exact Pq (by omega) (by omega) hcc hcc (by omega) (by omega) (by decide) (by decide) (by decide) (by decide) (by decide)) 2 1 (gI (Cm a) 3) (eR a 3) (by omega) (by omega) (ra.mono (by decide) (by decide)) ia
   exact ⟨320,328,k1,rl.mono (by decide) (by decide),il,by decide,by decide,by decide,by decide⟩
 obtain ⟨At,Bt,k1,rl,il,q1,q2,q3,q4⟩:=key;rw [Outc.th_ok k1,Outc.th_ok g2.1];have g:=Ace (p:=p) rl g2.2 oy hz (by omega) (by omega) (by omega);refine ⟨(Ng oy (by omega)).1,g.mono (by omega) (by omega),?_⟩;have:=Aft oy (by omega) g.1 il i2;rwa [Aho (eR a) _ hn0 hn] at this
def Af4 (f g:Nat→Rat) (n:Nat):Rat→List Nat→Rat
 | s,[]=>s
 | s,j::js=>Af4 f g n (s+((j:Int):Rat)*f j*g (n-j)) js
theorem Aa7 (p:Nat)(a c:List RawI)(n:Nat)(s:Iv)(j m:Nat) :
 Ih p a c n s (List.range' j (m+1))=(Cg (ptN j) (gI a j) p).th fun u=>(Cg u (gI c (n-j)) p).th fun q=>(Ef s q p).th fun s'=>Ih p a c n s' (List.range' (j+1) m):=by
 rw [List.range'_succ];rfl
theorem Vk {p n:Nat}{a c:List RawI}{f g:Nat→Rat}{A B:Int}(p1:1≤p)(p2:p≤300)(hA:A≤100000)(hB:B+3*n+3≤99990)(hAB:A+B+3*n+3≤3900)
 (h:∀ j,1≤j→j≤n→(Cg (ptN j) (gI a j) p).k=0∧GoodI (Cg (Cg (ptN j) (gI a j) p).v (gI c (n-j)) p) A B∧In (((j:Int):Rat)*f j*g (n-j)) (Cg (Cg (ptN j) (gI a j) p).v (gI c (n-j)) p).v):∀ (m j:Nat) (s:Iv) (v:Rat),1≤j→j+m=n+1→RgI s A (B+3*j)→In v s →
   (Ih p a c n s (List.range' j m)).k=0∧RgI (Ih p a c n s (List.range' j m)).v A (B+3*n+3)∧In (Af4 f g n v (List.range' j m)) (Ih p a c n s (List.range' j m)).v
 | 0,j,s,v,_,e,r,i=>⟨rfl,r.mono (Int.le_refl _) (by omega),i⟩
 | m + 1, j, s, v, hj, e, r, i => by
   obtain ⟨k1,g1,i1⟩:=h j hj (by omega);have g2:=Ru (p:=p) r (g1.2.mono (Int.le_refl _) (B':=B+3*j) (by omega)) (by omega) hA (by omega) (by omega);rw [Aa7,Outc.th_ok k1,Outc.th_ok g1.1,Outc.th_ok g2.1];exact Vk p1 p2 hA hB hAB h m (j+1) _ _ (by omega) (by omega) (g2.2.mono (Int.le_refl _) (by omega)) (Aar p1 g2.1 i i1)
theorem Aj2 (ov:Iv→Nat→Outc Iv)(p:Nat)(a b c:List RawI){n:Nat}(h:n≠0):Cb ov p 13 a b c n=(Cg (ptN 1) (gI a 1) p).th fun u=>(Cg u (gI c (n-1)) p).th fun s=>(Ih p a c n s (List.range' 2 (n-1))).th fun s=>Da s (ptN n) p:=by
 show (if n=0 then _ else _)=_
 rw [if_neg h]
theorem Aja (a:Nat→Rat)(e:Rat){n:Nat}(h0:n≠0)(h:n<4):Af4 a (ev a e) n ((((1:Nat):Int):Rat)*a 1*ev a e (n-1)) (List.range' 2 (n-1))/((n:Int):Rat)=ev a e n:=by
 have c1:(((1:Nat):Int):Rat)=1:=rfl;have c2:(((2:Nat):Int):Rat)=2:=rfl;have c3:(((3:Nat):Int):Rat)=3:=rfl;have:n=1∨n=2∨n=3:=by omega
 rcases this with rfl | rfl | rfl
 ·show (((1:Nat):Int):Rat)*a 1*e/(((1:Nat):Int):Rat)=a 1*e
  rw [c1];grind
 ·show ((((1:Nat):Int):Rat)*a 1*ev1 a e+(((2:Nat):Int):Rat)*a 2*e)/(((2:Nat):Int):Rat)=(a 1*ev1 a e+2*a 2*e)/2
  rw [c1,c2];grind
 ·show ((((1:Nat):Int):Rat)*a 1*ev2 a e+(((2:Nat):Int):Rat)*a 2*ev1 a e+(((3:Nat):Int):Rat)*a 3*e)/(((3:Nat):Int):Rat)=(a 1*ev2 a e+2*a 2*ev1 a e+3*a 3*e)/3
  rw [c1,c2,c3];grind
def N3 (n:Nat):Int:=65+80*n
def N5 (n:Nat):Int:=4+25*n
theorem Ahn {ov:Iv→Nat→Outc Iv}{p:Nat}{f:Nat→Rat}{x b:List RawI}{e:Rat}(p1:20≤p)(p2:p≤60)(hx:Cf f (fun _=>3) (fun _=>2) x)(hl:x.length=4)
 (ok:(ov (gI x 0) p).v.Ok) (g0:GoodI (ov (gI x 0) p) 65 4) (i0:In e (ov (gI x 0) p).v):∃ r,Ei ov p 13 x b [] (List.range' 0 4)=⟨r,0⟩∧Cf (ev f e) N3 N5 r∧r.length=4:=by
 have hN:∀ c n,n<4→Cf (ev f e) N3 N5 c→c.length=n→(Cb ov p 13 x b c n).v.Ok∧GoodI (Cb ov p 13 x b c n) (N3 n) (N5 n)∧In (ev f e n) (Cb ov p 13 x b c n).v:=by
  intro c n hn hc hcl;by_cases hn0:n=0
  ·subst hn0;exact ⟨ok,g0,i0⟩
  ·rw [Aj2 _ _ _ _ _ hn0];have hu:∀ j,1≤j→j≤n→GoodI (Cg (ptN j) (gI x j) p) 3 5∧In (((j:Int):Rat)*f j) (Cg (ptN j) (gI x j) p).v:=by
    intro j h1 h2;obtain ⟨-,r1,i1⟩:=hx j (by omega);replace r1:RgI (gI x j) 3 2:=r1;have g:=Xg (p:=p) (Ahh (n:=j) (k:=2) (by omega) (by decide)) r1 (by omega) (by omega) (by omega) (by omega);exact ⟨g.mono (by omega) (by omega),Abi (by omega) g.1 (Abm (by omega)) i1⟩
   have hq:∀ j,1≤j→j≤n→(Cg (ptN j) (gI x j) p).k=0∧GoodI (Cg (Cg (ptN j) (gI x j) p).v (gI c (n-j)) p) (N3 (n-1)+3) (N5 (n-1)+6)∧In (((j:Int):Rat)*f j*ev f e (n-j)) (Cg (Cg (ptN j) (gI x j) p).v (gI c (n-j)) p).v:=by
    intro j h1 h2;obtain ⟨g1,i1⟩:=hu j h1 h2;obtain ⟨-,r2,i2⟩:=hc (n-j) (by omega);have g:=Xg (p:=p) g1.2 r2 (by omega) (by unfold N3;omega) (by unfold N5;omega) (by unfold N3 N5;omega);exact ⟨g1.1,g.mono (by unfold N3;omega) (by unfold N5;omega),Abi (by omega) g.1 i1 i2⟩
   obtain ⟨k1,g1,i1⟩:=hq 1 (by decide) (by omega);obtain ⟨k2,r2,i2⟩:=Vk (p:=p) (n:=n) (a:=x) (c:=c) (f:=f) (g:=ev f e) (A:=N3 (n-1)+3) (B:=N5 (n-1)+6) (by omega) (by omega) (by unfold N3;omega) (by unfold N5;omega) (by unfold N3 N5;omega) hq (n-1) 2 _ _ (by decide) (by omega) (g1.2.mono (Int.le_refl _) (by omega)) i1;rw [Outc.th_ok k1,Outc.th_ok g1.1,Outc.th_ok k2];obtain ⟨m,rfl⟩:∃ m,n=m+1:=⟨n-1,by omega⟩;obtain ⟨o3,g3,i3⟩:=Yp (p:=p) (n:=m) (by omega) (by omega) (by omega) r2 i2 (by unfold N3;omega) (by unfold N5;omega);rw [Aja f e hn0 hn] at i3;exact ⟨o3,g3.mono (by unfold N3;omega) (by unfold N5;omega),i3⟩
 obtain ⟨k0,q,ql⟩:=Pi (L:=4) hN 4 [] (by simp) (Cf.nil _ _ _);exact ⟨_,Acu k0 rfl,q,by simpa using ql⟩
theorem Ana {ov:Iv→Nat→Outc Iv}{p:Nat}{a:Nat→Int}{r b:List RawI}(p1:20≤p)(p2:p≤60)(ha:∀ i,(a i).natAbs≤16)(hb:Gd b)
 (k0:(Cc (pt (dyz (a 0) (-3))) p).k=0) (m0:(Cc (pt (dyz (a 0) (-3))) p).v.lo.m≠0) (n0:(Cc (pt (dyz (a 0) (-3))) p).v.lo.neg=false) (rg:RgI (Cc (pt (dyz (a 0) (-3))) p).v 65 4)
 (hr:Cf (rtv (eR a) (Cc (pt (dyz (a 0) (-3))) p).v.lo.q) rtA rtB r) (hl:r.length=4) (hr0:gI r 0=(Cc (pt (dyz (a 0) (-3))) p).v) :
 ∃ q,Ei ov p 11 r b [] (List.range' 0 4)=⟨q,0⟩∧Cf (eR a) (fun _=>600) (fun _=>600) q∧q.length=4:=by
 have hx:=Ahg m0 n0;have hN:∀ c n,n<4→Cf (eR a) (fun _=>600) (fun _=>600) c→c.length=n→(Cb ov p 11 r b c n).v.Ok∧GoodI (Cb ov p 11 r b c n) 600 600∧In (eR a n) (Cb ov p 11 r b c n).v:=by
  intro c n hn _ _;have key : GoodI (Cb ov p 11 r b c n) 600 600 ∧ In (eR a n) (Cb ov p 11 r b c n).v := by
   rw [Acz];by_cases h0:n=0
   ·subst h0;rw [if_pos rfl,hr0];have g:=Ak1 (p:=p) rg (by omega) (by decide) (by decide) (by decide);refine ⟨g.mono (by decide) (by decide),?_⟩;obtain ⟨h1,h2⟩:=Ae0 (Mb (He (a 0) (-3))) (p:=p) (by omega) k0 g.1;have e:(dyz (a 0) (-3)).q=eR a 0:=Vg (Ac8 (ha 0));exact ⟨by rw [←e];exact h1,by rw [←e];exact h2⟩
   ·rw [if_neg h0]
    obtain ⟨g,i⟩:=Aah (p:=p) (n:=n) (a:=r) (b:=r) (f:=rtv (eR a) (Cc (pt (dyz (a 0) (-3))) p).v.lo.q) (g:=rtv (eR a) (Cc (pt (dyz (a 0) (-3))) p).v.lo.q) (A:=480) (B:=450) (by omega) (by omega) (by decide) (by omega) (by omega)
     (fun j hj=>by
       have c1:n=1∨n=2∨n=3:=by omega
       have c2:j=0∨j=1∨j=2∨j=3:=by omega
       rcases c1 with rfl | rfl | rfl<;>rcases c2 with rfl | rfl | rfl | rfl<;>first | omega | exact Pq (by omega) (by omega) hr hr (by omega) (by omega) (by decide) (by decide) (by decide) (by decide) (by decide))
    have e:=Anb (a:=eR a) (x:=(Cc (pt (dyz (a 0) (-3))) p).v.lo.q) (by grind) h0 hn;unfold sqV at e;rw [e] at i;exact ⟨g.mono (by omega) (by omega),i⟩
  exact ⟨Ns (by omega) hr.gd hb (by simp) key.1.1,key⟩
 obtain ⟨k,q,ql⟩:=Pi (L:=4) hN 4 [] (by simp) (Cf.nil _ _ _);exact ⟨_,Acu k rfl,q,by simpa using ql⟩
theorem Ako {ov:Iv→Nat→Outc Iv}{p:Nat}{f g:Nat→Rat}{e h:Rat}{r s:List RawI}(p1:20≤p)(p2:p≤60)(hr:Cf (ev f e) N3 N5 r)(hs:Cf (ev g h) N3 N5 s)(lr:r.length=4)(ls:s.length=4)(eh:e*h=1)(hfg:∀ n,g n=-f n) :
 ∃ q,Ei ov p 8 r s [] (List.range' 0 4)=⟨q,0⟩∧Cf (fun n=>if n=0 then 1 else 0) (fun _=>600) (fun _=>600) q∧q.length=4:=by
 have hN:∀ c n,n<4→Cf (fun n=>if n=0 then 1 else 0) (fun _=>600) (fun _=>600) c→c.length=n→(Cb ov p 8 r s c n).v.Ok∧GoodI (Cb ov p 8 r s c n) 600 600∧In (if n=0 then 1 else 0) (Cb ov p 8 r s c n).v:=by
  intro c n hn _ _;rw [Ag4]
  obtain ⟨g1,i⟩:=Aah (p:=p) (n:=n) (a:=r) (b:=s) (f:=ev f e) (g:=ev g h) (A:=400) (B:=100) (by omega) (by omega) (by decide) (by omega) (by omega)
   (fun j hj=>Pq (by omega) (by omega) hr hs (by omega) (by omega) (by unfold N3;omega) (by unfold N5;omega) (by decide) (by decide) (by unfold N3 N5;omega))
  rw [Ai9 eh hfg hn] at i;exact ⟨Ul (by omega) g1.1,g1.mono (by omega) (by omega),i⟩
 obtain ⟨k,q,ql⟩:=Pi (L:=4) hN 4 [] (by simp) (Cf.nil _ _ _);exact ⟨_,Acu k rfl,q,by simpa using ql⟩
end Go.Proofs.YtabjjdicffcolaaGreatDoor
