/- Words and contracts, part 15. -/
import Derived.Test.YtabjjdicffcolaaGreatDoorClaimJfrontp13
import Derived.Deep.CutRange
set_option maxRecDepth 100000
set_option maxHeartbeats 0
namespace Go.Proofs.YtabjjdicffcolaaGreatDoor
open Go.RowKit
variable {α:Type} {up:Bool} {d:Dy} {e op:Int} {a:Iv} {l rows:List (List RawI)} {vs xs:List Value} {B b bt c g g' i n p:Nat} {row:Option Nat} {T:TypeId} {s so u v v' x:Value} {W w w':World}
def cj {α:Type} (l:List α) (g:α->Bool) (w:World) (e:Ending) (w':World):Prop:=∃ r:Int,e=.returned (.int .i64 r)/\decide (0<=r)=l.any g/\Kept w w'
theorem Rw {l:List α}{g:α->Bool}(h:∀ i x,i<l.length->l[i]?=some x->g x=false):l.any g=false:=by
 rw [List.any_eq_false];intro x hx;obtain ⟨i,hi,he⟩:=List.mem_iff_getElem.1 hx;rw [h i x hi (by rw [Cd hi,he])]
 decide
theorem Tz {l:List α}{g:α->Bool}{x:α}(h:l[i]?=some x)(hg:g x=true):l.any g=true:=List.any_eq_true.2 ⟨x,Dc h,hg⟩
theorem m9 {l:List Int}{g:Int->Bool}(hv:InS w v l)(hn:l.length<=1000000000)
 (h:∀ w1,Kept w w1->∀ x,x∈l->Calls Tryz.prog 86 #[.int .i64 x,.pointer (some ⟨bt,0,none⟩)] w1 (RetK (.bool (g x)) w1)) :
 Calls Tryz.prog 120 #[v,.func (.func 86) #[] #[.pointer (some ⟨bt,0,none⟩)]] w (cj l g w):=by
 obtain ⟨A,c,rfl,hc,hA⟩:=hv;have HG:=Ad h;have HA:=Ad hA;clear h hA;obtain ⟨n,hn'⟩:∃ n,n=l.length:=⟨_,rfl⟩;rw [<-hn'] at hn hc HA ⊢;have HN:=Ad hn';clear hn';go_enter Tryz.func120,Tryz.ntmps120;go_wp2_with fail
 go_loopw [8] (λt wr=>∃ k:Nat,k<=n/\t=.int .i64 k/\(∀ i x,i<k->l[i]?=some x->g x=false)/\Kept w wr) (λt _=>(n-intOf t).toNat)
 case atStart=>exact ⟨0,Nat.zero_le _,rfl,λi a hi=>absurd hi (Nat.not_lt_zero _),Below.refl _ _⟩
 case round =>
  obtain ⟨k,hk,rfl,hall,hKr⟩:=hrel;have KR:=Ad hKr;have AL:=Ad hall;clear hKr hall;by_cases hlt:k<n
  ·obtain ⟨b,off,rfl,hd⟩:=HA.out (by omega);obtain ⟨x,hx⟩:∃ x,l[k]?=some x:=⟨_,Cd (by have:=HN.out;omega)⟩;have hcell:=hd k x hx;have hc0:=(KR.out.cell (p:=⟨b,off+k,none⟩) (Av hcell)).trans hcell;have HX:=Ad hx;have hm:=HG.out wr KR.out x (Dc hx);obtain ⟨gx,hgx⟩:∃ y,y=g x:=⟨_,rfl⟩;rw [←hgx] at hm;have HM:=Ad hm;have HGX:=Ad hgx;clear hd hcell hx hm hgx;go_wp2_with fail;refine HM.out.mono ?_;rintro e w2 ⟨rfl,q⟩;have K2:=Ad (KR.out.trans q);clear q hc0;simp only [];cases gx
   ·go_wp2_with fail;go_roundw
    case rel =>
     refine ⟨k+1,by omega,by go_num,λi a hi ha'=>?_,K2.o⟩;by_cases h2:i=k
     ·subst h2;rw [HX.o] at ha';cases ha';exact HGX.o.symm
     ·exact AL.o i a (by omega) ha'
    case measure=>simp only [intOf];omega
   ·go_wp2_with fail;go_ret;exact ⟨k,rfl,by rw [Tz HX.o HGX.o.symm];simp,K2.o⟩
  ·obtain rfl:k=n:=by omega
   go_wp2_with fail;go_ret;exact ⟨-1,rfl,by rw [Rw (λi x hi hx=>AL.o i x (by have:=HN.o;omega) hx)];decide,KR.o⟩
theorem cK {l:List Int}{g:Int->Bool}(hv:InS w v l)(hn:l.length<=1000000000)
 (h:∀ w1,Kept w w1->∀ x,x∈l->Calls Tryz.prog 86 #[.int .i64 x,.pointer (some ⟨bt,0,none⟩)] w1 (RetK (.bool (g x)) w1)) :
 Calls Tryz.prog 85 #[v,.func (.func 86) #[] #[.pointer (some ⟨bt,0,none⟩)]] w (RetK (.bool (l.any g)) w):=by
 have C:=Ad (m9 hv hn h);obtain ⟨A,c,rfl,-,-⟩:=hv;clear hn h;go_enter Tryz.func85,Tryz.ntmps85;go_wp2_with fail;refine C.o.mono ?_;rintro e w2 ⟨r,rfl,hr,q⟩;have Q:=Ad q;have HR:=Ad hr;clear q hr C;simp only [];go_wp2_with fail;go_ret;exact ⟨by rw [<-HR.o];rfl,Q.o⟩
theorem Pi (x u p:Int):∀ (ls:List Ln) (i:Nat),Me x u p i ls=true↔∀ j l,ls[j]?=some l->Ix l ((i+j:Nat):Int) x u p=true
 | [],i=>by simp [Me]
 | l :: ls, i => by
   rw [Me,Bool.and_eq_true,Pi x u p ls (i+1)];constructor
   ·rintro ⟨h1,h2⟩ j m hm;rcases j with _ | j
    ·simp at hm;subst hm;exact h1
    ·simp at hm;have:=h2 j m hm;rw [show i+(j+1)=i+1+j by omega];exact this
   ·intro h;refine ⟨h 0 l (by simp),λj m hm=>?_⟩;have:=h (j+1) m (by simpa using hm);rw [show i+1+j=i+(j+1) by omega];exact this
theorem Ez {y:Value}(h:w.heap[b]?=some (.cells #[x,y] T (0,0))):w.cell? ⟨b,0,none⟩=some x/\w.cell? ⟨b,1,none⟩=some y:=⟨Ae h 0 _ rfl,Ae h 1 _ rfl⟩
theorem Ay {o:Obj}(h:w.heap[b]?=some o)(k:Kept w w'):w'.heap[b]?=some o:=(k.block b (Bi h).1).trans h
theorem mV {ln:Nat}{n:Int}{A:Option Addr}(hb:w.heap[bt]?=some (.cells #[.slice A ln c,so] 25 (0,0))) :
 Calls Tryz.prog 86 #[.int .i64 n,.pointer (some ⟨bt,0,none⟩)] w (RetK (.bool (!Cr n ln)) w):=by
 obtain ⟨c0,c1⟩:=Ez hb;have B:=Ad (Qv n ln w);obtain ⟨f,hf⟩:∃ f,Cr n ln=f:=⟨_,rfl⟩;rw [hf] at B ⊢;clear hf hb;go_enter Tryz.func86,Tryz.ntmps86;go_wp2_with fail;refine B.o.mono ?_;rintro e w2 ⟨rfl,q⟩;simp only [];go_wp2_with fail;go_ret;exact ⟨rfl,q⟩
theorem rj (w:World)(s o:Value):∃ W,W=w.alloc (.cells #[s,o] 25)/\Kept w W/\W.heap[w.heap.size]?=some (.cells #[s,o] 25 (0,0))/\w.heap.size<W.heap.size :=
 ⟨_,rfl,Ab _ _,heap_alloc_new _ _,by simp⟩
def Ru (ls:List Ln):Prop:=∀ l∈ls,-9223372036854775808<=l.op/\l.op<=9223372036854775807/\l.k.lens 17592186044416
theorem Yv {ls:List Ln}{outs:List Int}{x u p:Int}(hv:TpR w v ls outs)(hok:Ru ls)(hn:ls.length<=1000000000)(hno:outs.length<=1000000000)
 (hx:-9223372036854775808<=x/\x<=9223372036854775807) (hu:-9223372036854775808<=u/\u<=9223372036854775807) (hp:-9223372036854775808<=p/\p<=9223372036854775807) :
 Calls Tryz.prog 47 #[v,.int .i64 x,.int .i64 u,.int .i64 p] w (RetK (.bool (Iy ls outs x u p)) w):=by
 obtain ⟨s,o,rfl,hls,hou⟩:=hv;have HL:=Ad hls;have HO:=Ad hou;obtain ⟨A,c,rfl,hc,hA⟩:=hls;obtain ⟨B,d,rfl,hd,-⟩:=hou;have HA:=Ad hA;have OK:=Ad hok;obtain ⟨W,hW,kW,hb,lW⟩:=rj w (.slice A ls.length c) (.slice B outs.length d);have HW:=Ad hW;have K:=Ad kW;have HB:=Ad hb;obtain ⟨c0,c1⟩:=Ez hb;clear hA hok hW kW hb;by_cases h1:ls.length<=200
 ·by_cases h2:outs.length≤200
  ·obtain ⟨w1,w2,w3,r1,r2,r3,hm,k3⟩:=gh W hx.1 hx.2 hu.1 hu.2 hp.1 hp.2;have hmm:=@run_makeMap Tryz.prog;have em:Iy ls outs x u p=(Me x u p 0 ls&&!(outs.any fun n=>!Cr n ls.length)):=by
    unfold Iy;rw [show decide (ls.length<=200)=true by simpa using h1,show decide (outs.length<=200)=true by simpa using h2,Bool.true_and,Bool.true_and,List.all_eq_not_any_not]
   rw [em];obtain ⟨m1,hm1⟩:∃ m1,Me x u p 0 ls=m1:=⟨_,rfl⟩;rw [hm1];have HM1:=Ad hm1;generalize hn':ls.length=n at *;have HN:=Ad hn';have HM:=Ad hm;have K3:=Ad k3;have CC:=Ad (λw1 (k:Kept W w1)=>cK (w:=w1) (g:=λy=>!Cr y n) (bt:=w.heap.size) (HO.o.kept (K.o.trans k)) hno (λw2 q y _=>mV (Ay HB.o (k.trans q))));obtain ⟨m2,hm2⟩:∃ m2,(outs.any λn'=>!Cr n' n)=m2:=⟨_,rfl⟩;rw [hm2] at CC ⊢;clear hm1 hn' hm k3 hm2 em;have t1:decide ((200:Int)<(n:Int))=false:=by simp;omega
   have t2:decide ((200:Int)<(outs.length:Int))=false:=by simp;omega
   go_enter Tryz.func47,Tryz.ntmps47;go_upto_region 1 with fail;rw [<-HW.o];obtain ⟨e0,e1⟩:=Ez (Ay HB.o K3.o);go_wp2_with fail;clear c0 c1 e0 e1 r1 r2 r3 hmm t1 t2
   go_loopw [30] (λt wr=>∃ k:Nat,k<=n/\t=.int .i64 k/\(∀ i l,i<k->ls[i]?=some l->Ix l (i:Int) x u p=true)/\Kept w3 wr) (λt _=>(n-intOf t).toNat)
   case atStart=>exact ⟨0,Nat.zero_le _,rfl,λi a hi=>absurd hi (Nat.not_lt_zero _),Below.refl _ _⟩
   case round =>
    obtain ⟨k,hk,rfl,hall,hKr⟩:=hrel;have KR:=Ad hKr;have AL:=Ad hall;clear hKr hall;by_cases hlt:k<n
    ·obtain ⟨b,off,rfl,hd⟩:=HA.out (by omega);obtain ⟨l,hl⟩:∃ l,ls[k]?=some l:=⟨_,Cd (by have:=HN.out;omega)⟩;have hat:=(hd k l hl).kept (K.out.trans (K3.out.trans KR.out));obtain ⟨a0,a1,a2,y0,y1,y2,y3,y4,y5,g0,g1,g2,g3,g4,g5,hI⟩:=hat;obtain ⟨A1,l1,q1,A2,l2,q2,ei,-,-⟩:=Ar hI;injection ei with ei;injection ei with ei
     simp only [List.cons.injEq,and_true] at ei;obtain ⟨rfl,rfl,rfl,rfl,rfl,rfl⟩:=ei;obtain ⟨o1,o2,ol⟩:=OK.o l (Dc hl);have hm:=λw2 (q:Kept wr w2)=>go (a:=l.a) (b:=l.b) (i:=k) (hI.kept q) ol (HM.o.kept (KR.o.trans q)) o1 o2
     have HLK:=Ad hl;obtain ⟨mb,hmb⟩:∃ mb,mb=Ix l (k:Int) x u p:=⟨_,rfl⟩;have hm2:=λw2 (q:Kept wr w2)=>show Calls _ _ _ _ (RetK (.bool mb) w2) by rw [hmb];exact hm w2 q
     have HMB:=Ad hmb;have HMM:=Ad hm2;clear hd hl hI ol hm hm2 hmb o1 o2;go_wp2_with fail;refine (HMM.o _ (Ab _ _)).mono ?_;rintro e w2' ⟨rfl,q⟩;have K2:=Ad (KR.o.trans ((Ab _ _).trans q));clear q a0 a1 a2 g0 g1 g2 g3 g4 g5 HMM;simp only [];cases mb
     ·go_wp2_with fail;go_ret;have e1:m1=false:=by
       cases hm:m1
       ·rfl
       ·have h1:=(Pi x u p ls 0).1 (HM1.o.trans hm) k l HLK.o;rw [Nat.zero_add] at h1;rw [<-HMB.o] at h1;cases h1
      exact ⟨by rw [e1];rfl,K.o.trans (K3.o.trans K2.o)⟩
     ·go_wp2_with fail;go_roundw
      case rel =>
       refine ⟨k+1,by omega,by go_num,λi a hi ha'=>?_,K2.o⟩;by_cases h2:i=k
       ·subst h2;rw [HLK.o] at ha';cases ha';exact HMB.o.symm
       ·exact AL.o i a (by omega) ha'
      case measure=>simp only [intOf];omega
    ·obtain rfl:k=n:=by omega
     have e1:m1=true:=by
      rw [<-HM1.o];refine (Pi x u p ls 0).2 λj m hm=>?_
      rw [Nat.zero_add];exact AL.o j m (by have:=(Ed hm).1;have:=HN.o;omega) hm
     obtain ⟨f0,f1⟩:=Ez (Ay HB.o (K3.o.trans KR.o));have hmf:=Hf;go_wp2_with fail;refine (CC.o _ (K3.o.trans KR.o)).mono ?_;rintro e w2' ⟨rfl,q⟩;have K2:=Ad (KR.o.trans q);clear q f0 f1;simp only [];go_wp2_with fail;go_ret;exact ⟨by rw [e1];rfl,K.o.trans (K3.o.trans K2.o)⟩
  ·have em:Iy ls outs x u p=false:=by
    unfold Iy;rw [show decide (outs.length<=200)=false by simpa using h2];simp
   rw [em];have t1:decide ((200:Int)<(ls.length:Int))=false:=by simp;omega
   have t2:decide ((200:Int)<(outs.length:Int))=true:=by simp;omega
   clear em;go_enter Tryz.func47,Tryz.ntmps47;go_upto_region 1 with fail;rw [<-HW.o];go_wp2_with fail;go_ret;exact ⟨rfl,K.o⟩
 ·have em:Iy ls outs x u p=false:=by
   unfold Iy;rw [show decide (ls.length<=200)=false by simpa using h1];simp
  rw [em];have t1:decide ((200:Int)<(ls.length:Int))=true:=by simp;omega
  clear em;go_enter Tryz.func47,Tryz.ntmps47;go_upto_region 1 with fail;rw [<-HW.o];go_wp2_with fail;go_ret;exact ⟨rfl,K.o⟩
theorem py (w:World)(x y z x' y' z':Value):∃ V,V=w.alloc (.cells #[x,y,z,x',y',z'] 30)/\Kept w V/\BlkI V w.heap.size x y z x' y' z'/\w.heap.size<V.heap.size :=
 ⟨_,rfl,Ab _ _,Ea _ _ _ _ _ _ _,by simp⟩
theorem jo {l:List RawI}{g:RawI->Bool}(hv:IvS w v l)(hn:l.length<=1000000000)
 (h:∀ w1 y,Kept w w1->∀ x,x∈l->IvR w1 y x->Calls Tryz.prog 95 #[y] w1 (RetK (.bool (g x)) w1)) :
 Calls Tryz.prog 121 #[v,.func (.func 95) #[] #[]] w (cj l g w):=by
 obtain ⟨A,c,rfl,hc,hA⟩:=hv;have HG:=Ad h;have HA:=Ad hA;clear h hA;obtain ⟨n,hn'⟩:∃ n,n=l.length:=⟨_,rfl⟩;rw [<-hn'] at hn hc HA ⊢;have HN:=Ad hn';clear hn';go_enter Tryz.func121,Tryz.ntmps121;go_wp2_with fail
 go_loopw [8] (λt wr=>∃ k:Nat,k<=n/\t=.int .i64 k/\(∀ i x,i<k->l[i]?=some x->g x=false)/\Kept w wr) (λt _=>(n-intOf t).toNat)
 case atStart=>exact ⟨0,Nat.zero_le _,rfl,λi a hi=>absurd hi (Nat.not_lt_zero _),Below.refl _ _⟩
 case round =>
  obtain ⟨k,hk,rfl,hall,hKr⟩:=hrel;have KR:=Ad hKr;have AL:=Ad hall;clear hKr hall;by_cases hlt:k<n
  ·obtain ⟨b,off,rfl,hd⟩:=HA.out (by omega);obtain ⟨x,hx⟩:∃ x,l[k]?=some x:=⟨_,Cd (by have:=HN.out;omega)⟩;obtain ⟨y0,y1,y2,y3,y4,y5,g0,g1,g2,g3,g4,g5,hI⟩:=(hd k x hx).kept KR.out;have HX:=Ad hx;have hm:=HG.out wr _ KR.out x (Dc hx) hI;obtain ⟨gx,hgx⟩:∃ y,y=g x:=⟨_,rfl⟩;rw [←hgx] at hm;have HM:=Ad hm;have HGX:=Ad hgx;clear hd hx hm hgx hI;go_wp2_with fail;refine HM.out.mono ?_;rintro e w2 ⟨rfl,q⟩;have K2:=Ad (KR.out.trans q);clear q g0 g1 g2 g3 g4 g5;simp only [];cases gx
   ·go_wp2_with fail;go_roundw
    case rel =>
     refine ⟨k+1,by omega,by go_num,λi a hi ha'=>?_,K2.o⟩;by_cases h2:i=k
     ·subst h2;rw [HX.o] at ha';cases ha';exact HGX.o.symm
     ·exact AL.o i a (by omega) ha'
    case measure=>simp only [intOf];omega
   ·go_wp2_with fail;go_ret;exact ⟨k,rfl,by rw [Tz HX.o HGX.o.symm];simp,K2.o⟩
  ·obtain rfl:k=n:=by omega
   go_wp2_with fail;go_ret;exact ⟨-1,rfl,by rw [Rw (λi x hi hx=>AL.o i x (by have:=HN.o;omega) hx)];decide,KR.o⟩
theorem Zz {l:List RawI}{g:RawI->Bool}(hv:IvS w v l)(hn:l.length<=1000000000)
 (h:∀ w1 y,Kept w w1->∀ x,x∈l->IvR w1 y x->Calls Tryz.prog 95 #[y] w1 (RetK (.bool (g x)) w1)) :
 Calls Tryz.prog 87 #[v,.func (.func 95) #[] #[]] w (RetK (.bool (l.any g)) w):=by
 have C:=Ad (jo hv hn h);obtain ⟨A,c,rfl,-,-⟩:=hv;clear hn h;go_enter Tryz.func87,Tryz.ntmps87;go_wp2_with fail;refine C.o.mono ?_;rintro e w2 ⟨r,rfl,hr,q⟩;have Q:=Ad q;have HR:=Ad hr;clear q hr C;simp only [];go_wp2_with fail;go_ret;exact ⟨by rw [<-HR.o];rfl,Q.o⟩
theorem gi {a:RawI}(hv:IvR w v a)(hl:a.lens 17592186044416):Calls Tryz.prog 95 #[v] w (RetK (.bool (!Dl a)) w):=by
 obtain ⟨x0,x1,x2,x3,x4,x5,rfl,-,-⟩:=(show IvR _ _ _ from hv);obtain ⟨W,hW,kW,hb,-⟩:=py w x0 x1 x2 x3 x4 x5;have M:=Ad (Up (hv.kept kW) hl);obtain ⟨f,hf⟩:∃ f,Dl a=f:=⟨_,rfl⟩;rw [hf] at M ⊢;obtain ⟨-,c0,c1,c2,c3,c4,c5⟩:=hb.facts;have HW:=Ad hW;clear hf hv hl hb hW;go_enter Tryz.func95,Tryz.ntmps95;go_upto_region 1 with fail;rw [<-HW.o];go_wp2_with fail;refine M.o.mono ?_;rintro e w2 ⟨rfl,q⟩;simp only [];go_wp2_with fail;go_ret;exact ⟨rfl,kW.trans q⟩
theorem sh (w:World)(x0 x1 x2 x3 x4 x5 x6 x7 x8:Value):∃ W,W=w.alloc (.cells #[x0,x1,x2,x3,x4,x5,x6,x7,x8] 33)/\Kept w W/\W.heap[w.heap.size]?=some (.cells #[x0,x1,x2,x3,x4,x5,x6,x7,x8] 33 (0,0))/\w.heap.size<W.heap.size :=
 ⟨_,rfl,Ab _ _,heap_alloc_new _ _,by simp⟩
def ch (e:En):Prop:=e.t.lens 17592186044416/\(∀ a∈e.x,a.lens 17592186044416)/\(∀ a∈e.u,a.lens 17592186044416)/\(∀ a∈e.p,a.lens 17592186044416)/\e.x.length<=1000000000/\e.u.length<=1000000000/\e.p.length<=1000000000
theorem jH {e:En}(hv:EnR w v e)(hl:ch e):Calls Tryz.prog 62 #[v] w (RetK (.bool (Uw e)) w):=by
 obtain ⟨x0,x1,x2,x3,x4,x5,sx,su,sp,rfl,ht,hx,hu,hp⟩:=hv;obtain ⟨l1,l2,l3,l4,n2,n3,n4⟩:=hl;have HT:=Ad ht;have HX:=Ad hx;have HU:=Ad hu;have HP:=Ad hp;obtain ⟨A1,j1,q1,A2,j2,q2,ei,-,-⟩:=Ar ht;injection ei with ei;injection ei with ei
 simp only [List.cons.injEq,and_true] at ei;obtain ⟨rfl,rfl,rfl,rfl,rfl,rfl⟩:=ei;obtain ⟨AX,cx,rfl,-,-⟩:=hx;obtain ⟨AU,cu,rfl,-,-⟩:=hu;obtain ⟨AP,cp,rfl,-,-⟩:=hp;obtain ⟨W,hW,kW,hb,lW⟩:=sh w (.bool e.t.lo.neg) (.slice A1 j1 q1) (.int .i64 e.t.lo.e) (.bool e.t.hi.neg) (.slice A2 j2 q2) (.int .i64 e.t.hi.e) (.slice AX e.x.length cx) (.slice AU e.u.length cu) (.slice AP e.p.length cp);obtain ⟨W1,hW1,kW1,hb1,-⟩:=py W (.bool e.t.lo.neg) (.slice A1 j1 q1) (.int .i64 e.t.lo.e) (.bool e.t.hi.neg) (.slice A2 j2 q2) (.int .i64 e.t.hi.e)
 obtain ⟨W2,hW2,kW2,hb2⟩:∃ W2,W2=W1.alloc (.cells #[.slice (some ⟨W.heap.size,0,none⟩) 1 1,.slice AX e.x.length cx,.slice AU e.u.length cu,.slice AP e.p.length cp] 31)/\Kept W1 W2/\W2.heap[W1.heap.size]?=some (.cells #[.slice (some ⟨W.heap.size,0,none⟩) 1 1,.slice AX e.x.length cx,.slice AU e.u.length cu,.slice AP e.p.length cp] 31 (0,0)) :=
  ⟨_,rfl,Ab _ _,heap_alloc_new _ _⟩
 have ew:W1.heap.size=W.heap.size+1:=by rw [hW1];simp
 rw [ew] at hb2;have kk:=kW.trans (kW1.trans kW2);have hT1:IvS W2 (.slice (some ⟨W.heap.size,0,none⟩) 1 1) [e.t]:=mC (hb1.kept kW2) (HT.o.kept kk);obtain ⟨rows,hrows⟩:∃ rows:List (Value × List RawI),rows=[(.slice (some ⟨W.heap.size,0,none⟩) 1 1,[e.t]),(.slice AX e.x.length cx,e.x),(.slice AU e.u.length cu,e.u),(.slice AP e.p.length cp,e.p)]:=⟨_,rfl⟩;have RS:=Ad (show ∀ j r,rows[j]?=some r->IvS W2 r.1 r.2/\(∀ a∈r.2,a.lens 17592186044416)/\r.2.length<=1000000000/\W2.cell? ⟨W.heap.size+1,j,none⟩=some r.1 by
  intro j r hr;subst hrows;rcases j with _ | _ | _ | _ | j
  ·cases hr;exact ⟨hT1,by simpa using l1,by simp,Ae hb2 0 _ rfl⟩
  ·cases hr;exact ⟨HX.o.kept kk,l2,n2,Ae hb2 1 _ rfl⟩
  ·cases hr;exact ⟨HU.o.kept kk,l3,n3,Ae hb2 2 _ rfl⟩
  ·cases hr;exact ⟨HP.o.kept kk,l4,n4,Ae hb2 3 _ rfl⟩
  ·simp at hr)
 have RL:rows.length=4:=by rw [hrows];rfl
 have RE:Uw e=rows.all λr=>r.2.all Dl:=by
  rw [hrows];unfold Uw;simp [Bool.and_assoc]
 rw [RE];have KK:=Ad kk;have HW:=Ad hW;have HW1:=Ad hW1;have HW2:=Ad hW2;obtain ⟨c0,c1,c2,c3,c4,c5,c6,c7,c8⟩:=Cp hb;clear RE hrows hT1 hb hb1 hb2 kk kW kW1 kW2 l1 l2 l3 l4 n2 n3 n4 hW hW1 hW2 HT HX HU HP ht;generalize e.t.lo.neg=z1,e.t.lo.e=z2,e.t.hi.neg=z3,e.t.hi.e=z4,e.x.length=y1,e.u.length=y2,e.p.length=y3 at *;go_enter Tryz.func62,Tryz.ntmps62;go_upto_region 1 with fail;rw [<-HW.o];go_wp2_with fail;rw [<-HW1.o,<-HW2.o];clear c0 c1 c2 c3 c4 c5 c6 c7 c8 HW HW1 HW2
 go_loopw [16] (λt wr=>∃ k:Nat,k<=4/\t=.int .i64 k/\(∀ i r,i<k->rows[i]?=some r->r.2.all Dl=true)/\Kept W2 wr) (λt _=>(4-intOf t).toNat)
 case atStart=>exact ⟨0,Nat.zero_le _,rfl,λi a hi=>absurd hi (Nat.not_lt_zero _),Below.refl _ _⟩
 case round =>
  obtain ⟨k,hk,rfl,hall,hKr⟩:=hrel;have KR:=Ad hKr;have AL:=Ad hall;clear hKr hall;by_cases hlt:k<4
  ·obtain ⟨r,hr⟩:∃ r,rows[k]?=some r:=⟨_,Cd (by omega)⟩;obtain ⟨hs,hll,hln,hcell⟩:=RS.out k r hr;have hc0:=(KR.out.cell (p:=⟨W.heap.size+1,k,none⟩) (Av hcell)).trans hcell;have HRR:=Ad hr;have hm:=Zz (g:=fun a=>!Dl a) (hs.kept KR.out) hln (fun w1 y q a ha hy=>gi hy (hll a ha));obtain ⟨mb,hmb⟩:∃ mb,mb=r.2.all Dl:=⟨_,rfl⟩;rw [←List.not_all_eq_any_not,←hmb] at hm;have HMB:=Ad hmb;have HM:=Ad hm;clear hr hs hll hln hcell hm hmb;go_wp2_with fail;refine HM.out.mono ?_;rintro e' w2' ⟨rfl,q⟩;have K2:=Ad (KR.out.trans q);clear q hc0;simp only [];cases mb
   ·go_wp2_with fail;go_ret;have e1:(rows.all fun r=>r.2.all Dl)=false:=by
     rw [List.all_eq_false];exact ⟨r,Dc HRR.o,by rw [<-HMB.o];decide⟩
    exact ⟨by rw [e1];rfl,KK.o.trans K2.o⟩
   ·go_wp2_with fail;go_roundw
    case rel =>
     refine ⟨k+1,by omega,by go_num,λi a hi ha'=>?_,K2.o⟩;by_cases h2:i=k
     ·subst h2;rw [HRR.o] at ha';cases ha';exact HMB.o.symm
     ·exact AL.o i a (by omega) ha'
    case measure=>simp only [intOf];omega
  ·obtain rfl:k=4:=by omega
   go_wp2_with fail;go_ret;have e1:(rows.all λr=>r.2.all Dl)=true:=by
    rw [List.all_eq_true];intro r hr;obtain ⟨i,hi,he⟩:=List.mem_iff_getElem.1 hr;exact AL.o i r (by omega) (by rw [Cd hi,he])
   exact ⟨by rw [e1];rfl,KK.o.trans KR.o⟩
theorem jw:Al 1=[1]:=by rw [D7 1 (by decide)];simp [Be]
def d1:Dy:=⟨false,1,0⟩
theorem kf (n:Bool)(e:Int)(h1:-1048576<=e)(h2:e<=1048576):(Dy.mk n 1 e).Ok:=⟨by simp [jw],λh=>absurd h (by simp),λ_=>rfl,h1,h2⟩
theorem J4:d1.Ok:=kf _ _ (by decide) (by decide)
theorem jf:Ck false 1 0=⟨d1,0⟩:=fS J4
theorem Kp {p:Int}{l:List RawI}{o:Outc RawI}(p1:1<=p)(p2:p<=2000)(h:l.all Dl=true):Fs p l o=o:=by unfold Fs;rw [Ak ⟨p1,p2,h⟩]
theorem qN {b:Iv}(hv:IvC w v a)(hu:IvC w u b)(ha:a.Ok)(hb:b.Ok)(hT:Tab w)(p1:1<=p)(p2:p<=2000) :
 Calls Tryz.prog 96 #[v,u,.int .i64 p] w (RetIE (Bn (Gc a b p)) w):=by
 have h:=qM (p:=(p:Int)) hv hu (Gx ha) (Gx hb) hT;rw [Kp (by omega) (by omega) (by simp [Ev ha,Ev hb]),Iv.raw_iv,Iv.raw_iv,Int.toNat_natCast] at h;exact h
theorem re {b:Iv}(hv:IvC w v a)(hu:IvC w u b)(ha:a.Ok)(hb:b.Ok)(hT:Tab w)(p1:1<=p)(p2:p<=2000) :
 Calls Tryz.prog 97 #[v,u,.int .i64 p] w (RetIE (Bn (I8 a b p)) w):=by
 have h:=rc (p:=(p:Int)) hv hu (Gx ha) (Gx hb) hT;rw [Kp (by omega) (by omega) (by simp [Ev ha,Ev hb]),Iv.raw_iv,Iv.raw_iv,Int.toNat_natCast] at h;exact h
theorem qT {b:Iv}(hv:IvC w v a)(hu:IvC w u b)(ha:a.Ok)(hb:b.Ok)(hT:Tab w)(p1:1<=p)(p2:p<=2000) :
 Calls Tryz.prog 98 #[v,u,.int .i64 p] w (RetIE (Bn (Ew a b p)) w):=by
 have h:=qS (p:=(p:Int)) hv hu (Gx ha) (Gx hb) hT;rw [Kp (by omega) (by omega) (by simp [Ev ha,Ev hb]),Iv.raw_iv,Iv.raw_iv,Int.toNat_natCast] at h;exact h
theorem qP {b:Iv}(hv:IvC w v a)(hu:IvC w u b)(ha:a.Ok)(hb:b.Ok)(hT:Tab w)(p1:1<=p)(p2:p<=2000) :
 Calls Tryz.prog 94 #[v,u,.int .i64 p] w (RetIE (Bn (Cm a b p)) w):=by
 have h:=qO (p:=(p:Int)) hv hu (Gx ha) (Gx hb) hT;rw [Kp (by omega) (by omega) (by simp [Ev ha,Ev hb]),Iv.raw_iv,Iv.raw_iv,Int.toNat_natCast] at h;exact h
theorem qV (hv:IvC w v a)(ha:a.Ok)(hT:Tab w)(p1:1<=p)(p2:p<=2000) :
 Calls Tryz.prog 99 #[v,.int .i64 p] w (RetIE (Bn (Oi a p)) w):=by
 have h:=qU (p:=(p:Int)) hv (Gx ha) hT;rw [Kp (by omega) (by omega) (by simp [Ev ha]),Iv.raw_iv,Int.toNat_natCast] at h;exact h
theorem qZ (hv:IvC w v a)(ha:a.Ok)(hT:Tab w)(p1:1<=p)(p2:p<=2000) :
 Calls Tryz.prog 100 #[v,.int .i64 p] w (RetIE (Bn (Lb a p)) w):=by
 have h:=qW (p:=(p:Int)) hv (Gx ha) hT;rw [Kp (by omega) (by omega) (by simp [Ev ha]),Iv.raw_iv,Int.toNat_natCast] at h;exact h
theorem oZ (hv:IvC w v a)(ha:a.Ok)(hT:Tab w)(p1:1<=p)(p2:p<=2000) :
 Calls Tryz.prog 101 #[v,.int .i64 p] w (RetIE (Bn (Gh a p)) w):=by
 have h:=oY (p:=(p:Int)) hv (Gx ha) hT;rw [Kp (by omega) (by omega) (by simp [Ev ha]),Iv.raw_iv,Int.toNat_natCast] at h;exact h
def dm:Dy:=⟨true,1,0⟩
def dt:Dy:=⟨false,1,1⟩
def d4:Dy:=⟨false,1,2⟩
def mt:Iv:=⟨dm,dt⟩
def R1:Raw:=⟨false,[1],0⟩
def R4:Raw:=⟨false,[1],2⟩
theorem mn:dz.raw=rz:=by unfold Dy.raw dz rz;simp only [Be]
theorem Pf:iz.raw=rzI:=by unfold Iv.raw iz rzI;simp only [mn]
theorem pz (w:World)(x y z p q r:Value):∃ W,W=((w.alloc (.cells #[x,y,z] 28)).alloc (.cells #[p,q,r] 28)).alloc (.cells #[.bool false,.slice none 0 0,.int .i64 0,.bool false,.slice none 0 0,.int .i64 0] 30) /\
 Kept w W/\Blk W w.heap.size x y z/\Blk W (w.heap.size+1) p q r/\BlkI W (w.heap.size+1+1) (.bool false) (.slice none 0 0) (.int .i64 0) (.bool false) (.slice none 0 0) (.int .i64 0):=by
 refine ⟨_,rfl,((Ab _ _).trans (Ab _ _)).trans (Ab _ _),?_,?_,?_⟩
 ·exact (Bl (Bz _ _ _ _) _).kept (Ab _ _)
 ·exact (Em _ _ _ _ _).kept (Ab _ _)
 ·have:=Gw ((w.alloc (.cells #[x,y,z] 28)).alloc (.cells #[p,q,r] 28));simp only [World.size_alloc] at this;exact this
theorem iO (w:World)(x y z x' y' z':Value):∃ W,W=(w.alloc (.cells #[x,y,z,x',y',z'] 30)).alloc (.cells #[.bool false,.slice none 0 0,.int .i64 0,.bool false,.slice none 0 0,.int .i64 0] 30) /\
 Kept w W/\BlkI W w.heap.size x y z x' y' z'/\BlkI W (w.heap.size+1) (.bool false) (.slice none 0 0) (.int .i64 0) (.bool false) (.slice none 0 0) (.int .i64 0):=by
 refine ⟨_,rfl,(Ab _ _).trans (Ab _ _),(Ea _ _ _ _ _ _ _).kept (Ab _ _),?_⟩;have:=Gw (w.alloc (.cells #[x,y,z,x',y',z'] 30));simp only [World.size_alloc] at this;exact this
theorem pk {o1 o2:Outc Dy}(hv:DyR w v o1.v.raw)(hu:DyR w u o2.v.raw) :
 Calls Tryz.prog 93 #[v,.int .i64 o1.k,u,.int .i64 o2.k] w (RetIE (Bn (Gp o1 o2)) w):=by
 obtain ⟨A,l,c,rfl,h1⟩:=Bx hv;obtain ⟨B,j,e,rfl,g1⟩:=Bx hu;obtain ⟨W,hW,kW,BA,BB,BR⟩:=pz w (.bool o1.v.neg) (.slice A l c) (.int .i64 o1.v.e) (.bool o2.v.neg) (.slice B j e) (.int .i64 o2.v.e);have Z1:=Ad (h1.kept kW);have Z2:=Ad (g1.kept kW);have HW:=Ad hW;have HK:=Ad kW;obtain ⟨-,c0,c1,c2,-⟩:=BA.facts;obtain ⟨-,d0,d1,d2,-⟩:=BB.facts;have HR:=Ad BR;obtain ⟨-,r0,r1,r2,r3,r4,r5⟩:=BR.facts;obtain ⟨f0,f1,f2,f3,f4,f5⟩:=BR.free;clear hW kW BA BB BR h1 g1 hv hu;by_cases k1:o1.k=0
 ·by_cases k2:o2.k=0
  ·have ho:Bn (Gp o1 o2)=⟨⟨o1.v.raw,o2.v.raw⟩,0⟩:=by
    unfold Gp;rw [Outc.bind_of _ _ k1,Outc.bind_of _ _ k2];rfl
   rw [ho,k1,k2];have HO:=Ad ho;clear ho k1 k2;generalize o1.v.neg=n1,o1.v.e=e1,o2.v.neg=n2,o2.v.e=e2,o1.v.raw=r1,o2.v.raw=r2 at *;go_enter Tryz.func93,Tryz.ntmps93;go_upto_region 1 with fail;rw [<-HW.o];go_wp2_with fail;exact Cx (HR.o.laid _ _ _ _ _ _) rfl rfl rfl ⟨Az HK.o (by omega),_,rfl,_,_,_,_,_,_,rfl,Z1.o.ivW HR.o _ _ _ _ _ _,Z2.o.ivW HR.o _ _ _ _ _ _⟩
  ·have ho:Bn (Gp o1 o2)=⟨rzI,o2.k⟩:=by
    unfold Gp Outc.bind;rw [Ak k1];simp only [Af k2];exact congrArg (Outc.mk · o2.k) Pf
   rw [ho,k1];have k2':(o2.k != 0)=true:=by simp [k2]
   clear ho k1 k2;generalize o1.v.neg=n1,o1.v.e=e1,o2.v.neg=n2,o2.v.e=e2,o1.v.raw=r1,o2.v.raw=r2,o2.k=q2 at *;go_enter Tryz.func93,Tryz.ntmps93;go_upto_region 1 with fail;rw [<-HW.o];go_wp2_with fail;exact Cx (HR.o.laid _ _ _ _ _ _) rfl rfl rfl ⟨Az HK.o (by omega),_,rfl,Gr _⟩
 ·have ho:Bn (Gp o1 o2)=⟨rzI,o1.k⟩:=by
   unfold Gp Outc.bind;rw [Af k1];exact congrArg (Outc.mk · o1.k) Pf
  rw [ho];have k1':(o1.k != 0)=true:=by simp [k1]
  clear ho k1;generalize o1.v.neg=n1,o1.v.e=e1,o2.v.neg=n2,o2.v.e=e2,o1.v.raw=r1,o2.v.raw=r2,o2.k=q2,o1.k=q1 at *;go_enter Tryz.func93,Tryz.ntmps93;go_upto_region 1 with fail;rw [<-HW.o];go_wp2_with fail;exact Cx (HR.o.laid _ _ _ _ _ _) rfl rfl rfl ⟨Az HK.o (by omega),_,rfl,Gr _⟩
theorem px (w:World)(x y z:Value):∃ V,V=w.alloc (.cells #[x,y,z] 28)/\Kept w V/\Blk V w.heap.size x y z/\w.heap.size<V.heap.size :=
 ⟨_,rfl,Ab _ _,Bz _ _ _ _,by simp⟩
theorem Hd (hv:IvC w v a)(ha:a.Ok)(hT:Tab w)(p1:1<=p)(p2:p<=2000) :
 Calls Tryz.prog 59 #[v,.int .i64 p] w (RetIE (Bn (Bk a p)) w):=by
 have m1:=λw1 (k:Kept w w1)=>Yp (hv.kept k) ha
 obtain ⟨A,l,c,A',l',c',rfl,h1,h2⟩:=Ca hv;have c1:=λw1 (k:Kept w w1)=>Qb (h1.kept k) ha.lo (hT.kept k) p1 p2
 have c2:=λw1 (k:Kept w w1)=>cz (h2.kept k) ha.hi (hT.kept k) p1 p2
 have hdef:Bk a p=Gp (Dj a.lo p false) (Dj a.hi p true):=rfl;rw [hdef];obtain ⟨W,hW,kW,BI,BR⟩:=iO w (.bool a.lo.neg) (.slice A l c) (.int .i64 a.lo.e) (.bool a.hi.neg) (.slice A' l' c') (.int .i64 a.hi.e);have M1:=Ad m1;have C1:=Ad c1;have C2:=Ad c2;have HW:=Ad hW;have K:=Ad kW;have HB:=Ad BI;have HR:=Ad BR;clear m1 c1 c2 hW kW BI BR h1 h2 hv ha hT hdef;generalize Dj a.lo p false=o1 at *;generalize Dj a.hi p true=o2 at *;generalize a.lo.neg=n1,a.lo.e=e1,a.hi.neg=n2,a.hi.e=e2 at *;go_enter Tryz.func59,Tryz.ntmps59;go_wp2_with fail
 rw [<-HW.o];refine (M1.o _ K.o).mono ?_;rintro e w1 ⟨rfl,q⟩;replace K:=Ad (K.o.trans q);replace HB:=Ad (HB.o.kept q);replace HR:=Ad (HR.o.kept q);clear q M1 HW;obtain ⟨-,c0,c1,c2,c3,c4,c5⟩:=HB.o.facts;simp only [];go_wp2_with fail;refine (C1.o _ K.o).mono ?_;rintro e w2 ⟨q,u,rfl,hd⟩;obtain ⟨PX,pX,qX,rfl,z1⟩:=Bx hd;simp only [];obtain ⟨VX,hV,kV,hb,lV⟩:=px w2 (.bool o1.v.neg) (.slice PX pX qX) (.int .i64 o1.v.e);have HV:=Ad hV;have kk:=q.trans kV;have lt1:w.heap.size+1<w2.heap.size:=Dn HR.o.facts.1 q.size;replace K:=Ad (K.o.trans kk);replace HB:=Ad (HB.o.kept kk);replace HR:=Ad (HR.o.kept kk)
 have HX:=Ad hb;have ZX:=Ad (z1.kept kV);clear hV kV hb lV kk q hd z1 c0 c1 c2 c3 c4 c5 C1;go_upto_region 4 with fail;rw [<-HV.o];clear HV;generalize w2.heap.size=bX at *;obtain ⟨-,c0,c1,c2,c3,c4,c5⟩:=HB.o.facts;go_wp2_with fail;refine (C2.o _ K.o).mono ?_;rintro e w2 ⟨q,u,rfl,hd⟩;obtain ⟨PY,pY,qY,rfl,z1⟩:=Bx hd;simp only [];obtain ⟨VY,hV,kV,hb,lV⟩:=px w2 (.bool o2.v.neg) (.slice PY pY qY) (.int .i64 o2.v.e);have HV:=Ad hV;have kk:=q.trans kV;have lt2:bX<w2.heap.size:=Dn HX.o.facts.1 q.size;replace K:=Ad (K.o.trans kk);replace HR:=Ad (HR.o.kept kk);replace HX:=Ad (HX.o.kept kk);replace ZX:=Ad (ZX.o.kept kk)
 have HY:=Ad hb;have ZY:=Ad (z1.kept kV);clear hV kV hb lV kk q hd z1 c0 c1 c2 c3 c4 c5 C2 HB;go_upto_region 5 with fail;rw [<-HV.o];clear HV;generalize w2.heap.size=bY at *;obtain ⟨-,c0,c1,c2,-⟩:=HX.o.facts;obtain ⟨-,d0,d1,d2,-⟩:=HY.o.facts;go_wp2_with fail;refine (pk ZX.o ZY.o).mono ?_;rintro e w2 ⟨q,u,rfl,hd⟩;obtain ⟨P,p',q',R,r,s,rfl,z1,z2⟩:=Ar hd;have hr:=HR.o.kept q;obtain ⟨-,r0,r1,r2,r3,r4,r5⟩:=hr.facts;obtain ⟨f0,f1,f2,f3,f4,f5⟩:=hr.free;have HRR:=Ad hr;have Z1:=Ad z1;have Z2:=Ad z2;clear hr z1 z2 hd c0 c1 c2 d0 d1 d2;simp only [];go_wp2_with fail;exact Cx (HRR.o.laid _ _ _ _ _ _) rfl rfl rfl ⟨Az (K.o.trans q) (by omega),_,rfl,_,_,_,_,_,_,rfl,Z1.o.ivW HRR.o _ _ _ _ _ _,Z2.o.ivW HRR.o _ _ _ _ _ _⟩
theorem iM (w:World)(x y z x' y' z' p q r p' q' r':Value):∃ W,W=((w.alloc (.cells #[x,y,z,x',y',z'] 30)).alloc (.cells #[p,q,r,p',q',r'] 30)).alloc (.cells #[.bool false,.slice none 0 0,.int .i64 0,.bool false,.slice none 0 0,.int .i64 0] 30) /\
 Kept w W/\BlkI W w.heap.size x y z x' y' z'/\BlkI W (w.heap.size+1) p q r p' q' r'/\BlkI W (w.heap.size+1+1) (.bool false) (.slice none 0 0) (.int .i64 0) (.bool false) (.slice none 0 0) (.int .i64 0):=by
 obtain ⟨W,hW,k,b1,b2⟩:=X7 w x y z x' y' z' p q r p' q' r';refine ⟨_,rfl,?_,?_,?_,?_⟩
 ·rw [<-hW];exact k.trans (Ab _ _)
 ·rw [<-hW];exact b1.kept (Ab _ _)
 ·rw [<-hW];exact b2.kept (Ab _ _)
 ·have:=Gw ((w.alloc (.cells #[x,y,z,x',y',z'] 30)).alloc (.cells #[p,q,r,p',q',r'] 30));simp only [World.size_alloc] at this;exact this
structure H8 (S:Int->Prop):Prop where
 add:S 6->∀ {w:World} {v u:Value} {a b:Iv} {p:Nat},IvC w v a->IvC w u b->a.Ok->b.Ok->Tab w->1<=p->p<=2000->Calls Tryz.prog 96 #[v,u,.int .i64 p] w (RetIE (Bn (Gc a b p)) w)
 sub:S 7->∀ {w:World} {v u:Value} {a b:Iv} {p:Nat},IvC w v a->IvC w u b->a.Ok->b.Ok->Tab w->1<=p->p<=2000->Calls Tryz.prog 97 #[v,u,.int .i64 p] w (RetIE (Bn (I8 a b p)) w)
 mul:S 8->∀ {w:World} {v u:Value} {a b:Iv} {p:Nat},IvC w v a->IvC w u b->a.Ok->b.Ok->Tab w->1<=p->p<=2000->Calls Tryz.prog 98 #[v,u,.int .i64 p] w (RetIE (Bn (Ew a b p)) w)
 div:S 9->∀ {w:World} {v u:Value} {a b:Iv} {p:Nat},IvC w v a->IvC w u b->a.Ok->b.Ok->Tab w->1<=p->p<=2000->Calls Tryz.prog 94 #[v,u,.int .i64 p] w (RetIE (Bn (Cm a b p)) w)
 neg:S 10->∀ {w:World} {v:Value} {a:Iv} {p:Nat},IvC w v a->a.Ok->Tab w->1<=p->p<=2000->Calls Tryz.prog 99 #[v,.int .i64 p] w (RetIE (Bn (Oi a p)) w)
 sqr:S 11->∀ {w:World} {v:Value} {a:Iv} {p:Nat},IvC w v a->a.Ok->Tab w->1<=p->p<=2000->Calls Tryz.prog 100 #[v,.int .i64 p] w (RetIE (Bn (Lb a p)) w)
 sqrt:S 12->∀ {w:World} {v:Value} {a:Iv} {p:Nat},IvC w v a->a.Ok->Tab w->1<=p->p<=2000->Calls Tryz.prog 101 #[v,.int .i64 p] w (RetIE (Bn (Gh a p)) w)
theorem qE {S:Int->Prop}{ov:Iv->Nat->Outc Iv}{va vb:Value}{b:Iv}(ha:IvC w va a)(hb:IvC w vb b)(oa:a.Ok)(ob:b.Ok)(hT:Tab w)(p1:1<=p)(p2:p<=2000)
 (hov:¬(6<=op/\op<=12)->∀ w1,Kept w w1->Calls Tryz.prog 102 #[va,.int .i64 p] w1 (RetIE (Bn (ov a p)) w1)) (O:H8 S) (hS:6<=op->op<=12->S op) :
 Calls Tryz.prog 63 #[.int .i64 op,va,vb,.int .i64 p] w (RetIE (Bn (Ip ov op a b p)) w):=by
 have IA:=Ad ha;have IB:=Ad hb;have OA:=Ad (And.intro oa ob);have T:=Ad hT;have HOV:=Ad hov;have OPS:=Ad O;have HS:=Ad hS;clear ha hb oa ob hT hov O hS;obtain ⟨A,l,c,A',l',c',rfl,-,-⟩:=Ca IA.o;obtain ⟨B,j,e,B',j',e',rfl,-,-⟩:=Ca IB.o;obtain ⟨W,hW,kW,BI,BJ,BR⟩:=iM w (.bool a.lo.neg) (.slice A l c) (.int .i64 a.lo.e) (.bool a.hi.neg) (.slice A' l' c') (.int .i64 a.hi.e) (.bool b.lo.neg) (.slice B j e) (.int .i64 b.lo.e) (.bool b.hi.neg) (.slice B' j' e') (.int .i64 b.hi.e);have HW:=Ad hW;have K:=Ad kW;obtain ⟨-,c0,c1,c2,c3,c4,c5⟩:=BI.facts;obtain ⟨-,d0,d1,d2,d3,d4,d5⟩:=BJ.facts
 have HR:=Ad BR;clear hW kW BI BJ BR;by_cases h6:op=6
 ·obtain rfl:op=6:=h6;have ho:Ip ov 6 a b p=Gc a b p:=by simp [Ip]
  rw [ho];have CC:=Ad (λw1 (k:Kept w w1)=>OPS.o.add (HS.o (by decide) (by decide)) (IA.o.kept k) (IB.o.kept k) OA.o.1 OA.o.2 (T.o.kept k) p1 p2);clear ho IA IB OA T HOV OPS HS;generalize Bn _=o at *;generalize a.lo.neg=n1,a.lo.e=e1,a.hi.neg=n2,a.hi.e=e2,b.lo.neg=n3,b.lo.e=e3,b.hi.neg=n4,b.hi.e=e4 at *;go_enter Tryz.func63,Tryz.ntmps63;go_upto_region 1 with fail;rw [<-HW.o];go_wp2_with fail;refine (CC.o _ K.o).mono ?_;rintro e w2 ⟨q,u,rfl,hd⟩;obtain ⟨P,p',q',R,r,s,rfl,z1,z2⟩:=Ar hd
  have hr:=HR.o.kept q;obtain ⟨-,r0,r1,r2,r3,r4,r5⟩:=hr.facts;obtain ⟨f0,f1,f2,f3,f4,f5⟩:=hr.free;have HRR:=Ad hr;have Z1:=Ad z1;have Z2:=Ad z2;clear hr z1 z2 hd c0 c1 c2 c3 c4 c5 d0 d1 d2 d3 d4 d5;simp only [];go_wp2_with fail;exact Cx (HRR.o.laid _ _ _ _ _ _) rfl rfl rfl ⟨Az (K.o.trans q) (by omega),_,rfl,_,_,_,_,_,_,rfl,Z1.o.ivW HRR.o _ _ _ _ _ _,Z2.o.ivW HRR.o _ _ _ _ _ _⟩
 by_cases h7:op=7
 ·obtain rfl:op=7:=h7;have ho:Ip ov 7 a b p=I8 a b p:=by simp [Ip]
  rw [ho];have CC:=Ad (λw1 (k:Kept w w1)=>OPS.o.sub (HS.o (by decide) (by decide)) (IA.o.kept k) (IB.o.kept k) OA.o.1 OA.o.2 (T.o.kept k) p1 p2);clear ho IA IB OA T HOV OPS HS;generalize Bn _=o at *;generalize a.lo.neg=n1,a.lo.e=e1,a.hi.neg=n2,a.hi.e=e2,b.lo.neg=n3,b.lo.e=e3,b.hi.neg=n4,b.hi.e=e4 at *;go_enter Tryz.func63,Tryz.ntmps63;go_upto_region 1 with fail;rw [<-HW.o];go_wp2_with fail;refine (CC.o _ K.o).mono ?_;rintro e w2 ⟨q,u,rfl,hd⟩;obtain ⟨P,p',q',R,r,s,rfl,z1,z2⟩:=Ar hd
  have hr:=HR.o.kept q;obtain ⟨-,r0,r1,r2,r3,r4,r5⟩:=hr.facts;obtain ⟨f0,f1,f2,f3,f4,f5⟩:=hr.free;have HRR:=Ad hr;have Z1:=Ad z1;have Z2:=Ad z2;clear hr z1 z2 hd c0 c1 c2 c3 c4 c5 d0 d1 d2 d3 d4 d5;simp only [];go_wp2_with fail;exact Cx (HRR.o.laid _ _ _ _ _ _) rfl rfl rfl ⟨Az (K.o.trans q) (by omega),_,rfl,_,_,_,_,_,_,rfl,Z1.o.ivW HRR.o _ _ _ _ _ _,Z2.o.ivW HRR.o _ _ _ _ _ _⟩
 by_cases h8:op=8
 ·obtain rfl:op=8:=h8;have ho:Ip ov 8 a b p=Ew a b p:=by simp [Ip]
  rw [ho];have CC:=Ad (λw1 (k:Kept w w1)=>OPS.o.mul (HS.o (by decide) (by decide)) (IA.o.kept k) (IB.o.kept k) OA.o.1 OA.o.2 (T.o.kept k) p1 p2);clear ho IA IB OA T HOV OPS HS;generalize Bn _=o at *;generalize a.lo.neg=n1,a.lo.e=e1,a.hi.neg=n2,a.hi.e=e2,b.lo.neg=n3,b.lo.e=e3,b.hi.neg=n4,b.hi.e=e4 at *;go_enter Tryz.func63,Tryz.ntmps63;go_upto_region 1 with fail;rw [<-HW.o];go_wp2_with fail;refine (CC.o _ K.o).mono ?_;rintro e w2 ⟨q,u,rfl,hd⟩;obtain ⟨P,p',q',R,r,s,rfl,z1,z2⟩:=Ar hd
  have hr:=HR.o.kept q;obtain ⟨-,r0,r1,r2,r3,r4,r5⟩:=hr.facts;obtain ⟨f0,f1,f2,f3,f4,f5⟩:=hr.free;have HRR:=Ad hr;have Z1:=Ad z1;have Z2:=Ad z2;clear hr z1 z2 hd c0 c1 c2 c3 c4 c5 d0 d1 d2 d3 d4 d5;simp only [];go_wp2_with fail;exact Cx (HRR.o.laid _ _ _ _ _ _) rfl rfl rfl ⟨Az (K.o.trans q) (by omega),_,rfl,_,_,_,_,_,_,rfl,Z1.o.ivW HRR.o _ _ _ _ _ _,Z2.o.ivW HRR.o _ _ _ _ _ _⟩
 by_cases h9:op=9
 ·obtain rfl:op=9:=h9;have ho:Ip ov 9 a b p=Cm a b p:=by simp [Ip]
  rw [ho];have CC:=Ad (λw1 (k:Kept w w1)=>OPS.o.div (HS.o (by decide) (by decide)) (IA.o.kept k) (IB.o.kept k) OA.o.1 OA.o.2 (T.o.kept k) p1 p2);clear ho IA IB OA T HOV OPS HS;generalize Bn _=o at *;generalize a.lo.neg=n1,a.lo.e=e1,a.hi.neg=n2,a.hi.e=e2,b.lo.neg=n3,b.lo.e=e3,b.hi.neg=n4,b.hi.e=e4 at *;go_enter Tryz.func63,Tryz.ntmps63;go_upto_region 1 with fail;rw [<-HW.o];go_wp2_with fail;refine (CC.o _ K.o).mono ?_;rintro e w2 ⟨q,u,rfl,hd⟩;obtain ⟨P,p',q',R,r,s,rfl,z1,z2⟩:=Ar hd
  have hr:=HR.o.kept q;obtain ⟨-,r0,r1,r2,r3,r4,r5⟩:=hr.facts;obtain ⟨f0,f1,f2,f3,f4,f5⟩:=hr.free;have HRR:=Ad hr;have Z1:=Ad z1;have Z2:=Ad z2;clear hr z1 z2 hd c0 c1 c2 c3 c4 c5 d0 d1 d2 d3 d4 d5;simp only [];go_wp2_with fail;exact Cx (HRR.o.laid _ _ _ _ _ _) rfl rfl rfl ⟨Az (K.o.trans q) (by omega),_,rfl,_,_,_,_,_,_,rfl,Z1.o.ivW HRR.o _ _ _ _ _ _,Z2.o.ivW HRR.o _ _ _ _ _ _⟩
 by_cases h10:op=10
 ·obtain rfl:op=10:=h10;have ho:Ip ov 10 a b p=Oi a p:=by simp [Ip]
  rw [ho];have CC:=Ad (λw1 (k:Kept w w1)=>OPS.o.neg (HS.o (by decide) (by decide)) (IA.o.kept k) OA.o.1 (T.o.kept k) p1 p2);clear ho IA IB OA T HOV OPS HS;generalize Bn _=o at *;generalize a.lo.neg=n1,a.lo.e=e1,a.hi.neg=n2,a.hi.e=e2,b.lo.neg=n3,b.lo.e=e3,b.hi.neg=n4,b.hi.e=e4 at *;go_enter Tryz.func63,Tryz.ntmps63;go_upto_region 1 with fail;rw [<-HW.o];go_wp2_with fail;refine (CC.o _ K.o).mono ?_;rintro e w2 ⟨q,u,rfl,hd⟩;obtain ⟨P,p',q',R,r,s,rfl,z1,z2⟩:=Ar hd
  have hr:=HR.o.kept q;obtain ⟨-,r0,r1,r2,r3,r4,r5⟩:=hr.facts;obtain ⟨f0,f1,f2,f3,f4,f5⟩:=hr.free;have HRR:=Ad hr;have Z1:=Ad z1;have Z2:=Ad z2;clear hr z1 z2 hd c0 c1 c2 c3 c4 c5 d0 d1 d2 d3 d4 d5;simp only [];go_wp2_with fail;exact Cx (HRR.o.laid _ _ _ _ _ _) rfl rfl rfl ⟨Az (K.o.trans q) (by omega),_,rfl,_,_,_,_,_,_,rfl,Z1.o.ivW HRR.o _ _ _ _ _ _,Z2.o.ivW HRR.o _ _ _ _ _ _⟩
 by_cases h11:op=11
 ·obtain rfl:op=11:=h11;have ho:Ip ov 11 a b p=Lb a p:=by simp [Ip]
  rw [ho];have CC:=Ad (λw1 (k:Kept w w1)=>OPS.o.sqr (HS.o (by decide) (by decide)) (IA.o.kept k) OA.o.1 (T.o.kept k) p1 p2);clear ho IA IB OA T HOV OPS HS;generalize Bn _=o at *;generalize a.lo.neg=n1,a.lo.e=e1,a.hi.neg=n2,a.hi.e=e2,b.lo.neg=n3,b.lo.e=e3,b.hi.neg=n4,b.hi.e=e4 at *;go_enter Tryz.func63,Tryz.ntmps63;go_upto_region 1 with fail;rw [<-HW.o];go_wp2_with fail;refine (CC.o _ K.o).mono ?_;rintro e w2 ⟨q,u,rfl,hd⟩;obtain ⟨P,p',q',R,r,s,rfl,z1,z2⟩:=Ar hd
  have hr:=HR.o.kept q;obtain ⟨-,r0,r1,r2,r3,r4,r5⟩:=hr.facts;obtain ⟨f0,f1,f2,f3,f4,f5⟩:=hr.free;have HRR:=Ad hr;have Z1:=Ad z1;have Z2:=Ad z2;clear hr z1 z2 hd c0 c1 c2 c3 c4 c5 d0 d1 d2 d3 d4 d5;simp only [];go_wp2_with fail;exact Cx (HRR.o.laid _ _ _ _ _ _) rfl rfl rfl ⟨Az (K.o.trans q) (by omega),_,rfl,_,_,_,_,_,_,rfl,Z1.o.ivW HRR.o _ _ _ _ _ _,Z2.o.ivW HRR.o _ _ _ _ _ _⟩
 by_cases h12:op=12
 ·obtain rfl:op=12:=h12;have ho:Ip ov 12 a b p=Gh a p:=by simp [Ip]
  rw [ho];have CC:=Ad (λw1 (k:Kept w w1)=>OPS.o.sqrt (HS.o (by decide) (by decide)) (IA.o.kept k) OA.o.1 (T.o.kept k) p1 p2);clear ho IA IB OA T HOV OPS HS;generalize Bn _=o at *;generalize a.lo.neg=n1,a.lo.e=e1,a.hi.neg=n2,a.hi.e=e2,b.lo.neg=n3,b.lo.e=e3,b.hi.neg=n4,b.hi.e=e4 at *;go_enter Tryz.func63,Tryz.ntmps63;go_upto_region 1 with fail;rw [<-HW.o];go_wp2_with fail;refine (CC.o _ K.o).mono ?_;rintro e w2 ⟨q,u,rfl,hd⟩;obtain ⟨P,p',q',R,r,s,rfl,z1,z2⟩:=Ar hd
  have hr:=HR.o.kept q;obtain ⟨-,r0,r1,r2,r3,r4,r5⟩:=hr.facts;obtain ⟨f0,f1,f2,f3,f4,f5⟩:=hr.free;have HRR:=Ad hr;have Z1:=Ad z1;have Z2:=Ad z2;clear hr z1 z2 hd c0 c1 c2 c3 c4 c5 d0 d1 d2 d3 d4 d5;simp only [];go_wp2_with fail;exact Cx (HRR.o.laid _ _ _ _ _ _) rfl rfl rfl ⟨Az (K.o.trans q) (by omega),_,rfl,_,_,_,_,_,_,rfl,Z1.o.ivW HRR.o _ _ _ _ _ _,Z2.o.ivW HRR.o _ _ _ _ _ _⟩
 have ho:Ip ov op a b p=ov a p:=by unfold Ip;rw [Af h6,Af h7,Af h8,Af h9,Af h10,Af h11,Af h12]
 rw [ho];have CC:=Ad (HOV.o (by omega));have g6:(op==6)=false:=by simp [h6]
 have g7:(op==7)=false:=by simp [h7]
 have g8:(op==8)=false:=by simp [h8]
 have g9:(op==9)=false:=by simp [h9]
 have g10:(op==10)=false:=by simp [h10]
 have g11:(op==11)=false:=by simp [h11]
 have g12:(op==12)=false:=by simp [h12]
 clear ho h6 h7 h8 h9 h10 h11 h12 IA IB OA T HOV OPS HS;generalize Bn _=o at *;generalize a.lo.neg=n1,a.lo.e=e1,a.hi.neg=n2,a.hi.e=e2,b.lo.neg=n3,b.lo.e=e3,b.hi.neg=n4,b.hi.e=e4 at *;go_enter Tryz.func63,Tryz.ntmps63;go_upto_region 1 with fail;rw [<-HW.o];go_wp2_with fail;refine (CC.o _ K.o).mono ?_;rintro e w2 ⟨q,u,rfl,hd⟩;obtain ⟨P,p',q',R,r,s,rfl,z1,z2⟩:=Ar hd;have hr:=HR.o.kept q;obtain ⟨-,r0,r1,r2,r3,r4,r5⟩:=hr.facts;obtain ⟨f0,f1,f2,f3,f4,f5⟩:=hr.free;have HRR:=Ad hr
 have Z1:=Ad z1;have Z2:=Ad z2;clear hr z1 z2 hd c0 c1 c2 c3 c4 c5 d0 d1 d2 d3 d4 d5;simp only [];go_wp2_with fail;exact Cx (HRR.o.laid _ _ _ _ _ _) rfl rfl rfl ⟨Az (K.o.trans q) (by omega),_,rfl,_,_,_,_,_,_,rfl,Z1.o.ivW HRR.o _ _ _ _ _ _,Z2.o.ivW HRR.o _ _ _ _ _ _⟩
theorem Wj {z:Array Value}(hz:0<z.size)(h:u∈(madeCells z n).toList):u∈z.toList:=by
 simp [madeCells] at h;obtain ⟨a,ha,rfl⟩:=h;have hlt:=Nat.mod_lt a hz;rw [getElem!_pos z _ hlt];simp
theorem mS (w:World)(hn:n<=1000):∃ V,(Instr.makeSlice 31 (.int .i64 0) (.int .i64 n)).run Tryz.prog w=.ok (.slice (some ⟨w.heap.size,0,none⟩) 0 n) V/\Kept w V/\w.heap.size<V.heap.size /\
 OwnI V w.heap.size (.slice (some ⟨w.heap.size,0,none⟩) 0 n) [] []:=by
 obtain ⟨i0,hi,hz0,hz1,hz2⟩:=info_parts Uo;have hr:=run_make (P:=Tryz.prog) w 31 30 i0 _ Tryz.underlying31 hi hz0 .i64 .i64 0 n (Int.le_refl _) (by omega) (by rw [hz2];omega) (by omega);simp only [Int.toNat_zero,Int.toNat_natCast] at hr;refine ⟨_,hr,Ab _ _,by simp,?_,by simp,by simp,?_,by simp⟩
 ·have:=World.ownsRow_made (base:=w.heap.size) (e:=30) (size:=6) w (madeCells (Value.agg #[.bool false,.slice none 0 0,.int .i64 0,.bool false,.slice none 0 0,.int .i64 0]).cells (n*i0.size)) n (Aq _) (by unfold maxLen;omega) (by rw [size_madeCells,hz1]);exact this
 ·intro g hg;simp [Value.ownBlock] at hg;subst hg;exact ⟨_,_,heap_alloc_new _ _,λu hu=>Km u (Wj (by decide) hu)⟩
theorem Ja {ops:Array Oper}{rest:List Oper}{o:Oper}{a:Act}{Q:Exit->Act->World->Prop}(hgd:o.guard=none)(s x:Operand)
 (ho:o.op=.call { callee:=.builtin .append,args:=#[s,x],argTypes:=#[31,31] })
 {base:Nat} {v:Value} {l:List RawI} {xs:List Value} (hs:a.eval s=v) (hown:OwnI w base v l xs) {d:RawI} {x0 x1 x2 x3 x4 x5:Value} {b:Nat}
 (hd:IvR w (.agg #[x0,x1,x2,x3,x4,x5]) d) (hb:BlkI w b x0 x1 x2 x3 x4 x5) (hx:a.eval x=.slice (some ⟨b,0,none⟩) 1 1)
 (hl:l.length<=1000) (hbase:base<=w.heap.size)
 (h:∀ v' w',OwnI w' base v' (l++[d]) (xs++[x0,x1,x2,x3,x4,x5])->w.grownBy w' v.ownBlock->wpList Tryz.prog ops Q rest (a.put o.dst v') w'):wpList Tryz.prog ops Q (o::rest) a w:=by
 obtain ⟨i0,hi,hz0,hz1,hz2⟩:=info_parts Uo;obtain ⟨-,c0,c1,c2,c3,c4,c5⟩:=hb.facts;have hcl:=hd.cells;have ad:∀ j,(⟨b,0,none⟩:Addr).add j=⟨b,j,none⟩:=by intro j;unfold Addr.add;split<;>simp_all
 refine Il hgd s x _ ho base 30 i0 _ 6 80 Tryz.underlying31 hi hz0 hz1 hz2 rfl (by decide) v l.length xs hs hown.row _ 1 1 [x0,x1,x2,x3,x4,x5] hx rfl ?_ (λu hu=>(hcl u hu).2) (by unfold maxLen;omega) (by omega) hbase (by decide) hown.nl (λu hu=>(hcl u hu).1) Km hown.blk ?_
 ·intro j u hu;rw [ad];rcases j with _ | _ | _ | _ | _ | _ | j
  ·cases hu;exact c0
  ·cases hu;exact c1
  ·cases hu;exact c2
  ·cases hu;exact c3
  ·cases hu;exact c4
  ·cases hu;exact c5
  ·simp at hu
 ·intro v' w' g' q1 q2 q3 q4;exact h v' w' (hown.snoc hd q1 q2 q3 q4) q2
theorem OwnI.base {base:Nat}{l:List RawI}(h:OwnI w base v l xs):∀ g,v.ownBlock=some g->base<=g:=by
 intro g hg;rcases h.row.2 with ⟨rfl,-⟩ | ⟨g',cap,cur,rfl,hb,-⟩
 ·simp [Value.ownBlock] at hg
 ·simp [Value.ownBlock] at hg;subst hg;exact hb
theorem OwnI.grown_kept {l:List RawI}(h:OwnI w W.heap.size v l xs)(k:Kept W w)(hg:w.grownBy w' v.ownBlock):Kept W w' :=
 Below.grown k hg k.size (λg hg'=>h.base g hg')
def ix (o:Outc (List RawI)) (w:World) (e:Ending) (w':World):Prop:=Kept w w'/\∃ v,e=.returned (.tuple #[v,.int .i64 o.k])/\IvS w' v o.v
theorem Lk (w:World):IvS w (.slice none 0 0) []:=⟨none,0,rfl,Aq _,λh=>absurd h (by simp)⟩
def qJ (ov:Iv->Nat->Outc Iv):Prop:=(∀ a p,a.Ok->1<=p->p<=300->We (ov a p)) /\
 ∀ w v a p,IvC w v a->a.Ok->Tab w->1<=p->p<=300->Calls Tryz.prog 102 #[v,.int .i64 (p:Nat)] w (RetIE (Bn (ov a p)) w)
theorem Su (ov:Iv->Nat->Outc Iv)(e:En)(p:Nat):∀ (ls:List Ln) (out rows:List RawI) (l:Ln),Ec ov e p out ls=⟨rows,0⟩ ->
 Ec ov e p out (ls++[l])=if (Dm ov e p rows l).k=0 then ⟨rows++[(Dm ov e p rows l).v.raw],0⟩ else ⟨[],(Dm ov e p rows l).k⟩
 | [], out, rows, l, h => by
   have:out=rows:=congrArg Outc.v h;subst this;simp only [List.nil_append,Ec]
 | m :: ls, out, rows, l, h => by
   rw [Ec] at h;by_cases hk:(Dm ov e p out m).k=0
   ·rw [Ak hk] at h;rw [List.cons_append,Ec,Ak hk];exact Su ov e p ls _ rows l h
   ·rw [Af hk] at h;exact absurd (congrArg Outc.k h) hk
theorem Ut (ov:Iv->Nat->Outc Iv)(e:En)(p:Nat):∀ (ls:List Ln) (out:List RawI) (rest:List Ln),(Ec ov e p out ls).k≠0->Ec ov e p out (ls++rest)=Ec ov e p out ls
 | [],out,rest,h=>absurd rfl h
 | m :: ls, out, rest, h => by
   rw [Ec] at h;rw [List.cons_append,Ec,Ec];by_cases hk:(Dm ov e p out m).k=0
   ·rw [Ak hk] at h;rw [Ak hk,Ak hk];exact Ut ov e p ls _ rest h
   ·rw [Af hk,Af hk]
def Rws (w:World) (v:Value) (rows:List (List RawI)):Prop:=∃ A c,v=.slice A rows.length c/\rows.length<=c/\(0<rows.length->∃ b off,A=some ⟨b,off,none⟩/\∀ (i:Nat) (r:List RawI),rows[i]?=some r->∃ s:Value,w.cell? ⟨b,off+i,none⟩=some s/\IvS w s r)
theorem f8 (w:World):Rws w (.slice none 0 0) []:=⟨none,0,rfl,Aq _,λh=>absurd h (by simp)⟩
theorem Rws.kept (h:Rws w v rows)(k:Kept w w'):Rws w' v rows:=by
 obtain ⟨A,c,e,hc,h⟩:=h;refine ⟨A,c,e,hc,λh0=>?_⟩;obtain ⟨b,off,rfl,hd⟩:=h h0;exact ⟨b,off,rfl,λi r hi=>(hd i r hi).imp λs hs=>⟨(k.cell (p:=⟨b,off+i,none⟩) (Av hs.1)).trans hs.1,hs.2.kept k⟩⟩
def SlC (u:Value):Prop:=∃ A a c,u=.slice A a c
theorem SlC.nl (h:SlC u):Bv u:=by
 obtain ⟨A,a,c,rfl⟩:=h;exact Ag _ _ _
theorem AllC.nol (h:AllC SlC w g):Ws w g:=by
 obtain ⟨cur,e,h1,h2⟩:=h;exact ⟨cur,e,h1,λu hu=>(h2 u hu).nl⟩
theorem IvAt.grownR {o:Nat}{a:RawI}(h:IvAt w b o a)(hg:w.grownBy w' row)(hN:∀ g,row=some g->AllC SlC w g):IvAt w' b o a:=by
 obtain ⟨x,y,z,x',y',z',h0,h1,h2,h3,h4,h5,hI⟩:=h;have hb:=Av h0;have hne:row≠some b:=by
  intro hr;obtain ⟨cur,e,q1,q2⟩:=hN b hr;obtain ⟨A1,l1,c1,A2,l2,c2,ei,-,-⟩:=Ar hI;injection ei with ei;injection ei with ei
  simp only [List.cons.injEq,and_true] at ei;obtain ⟨rfl,rfl,rfl,rfl,rfl,rfl⟩:=ei;simp only [World.cell?,q1] at h0;have h6:cur[o]?=some (.bool a.lo.neg):=by simpa using h0
  rw [<-Array.getElem?_toList] at h6;obtain ⟨A,x,c,e⟩:=q2 _ (Dc h6);cases e
 have hc:∀ k v,w.cell? ⟨b,k,none⟩=some v->w'.cell? ⟨b,k,none⟩=some v:=by
  intro k v hv;have:=hg.block b hb (Ne.symm hne);simp only [World.cell?,this];simpa only [World.cell?] using hv
 exact ⟨x,y,z,x',y',z',hc _ _ h0,hc _ _ h1,hc _ _ h2,hc _ _ h3,hc _ _ h4,hc _ _ h5,hI.grown hg λg hg'=>(hN g hg').nol⟩
theorem IvS.grownR {l:List RawI}(h:IvS w v l)(hg:w.grownBy w' row)(hN:∀ g,row=some g->AllC SlC w g):IvS w' v l:=by
 obtain ⟨A,c,e,hc,h⟩:=h;refine ⟨A,c,e,hc,λh0=>?_⟩;obtain ⟨b,off,rfl,hd⟩:=h h0;exact ⟨b,off,rfl,λi a hi=>(hd i a hi).grownR hg hN⟩
structure OwnR (w:World) (base:Nat) (v:Value) (l:List (List RawI)) (xs:List Value):Prop where
 row:w.ownsRow base 31 1 v l.length xs
 sl:∀ u∈xs,SlC u
 blk:∀ g,v.ownBlock=some g->AllC SlC w g
 rws:∀ (i:Nat) (r:List RawI),l[i]?=some r->∃ s:Value,xs[i]?=some s/\IvS w s r
theorem OwnR.nil (w:World)(base:Nat):OwnR w base (.slice none 0 0) [] [] :=
 ⟨World.ownsRow_nil _ _ _ _,by simp,(by intro g h;simp [Value.ownBlock] at h),by simp⟩
theorem OwnR.kept {base:Nat}(h:OwnR w base v l xs)(k:Kept w w'):OwnR w' base v l xs:=by
 obtain ⟨h1,h2,h3,h4⟩:=h;refine ⟨⟨h1.1,?_⟩,h2,?_,?_⟩
 ·rcases h1.2 with hn | ⟨g,cap,cur,rfl,hb,hg,rest⟩
  ·exact .inl hn
  ·exact .inr ⟨g,cap,cur,rfl,hb,(k.block g (Bi hg).1).trans hg,rest⟩
 ·intro g hg;obtain ⟨cur,e,q1,q2⟩:=h3 g hg;exact ⟨cur,e,(k.block g (Bi q1).1).trans q1,q2⟩
 ·intro i d hi;obtain ⟨s,a0,hd⟩:=h4 i d hi;exact ⟨s,a0,hd.kept k⟩
theorem OwnR.all {base:Nat}(h:OwnR w base v l xs):Rws w v l:=by
 obtain ⟨h1,h2,h3,h4⟩:=h;have hc:=h1.2;rcases hc with ⟨rfl,h0⟩ | ⟨g,cap,cur,rfl,hb,hg,hn,-⟩
 ·obtain rfl:l=[]:=G9 h0;exact f8 _
 ·refine ⟨_,cap,rfl,hn,fun _=>⟨g,0,rfl,fun i d hi=>?_⟩⟩;obtain ⟨s,a0,hd⟩:=h4 i d hi;have cl:=h1.cells (g:=g) rfl;have ad:∀ j,(⟨g,0,none⟩:Addr).add j=⟨g,j,none⟩:=by intro j;unfold Addr.add;split<;>simp_all
  refine ⟨s,?_,hd⟩;have:=cl _ _ a0;rw [ad] at this;simpa using this
theorem OwnR.snoc {base:Nat}{a:List RawI}(h:OwnR w base v l xs)
 (hd:IvS w s a) (hr:w'.ownsRow base 31 1 v' (l.length+1) (xs++[s])) (hg:w.grownBy w' v.ownBlock) (hv':v'.ownBlock=some g') (hN:AllC SlC w' g') :
 OwnR w' base v' (l++[a]) (xs++[s]):=by
 obtain ⟨h1,h2,h3,h4⟩:=h;refine ⟨by simpa using hr,?_,?_,?_⟩
 ·intro u hu;rcases List.mem_append.1 hu with hu | hu
  ·exact h2 u hu
  ·simp only [List.mem_singleton] at hu;subst hu;obtain ⟨A,c,rfl,-⟩:=hd;exact ⟨_,_,_,rfl⟩
 ·intro g hg;rw [hv'] at hg;cases hg;exact hN
 ·intro i e hi;have hxl:=h1.1;by_cases hlt:i<l.length
  ·rw [Gf hlt] at hi;obtain ⟨s0,a0,hd'⟩:=h4 i e hi;refine ⟨s0,?_,hd'.grownR hg h3⟩;rw [Gf (by omega)];exact a0
  ·rw [Gk (by omega)] at hi;obtain ⟨hz,he⟩:=Ed hi;simp at hz;have hi':i=l.length:=by omega
   subst hi';simp at he;subst he;refine ⟨s,?_,hd.grownR hg h3⟩;rw [Gk (by omega),hxl,show l.length-l.length*1=0 by omega];rfl
theorem OwnR.base {base:Nat}(h:OwnR w base v l xs):∀ g,v.ownBlock=some g->base<=g:=by
 intro g hg;rcases h.row.2 with ⟨rfl,-⟩ | ⟨g',cap,cur,rfl,hb,-⟩
 ·simp [Value.ownBlock] at hg
 ·simp [Value.ownBlock] at hg;subst hg;exact hb
theorem OwnR.grown_kept (h:OwnR w W.heap.size v l xs)(k:Kept W w)(hg:w.grownBy w' v.ownBlock):Kept W w' :=
 Below.grown k hg k.size (λg hg'=>h.base g hg')
theorem rU:(Tryz.prog.info? 31).map (λi=>(i.zero,i.size,i.bytes))=some (some (.slice none 0 0),1,24):=by kernel_rfl
theorem IvAt.word {b' o:Nat}{a:RawI}(h:IvAt w b' o a)(hb:w.heap[b]?=some (.cells #[x] T (0,0)))(hx:Bv x)(y:Value):IvAt (w.setCell ⟨b,0,none⟩ y) b' o a:=by
 obtain ⟨p,q,r,p',q',r',h0,h1,h2,h3,h4,h5,hI⟩:=h;have hne:¬b'=b:=by
  rintro rfl;simp only [World.cell?,hb] at h5;simp at h5
 have k:KB w [b] (w.setCell ⟨b,0,none⟩ y):=(KB.refl w [b]).setCell (by simp) (Ae hb 0 x rfl) hx y;exact IvAt.kb ⟨p,q,r,p',q',r',h0,h1,h2,h3,h4,h5,hI⟩ k (by simpa using hne)
theorem IvS.word {l:List RawI}(h:IvS w v l)(hb:w.heap[b]?=some (.cells #[x] T (0,0)))(hx:Bv x)(y:Value):IvS (w.setCell ⟨b,0,none⟩ y) v l:=by
 obtain ⟨A,c,e,hc,h⟩:=h;refine ⟨A,c,e,hc,λh0=>?_⟩;obtain ⟨b',off,rfl,hd⟩:=h h0;exact ⟨b',off,rfl,λi a hi=>(hd i a hi).word hb hx y⟩
theorem Rws.word (h:Rws w v l)(hv:v.ownBlock≠some b\/l=[])(hb:w.heap[b]?=some (.cells #[x] T (0,0)))(hx:Bv x)(y:Value):Rws (w.setCell ⟨b,0,none⟩ y) v l:=by
 obtain ⟨A,c,e,hc,h⟩:=h;refine ⟨A,c,e,hc,λh0=>?_⟩;obtain ⟨b',off,rfl,hd⟩:=h h0;have hne:¬b'=b:=by
  rcases hv with hv | rfl
  ·rintro rfl;rw [e] at hv;exact hv rfl
  ·exact absurd h0 (by simp)
 have k:KB w [b] (w.setCell ⟨b,0,none⟩ y):=(KB.refl w [b]).setCell (by simp) (Ae hb 0 x rfl) hx y;exact ⟨b',off,rfl,λi r hi=>(hd i r hi).imp λs hs=>⟨k.cell hs.1 (by simpa using hne),hs.2.word hb hx y⟩⟩
theorem OwnI.apart {l:List RawI}(h:OwnI w B v l xs)(hg:w.grownBy w' row)(hN:∀ g,row=some g->Ws w g)(hne:∀ g,v.ownBlock=some g->row≠some g):OwnI w' B v l xs:=by
 obtain ⟨h1,h2,h3,h4,h5⟩:=h;refine ⟨⟨h1.1,?_⟩,h2,h3,?_,?_⟩
 ·rcases h1.2 with hn | ⟨g,cap,cr,rfl,hb2,hg2,rest⟩
  ·exact .inl hn
  ·exact .inr ⟨g,cap,cr,rfl,hb2,(hg.block g (Bi hg2).1 (λe=>hne g rfl e.symm)).trans hg2,rest⟩
 ·intro g hg2;obtain ⟨cr,e,q1,q2⟩:=h4 g hg2;exact ⟨cr,e,(hg.block g (Bi q1).1 (λe=>hne g hg2 e.symm)).trans q1,q2⟩
 ·intro i a hi;obtain ⟨p0,p1,p2,p3,p4,p5,s0,s1,s2,s3,s4,s5,hI⟩:=h5 i a hi;exact ⟨p0,p1,p2,p3,p4,p5,s0,s1,s2,s3,s4,s5,hI.grown hg hN⟩
def Nw (v:Value):List Nat:=v.ownBlock.toList
theorem Ku :g∈Nw v↔v.ownBlock=some g:=by unfold Nw;simp [Option.mem_toList,eq_comm]
theorem OwnI.blt {l:List RawI}(h:OwnI w B v l xs):∀ g,v.ownBlock=some g->g<w.heap.size:=λg hg=>by
 obtain ⟨cr,e,q1,-⟩:=h.blk g hg;exact (Bi q1).1
theorem OwnR.blt (h:OwnR w B v l xs):∀ g,v.ownBlock=some g->g<w.heap.size:=λg hg=>by
 obtain ⟨cr,e,q1,-⟩:=h.blk g hg;exact (Bi q1).1
theorem OwnI.notS {l:List RawI}(h:OwnI w B v l xs)(hl:l≠[])(hg:v.ownBlock=some g):¬AllC SlC w g:=by
 rintro ⟨cur,e,q1,q2⟩;obtain ⟨a,ha⟩:∃ a,l[0]?=some a:=⟨_,Cd (List.length_pos_iff.2 hl)⟩;obtain ⟨x,y,z,x',y',z',a0,-,-,-,-,-,hI⟩:=h.ivs 0 a ha;obtain ⟨A1,l1,c1,A2,l2,c2,ei,-,-⟩:=Ar hI;injection ei with ei;injection ei with ei
 simp only [List.cons.injEq,and_true] at ei;obtain ⟨rfl,rfl,rfl,rfl,rfl,rfl⟩:=ei;have hc:=h.row.cells (g:=g) hg _ _ a0;rw [show (⟨g,0,none⟩:Addr).add (0*6)=⟨g,0,none⟩ by unfold Addr.add;split<;>simp_all] at hc;obtain ⟨A,n,c,e⟩:=q2 _ (Array.mem_toList_iff.2 (Array.mem_of_getElem? (by simpa [World.cell?,q1] using hc:cur[0]?=some (.bool a.lo.neg))));cases e
theorem OwnI.apartR {l:List RawI}(h:OwnI w B v l xs)(hnil:l=[]->v=.slice none 0 0)(hg:w.grownBy w' row)(hS:∀ g,row=some g->AllC SlC w g):OwnI w' B v l xs :=
 h.apart hg (λg e=>(hS g e).nol) (λg hgv e=>by
  by_cases hl:l=[]
  ·rw [hnil hl] at hgv;cases hgv
  ·exact h.notS hl hgv (hS g e))
structure OutS (w:World) (B:Nat) (v:Value) (rows:List (List RawI)) (vs:List Value):Prop where
 own:OwnR w B v rows vs
 each:∀ (i:Nat) (r:List RawI) (s:Value),rows[i]?=some r->vs[i]?=some s->r≠[]/\∃ xs,OwnI w B s r xs
 ap:∀ (i j:Nat) (s s':Value),i≠j->vs[i]?=some s->vs[j]?=some s'->∀ g,s.ownBlock=some g->s'.ownBlock≠some g
theorem OutS.kept (h:OutS w B v rows vs)(k:Kept w w'):OutS w' B v rows vs :=
 ⟨h.own.kept k,λi r s hi hs=>by obtain ⟨h1,xs,h2⟩:=h.each i r s hi hs;exact ⟨h1,xs,h2.kept k⟩,h.ap⟩
theorem OutS.nil (w:World)(B:Nat):OutS w B (.slice none 0 0) [] []:=⟨OwnR.nil w B,by simp,by simp⟩
theorem OwnR.vlen (h:OwnR w B v rows vs):vs.length=rows.length:=by
 have:=h.row.1;simpa using this
theorem OutS.snoc {r:List RawI}(h:OutS w B v rows vs)(ho:OwnR w' B v' (rows++[r]) (vs++[s]))(hg:w.grownBy w' v.ownBlock)(hs:OwnI w B s r xs)(hr:r≠[])
 (hf:∀ (j:Nat) (u:Value),vs[j]?=some u->∀ g,s.ownBlock=some g->u.ownBlock≠some g):OutS w' B v' (rows++[r]) (vs++[s]):=by
 have hl:=h.own.vlen;have tr:∀ {u:Value} {l:List RawI} {ys:List Value},OwnI w B u l ys->l≠[]->OwnI w' B u l ys:=λo hne=>o.apartR (λe=>absurd e hne) hg (λg e=>h.own.blk g e)
 refine ⟨ho,λi r' u hi hu=>?_,λi j u u' hij hi hj=>?_⟩
 ·by_cases hlt:i<rows.length
  ·rw [Gf hlt] at hi;rw [Gf (by omega)] at hu;obtain ⟨h1,ys,h2⟩:=h.each i r' u hi hu;exact ⟨h1,ys,tr h2 h1⟩
  ·have:i=rows.length:=by
    have:=(Ed hi).1;simp at this;omega
   subst this;rw [Gk (Aq _)] at hi;rw [Gk (by omega)] at hu;obtain rfl:r=r':=by simpa using hi
   obtain rfl:s=u:=by simpa [hl] using hu
   exact ⟨hr,xs,tr hs hr⟩
 ·have cs:∀ (k:Nat) (z:Value),(vs++[s])[k]?=some z→vs[k]?=some z∨(k=vs.length∧z=s):=by
   intro k z hk;by_cases hlt:k<vs.length
   ·rw [Gf hlt] at hk;exact .inl hk
   ·have:k=vs.length:=by
     have:=(Ed hk).1;simp at this;omega
    subst this;rw [Gk (Aq _)] at hk;exact .inr ⟨rfl,by simpa using hk.symm⟩
  intro g hgu hgu';rcases cs i u hi with h1 | ⟨h1,rfl⟩<;>rcases cs j u' hj with h2 | ⟨h2,rfl⟩
  ·exact h.ap i j u u' hij h1 h2 g hgu hgu'
  ·exact hf i u h1 g hgu' hgu
  ·exact hf j u' h2 g hgu hgu'
  ·omega
theorem OwnI.low {base:Nat}{l:List RawI}(h:OwnI w base v l xs)(hB:B<=base):OwnI w B v l xs:=by
 obtain ⟨h1,h2,h3,h4,h5⟩:=h;refine ⟨⟨h1.1,?_⟩,h2,h3,h4,h5⟩;rcases h1.2 with hn | ⟨g,cap,cur,e,hb,rest⟩
 ·exact .inl hn
 ·exact .inr ⟨g,cap,cur,e,Bp hB hb,rest⟩
theorem OwnR.low {base:Nat}(h:OwnR w base v l xs)(hB:B<=base):OwnR w B v l xs:=by
 obtain ⟨h1,h2,h3,h4⟩:=h;refine ⟨⟨h1.1,?_⟩,h2,h3,h4⟩;rcases h1.2 with hn | ⟨g,cap,cur,e,hb,rest⟩
 ·exact .inl hn
 ·exact .inr ⟨g,cap,cur,e,Bp hB hb,rest⟩
theorem OutS.low {base:Nat}(h:OutS w base v rows vs)(hB:B<=base):OutS w B v rows vs :=
 ⟨h.own.low hB,λi r s hi hs=>by obtain ⟨h1,xs,h2⟩:=h.each i r s hi hs;exact ⟨h1,xs,h2.low hB⟩,h.ap⟩
theorem OutS.at (h:OutS w B v rows vs)(hs:vs[i]?=some s):∃ r xs,rows[i]?=some r/\r≠[]/\OwnI w B s r xs:=by
 have hi:=(Ed hs).1;rw [h.own.vlen] at hi;obtain ⟨h1,xs,h2⟩:=h.each i _ s (Cd hi) hs;exact ⟨_,xs,Cd hi,h1,h2⟩
theorem OutS.blt (h:OutS w B v rows vs)(hs:vs[i]?=some s)(hg:s.ownBlock=some g):B<=g/\g<w.heap.size:=by
 obtain ⟨r,xs,-,-,o⟩:=h.at hs;exact ⟨o.base g hg,o.blt g hg⟩
theorem OutS.get (h:OutS w B v rows vs)(hi:i<rows.length):∃ g c s r ys,v=.slice (some ⟨g,0,none⟩) rows.length c/\rows.length<=c/\B<=g/\w.cell? ⟨g,i,none⟩=some s/\rows[i]?=some r/\r≠[]/\OwnI w B s r ys:=by
 obtain ⟨s,hs⟩:∃ s,vs[i]?=some s:=⟨_,Cd (by rw [h.own.vlen];exact hi)⟩;obtain ⟨r,ys,hr,hne,o⟩:=h.at hs;rcases h.own.row.2 with ⟨-,h0⟩ | ⟨g,c,cur,rfl,hb,hg,hn,-⟩
 ·omega
 ·have ad:∀ j,(⟨g,0,none⟩:Addr).add j=⟨g,j,none⟩:=by intro j;unfold Addr.add;split<;>simp_all
  have:=h.own.row.cells (g:=g) rfl i s hs;rw [ad] at this;exact ⟨g,c,s,r,ys,rfl,hn,hb,this,hr,hne,o⟩
def outB (v:Value) (vs:List Value):List Nat:=Nw v++vs.flatMap Nw
theorem OutS.outB (h:OutS w B v rows vs):∀ x∈outB v vs,B<=x/\x<w.heap.size:=by
 intro x hx;unfold Go.Proofs.YtabjjdicffcolaaGreatDoor.outB at hx;rcases List.mem_append.1 hx with hx | hx
 ·exact ⟨h.own.base x (Ku.1 hx),h.own.blt x (Ku.1 hx)⟩
 ·obtain ⟨s,hs,hx⟩:=List.mem_flatMap.1 hx;obtain ⟨i,hi⟩:=List.getElem?_of_mem hs;exact h.blt hi (Ku.1 hx)
theorem jL (hs:vs[i]?=some s)(hg:s.ownBlock=some g):g∈outB v vs :=
 List.mem_append_right _ (List.mem_flatMap.2 ⟨s,Dc hs,Ku.2 hg⟩)
def Outc.th (o:Outc Iv) (f:Iv->Outc Iv):Outc Iv:=if o.k=0 then f o.v else ⟨iz,o.k⟩
theorem Outc.th_ok {o:Outc Iv}{f:Iv->Outc Iv}(h:o.k=0):o.th f=f o.v:=Ak h
theorem Outc.th_bad {o:Outc Iv}{f:Iv->Outc Iv}(h:o.k≠0):o.th f=⟨iz,o.k⟩:=Af h
def gI (l:List RawI) (n:Nat):Iv:=(l.getD n rzI).iv
def Gd (l:List RawI):Prop:=∀ a∈l,a.iv.Ok/\a.iv.raw=a
def Fm (n:Nat):Iv:=pt (Ck false n 0).v
def Vx (p:Nat) (a b:List RawI) (n:Nat):Iv->List Nat->Outc Iv
 | s,[]=>⟨s,0⟩
 | s,j::js=>(Ew (gI a j) (gI b (n-j)) p).th λq=>(Gc s q p).th λs'=>Vx p a b n s' js
def Gu (p:Nat) (a b:List RawI) (n:Nat):Outc Iv:=(Ew (gI a 0) (gI b n) p).th λs=>Vx p a b n s (List.range' 1 n)
def Iq (p:Nat) (a b:List RawI) (n:Nat):Iv->List Nat->Outc Iv
 | s,[]=>⟨s,0⟩
 | s,j::js=>(Ew (gI a j) (gI b (n-j)) p).th λq=>(I8 s q p).th λs'=>Iq p a b n s' js
def N7 (p:Nat) (a c:List RawI) (n:Nat):Iv->List Nat->Outc Iv
 | s,[]=>⟨s,0⟩
 | s,j::js=>(Ew (Fm j) (gI a j) p).th λu=>(Ew u (gI c (n-j)) p).th λq=>(Gc s q p).th λs'=>N7 p a c n s' js
def Fl (ov:Iv->Nat->Outc Iv) (p:Nat) (op:Int) (a b c:List RawI) (n:Nat):Outc Iv :=
 if op=6 then Gc (gI a n) (gI b n) p else if op=7 then I8 (gI a n) (gI b n) p else if op=10 then Oi (gI a n) p else
 if op=8 then Gu p a b n else if op=9 then (Iq p b c n (gI a n) (List.range' 1 n)).th λx=>Cm x (gI b 0) p else
 if op=11 then (if n=0 then Lb (gI a 0) p else Gu p a a n) else
 if op=12 then (if n=0 then Gh (gI a 0) p else (Iq p c c n (gI a n) (List.range' 1 (n-1))).th λx=>(Gc (gI c 0) (gI c 0) p).th λy=>Cm x y p) else
 if n=0 then ov (gI a 0) p else
 (Ew (Fm 1) (gI a 1) p).th λu=>(Ew u (gI c (n-1)) p).th λs=>(N7 p a c n s (List.range' 2 (n-1))).th λs=>Cm s (Fm n) p
def Dp (p:Nat) (g:List RawI):List RawI->List Nat->Outc (List RawI)
 | c,[]=>⟨c,0⟩
 | c,n::ns=>if (Bk (gI g n) p).k=0 then Dp p g (c++[(Bk (gI g n) p).v.raw]) ns else ⟨[],(Bk (gI g n) p).k⟩
def Lg (ov:Iv->Nat->Outc Iv) (p:Nat) (op:Int) (a b:List RawI):List RawI->List Nat->Outc (List RawI)
 | c,[]=>⟨c,0⟩
 | c,n::ns=>if (Fl ov p op a b c n).k=0 then Lg ov p op a b (c++[(Fl ov p op a b c n).v.raw]) ns else ⟨[],(Fl ov p op a b c n).k⟩
def Hy (l:List (List RawI)) (n:Int):List RawI:=l.getD n.toNat []
def Bs (a:RawI) (k:Nat):List RawI:=a::List.replicate k rzI
def Fe (ov:Iv->Nat->Outc Iv) (p:Nat) (l:Ln) (all:List (List RawI)) (t:List RawI) (x q:List (List RawI)) (k:Nat):Outc (List RawI) :=
 if l.op=1 then Dp p (Bs l.k k) [] (List.range (k+1)) else if l.op=2 then Dp p t [] (List.range (k+1)) else
 if l.op=3 then Dp p (Hy x l.a) [] (List.range (k+1)) else if l.op=5 then Dp p (Hy q l.a) [] (List.range (k+1)) else
 Lg ov p l.op (Hy all l.a) (Hy all l.b) [] (List.range (k+1))
def Fj (ov:Iv->Nat->Outc Iv) (p:Nat) (t:List RawI) (x q:List (List RawI)) (k:Nat):List (List RawI)->List Ln->Outc (List (List RawI))
 | all,[]=>⟨all,0⟩
 | all,l::ls=>if (Fe ov p l all t x q k).k=0 then Fj ov p t x q k (all++[(Fe ov p l all t x q k).v]) ls else ⟨[],(Fe ov p l all t x q k).k⟩
def Cy (ov:Iv->Nat->Outc Iv) (p:Nat) (ls:List Ln) (outs:List Int) (t:List RawI) (x q:List (List RawI)) (k:Nat):Outc (List (List RawI)) :=
 if (Fj ov p t x q k [] ls).k=0 then ⟨outs.map λn=>Hy (Fj ov p t x q k [] ls).v n,0⟩ else ⟨[],(Fj ov p t x q k [] ls).k⟩
def Li (l:List (List RawI)) (k:Int):Bool:=l.all λc=>decide ((c.length:Int)=k+1)&&c.all Dl
def Eg (k b:Int):Bool:=decide (0<=k)&&decide (k<=12)&&decide (1<=b)&&decide (b<=300)
def Ft (p n:Nat):List (List RawI)->List (List RawI)->Outc (List (List RawI))
 | o :: os, c :: cs => if (Cm   (gI c n) (Fm  (n + 1)) p).k = 0 then
     (if (Ft p n os cs).k=0 then ⟨(o++[(Cm (gI c n) (Fm (n+1)) p).v.raw])::(Ft p n os cs).v,0⟩ else ⟨[],(Ft p n os cs).k⟩) else ⟨[],(Cm (gI c n) (Fm (n+1)) p).k⟩
 | os,_=>⟨os,0⟩
def Hg (t:RawI) (k:Nat):List RawI:=if 0<k then (Bs t k).set 1 (Fm 1).raw else Bs t k
def Cu (ov:Iv->Nat->Outc Iv) (p:Nat) (ls:List Ln) (outs:List Int) (time:List RawI) (q:List RawI):List (List RawI)->List Nat->Outc (List (List RawI))
 | o,[]=>⟨o,0⟩
 | o, n :: ns =>
   if (Cy ov p ls outs (time.take (n+1)) o (q.map λa=>Bs a n) n).k≠0 then ⟨[],(Cy ov p ls outs (time.take (n+1)) o (q.map λa=>Bs a n) n).k⟩ else
   if (Ft p n o (Cy ov p ls outs (time.take (n+1)) o (q.map λa=>Bs a n) n).v).k≠0 then ⟨[],(Ft p n o (Cy ov p ls outs (time.take (n+1)) o (q.map λa=>Bs a n) n).v).k⟩ else
   Cu ov p ls outs time q (Ft p n o (Cy ov p ls outs (time.take (n+1)) o (q.map λa=>Bs a n) n).v).v ns
def D6 (p:Nat):List RawI->List (List RawI)->Outc (List (List RawI))
 | [],o=>⟨o,0⟩
 | a::l,o=>if (Bk a.iv p).k=0 then D6 p l (o++[[(Bk a.iv p).v.raw]]) else ⟨[],(Bk a.iv p).k⟩
def Ei (ov:Iv->Nat->Outc Iv) (ls:List Ln) (outs:List Int) (t:RawI) (x q:List RawI) (k p:Int):Outc (List (List RawI)) :=
 if Eg k p&&Iy ls outs x.length 0 q.length&&decide (outs.length=x.length)&&(x++[t]).all Dl&&q.all Dl then
  (if (D6 p.toNat x []).k=0 then Cu ov p.toNat ls outs (Hg t k.toNat) q (D6 p.toNat x []).v (List.range k.toNat) else ⟨[],(D6 p.toNat x []).k⟩) else ⟨[],1⟩
def SBlk (w:World) (b:Nat) (p:Nat) (up:Bool):Prop:=w.heap[b]?=some (.cells #[.int .i64 (p:Int),.bool up] 175 (0,0))
theorem SBlk.kept {w1:World}(h:SBlk w b p up)(k:Kept w w1):SBlk w1 b p up:=(k.block b (Bi h).1).trans h
theorem SBlk.facts (h:SBlk w b p up):b<w.heap.size/\w.cell? ⟨b,0,none⟩=some (.int .i64 (p:Int))/\w.cell? ⟨b,1,none⟩=some (.bool up) :=
 ⟨(Bi h).1,Ae h 0 _ rfl,Ae h 1 _ rfl⟩
theorem SBlk.dyW (h:SBlk w b p up)(hne:¬b=c)(x y z:Value):SBlk (dyW w c x y z) b p up:=by
 show (((w.setCell _ _).setCell _ _).setCell _ _).heap[b]?=_
 rw [Below.heap_setCell _ _ _ _ hne,Below.heap_setCell _ _ _ _ hne,Below.heap_setCell _ _ _ _ hne];exact h
theorem eu (w:World)(p:Nat)(up:Bool)(x y z:Value):∃ W,W=((w.alloc (.cells #[.int .i64 (p:Int),.bool up] 175)).alloc (.cells #[x,y,z] 28)).alloc (.cells #[.bool false,.slice none 0 0,.int .i64 0] 28) /\
 Kept w W/\SBlk W w.heap.size p up/\Blk W (w.heap.size+1) x y z/\Blk W (w.heap.size+1+1) (.bool false) (.slice none 0 0) (.int .i64 0):=by
 refine ⟨_,rfl,((Ab _ _).trans (Ab _ _)).trans (Ab _ _),?_,?_,Ww _ _ _ _ _ _⟩
 ·exact SBlk.kept (SBlk.kept (show SBlk (w.alloc _) _ _ _ from heap_alloc_new _ _) (Ab _ _)) (Ab _ _)
 ·exact (Em _ _ _ _ _).kept (Ab _ _)
theorem om (hv:DyR w v d.raw)(ok:d.Ok)(p1:1<=p)(p2:p<=2000)(hT:Tab w) :
 Calls Tryz.prog 185 #[.agg #[.int .i64 (p:Int),.bool true],v] w (RetD (I7 p true d).raw w):=by
 have C:=Ad (λw1 v1 (k:Kept w w1) (h:DyR w1 v1 d.raw)=>cz h ok (hT.kept k) p1 p2);obtain ⟨A,l,c,rfl,hs⟩:=Bx hv;have HS:=Ad hs;clear hv hs hT ok p1 p2;have hd:I7 p true d=(Dj d p true).v:=rfl;rw [hd];obtain ⟨o,ho⟩:∃ o,o=(Dj d p true).raw:=⟨_,rfl⟩;rw [<-ho] at C;have hr:(Dj d p true).v.raw=o.v:=by rw [ho];rfl
 rw [hr];clear hr ho hd;generalize d.raw=r,d.neg=n1,d.e=e at *;obtain ⟨W,hW,kW,BS,BA,BR⟩:=eu w p true (.bool n1) (.slice A l c) (.int .i64 e);have HW:=Ad hW;have K:=Ad kW;have HB:=Ad BR;obtain ⟨-,s0,s1⟩:=BS.facts;obtain ⟨-,a0,a1,a2,-⟩:=BA.facts;clear hW kW BR;go_enter Tryz.func185,Tryz.ntmps185;go_upto_region 1 with fail;rw [<-HW.o];go_wp2_with fail;refine (C.o _ _ K.o (HS.o.kept K.o)).mono ?_;rintro ee w1 ⟨q,u,rfl,hd⟩;simp only [];have KK:=Ad (K.o.trans q);have HD:=Ad hd;replace HB:=Ad (HB.o.kept q);clear q hd a0 a1 a2 s0 s1;go_wp2_with fail
 refine (G5 HD.o).mono ?_;rintro ee w2 ⟨q,v2,rfl,hd2⟩;obtain ⟨A',l',c',rfl,-,hd,g1,g2⟩:=hd2.shape;replace KK:=Ad (KK.o.trans q);replace HB:=Ad (HB.o.kept q);replace HD:=Ad hd;clear q hd hd2;obtain ⟨-,x0,x1,x2,f0,f1,f2⟩:=HB.o.facts;simp only [];go_wp2_with fail;exact Ct (HB.o.laid _ _ _) rfl rfl rfl ⟨Au KK.o (by omega),_,rfl,(HD.o.dyW HB.o (Ah _) (Ag _ _ _) (Aj _)).dyR g1 g2⟩
theorem oh (hv:DyR w v d.raw)(ok:d.Ok)(p1:1<=p)(p2:p<=2000)(hT:Tab w) :
 Calls Tryz.prog 185 #[.agg #[.int .i64 (p:Int),.bool false],v] w (RetD (I7 p false d).raw w):=by
 have C:=Ad (λw1 v1 (k:Kept w w1) (h:DyR w1 v1 d.raw)=>Qb h ok (hT.kept k) p1 p2);obtain ⟨A,l,c,rfl,hs⟩:=Bx hv;have HS:=Ad hs;clear hv hs hT ok p1 p2;have hd:I7 p false d=(Dj d p false).v:=rfl;rw [hd];obtain ⟨o,ho⟩:∃ o,o=(Dj d p false).raw:=⟨_,rfl⟩;rw [<-ho] at C;have hr:(Dj d p false).v.raw=o.v:=by rw [ho];rfl
 rw [hr];clear hr ho hd;generalize d.raw=r,d.neg=n1,d.e=e at *;obtain ⟨W,hW,kW,BS,BA,BR⟩:=eu w p false (.bool n1) (.slice A l c) (.int .i64 e);have HW:=Ad hW;have K:=Ad kW;have HB:=Ad BR;obtain ⟨-,s0,s1⟩:=BS.facts;obtain ⟨-,a0,a1,a2,-⟩:=BA.facts;clear hW kW BR;go_enter Tryz.func185,Tryz.ntmps185;go_upto_region 1 with fail;rw [<-HW.o];go_wp2_with fail;refine (C.o _ _ K.o (HS.o.kept K.o)).mono ?_;rintro ee w1 ⟨q,u,rfl,hd⟩;simp only [];have KK:=Ad (K.o.trans q);have HD:=Ad hd;replace HB:=Ad (HB.o.kept q);clear q hd a0 a1 a2 s0 s1;go_wp2_with fail
 refine (G5 HD.o).mono ?_;rintro ee w2 ⟨q,v2,rfl,hd2⟩;obtain ⟨A',l',c',rfl,-,hd,g1,g2⟩:=hd2.shape;replace KK:=Ad (KK.o.trans q);replace HB:=Ad (HB.o.kept q);replace HD:=Ad hd;clear q hd hd2;obtain ⟨-,x0,x1,x2,f0,f1,f2⟩:=HB.o.facts;simp only [];go_wp2_with fail;exact Ct (HB.o.laid _ _ _) rfl rfl rfl ⟨Au KK.o (by omega),_,rfl,(HD.o.dyW HB.o (Ah _) (Ag _ _ _) (Aj _)).dyR g1 g2⟩
theorem O6 (hv:DyR w v d.raw)(ok:d.Ok)(p1:1<=p)(p2:p<=2000)(hT:Tab w) :
 Calls Tryz.prog 185 #[.agg #[.int .i64 (p:Int),.bool up],v] w (RetD (I7 p up d).raw w):=by
 cases up
 ·exact oh hv ok p1 p2 hT
 ·exact om hv ok p1 p2 hT
def fv (j:Nat):Dy:=(Ck false j 0).v
def Db (p:Nat) (up:Bool) (r term:Dy) (j:Nat):Dy:=(Cz (Ch term r).v (fv j) p up).v
def Es (p:Nat) (up:Bool) (sum t:Dy):Dy:=I7 p up (Ey sum t).v
def G6 (p:Nat) (up:Bool) (r:Dy):Nat->Nat->Dy->Dy->Option (Dy × Dy)
 | 0,_,_,_=>none
 | f + 1, j, sum, term =>
   if Bj (Db p up r term j) < -(p:Int)-8 then some (Es p up sum (Db p up r term j),Db p up r term j)
   else G6 p up r f (j+1) (Es p up sum (Db p up r term j)) (Db p up r term j)
def one:Dy:=⟨false,1,0⟩
def J5 (p:Nat) (up:Bool) (o:Dy × Dy):Dy:=if up then Es p true o.1 o.2 else o.1
theorem fJ {x:Int}(h1:-9223372036854775808<=x)(h2:x<=9223372036854775807):IntKind.i64.wrap x=x:=by simp [IntKind.wrap_i64];omega
theorem Ro (V:World)(x y z:Value):Kept V ((V.alloc (.cells #[x,y,z] 28)).alloc (.cells #[x,y,z] 28)).drew /\
 Blk ((V.alloc (.cells #[x,y,z] 28)).alloc (.cells #[x,y,z] 28)).drew V.heap.size x y z /\
 Blk ((V.alloc (.cells #[x,y,z] 28)).alloc (.cells #[x,y,z] 28)).drew (V.heap.size+1) x y z :=
 ⟨have h := (Ab         V (.cells #[x, y, z] 28)).trans (Ab         (V.alloc (.cells #[x, y, z] 28)) (.cells #[x, y, z] 28)); ⟨h.os, h.tape, h.output, h.size, h.block⟩,
  show Blk ((V.alloc (.cells #[x,y,z] 28)).alloc (.cells #[x,y,z] 28)) V.heap.size x y z from (Bz _ _ _ _).kept (Ab _ _),
  show Blk ((V.alloc (.cells #[x,y,z] 28)).alloc (.cells #[x,y,z] 28)) (V.heap.size+1) x y z from Em _ _ _ _ _⟩
theorem nZ {f:Nat}{r:Dy}{o:Dy × Dy}(hv:DyR w v r.raw)(ok:r.Ok)(p1:1<=p)(p2:p<=2000)(hT:Tab w)(hG:G6 p up r f 1 one one=some o)(hf:f<=1000000) :
 Calls Tryz.prog 208 #[.agg #[.int .i64 (p:Int),.bool up],v] w (RetD (J5 p up o).raw w):=by
 have T:=Ad hT;have CO:=Ad (λw1 (k:Kept w w1)=>show Calls Tryz.prog 20 #[.int .i64 1,.int .i64 0] w1 (RetE ⟨one.raw,0⟩ w1) by
  have h:=Rv (w:=w1) (k:=1) (e:=0) (by decide) (by decide) (by decide) (hT.kept k);rw [jf] at h;exact h)
 obtain ⟨A,l,c,rfl,hs⟩:=Bx hv;have HS:=Ad hs;have OK:=Ad ok;clear hv hs hT ok;obtain ⟨n1,hn1⟩:∃ x,r.neg=x:=⟨_,rfl⟩;obtain ⟨e1,he1⟩:∃ x,r.e=x:=⟨_,rfl⟩;rw [hn1,he1] at HS ⊢;clear hn1 he1;obtain ⟨W,hW,kW,BS,BA,BR⟩:=eu w p up (.bool n1) (.slice A l c) (.int .i64 e1);have HW:=Ad hW;have K:=Ad kW;have HB:=Ad BR;have HA:=Ad BA;have HP:=Ad BS;have HG:=Ad hG;clear hW kW BR BS BA hG;go_enter Tryz.func208,Tryz.ntmps208;go_wp2_with fail;rw [<-HW.o];clear HW;go_step3;go_wp2_with fail;refine (CO.o _ K.o).mono ?_;rintro ee w1 ⟨q,u,rfl,hd⟩;simp only [];replace K:=Ad (K.o.trans q);replace HB:=Ad (HB.o.kept q)
 replace HA:=Ad (HA.o.kept q);replace HP:=Ad (HP.o.kept q);have HD:=Ad hd;clear q hd CO;go_wp2_with fail;refine (G5 HD.o).mono ?_;rintro ee w2 ⟨q,v2,rfl,hd2⟩;obtain ⟨A',l',c',rfl,hd3⟩:=Bx hd2;simp only [];obtain ⟨V,hV,kV,hb,lV⟩:=Nu w2 (.bool one.neg) (.slice A' l' c') (.int .i64 one.e);have HV:=Ad hV;have kk:=q.trans kV;have l5:w.heap.size+1+1<w2.heap.size:=Dn HB.o.facts.1 q.size;replace K:=Ad (K.o.trans kk);replace HB:=Ad (HB.o.kept kk);replace HA:=Ad (HA.o.kept kk);replace HP:=Ad (HP.o.kept kk);have H5:=Ad hb;have Z5:=Ad (hd3.kept kV);clear hV kV hb kk q hd2 hd3 HD
 go_upto_region 2 with fail;rw [<-HV.o];clear HV;generalize w2.heap.size=b5 at *;obtain ⟨-,a0,a1,a2,-⟩:=H5.o.facts
 go_cut [6,7] (λs6 s7 wx=>∃ b6 b7:Nat,s6=.pointer (some ⟨b6,0,none⟩)/\s7=.pointer (some ⟨b7,0,none⟩)/\b5<b6/\b5<b7/\¬b6=b7/\Blk wx b6 (.bool one.neg) (.slice A' l' c') (.int .i64 one.e)/\Blk wx b7 (.bool one.neg) (.slice A' l' c') (.int .i64 one.e)/\Kept V wx)
 case first =>
  go_region
  all_goals
   go_wp2_with fail
   go_meet
   exact ⟨_,_,rfl,rfl,by omega,by omega,by omega,by first | exact (Ro V _ _ _).2.1 | exact (Ro V _ _ _).2.2,by first | exact (Ro V _ _ _).2.1 | exact (Ro V _ _ _).2.2,(Ro V _ _ _).1⟩
 obtain ⟨b6,b7,rfl,rfl,l6,l7,hne,B6,B7,kk⟩:=hcut;replace K:=Ad (K.o.trans kk);replace HB:=Ad (HB.o.kept kk);replace HA:=Ad (HA.o.kept kk);replace HP:=Ad (HP.o.kept kk);have H6:=Ad B6;have H7:=Ad B7;have Z6:=Ad (Z5.o.kept kk);clear B6 B7 kk a0 a1 a2 lV Z5 H5;go_wp2_with fail;go_step3;go_wp2_with fail
 go_loopw [8] (λj wr=>∃ (g jn:Nat) (s t:Dy) (As At:Option Addr) (ls cs lt ct:Nat),j=.int .i64 (jn:Int)/\jn+g=f+1/\G6 p up r g jn s t=some o/\s.Ok/\t.Ok/\1<=jn/\Kept w wr/\SBlk wr w.heap.size p up/\Blk wr (w.heap.size+1) (.bool n1) (.slice A l c) (.int .i64 e1) /\
  Blk wr (w.heap.size+1+1) (.bool false) (.slice none 0 0) (.int .i64 0)/\Blk wr b6 (.bool s.neg) (.slice As ls cs) (.int .i64 s.e)/\DyR wr (.agg #[.bool s.neg,.slice As ls cs,.int .i64 s.e]) s.raw /\
  Blk wr b7 (.bool t.neg) (.slice At lt ct) (.int .i64 t.e)/\DyR wr (.agg #[.bool t.neg,.slice At lt ct,.int .i64 t.e]) t.raw) (λj _=>(f+2-intOf j).toNat)
 case atStart=>exact ⟨f,1,one,one,A',A',l',c',l',c',rfl,by omega,HG.o,J4,J4,Aq _,K.o,HP.o,HA.o,HB.o,H6.o,Z6.o,H7.o,Z6.o⟩
 case round =>
  clear HG K HP HA HB H6 Z6 H7;obtain ⟨g,jn,s,t,As,At,ls,cs,lt,ct,rfl,hj,hG,os,ot,hj1,hK,hP,hA,hB,h6,hz6,h7,hz7⟩:=hrel;have K:=Ad hK;have HP:=Ad hP;have HA:=Ad hA;have HB:=Ad hB;have H6:=Ad h6;have H7:=Ad h7;have Z6:=Ad hz6;have Z7:=Ad hz7;have lb:w.heap.size+1+1<b5:=l5;clear hK hP hA hB h6 hz6 h7 hz7;cases g with
  | zero=>simp [G6] at hG
  | succ g =>
    obtain ⟨t',ht'⟩:∃ t',t'=Db p up r t jn:=⟨_,rfl⟩;obtain ⟨s',hs'⟩:∃ s',s'=Es p up s t':=⟨_,rfl⟩;rw [G6,<-ht',<-hs'] at hG;have ot':t'.Ok:=by rw [ht'];exact (Kx _ _ _ _).1
    have os':s'.Ok:=by rw [hs'];exact Pp _ _ _
    have oj:(fv jn).Ok:=(E6 _ _ _).1;obtain ⟨o1,ho1⟩:∃ o,o=(Ch t r).raw:=⟨_,rfl⟩;obtain ⟨o2,ho2⟩:∃ o,o=(Ck false jn 0).raw:=⟨_,rfl⟩;obtain ⟨o3,ho3⟩:∃ o,o=(Cz (Ch t r).v (fv jn) p up).raw:=⟨_,rfl⟩;obtain ⟨o4,ho4⟩:∃ o,o=(Ey s t').raw:=⟨_,rfl⟩;have C1:=Ad (λw1 v u (k:Kept w w1) (hv:DyR w1 v t.raw) (hu:DyR w1 u r.raw)=>show Calls _ _ _ w1 (RetE o1 w1) by rw [ho1];exact Sq hv hu ot OK.o (T.o.kept k));have C2:=Ad (λw1 (k:Kept w w1)=>show Calls Tryz.prog 20 #[.int .i64 (jn:Int),.int .i64 0] w1 (RetE o2 w1) by rw [ho2];exact Rv (by omega) (by decide) (by decide) (T.o.kept k))
    have C3:=Ad (λw1 v u (k:Kept w w1) (hv:DyR w1 v o1.v) (hu:DyR w1 u o2.v)=>show Calls Tryz.prog 129 #[v,u,.int .i64 (p:Int),.bool up] w1 (RetE o3 w1) by rw [ho3];rw [ho1] at hv;rw [ho2] at hu;exact Qo hv hu (Kf t r).1 oj (T.o.kept k) p1 p2);have R3:Hid (o3.v=t'.raw):=by rw [ho3,ht'];rfl
    have C4:=Ad (λw1 v u (k:Kept w w1) (hv:DyR w1 v s.raw) (hu:DyR w1 u t'.raw)=>show Calls _ _ _ w1 (RetE o4 w1) by rw [ho4];exact eh hv hu os ot' (T.o.kept k));have C5:=Ad (λw1 v (k:Kept w w1) (hv:DyR w1 v o4.v)=>show Calls Tryz.prog 185 #[.agg #[.int .i64 (p:Int),.bool up],v] w1 (RetD s'.raw w1) by rw [hs'];rw [ho4] at hv;exact O6 hv (Ls os ot').1 p1 p2 (T.o.kept k));have C6:=Ad (λw1 v (hv:DyR w1 v t'.raw)=>lB hv ot');obtain ⟨bb,hbb⟩:∃ bb,decide (Bj t' < -(p:Int)-8)=bb:=⟨_,rfl⟩;have HC:=Ad hbb;have HG:=Ad hG;have O1:=Ad os';have O2:=Ad ot';clear ho1 ho2 ho3 ho4 hG oj os ot ht' hs' hbb os' ot'
    generalize Bj t'=tt at *;go_wp2_with fail
    refine Ih 19 ([(vE (.agg #[.bool t.neg,.slice At lt ct,.int .i64 t.e])),(vE (.agg #[.bool n1,.slice A l c,.int .i64 e1])),(λv wv=>∃ d,v=.tuple #[d,.int .i64 o1.k]/\DyR wv d o1.v),(λv wv=>DyR wv v o1.v),(vE (.int .i64 o1.k)),(λv wv=>DyR wv v o1.v),(vE (.int .i64 (jn:Int))),(λv wv=>∃ d,v=.tuple #[d,.int .i64 o2.k]/\DyR wv d o2.v),(λv wv=>DyR wv v o2.v),(vE (.int .i64 o2.k)),(λv wv=>DyR wv v o2.v),(vP w.heap.size 0),(vE (.int .i64 (p:Int))),(vP w.heap.size 1),(vE (.bool up)),(λv wv=>∃ d,v=.tuple #[d,.int .i64 o3.k]/\DyR wv d o3.v),(λv wv=>DyR wv v o3.v),(vE (.int .i64 o3.k)),(λv wv=>DyR wv v o3.v)])
     ⟨
      (E3 7 λ_ k=>c3 H7.o k),(E3 3 λ_ k=>c3 HA.o k),(λaF wF F=>by have s17:=F.v 0 17;have s18:=F.v 1 18;exact sE (C1.o _ _ _ (K.o.trans F.kept) (Z7.o.kept F.kept) (HS.o.kept (K.o.trans F.kept))) λ_ _ h=>h),(λaF wF F=>by have s19:=F.p 2 19;obtain ⟨dd,ee,hh⟩:=s19;exact sv hh),(λaF wF F=>by have s19:=F.p 2 19;exact sw (by obtain ⟨dd,ee,hh⟩:=s19;go_simp) rfl),(λaF wF F=>by have s20:=F.p 3 20;have s21:=F.v 4 21;exact sD (G5 (k:=o1.k) s20) λ_ _ h=>h),(gq 8),(λaF wF F=>by have s23:=F.v 6 23;exact sE (C2.o _ (K.o.trans F.kept)) λ_ _ h=>h),(λaF wF F=>by have s24:=F.p 7 24;obtain ⟨dd,ee,hh⟩:=s24;exact sv hh),(λaF wF F=>by have s24:=F.p 7 24;exact sw (by obtain ⟨dd,ee,hh⟩:=s24;go_simp) rfl),(λaF wF F=>by have s25:=F.p 8 25;have s26:=F.v 9 26;exact sD (G5 (k:=o2.k) s25) λ_ _ h=>h),(gq 2),(Ie 11 28 λ_ k=>Ai HP.o k 0 _ rfl),(gq 2),(Ie 13 30 λ_ k=>Ai HP.o k 1 _ rfl),(λaF wF F=>by have s22:=F.p 5 22;have s27:=F.p 10 27;have s29:=F.v 12 29;have s31:=F.v 14 31;exact sE (C3.o _ _ _ (K.o.trans F.kept) s22 s27) λ_ _ h=>h),(λaF wF F=>by have s32:=F.p 15 32;obtain ⟨dd,ee,hh⟩:=s32;exact sv hh),(λaF wF F=>by have s32:=F.p 15 32;exact sw (by obtain ⟨dd,ee,hh⟩:=s32;go_simp) rfl),(λaF wF F=>by have s33:=F.p 16 33;have s34:=F.v 17 34;exact sD (G5 (k:=o3.k) s33) λ_ _ h=>h),
      trivial⟩ ?_
    intro u w1 k1 hu;have p19:=hp hu 2;have p20:=hp hu 3;have p22:=hp hu 5;have p24:=hp hu 7;have p25:=hp hu 8;have p27:=hp hu 10;have p32:=hp hu 15;have p33:=hp hu 16;have p35:=hp hu 18;simp only [Bb,Ap,Act.put,Ep,hv hu 0,hv hu 1,hv hu 4,hv hu 6,hv hu 9,hv hu 11,hv hu 12,hv hu 13,hv hu 14,hv hu 17];clear hu;generalize u 2=v19,u 3=v20,u 5=v22,u 7=v24,u 8=v25,u 10=v27,u 15=v32,u 16=v33,u 18=v35 at *;rw [R3.o] at p35;obtain ⟨A7,j7,c7,rfl,z1⟩:=Bx p35;clear p19 p20 p22 p24 p25 p27 p32 p33 p35 C1 C2 C3 R3;have hx:=H7.o.kept k1;obtain ⟨-,x0,x1,x2,f0,f1,f2⟩:=hx.facts
    go_upto_region 6 with fail;change Code.wp _ _ _ _ (dyW _ b7 _ _ _);have UD:Hid (∀ v r,DyR w1 v r->DyR (dyW w1 b7 (.bool t'.neg) (.slice A7 j7 c7) (.int .i64 t'.e)) v r):=λ_ _ h=>h.dyW hx (Ah _) (Ag _ _ _) (Aj _) _ _ _
    have UB:Hid (∀ b' x y z,Blk w1 b' x y z->¬b'=b7->Blk (dyW w1 b7 (.bool t'.neg) (.slice A7 j7 c7) (.int .i64 t'.e)) b' x y z):=λ_ _ _ _ h hne=>h.laid_other hne _ _ _
    have HX':=Ad (hx.laid (.bool t'.neg) (.slice A7 j7 c7) (.int .i64 t'.e));replace K:=Ad (Au (x:=.bool t'.neg) (y:=.slice A7 j7 c7) (z:=.int .i64 t'.e) (K.o.trans k1) (show w.heap.size<=b7 by omega));replace HP:=Ad ((HP.o.kept k1).dyW (show ¬w.heap.size=b7 by omega) (.bool t'.neg) (.slice A7 j7 c7) (.int .i64 t'.e));replace HA:=Ad (UB.o _ _ _ _ (HA.o.kept k1) (by omega));replace HB:=Ad (UB.o _ _ _ _ (HB.o.kept k1) (by omega));replace H6:=Ad (UB.o _ _ _ _ (H6.o.kept k1) (by omega));replace Z6:=Ad (UD.o _ _ (Z6.o.kept k1));replace H7:=Ad HX'.o;replace Z7:=Ad (UD.o _ _ z1)
    clear UD UB HX' hx x0 x1 x2 f0 f1 f2 z1 k1;generalize dyW w1 b7 (.bool t'.neg) (.slice A7 j7 c7) (.int .i64 t'.e)=X at *
    refine Ih 8 ([(vE (.agg #[.int .i64 (p:Int),.bool up])),(vE (.agg #[.bool s.neg,.slice As ls cs,.int .i64 s.e])),(vE (.agg #[.bool t'.neg,.slice A7 j7 c7,.int .i64 t'.e])),(λv wv=>∃ d,v=.tuple #[d,.int .i64 o4.k]/\DyR wv d o4.v),(λv wv=>DyR wv v o4.v),(vE (.int .i64 o4.k)),(λv wv=>DyR wv v o4.v),(λv wv=>DyR wv v s'.raw)])
     ⟨
      (λaF wF F=>by have s2:=F.q 2 (.pointer (some ⟨w.heap.size,0,none⟩));have c0:=Ai HP.o F.kept 0 _ rfl;have c1:=Ai HP.o F.kept 1 _ rfl;exact sv rfl),(E3 6 λ_ k=>c3 H6.o k),(E3 7 λ_ k=>c3 H7.o k),(λaF wF F=>by have s37:=F.v 1 37;have s38:=F.v 2 38;exact sE (C4.o _ _ _ (K.o.trans F.kept) (Z6.o.kept F.kept) (Z7.o.kept F.kept)) λ_ _ h=>h),(λaF wF F=>by have s39:=F.p 3 39;obtain ⟨dd,ee,hh⟩:=s39;exact sv hh),(λaF wF F=>by have s39:=F.p 3 39;exact sw (by obtain ⟨dd,ee,hh⟩:=s39;go_simp) rfl),(λaF wF F=>by have s40:=F.p 4 40;have s41:=F.v 5 41;exact sD (G5 (k:=o4.k) s40) λ_ _ h=>h),(λaF wF F=>by have s36:=F.v 0 36;have s42:=F.p 6 42;exact sD (C5.o _ _ (K.o.trans F.kept) s42) λ_ _ h=>h),
      trivial⟩ ?_
    intro u w1 k1 hu;have p39:=hp hu 3;have p40:=hp hu 4;have p42:=hp hu 6;have p43:=hp hu 7;simp only [Bb,Ap,Act.put,Ep,hv hu 0,hv hu 1,hv hu 2,hv hu 5];clear hu;generalize u 3=v39,u 4=v40,u 6=v42,u 7=v43 at *;obtain ⟨A6,j6,c6,rfl,z1⟩:=Bx p43;clear p39 p40 p42 p43 C4 C5;have hx:=H6.o.kept k1;obtain ⟨-,x0,x1,x2,f0,f1,f2⟩:=hx.facts;go_upto_region 7 with fail;change Code.wp _ _ _ _ (dyW _ b6 _ _ _);have UD:Hid (∀ v r,DyR w1 v r->DyR (dyW w1 b6 (.bool s'.neg) (.slice A6 j6 c6) (.int .i64 s'.e)) v r):=λ_ _ h=>h.dyW hx (Ah _) (Ag _ _ _) (Aj _) _ _ _
    have UB:Hid (∀ b' x y z,Blk w1 b' x y z->¬b'=b6->Blk (dyW w1 b6 (.bool s'.neg) (.slice A6 j6 c6) (.int .i64 s'.e)) b' x y z):=λ_ _ _ _ h hne=>h.laid_other hne _ _ _
    have HX':=Ad (hx.laid (.bool s'.neg) (.slice A6 j6 c6) (.int .i64 s'.e));replace K:=Ad (Au (x:=.bool s'.neg) (y:=.slice A6 j6 c6) (z:=.int .i64 s'.e) (K.o.trans k1) (show w.heap.size<=b6 by omega));replace HP:=Ad ((HP.o.kept k1).dyW (show ¬w.heap.size=b6 by omega) (.bool s'.neg) (.slice A6 j6 c6) (.int .i64 s'.e));replace HA:=Ad (UB.o _ _ _ _ (HA.o.kept k1) (by omega));replace HB:=Ad (UB.o _ _ _ _ (HB.o.kept k1) (by omega));replace H7:=Ad (UB.o _ _ _ _ (H7.o.kept k1) (by omega));replace Z7:=Ad (UD.o _ _ (Z7.o.kept k1));replace H6:=Ad HX'.o;replace Z6:=Ad (UD.o _ _ z1)
    clear UD UB HX' hx x0 x1 x2 f0 f1 f2 z1 k1;generalize dyW w1 b6 (.bool s'.neg) (.slice A6 j6 c6) (.int .i64 s'.e)=X at *
    refine Sv 7 ([(vE (.agg #[.bool t'.neg,.slice A7 j7 c7,.int .i64 t'.e])),(vE (.int .i64 tt)),(vP w.heap.size 0),(vE (.int .i64 (p:Int))),(vE (.int .i64 (-(p:Int)))),(vE (.int .i64 (-(p:Int)-8))),(vE (.bool bb))])
     ⟨
      (E3 7 λ_ k=>c3 H7.o k),(λaF wF F=>by have s44:=F.v 0 44;exact sK (C6.o _ _ (Z7.o.kept F.kept)) λ_ _ h=>h),(gq 2),(Ie 2 46 λ_ k=>Ai HP.o k 0 _ rfl),(λaF wF F=>by have s47:=F.v 3 47;exact sw (by (go_simp;exact fJ (by omega) (by omega))) rfl),(λaF wF F=>by have s48:=F.v 4 48;exact sw (by (go_simp;exact fJ (by omega) (by omega))) rfl),(λaF wF F=>by have s45:=F.v 1 45;have s49:=F.v 5 49;exact sw (by (go_simp;exact HC.o)) rfl),
      trivial⟩ ?_
    intro u w1 k1 hu;simp only [Bb,Ap,Act.put,Ep,hv hu 0,hv hu 1,hv hu 2,hv hu 3,hv hu 4,hv hu 5,hv hu 6];clear hu;replace K:=Ad (K.o.trans k1);replace HP:=Ad (HP.o.kept k1);replace HA:=Ad (HA.o.kept k1);replace HB:=Ad (HB.o.kept k1);replace H6:=Ad (H6.o.kept k1);replace H7:=Ad (H7.o.kept k1);replace Z6:=Ad (Z6.o.kept k1);replace Z7:=Ad (Z7.o.kept k1);clear k1 C6;cases bb with
    | false =>
      have hG:=HG.o;rw [Af (of_decide_eq_false HC.o)] at hG;have HG2:=Ad hG;clear HG hG HC;go_wp2_with fail;go_roundw
      case rel=>exact ⟨g,jn+1,s',t',A6,A7,j6,c6,j7,c7,by go_num,by omega,HG2.o,O1.o,O2.o,by omega,K.o,HP.o,HA.o,HB.o,H6.o,Z6.o,H7.o,Z7.o⟩
      case measure=>simp [intOf];omega
    | true =>
      have hG:=HG.o;rw [Ak (of_decide_eq_true HC.o)] at hG;obtain rfl:(s',t')=o:=Option.some.inj hG;clear HG HC hG;obtain ⟨-,s0,s1⟩:=HP.o.facts;cases up with
      | false =>
        obtain ⟨-,y0,y1,y2,-⟩:=H6.o.facts;obtain ⟨-,x0,x1,x2,f0,f1,f2⟩:=HB.o.facts;go_wp2_with fail;exact Ct (HB.o.laid _ _ _) rfl rfl rfl ⟨Au K.o (by omega),_,rfl,Z6.o.dyW HB.o (Ah _) (Ag _ _ _) (Aj _) _ _ _⟩
      | true =>
        obtain ⟨o5,ho5⟩:∃ o,o=(Ey s' t').raw:=⟨_,rfl⟩;obtain ⟨s2,hs2⟩:∃ s2,s2=Es p true s' t':=⟨_,rfl⟩;have C7:=Ad (λw1 v u (k:Kept w w1) (hv:DyR w1 v s'.raw) (hu:DyR w1 u t'.raw)=>show Calls _ _ _ w1 (RetE o5 w1) by rw [ho5];exact eh hv hu O1.o O2.o (T.o.kept k));have C8:=Ad (λw1 v (k:Kept w w1) (hv:DyR w1 v o5.v)=>show Calls Tryz.prog 185 #[.agg #[.int .i64 (p:Int),.bool true],v] w1 (RetD s2.raw w1) by rw [hs2];rw [ho5] at hv;exact O6 hv (Ls O1.o O2.o).1 p1 p2 (T.o.kept k));have hres:J5 p true (s',t')=s2:=by rw [hs2];rfl
        have HS2:=Ad hres;clear ho5 hs2 hres;go_wp2_with fail;clear s0 s1
        refine Ih 8 ([(vE (.agg #[.int .i64 (p:Int),.bool true])),(vE (.agg #[.bool s'.neg,.slice A6 j6 c6,.int .i64 s'.e])),(vE (.agg #[.bool t'.neg,.slice A7 j7 c7,.int .i64 t'.e])),(λv wv=>∃ d,v=.tuple #[d,.int .i64 o5.k]/\DyR wv d o5.v),(λv wv=>DyR wv v o5.v),(vE (.int .i64 o5.k)),(λv wv=>DyR wv v o5.v),(λv wv=>DyR wv v s2.raw)])
         ⟨
          (λaF wF F=>by have s2:=F.q 2 (.pointer (some ⟨w.heap.size,0,none⟩));have c0:=Ai HP.o F.kept 0 _ rfl;have c1:=Ai HP.o F.kept 1 _ rfl;exact sv rfl),(E3 6 λ_ k=>c3 H6.o k),(E3 7 λ_ k=>c3 H7.o k),(λaF wF F=>by have s54:=F.v 1 54;have s55:=F.v 2 55;exact sE (C7.o _ _ _ (K.o.trans F.kept) (Z6.o.kept F.kept) (Z7.o.kept F.kept)) λ_ _ h=>h),(λaF wF F=>by have s56:=F.p 3 56;obtain ⟨dd,ee,hh⟩:=s56;exact sv hh),(λaF wF F=>by have s56:=F.p 3 56;exact sw (by obtain ⟨dd,ee,hh⟩:=s56;go_simp) rfl),(λaF wF F=>by have s57:=F.p 4 57;have s58:=F.v 5 58;exact sD (G5 (k:=o5.k) s57) λ_ _ h=>h),(λaF wF F=>by have s53:=F.v 0 53;have s59:=F.p 6 59;exact sD (C8.o _ _ (K.o.trans F.kept) s59) λ_ _ h=>h),
          trivial⟩ ?_
        intro u w1 k1 hu;have p56:=hp hu 3;have p57:=hp hu 4;have p59:=hp hu 6;have p60:=hp hu 7;simp only [Bb,Ap,Act.put,Ep,hv hu 0,hv hu 1,hv hu 2,hv hu 5];clear hu;generalize u 3=v56,u 4=v57,u 6=v59,u 7=v60 at *;obtain ⟨A8,j8,c8,rfl,z1⟩:=Bx p60;clear p56 p57 p59 p60 C7 C8;have hx:=H6.o.kept k1;obtain ⟨-,x0,x1,x2,f0,f1,f2⟩:=hx.facts;go_upto_region 10 with fail;change Code.wp _ _ _ _ (dyW _ b6 _ _ _);have UD:Hid (∀ v r,DyR w1 v r->DyR (dyW w1 b6 (.bool s2.neg) (.slice A8 j8 c8) (.int .i64 s2.e)) v r):=λ_ _ h=>h.dyW hx (Ah _) (Ag _ _ _) (Aj _) _ _ _
        have UB:Hid (∀ b' x y z,Blk w1 b' x y z->¬b'=b6->Blk (dyW w1 b6 (.bool s2.neg) (.slice A8 j8 c8) (.int .i64 s2.e)) b' x y z):=λ_ _ _ _ h hne=>h.laid_other hne _ _ _
        have HX':=Ad (hx.laid (.bool s2.neg) (.slice A8 j8 c8) (.int .i64 s2.e));replace K:=Ad (Au (x:=.bool s2.neg) (y:=.slice A8 j8 c8) (z:=.int .i64 s2.e) (K.o.trans k1) (show w.heap.size<=b6 by omega));replace HP:=Ad ((HP.o.kept k1).dyW (show ¬w.heap.size=b6 by omega) (.bool s2.neg) (.slice A8 j8 c8) (.int .i64 s2.e));replace HA:=Ad (UB.o _ _ _ _ (HA.o.kept k1) (by omega));replace HB:=Ad (UB.o _ _ _ _ (HB.o.kept k1) (by omega));replace H6:=Ad HX'.o;replace Z6:=Ad (UD.o _ _ z1);clear UD UB HX' hx x0 x1 x2 f0 f1 f2 z1 k1;generalize dyW w1 b6 (.bool s2.neg) (.slice A8 j8 c8) (.int .i64 s2.e)=X at *
        obtain ⟨-,y0,y1,y2,-⟩:=H6.o.facts;obtain ⟨-,x0,x1,x2,f0,f1,f2⟩:=HB.o.facts;go_wp2_with fail;exact Ct (HB.o.laid _ _ _) rfl rfl rfl ⟨Au K.o (by omega),_,rfl,by rw [HS2.o];exact Z6.o.dyW HB.o (Ah _) (Ag _ _ _) (Aj _) _ _ _⟩
def fX (w:World) (b o:Nat) (x y z x' y' z':Value):World :=
 (((((w.setCell ⟨b,o,none⟩ x).setCell ⟨b,o+1,none⟩ y).setCell ⟨b,o+2,none⟩ z).setCell ⟨b,o+3,none⟩ x').setCell ⟨b,o+4,none⟩ y').setCell ⟨b,o+5,none⟩ z'
def DRow (w:World) (b:Nat) (l:List RawI):Prop:=∃ cs,w.heap[b]?=some (.cells cs 30 (0,0))/\l.length*6<=cs.size/\(∀ u∈cs.toList,Bv u) /\
 ∀ i a,l[i]?=some a->∃ x y z x' y' z',cs[i*6]?=some x/\cs[i*6+1]?=some y/\cs[i*6+2]?=some z/\cs[i*6+3]?=some x'/\cs[i*6+4]?=some y'/\cs[i*6+5]?=some z'/\IvR w (.agg #[x,y,z,x',y',z']) a
def Fr (v:Value) (base:Nat):Prop:=∀ g,v.ownBlock=some g->base<=g
def Lt (v:Value) (ub:Nat):Prop:=∀ g,v.ownBlock=some g->g<ub
def AllR (w:World) (ball n ub:Nat) (rows:List (List RawI))   : Prop:=∃ cs:Array Value,w.heap[ball]?=some (.cells cs 31 (0,0))/\cs.size=n/\(∀ u∈cs.toList,∃ A a c,u=.slice A a c) /\
 ∀ (i:Nat) (r:List RawI),rows[i]?=some r->∃ s:Value,cs[i]?=some s/\IvS w s r/\Fr s (ball+1)/\Lt s ub
def two:Iv:=pt dt
def Rs (z:Int) (e:Int):Dy:=(Ck (decide (z<0)) z.natAbs e).v
def se (z:Int) (e:Int):Prop:=z.natAbs<2^60/\-40<=e/\e<=0
theorem qy (z:Int):sq (decide (z<0)) z.natAbs=(z:Rat):=by
 unfold sq;by_cases h:z<0
 ·rw [Ak (by simpa using h)];obtain ⟨n,rfl⟩:∃ n:Nat,z=-(n:Int):=⟨z.natAbs,by omega⟩;rw [Int.natAbs_neg,Int.natAbs_natCast,Rat.intCast_neg];rfl
 ·rw [Af (by simpa using h)];obtain ⟨n,rfl⟩:∃ n:Nat,z=(n:Int):=⟨z.natAbs,by omega⟩;rw [Int.natAbs_natCast];rfl
theorem mj {z:Int}(h:se z e):Ck (decide (z<0)) z.natAbs e=⟨Rs z e,0⟩:=by
 obtain ⟨h1,h2,h3⟩:=h;have hb:=Gl _ _ h1;have:=(cV (neg:=decide (z<0)) (n:=z.natAbs) (e:=e) (by omega) (by omega) (by omega)).1;unfold Rs;generalize Ck (decide (z<0)) z.natAbs e=o at *;cases o with | mk v k=>simp only at this;subst this;rfl
theorem Yi (z e:Int):(Rs z e).Ok:=(E6 _ _ _).1
theorem oC {z:Int}(h:se z e):(Rs z e).q=(z:Rat)*pw e:=by
 have:=Lx (neg:=decide (z<0)) (n:=z.natAbs) (e:=e) (by rw [mj h]);rw [qy] at this;exact this
end Go.Proofs.YtabjjdicffcolaaGreatDoor
