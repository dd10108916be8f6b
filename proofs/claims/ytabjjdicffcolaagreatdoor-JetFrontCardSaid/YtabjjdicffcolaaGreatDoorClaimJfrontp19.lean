/- Words and contracts, part 19. -/
import Derived.Test.YtabjjdicffcolaaGreatDoorClaimJfrontp16
import Derived.Test.YtabjjdicffcolaaGreatDoorClaimJfrontp18
set_option maxRecDepth 100000
set_option maxHeartbeats 0
namespace Go.Proofs.YtabjjdicffcolaaGreatDoor
open Go.RowKit
variable {cs:Array Value} {l10 l14 l16 tm:Bool} {e:En} {ov:Iv->Nat->Outc Iv} {o rows:List (List RawI)} {outs:List Int} {ls:List Ln} {X ns:List Nat} {c9 l out q time x:List RawI} {b br bx c hi i k m n p:Nat} {a r t:RawI} {T:TypeId} {c0 t0 t1 t2 t3 t4 t5 u v vi vq vt vx x' y' z':Value} {w w':World}
def Nv (a:RawI):Bool:=decide (a.lo.m.length<=6)&&decide (a.hi.m.length<=6)
def S5 (l:List RawI):Bool:=decide (l.length<=8)&&l.all Nv
def Rz (ls:List Ln) (outs:List Int):Bool:=decide (ls.length<=40)&&decide (outs.length<=12)&&ls.all λl=>Nv l.k
theorem fg {x:RawI}(h:l[i]?=some x)(hf:Nv x=false):S5 l=false:=by
 unfold S5;have h2:l.all Nv=false:=by
  cases h3:l.all Nv with
  | false=>rfl
  | true=>have:=List.all_eq_true.1 h3 x (Dc h);rw [hf] at this;cases this
 rw [h2,Bool.and_false]
theorem jc (h:l.length<=8)(hf:∀ (i:Nat) x,l[i]?=some x->Nv x=true):S5 l=true:=by
 unfold S5;rw [decide_eq_true h,Bool.true_and,List.all_eq_true];intro x hx;obtain ⟨i,hi⟩:=List.getElem?_of_mem hx;exact hf i x hi
theorem IvAt.lens {o:Nat}(h:IvAt w b o a):∃ x A c z x' A' c' z',w.cell? ⟨b,o,none⟩=some x/\w.cell? ⟨b,o+1,none⟩=some (.slice A a.lo.m.length c)/\w.cell? ⟨b,o+2,none⟩=some z /\
 w.cell? ⟨b,o+3,none⟩=some x'/\w.cell? ⟨b,o+4,none⟩=some (.slice A' a.hi.m.length c')/\w.cell? ⟨b,o+5,none⟩=some z':=by
 obtain ⟨y0,y1,y2,y3,y4,y5,g0,g1,g2,g3,g4,g5,hI⟩:=h;obtain ⟨x0,x1,x2,x3,x4,x5,e,⟨s,e1,hs,-,-⟩,⟨s',e2,hs',-,-⟩⟩:=hI;obtain ⟨-,A,c,rfl,-,-⟩:=hs;obtain ⟨-,A',c',rfl,-,-⟩:=hs';injection e with e;injection e with e
 injection e1 with e1;injection e1 with e1
 injection e2 with e2;injection e2 with e2
 simp only [List.cons.injEq,and_true] at e e1 e2;obtain ⟨rfl,rfl,rfl,rfl,rfl,rfl⟩:=e;obtain ⟨rfl,rfl,rfl⟩:=e1;obtain ⟨rfl,rfl,rfl⟩:=e2;exact ⟨_,A,c,_,_,A',c',_,g0,g1,g2,g3,g4,g5⟩
theorem kB (hv:IvS w v l)(hn:l.length<=1000000000000000)(hl:∀ a∈l,a.lens 17592186044416):Calls Tryz.prog 26 #[v] w (RetK (.bool (S5 l)) w):=by
 obtain ⟨A,c,rfl,hc,hA⟩:=hv;have HA:=Ad hA;have HL:=Ad hl;obtain ⟨R,hR⟩:∃ R,S5 l=R:=⟨_,rfl⟩;rw [hR];have HR:=Ad hR;clear hA hR hl;obtain ⟨n,hn'⟩:∃ n,n=l.length:=⟨_,rfl⟩;rw [<-hn'] at hn hc HA ⊢;have HN:=Ad hn';clear hn';by_cases h8:n<=8
 ·have t1 : decide ((8 : Int) < (n : Int)) = false := by simp; omega
  go_enter Tryz.func26,Tryz.ntmps26;go_wp2_with fail;clear t1
  go_loopw [3] (λt wr=>∃ k:Nat,k<=n/\t=.int .i64 k/\(∀ i x,i<k->l[i]?=some x->Nv x=true)/\Kept w wr) (λt _=>(n-intOf t).toNat)
  case atStart=>exact ⟨0,Nat.zero_le _,rfl,λi a hi=>absurd hi (Nat.not_lt_zero _),Below.refl _ _⟩
  case round =>
   obtain ⟨k,hk,rfl,hall,hKr⟩:=hrel;have KR:=Ad hKr;have AL:=Ad hall;clear hKr hall;by_cases hlt:k<n
   ·obtain ⟨b,off,rfl,hd⟩:=HA.out (by omega);obtain ⟨x,hx⟩:∃ x,l[k]?=some x:=⟨_,Cd (by have:=HN.out;omega)⟩;have hat:=(hd k x hx).kept KR.out;obtain ⟨y0,A1,q1,y2,y3,A2,q2,y5,g0,g1,g2,g3,g4,g5⟩:=hat.lens;have HX:=Ad hx;obtain ⟨l1,l2⟩:=HL.out x (Dc hx);obtain ⟨fx,hfx⟩:∃ f,Nv x=f:=⟨_,rfl⟩;have HF:=Ad hfx;unfold Nv at hfx;generalize x.lo.m.length=n1,x.hi.m.length=n2 at *;clear hd hx hat g0 g2 g3 g5;by_cases f1:n1≤6
    ·have u1:decide ((6:Int)<(n1:Int))=false:=by simp;omega
     by_cases f2:n2<=6
     ·have u2:decide ((6:Int)<(n2:Int))=false:=by simp;omega
      obtain rfl:fx=true:=by rw [<-hfx];simp [f1,f2]
      clear hfx f1 f2;go_wp2_with fail;go_roundw
      case rel =>
       refine ⟨k+1,by omega,by go_num,λi a hi ha'=>?_,KR.o⟩;by_cases h2:i=k
       ·subst h2;rw [HX.o] at ha';cases ha';exact HF.o
       ·exact AL.o i a (by omega) ha'
      case measure=>simp only [intOf];omega
     ·have u2:decide ((6:Int)<(n2:Int))=true:=by simp;omega
      obtain rfl:fx=false:=by rw [<-hfx];simp [f2]
      clear hfx f1 f2;go_wp2_with fail;go_ret;exact ⟨by rw [<-HR.o,fg HX.o HF.o];rfl,KR.o⟩
    ·have u1:decide ((6:Int)<(n1:Int))=true:=by simp;omega
     obtain rfl:fx=false:=by rw [<-hfx];simp [f1]
     clear hfx f1;go_wp2_with fail;go_ret;exact ⟨by rw [<-HR.o,fg HX.o HF.o];rfl,KR.o⟩
   ·obtain rfl:k=n:=by omega
    go_wp2_with fail;go_ret;exact ⟨by rw [<-HR.o,jc (by have:=HN.o;omega) (λi x hx=>AL.o i x (by have:=(Ed hx).1;have:=HN.o;omega) hx)];rfl,KR.o⟩
 ·have t1:decide ((8:Int)<(n:Int))=true:=by simp;omega
  go_enter Tryz.func26,Tryz.ntmps26;go_wp2_with fail;go_ret;exact ⟨by rw [<-HR.o];unfold S5;rw [decide_eq_false (by have:=HN.o;omega)];rfl,Below.refl _ _⟩
theorem fh {x:Ln}(h:ls[i]?=some x)(hf:Nv x.k=false):Rz ls outs=false:=by
 unfold Rz;have h2:(ls.all λl=>Nv l.k)=false:=by
  cases h3:ls.all λl=>Nv l.k with
  | false=>rfl
  | true=>have:=List.all_eq_true.1 h3 x (Dc h);rw [hf] at this;cases this
 rw [h2,Bool.and_false]
theorem jd (h:ls.length<=40)(h':outs.length<=12)(hf:∀ (i:Nat) x,ls[i]?=some x->Nv x.k=true):Rz ls outs=true:=by
 unfold Rz;rw [decide_eq_true h,decide_eq_true h',Bool.true_and,Bool.true_and,List.all_eq_true];intro x hx;obtain ⟨i,hi⟩:=List.getElem?_of_mem hx;exact hf i x hi
theorem cT (h:Rz ls outs=true):ls.length<=40/\outs.length<=12/\∀ l∈ls,l.k.lens 6:=by
 unfold Rz Nv at h;simp only [Bool.and_eq_true,decide_eq_true_eq,List.all_eq_true] at h;exact ⟨h.1.1,h.1.2,λl hl=>h.2 l hl⟩
theorem Uj (h:S5 l=true):l.length<=8/\∀ a∈l,a.lens 6:=by
 unfold S5 Nv at h;simp only [Bool.and_eq_true,decide_eq_true_eq,List.all_eq_true] at h;exact ⟨h.1,λl hl=>h.2 l hl⟩
theorem rC (hv:TpR w v ls outs)(hn:ls.length≤1000000000000000)(hno:outs.length≤1000000000000000)(hl:Ru   ls) :
 Calls Tryz.prog 11 #[v] w (RetK (.bool (Rz ls outs)) w):=by
 obtain ⟨s,o,rfl,hls,hou⟩:=hv;obtain ⟨A,c,rfl,hc,hA⟩:=hls;obtain ⟨B,d,rfl,hd,-⟩:=hou;have HA:=Ad hA;have HL:=Ad hl;obtain ⟨W,hW,kW,hb,lW⟩:=rj w (.slice A ls.length c) (.slice B outs.length d);have HW:=Ad hW;have K:=Ad kW;have HB:=Ad hb;obtain ⟨c0,c1⟩:=Ez hb;obtain ⟨R,hR⟩:∃ R,Rz ls outs=R:=⟨_,rfl⟩;rw [hR];have HR:=Ad hR;clear hA hR hl hW kW hb;obtain ⟨n,hn'⟩:∃ n,n=ls.length:=⟨_,rfl⟩;obtain ⟨no,hno'⟩:∃ n,n=outs.length:=⟨_,rfl⟩;rw [<-hn'] at hn hc HA HW HB ⊢;rw [<-hn'] at c0;rw [<-hno'] at hno hd HW HB ⊢;rw [<-hno'] at c1;have HN:=Ad hn';have HNO:=Ad hno';clear hn' hno';by_cases h8:n<=40
 ·have t1 : decide ((40 : Int) < (n : Int)) = false := by simp; omega
  by_cases h9:no<=12
  ·have t2 : decide ((12 : Int) < (no : Int)) = false := by simp; omega
   go_enter Tryz.func11,Tryz.ntmps11;go_upto_region 1 with fail;rw [<-HW.o];go_wp2_with fail;clear t1 t2 c0 c1
   go_loopw [3] (λt wr=>∃ k:Nat,k<=n/\t=.int .i64 k/\(∀ i x,i<k->ls[i]?=some x->Nv x.k=true)/\Kept W wr) (λt _=>(n-intOf t).toNat)
   case atStart=>exact ⟨0,Nat.zero_le _,rfl,λi a hi=>absurd hi (Nat.not_lt_zero _),Below.refl _ _⟩
   case round =>
    obtain ⟨k,hk,rfl,hall,hKr⟩:=hrel;have KR:=Ad hKr;have AL:=Ad hall;obtain ⟨c0,-⟩:=Ez (Ay HB.o hKr);clear hKr hall;by_cases hlt:k<n
    ·obtain ⟨b,off,rfl,hd⟩:=HA.out (by omega);obtain ⟨x,hx⟩:∃ x,ls[k]?=some x:=⟨_,Cd (by have:=HN.out;omega)⟩;have hat:=(hd k x hx).kept (K.out.trans KR.out);obtain ⟨y0,A1,q1,y2,y3,A2,q2,y5,g0,g1,g2,g3,g4,g5⟩:=hat.2.2.2.lens;have HX:=Ad hx;obtain ⟨-,-,l1,l2⟩:=HL.out x (Dc hx);obtain ⟨fx,hfx⟩:∃ f,Nv x.k=f:=⟨_,rfl⟩;have HF:=Ad hfx;unfold Nv at hfx;generalize x.k.lo.m.length=n1,x.k.hi.m.length=n2 at *;clear hd hx hat g0 g2 g3 g5;by_cases f1:n1≤6
     ·have u1:decide ((6:Int)<(n1:Int))=false:=by simp;omega
      by_cases f2:n2<=6
      ·have u2:decide ((6:Int)<(n2:Int))=false:=by simp;omega
       obtain rfl:fx=true:=by rw [<-hfx];simp [f1,f2]
       clear hfx f1 f2;go_wp2_with fail;go_roundw
       case rel =>
        refine ⟨k+1,by omega,by go_num,λi a hi ha'=>?_,KR.o⟩;by_cases h2:i=k
        ·subst h2;rw [HX.o] at ha';cases ha';exact HF.o
        ·exact AL.o i a (by omega) ha'
       case measure=>simp only [intOf];omega
      ·have u2:decide ((6:Int)<(n2:Int))=true:=by simp;omega
       obtain rfl:fx=false:=by rw [<-hfx];simp [f2]
       clear hfx f1 f2;go_wp2_with fail;go_ret;exact ⟨by rw [<-HR.o,fh HX.o HF.o];rfl,K.o.trans KR.o⟩
     ·have u1:decide ((6:Int)<(n1:Int))=true:=by simp;omega
      obtain rfl:fx=false:=by rw [<-hfx];simp [f1]
      clear hfx f1;go_wp2_with fail;go_ret;exact ⟨by rw [<-HR.o,fh HX.o HF.o];rfl,K.o.trans KR.o⟩
    ·obtain rfl:k=n:=by omega
     go_wp2_with fail;go_ret;exact ⟨by rw [<-HR.o,jd (by have:=HN.o;omega) (by have:=HNO.o;omega) (λi x hx=>AL.o i x (by have:=(Ed hx).1;have:=HN.o;omega) hx)];rfl,K.o.trans KR.o⟩
  ·have t2:decide ((12:Int)<(no:Int))=true:=by simp;omega
   go_enter Tryz.func11,Tryz.ntmps11;go_upto_region 1 with fail;rw [<-HW.o];go_wp2_with fail;go_ret;exact ⟨by rw [<-HR.o];unfold Rz;rw [decide_eq_false (p:=outs.length<=12) (by have:=HNO.o;omega),Bool.and_false];rfl,K.o⟩
 ·have t1:decide ((40:Int)<(n:Int))=true:=by simp;omega
  go_enter Tryz.func11,Tryz.ntmps11;go_upto_region 1 with fail;rw [<-HW.o];go_wp2_with fail;go_ret;exact ⟨by rw [<-HR.o];unfold Rz;rw [decide_eq_false (p:=ls.length<=40) (by have:=HN.o;omega)];rfl,K.o⟩
theorem rh (w:World)(x0 x1 x2 x3 x4 x5 x6 x7 x8:Value):∃ W,W=w.alloc (.cells #[x0,x1,x2,x3,x4,x5,x6,x7,x8] 33)/\Kept w W/\W.heap[w.heap.size]?=some (.cells #[x0,x1,x2,x3,x4,x5,x6,x7,x8] 33 (0,0))/\w.heap.size<W.heap.size :=
 ⟨_,rfl,Ab _ _,heap_alloc_new _ _,by simp⟩
theorem mG {x0 x1 x2 x3 x4 x5:Value}(h:IvR w (.agg #[x0,x1,x2,x3,x4,x5]) a) :
 IvS (w.alloc (.cells #[x0,x1,x2,x3,x4,x5] 30)) (.slice (some ⟨w.heap.size,0,none⟩) 1 1) [a]:=by
 refine ⟨some ⟨w.heap.size,0,none⟩,1,rfl,Aq _,λ_=>⟨_,0,rfl,λi r hi=>?_⟩⟩;rcases i with _ | i
 ·cases hi;have hb:=heap_alloc_new w (.cells #[x0,x1,x2,x3,x4,x5] 30);exact ⟨x0,x1,x2,x3,x4,x5,Ae hb 0 _ rfl,Ae hb 1 _ rfl,Ae hb 2 _ rfl,Ae hb 3 _ rfl,Ae hb 4 _ rfl,Ae hb 5 _ rfl,h.kept (Ab _ _)⟩
 ·simp at hi
theorem rl (hv:IvS w v l)(hu:IvS w u l)(hn:l.length<=1000000)(hl:∀ a∈l,a.lens 1000000):Calls Tryz.prog 18 #[v,u] w (RetK (.bool true) w):=by
 obtain ⟨A,c,rfl,hc,hA⟩:=hv;obtain ⟨B,d,rfl,hd,hB⟩:=hu;have HA:=Ad hA;have HB:=Ad hB;have HL:=Ad hl;clear hA hB hl;obtain ⟨n,hn'⟩:∃ n,n=l.length:=⟨_,rfl⟩;rw [<-hn'] at hn hc hd HA HB ⊢;have HN:=Ad hn';clear hn';go_enter Tryz.func18,Tryz.ntmps18;go_wp2_with fail
 go_loopw [5] (λt wr=>∃ k:Nat,k<=n/\t=.int .i64 k/\Kept w wr) (λt _=>(n-intOf t).toNat)
 case atStart=>exact ⟨0,Nat.zero_le _,rfl,Below.refl _ _⟩
 case round =>
  obtain ⟨k,hk,rfl,hKr⟩:=hrel;have KR:=Ad hKr;clear hKr;by_cases hlt:k<n
  ·obtain ⟨b,off,rfl,hd1⟩:=HA.out (by omega);obtain ⟨b',off',rfl,hd2⟩:=HB.out (by omega);obtain ⟨x,hx⟩:∃ x,l[k]?=some x:=⟨_,Cd (by have:=HN.out;omega)⟩;have h1:=(hd1 k x hx).kept KR.out;have h2:=(hd2 k x hx).kept KR.out;have lx:=HL.out x (Dc hx);have I1:=Ad (fun w1 (q:Kept wr w1)=>h1.kept q);have I2:=Ad (fun w1 (q:Kept wr w1)=>h2.kept q);have SC:=Ad (fun w1 v u (hv:IvR w1 v x) (hu:IvR w1 u x)=>bj hv hu lx);have HI:=Ad hlt;clear hd1 hd2 hx h1 h2 lx;go_wp2_with fail
   refine Sv 10 ([(vE (.slice (some ⟨b,off,none⟩) n c)),(vE (.int .i64 (k:Int))),(vE (.pointer (some ⟨b,off+k*6,none⟩))),(λv wv=>IvR wv v x),(vE (.slice (some ⟨b',off',none⟩) n d)),(vE (.int .i64 (k:Int))),(vE (.pointer (some ⟨b',off'+k*6,none⟩))),(λv wv=>IvR wv v x),(vE (.bool true)),(vE (.bool false))])
    ⟨
     (gq 0),(gq 5),(λaF wF F=>by have s17:=F.v 0 17;have s18:=F.v 1 18;exact sw (by (have hi9:=HI.o;first | (go_simp;done) | (go_simp;omega))) rfl),(λaF wF F=>by have s19:=F.v 2 19;obtain ⟨xx,yy,zz,xx',yy',zz',h0,h1,h2,h3,h4,h5,hI⟩:=(I1.o _ F.kept);exact sv hI),(gq 1),(gq 5),(λaF wF F=>by have s21:=F.v 4 21;have s22:=F.v 5 22;exact sw (by (have hi9:=HI.o;first | (go_simp;done) | (go_simp;omega))) rfl),(λaF wF F=>by have s23:=F.v 6 23;obtain ⟨xx,yy,zz,xx',yy',zz',h0,h1,h2,h3,h4,h5,hI⟩:=(I2.o _ F.kept);exact sv hI),(λaF wF F=>by have s20:=F.p 3 20;have s24:=F.p 7 24;exact sK (SC.o _ _ _ s20 s24) λ_ _ h=>h),(gv 8 25),
     trivial⟩ ?_
   intro u w2 q2 hu;have p20:=hp hu 3;have p24:=hp hu 7;simp only [Bb,Ap,Act.put,Ep,hv hu 0,hv hu 1,hv hu 2,hv hu 4,hv hu 5,hv hu 6,hv hu 8,hv hu 9];clear hu;generalize u 3=v20,u 7=v24 at *;clear p20 p24;have K2:=Ad (KR.o.trans q2);clear q2;go_wp2_with fail;go_roundw
   case rel=>exact ⟨k+1,by have:=HI.o;omega,by go_num,K2.o⟩
   case measure=>simp only [intOf];have:=HI.o;omega
  ·obtain rfl:k=n:=by omega
   go_wp2_with fail;go_ret;exact ⟨rfl,KR.o⟩
theorem Ql (ov:Iv->Nat->Outc Iv)(e:En)(p:Nat):∀ (ls:List Ln) (out:List RawI),(Ec ov e p out ls).k=0->(Ec ov e p out ls).v.length=out.length+ls.length
 | [],out,_=>rfl
 | l :: ls, out, h => by
   rw [Ec] at h ⊢;by_cases hk:(Dm ov e p out l).k=0
   ·rw [Ak hk] at h ⊢;rw [Ql ov e p ls _ h];simp;omega
   ·rw [Af hk] at h;exact absurd h hk
theorem dS {p:Int}(h:(Lu ov ls outs e p).k=0) :
 (1<=p/\p<=300/\Iy ls outs e.x.length e.u.length e.p.length=true/\Uw e=true)/\(Lu ov ls outs e p).v.length=ls.length/\Lu ov ls outs e p=Ec ov e p.toNat [] ls:=by
 unfold Lu at h ⊢;by_cases hg:1<=p/\p<=300/\Iy ls outs e.x.length e.u.length e.p.length=true/\Uw e=true
 ·rw [Ak hg] at h ⊢;refine ⟨hg,?_,rfl⟩;rw [Ql _ _ _ _ _ h];simp
 ·rw [Af hg] at h;cases h
theorem gp {x u p:Int}(h:Iy ls outs x u p=true):outs.length<=200/\∀ n∈outs,0<=n/\n<ls.length:=by
 unfold Iy at h;simp only [Bool.and_eq_true,decide_eq_true_eq,List.all_eq_true] at h;refine ⟨h.1.1.2,λn hn=>?_⟩;have:=h.2 n hn;unfold Cr at this;simpa using this
theorem pK {S:Int->Prop}{ve:Value}{p:Int}(hv:TpR w vt ls outs)(he:EnR w ve e)(hok:Ru ls)(hle:ch e)(hn:ls.length<=1000000000)(hno:outs.length<=1000000000)
 (hT:Tab w) (hov:∀ l∈ls,l.op=13->qJ ov) (O:H8 S) (hS:∀ l∈ls,6<=l.op->l.op<=12->S l.op) :
 Calls Tryz.prog 17 #[vt,ve,.int .i64 p] w (ix (eR ov ls outs e p) w):=by
 have LC:=Ad (λw1 (k:Kept w w1)=>mR (p:=p) (hv.kept k) (he.kept k) hok hle hn hno (hT.kept k) hov O hS);clear O hS;obtain ⟨s,o,rfl,hls,hou⟩:=hv;obtain ⟨x0,x1,x2,x3,x4,x5,sx,su,sp,rfl,ht,hx,hu,hp⟩:=he;have HO:=Ad hou;obtain ⟨A,c,rfl,hc,-⟩:=hls;obtain ⟨B,d,rfl,-,-⟩:=hou;obtain ⟨AX,cx,rfl,-,-⟩:=hx;obtain ⟨AU,cu,rfl,-,-⟩:=hu;obtain ⟨AP,cp,rfl,-,-⟩:=hp;obtain ⟨W,hW,kW,hb,hb',lW⟩:=iG w (.slice A ls.length c) (.slice B outs.length d) x0 x1 x2 x3 x4 x5 (.slice AX e.x.length cx) (.slice AU e.u.length cu) (.slice AP e.p.length cp);have HW:=Ad hW;have K:=Ad kW;have HB:=Ad hb;obtain ⟨c0,c1⟩:=Ez hb
 obtain ⟨d0,d1,d2,d3,d4,d5,d6,d7,d8⟩:=Cp hb';clear hok hle hW kW hb hb' hT ht hov;obtain ⟨T,hTI⟩:∃ T,Lu ov ls outs e p=T:=⟨_,rfl⟩;rw [hTI] at LC;obtain ⟨G,hGI⟩:∃ G,eR ov ls outs e p=G:=⟨_,rfl⟩;rw [hGI];have hgood:T.k=0->outs.length<=200/\(∀ n∈outs,0<=n/\n<ls.length)/\T.v.length=ls.length:=λhk=>by
  rw [<-hTI] at hk ⊢;have h:=dS hk;have h2:=gp h.1.2.2.1;exact ⟨h2.1,h2.2,h.2.1⟩
 have HG:=Ad hgood;have HE:Hid (G=if T.k=0 then ⟨outs.map λn=>T.v.getD n.toNat rzI,0⟩ else ⟨[],T.k⟩):=Ad (by rw [<-hGI,<-hTI];rfl);clear hTI hGI hgood;generalize hnl:ls.length=n,hnO:outs.length=no at *;have HN:=Ad hnl;have HNO:=Ad hnO;clear hnl hnO;go_enter Tryz.func17,Tryz.ntmps17;go_upto_region 1 with fail;rw [<-HW.o];go_wp2_with fail;refine (LC.o _ K.o).mono ?_;rintro e' w1 ⟨q,v,rfl,hvs⟩;have HVS:=Ad hvs;obtain ⟨AV,cv,rfl,hcv,-⟩:=hvs;have K1:=Ad (K.o.trans q);obtain ⟨t0,t1⟩:=Ez (Ay HB.o q);clear c0 c1 d0 d1 d2 d3 d4 d5 d6 d7 d8 q HW LC HB;simp only []
 by_cases hk:T.k=0
 ·have gk:(T.k != 0)=false:=by simp [hk]
  obtain ⟨h200,hbel,hvl⟩:=HG.o hk;have HBEL:=Ad hbel;have HVL:=Ad hvl;have HE2:Hid (G=⟨outs.map λn=>T.v.getD n.toNat rzI,0⟩):=Ad (by have:=HE.o;rwa [Ak hk] at this);clear hbel hvl HE HG;rw [HVL.o] at hcv;have hkk:=Ad hk;clear hk;go_upto_region 5 with fail;go_wp2_with fail
  go_loopw [10,26] (λv t wr=>∃ (i:Nat) (xs:List Value),i<=no/\t=.int .i64 i/\OwnI wr w1.heap.size v ((outs.take i).map λn=>T.v.getD n.toNat rzI) xs/\Kept w1 wr) (λ_ t _=>(no-intOf t).toNat)
  case atStart=>exact ⟨0,[],Nat.zero_le _,rfl,OwnI.nil _ _,Below.refl _ _⟩
  case round =>
   obtain ⟨i,xs,hi,rfl,hown,hkr⟩:=hrel;have OW:=Ad hown;have KR:=Ad hkr;clear hown hkr;by_cases hin:i<no
   ·obtain ⟨z,hz⟩:∃ z,outs[i]?=some z:=⟨_,Cd (by have:=HNO.out;omega)⟩;obtain ⟨z1,z2⟩:=HBEL.out z (Dc hz);obtain ⟨kz,rfl⟩:∃ kz:Nat,z=(kz:Int):=⟨z.toNat,by omega⟩;have hkz:kz<T.v.length:=by have:=HVL.out;omega
    obtain ⟨B',d',ed,-,hB⟩:=(HO.o.kept (K1.o.trans KR.o));injection ed with ed1 ed2 ed3
    subst ed1;obtain ⟨bo,oo',rfl,ho⟩:=hB (by have:=HNO.o;omega);have ho0:=ho i _ hz;obtain ⟨bV,oV,ea,rfl,-,hea,hata⟩:=HVS.o.at hkz;obtain ⟨p0,p1',p2',p3,p4,p5,s0,s1,s2,s3,s4,s5,hIa⟩:=hata.kept KR.o;have IA:=Ad hIa;have htk:(outs.take (i+1)).map (λn=>T.v.getD n.toNat rzI)=(outs.take i).map (λn=>T.v.getD n.toNat rzI)++[ea]:=by
     rw [List.take_add_one,hz,List.map_append];simp only [Option.toList_some,List.map_cons,List.map_nil,Int.toNat_natCast,Da,hea,Option.getD_some]
    have HTK:=Ad htk;have lrows:((outs.take i).map λn=>T.v.getD n.toNat rzI).length<=1000:=by rw [List.length_map,List.length_take];omega
    have lbase:=KR.o.size;clear ho hB ed2 ed3 hz z1 z2 hea hata hIa htk
    go_wp2_with (at_builtin;refine Ja rfl (.tmp 30) (.tmp 35) rfl rfl (OW.o.kept (Ab _ _)) (IA.o.kept (Ab _ _)) (Ea _ _ _ _ _ _ _) rfl lrows (Bp lbase (by simp)) ?_;intro v' X' OX' gX')
    have K':=Ad (OwnI.grown_kept (OW.o.kept (Ab _ _)) (KR.o.trans (Ab _ _)) gX');have OX:=Ad OX';clear s0 s1 s2 s3 s4 s5 gX' OX' ho0;go_roundw
    case rel =>
     have h9:=OX.o;rw [<-HTK.o] at h9;exact ⟨i+1,_,by omega,by go_num,h9,K'.o⟩
    case measure=>simp only [intOf];omega
   ·obtain rfl:no=i:=by omega
    go_wp2_with fail
    go_ret2
    have h2:=HE2.o;subst h2;refine ⟨K1.o.trans KR.o,_,rfl,?_⟩;have h:=OW.o.ivS;rwa [Fq (by have:=HNO.o;omega)] at h
 ·have gk:(T.k != 0)=true:=by simp [hk]
  have h2:G=⟨[],T.k⟩:=by have:=HE.o;rwa [Af hk] at this
  go_wp2_with fail
  go_ret2
  subst h2;exact ⟨K1.o,_,rfl,Lk _⟩
def Sz (p:Nat) (v:Iv):Prop:=Fits p v.lo.q/\Fits p v.hi.q
theorem ac {a b:Dy}(p1:1<=p)(hk:(Gp (Dj a p false) (Dj b p true)).k=0):Sz p (Gp (Dj a p false) (Dj b p true)).v:=by
 obtain ⟨h1,h2,h3⟩:=Mz hk;rw [h3];exact ⟨(Fi p1 h1).fits,(Ib p1 h2).fits⟩
theorem Nh {a:Iv}(p1:1<=p)(hk:(Bk a p).k=0):Sz p (Bk a p).v:=ac p1 hk
theorem gY {a:Iv}(p1:1<=p)(oa:a.Ok)(hk:(Gh a p).k=0):Sz p (Gh a p).v:=by
 unfold Gh at hk ⊢;by_cases hs:sg a.lo<0
 ·rw [Ak hs] at hk;exact absurd hk (by decide)
 ·rw [Af hs] at hk ⊢;obtain ⟨n1,n2⟩:=Xp oa hs;obtain ⟨h1,h2,h3⟩:=Mz hk;rw [h3];exact ⟨(Vb p1 n1 h1).fits,(aZ p1 n2 h2).fits⟩
theorem ke {op:Int}{a b:Iv}(hv:∀ a,a.Ok->(ov a p).k=0->Sz p (ov a p).v)(p1:1<=p)(oa:a.Ok)(ob:b.Ok)(hk:(Ip ov op a b p).k=0):Sz p (Ip ov op a b p).v:=by
 unfold Ip at hk ⊢;by_cases h6:op=6
 ·rw [Ak h6] at hk ⊢;exact ⟨(Wt p1 hk).1.fits,(Wt p1 hk).2.fits⟩
 rw [Af h6] at hk ⊢;by_cases h7:op=7
 ·rw [Ak h7] at hk ⊢;exact ⟨(Xv p1 hk).1.fits,(Xv p1 hk).2.fits⟩
 rw [Af h7] at hk ⊢;by_cases h8:op=8
 ·rw [Ak h8] at hk ⊢;obtain ⟨L,H,hL,hH,-⟩:=gy p1 hk;exact ⟨hL.fits,hH.fits⟩
 rw [Af h8] at hk ⊢;by_cases h9:op=9
 ·rw [Ak h9] at hk ⊢;obtain ⟨-,⟨i,j,hL⟩,⟨i',j',hH⟩,-⟩:=W3 ob p1 hk;exact ⟨hL.fits,hH.fits⟩
 rw [Af h9] at hk ⊢;by_cases h10:op=10
 ·rw [Ak h10] at hk ⊢;exact ac p1 hk
 rw [Af h10] at hk ⊢;by_cases h11:op=11
 ·rw [Ak h11] at hk ⊢;obtain ⟨L,H,hL,hH,-⟩:=gV p1 hk;exact ⟨hL.fits,hH.fits⟩
 rw [Af h11] at hk ⊢;by_cases h12:op=12
 ·rw [Ak h12] at hk ⊢;exact gY p1 oa hk
 rw [Af h12] at hk ⊢;exact hv a oa hk
theorem div_one {v:Iv}(ok:v.Ok)(p1:1<=p)(f:Sz p v)(hk:(Cm v (Fm 1) p).k=0):(Cm v (Fm 1) p).v=v:=by
 have o1:(Fm 1).Ok:=P5 (E6 _ _ _).1;have e1:(Ck false 1 0).v.q=1:=by
  have:=Lx (neg:=false) (n:=1) (e:=0) (by decide +kernel);rw [this];simp [sq,F3]
 have en:∀ j,(S0 (Fm 1) j).q=1:=λj=>by cases j<;>exact e1
 obtain ⟨-,⟨i,j,hL⟩,⟨i',j',hH⟩,aL,aH⟩:=W3 o1 p1 hk;have ov:=(Kd o1 p1 (a:=v) (p:=p)).1;have d1:∀ x:Rat,x/1=x:=λx=>by grind
 rw [en,d1] at hL hH;have fe:∀ i,Fits p (S0 v i).q:=λi=>by
  cases i
  ·exact f.1
  ·exact f.2
 have ve:∀ i,v.lo.q<=(S0 v i).q/\(S0 v i).q<=v.hi.q:=λi=>by
  cases i
  ·exact ⟨Rat.le_refl,ok.le⟩
  ·exact ⟨ok.le,Rat.le_refl⟩
 have eL:=hL.unique (IsDown.of_fits (fe i));have eH:=hH.unique (IsUp.of_fits (fe i'));have bL:(Cm v (Fm 1) p).v.lo.q<=v.lo.q:=by
  obtain ⟨d,hd,hle⟩:=aL false false;rw [en,d1] at hd;have:=hd.le;exact Rat.le_trans hle this
 have bH:v.hi.q<=(Cm v (Fm 1) p).v.hi.q:=by
  obtain ⟨d,hd,hle⟩:=aH true false;rw [en,d1] at hd;have:=hd.le;exact Rat.le_trans this hle
 have q1:(Cm v (Fm 1) p).v.lo.q=v.lo.q:=Rat.le_antisymm bL (by rw [eL];exact (ve i).1);have q2:(Cm v (Fm 1) p).v.hi.q=v.hi.q:=Rat.le_antisymm (by rw [eH];exact (ve i').2) bH;have l1:=kt ov.lo ok.lo q1;have l2:=kt ov.hi ok.hi q2;generalize (Cm v (Fm 1) p).v=z at *;cases z;cases v;simp only at l1 l2;rw [l1,l2]
def Cj (out:List RawI):List (List RawI):=out.map λr=>[r]
theorem Pq (out:List RawI)(n:Int):gI (Hy (Cj out) n) 0=ce out n:=by
 unfold gI Hy ce Cj;rw [Da,Da,Da,List.getElem?_map];cases out[n.toNat]?<;>rfl
theorem Tk (p:Nat)(g:List RawI):Dp p g [] (List.range 1)=if (Bk (gI g 0) p).k=0 then ⟨[(Bk (gI g 0) p).v.raw],0⟩ else ⟨[],(Bk (gI g 0) p).k⟩:=rfl
theorem lS (ov:Iv->Nat->Outc Iv)(p:Nat)(op:Int)(a b:List RawI):Lg ov p op a b [] (List.range 1)=if (Fl ov p op a b [] 0).k=0 then ⟨[(Fl ov p op a b [] 0).v.raw],0⟩ else ⟨[],(Fl ov p op a b [] 0).k⟩:=rfl
theorem nr (ov:Iv->Nat->Outc Iv)(p:Nat)(op:Int)(a b:List RawI):(Fl ov p op a b [] 0).k=(Ip ov op (gI a 0) (gI b 0) p).k/\((Fl ov p op a b [] 0).k=0->(Fl ov p op a b [] 0).v=(Ip ov op (gI a 0) (gI b 0) p).v):=by
 by_cases h6:op=6
 ·subst h6;exact ⟨rfl,λ_=>rfl⟩
 by_cases h7:op=7
 ·subst h7;exact ⟨rfl,λ_=>rfl⟩
 by_cases h8:op=8
 ·subst h8
  show (Gu p a b 0).k=(Ew (gI a 0) (gI b 0) p).k/\((Gu p a b 0).k=0->(Gu p a b 0).v=(Ew (gI a 0) (gI b 0) p).v)
  unfold Gu Outc.th;split
  ·rename_i h;exact ⟨h.symm,λ_=>rfl⟩
  ·rename_i h;exact ⟨rfl,λh'=>absurd h' h⟩
 by_cases h9:op=9
 ·subst h9;exact ⟨rfl,λ_=>rfl⟩
 by_cases h10:op=10
 ·subst h10;exact ⟨rfl,λ_=>rfl⟩
 by_cases h11:op=11
 ·subst h11;exact ⟨rfl,λ_=>rfl⟩
 by_cases h12:op=12
 ·subst h12;exact ⟨rfl,λ_=>rfl⟩
 unfold Fl Ip;simp only [h6,h7,h8,h9,h10,h11,h12,if_false,if_true];exact ⟨trivial,λ_=>trivial⟩
theorem mM (ov:Iv->Nat->Outc Iv)(p:Nat)(l:Ln)(out:List RawI)(t:RawI)(x q:List RawI)(h4:l.op≠4):Fe ov p l (Cj out) [t] (Cj x) (Cj q) 0=if (Dm ov ⟨t,x,[],q⟩ p out l).k=0 then ⟨[(Dm ov ⟨t,x,[],q⟩ p out l).v.raw],0⟩ else ⟨[],(Dm ov ⟨t,x,[],q⟩ p out l).k⟩:=by
 unfold Fe Dm;by_cases h1:l.op=1
 ·rw [Ak h1,Ak h1];exact Tk p _
 rw [Af h1,Af h1];by_cases h2:l.op=2
 ·rw [Ak h2,Ak h2];exact Tk p _
 rw [Af h2,Af h2];by_cases h3:l.op=3
 ·rw [Ak h3,Ak h3,Tk,Pq]
 rw [Af h3,Af h3,Af h4];by_cases h5:l.op=5
 ·rw [Ak h5,Ak h5,Tk,Pq]
 rw [Af h5,Af h5,lS];obtain ⟨k1,k2⟩:=nr ov p l.op (Hy (Cj out) l.a) (Hy (Cj out) l.b);rw [Pq,Pq] at k1 k2;rw [k1] at k2 ⊢;split
 ·rename_i h;rw [k2 h]
 ·rfl
theorem ef (out:List RawI)(r:RawI):Cj out++[[r]]=Cj (out++[r]):=by simp [Cj]
theorem ax (ov:Iv->Nat->Outc Iv)(p:Nat)(t:RawI)(x q:List RawI):∀ (ls:List Ln) (out:List RawI),(∀ l∈ls,l.op≠4)->Fj ov p [t] (Cj x) (Cj q) 0 (Cj out) ls=⟨Cj (Ec ov ⟨t,x,[],q⟩ p out ls).v,(Ec ov ⟨t,x,[],q⟩ p out ls).k⟩
 | [],out,_=>rfl
 | l :: ls, out, h => by
   rw [Fj,Ec,mM _ _ _ _ _ _ _ (h l (by simp))];by_cases hk:(Dm ov ⟨t,x,[],q⟩ p out l).k=0
   ·rw [Ak hk,Ak rfl,Ak hk]
    show Fj ov p [t] (Cj x) (Cj q) 0 (Cj out++[[(Dm ov ⟨t,x,[],q⟩ p out l).v.raw]]) ls=_
    rw [ef];exact ax ov p t x q ls _ (λl hl=>h l (by simp [hl]))
   ·rw [Af hk,Af (show ¬(⟨[],(Dm ov ⟨t,x,[],q⟩ p out l).k⟩:Outc (List RawI)).k=0 from hk),Af hk];rfl
def lE (l:List RawI):Prop:=∀ a∈l,a.iv.Ok/\a.iv.raw=a
def FitL (p:Nat) (l:List RawI):Prop:=∀ a∈l,(a.iv.Ok/\a.iv.raw=a)/\Sz p a.iv
theorem O7 (h:lE l)(n:Int):(ce l n).Ok:=by
 unfold ce;rw [Da];cases e:l[n.toNat]? with
 | none=>rw [Option.getD_none,<-Pf,Iv.raw_iv];exact Ss
 | some a=>exact (h a (Dc e)).1
theorem FitL.cln (h:FitL p l):lE l:=λa ha=>(h a ha).1
theorem gf {l:Ln}(hv:∀ a,a.Ok->(ov a p).k=0->Sz p (ov a p).v)(ho:∀ a,a.Ok->We (ov a p))(p1:1<=p)(h4:l.op≠4)(c1:l.op=1->l.k.iv.Ok)(ct:t.iv.Ok)(cx:lE x)(cq:lE q)(co:lE out)(hk:(Dm ov ⟨t,x,[],q⟩ p out l).k=0) :
 (Dm ov ⟨t,x,[],q⟩ p out l).v.Ok/\Sz p (Dm ov ⟨t,x,[],q⟩ p out l).v:=by
 unfold Dm at hk ⊢;by_cases h1:l.op=1
 ·rw [Ak h1] at hk ⊢;exact ⟨(D8 (c1 h1) p1).1,Nh p1 hk⟩
 rw [Af h1] at hk ⊢;by_cases h2:l.op=2
 ·rw [Ak h2] at hk ⊢;exact ⟨(D8 ct p1).1,Nh p1 hk⟩
 rw [Af h2] at hk ⊢;by_cases h3:l.op=3
 ·rw [Ak h3] at hk ⊢;exact ⟨(D8 (O7 cx _) p1).1,Nh p1 hk⟩
 rw [Af h3,Af h4] at hk ⊢;by_cases h5:l.op=5
 ·rw [Ak h5] at hk ⊢;exact ⟨(D8 (O7 cq _) p1).1,Nh p1 hk⟩
 rw [Af h5] at hk ⊢;refine ⟨?_,ke hv p1 (O7 co _) (O7 co _) hk⟩;have a1:=O7 co l.a;have b1:=O7 co l.b;unfold Ip
 (repeat' split)
 ·exact (J9 a1 b1 p1).1
 ·exact (Rm a1 b1 p1).1
 ·exact (Ll p1).1
 ·exact (Kd b1 p1).1
 ·exact (Y2 a1 p1).1
 ·exact (Zd p1).1
 ·exact (Vn a1 p1).1
 ·exact (ho _ a1).1
theorem Uu {ov:Iv->Nat->Outc Iv}{p:Nat}{t:RawI}{x q:List RawI}(hv:∀ a,a.Ok->(ov a p).k=0->Sz p (ov a p).v)(ho:∀ a,a.Ok->We (ov a p))(p1:1<=p)(ct:t.iv.Ok)(cx:lE x)(cq:lE q):∀ (ls:List Ln) (out:List RawI),(∀ l∈ls,l.op≠4/\(l.op=1->l.k.iv.Ok))->FitL p out->(Ec ov ⟨t,x,[],q⟩ p out ls).k=0->FitL p (Ec ov ⟨t,x,[],q⟩ p out ls).v
 | [],out,_,h,_=>h
 | l :: ls, out, hl, h, hk => by
   rw [Ec] at hk ⊢;by_cases e:(Dm ov ⟨t,x,[],q⟩ p out l).k=0
   ·rw [Ak e] at hk ⊢;obtain ⟨h4,c1⟩:=hl l (by simp);obtain ⟨o,f⟩:=gf hv ho p1 h4 c1 ct cx cq h.cln e;refine Uu hv ho p1 ct cx cq ls _ (fun l hl'=>hl l (by simp [hl'])) (fun a ha=>?_) hk;rcases List.mem_append.1 ha with ha | ha
    ·exact h a ha
    ·simp only [List.mem_singleton] at ha;subst ha;rw [Iv.raw_iv];exact ⟨⟨o,rfl⟩,f⟩
   ·rw [Af e] at hk;exact absurd hk e
theorem Ma {p n:Nat}:∀ (os cs:List (List RawI)),os.length=cs.length->(Ft p n os cs).k=0->(Ft p n os cs).v.length=os.length/\∀ (j:Nat) (o c:List RawI),os[j]?=some o->cs[j]?=some c->(Cm (gI c n) (Fm (n+1)) p).k=0/\(Ft p n os cs).v[j]?=some (o++[(Cm (gI c n) (Fm (n+1)) p).v.raw])
 | [],[],_,_=>⟨rfl,λj o c h=>by simp at h⟩
 | [],c::cs,h,_=>by simp at h
 | o::os,[],h,_=>by simp at h
 | o :: os, c :: cs, h, hk => by
   rw [Ft] at hk ⊢;by_cases e:(Cm (gI c n) (Fm (n+1)) p).k=0
   ·rw [Ak e] at hk ⊢;by_cases e2:(Ft p n os cs).k=0
    ·rw [Ak e2] at hk ⊢;obtain ⟨h1,h2⟩:=Ma os cs (by simpa using h) e2;refine ⟨by simp [h1],fun j o' c' ho hc=>?_⟩;rcases j with _ | j
     ·obtain rfl:o=o':=by simpa using ho
      obtain rfl:c=c':=by simpa using hc
      exact ⟨e,rfl⟩
     ·exact h2 j o' c' (by simpa using ho) (by simpa using hc)
    ·rw [Af e2] at hk;exact absurd hk e2
   ·rw [Af e] at hk;exact absurd hk e
theorem Ou {t:List RawI}{x q:List (List RawI)}(hk:(Cy ov p ls outs t x q k).k=0):(Cy ov p ls outs t x q k).v.length=outs.length:=by
 unfold Cy at hk ⊢;split at hk
 ·rename_i h;rw [Ak h];simp
 ·rename_i h;exact absurd hk h
theorem Lq (hk:(Cu ov p ls outs time q o (n::ns)).k=0) :
 (Cy ov p ls outs (time.take (n+1)) o (q.map λa=>Bs a n) n).k=0/\(Ft p n o (Cy ov p ls outs (time.take (n+1)) o (q.map λa=>Bs a n) n).v).k=0/\Cu ov p ls outs time q o (n::ns)=Cu ov p ls outs time q (Ft p n o (Cy ov p ls outs (time.take (n+1)) o (q.map λa=>Bs a n) n).v).v ns:=by
 rw [Cu] at hk ⊢;by_cases e1:(Cy ov p ls outs (time.take (n+1)) o (q.map λa=>Bs a n) n).k=0
 ·rw [Af (by simpa using e1)] at hk ⊢;by_cases e2:(Ft p n o (Cy ov p ls outs (time.take (n+1)) o (q.map fun a=>Bs a n) n).v).k=0
  ·rw [Af (by simpa using e2)] at hk ⊢;exact ⟨e1,e2,rfl⟩
  ·rw [Ak e2] at hk;exact absurd hk e2
 ·rw [Ak e1] at hk;exact absurd hk e1
theorem Vt {ov:Iv->Nat->Outc Iv}{p:Nat}{ls:List Ln}{outs:List Int}{time time' q:List RawI}:∀ (ns ms:List Nat) (o:List (List RawI)),(∀ n∈ns,time'.take (n+1)=time.take (n+1))->(Cu ov p ls outs time q o (ns++ms)).k=0 ->
 (Cu ov p ls outs time' q o ns).k=0/\Cu ov p ls outs time q o (ns++ms)=Cu ov p ls outs time q (Cu ov p ls outs time' q o ns).v ms
 | [],ms,o,_,_=>⟨rfl,rfl⟩
 | n :: ns, ms, o, ht, hk => by
   rw [List.cons_append] at hk ⊢;obtain ⟨h1,h2,h3⟩:=Lq hk;rw [h3] at hk ⊢;obtain ⟨g1,g2⟩:=Vt (time':=time') ns ms _ (λm hm=>ht m (by simp [hm])) hk;have e:Cu ov p ls outs time' q o (n::ns)=Cu ov p ls outs time' q (Ft p n o (Cy ov p ls outs (time.take (n+1)) o (q.map λa=>Bs a n) n).v).v ns:=by
    rw [Cu,ht n (by simp),Af (by simpa using h1),Af (by simpa using h2)]
   rw [e];exact ⟨g1,g2⟩
theorem Ki {ov:Iv->Nat->Outc Iv}{p:Nat}{ls:List Ln}{outs:List Int}{time q:List RawI}:∀ (ns:List Nat) (o:List (List RawI)),o.length=outs.length->(Cu ov p ls outs time q o ns).k=0 ->
 (Cu ov p ls outs time q o ns).v.length=o.length/\∀ (j:Nat) (r:List RawI),o[j]?=some r->∃ s,s.length=ns.length/\(Cu ov p ls outs time q o ns).v[j]?=some (r++s)
 | [],o,_,_=>⟨rfl,λj r h=>⟨[],rfl,by rw [List.append_nil];exact h⟩⟩
 | n :: ns, o, ho, hk => by
   obtain ⟨h1,h2,h3⟩:=Lq hk;rw [h3] at hk ⊢;have hl:=Ou h1;obtain ⟨g1,g2⟩:=Ma o _ (by rw [hl,ho]) h2;obtain ⟨f1,f2⟩:=Ki ns _ (by rw [g1,ho]) hk;refine ⟨by rw [f1,g1],λj r hr=>?_⟩;have hj:=(Ed hr).1;obtain ⟨-,g3⟩:=g2 j r _ hr (Cd (by omega));obtain ⟨s,s1,s2⟩:=f2 j _ g3;rw [List.append_assoc] at s2;exact ⟨_,by simp [s1],s2⟩
theorem dT (t:RawI){a:Nat}(h:n<a)(hab:a<=b):(Hg t a).take (n+1)=(Hg t b).take (n+1):=by
 unfold Hg;rw [Ak (by omega),Ak (by omega)];refine List.ext_getElem? λi=>?_
 rw [List.getElem?_take,List.getElem?_take];split
 ·rw [List.getElem?_set,List.getElem?_set];have l1:(Bs t a).length=a+1:=by simp [Bs]
  have l2:(Bs t b).length=b+1:=by simp [Bs]
  rw [l1,l2];split
  ·rw [Ak (by omega),Ak (by omega)]
  ·rcases i with _ | i
   ·rfl
   ·unfold Bs;rw [List.getElem?_cons_succ,List.getElem?_cons_succ,List.getElem?_replicate,List.getElem?_replicate,Ak (by omega),Ak (by omega)]
 ·rfl
theorem N8 {p:Nat}:∀ (x:List RawI) (o:List (List RawI)),(D6 p x o).k=0->(D6 p x o).v=o++Cj (x.map λa=>(Bk a.iv p).v.raw)/\∀ a∈x,(Bk a.iv p).k=0
 | [],o,_=>⟨by simp [D6,Cj],by simp⟩
 | a :: x, o, h => by
   rw [D6] at h ⊢;by_cases e:(Bk a.iv p).k=0
   ·rw [Ak e] at h ⊢;obtain ⟨h1,h2⟩:=N8 x _ h;refine ⟨by rw [h1];simp [Cj],fun b hb=>?_⟩;rcases List.mem_cons.1 hb with rfl | hb
    ·exact e
    ·exact h2 b hb
   ·rw [Af e] at h;exact absurd h e
theorem a7 {x u q:Int}:∀ (ls:List Ln) (i:Nat),Me x u q i ls=true->∀ l∈ls,∃ j:Nat,Ix l j x u q=true
 | [],_,_,l,hl=>by simp at hl
 | m :: ls, i, h, l, hl => by
   rw [Me,Bool.and_eq_true] at h;rcases List.mem_cons.1 hl with rfl | hl
   ·exact ⟨i,h.1⟩
   ·exact a7 ls _ h.2 l hl
theorem jI {l:Ln}{i x q:Int}(h:Ix l i x 0 q=true):l.op≠4/\(l.op=1->Dl l.k=true):=by
 refine ⟨λe=>?_,λe=>?_⟩
 ·unfold Ix at h;rw [Af (show ¬l.op=1 by omega)] at h;split at h
  ·cases h
  ·rw [Af (show ¬l.op=2 by omega),Af (show ¬l.op=3 by omega)] at h;simp only [Bool.and_eq_true] at h;have h1:=h.1;unfold Cr at h1;simp only [Bool.and_eq_true,decide_eq_true_eq] at h1;omega
 ·unfold Ix at h;rw [Ak e,Bool.and_eq_true] at h;exact h.1
def Nn (ls:List Ln) (outs:List Int) (t:RawI) (x q:List RawI):Bool:=Iy ls outs x.length 0 q.length&&decide (outs.length=x.length)&&(x++[t]).all Dl&&q.all Dl
theorem Mn (ov:Iv->Nat->Outc Iv)(ls:List Ln)(outs:List Int)(t:RawI)(x q:List RawI)(k p:Int):Ei ov ls outs t x q k p=if Eg k p&&Nn ls outs t x q then
 (if (D6 p.toNat x []).k=0 then Cu ov p.toNat ls outs (Hg t k.toNat) q (D6 p.toNat x []).v (List.range k.toNat) else ⟨[],(D6 p.toNat x []).k⟩) else ⟨[],1⟩:=by
 unfold Ei Nn;simp only [Bool.and_assoc]
theorem Ow (h:(Ei ov ls outs t x q (k:Int) (p:Int)).k=0):Eg k p=true/\Nn ls outs t x q=true/\(D6 p x []).k=0/\Ei ov ls outs t x q k p=Cu ov p ls outs (Hg t k) q (Cj (x.map λa=>(Bk a.iv p).v.raw)) (List.range k):=by
 rw [Mn] at h ⊢;split at h
 ·rename_i h1;rw [Ak h1];rw [Bool.and_eq_true] at h1;simp only [Int.toNat_natCast] at h ⊢;split at h
  ·rename_i h2;rw [Ak h2];refine ⟨h1.1,h1.2,h2,?_⟩;rw [(N8 x [] h2).1,List.nil_append]
  ·rename_i h2;exact absurd h h2
 ·exact absurd h (by decide)
theorem bD {lo:Nat}(hlo:lo<hi)(h:(Ei ov ls outs t x q (hi:Int) (p:Int)).k=0) :
 (Ei ov ls outs t x q lo p).k=0/\(Ei ov ls outs t x q hi p).v.length=x.length/\(Ei ov ls outs t x q lo p).v.length=x.length /\
 ∀ j,j<x.length->∃ r s,(Ei ov ls outs t x q lo p).v[j]?=some r/\r.length=lo+1/\(Ei ov ls outs t x q hi p).v[j]?=some (r++s)/\(r++s).length=hi+1:=by
 obtain ⟨hw,hm,hf,e⟩:=Ow h;rw [e] at h;have hw':Eg (lo:Int) p=true:=by
  unfold Eg at hw ⊢;simp only [Bool.and_eq_true,decide_eq_true_eq] at hw ⊢;omega
 have e':Ei ov ls outs t x q lo p=Cu ov p ls outs (Hg t lo) q (Cj (x.map λa=>(Bk a.iv p).v.raw)) (List.range lo):=by
  rw [Mn,Ak (by rw [hw',hm];rfl)];simp only [Int.toNat_natCast];rw [Ak hf,(N8 x [] hf).1,List.nil_append]
 have hol:outs.length=x.length:=by
  unfold Nn at hm;simp only [Bool.and_eq_true,decide_eq_true_eq] at hm;exact hm.1.1.2
 have hr:List.range hi=List.range lo++(List.range (hi-lo)).map (lo+·):=by
  rw [<-List.range_add,show lo+(hi-lo)=hi by omega]
 rw [hr] at h e;have hwl:(Cj (x.map λa=>(Bk a.iv p).v.raw)).length=outs.length:=by simp [Cj,hol]
 obtain ⟨g1,g2⟩:=Vt (time':=Hg t lo) (List.range lo) _ _ (λn hn=>dT t (List.mem_range.1 hn) (by omega)) h;obtain ⟨f1,f2⟩:=Ki (List.range lo) _ hwl g1;have gk:=h;rw [g2] at gk;obtain ⟨b1,b2⟩:=Ki _ _ (by rw [f1,hwl]) gk;rw [e',e,g2];refine ⟨g1,by rw [b1,f1,hwl,hol],by rw [f1,hwl,hol],λj hj=>?_⟩;obtain ⟨s,s1,s2⟩:=f2 j _ (show (Cj (x.map λa=>(Bk a.iv p).v.raw))[j]?=some [(Bk x[j].iv p).v.raw] by simp [Cj,hj]);obtain ⟨s',s3,s4⟩:=b2 j _ s2;refine ⟨_,s',s2,by simp [s1],s4,?_⟩;simp only [List.length_append,List.length_cons,List.length_nil,s1,s3,List.length_range,List.length_map]
 omega
theorem dQ (h0:0<hi)(hv:∀ a,a.Ok->(ov a p).k=0->Sz p (ov a p).v)(ho:∀ a,a.Ok->We (ov a p))(h:(Ei ov ls outs t x q (hi:Int) (p:Int)).k=0)
 (ct:Dl t=true->t.iv.Ok) (cx:∀ a∈x,Dl a=true->a.iv.Ok) (cq:∀ a∈q,Dl a=true->a.iv.Ok/\a.iv.raw=a) (cl:∀ l∈ls,Dl l.k=true->l.k.iv.Ok) :
 ∃ xs vs : List RawI, xs.length = x.length ∧ vs.length = x.length ∧ (∀ a ∈ xs, a.iv.Ok ∧ a.iv.raw = a) ∧ (∀ a ∈ vs, a.iv.Ok ∧ a.iv.raw = a) ∧ eR    ov ls outs ⟨t, xs, [], q⟩ p = ⟨vs, 0⟩ ∧
   ∀ (j:Nat) (r:List RawI),(Ei ov ls outs t x q hi p).v[j]?=some r->r[0]?=xs[j]?/\r[1]?=vs[j]?:=by
 obtain ⟨hw,hm,hf,e⟩:=Ow h;rw [e] at h ⊢;have hm':=hm;unfold Nn at hm';simp only [Bool.and_eq_true,decide_eq_true_eq] at hm';obtain ⟨⟨⟨mt,hol⟩,mxt⟩,mq⟩:=hm';rw [List.all_append,Bool.and_eq_true] at mxt;obtain ⟨mx,mt1⟩:=mxt;have mt1:Dl t=true:=by simpa using mt1
 obtain ⟨p1,p2⟩:1<=p/\p<=300:=by
  unfold Eg at hw;simp only [Bool.and_eq_true,decide_eq_true_eq] at hw;omega
 obtain ⟨xs,exs⟩:∃ xs,xs=x.map λa=>(Bk a.iv p).v.raw:=⟨_,rfl⟩
 rw [<-exs] at h ⊢;have lxs:xs.length=x.length:=by rw [exs];simp
 have cxs:lE xs:=by
  intro a ha;rw [exs] at ha;obtain ⟨b,hb,rfl⟩:=List.mem_map.1 ha;rw [Iv.raw_iv];exact ⟨(D8 (cx b hb (List.all_eq_true.1 mx b hb)) p1).1,rfl⟩
 have cqs:lE q:=λa ha=>cq a ha (List.all_eq_true.1 mq a ha)
 have hls:∀ l∈ls,l.op≠4/\(l.op=1->l.k.iv.Ok):=by
  intro l hl;unfold Iy at mt;simp only [Bool.and_eq_true] at mt;obtain ⟨j,hj⟩:=a7 ls 0 mt.1.2 l hl;obtain ⟨a1,a2⟩:=jI hj;exact ⟨a1,λe=>cl l hl (a2 e)⟩
 obtain ⟨m,rfl⟩:∃ m,hi=m+1:=⟨hi-1,by omega⟩;rw [List.range_succ_eq_map] at h ⊢;obtain ⟨h1,h2,h3⟩:=Lq h;rw [h3] at h ⊢;have et:(Hg t (m+1)).take (0+1)=[t]:=by
  unfold Hg Bs;rw [Ak (by omega)];rfl
 have eq0:(q.map λa=>Bs a 0)=Cj q:=rfl;rw [et,eq0] at h1 h2 h ⊢;have el:=ax ov p t xs q ls [] (λl hl=>(hls l hl).1);have el:Fj ov p [t] (Cj xs) (Cj q) 0 [] ls=_:=el;obtain ⟨L,hL⟩:∃ L,L=Ec ov ⟨t,xs,[],q⟩ p [] ls:=⟨_,rfl⟩;rw [<-hL] at el;have es:Cy ov p ls outs [t] (Cj xs) (Cj q) 0=if L.k=0 then ⟨outs.map λn=>Hy (Cj L.v) n,0⟩ else ⟨[],L.k⟩:=by
  unfold Cy;rw [el]
 have hLk:L.k=0:=by
  rw [es] at h1;split at h1
  ·assumption
  ·rename_i h9;exact absurd h1 h9
 rw [Ak hLk] at es;rw [es] at h2 h ⊢;have fl:=Uu hv ho p1 (ct mt1) cxs cqs ls [] hls (λa ha=>by cases ha) (by rw [<-hL];exact hLk);rw [<-hL] at fl;have lL:L.v.length=ls.length:=by
  have:=Ql ov ⟨t,xs,[],q⟩ p ls [] (by rw [<-hL];exact hLk);rw [<-hL] at this;simpa using this
 have hout:∀ n∈outs,0<=n/\n<(ls.length:Int):=by
  intro n hn;unfold Iy at mt;simp only [Bool.and_eq_true] at mt;have:=List.all_eq_true.1 mt.2 n hn;unfold Cr at this;simpa using this
 have hwl:(Cj xs).length=outs.length:=by simp [Cj,lxs,hol]
 obtain ⟨g1,g2⟩:=Ma _ _ (by rw [hwl];simp) h2;obtain ⟨f1,f2⟩:=Ki _ _ (by rw [g1,hwl]) h;refine ⟨xs,outs.map λn=>L.v.getD n.toNat rzI,lxs,by simp [hol],cxs,?_,?_,?_⟩
 ·intro a ha;obtain ⟨n,hn,rfl⟩:=List.mem_map.1 ha;obtain ⟨n0,n1⟩:=hout n hn;have hlt:n.toNat<L.v.length:=by omega
  rw [Da,Cd hlt];exact (fl _ (List.getElem_mem hlt)).1
 ·have hme:Uw ⟨t,xs,[],q⟩=true:=by
   unfold Uw;simp only [Bool.and_eq_true];refine ⟨⟨⟨mt1,List.all_eq_true.2 λa ha=>?_⟩,rfl⟩,mq⟩;have:=cxs a ha;rw [<-this.2];exact Ev this.1
  have ht:Lu ov ls outs ⟨t,xs,[],q⟩ p=L:=by
   unfold Lu;rw [Ak ⟨by omega,by omega,by rw [lxs];exact mt,hme⟩,Int.toNat_natCast,<-hL]
  unfold eR;rw [ht,Ak hLk]
 ·intro j r hr;have hj:j<xs.length:=by
   have:=(Ed hr).1;rw [f1,g1] at this;simpa [Cj] using this
  have hjo:j<outs.length:=by omega
  obtain ⟨n,hn⟩:∃ n,outs[j]?=some n:=⟨_,Cd hjo⟩;obtain ⟨n0,n1⟩:=hout n (Dc hn);have hlt:n.toNat<L.v.length:=by omega
  have ec:(outs.map λn=>Hy (Cj L.v) n)[j]?=some [L.v[n.toNat]]:=by
   rw [List.getElem?_map,hn];simp [Hy,Cj,hlt]
  obtain ⟨k3,g3⟩:=g2 j _ _ (show (Cj xs)[j]?=some [xs[j]] by simp [Cj,hj]) ec;obtain ⟨s,-,s2⟩:=f2 j _ g3;rw [hr] at s2;injection s2 with s2
  subst s2;have fn:=fl _ (List.getElem_mem hlt);have eg:gI [L.v[n.toNat]] 0=L.v[n.toNat].iv:=rfl;rw [eg] at k3 ⊢;have ed:=div_one fn.1.1 p1 fn.2 k3;refine ⟨by simp,?_⟩;rw [List.getElem?_map,hn];simp [hlt,ed,fn.1.2]
def BoxJ (w:World) (v:Value) (t0 t1 t2 t3 t4 t5:Value):Prop:=∃ b,v=.slice (some ⟨b,0,none⟩) 1 1/\BlkI w b t0 t1 t2 t3 t4 t5
theorem BoxJ.kept (h:BoxJ w v t0 t1 t2 t3 t4 t5)(k:Kept w w'):BoxJ w' v t0 t1 t2 t3 t4 t5:=by
 obtain ⟨b,e,hb⟩:=h;exact ⟨b,e,hb.kept k⟩
theorem BoxJ.stab (h:BoxJ w v t0 t1 t2 t3 t4 t5)(hs:∀ (b:Nat) (cs:Array Value) (T:TypeId),w.heap[b]?=some (.cells cs T (0,0))->cs.size<12->w'.heap[b]?=some (.cells cs T (0,0))):BoxJ w' v t0 t1 t2 t3 t4 t5:=by
 obtain ⟨b,e,hb⟩:=h;exact ⟨b,e,hs _ _ _ hb (by simp)⟩
theorem CellsI.snoc {cs:List Value}(h:CellsI w v l cs)(hI:IvR w (.agg #[t0,t1,t2,t3,t4,t5]) t)(i:Nat)(a:RawI)(hi:(l++[t])[i]?=some a) :
 ∃ x y z x' y' z',(cs++[t0,t1,t2,t3,t4,t5])[i*6]?=some x/\(cs++[t0,t1,t2,t3,t4,t5])[i*6+1]?=some y/\(cs++[t0,t1,t2,t3,t4,t5])[i*6+2]?=some z/\(cs++[t0,t1,t2,t3,t4,t5])[i*6+3]?=some x'/\(cs++[t0,t1,t2,t3,t4,t5])[i*6+4]?=some y'/\(cs++[t0,t1,t2,t3,t4,t5])[i*6+5]?=some z'/\IvR w (.agg #[x,y,z,x',y',z']) a:=by
 obtain ⟨A,c,-,-,hl,-,hJ⟩:=h;have lo:∀ (j:Nat) (u:Value),cs[j]?=some u->(cs++[t0,t1,t2,t3,t4,t5])[j]?=some u:=λj u hj=>by
  rw [Gf (Ed hj).1];exact hj
 by_cases hlt:i<l.length
 ·rw [Gf hlt] at hi;obtain ⟨x,y,z,x',y',z',a0,a1,a2,a3,a4,a5,hK⟩:=hJ i a hi;exact ⟨x,y,z,x',y',z',lo _ _ a0,lo _ _ a1,lo _ _ a2,lo _ _ a3,lo _ _ a4,lo _ _ a5,hK⟩
 ·have:i=l.length:=by
   have:=(Ed hi).1;simp at this;omega
  subst this;rw [Gk (Aq _)] at hi;obtain rfl:t=a:=by simpa using hi
  have hr:∀ (j:Nat) (u:Value),[t0,t1,t2,t3,t4,t5][j]?=some u->(cs++[t0,t1,t2,t3,t4,t5])[l.length*6+j]?=some u:=λj u hj=>by
   rw [Gk (by omega),show l.length*6+j-cs.length=j by omega];exact hj
  exact ⟨_,_,_,_,_,_,hr 0 _ rfl,hr 1 _ rfl,hr 2 _ rfl,hr 3 _ rfl,hr 4 _ rfl,hr 5 _ rfl,hI⟩
theorem CellsI.clean {cs:List Value}(h:CellsI w v l cs)(hm:l.all Dl=true):Gd l:=by
 intro a ha;obtain ⟨A,c,-,-,hl,-,hJ⟩:=h;obtain ⟨i,hi⟩:=List.getElem?_of_mem ha;obtain ⟨x,y,z,x',y',z',-,-,-,-,-,-,hK⟩:=hJ i a hi;exact hK.clean (List.all_eq_true.1 hm a ha)
theorem IvS.takeJ {A:Option Addr}(h:IvS w (.slice A l.length c) l)(hm:m<=l.length):IvS w (.slice A m c) (l.take m):=by
 obtain ⟨A',c',e,hc,hA⟩:=h;injection e with e1 e2 e3
 subst e1;subst e3;have hl:(l.take m).length=m:=by rw [List.length_take];omega
 refine ⟨A,c,by rw [hl],by omega,λh0=>?_⟩;obtain ⟨b,off,rfl,hD⟩:=hA (by omega);refine ⟨b,off,rfl,λi a hi=>hD i a ?_⟩;rw [List.getElem?_take] at hi;split at hi
 ·exact hi
 ·cases hi
theorem IvAt.kbn {o:Nat}(h:IvAt w b o a)(k:KB w X w')(hn:b∉X):IvAt w' b o a:=by
 obtain ⟨x,y,z,x',y',z',h0,h1,h2,h3,h4,h5,hI⟩:=h;have hb:=Av h0;have hc:∀ (j:Nat) (u:Value),w.cell? ⟨b,j,none⟩=some u->w'.cell? ⟨b,j,none⟩=some u:=λj u hu=>by
  rw [World.cell?_of_block (k.block b hb hn)];exact hu
 exact ⟨x,y,z,x',y',z',hc _ _ h0,hc _ _ h1,hc _ _ h2,hc _ _ h3,hc _ _ h4,hc _ _ h5,hI.kb k⟩
theorem gP (hb:w.heap[b]?=some (.cells cs T (0,0)))(h:IvS w (.slice (some ⟨b,0,none⟩) l.length c) l)(hi:i<l.length){x y z:Value}(hI:IvR w (.agg #[x,y,z,x',y',z']) r) :
 IvS (fX w b (i*6) x y z x' y' z') (.slice (some ⟨b,0,none⟩) l.length c) (l.set i r)/\KB w [b] (fX w b (i*6) x y z x' y' z'):=by
 obtain ⟨A',c',e,hc,hA⟩:=h;injection e with e1 e2 e3
 subst e3;obtain ⟨b',off,e4,hD⟩:=hA (by omega);rw [<-e1] at e4;injection e4 with e4
 injection e4 with e5 e6
 subst e5;subst e6;have at':∀ (j:Nat) (u:Value),w.cell? ⟨b,j,none⟩=some u->cs[j]?=some u:=λj u hu=>by simpa [World.cell?,hb] using hu
 obtain ⟨p,q,s,p',q',s',h0,h1,h2,h3,h4,h5,hP⟩:=hD i _ (Cd hi);simp only [Nat.zero_add] at h0 h1 h2 h3 h4 h5;have nl:=hP.cells;have sz:=(Bi (at' _ _ h5)).1;have bb:=λ(w:World) (cs:Array Value) (hb:w.heap[b]?=some (.cells cs T (0,0))) (j:Nat) (v:Value)=>Bw (i:=j) hb v
 have d0:=bb _ _ hb (i*6) x;have d1:=bb _ _ d0 (i*6+1) y;have d2:=bb _ _ d1 (i*6+2) z;have d3:=bb _ _ d2 (i*6+3) x';have d4:=bb _ _ d3 (i*6+4) y';have d5:=bb _ _ d4 (i*6+5) z';have ne:∀ (a:Array Value) (j m:Nat) (v u:Value),j≠m->a[m]?=some u->(a.setIfInBounds j v)[m]?=some u:=λa j m v u hne hu=>by rw [Array.getElem?_setIfInBounds_ne hne];exact hu
 have kb:KB w [b] (fX w b (i*6) x y z x' y' z'):=by
  have k0:=(KB.refl w [b]).setCell (List.mem_singleton.2 rfl) h0 (nl p (by simp)).1 x;have k1:=k0.setCell (List.mem_singleton.2 rfl) (Ae d0 (i*6+1) _ (ne _ _ _ _ _ (by omega) (at' _ _ h1))) (nl q (by simp)).1 y;have k2:=k1.setCell (List.mem_singleton.2 rfl) (Ae d1 (i*6+2) _ (ne _ _ _ _ _ (by omega) (ne _ _ _ _ _ (by omega) (at' _ _ h2)))) (nl s (by simp)).1 z;have k3:=k2.setCell (List.mem_singleton.2 rfl) (Ae d2 (i*6+3) _ (ne _ _ _ _ _ (by omega) (ne _ _ _ _ _ (by omega) (ne _ _ _ _ _ (by omega) (at' _ _ h3))))) (nl p' (by simp)).1 x';have k4:=k3.setCell (List.mem_singleton.2 rfl) (Ae d3 (i*6+4) _ (ne _ _ _ _ _ (by omega) (ne _ _ _ _ _ (by omega) (ne _ _ _ _ _ (by omega) (ne _ _ _ _ _ (by omega) (at' _ _ h4)))))) (nl q' (by simp)).1 y'
  exact k4.setCell (List.mem_singleton.2 rfl) (Ae d4 (i*6+5) _ (ne _ _ _ _ _ (by omega) (ne _ _ _ _ _ (by omega) (ne _ _ _ _ _ (by omega) (ne _ _ _ _ _ (by omega) (ne _ _ _ _ _ (by omega) (at' _ _ h5))))))) (nl s' (by simp)).1 z'
 refine ⟨?_,kb⟩
 have hg:∀ j,((((((cs.setIfInBounds (i*6) x).setIfInBounds (i*6+1) y).setIfInBounds (i*6+2) z).setIfInBounds (i*6+3) x').setIfInBounds (i*6+4) y').setIfInBounds (i*6+5) z')[j]? =
  if j=i*6+5 then some z' else if j=i*6+4 then some y' else if j=i*6+3 then some x' else if j=i*6+2 then some z else if j=i*6+1 then some y else if j=i*6 then some x else cs[j]?:=by
  intro j;simp only [Array.getElem?_setIfInBounds,Array.size_setIfInBounds,Ak (show i*6+5<cs.size by omega),Ak (show i*6+4<cs.size by omega),Ak (show i*6+3<cs.size by omega),Ak (show i*6+2<cs.size by omega),Ak (show i*6+1<cs.size by omega),Ak (show i*6<cs.size by omega),@eq_comm _ j]
 have cl:∀ (j:Nat) (u:Value),((((((cs.setIfInBounds (i*6) x).setIfInBounds (i*6+1) y).setIfInBounds (i*6+2) z).setIfInBounds (i*6+3) x').setIfInBounds (i*6+4) y').setIfInBounds (i*6+5) z')[j]?=some u->(fX w b (i*6) x y z x' y' z').cell? ⟨b,j,none⟩=some u:=λj u hu=>Ae d5 j u hu
 clear d0 d1 d2 d3 d4 d5 bb;generalize ((((((cs.setIfInBounds (i*6) x).setIfInBounds (i*6+1) y).setIfInBounds (i*6+2) z).setIfInBounds (i*6+3) x').setIfInBounds (i*6+4) y').setIfInBounds (i*6+5) z')=C at hg cl;generalize fX w b (i*6) x y z x' y' z'=w' at *;refine ⟨_,_,by rw [List.length_set],by rw [List.length_set];exact hc,λ_=>⟨b,0,rfl,λj a hj=>?_⟩⟩;simp only [Nat.zero_add];by_cases hij:i=j
 ·subst hij;rw [List.getElem?_set_self hi] at hj;injection hj with hj
  subst hj;refine ⟨x,y,z,x',y',z',cl _ _ ?_,cl _ _ ?_,cl _ _ ?_,cl _ _ ?_,cl _ _ ?_,cl _ _ ?_,hI.kb kb⟩
  ·rw [hg,Af (by omega),Af (by omega),Af (by omega),Af (by omega),Af (by omega),Ak rfl]
  ·rw [hg,Af (by omega),Af (by omega),Af (by omega),Af (by omega),Ak rfl]
  ·rw [hg,Af (by omega),Af (by omega),Af (by omega),Ak rfl]
  ·rw [hg,Af (by omega),Af (by omega),Ak rfl]
  ·rw [hg,Af (by omega),Ak rfl]
  ·rw [hg,Ak rfl]
 ·rw [List.getElem?_set_ne hij] at hj;obtain ⟨p,q,s,p',q',s',h0,h1,h2,h3,h4,h5,hP⟩:=hD j a hj;simp only [Nat.zero_add] at h0 h1 h2 h3 h4 h5;have st:∀ (m:Nat) (u:Value),(m<i*6∨i*6+5<m)→w.cell? ⟨b,m,none⟩=some u→w'.cell? ⟨b,m,none⟩=some u:=fun m u hm hu=>cl m u (by
   rw [hg,Af (by omega),Af (by omega),Af (by omega),Af (by omega),Af (by omega),Af (by omega)];exact at' m u hu)
  exact ⟨p,q,s,p',q',s',st _ _ (by omega) h0,st _ _ (by omega) h1,st _ _ (by omega) h2,st _ _ (by omega) h3,st _ _ (by omega) h4,st _ _ (by omega) h5,hP.kb kb⟩
theorem aj (h:x[i]?=some a):D6 p (x.drop i) o=if (Bk a.iv p).k=0 then D6 p (x.drop (i+1)) (o++[[(Bk a.iv p).v.raw]]) else ⟨[],(Bk a.iv p).k⟩:=by
 obtain ⟨hj,rfl⟩:=Ed h;rw [List.drop_eq_getElem_cons hj,D6]
theorem cU (h:x.length<=i):D6 p (x.drop i) o=⟨o,0⟩:=by
 rw [List.drop_eq_nil_of_le h];rfl
theorem jk {cs:List (List RawI)}(p1:1<=p)(ho:GdR n o)(hl:o.length=cs.length)(hk:∀ j,j<o.length->(Cm (gI (cs.getD j []) n) (Fm (n+1)) p).k=0):GdR (n+1) (da p n o cs o.length):=by
 have hd:=Qh o cs hl hk;obtain ⟨g1,g2⟩:=Ma o cs hl (by rw [hd]);rw [hd] at g1 g2;intro r hr;obtain ⟨j,hj⟩:=List.getElem?_of_mem hr;have hj2:j<o.length:=by
  have:=(Ed hj).1;rw [Tp] at this;exact this
 obtain ⟨-,e⟩:=g2 j _ _ (Cd hj2) (Cd (by omega));have e:=Option.some.inj (hj.symm.trans e);obtain ⟨c1,c2⟩:=ho o[j] (List.getElem_mem hj2);rw [e];exact ⟨c1.snoc (Kd (P5 (E6 _ _ _).1) p1).1,by simp [c2]⟩
theorem bM {S:Outc (List (List RawI))}(hS:S=Cy ov p ls outs (time.take (n+1)) o (q.map λa=>Bs a n) n) :
 (S.k≠0->Cu ov p ls outs time q o (List.range' n (m+1))=⟨[],S.k⟩)/\(S.k=0->(Ft p n o S.v).k≠0->Cu ov p ls outs time q o (List.range' n (m+1))=⟨[],(Ft p n o S.v).k⟩) /\
 (S.k=0->(Ft p n o S.v).k=0->Cu ov p ls outs time q o (List.range' n (m+1))=Cu ov p ls outs time q (Ft p n o S.v).v (List.range' (n+1) m)):=by
 rw [List.range'_succ,Cu,<-hS];refine ⟨λh=>Ak h,λh h2=>?_,λh h2=>?_⟩
 ·rw [Af (λe=>e h),Ak h2]
 ·rw [Af (λe=>e h),Af (λe=>e h2)]
theorem iK (w:World)(x y z x' y' z':Value):∃ W,W=w.alloc (.cells #[x,y,z,x',y',z'] 30)/\Kept w W/\BlkI W w.heap.size x y z x' y' z' :=
 ⟨_,rfl,Ab _ _,Ea _ _ _ _ _ _ _⟩
theorem gF {x y z:Value}(h:IvR w (.agg #[x,y,z,x',y',z']) r):OwnI (w.alloc (.cells #[x,y,z,x',y',z'] 30)) w.heap.size (.slice (some ⟨w.heap.size,0,none⟩) 1 1) [r] [x,y,z,x',y',z']:=by
 have hcl:=h.cells;refine ⟨⟨rfl,.inr ⟨w.heap.size,1,_,rfl,Aq _,heap_alloc_new _ _,Aq _,by unfold maxLen;omega,rfl,rfl⟩⟩,λu hu=>(hcl u hu).1,λu hu=>(hcl u hu).2,?_,?_⟩
 ·intro g hg;obtain rfl:w.heap.size=g:=Option.some.inj hg;exact ⟨_,_,heap_alloc_new _ _,λu hu=>(hcl u (by simpa using hu)).1⟩
 ·intro i d hi;rcases i with _ | i
  ·obtain rfl:r=d:=by simpa using hi
   exact ⟨_,_,_,_,_,_,rfl,rfl,rfl,rfl,rfl,rfl,h.kept (Ab _ _)⟩
  ·simp at hi
def RowK (br o:Nat) (a:RawI) (l10 l14 l16:Bool) (w:World):Prop:=(l10=false->IvAt w br o a)/\(l14=true->l10=true)/\(l16=true->l10=true)
theorem RowK.kept {o:Nat}(k:Kept w w')(h:RowK br o a l10 l14 l16 w):RowK br o a l10 l14 l16 w':=⟨λe=>(h.1 e).kept k,h.2⟩
theorem RowK.seen {o:Nat}(_k:Kept w w')(_h:RowK br o a l10 l14 l16 w):RowK br o a true l14 l16 w':=⟨λe=>by (cases e),λ_=>rfl,λ_=>rfl⟩
theorem RowK.also {o:Nat}(k:Kept w w')(h:RowK br o a l10 l14 l16 w)(e:l10=true):RowK br o a l10 true l16 w':=⟨λe=>(h.1 e).kept k,λ_=>e,h.2.2⟩
theorem RowK.done {o:Nat}(e:l10=true):RowK br o a l10 l14 l16 w':=⟨λe'=>by (rw [e] at e';cases e'),λ_=>e,λ_=>e⟩
section
variable {B bo i br o:Nat} {cur:Array Value} {vs:List Value} {rows:List (List RawI)} {vr:Value} {c:List RawI} {xs:List Value} {d a:RawI} {l0 l1 l2 l10 l14:Bool} {w w':World}
theorem Jo (k:Kept w w')(h:SolK B bo i cur vs rows vr c xs d l0 l1 l2 w/\RowK br o a l10 l14 l1 w):SolK B bo i cur vs rows vr c xs d l0 l1 l2 w'/\RowK br o a l10 l14 l1 w':=⟨SolK.kept k h.1,RowK.kept k h.2⟩
theorem Jp (k:Kept w w')(h:SolK B bo i cur vs rows vr c xs d l0 l1 l2 w/\RowK br o a l10 l14 l1 w):SolK B bo i cur vs rows vr c xs d true l1 l2 w'/\RowK br o a l10 l14 l1 w':=⟨SolK.seen k h.1,RowK.kept k h.2⟩
theorem Jq (k:Kept w w')(h:SolK B bo i cur vs rows vr c xs d l0 l1 l2 w/\RowK br o a l10 l14 l1 w):SolK B bo i cur vs rows vr c xs d l0 l1 l2 w'/\RowK br o a true l14 l1 w':=⟨SolK.kept k h.1,RowK.seen k h.2⟩
theorem Jr (k:Kept w w')(h:SolK B bo i cur vs rows vr c xs d l0 l1 l2 w/\RowK br o a l10 l14 l1 w)(e:l10=true):SolK B bo i cur vs rows vr c xs d l0 l1 l2 w'/\RowK br o a l10 true l1 w':=⟨SolK.kept k h.1,RowK.also k h.2 e⟩
end
theorem OneI.appJ {row:Option Nat}(h:OneI w v r)(hg:w.grownBy w' row)(hN:∀ g,row=some g->Ws w g)(hs:∀ (b:Nat) (cs:Array Value) (T:TypeId),w.heap[b]?=some (.cells cs T (0,0))->cs.size<12->w'.heap[b]?=some (.cells cs T (0,0))):OneI w' v r:=by
 obtain ⟨b,x,y,z,x',y',z',e,h1,h2⟩:=h;exact ⟨b,x,y,z,x',y',z',e,hs _ _ _ h1 (by simp),h2.grown hg hN⟩
section
variable {ov:Iv->Nat->Outc Iv} {w:World} {bB bK bF bX bP bT nx cx nq cq k p oc:Nat} {AX AP oA:Option Addr} {s t0 t1 t2 t3 t4 t5:Value} {ls:List Ln} {outs:List Int} {t:RawI} {x q:List RawI}
theorem dP (hB:SvG w bB bK bF bX bP bT s (.slice oA nx oc) (.slice AX nx cx) (.slice AP nq cq) t0 t1 t2 t3 t4 t5 k p)
 (hx:IvS w (.slice AX nx cx) x) (hI:IvR w (.agg #[t0,t1,t2,t3,t4,t5]) t) (hnx:x.length=nx) (n8:nx<=100) (n9:nq<=100) (lx:∀ a∈x,a.lens 17592186044416) (lt:t.lens 17592186044416)
 (hv:TpR w (.agg #[s,.slice oA nx oc]) ls outs) (hok:Ru ls) (hn:ls.length<=200) (hno:outs.length<=200) (hw:Eg k p=true) (hm:Iy ls outs nx 0 nq=true) (hf:Li [x++[t]] nx=false) :
 Calls Tryz.prog 54 #[.pointer (some ⟨bB,0,none⟩),.pointer (some ⟨bK,0,none⟩),.pointer (some ⟨bF,0,none⟩),.pointer (some ⟨bX,0,none⟩),.pointer (some ⟨bP,0,none⟩),.pointer (some ⟨bT,0,none⟩)] w (Hn ⟨[],1⟩ w):=by
 have kp:k<=12/\1<=p/\p<=300:=by
  unfold Eg at hw;simp only [Bool.and_eq_true,decide_eq_true_eq] at hw;omega
 obtain ⟨k12,p1,p2⟩:=kp;obtain ⟨cs,hcs⟩:=hx.cellsI;have WI:=Ad (λw1=>show Calls Tryz.prog 46 #[.int .i64 (k:Int),.int .i64 (p:Int)] w1 (RetQ (.bool true) w1) by have:=Rp w1 k p;rwa [hw] at this);have MT:=Ad (λw1 (q:Kept w w1)=>show Calls Tryz.prog 47 #[.agg #[s,.slice oA nx oc],.int .i64 (nx:Int),.int .i64 0,.int .i64 (nq:Int)] w1 (RetK (.bool true) w1) by have:=Yv (hv.kept q) hok (by omega) (by omega) (x:=nx) (u:=0) (p:=nq) (by omega) (by omega) (by omega);rwa [hm] at this);have CLN:=Ad (λw1 (q:Kept w w1)=>W9 (hcs.kept q) (by omega));have F1:=Ad (λw1 (q:Kept w w1) v (h:RowB w1 v (x++[t]).length (cs++[t0,t1,t2,t3,t4,t5]))=>show Calls Tryz.prog 48 #[v,.int .i64 (nx:Int)] w1 (RetK (.bool false) w1) by
  have hc:=cZ (k:=nx) (h.rws ((hcs.kept q).snoc (hI.kept q))) (by simp) (by
   intro r hr;simp only [List.mem_singleton] at hr;subst hr;refine ⟨by simp;omega,λd hd=>?_⟩;rcases List.mem_append.1 hd with hd | hd
   ·exact lx d hd
   ·simp only [List.mem_singleton] at hd;subst hd;exact lt) (by omega) (by omega)
  rwa [hf] at hc)
 obtain ⟨W,hW,kW,bW⟩:=cF w p;have HW:=Ad hW;have K:=Ad kW;have cB:=Ae hB.b 0 _ rfl;have HG:=Ad (hB.kept kW);have HIW:=Ad (hI.kept kW);have BAD:=Ad (λw1 (q:Kept w w1)=>show Hn ⟨[],1⟩ w (.panicked (By 106 1)) w1 from ⟨q,.inr ⟨by decide,rfl⟩⟩);clear hW kW hB hx hI hv hok hw hm hf lx lt hcs;go_enter Tryz.func54,Tryz.ntmps54;go_upto_region 2 with fail;rw [<-HW.o];clear HW cB
 refine rK 39 (λi=>i==24) ([]) (λL w'=>True) ([(vE (.int .i64 (k:Int))),(vE (.int .i64 (p:Int))),(vE (.bool true)),(vE (.bool true)),(vE (.agg #[s,.slice oA nx oc])),(vE (.slice AX nx cx)),(vE (.int .i64 (nx:Int))),(vE (.slice AP nq cq)),(vE (.int .i64 (nq:Int))),(vE (.bool true)),(vE (.bool true)),(vE (.bool true)),(vP bF 1),(vE (.slice oA nx oc)),(vE (.int .i64 (nx:Int))),(vE (.slice AX nx cx)),(vE (.int .i64 (nx:Int))),(vE (.bool true)),(vE (.bool true)),(vE (.bool true)),(vE (.slice AX nx cx)),(λv wv=>OwnI wv W.heap.size v x cs/\ep v x),(vE (.agg #[t0,t1,t2,t3,t4,t5])),(λv wv=>BoxJ wv v t0 t1 t2 t3 t4 t5),(λv wv=>OwnI wv W.heap.size v (x++[t]) (cs++[t0,t1,t2,t3,t4,t5])),(λv wv=>RowB wv v (x++[t]).length (cs++[t0,t1,t2,t3,t4,t5])),(vE (.slice AX nx cx)),(vE (.int .i64 (nx:Int))),(vE (.bool false)),(vE (.bool false)),(vE (.bool false)),(vE undef),(vE undef),(vE undef),(vE undef),(vE undef),(vE undef),(vE (.bool false)),(λv _=>False)])
  (λi hE L w w' kq fj=>by trivial) (trivial) (hM:=⟨⟨mE,mE,mE,mE,mE,mE,mE,mE,mE,mE,mE,mE,mE,mE,mE,mE,mE,mE,mE,mE,mE,λv w w' k h=>⟨h.1.kept k,h.2⟩,mE,λv w w' k h=>by first | exact h | exact h.kept k | exact ⟨h.1,h.2.kept k⟩,λv w w' k h=>by first | exact h | exact h.kept k | exact ⟨h.1,h.2.kept k⟩,λv w w' k h=>by first | exact h | exact h.kept k | exact ⟨h.1,h.2.kept k⟩,mE,mE,mE,mE,mE,mE,mE,mE,mE,mE,mE,mE,λv w w' k h=>by first | exact h | exact h.kept k | exact ⟨h.1,h.2.kept k⟩,trivial⟩⟩) (by exact ⟨
    (rZ 1 λ_ k=>Bt HG.o.k k (by simp) 0 _ rfl),(rZ 0 λ_ k=>Bt HG.o.b k (by simp) 0 _ rfl),(kp λ_ aF wF F=>by have s20:=F.v 0 20;have s21:=F.v 1 21;exact sQ (WI.o _) λ_ _ h=>h),(kv 2 22),(kp λ_ aF wF F=>by have FK:=F.frame.1;have s2:=F.q 2 (.pointer (some ⟨bF,0,none⟩));have c0:=Bt HG.o.f FK (by simp) 0 _ rfl;have c1:=Bt HG.o.f FK (by simp) 1 _ rfl;exact Dz rfl rfl (F.v 3 23) rfl),(kp λ_ aF wF F=>by have FK:=F.frame.1;have s3:=F.q 3 (.pointer (some ⟨bX,0,none⟩));have c0:=Bt HG.o.x FK (by simp) 0 _ rfl;exact Dz rfl rfl (F.v 3 23) rfl),(kp λ_ aF wF F=>by have s25:=F.v 5 25;exact Dz rfl rfl (F.v 3 23) rfl),(kp λ_ aF wF F=>by have FK:=F.frame.1;have s4:=F.q 4 (.pointer (some ⟨bP,0,none⟩));have c0:=Bt HG.o.p FK (by simp) 0 _ rfl;exact Dz rfl rfl (F.v 3 23) rfl),(kp λ_ aF wF F=>by have s27:=F.v 7 27;exact Dz rfl rfl (F.v 3 23) rfl),(kp λ_ aF wF F=>by have FK:=F.frame.1;have s24:=F.v 4 24;have s26:=F.v 6 26;have s28:=F.v 8 28;have sg:=F.v 3 23;exact Ax ((Am rfl rfl sg).trans rfl) (by go_simp) (MT.o _ (K.o.trans FK.nil)) (λ_ _ h=>RetK.good h) (λ_ _ h=>h)),(lC 3 23 9 29),(kv 10 30),(kp λ_ aF wF F=>by have s2:=F.q 2 (.pointer (some ⟨bF,0,none⟩));exact Dz rfl rfl (F.v 11 31) rfl),(kp λ_ aF wF F=>by have FK:=F.frame.1;have s32:=F.v 12 32;have c0:=Bt HG.o.f FK (by simp) 1 _ rfl;exact Dz rfl rfl (F.v 11 31) rfl),(kp λ_ aF wF F=>by have s33:=F.v 13 33;exact Dz rfl rfl (F.v 11 31) rfl),(kp λ_ aF wF F=>by have FK:=F.frame.1;have s3:=F.q 3 (.pointer (some ⟨bX,0,none⟩));have c0:=Bt HG.o.x FK (by simp) 0 _ rfl;exact Dz rfl rfl (F.v 11 31) rfl),(kp λ_ aF wF F=>by have s35:=F.v 15 35;exact Dz rfl rfl (F.v 11 31) rfl),(kp λ_ aF wF F=>by have s34:=F.v 14 34;have s36:=F.v 16 36;exact Dz rfl rfl (F.v 11 31) rfl),(lC 11 31 17 37),(kv 18 38),(kp λ_ aF wF F=>by have FK:=F.frame.1;have s3:=F.q 3 (.pointer (some ⟨bX,0,none⟩));have c0:=Bt HG.o.x FK (by simp) 0 _ rfl;exact Dz rfl rfl (F.v 19 39) rfl),(kp λ_ aF wF F=>by have FK:=F.frame.1;have s40:=F.v 20 40;have sg:=F.v 19 39;exact Ax ((Am rfl rfl sg).trans rfl) (by go_simp) (CLN.o _ (K.o.trans FK.nil)) (λ_ _ h=>by obtain ⟨k9,v9,e9,o9,t9⟩:=h;exact ⟨v9,e9,k9,o9.low FK.size,t9⟩) (λ_ _ h=>h)),(kp λ_ aF wF F=>by have FK:=F.frame.1;have s5:=F.q 5 (.pointer (some ⟨bT,0,none⟩));obtain ⟨c0,c1,c2,c3,c4,c5⟩:=sM HG.o.t FK (by simp);exact Dz rfl rfl (F.v 19 39) rfl),(kp λ_ aF wF F=>by have s42:=F.v 22 42;simp only [Cv] at s42;have sg:=F.v 19 39;exact K8 ((Am rfl rfl sg).trans rfl) (by first | (go_simp;done) | (go_simp;rfl)) (Ab _ _) ⟨_,rfl,Ea _ _ _ _ _ _ _⟩),(.inr λLF aF wF F=>by have FK:=F.frame.1;have s41:=F.p 21 41;have s43:=F.p 23 43;have sg:=F.v 19 39;obtain ⟨b3,e3,hb3⟩:=s43;obtain ⟨v',w',-,hrr,hoo,hgg,hsm,hhd,hss,-⟩:=Td 31 s41.1 s41.2 (by omega) FK.size hb3 (HIW.o.kb FK);exact Ps ((Am rfl rfl sg).trans rfl) (Pd (.tmp 41) (.tmp 43) _ rfl rfl e3 hrr) ⟨FK.grown hgg (λg hg'=>.inr (s41.1.base g hg')) s41.1.blk,trivial⟩ (Ii _ ⟨vR,vR,vR,vR,vR,vR,vR,vR,vR,vR,vR,vR,vR,vR,vR,vR,vR,vR,vR,vR,vR,.inr (λu h=>by first | exact h | exact ⟨hss _ h.1,h.2⟩ | exact hss _ h | exact BoxJ.stab h hsm | exact RowB.stab h hsm hhd | exact OneR.stab h hsm),vR,.inr (λu h=>by first | exact h | exact ⟨hss _ h.1,h.2⟩ | exact hss _ h | exact BoxJ.stab h hsm | exact RowB.stab h hsm hhd | exact OneR.stab h hsm),.inl rfl,.inr (λu h=>by first | exact h | exact ⟨hss _ h.1,h.2⟩ | exact hss _ h | exact BoxJ.stab h hsm | exact RowB.stab h hsm hhd | exact OneR.stab h hsm),vR,vR,vR,vR,vR,vR,vR,vR,vR,vR,vR,vR,.inr (λu h=>by first | exact h | exact ⟨hss _ h.1,h.2⟩ | exact hss _ h | exact BoxJ.stab h hsm | exact RowB.stab h hsm hhd | exact OneR.stab h hsm),trivial⟩) hoo),(kp λ_ aF wF F=>by have s44:=F.p 24 44;have sg:=F.v 19 39;obtain ⟨g8,cap8,e8,hc8,-,hh8⟩:=s44.headCell (by simp);simp only [Cv] at e8;exact K8 ((Am rfl rfl sg).trans rfl) (by first | (go_simp;done) | (go_simp;rfl)) (Ab _ _) ⟨_,g8,cap8,rfl,heap_alloc_new _ _,hc8,λj u hj=>((Ab _ _).cell (p:=⟨g8,j,none⟩) (Av (hh8 j u hj))).trans (hh8 j u hj)⟩),(kp λ_ aF wF F=>by have FK:=F.frame.1;have s3:=F.q 3 (.pointer (some ⟨bX,0,none⟩));have c0:=Bt HG.o.x FK (by simp) 0 _ rfl;exact Dz rfl rfl (F.v 19 39) rfl),(kp λ_ aF wF F=>by have s46:=F.v 26 46;exact Dz rfl rfl (F.v 19 39) rfl),(kp λ_ aF wF F=>by have FK:=F.frame.1;have s45:=F.p 25 45;have s47:=F.v 27 47;have sg:=F.v 19 39;exact Ax ((Am rfl rfl sg).trans rfl) (by go_simp) (F1.o _ (K.o.trans FK.nil) _ s45) (λ_ _ h=>RetK.good h) (λ_ _ h=>h)),(lC 19 39 28 48),(kv 29 49),(kp λ_ aF wF F=>by have sg:=F.v 30 50;exact Jt ((Am rfl rfl sg).trans rfl) rfl),(kp λ_ aF wF F=>by have sg:=F.v 30 50;exact Jt ((Am rfl rfl sg).trans rfl) rfl),(kp λ_ aF wF F=>by have sg:=F.v 30 50;exact Jt ((Am rfl rfl sg).trans rfl) rfl),(kp λ_ aF wF F=>by have sg:=F.v 30 50;exact Jt ((Am rfl rfl sg).trans rfl) rfl),(kp λ_ aF wF F=>by have sg:=F.v 30 50;exact Jt ((Am rfl rfl sg).trans rfl) rfl),(kp λ_ aF wF F=>by have sg:=F.v 30 50;exact Jt ((Am rfl rfl sg).trans rfl) rfl),(lC 30 50 36 56),(kp λ_ aF wF F=>by have FK:=F.frame.1;have s57:=F.v 37 57;exact Gb (by simp [Region.wanted]) (by go_simp) (Rb false 1 _) (λe w2 h=>h.elim (λ⟨v,he,hk,hb,_⟩=>absurd hb (by decide)) (λ⟨c,he,h0,hc,hw2⟩=>.inr ⟨c,he,F.defers,by subst hc;exact BAD.o w2 (hw2▸(K.o.trans FK.nil))⟩))),
    trivial⟩) ?_
 intro u w2 L1 hL j1 hu;obtain ⟨qr2,j1⟩:=j1;have p41:=hp hu 21;have p43:=hp hu 23;have p44:=hp hu 24;have p45:=hp hu 25;have p58:=hp hu 38;simp only [Bb,Ap,Act.put,Ep,hv hu 0,hv hu 1,hv hu 2,hv hu 3,hv hu 4,hv hu 5,hv hu 6,hv hu 7,hv hu 8,hv hu 9,hv hu 10,hv hu 11,hv hu 12,hv hu 13,hv hu 14,hv hu 15,hv hu 16,hv hu 17,hv hu 18,hv hu 19,hv hu 20,hv hu 22,hv hu 26,hv hu 27,hv hu 28,hv hu 29,hv hu 30,hv hu 31,hv hu 32,hv hu 33,hv hu 34,hv hu 35,hv hu 36,hv hu 37];clear hu;generalize u 21=v41,u 23=v43,u 24=v44,u 25=v45,u 38=v58 at *;exact p58.elim
theorem kI {S:Int->Prop}(O:H8 S)(h9:S 9)(hB:SvG w bB bK bF bX bP bT s (.slice oA nx oc) (.slice AX nx cx) (.slice AP nq cq) t0 t1 t2 t3 t4 t5 k p)
 (hx:IvS w (.slice AX nx cx) x) (hq:IvS w (.slice AP nq cq) q) (hI:IvR w (.agg #[t0,t1,t2,t3,t4,t5]) t) (hnx:x.length=nx) (hnq:q.length=nq) (n8:nx<=100) (n9:nq<=100) (lx:∀ a∈x,a.lens 17592186044416) (lq:∀ a∈q,a.lens 17592186044416) (lt:t.lens 17592186044416)
 (hv:TpR w (.agg #[s,.slice oA nx oc]) ls outs) (hok:Ru ls) (hn:ls.length<=200) (hno:outs.length<=200) (hol:outs.length=nx) (hor:∀ n∈outs,0<=n/\n<(ls.length:Int)) (hw:Eg k p=true) (hm:Iy ls outs nx 0 nq=true) (hf:Li [x++[t]] nx=true)
 (hL:q.all Dl=true->∀ n rows,n<k->rows.length=nx->GdR n rows->∀ i l,ls[i]?=some l->Xx true ov p n ((Hg t k).take (n+1)) rows (q.map λa=>Bs a n) i l)
 {R:Outc (List (List RawI))} (hR:q.all Dl=true->R=if (D6 p x []).k=0 then Cu ov p ls outs (Hg t k) q (D6 p x []).v (List.range' 0 k) else ⟨[],(D6 p x []).k⟩) (hR0:q.all Dl=false->R=⟨[],1⟩) (hT:Tab w) :
 Calls Tryz.prog 54 #[.pointer (some ⟨bB,0,none⟩),.pointer (some ⟨bK,0,none⟩),.pointer (some ⟨bF,0,none⟩),.pointer (some ⟨bX,0,none⟩),.pointer (some ⟨bP,0,none⟩),.pointer (some ⟨bT,0,none⟩)] w (Hn R w):=by
 have hall:(x++[t]).all Dl=true:=by
  unfold Li at hf;simp only [List.all_cons,List.all_nil,Bool.and_true,Bool.and_eq_true] at hf;exact hf.2
 have kp:k<=12/\1<=p/\p<=300:=by
  unfold Eg at hw;simp only [Bool.and_eq_true,decide_eq_true_eq] at hw;omega
 obtain ⟨k12,p1,p2⟩:=kp;obtain ⟨cs,hcs⟩:=hx.cellsI;have WI:=Ad (λw1=>show Calls Tryz.prog 46 #[.int .i64 (k:Int),.int .i64 (p:Int)] w1 (RetQ (.bool true) w1) by have:=Rp w1 k p;rwa [hw] at this);have MT:=Ad (λw1 (q:Kept w w1)=>show Calls Tryz.prog 47 #[.agg #[s,.slice oA nx oc],.int .i64 (nx:Int),.int .i64 0,.int .i64 (nq:Int)] w1 (RetK (.bool true) w1) by have:=Yv (hv.kept q) hok (by omega) (by omega) (x:=nx) (u:=0) (p:=nq) (by omega) (by omega) (by omega);rwa [hm] at this);have CLN:=Ad (λw1 (q:Kept w w1)=>W9 (hcs.kept q) (by omega));have F1:=Ad (λw1 (q:Kept w w1) v (h:RowB w1 v (x++[t]).length (cs++[t0,t1,t2,t3,t4,t5]))=>show Calls Tryz.prog 48 #[v,.int .i64 (nx:Int)] w1 (RetK (.bool true) w1) by
  have hc:=cZ (k:=nx) (h.rws ((hcs.kept q).snoc (hI.kept q))) (by simp) (by
   intro r hr;simp only [List.mem_singleton] at hr;subst hr;refine ⟨by simp;omega,λd hd=>?_⟩;rcases List.mem_append.1 hd with hd | hd
   ·exact lx d hd
   ·simp only [List.mem_singleton] at hd;subst hd;exact lt) (by omega) (by omega)
  rwa [hf] at hc)
 obtain ⟨W,hW,kW,bW⟩:=cF w p;have HW:=Ad hW;have K:=Ad kW;have cB:=Ae hB.b 0 _ rfl;have HG:=Ad (hB.kept kW);have HIW:=Ad (hI.kept kW);obtain ⟨fp,hfp⟩:∃ fp,q.all Dl=fp:=⟨_,rfl⟩;have F2:=Ad (λw1 (k:Kept w w1) v (h:OneR w1 v (.slice AP nq cq))=>show Calls Tryz.prog 48 #[v,.int .i64 ((nq:Int)-1)] w1 (RetK (.bool fp) w1) by
  have hc:=cZ (k:=(nq:Int)-1) (h.rws (hq.kept k)) (by simp) (by
   intro r hr;simp only [List.mem_singleton] at hr;subst hr;exact ⟨by omega,lq⟩) (by omega) (by omega)
  rwa [show Li [q] ((nq:Int)-1)=fp by rw [<-hfp];unfold Li;simp [hnq]] at hc)
 have HW1:Hid (IntKind.i64.wrap ((nq:Int)-1)=(nq:Int)-1):=Ad (by simp [IntKind.wrap_i64];omega);have BAD:=Ad (λ(h:fp=false) w1 (k:Kept w w1)=>show Hn R w (.panicked (By 106 1)) w1 by
  rw [hR0 (by rw [hfp,h])];exact ⟨k,.inr ⟨by decide,rfl⟩⟩)
 rw [hfp] at hL hR;have HL:=Ad hL;have HR:=Ad hR;have HQ:=Ad hq;have HV:=Ad hv;have T:=Ad hT;have HOR:=Ad hor;have HOL:=Ad hol;have HNO:=Ad hno;have HN:=Ad hn;have OO:=Ad O;have HI:=Ad hI;have FQ:=Ad hfp;have GX0:Gd x:=hcs.clean (by rw [List.all_append,Bool.and_eq_true] at hall;exact hall.1);have GX:=Ad GX0;have gt0:t.iv.Ok/\t.iv.raw=t:=hI.clean (by rw [List.all_append,Bool.and_eq_true] at hall;simpa using hall.2);have GT:=Ad gt0;have HX:=Ad hx;have HNX:=Ad hnx;have HNQ:=Ad hnq;have bW0:=bW;have BW:=Ad bW;clear hW kW hB hx hI hv hok hw hm hf lx lt hq lq hL hR hR0 hT hor O hcs hall bW bW0 GX0 gt0
 go_enter Tryz.func54,Tryz.ntmps54;go_upto_region 2 with fail;rw [<-HW.o];clear HW cB
 refine rK 39 (λi=>i==24) ([]) (λL w'=>True) ([(vE (.int .i64 (k:Int))),(vE (.int .i64 (p:Int))),(vE (.bool true)),(vE (.bool true)),(vE (.agg #[s,.slice oA nx oc])),(vE (.slice AX nx cx)),(vE (.int .i64 (nx:Int))),(vE (.slice AP nq cq)),(vE (.int .i64 (nq:Int))),(vE (.bool true)),(vE (.bool true)),(vE (.bool true)),(vP bF 1),(vE (.slice oA nx oc)),(vE (.int .i64 (nx:Int))),(vE (.slice AX nx cx)),(vE (.int .i64 (nx:Int))),(vE (.bool true)),(vE (.bool true)),(vE (.bool true)),(vE (.slice AX nx cx)),(λv wv=>OwnI wv W.heap.size v x cs/\ep v x),(vE (.agg #[t0,t1,t2,t3,t4,t5])),(λv wv=>BoxJ wv v t0 t1 t2 t3 t4 t5),(λv wv=>OwnI wv W.heap.size v (x++[t]) (cs++[t0,t1,t2,t3,t4,t5])),(λv wv=>RowB wv v (x++[t]).length (cs++[t0,t1,t2,t3,t4,t5])),(vE (.slice AX nx cx)),(vE (.int .i64 (nx:Int))),(vE (.bool true)),(vE (.bool true)),(vE (.bool true)),(vE (.slice AP nq cq)),(λv wv=>OneR wv v (.slice AP nq cq)),(vE (.slice AP nq cq)),(vE (.int .i64 (nq:Int))),(vE (.int .i64 ((nq:Int)-1))),(vE (.bool fp)),(vE (.bool fp)),(λv _=>fp=true/\v=v)])
  (λi hE L w w' kq fj=>by trivial) (trivial) (hM:=⟨⟨mE,mE,mE,mE,mE,mE,mE,mE,mE,mE,mE,mE,mE,mE,mE,mE,mE,mE,mE,mE,mE,λv w w' k h=>⟨h.1.kept k,h.2⟩,mE,λv w w' k h=>by first | exact h | exact h.kept k | exact ⟨h.1,h.2.kept k⟩,λv w w' k h=>by first | exact h | exact h.kept k | exact ⟨h.1,h.2.kept k⟩,λv w w' k h=>by first | exact h | exact h.kept k | exact ⟨h.1,h.2.kept k⟩,mE,mE,mE,mE,mE,mE,λv w w' k h=>by first | exact h | exact h.kept k | exact ⟨h.1,h.2.kept k⟩,mE,mE,mE,mE,mE,λv w w' k h=>by first | exact h | exact h.kept k | exact ⟨h.1,h.2.kept k⟩,trivial⟩⟩) (by exact ⟨
    (rZ 1 λ_ k=>Bt HG.o.k k (by simp) 0 _ rfl),(rZ 0 λ_ k=>Bt HG.o.b k (by simp) 0 _ rfl),(kp λ_ aF wF F=>by have s20:=F.v 0 20;have s21:=F.v 1 21;exact sQ (WI.o _) λ_ _ h=>h),(kv 2 22),(kp λ_ aF wF F=>by have FK:=F.frame.1;have s2:=F.q 2 (.pointer (some ⟨bF,0,none⟩));have c0:=Bt HG.o.f FK (by simp) 0 _ rfl;have c1:=Bt HG.o.f FK (by simp) 1 _ rfl;exact Dz rfl rfl (F.v 3 23) rfl),(kp λ_ aF wF F=>by have FK:=F.frame.1;have s3:=F.q 3 (.pointer (some ⟨bX,0,none⟩));have c0:=Bt HG.o.x FK (by simp) 0 _ rfl;exact Dz rfl rfl (F.v 3 23) rfl),(kp λ_ aF wF F=>by have s25:=F.v 5 25;exact Dz rfl rfl (F.v 3 23) rfl),(kp λ_ aF wF F=>by have FK:=F.frame.1;have s4:=F.q 4 (.pointer (some ⟨bP,0,none⟩));have c0:=Bt HG.o.p FK (by simp) 0 _ rfl;exact Dz rfl rfl (F.v 3 23) rfl),(kp λ_ aF wF F=>by have s27:=F.v 7 27;exact Dz rfl rfl (F.v 3 23) rfl),(kp λ_ aF wF F=>by have FK:=F.frame.1;have s24:=F.v 4 24;have s26:=F.v 6 26;have s28:=F.v 8 28;have sg:=F.v 3 23;exact Ax ((Am rfl rfl sg).trans rfl) (by go_simp) (MT.o _ (K.o.trans FK.nil)) (λ_ _ h=>RetK.good h) (λ_ _ h=>h)),(lC 3 23 9 29),(kv 10 30),(kp λ_ aF wF F=>by have s2:=F.q 2 (.pointer (some ⟨bF,0,none⟩));exact Dz rfl rfl (F.v 11 31) rfl),(kp λ_ aF wF F=>by have FK:=F.frame.1;have s32:=F.v 12 32;have c0:=Bt HG.o.f FK (by simp) 1 _ rfl;exact Dz rfl rfl (F.v 11 31) rfl),(kp λ_ aF wF F=>by have s33:=F.v 13 33;exact Dz rfl rfl (F.v 11 31) rfl),(kp λ_ aF wF F=>by have FK:=F.frame.1;have s3:=F.q 3 (.pointer (some ⟨bX,0,none⟩));have c0:=Bt HG.o.x FK (by simp) 0 _ rfl;exact Dz rfl rfl (F.v 11 31) rfl),(kp λ_ aF wF F=>by have s35:=F.v 15 35;exact Dz rfl rfl (F.v 11 31) rfl),(kp λ_ aF wF F=>by have s34:=F.v 14 34;have s36:=F.v 16 36;exact Dz rfl rfl (F.v 11 31) rfl),(lC 11 31 17 37),(kv 18 38),(kp λ_ aF wF F=>by have FK:=F.frame.1;have s3:=F.q 3 (.pointer (some ⟨bX,0,none⟩));have c0:=Bt HG.o.x FK (by simp) 0 _ rfl;exact Dz rfl rfl (F.v 19 39) rfl),(kp λ_ aF wF F=>by have FK:=F.frame.1;have s40:=F.v 20 40;have sg:=F.v 19 39;exact Ax ((Am rfl rfl sg).trans rfl) (by go_simp) (CLN.o _ (K.o.trans FK.nil)) (λ_ _ h=>by obtain ⟨k9,v9,e9,o9,t9⟩:=h;exact ⟨v9,e9,k9,o9.low FK.size,t9⟩) (λ_ _ h=>h)),(kp λ_ aF wF F=>by have FK:=F.frame.1;have s5:=F.q 5 (.pointer (some ⟨bT,0,none⟩));obtain ⟨c0,c1,c2,c3,c4,c5⟩:=sM HG.o.t FK (by simp);exact Dz rfl rfl (F.v 19 39) rfl),(kp λ_ aF wF F=>by have s42:=F.v 22 42;simp only [Cv] at s42;have sg:=F.v 19 39;exact K8 ((Am rfl rfl sg).trans rfl) (by first | (go_simp;done) | (go_simp;rfl)) (Ab _ _) ⟨_,rfl,Ea _ _ _ _ _ _ _⟩),(.inr λLF aF wF F=>by have FK:=F.frame.1;have s41:=F.p 21 41;have s43:=F.p 23 43;have sg:=F.v 19 39;obtain ⟨b3,e3,hb3⟩:=s43;obtain ⟨v',w',-,hrr,hoo,hgg,hsm,hhd,hss,-⟩:=Td 31 s41.1 s41.2 (by omega) FK.size hb3 (HIW.o.kb FK);exact Ps ((Am rfl rfl sg).trans rfl) (Pd (.tmp 41) (.tmp 43) _ rfl rfl e3 hrr) ⟨FK.grown hgg (λg hg'=>.inr (s41.1.base g hg')) s41.1.blk,trivial⟩ (Ii _ ⟨vR,vR,vR,vR,vR,vR,vR,vR,vR,vR,vR,vR,vR,vR,vR,vR,vR,vR,vR,vR,vR,.inr (λu h=>by first | exact h | exact ⟨hss _ h.1,h.2⟩ | exact hss _ h | exact BoxJ.stab h hsm | exact RowB.stab h hsm hhd | exact OneR.stab h hsm),vR,.inr (λu h=>by first | exact h | exact ⟨hss _ h.1,h.2⟩ | exact hss _ h | exact BoxJ.stab h hsm | exact RowB.stab h hsm hhd | exact OneR.stab h hsm),.inl rfl,.inr (λu h=>by first | exact h | exact ⟨hss _ h.1,h.2⟩ | exact hss _ h | exact BoxJ.stab h hsm | exact RowB.stab h hsm hhd | exact OneR.stab h hsm),vR,vR,vR,vR,vR,vR,.inr (λu h=>by first | exact h | exact ⟨hss _ h.1,h.2⟩ | exact hss _ h | exact BoxJ.stab h hsm | exact RowB.stab h hsm hhd | exact OneR.stab h hsm),vR,vR,vR,vR,vR,.inr (λu h=>by first | exact h | exact ⟨hss _ h.1,h.2⟩ | exact hss _ h | exact BoxJ.stab h hsm | exact RowB.stab h hsm hhd | exact OneR.stab h hsm),trivial⟩) hoo),(kp λ_ aF wF F=>by have s44:=F.p 24 44;have sg:=F.v 19 39;obtain ⟨g8,cap8,e8,hc8,-,hh8⟩:=s44.headCell (by simp);simp only [Cv] at e8;exact K8 ((Am rfl rfl sg).trans rfl) (by first | (go_simp;done) | (go_simp;rfl)) (Ab _ _) ⟨_,g8,cap8,rfl,heap_alloc_new _ _,hc8,λj u hj=>((Ab _ _).cell (p:=⟨g8,j,none⟩) (Av (hh8 j u hj))).trans (hh8 j u hj)⟩),(kp λ_ aF wF F=>by have FK:=F.frame.1;have s3:=F.q 3 (.pointer (some ⟨bX,0,none⟩));have c0:=Bt HG.o.x FK (by simp) 0 _ rfl;exact Dz rfl rfl (F.v 19 39) rfl),(kp λ_ aF wF F=>by have s46:=F.v 26 46;exact Dz rfl rfl (F.v 19 39) rfl),(kp λ_ aF wF F=>by have FK:=F.frame.1;have s45:=F.p 25 45;have s47:=F.v 27 47;have sg:=F.v 19 39;exact Ax ((Am rfl rfl sg).trans rfl) (by go_simp) (F1.o _ (K.o.trans FK.nil) _ s45) (λ_ _ h=>RetK.good h) (λ_ _ h=>h)),(lC 19 39 28 48),(kv 29 49),(kp λ_ aF wF F=>by have FK:=F.frame.1;have s4:=F.q 4 (.pointer (some ⟨bP,0,none⟩));have c0:=Bt HG.o.p FK (by simp) 0 _ rfl;exact Dz rfl rfl (F.v 30 50) rfl),(kp λ_ aF wF F=>by have s51:=F.v 31 51;simp only [Cv] at s51;have sg:=F.v 30 50;exact K8 ((Am rfl rfl sg).trans rfl) (by first | (go_simp;done) | (go_simp;rfl)) (Ab _ _) ⟨_,rfl,heap_alloc_new _ _⟩),(kp λ_ aF wF F=>by have FK:=F.frame.1;have s4:=F.q 4 (.pointer (some ⟨bP,0,none⟩));have c0:=Bt HG.o.p FK (by simp) 0 _ rfl;exact Dz rfl rfl (F.v 30 50) rfl),(kp λ_ aF wF F=>by have s53:=F.v 33 53;exact Dz rfl rfl (F.v 30 50) rfl),(kp λ_ aF wF F=>by have s54:=F.v 34 54;have sg:=F.v 30 50;exact Bc ((Am rfl rfl sg).trans rfl) (by (have hw9:=HW1.o;go_simp)) rfl),(kp λ_ aF wF F=>by have FK:=F.frame.1;have s52:=F.p 32 52;have s55:=F.v 35 55;have sg:=F.v 30 50;exact Ax ((Am rfl rfl sg).trans rfl) (by go_simp) (F2.o _ (K.o.trans FK.nil) _ s52) (λ_ _ h=>RetK.good h) (λ_ _ h=>h)),(lC 30 50 36 56),(kp λ_ aF wF F=>by have FK:=F.frame.1;have s57:=F.v 37 57;exact Gb (by simp [Region.wanted]) (by go_simp) (Rb fp 1 _) (λe w2 h=>h.elim (λ⟨v,he,hk,hb,_⟩=>.inl ⟨v,he,hk,hb,rfl⟩) (λ⟨c,he,h0,hc,hw2⟩=>.inr ⟨c,he,F.defers,by subst hc;exact BAD.o h0 w2 (hw2▸(K.o.trans FK.nil))⟩))),
    trivial⟩) ?_
 intro u w2 L1 hL j1 hu;obtain ⟨qr2,j1⟩:=j1;have p41:=hp hu 21;have p43:=hp hu 23;have p44:=hp hu 24;have p45:=hp hu 25;have p52:=hp hu 32;have p58:=hp hu 38;simp only [Bb,Ap,Act.put,Ep,hv hu 0,hv hu 1,hv hu 2,hv hu 3,hv hu 4,hv hu 5,hv hu 6,hv hu 7,hv hu 8,hv hu 9,hv hu 10,hv hu 11,hv hu 12,hv hu 13,hv hu 14,hv hu 15,hv hu 16,hv hu 17,hv hu 18,hv hu 19,hv hu 20,hv hu 22,hv hu 26,hv hu 27,hv hu 28,hv hu 29,hv hu 30,hv hu 31,hv hu 33,hv hu 34,hv hu 35,hv hu 36,hv hu 37];clear hu;generalize u 21=v41,u 23=v43,u 24=v44,u 25=v45,u 32=v52,u 38=v58 at *;obtain rfl:fp=true:=p58.1
 clear p41 p43 p44 p45 p52 p58 BAD F1 F2 HW1 CLN MT WI HIW;have K2:=Ad (K.o.trans qr2.nil);replace BW:=Ad (Ay BW.o qr2.nil);replace HG:=Ad (HG.o.kept qr2.nil);have CO:=Ad (λw1 (q:Kept w w1)=>Uc (k:=k) (HI.o.kept q) (by omega));have PT:=Ad (λw1 (q:Kept w w1) n (hn:n<1000)=>ar (n:=n) (by omega) (T.o.kept q));have CR:=Ad (λ(a:RawI) (ga:a.iv.Ok/\a.iv.raw=a) w1 (q:Kept w w1) v (hv:IvR w1 v a)=>show Calls Tryz.prog 59 #[v,.int .i64 (p:Int)] w1 (RetIE (Bn (Bk a.iv p)) w1) from Hd (show IvC w1 v a.iv by unfold IvC;rw [ga.2];exact hv) ga.1 (T.o.kept q) p1 (by omega))
 have HIo:=HI.o;clear qr2 K HI;obtain ⟨A1,l1,q1,A2,l2,q2,ei,-,-⟩:=Ar HIo;injection ei with ei;injection ei with ei
 simp only [List.cons.injEq,and_true] at ei;obtain ⟨rfl,rfl,rfl,rfl,rfl,rfl⟩:=ei;clear HIo;generalize hb7:w.heap.size=b7 at *;generalize htj:Hg t k=TJ at *;have HTJ:=Ad htj;clear htj;generalize t.lo.neg=zz1,t.lo.e=zz2,t.hi.neg=zz3,t.hi.e=zz4 at *;obtain ⟨-,m0,m1,m2,m3,m4,m5⟩:=HG.o.t.facts;have ck:=Ae HG.o.k 0 _ rfl;go_wp2_with fail;refine (CO.o _ K2.o).mono ?_;rintro e w3 ⟨q3,v3,ys,rfl,hts,how⟩;rcases how.2 with ⟨-,h0⟩ | ⟨gt,ct,cur,rfl,hgt,hcur,hnc,hcm,hcs9,-⟩
 ·omega
 have CUR:=Ad hcur;have GTB:=Ad hgt;have K3:=Ad q3;have HNC:=Ad hnc;have LT:(Bs t k).length=k+1:=by simp [Bs]
 have HTS:=Ad (show IvS w3 (.slice (some ⟨gt,0,none⟩) (Bs t k).length ct) (Bs t k) by rw [LT];exact hts);clear how hcur hgt q3 m0 m1 m2 m3 m4 m5 ck hnc hcm hcs9 hts;simp only [];have ck:=Ae (Ay HG.o.k K3.o) 0 _ rfl
 go_upto_if 63 with fail
 go_cut [] (λwx=>Kept w2 wx/\IvS wx (.slice (some ⟨gt,0,none⟩) (k+1) ct) TJ)
 case first =>
  go_wp2_with fail
  ·have hlt':0<k:=by omega
   have HK:=Ad hlt';clear hlt' ck;refine (show Calls Tryz.prog 57 #[.int .i64 1] w3 _ from PT.o _ (K2.o.trans K3.o) 1 (by decide)).mono ?_;rintro e w4 ⟨q4,v4,rfl,hv4⟩;obtain ⟨P1,l1',d1,P2,l2',d2,rfl,-,-⟩:=Ar hv4;have hst:=gP (i:=1) (Ay CUR.o q4) (HTS.o.kept q4) (by rw [LT];have:=HK.o;omega) (show IvR w4 (.agg #[.bool (Fm 1).raw.lo.neg,.slice P1 l1' d1,.int .i64 (Fm 1).raw.lo.e,.bool (Fm 1).raw.hi.neg,.slice P2 l2' d2,.int .i64 (Fm 1).raw.hi.e]) (Fm 1).raw from hv4);have c4:=Ay CUR.o q4;have hD:=HTS.o.kept q4;obtain ⟨A9,c9,e9,-,hA9⟩:=hD;injection e9 with e91 e92 e93
   obtain ⟨b9,o9,e94,hD9⟩:=hA9 (by rw [LT];omega);rw [<-e91] at e94;injection e94 with e94
   injection e94 with e95 e96
   subst e95;subst e96;obtain ⟨y0,y1,y2,y3,y4,y5,n0,n1,n2,n3,n4,n5,-⟩:=hD9 1 _ (Cd (by rw [LT];have:=HK.o;omega));simp only [Nat.zero_add,Nat.one_mul,Nat.reduceAdd] at n0 n1 n2 n3 n4 n5;have f0:=Aw c4 6;have f1:=Aw c4 7;have f2:=Aw c4 8;have f3:=Aw c4 9;have f4:=Aw c4 10;have f5:=Aw c4 11;have K4:=Ad (K3.o.trans q4);have ST:=Ad (show IvS (fX w4 gt 6 (.bool (Fm 1).raw.lo.neg) (.slice P1 l1' d1) (.int .i64 (Fm 1).raw.lo.e) (.bool (Fm 1).raw.hi.neg) (.slice P2 l2' d2) (.int .i64 (Fm 1).raw.hi.e)) (.slice (some ⟨gt,0,none⟩) (k+1) ct) TJ by
    have h:=hst.1;rw [<-HTJ.o];unfold Hg;rw [Ak HK.o];rw [LT] at h;exact h)
   clear c4 hv4 q4 hst hD9 hA9 e91 e92 e93;simp only [];go_wp2_with fail
   go_meet
   exact ⟨((((((K4.o.setCell (p:=⟨gt,6,none⟩) GTB.o _).setCell (p:=⟨gt,7,none⟩) GTB.o _).setCell (p:=⟨gt,8,none⟩) GTB.o _).setCell (p:=⟨gt,9,none⟩) GTB.o _).setCell (p:=⟨gt,10,none⟩) GTB.o _).setCell (p:=⟨gt,11,none⟩) GTB.o _),ST.o⟩
  ·have h0:k=0:=by omega
   have ST:=Ad (show IvS w3 (.slice (some ⟨gt,0,none⟩) (k+1) ct) TJ by
    have h:=HTS.o;rw [<-HTJ.o];unfold Hg;rw [Af (by omega)];rw [LT] at h;exact h)
   go_meet
   exact ⟨K3.o,ST.o⟩
 have KC:=Ad hcut.1;have TS:=Ad hcut.2;clear hcut ck CUR K3 GTB HTS LT CO HTJ;replace K2:=Ad (K2.o.trans KC.o);replace BW:=Ad (Ay BW.o KC.o);replace HG:=Ad (HG.o.kept KC.o);clear KC;obtain ⟨F0,hF0⟩:∃ F0,F0=D6 p x []:=⟨_,rfl⟩;have hR:=HR.o trivial;rw [<-hF0] at hR;have HFR:=Ad hR;have HF0:=Ad hF0;clear hR hF0 HR;obtain ⟨B8,hB8⟩:∃ B8,B8=wc.heap.size:=⟨_,rfl⟩;have HB8:=Ad hB8;have W8:=Ad (show b7<=B8 by rw [hB8,<-hb7];exact K2.o.size);clear hB8;have cx0:=Ae HG.o.x 0 _ rfl;go_wp2_with fail;clear cx0
 go_loopw [8,69] (λv8 ti wr=>∃ (i:Nat) (vs:List Value),ti=.int .i64 (i:Int)/\i<=nx/\OutS wr B8 v8 (Cj ((x.take i).map λa=>(Bk a.iv p).v.raw)) vs/\D6 p (x.drop i) (Cj ((x.take i).map λa=>(Bk a.iv p).v.raw))=F0/\Kept wc wr) (λ_ ti _=>(nx-intOf ti).toNat)
 case atStart=>exact ⟨0,[],rfl,Nat.zero_le _,OutS.nil _ _,HF0.o.symm,Below.refl _ _⟩
 case round =>
  obtain ⟨i,vs,rfl,hi,hout,hfj,hkr⟩:=hrel;have OUT:=Ad hout;have HFJ:=Ad hfj;have KR:=Ad hkr;clear hout hfj hkr;by_cases hlt:i<nx
  ·obtain ⟨a,ha⟩:∃ a,x[i]?=some a:=⟨_,Cd (by have:=HNX.out;omega)⟩;have ga:=GX.out a (Dc ha);obtain ⟨rr,hrr⟩:∃ rr,rr=Bk a.iv p:=⟨_,rfl⟩;have hst:=aj (p:=p) (o:=Cj ((x.take i).map fun a=>(Bk a.iv p).v.raw)) ha;rw [HFJ.out,←hrr] at hst;have hZ:Cj ((x.take (i+1)).map fun a=>(Bk a.iv p).v.raw)=Cj ((x.take i).map fun a=>(Bk a.iv p).v.raw)++[[rr.v.raw]]:=by
    rw [List.take_add_one,ha,hrr];simp [Cj]
   have BADR:=Ad (λw1 (k:Kept w w1) (h:rr.k≠0)=>show Hn R w (.panicked (By 106 rr.k)) w1 by
    rw [Af h] at hst;rw [HFR.o,hst,Af h];exact ⟨k,.inr ⟨h,rfl⟩⟩)
   have GO:=Ad (λ(h:rr.k=0)=>show D6 p (x.drop (i+1)) (Cj ((x.take (i+1)).map λa=>(Bk a.iv p).v.raw))=F0 by
    rw [Ak h] at hst;rw [hZ];exact hst.symm)
   have HZ:=Ad hZ;have CRA:=Ad (λw1 (k:Kept w w1) v (hv:IvR w1 v a)=>hrr▸CR.o a ga w1 k v hv);obtain ⟨A',c',eA,-,hA⟩:=HX.o;injection eA with eA1 eA2 eA3
   subst eA1;obtain ⟨bx,ox,rfl,hD⟩:=hA (by have:=HNX.o;omega);obtain ⟨y0,y1,y2,y3,y4,y5,g0,g1,g2,g3,g4,g5,hJ⟩:=(hD i a ha).kept (K2.o.trans KR.o);obtain ⟨B1,m1,d1,B2,m2,d2,ei,-,-⟩:=Ar hJ;injection ei with ei;injection ei with ei
   simp only [List.cons.injEq,and_true] at ei;obtain ⟨rfl,rfl,rfl,rfl,rfl,rfl⟩:=ei;obtain ⟨V5,hV5,kV5,bV5⟩:=iK wr (.bool a.lo.neg) (.slice B1 m1 d1) (.int .i64 a.lo.e) (.bool a.hi.neg) (.slice B2 m2 d2) (.int .i64 a.hi.e);have HV5:=Ad hV5;have K5:=Ad (KR.o.trans kV5);have B5:=Ad bV5;have HA:=Ad (hJ.kept kV5);have OUT5:=Ad (OUT.o.kept kV5);have hlen:(Cj ((x.take i).map λa=>(Bk a.iv p).v.raw)).length<=1000:=by
    simp only [Cj,List.length_map,List.length_take];omega
   generalize Cj ((x.take i).map λa=>(Bk a.iv p).v.raw)=rows0 at *;generalize hrn:Cj ((x.take (i+1)).map λa=>(Bk a.iv p).v.raw)=rows1 at *;have HRN:=Ad hrn;clear hV5 kV5 bV5 hJ hD hA eA2 eA3 hst hZ ga hrr ha hrn OUT HFJ KR;generalize a.lo.neg=e1,a.lo.e=e2,a.hi.neg=e3,a.hi.e=e4 at *;go_upto_region 10 with fail;rw [<-HV5.o];clear HV5 g0 g1 g2 g3 g4 g5;generalize wr.heap.size=b12 at *;obtain ⟨-,m0,m1',m2',m3,m4,m5⟩:=B5.o.facts;have cp:=Ae (Ay HG.o.b K5.o) 0 _ rfl;go_wp2_with fail;refine (CRA.o _ (K2.o.trans K5.o) _ HA.o).mono ?_
   rintro e w6 ⟨q6,v6,rfl,hv6⟩;obtain ⟨P6,l6,d6,R6,i6,j6,rfl,-,-⟩:=Ar hv6;have SU:=Ad (λw1 (q:Kept w6 w1)=>G0 (o:=rr) (hv6.kept q));have K6:=Ad (K5.o.trans q6);have OUT6:=Ad (OUT5.o.kept q6);clear m0 m1' m2' m3 m4 m5 cp B5 K5 CRA hv6 q6 OUT5 HA;simp only [];go_wp2_with fail;refine (SU.o _ (Below.refl _ _)).mono ?_;rintro e w7 ⟨q7,hq7⟩;rcases hq7 with ⟨h0,v7,rfl,hv7⟩ | ⟨h0,rfl⟩
   ·obtain ⟨P7,l7,d7,R7,i7,j7,rfl,-,-⟩:=Ar hv7;obtain ⟨w9,hw9⟩:∃ w9,w9=(w7.alloc (.cells #[.bool rr.v.raw.lo.neg,.slice P7 l7 d7,.int .i64 rr.v.raw.lo.e,.bool rr.v.raw.hi.neg,.slice R7 i7 j7,.int .i64 rr.v.raw.hi.e] 30)).alloc (.cells #[.slice (some ⟨w7.heap.size,0,none⟩) 1 1] 31):=⟨_,rfl⟩;have k9:Kept w7 w9:=by rw [hw9];exact (Ab _ _).trans (Ab _ _)
    have o9:OwnI w9 w7.heap.size (.slice (some ⟨w7.heap.size,0,none⟩) 1 1) [rr.v.raw] [.bool rr.v.raw.lo.neg,.slice P7 l7 d7,.int .i64 rr.v.raw.lo.e,.bool rr.v.raw.hi.neg,.slice R7 i7 j7,.int .i64 rr.v.raw.hi.e]:=by rw [hw9];exact (gF hv7).kept (Ab _ _)
    have c9':w9.cell? ⟨w7.heap.size+1,0,none⟩=some (.slice (some ⟨w7.heap.size,0,none⟩) 1 1):=by
     have:=Ae (heap_alloc_new (w7.alloc (.cells #[.bool rr.v.raw.lo.neg,.slice P7 l7 d7,.int .i64 rr.v.raw.lo.e,.bool rr.v.raw.hi.neg,.slice R7 i7 j7,.int .i64 rr.v.raw.hi.e] 30)) (.cells #[.slice (some ⟨w7.heap.size,0,none⟩) 1 1] 31)) 0 _ rfl;rw [<-hw9] at this;simpa using this
    have out7:=OUT6.o.kept q7;have K9:=Ad ((K6.o.trans q7).trans k9);have S87:B8<=w7.heap.size:=by rw [HB8.o];exact (K6.o.trans q7).size
    have S9:B8<=w9.heap.size:=Bp S87 k9.size;have FR:=Ad (And.intro (o9.low S87) (λ(j:Nat) (u:Value) (hu:vs[j]?=some u) (g:Nat) (hg:Value.ownBlock (.slice (some ⟨w7.heap.size,0,none⟩) 1 1)=some g) (e:u.ownBlock=some g)=>show False from absurd (out7.blt hu e).2 (Nat.not_lt.2 (o9.base g hg))));have OUT9:=Ad (out7.kept k9);have HW9:=Ad hw9;have C9:=Ad c9';have H0:=Ad h0;clear hw9 k9 o9 c9' q7 SU K6 hv7 out7 OUT6 h0;simp only []
    go_wp2_with (at_builtin;rw [<-HW9.o];refine Hm rfl (.tmp 73) (.tmp 81) rfl rfl OUT9.o.own FR.o.1.ivS C9.o rfl hlen S9 ?_;intro v' X OX gX)
    have OXS:=OUT9.o.snoc OX gX FR.o.1 (by simp) FR.o.2;rw [<-HZ.o] at OXS;have KX:=Ad (Below.grown K9.o gX K9.o.size (λg hg'=>by rw [<-HB8.o];exact OUT9.o.own.base g hg'));have OXX:=Ad OXS;clear OX gX OXS OUT9 FR C9 HW9 K9 S9 S87;go_wp2_with fail;go_roundw
    case rel=>exact ⟨i+1,_,by go_num,by omega,by rw [HRN.o];exact OXX.o,by rw [HRN.o];exact GO.o H0.o,KX.o⟩
    case measure=>simp [intOf];omega
   ·simp only [];exact ⟨rfl,BADR.o _ (K2.o.trans (K6.o.trans q7)) h0⟩
  ·obtain rfl:i=nx:=by omega
   have htk:x.take i=x:=Fq (by have:=HNX.o;omega);have out0:=OUT.o;have hf0:=HFJ.o;rw [htk] at out0 hf0;rw [cU (by have:=HNX.o;omega)] at hf0;have hR1:Cu ov p ls outs TJ q (Cj (x.map λa=>(Bk a.iv p).v.raw)) (List.range' 0 k)=R:=by
    rw [HFR.o,<-hf0,Ak rfl]
   have hgd0:GdR 0 (Cj (x.map λa=>(Bk a.iv p).v.raw)):=by
    intro r hr;unfold Cj at hr;obtain ⟨b,hb,rfl⟩:=List.mem_map.1 hr;obtain ⟨a,ha,rfl⟩:=List.mem_map.1 hb;exact ⟨gd_nil.snoc (D8 (GX.o a ha).1 p1).1,rfl⟩
   have hln0:(Cj (x.map λa=>(Bk a.iv p).v.raw)).length=i:=by simp [Cj,HNX.o]
   generalize Cj (x.map λa=>(Bk a.iv p).v.raw)=rows0 at *;have OUT0:=Ad out0;have R1:=Ad hR1;have GD0:=Ad hgd0;have LN0:=Ad hln0;clear out0 hf0 hR1 hgd0 hln0 htk OUT HFJ HF0 HFR CR HX GX hlt;generalize i=nx at *;have ck:=Ae (Ay HG.o.k KR.o) 0 _ rfl;go_wp2_with fail;clear ck
   go_loopw [85] (λtn wr=>∃ (n:Nat) (rows:List (List RawI)) (vs:List Value),tn=.int .i64 (n:Int)/\n<=k/\rows.length=nx/\GdR n rows/\Cu ov p ls outs TJ q rows (List.range' n (k-n))=R/\OutS wr B8 u8 rows vs/\Kept wc wr) (λtn _=>(k-intOf tn).toNat)
   case atStart=>exact ⟨0,rows0,vs,rfl,Nat.zero_le _,LN0.o,GD0.o,R1.o,OUT0.o,KR.o⟩
   case round =>
    obtain ⟨n,rows,vs',rfl,hnk,hrl,hgd,hsj,hout,hkr⟩:=hrel;have LNR:=Ad hrl;have GD:=Ad hgd;have SJ:=Ad hsj;have OUT:=Ad hout;have KN:=Ad hkr;clear hrl hgd hsj hout hkr OUT0 R1 GD0 LN0 KR;by_cases hlt:n<k
    ·obtain ⟨m,hm⟩:∃ m,k-n=m+1:=⟨k-n-1,by omega⟩;have HM:=Ad hm;have HLT:=Ad hlt;obtain ⟨S,hS⟩:∃ S,S=Cy ov p ls outs (TJ.take (n+1)) rows (q.map fun a=>Bs a n) n:=⟨_,rfl⟩;have hcase:=bM (m:=m) hS;have hsj:=SJ.out;rw [hm] at hsj;rw [hsj] at hcase;have SBAD:=Ad (fun w1 (k:Kept w w1) (h:S.k≠0)=>show Hn R w (.panicked (By 106 S.k)) w1 by
      rw [hcase.1 h];exact ⟨k,.inr ⟨h,rfl⟩⟩)
     have GBAD:=Ad hcase.2.1;have GGO:=Ad hcase.2.2;have hlin:=HL.o trivial n rows hlt LNR.o GD.o;have SG:=Ad (λ(h:S.k=0)=>And.intro (show GdR n S.v by rw [hS] at h ⊢;exact dJ hlin HOR.o h) (show S.v.length=nx by rw [hS] at h ⊢;rw [Ou h,HOL.o]));have CSR:=Ad (λw1 (kq:Kept w w1) v9 (h9':Rws w1 v9 (q.map λa=>Bs a n)) (hx':Rws w1 u8 rows) (ht':IvS w1 (.slice (some ⟨gt,0,none⟩) (n+1) ct) (TJ.take (n+1)))=>show Calls Tryz.prog 49 #[.agg #[.int .i64 (p:Int)],.agg #[s,.slice oA nx oc],.slice (some ⟨gt,0,none⟩) (n+1) ct,u8,v9,.int .i64 (n:Int)] w1 (ci S w1) by
      rw [hS];exact kD (tm:=true) (HV.o.kept kq) (λ_=>ht') hx' h9' hlin HOR.o HN.o HNO.o (by omega) (T.o.kept kq))
     clear hcase hsj hlin hS hm SJ;generalize hq9:(q.map λa=>Bs a n)=Q9 at *;have HQ9:=Ad hq9;clear hq9;have cp4:=Ae (Ay HG.o.p KN.o) 0 _ rfl;obtain ⟨V2,hV2⟩:∃ V2,V2=wr:=⟨wr,rfl⟩;subst hV2;go_wp2_with fail;clear cp4
     go_loopw [9,90] (λv9 ti wr=>∃ (i:Nat) (xs9:List Value),ti=.int .i64 (i:Int)/\i<=nq/\OwnR wr V2.heap.size v9 ((q.take i).map λa=>Bs a n) xs9/\Kept V2 wr) (λ_ ti _=>(nq-intOf ti).toNat)
     case atStart=>exact ⟨0,[],rfl,Nat.zero_le _,OwnR.nil _ _,Below.refl _ _⟩
     case round =>
      obtain ⟨i,xs9,rfl,hi,hown,hkr⟩:=hrel;have OWN:=Ad hown;have KR:=Ad hkr;clear hown hkr;by_cases hiq:i<nq
      ·obtain ⟨a,ha⟩:∃ a,q[i]?=some a:=⟨_,Cd (by have:=HNQ.out;omega)⟩;have hZ:(q.take (i+1)).map (fun a=>Bs a n)=(q.take i).map (fun a=>Bs a n)++[Bs a n]:=by
        rw [List.take_add_one,ha];simp
       have HZ:=Ad hZ;obtain ⟨A',c',eA,-,hA⟩:=HQ.o;injection eA with eA1 eA2 eA3
       subst eA1;obtain ⟨bx,ox,rfl,hD⟩:=hA (by have:=HNQ.o;omega);obtain ⟨y0,y1,y2,y3,y4,y5,g0,g1,g2,g3,g4,g5,hJ⟩:=(hD i a ha).kept (K2.o.trans (KN.o.trans KR.o));obtain ⟨B1,m1,d1,B2,m2,d2,ei,-,-⟩:=Ar hJ;injection ei with ei;injection ei with ei
       simp only [List.cons.injEq,and_true] at ei;obtain ⟨rfl,rfl,rfl,rfl,rfl,rfl⟩:=ei;obtain ⟨V5,hV5,kV5,bV5⟩:=iK wr (.bool a.lo.neg) (.slice B1 m1 d1) (.int .i64 a.lo.e) (.bool a.hi.neg) (.slice B2 m2 d2) (.int .i64 a.hi.e);have HV5:=Ad hV5;have K5:=Ad (KR.o.trans kV5);have B5:=Ad bV5;have CO:=Ad (Uc (k:=n) (hJ.kept kV5) (by omega));have OW5:=Ad (OWN.o.kept kV5);have hlen:((q.take i).map λa=>Bs a n).length<=1000:=by
        simp only [List.length_map,List.length_take];omega
       generalize ((q.take i).map λa=>Bs a n)=rows9 at *;generalize hrn:((q.take (i+1)).map λa=>Bs a n)=rows8 at *;have HRN:=Ad hrn;clear hV5 kV5 bV5 hJ hD hA eA2 eA3 hZ ha hrn OWN KR;generalize a.lo.neg=e1,a.lo.e=e2,a.hi.neg=e3,a.hi.e=e4 at *;go_upto_region 19 with fail;rw [<-HV5.o];clear HV5 g0 g1 g2 g3 g4 g5;generalize wr.heap.size=b12 at *;obtain ⟨-,m0,m1',m2',m3,m4,m5⟩:=B5.o.facts;go_wp2_with fail;refine CO.o.mono ?_;rintro e w4 ⟨q4,v4,ys,rfl,hs4,-⟩;have HS4:=Ad hs4;obtain ⟨A4,c4,rfl,-⟩:=hs4;have OW4:=Ad (OW5.o.kept q4)
       have K4:=Ad (K5.o.trans q4);have hW6:V2.heap.size<=w4.heap.size:=K4.o.size;clear m0 m1' m2' m3 m4 m5 B5 K5 CO OW5 q4;simp only []
       go_wp2_with (at_builtin;refine Hm rfl (.tmp 94) (.tmp 98) rfl rfl (OW4.o.kept (Ab _ _)) (HS4.o.kept (Ab _ _)) (Ae (heap_alloc_new _ _) 0 _ rfl) rfl hlen (Bp hW6 (by simp)) ?_;intro v' X OX gX)
       have KX:=Ad (OwnR.grown_kept (OW4.o.kept (Ab _ _)) (K4.o.trans (Ab _ _)) gX);rw [<-HZ.o] at OX;have OXX:=Ad OX;clear OX gX OW4 HS4 K4 hW6;go_wp2_with fail;go_roundw
       case rel=>exact ⟨i+1,_,by go_num,by omega,by rw [HRN.o];exact OXX.o,KX.o⟩
       case measure=>simp [intOf];omega
      ·obtain rfl:i=nq:=by omega
       have hpr:=OWN.o.all;rw [Fq (by have:=HNQ.o;omega),HQ9.o] at hpr;have PR:=Ad hpr;obtain ⟨V3,hV3⟩:∃ V3,V3=wr:=⟨wr,rfl⟩;subst hV3;have KV:=Ad (KN.o.trans KR.o);have OUT3:=Ad (OUT.o.kept KR.o);have TS3:=Ad (TS.o.kept KV.o);have HG3:=Ad (HG.o.kept KV.o);have BW3:=Ad (Ay BW.o KV.o);have LTJ:TJ.length=k+1:=by
        obtain ⟨A9,c9,e9,-⟩:=TS.o;injection e9 with e91 e92 e93
        exact e92.symm
       have TSN:=Ad (λw1 (kq:Kept V3 w1)=>show IvS w1 (.slice (some ⟨gt,0,none⟩) (n+1) ct) (TJ.take (n+1)) from (IvS.takeJ (l:=TJ) (by rw [LTJ];exact TS3.o) (by rw [LTJ];omega)).kept kq);have HWN:Hid (IntKind.i64.wrap ((n:Int)+1)=(n:Int)+1):=Ad (by simp [IntKind.wrap_i64];omega);have hnc2:n+1<=ct:=by have:=HNC.o;omega
       have SLN:=Ad (show ∀ h:S.k=0,S.v.length=nx from λh=>(SG.o h).2);clear hpr OWN OUT KR KN LTJ TS3;go_upto_region 21 with fail
       refine Sv 12 ([(vE (.agg #[.int .i64 (p:Int)])),(vE (.agg #[s,.slice oA nx oc])),(vE (.slice (some ⟨gt,0,none⟩) (k+1) ct)),(vE (.int .i64 (n:Int))),(vE (.int .i64 ((n:Int)+1))),(vE (.slice (some ⟨gt,0,none⟩) (n+1) ct)),(vE u8),(vE u9),(vE (.int .i64 (n:Int))),(λv wv=>S.k=0/\∃ xs,OutS wv V3.heap.size v S.v xs),(vE (.int .i64 (nx:Int))),(vE (.int .i64 0))])
        (hM:=⟨⟨mE,mE,mE,mE,mE,mE,mE,mE,mE,λv w w' k h=>⟨h.1,h.2.imp λ_ o=>o.kept k⟩,mE,mE,trivial⟩⟩) ⟨
          (E3 7 λ_ k=>Ai BW3.o k 0 _ rfl),(λaF wF F=>by have s2:=F.q 2 (.pointer (some ⟨bF,0,none⟩));have c0:=Ai HG3.o.f F.kept 0 _ rfl;have c1:=Ai HG3.o.f F.kept 1 _ rfl;exact sv rfl),(gq 10),(gq 13),(λaF wF F=>by have s104:=F.v 3 104;exact sw (by (have hw9:=HWN.o;go_simp)) rfl),(λaF wF F=>by have s103:=F.v 2 103;have s105:=F.v 4 105;exact sw (by (go_simp;omega)) rfl),(gq 8),(gq 9),(gq 13),(λaF wF F=>by have s101:=F.v 0 101;have s102:=F.v 1 102;have s106:=F.v 5 106;have s107:=F.v 6 107;have s108:=F.v 7 108;have s109:=F.v 8 109;exact Gb (by simp [Region.wanted]) (by go_simp) (CSR.o _ ((K2.o.trans KV.o).trans F.kept) _ (PR.o.kept F.kept) (OUT3.o.own.all.kept F.kept) (TSN.o _ F.kept)) (λe w2 h=>by obtain ⟨k9,h9'⟩:=h;rcases h9' with ⟨h0,v9,xs9,e9,r9⟩ | ⟨h0,e9⟩;exact .inl ⟨v9,e9,k9,h0,xs9,r9.low F.kept.size⟩;exact .inr ⟨_,e9,F.defers,SBAD.o _ (((K2.o.trans KV.o).trans F.kept).trans k9) h0⟩)),(λaF wF F=>by have s110:=F.p 9 110;exact sw (by obtain ⟨h0,xs0,o0⟩:=s110;obtain ⟨A9,c9',e9,-⟩:=o0.own.all;rw [SLN.o h0] at e9;go_simp) rfl),(λaF wF F=>by exact sv rfl),
          trivial⟩ ?_
       intro u w11 k11 hu;have p110:=hp hu 9;simp only [Bb,Ap,Act.put,Ep,hv hu 0,hv hu 1,hv hu 2,hv hu 3,hv hu 4,hv hu 5,hv hu 6,hv hu 7,hv hu 8,hv hu 10,hv hu 11];clear hu;generalize u 9=v110 at *;obtain ⟨h0,xsS,hos⟩:=p110;have OS:=Ad hos;have H0:=Ad h0;obtain ⟨gs1,gs2⟩:=SG.o h0;have SGD:=Ad gs1;have SLEN:=Ad gs2;have XB:=Ad OUT3.o.outB;have OUT4:=Ad (OUT3.o.kept k11);have KV4:=Ad (KV.o.trans k11);have SZ3:=Ad (show V3.heap.size<=w11.heap.size from k11.size);have BW4:=Ad (Ay BW3.o k11);have B78:=Ad (show b7<B8 by rw [HB8.o];exact (Bi BW.o).1)
       clear hos h0 gs1 gs2 k11 SG CSR SBAD PR OUT3 TSN BW3 HG3 SLN KV;go_wp2_with fail
       go_loopw [112] (λti wr=>∃ (i:Nat) (vs3:List Value),ti=.int .i64 (i:Int)/\i<=nx/\OutS wr B8 u8 (da p n rows S.v i) vs3/\(∀ j,j<i->(Cm (gI (S.v.getD j []) n) (Fm (n+1)) p).k=0)/\(∀ (j:Nat) (z:Value),i<=j->vs3[j]?=some z->vs'[j]?=some z)/\KB w11 (outB u8 vs') wr) (λti _=>(nx-intOf ti).toNat)
       case atStart=>exact ⟨0,vs',rfl,Nat.zero_le _,OUT4.o,(λj h=>absurd h (Nat.not_lt_zero j)),λ_ _ _ h=>h,KB.refl _ _⟩
       case round =>
        obtain ⟨i,vs3,rfl,hi,hout,hks,hvs,hkb⟩:=hrel;have OUT:=Ad hout;have KS:=Ad hks;have HVS:=Ad hvs;have KBW:=Ad hkb;clear hout hks hvs hkb;by_cases hix:i<nx
        ·have hlr:(da p n rows S.v i).length=nx:=by rw [Tp];exact LNR.out
         obtain ⟨g11,c11,s11,r,ys,rfl,-,hg11,cell11,hrS,hne,o11⟩:=OS.o.get (i:=i) (by rw [SLEN.o];exact hix);obtain ⟨gr,lr⟩:=SGD.o r (Dc hrS);have egr:S.v.getD i []=r:=by rw [Da,hrS];rfl
         obtain ⟨br,crr,rfl,-,hbr,hcl⟩:=o11.headCell (by omega);have ng:g11∉outB u8 vs':=λh=>by have:=(XB.o g11 h).2;omega
         have nb:br∉outB u8 vs':=λh=>by have:=(XB.o br h).2;omega
         have hc11:wr.cell? ⟨g11,i,none⟩=some (.slice (some ⟨br,0,none⟩) r.length crr):=by
          rw [World.cell?_of_block (KBW.o.block g11 (Av cell11) ng)];exact cell11
         have hat:IvAt w11 br (n*6) (gI r n).raw:=by
          obtain ⟨-,a,ha,he⟩:=Eu gr (show n<r.length by omega);rw [he];obtain ⟨x,y,z,x',y',z',a0,a1,a2,a3,a4,a5,hJ⟩:=o11.ivs n a ha;exact ⟨x,y,z,x',y',z',hcl _ _ a0,hcl _ _ a1,hcl _ _ a2,hcl _ _ a3,hcl _ _ a4,hcl _ _ a5,hJ⟩
         have RK:=Ad (hat.kbn KBW.o nb);have hw9:=KBW.o.size;obtain ⟨bo,co,cur,vr,c,xs3,rfl,hbo,hnco,hcm,hcs,P,own,hsol⟩:=OUT.o.sol hlr hix;have PP:=Ad P;have hcr:rows[i]?=some c:=by rw [<-jh p n rows S.v i i (Aq _)];exact P.hc
         obtain ⟨gc,lc⟩:=GD.o c (Dc hcr);have egc:rows.getD i []=c:=by rw [Da,hcr];rfl
         obtain ⟨g0,cap0,rfl,hcap,hg0,-⟩:=own.headCell (by omega);obtain ⟨od,hod⟩:∃ od,od=Cm (gI r n) (Fm (n+1)) p:=⟨_,rfl⟩;have SOL:=Ad (hsol od.v.raw);have OWN:=Ad own;have BADD:=Ad (λw1 (k:Kept w w1) (h:od.k≠0)=>show Hn R w (.panicked (By 106 od.k)) w1 by
          have hf:=Un (p:=p) (n:=n) rows S.v i (by rw [LNR.o,SLEN.o]) (by rw [LNR.o];exact hix) KS.o (by rw [egr,<-hod];exact h);rw [egr,<-hod] at hf;rw [GBAD.o H0.o (by rw [hf];exact h),hf];exact ⟨k,.inr ⟨h,rfl⟩⟩)
         have BLT:=Ad (λ(j:Nat) (z:Value) (hz:vs3[j]?=some z) (g:Nat) (hg:z.ownBlock=some g)=>(OUT.o.blt hz hg).2);have XIN:∀ x∈[bo,g0],x∈outB (.slice (some ⟨bo,0,none⟩) nx co) vs':=by
          intro x hx;simp only [List.mem_cons,List.not_mem_nil,or_false] at hx;rcases hx with rfl | rfl
          ·exact List.mem_append_left _ (Ku.2 rfl)
          ·exact jL (HVS.o i _ (Aq _) P.hv) rfl
         have NB7:b7∉[bo,g0]:=by
          have:=B78.o;simp only [List.mem_cons,List.not_mem_nil,or_false];omega
         have BWr:=Ad (KBW.o.blk BW4.o (λh=>by have:=(XB.o b7 h).1;have:=B78.o;omega));have KWr:=Ad (KB.kept (K2.o.trans KV4.o) KBW.o (λx hx=>by have:=(XB.o x hx).1;have:=B78.o;omega));have XLE':=Ad (λx (hx:x∈[bo,g0])=>show w.heap.size<=x by
          have:=B78.o;simp only [List.mem_cons,List.not_mem_nil,or_false] at hx;omega)
         have CD:=Ad (λw1 (q:Kept w w1) va vb (h1:IvR w1 va (gI r n).raw) (h2:IvR w1 vb (Fm (n+1)).raw)=>show Calls Tryz.prog 60 #[.agg #[.int .i64 (p:Int)],va,vb] w1 (Cn od w1) by
          rw [hod];exact Zl OO.o h9 h1 h2 (Lj gr n) (P5 (E6 _ _ _).1) (T.o.kept q) p1 (by omega))
         have CP:=Ad (λw1 (q:Kept w w1)=>show Calls Tryz.prog 57 #[.int .i64 ((n:Int)+1)] w1 (RetI (Fm (n+1)).raw w1) from PT.o w1 q (n+1) (by omega));have LRN:=Ad (show n<r.length by omega);have LCN:=Ad (show c.length<=1000 by omega);have SZr:=Ad (show B8<=wr.heap.size by rw [HB8.o];exact Bp KV4.o.size hw9);have EGC:=Ad egc;have EGR:=Ad egr;have HOD:=Ad hod;have NUM:=Ad (And.intro hbo (And.intro hnco (And.intro hcm hcs)));clear cell11 hrS hne o11 hcl hat P own hsol hcr gc hod egc egr gr lc lr hg11 hbr hcap hg0 hw9 hlr hbo hnco hcm hcs;have hiS:i<S.v.length:=by rw [SLEN.o];exact hix
         go_upto_region 24 with fail;clear hc11 hiS
         refine Oo (m:=19) (J:=λL w=>KB wr [bo,g0] w/\(λL w'=>SolK B8 bo i cur vs3 (da p n rows S.v i) (.slice (some ⟨g0,0,none⟩) c.length cap0) c xs3 od.v.raw (L 5) (L 16) (L 18) w'/\RowK br (n*6) (gI r n).raw (L 10) (L 14) (L 16) w') L w) (l:=[(vE (.slice (some ⟨bo,0,none⟩) nx co)),(vE (.int .i64 (i:Int))),(vE (.slice (some ⟨bo,0,none⟩) nx co)),(vE (.int .i64 (i:Int))),(vE (.pointer (some ⟨bo,i,none⟩))),(vE (.slice (some ⟨g0,0,none⟩) c.length cap0)),(vE (.agg #[.int .i64 (p:Int)])),(vE (.slice (some ⟨br,0,none⟩) r.length crr)),(vE (.int .i64 (n:Int))),(vE (.pointer (some ⟨br,n*6,none⟩))),(λv wv=>IvR wv v ((gI r n).raw)),(vE (.int .i64 (n:Int))),(vE (.int .i64 ((n:Int)+1))),(λv wv=>IvR wv v ((Fm (n+1)).raw)),(λv wv=>od.k=0/\IvR wv v od.v.raw),(λv wv=>OneI wv v od.v.raw),(λv wv=>∃ xs',OwnI wv B8 v (c++[od.v.raw]) xs'/\ApV i vs3 v),(vE (.pointer (some ⟨bo,i,none⟩))),(λv _=>True)])
          (by kernel_rfl) rfl (by kernel_rfl) (by kernel_rfl) (by kernel_rfl) ⟨mE,mE,mE,mE,mE,mE,mE,mE,mE,mE,λv w w' k h=>by first | exact h | exact h.kept k | exact ⟨h.1,h.2.kept k⟩,mE,mE,λv w w' k h=>by first | exact h | exact h.kept k | exact ⟨h.1,h.2.kept k⟩,λv w w' k h=>⟨h.1,h.2.kept k⟩,λv w w' k h=>h.kept k,λv w w' k h=>h.imp λ_ h=>⟨h.1.kept k,h.2⟩,mE,λv w w' k h=>by first | exact h | exact h.kept k | exact ⟨h.1,h.2.kept k⟩,trivial⟩ ⟨(KB.refl _ _).drew,(by exact ⟨SOL.o.kept (Below.refl _ _).drew,⟨λ_=>RK.o.kept (Below.refl _ _).drew,λh=>(by cases h),λh=>(by cases h)⟩⟩)⟩ (⟨
            (λLF aF wF F=>by have FK:KB wr [bo,g0] wF:=F.frame.1;have fj:=F.frame.2;refine .inl ⟨λwq kq=>⟨FK.step kq,by first | exact Jo kq fj | exact Jp kq fj | exact Jq kq fj | exact Jr kq fj (F.wait 10 (by kernel_rfl))⟩,?_⟩;have s8:=F.q 8 (.slice (some ⟨bo,0,none⟩) nx co);exact sv rfl),(λLF aF wF F=>by have FK:KB wr [bo,g0] wF:=F.frame.1;have fj:=F.frame.2;refine .inl ⟨λwq kq=>⟨FK.step kq,by first | exact Jo kq fj | exact Jp kq fj | exact Jq kq fj | exact Jr kq fj (F.wait 10 (by kernel_rfl))⟩,?_⟩;have s16:=F.q 16 (.int .i64 (i:Int));exact sv rfl),(λLF aF wF F=>by have FK:KB wr [bo,g0] wF:=F.frame.1;have fj:=F.frame.2;refine .inl ⟨λwq kq=>⟨FK.step kq,by first | exact Jo kq fj | exact Jp kq fj | exact Jq kq fj | exact Jr kq fj (F.wait 10 (by kernel_rfl))⟩,?_⟩;have s8:=F.q 8 (.slice (some ⟨bo,0,none⟩) nx co);exact sv rfl),(λLF aF wF F=>by have FK:KB wr [bo,g0] wF:=F.frame.1;have fj:=F.frame.2;refine .inl ⟨λwq kq=>⟨FK.step kq,by first | exact Jo kq fj | exact Jp kq fj | exact Jq kq fj | exact Jr kq fj (F.wait 10 (by kernel_rfl))⟩,?_⟩;have s16:=F.q 16 (.int .i64 (i:Int));exact sv rfl),(λLF aF wF F=>by have FK:KB wr [bo,g0] wF:=F.frame.1;have fj:=F.frame.2;refine .inl ⟨λwq kq=>⟨FK.step kq,by first | exact Jo kq fj | exact Jp kq fj | exact Jq kq fj | exact Jr kq fj (F.wait 10 (by kernel_rfl))⟩,?_⟩;have s119:=F.v 2 119;have s120:=F.v 3 120;exact sw (by (have hh:=PP.o.hi;first | (go_simp;done) | (go_simp;omega))) rfl),(λLF aF wF F=>by have FK:KB wr [bo,g0] wF:=F.frame.1;have fj:=F.frame.2;refine .inl ⟨λwq kq=>⟨FK.step kq,by first | exact Jo kq fj | exact Jp kq fj | exact Jq kq fj | exact Jr kq fj (F.wait 10 (by kernel_rfl))⟩,?_⟩;have s121:=F.v 4 121;exact sw (by (have hb:=fj.1.boxed (.inl F.yet);have c0:=Ae hb i _ PP.o.cell;go_simp)) rfl),(λLF aF wF F=>by have FK:KB wr [bo,g0] wF:=F.frame.1;have fj:=F.frame.2;refine .inl ⟨λwq kq=>⟨FK.step kq,by first | exact Jo kq fj | exact Jp kq fj | exact Jq kq fj | exact Jr kq fj (F.wait 10 (by kernel_rfl))⟩,?_⟩;have s7:=F.q 7 (.pointer (some ⟨b7,0,none⟩));have c0:=Bt BWr.o FK NB7 0 _ rfl;exact sv rfl),(λLF aF wF F=>by have FK:KB wr [bo,g0] wF:=F.frame.1;have fj:=F.frame.2;refine .inl ⟨λwq kq=>⟨FK.step kq,by first | exact Jo kq fj | exact Jp kq fj | exact Jq kq fj | exact Jr kq fj (F.wait 10 (by kernel_rfl))⟩,?_⟩;have s17:=F.q 17 (.slice (some ⟨br,0,none⟩) r.length crr);exact sv rfl),(λLF aF wF F=>by have FK:KB wr [bo,g0] wF:=F.frame.1;have fj:=F.frame.2;refine .inl ⟨λwq kq=>⟨FK.step kq,by first | exact Jo kq fj | exact Jp kq fj | exact Jq kq fj | exact Jr kq fj (F.wait 10 (by kernel_rfl))⟩,?_⟩;have s13:=F.q 13 (.int .i64 (n:Int));exact sv rfl),(λLF aF wF F=>by have FK:KB wr [bo,g0] wF:=F.frame.1;have fj:=F.frame.2;refine .inl ⟨λwq kq=>⟨FK.step kq,by first | exact Jo kq fj | exact Jp kq fj | exact Jq kq fj | exact Jr kq fj (F.wait 10 (by kernel_rfl))⟩,?_⟩;have s124:=F.v 7 124;have s125:=F.v 8 125;exact sw (by (have hln:=LRN.o;go_simp)) rfl),(λLF aF wF F=>by have FK:KB wr [bo,g0] wF:=F.frame.1;have fj:=F.frame.2;refine .inl ⟨λwq kq=>⟨FK.step kq,by first | exact Jo kq fj | exact Jp kq fj | exact Jq kq fj | exact Jr kq fj (F.wait 10 (by kernel_rfl))⟩,?_⟩;have s126:=F.v 9 126;obtain ⟨xx,yy,zz,xx',yy',zz',h0,h1,h2,h3,h4,h5,hI⟩:=(fj.2.1 F.yet);exact sv hI),(λLF aF wF F=>by have FK:KB wr [bo,g0] wF:=F.frame.1;have fj:=F.frame.2;refine .inl ⟨λwq kq=>⟨FK.step kq,by first | exact Jo kq fj | exact Jp kq fj | exact Jq kq fj | exact Jr kq fj (F.wait 10 (by kernel_rfl))⟩,?_⟩;have s13:=F.q 13 (.int .i64 (n:Int));exact sv rfl),(λLF aF wF F=>by have FK:KB wr [bo,g0] wF:=F.frame.1;have fj:=F.frame.2;refine .inl ⟨λwq kq=>⟨FK.step kq,by first | exact Jo kq fj | exact Jp kq fj | exact Jq kq fj | exact Jr kq fj (F.wait 10 (by kernel_rfl))⟩,?_⟩;have s128:=F.v 11 128;exact sw (by (have hw9:=HWN.o;go_simp)) rfl),(λLF aF wF F=>by have FK:KB wr [bo,g0] wF:=F.frame.1;have fj:=F.frame.2;refine .inl ⟨λwq kq=>⟨FK.step kq,by first | exact Jo kq fj | exact Jp kq fj | exact Jq kq fj | exact Jr kq fj (F.wait 10 (by kernel_rfl))⟩,?_⟩;have s129:=F.v 12 129;exact sI (CP.o _ (KB.kept KWr.o FK XLE'.o)) λ_ _ h=>h),(λLF aF wF F=>by have FK:KB wr [bo,g0] wF:=F.frame.1;have fj:=F.frame.2;refine .inl ⟨λwq kq=>⟨FK.step kq,by first | exact Jo kq fj | exact Jp kq fj | exact Jq kq fj | exact Jr kq fj (F.wait 10 (by kernel_rfl))⟩,?_⟩;have s123:=F.v 6 123;have s127:=F.p 10 127;have s130:=F.p 13 130;exact sJ (CD.o _ (KB.kept KWr.o FK XLE'.o) _ _ s127 s130) (λ_ _ _ h0 h=>⟨h0,h⟩) (λw2 k2 h0=>⟨F.defers,BADD.o _ ((KB.kept KWr.o FK XLE'.o).trans k2) h0⟩)),(λLF aF wF F=>by have FK:KB wr [bo,g0] wF:=F.frame.1;have fj:=F.frame.2;refine .inl ⟨λwq kq=>⟨FK.step kq,by first | exact Jo kq fj | exact Jp kq fj | exact Jq kq fj | exact Jr kq fj (F.wait 10 (by kernel_rfl))⟩,?_⟩;have s131:=F.p 14 131;obtain ⟨A1,l1,d1,A2,l2,d2,e9,h9',g9⟩:=Ar s131.2;simp only [Cv] at e9;exact Zm (Jl (r:=od.v.raw) ⟨_,_,_,_,_,_,rfl,h9',g9⟩)),(λLF aF wF F=>by have FK:KB wr [bo,g0] wF:=F.frame.1;have fj:=F.frame.2;refine .inr ?_;have s122:=F.v 5 122;have s132:=F.p 15 132;obtain ⟨b3,y0,y1,y2,y3,y4,y5,e3,hb3,hd3⟩:=s132;have how:=fj.1.own F.yet;obtain ⟨v',w',g',hrr,hoo,hgg,hsm,-,-,hob,hwh⟩:=Td 31 how (λe=>absurd e PP.o.cne) LCN.o (Bp SZr.o FK.size) hb3 hd3;exact Ps (by simp [Region.wanted]) (Pd (.tmp 122) (.tmp 132) _ rfl s122 e3 hrr) ⟨FK.grown hgg (λg hg'=>.inl (by cases hg';simp)) how.blk,SolK.app PP.o fj.1 F.yet hgg how.blk,RowK.done (fj.2.2.1 (F.wait 14 (by kernel_rfl)))⟩ (Ii _ ⟨.inr vS,.inr vS,.inr vS,.inr vS,.inr vS,.inr vS,.inr vS,.inr vS,.inr vS,.inr vS,.inr (λu h=>by first | exact h.grown hgg how.blk | exact ⟨h.1,h.2.grown hgg how.blk⟩ | exact OneI.appJ h hgg how.blk hsm),.inr vS,.inr vS,.inr (λu h=>by first | exact h.grown hgg how.blk | exact ⟨h.1,h.2.grown hgg how.blk⟩ | exact OneI.appJ h hgg how.blk hsm),.inr (λu h=>by first | exact h.grown hgg how.blk | exact ⟨h.1,h.2.grown hgg how.blk⟩ | exact OneI.appJ h hgg how.blk hsm),.inr (λu h=>by first | exact h.grown hgg how.blk | exact ⟨h.1,h.2.grown hgg how.blk⟩ | exact OneI.appJ h hgg how.blk hsm),.inl rfl,.inr vS,.inr (λu h=>h),trivial⟩) ⟨_,hoo,ApV.of PP.o BLT.o FK.size hob hwh⟩),(λLF aF wF F=>by have FK:KB wr [bo,g0] wF:=F.frame.1;have fj:=F.frame.2;refine .inl ⟨λwq kq=>⟨FK.step kq,by first | exact Jo kq fj | exact Jp kq fj | exact Jq kq fj | exact Jr kq fj (F.wait 10 (by kernel_rfl))⟩,?_⟩;have s117:=F.v 0 117;have s118:=F.v 1 118;exact sw (by (have hh:=PP.o.hi;first | (go_simp;done) | (go_simp;omega))) rfl),(λLF aF wF F=>by have FK:KB wr [bo,g0] wF:=F.frame.1;have fj:=F.frame.2;refine .inr ?_;have s133:=F.p 16 133;have s134:=F.v 17 134;obtain ⟨xs',ho8,ha8⟩:=s133;obtain ⟨A8,c8,e8,-⟩:=ho8.ivS;rw [e8] at ho8 ha8;simp only [Cv] at e8;have hb:=fj.1.boxed (.inr (.inr F.yet));have cb:=Ae hb i _ PP.o.cell;have fb:=Aw hb i;exact Ox (w':=wF.setCell ⟨bo,i,none⟩ (.slice A8 (c++[od.v.raw]).length c8)) (by simp [Region.wanted]) (by go_simp) ⟨FK.trans ((PP.o.allC hb).kb cb _) (by simp),SolK.laid PP.o fj.1 (F.wait 5 (by kernel_rfl)) (F.wait 16 (by kernel_rfl)) F.yet ho8 ha8 ⟨A8,_,c8,rfl⟩,RowK.done (fj.2.2.2 (F.wait 16 (by kernel_rfl)))⟩ (Ii _ ⟨.inr vS,.inr vS,.inr vS,.inr vS,.inr vS,.inr vS,.inr vS,.inr vS,.inr vS,.inr vS,.inr (λu h=>by first | exact h.kb ((PP.o.allC hb).kb cb _) | exact ⟨h.1,h.2.kb ((PP.o.allC hb).kb cb _)⟩ | exact OneI.setk h (PP.o.allC hb) cb _ | exact h.imp λ_ h=>⟨OwnI.setk h.1 (by simp) (PP.o.allC hb) cb _,h.2⟩),.inr vS,.inr vS,.inr (λu h=>by first | exact h.kb ((PP.o.allC hb).kb cb _) | exact ⟨h.1,h.2.kb ((PP.o.allC hb).kb cb _)⟩ | exact OneI.setk h (PP.o.allC hb) cb _ | exact h.imp λ_ h=>⟨OwnI.setk h.1 (by simp) (PP.o.allC hb) cb _,h.2⟩),.inr (λu h=>by first | exact h.kb ((PP.o.allC hb).kb cb _) | exact ⟨h.1,h.2.kb ((PP.o.allC hb).kb cb _)⟩ | exact OneI.setk h (PP.o.allC hb) cb _ | exact h.imp λ_ h=>⟨OwnI.setk h.1 (by simp) (PP.o.allC hb) cb _,h.2⟩),.inr (λu h=>by first | exact h.kb ((PP.o.allC hb).kb cb _) | exact ⟨h.1,h.2.kb ((PP.o.allC hb).kb cb _)⟩ | exact OneI.setk h (PP.o.allC hb) cb _ | exact h.imp λ_ h=>⟨OwnI.setk h.1 (by simp) (PP.o.allC hb) cb _,h.2⟩),.inr (λu h=>by first | exact h.kb ((PP.o.allC hb).kb cb _) | exact ⟨h.1,h.2.kb ((PP.o.allC hb).kb cb _)⟩ | exact OneI.setk h (PP.o.allC hb) cb _ | exact h.imp λ_ h=>⟨OwnI.setk h.1 (by simp) (PP.o.allC hb) cb _,h.2⟩),.inr vS,.inl rfl,trivial⟩) trivial),
            trivial⟩) ?_
         intro u w12 L1 hL j1 hu;obtain ⟨q12,j1⟩:=j1;have p127:=hp hu 10;have p130:=hp hu 13;have p131:=hp hu 14;have p132:=hp hu 15;have p133:=hp hu 16;simp only [Bb,Ap,Act.put,Ep,hv hu 0,hv hu 1,hv hu 2,hv hu 3,hv hu 4,hv hu 5,hv hu 6,hv hu 7,hv hu 8,hv hu 9,hv hu 11,hv hu 12,hv hu 17];clear hu;generalize u 10=v127,u 13=v130,u 14=v131,u 15=v132,u 16=v133 at *;obtain ⟨k0,-⟩:=p131;obtain ⟨v9,hout9⟩:=SolK.fin PP.o j1.1 (hL 18 (by decide)) NUM.o.1 NUM.o.2.1 NUM.o.2.2.1 NUM.o.2.2.2;have OUT9:=Ad hout9;have KB9:=Ad (KBW.o.trans q12 (λy hy=>.inl (XIN y hy)))
         have K09:=Ad k0;have HIX:=Ad hix;clear hout9 k0 j1 q12 p127 p130 p132 p133 CP CD XIN NB7 hix;go_wp2_with fail;go_roundw
         case rel =>
          refine ⟨i+1,vs3.set i v9,by go_num,HIX.o,?_,?_,?_,KB9.o⟩
          ·have h:=OUT9.o;rw [HOD.o,<-EGC.o,<-EGR.o] at h;exact h
          ·intro j hj;by_cases e:j<i
           ·exact KS.o j e
           ·obtain rfl:j=i:=by omega
            rw [EGR.o,<-HOD.o];exact K09.o
          ·intro j z hj hz;rw [List.getElem?_set_ne (by omega)] at hz;exact HVS.o j z (by omega) hz
         case measure=>simp [intOf];have:=HIX.o;omega
        ·obtain rfl:i=nx:=by omega
         have hks:∀ j,j<rows.length->(Cm (gI (S.v.getD j []) n) (Fm (n+1)) p).k=0:=by rw [LNR.o];exact KS.o
         have hlS:rows.length=S.v.length:=by rw [LNR.o,SLEN.o]
         have hdn:=Qh rows S.v hlS hks;have hgo:=GGO.o H0.o (by rw [hdn]);rw [hdn] at hgo;have hgd:=jk p1 GD.o hlS hks;rw [LNR.o] at hgd hgo;have FI:=Ad (And.intro hgd hgo);have LNG:=Ad (show (da p n rows S.v i).length=i by rw [Tp];exact LNR.o);have KF:=Ad (KB.kept KV4.o KBW.o (λx hx=>by rw [<-HB8.o];exact (XB.o x hx).1));clear hks hlS hdn hgo hgd;go_wp2_with fail;go_roundw
         case rel =>
          refine ⟨n+1,da p n rows S.v i,vs3,by go_num,HLT.o,LNG.o,FI.o.1,?_,OUT.o,KF.o⟩;rw [show k-(n+1)=m by have:=HM.o;omega];exact FI.o.2.symm
         case measure=>simp [intOf];have:=HLT.o;omega
    ·obtain rfl:n=k:=by omega
     have hR2:R=⟨rows,0⟩:=by
      have h:=SJ.o;rw [Nat.sub_self] at h;exact h.symm
     have FI:=Ad (show Hn R w (.returned u8) wr by
      rw [hR2];exact ⟨K2.o.trans KN.o,.inl ⟨rfl,_,rfl,OUT.o.own.all,λg hg=>by
       have h1:=OUT.o.own.base g hg;have h2:=W8.o;rw [hb7];omega⟩⟩)
     clear hR2;go_wp2_with fail;go_ret;exact FI.o
end
theorem bs {bB bK bF bX bP bT:Nat}{k p:Int}
 (hB:w.heap[bB]?=some (.cells #[.int .i64 p] 3 (0,0))) (hK:w.heap[bK]?=some (.cells #[.int .i64 k] 3 (0,0))) (hw:Eg k p=false) :
 Calls Tryz.prog 44 #[.pointer (some ⟨bK,0,none⟩),.pointer (some ⟨bB,0,none⟩),.pointer (some ⟨bF,0,none⟩),.pointer (some ⟨bX,0,none⟩),.pointer (some ⟨bP,0,none⟩),.pointer (some ⟨bT,0,none⟩)] w (Hn ⟨[],1⟩ w):=by
 have WI:=Ad (λw1=>show Calls Tryz.prog 46 #[.int .i64 k,.int .i64 p] w1 (RetQ (.bool false) w1) by have:=Rp w1 k p;rwa [hw] at this);have HB:=Ad hB;have HK:=Ad hK;have BAD:=Ad (λw1 (q:Kept w w1)=>show Hn ⟨[],1⟩ w (.panicked (By 106 1)) w1 from ⟨q,.inr ⟨by decide,rfl⟩⟩);clear hB hK hw;go_enter Tryz.func44,Tryz.ntmps44;go_upto_region 1 with fail
 refine rS 28 ([(vE (.int .i64 k)),(vE (.int .i64 p)),(vE (.bool false)),(vE (.bool false)),(vE undef),(vE undef),(vE undef),(vE undef),(vE undef),(vE undef),(vE (.bool false)),(vE (.bool false)),(vE undef),(vE undef),(vE undef),(vE undef),(vE (.bool false)),(vE (.bool false)),(vE undef),(vE undef),(vE undef),(vE (.bool false)),(vE (.bool false)),(vE undef),(vE undef),(vE undef),(vE (.bool false)),(λv _=>False)])
  ⟨
   (E3 0 λ_ k=>Ai HK.o k 0 _ rfl),(E3 1 λ_ k=>Ai HB.o k 0 _ rfl),(λaF wF F=>by have s7:=F.v 0 7;have s8:=F.v 1 8;exact sQ (WI.o _) λ_ _ h=>h),(gv 2 9),(so 3 10),(so 3 10),(so 3 10),(so 3 10),(so 3 10),(so 3 10),(Hz 3 10 9 16),(gv 10 17),(so 11 18),(so 11 18),(so 11 18),(so 11 18),(Hz 11 18 15 22),(gv 16 23),(so 17 24),(so 17 24),(so 17 24),(Hz 17 24 20 27),(gv 21 28),(so 22 29),(so 22 29),(so 22 29),(Hz 22 29 25 32),(λaF wF F=>by have s33:=F.v 26 33;exact Gb (by simp [Region.wanted]) (by go_simp) (Rb false 1 _) (λe w2 h=>h.elim (λ⟨v,he,hk,hb,_⟩=>absurd hb (by decide)) (λ⟨c,he,h0,hc,hw2⟩=>.inr ⟨c,he,F.defers,by subst hc;exact BAD.o w2 (hw2▸F.kept)⟩))),
   trivial⟩ ?_
 intro u w1 k1 hu;have p34:=hp hu 27;simp only [Bb,Ap,Act.put,Ep,hv hu 0,hv hu 1,hv hu 2,hv hu 3,hv hu 4,hv hu 5,hv hu 6,hv hu 7,hv hu 8,hv hu 9,hv hu 10,hv hu 11,hv hu 12,hv hu 13,hv hu 14,hv hu 15,hv hu 16,hv hu 17,hv hu 18,hv hu 19,hv hu 20,hv hu 21,hv hu 22,hv hu 23,hv hu 24,hv hu 25,hv hu 26];clear hu;generalize u 27=v34 at *;exact p34.elim
theorem dK {k p:Int}(hv:TpR w vt ls outs)(hw:Eg k p=false) :
 Calls Tryz.prog 22 #[vt,.slice none 0 0,.slice none 0 0,.slice none 0 0,.int .i64 k,.int .i64 p] w (Pv ⟨[],1⟩ w):=by
 obtain ⟨s,o,rfl,⟨A,c,rfl,-,-⟩,⟨B,d,rfl,-,-⟩⟩:=hv;exact bv (λ_=>rfl) λw1 q B=>bs B.b B.k hw
theorem jv (hn:n<18446744073709551616)(h:w.heap[b]?=some (.cells #[.int .u64 (n:Int)] T (0,0))):Lim w (.slice (some ⟨b,0,none⟩) 1 1) [n]:=by
 refine ⟨λx hx=>by simp at hx;omega,some ⟨b,0,none⟩,1,rfl,Aq _,λ_=>⟨b,0,rfl,(Bi h).1,λi hi=>?_⟩⟩;have hi:i<1:=hi;obtain rfl:i=0:=by omega
 exact Ae h 0 _ rfl
theorem sj:(Rs 8 (-3)).raw=⟨false,[1],0⟩:=by
 have hl:=Iw 1 (by decide) (by decide);have ht:tz 8=3:=I9 8 3 1 rfl rfl;have h:Ck false 8 (-3)=⟨⟨false,1,0⟩,0⟩:=by
  unfold Ck;rw [ht,Af (by decide),Af (by show ¬64<(Al 1).length;rw [hl];decide),Af (by decide),Af (by decide)];rfl
 have h2:Rs 8 (-3)=⟨false,1,0⟩:=congrArg Outc.v h;rw [h2];unfold Dy.raw;rw [hl]
theorem Gn {o:Nat}(h:w.cell? ⟨b,o,none⟩=some v)(k:Kept w w'):w'.cell? ⟨b,o,none⟩=some v:=(k.cell (p:=⟨b,o,none⟩) (Av h)).trans h
theorem ld (gc9:Gd c9)(lc9:c9.length=4)(he9:(gI c9 2).lo.e=-1)(hq9:(gI c9 3).lo.q<(gI c9 3).hi.q)
 (hc1:∀ w1,Kept w w1->∀ vt vx,TpR w1 vt tE [0]->OneI w1 vx ⟨⟨false,[1],0⟩,⟨false,[1],0⟩⟩->Calls Tryz.prog 27 #[vt,.agg #[.bool false,.slice none 0 0,.int .i64 0,.bool false,.slice none 0 0,.int .i64 0],vx,.slice none 0 0,.int .i64 3,.int .i64 30] w1 (Pv ⟨[c9],0⟩ w1))
 (hc2:∀ w1,Kept w w1->∀ vt,TpR w1 vt tE [0]->Calls Tryz.prog 27 #[vt,.agg #[.bool false,.slice none 0 0,.int .i64 0,.bool false,.slice none 0 0,.int .i64 0],.slice none 0 0,.slice none 0 0,.int .i64 3,.int .i64 30] w1 (Pv ⟨[],1⟩ w1)):Calls Tryz.prog 19 #[] w (RetK (.bool true) w):=by
 have C1:=Ad hc1;have C2:=Ad hc2;have C3:=Ad (λw1 (_:Kept w w1) vt (ht:TpR w1 vt tE [0])=>show Calls Tryz.prog 22 #[vt,.slice none 0 0,.slice none 0 0,.slice none 0 0,.int .i64 13,.int .i64 30] w1 (Pv ⟨[],1⟩ w1) from dK ht rfl);obtain ⟨r2,hr2⟩:∃ r,r=gI c9 2:=⟨_,rfl⟩;obtain ⟨r3,hr3⟩:∃ r,r=gI c9 3:=⟨_,rfl⟩;have ok3:r3.Ok:=by rw [hr3];exact Lj gc9 3
 rw [<-hr2] at he9;rw [<-hr3] at hq9;have CC:=Ad (λw1 va vb (ha:DyR w1 va r3.lo.raw) (hb:DyR w1 vb r3.hi.raw)=>show Calls Tryz.prog 40 #[va,vb] w1 (RetK (.int .i64 (-1)) w1) by
  have:=N5 ha hb ok3.lo ok3.hi;rwa [Mw hq9] at this)
 have PL:=Ad (λw1 v (h:IvS w1 v c9)=>h.place gc9 (by omega));have LC:=Ad lc9;have R2:=Ad hr2;have R3:=Ad hr3;have E9:=Ad (show r2.raw.lo.e=-1 from he9);clear gc9 lc9 he9 hq9 ok3 hr2 hr3 hc1 hc2;go_enter Tryz.func19,Tryz.ntmps19;go_wp2_with fail;have hlim:Lim (w.alloc (.cells #[.int .u64 1] 55)) (.slice (some ⟨w.heap.size,0,none⟩) 1 1) [1]:=jv (n:=1) (T:=55) (by decide) (heap_alloc_new _ _);refine (oF (r:=⟨false,[1],0⟩) ⟨_,rfl,hlim,by decide,by decide⟩).mono ?_;rintro e w1 ⟨q,v,rfl,hv⟩;obtain ⟨P1,l1,d1,P2,l2,d2,rfl,-,-⟩:=Ar hv;have K1:=Ad ((Ab _ _).trans q);have HV1:=Ad hv
 clear hlim hv q;simp only [] at HV1 ⊢;obtain ⟨V1,hV1,kV1,bV1⟩:=rm w1 (.bool false) (.slice P1 l1 d1) (.int .i64 0) (.bool false) (.slice P2 l2 d2) (.int .i64 0);have HB1:=Ad hV1;go_upto_region 2 with fail;rw [<-HB1.o];obtain ⟨V2,hV2,kV2,b0,b1,b2⟩:=rk V1 #[.int .i64 3,.int .i64 0,.int .i64 0,.bool false,.slice none 0 0,.int .i64 0,.bool false,.slice none 0 0,.int .i64 0] 0 1;have HB2:=Ad hV2;have K2:=Ad (K1.o.trans (kV1.trans kV2));have BI:=Ad (bV1.kept kV2);have IV:=Ad (HV1.o.kept (kV1.trans kV2));have BT:=Ad b2;have TP:=Ad (show TpR V2 (.agg #[.slice (some ⟨V1.heap.size,0,none⟩) 1 1,.slice (some ⟨V1.heap.size+1,0,none⟩) 1 1]) tE [0] from ⟨_,_,rfl,sr b0,rF b1⟩)
 clear hV1 hV2 kV1 kV2 bV1 b0 b1 b2 HV1 HB1 K1;go_upto_region 3 with fail;rw [<-HB2.o];clear HB2;generalize V1.heap.size+1+1=n3 at *;generalize w1.heap.size=n1 at *;generalize V1.heap.size+1=n2 at *;generalize V1.heap.size=n0 at *;obtain ⟨c0,c1⟩:=Ez BT.o;obtain ⟨-,m0,m1,m2,m3,m4,m5⟩:=BI.o.facts;go_wp2_with fail;refine (C1.o _ (K2.o.trans (Ab _ _)) _ _ (TP.o.kept (Ab _ _)) (Jl IV.o)).mono ?_;rintro e w3 ⟨q3,v3,rfl,hr3⟩;obtain ⟨b3,o3,e3,s3,rfl,-,cell3,hs3⟩:=hr3.row (i:=0) (by simp);obtain ⟨br,orr,cr,rfl,-,hRG⟩:=PL.o w3 _ (show IvS w3 s3 c9 from hs3);have i2:=hRG w3 (Below.refl _ _) 2 (by have:=LC.o;omega)
 have i3:=hRG w3 (Below.refl _ _) 3 (by have:=LC.o;omega);rw [<-R2.o] at i2;rw [<-R3.o] at i3;rw [LC.o,Nat.add_zero] at cell3;obtain ⟨y0,y1,y2,y3,y4,y5,-,-,s2,-,-,-,hI2⟩:=i2;obtain ⟨A1,a1,a2,A2,a3,a4,hh,-,-⟩:=Ar hI2;simp only [Value.agg.injEq,List.cons.injEq,Array.mk.injEq,and_true] at hh;obtain ⟨rfl,rfl,rfl,rfl,rfl,rfl⟩:=hh;rw [E9.o] at s2;obtain ⟨x0,x1,x2,x3,x4,x5,t0,t1,t2,t3,t4,t5,hI3⟩:=i3;obtain ⟨B1,f1,f2,B2,f3,f4,hh,dlo,dhi⟩:=Ar hI3;simp only [Value.agg.injEq,List.cons.injEq,Array.mk.injEq,and_true] at hh;obtain ⟨rfl,rfl,rfl,rfl,rfl,rfl⟩:=hh;have kq:=(Ab V2 (.cells #[.bool false,.slice P1 l1 d1,.int .i64 0,.bool false,.slice P2 l2 d2,.int .i64 0] 30)).trans q3
 have K3:=Ad (K2.o.trans kq);have TP3:=Ad (TP.o.kept kq);have BT3:=Ad (Ay BT.o kq);have S2:=Ad s2;have S3:=Ad (And.intro t0 (And.intro t1 (And.intro t2 (And.intro t3 (And.intro t4 t5)))));have CE:=Ad cell3;have DLO:=Ad dlo;have DHI:=Ad dhi;clear c0 c1 m0 m1 m2 m3 m4 m5 K2 TP BT IV BI hI2 hI3 dlo dhi t0 t1 t2 t3 t4 t5 s2 cell3 hs3 hRG kq q3 C1 PL;obtain ⟨c0,c1⟩:=Ez BT3.o;simp only [];go_wp2_with fail;refine (C2.o _ K3.o _ TP3.o).mono ?_;rintro e w4 ⟨q4,v4,rfl,hr4⟩;obtain ⟨A4,c4,rfl,-,-⟩:=hr4;have Q4:=Ad q4;clear c0 c1 q4;obtain ⟨c0,c1⟩:=Ez (Ay BT3.o Q4.o)
 simp only [];go_wp2_with fail;refine (C3.o _ (K3.o.trans Q4.o) _ (TP3.o.kept Q4.o)).mono ?_;rintro e w5 ⟨q5,v5,rfl,hr5⟩;obtain ⟨A5,c5,rfl,-,-⟩:=hr5;have Q5:=Ad (Q4.o.trans q5);clear c0 c1 q5 C2 C3;simp only [];go_wp2_with fail
 refine Sv 49 ([(vE (.int .i64 0)),(vE (.bool true)),(vE (.bool true)),(vE (.slice (some ⟨b3,o3,none⟩) 1 e3)),(vE (.int .i64 1)),(vE (.bool true)),(vE (.bool true)),(vE (.bool true)),(vE (.slice (some ⟨b3,o3,none⟩) 1 e3)),(vE (.pointer (some ⟨b3,o3,none⟩))),(vE (.slice (some ⟨br,orr,none⟩) 4 cr)),(vE (.int .i64 4)),(vE (.bool true)),(vE (.bool true)),(vE (.bool true)),(vE (.slice (some ⟨b3,o3,none⟩) 1 e3)),(vE (.pointer (some ⟨b3,o3,none⟩))),(vE (.slice (some ⟨br,orr,none⟩) 4 cr)),(vE (.pointer (some ⟨br,orr+2*6,none⟩))),(vE (.pointer (some ⟨br,orr+2*6,none⟩))),(vE (.pointer (some ⟨br,orr+2*6+2,none⟩))),(vE (.int .i64 (-1))),(vE (.bool true)),(vE (.bool true)),(vE (.bool true)),(vE (.slice (some ⟨b3,o3,none⟩) 1 e3)),(vE (.pointer (some ⟨b3,o3,none⟩))),(vE (.slice (some ⟨br,orr,none⟩) 4 cr)),(vE (.pointer (some ⟨br,orr+3*6,none⟩))),(vE (.pointer (some ⟨br,orr+3*6,none⟩))),(vE (.agg #[.bool r3.raw.lo.neg,.slice B1 f1 f2,.int .i64 r3.raw.lo.e])),(vE (.slice (some ⟨b3,o3,none⟩) 1 e3)),(vE (.pointer (some ⟨b3,o3,none⟩))),(vE (.slice (some ⟨br,orr,none⟩) 4 cr)),(vE (.pointer (some ⟨br,orr+3*6,none⟩))),(vE (.pointer (some ⟨br,orr+3*6+3,none⟩))),(vE (.agg #[.bool r3.raw.hi.neg,.slice B2 f3 f4,.int .i64 r3.raw.hi.e])),(vE (.int .i64 (-1))),(vE (.bool true)),(vE (.bool true)),(vE (.bool true)),(vE (.int .i64 1)),(vE (.bool true)),(vE (.bool true)),(vE (.bool true)),(vE (.int .i64 1)),(vE (.bool true)),(vE (.bool true)),(vE (.bool true))])
  ⟨
   (gq 4),(gv 0 35),(gv 1 36),(λaF wF F=>by have s3:=F.q 3 (.slice (some ⟨b3,o3,none⟩) 1 e3);exact Dz rfl rfl (F.v 2 37) rfl),(λaF wF F=>by have s38:=F.v 3 38;exact Dz rfl rfl (F.v 2 37) rfl),(λaF wF F=>by have s39:=F.v 4 39;exact Dz rfl rfl (F.v 2 37) rfl),(Hz 2 37 5 40),(gv 6 41),(λaF wF F=>by have s3:=F.q 3 (.slice (some ⟨b3,o3,none⟩) 1 e3);exact Dz rfl rfl (F.v 7 42) rfl),(λaF wF F=>by have s43:=F.v 8 43;exact Dz rfl rfl (F.v 7 42) rfl),(λaF wF F=>by have s44:=F.v 9 44;have sg:=F.v 7 42;exact Bc ((Am rfl rfl sg).trans rfl) (by (have n0:=Gn CE.o (Q5.o.trans F.kept);go_simp)) rfl),(λaF wF F=>by have s45:=F.v 10 45;exact Dz rfl rfl (F.v 7 42) rfl),(λaF wF F=>by have s46:=F.v 11 46;exact Dz rfl rfl (F.v 7 42) rfl),(Hz 7 42 12 47),(gv 13 48),(λaF wF F=>by have s3:=F.q 3 (.slice (some ⟨b3,o3,none⟩) 1 e3);exact Dz rfl rfl (F.v 14 49) rfl),(λaF wF F=>by have s50:=F.v 15 50;exact Dz rfl rfl (F.v 14 49) rfl),(λaF wF F=>by have s51:=F.v 16 51;have sg:=F.v 14 49;exact Bc ((Am rfl rfl sg).trans rfl) (by (have n0:=Gn CE.o (Q5.o.trans F.kept);go_simp)) rfl),(λaF wF F=>by have s52:=F.v 17 52;exact Dz rfl rfl (F.v 14 49) rfl),(λaF wF F=>by have s53:=F.v 18 53;exact Dz rfl rfl (F.v 14 49) rfl),(λaF wF F=>by have s54:=F.v 19 54;exact Dz rfl rfl (F.v 14 49) rfl),(λaF wF F=>by have s55:=F.v 20 55;have sg:=F.v 14 49;exact Bc ((Am rfl rfl sg).trans rfl) (by (have n0:=Gn S2.o (Q5.o.trans F.kept);go_simp)) rfl),(λaF wF F=>by have s56:=F.v 21 56;exact Dz rfl rfl (F.v 14 49) rfl),(Hz 14 49 22 57),(gv 23 58),(λaF wF F=>by have s3:=F.q 3 (.slice (some ⟨b3,o3,none⟩) 1 e3);exact Dz rfl rfl (F.v 24 59) rfl),(λaF wF F=>by have s60:=F.v 25 60;exact Dz rfl rfl (F.v 24 59) rfl),(λaF wF F=>by have s61:=F.v 26 61;have sg:=F.v 24 59;exact Bc ((Am rfl rfl sg).trans rfl) (by (have n0:=Gn CE.o (Q5.o.trans F.kept);go_simp)) rfl),(λaF wF F=>by have s62:=F.v 27 62;exact Dz rfl rfl (F.v 24 59) rfl),(λaF wF F=>by have s63:=F.v 28 63;exact Dz rfl rfl (F.v 24 59) rfl),(λaF wF F=>by have s64:=F.v 29 64;have sg:=F.v 24 59;exact Bc ((Am rfl rfl sg).trans rfl) (by (have n0:=Gn S3.o.1 (Q5.o.trans F.kept);have n1:=Gn S3.o.2.1 (Q5.o.trans F.kept);have n2:=Gn S3.o.2.2.1 (Q5.o.trans F.kept);go_simp)) rfl),(λaF wF F=>by have s3:=F.q 3 (.slice (some ⟨b3,o3,none⟩) 1 e3);exact Dz rfl rfl (F.v 24 59) rfl),(λaF wF F=>by have s66:=F.v 31 66;exact Dz rfl rfl (F.v 24 59) rfl),(λaF wF F=>by have s67:=F.v 32 67;have sg:=F.v 24 59;exact Bc ((Am rfl rfl sg).trans rfl) (by (have n0:=Gn CE.o (Q5.o.trans F.kept);go_simp)) rfl),(λaF wF F=>by have s68:=F.v 33 68;exact Dz rfl rfl (F.v 24 59) rfl),(λaF wF F=>by have s69:=F.v 34 69;exact Dz rfl rfl (F.v 24 59) rfl),(λaF wF F=>by have s70:=F.v 35 70;have sg:=F.v 24 59;exact Bc ((Am rfl rfl sg).trans rfl) (by (have n0:=Gn S3.o.2.2.2.1 (Q5.o.trans F.kept);have n1:=Gn S3.o.2.2.2.2.1 (Q5.o.trans F.kept);have n2:=Gn S3.o.2.2.2.2.2 (Q5.o.trans F.kept);go_simp)) rfl),(λaF wF F=>by have s65:=F.v 30 65;have s71:=F.v 36 71;have sg:=F.v 24 59;exact Ax ((Am rfl rfl sg).trans rfl) (by go_simp) (CC.o _ _ _ (DLO.o.kept (Q5.o.trans F.kept)) (DHI.o.kept (Q5.o.trans F.kept))) (λ_ _ h=>RetK.good h) (λ_ _ h=>h)),(λaF wF F=>by have s72:=F.v 37 72;exact Dz rfl rfl (F.v 24 59) rfl),(Hz 24 59 38 73),(gv 39 74),(λaF wF F=>by have s6:=F.q 6 (.int .i64 1);exact Dz rfl rfl (F.v 40 75) rfl),(λaF wF F=>by have s76:=F.v 41 76;exact Dz rfl rfl (F.v 40 75) rfl),(Hz 40 75 42 77),(gv 43 78),(λaF wF F=>by have s8:=F.q 8 (.int .i64 1);exact Dz rfl rfl (F.v 44 79) rfl),(λaF wF F=>by have s80:=F.v 45 80;exact Dz rfl rfl (F.v 44 79) rfl),(Hz 44 79 46 81),(gv 47 82),
   trivial⟩ ?_
 intro u w6 q6 hu;simp only [Bb,Ap,Act.put,Ep,hv hu 0,hv hu 1,hv hu 2,hv hu 3,hv hu 4,hv hu 5,hv hu 6,hv hu 7,hv hu 8,hv hu 9,hv hu 10,hv hu 11,hv hu 12,hv hu 13,hv hu 14,hv hu 15,hv hu 16,hv hu 17,hv hu 18,hv hu 19,hv hu 20,hv hu 21,hv hu 22,hv hu 23,hv hu 24,hv hu 25,hv hu 26,hv hu 27,hv hu 28,hv hu 29,hv hu 30,hv hu 31,hv hu 32,hv hu 33,hv hu 34,hv hu 35,hv hu 36,hv hu 37,hv hu 38,hv hu 39,hv hu 40,hv hu 41,hv hu 42,hv hu 43,hv hu 44,hv hu 45,hv hu 46,hv hu 47,hv hu 48];clear hu;have KF:=Ad (K3.o.trans (Q5.o.trans q6));clear q6;go_wp2_with fail;go_ret
 exact ⟨rfl,KF.o⟩
theorem mK {vl vall:Value}{l:Ln}(hop:l.op=1)(hv:oW w vl l)(gl:l.k.iv.Ok/\l.k.iv.raw=l.k)(hk:k<=900)(hT:Tab w)(p1:1<=p)(p2:p<=300) :
 Calls Tryz.prog 89 #[.agg #[.int .i64 p],vl,vall,vt,vx,vq,.int .i64 k] w (J3 (Dp p (Bs l.k k) [] (List.range' 0 (k+1))) w):=by
 obtain ⟨x,y,z,x',y',z',rfl,hK⟩:=hv;obtain ⟨A1,l1,q1,A2,l2,q2,ei,-,-⟩:=Ar hK;injection ei with ei;injection ei with ei
 simp only [List.cons.injEq,and_true] at ei;obtain ⟨rfl,rfl,rfl,rfl,rfl,rfl⟩:=ei;rw [hop];have gg:=Pa gl k;have na:k<(Bs l.k k).length:=by simp [Bs]
 have la:(Bs l.k k).length<=1000:=by simp [Bs];omega
 have CI:=Ad (λ(w':World) (v':Value) (base:Nat) (q:Kept w w') (OW:w'.ownsRow base 30 6 v' (1+k) ([.bool l.k.lo.neg,.slice A1 l1 q1,.int .i64 l.k.lo.e,.bool l.k.hi.neg,.slice A2 l2 q2,.int .i64 l.k.hi.e]++(Builtin.zeroCells zc6 k).toList))=>Wz OW (hK.kept q));have CR:=Ad (λw1 (q:Kept w w1) n v (hn:n<=k) (hv:IvR w1 v (gI (Bs l.k k) n).raw)=>Hd (p:=p) hv (Eu gg (by omega)).1 (hT.kept q) p1 (by omega));obtain ⟨W,hW,kW,bW,bL⟩:=Zr w p (.int .i64 1) (.int .i64 l.a) (.int .i64 l.b) (.bool l.k.lo.neg) (.slice A1 l1 q1) (.int .i64 l.k.lo.e) (.bool l.k.hi.neg) (.slice A2 l2 q2) (.int .i64 l.k.hi.e)
 have HW:=Ad hW;have K:=Ad kW;have HP:=Ad bW;obtain ⟨c0,c1,c2,c3,c4,c5,c6,c7,c8⟩:=Cp bL;have HOW:=Ad (ko (hK.kept kW));have GG:=Ad gg;generalize Bs l.k k=g at *;obtain ⟨r,er⟩:∃ r,r=Dp p g [] (List.range' 0 (k+1)):=⟨_,rfl⟩;have ER:=Ad er;rw [<-er];generalize l.a=la',l.b=lb',l.k.lo.neg=n1,l.k.lo.e=e1,l.k.hi.neg=n2,l.k.hi.e=e2 at *;have hk9:k<1000:=by omega
 clear hW kW bW bL hT p1 p2 hK er hop gl gg;go_enter Tryz.func89,Tryz.ntmps89;go_wp2_with fail;rw [<-HW.o];clear HW;go_step3
 go_wp2_with (at_builtin;refine Nt rfl (.tmp 24) (.tmp 25) rfl rfl HOW.o.row rfl (by simp;omega) (by simp) ?_;intro v' W1 OW gW)
 have kk:Kept W W1:=Below.grown (Ab W _) gW (by simp) (λg hg=>Nat.le_of_eq (Option.some.inj hg));have hIv:=CI.o W1 v' _ (K.o.trans kk) OW;obtain ⟨bG,oG,cG,rfl,-,hRG⟩:=hIv.place GG.o (by omega);have RG:=Ad (λw1 (q:Kept W1 w1) j (hj:j<=k)=>hRG w1 q j (by omega));replace HP:=Ad (Ay HP.o kk);replace K:=Ad (K.o.trans kk);clear hRG hIv kk OW gW CI HOW c0 c1 c2 c3 c4 c5 c6 c7 c8;go_step3;go_wp2_with fail
 go_loopw [15,17] (λvc t wr=>∃ (j:Nat) (c:List RawI) (xs:List Value),t=.int .i64 (j:Int)/\j<=k+1/\c.length=j/\Dp p g c (List.range' j (k+1-j))=r/\OwnI wr W1.heap.size vc c xs/\Kept W1 wr) (λ_ t _=>(k+1-intOf t).toNat)
 case atStart=>exact ⟨0,[],[],rfl,Nat.zero_le _,rfl,ER.o.symm,OwnI.nil _ _,Below.refl _ _⟩
 case round =>
  obtain ⟨j,c,xs,rfl,hj,hcl,hco,hown,hkr⟩:=hrel;have HCL:=Ad hcl;have HCO:=Ad hco;have OWN:=Ad hown;have KR:=Ad hkr;clear hcl hco hown hkr;by_cases hjk:j<=k
  ·obtain ⟨o,ho⟩:∃ o,o=Bk (gI g j) p:=⟨_,rfl⟩;have hsn:=Ko p g c j (k+1-j) (by omega);rw [HCO.out,←ho] at hsn;have hbad:o.k≠0→r=⟨[],o.k⟩:=fun h=>by rw [hsn,Af h]
   have hgo:o.k=0->Dp p g (c++[o.v.raw]) (List.range' (j+1) (k+1-(j+1)))=r:=λh=>by rw [hsn,Ak h,show k+1-(j+1)=k+1-j-1 by omega]
   have HNX:=Ad (λw1 (q:Kept wr w1) v (hv:IvR w1 v (gI g j).raw)=>ho▸CR.o w1 ((K.o.trans KR.o).trans q) j v hjk hv);have BAD:=Ad (λ(w1:World) (q:Kept w w1) (h:o.k≠0)=>show J3 r w (.panicked (By 106 o.k)) w1 by rw [hbad h];exact ⟨q,.inr ⟨h,rfl⟩⟩);have GO:=Ad hgo;have HPw:=Ad ((KR.o.block _ (Bi HP.o).1).trans HP.o);have enil:=λ(w:World)=>Go.run_neq_slice_nil_any (P:=Tryz.prog) w 31 30 (some ⟨bG,oG,none⟩) g.length cG 0 0 Tryz.underlying31
   have hro:(Bn o).k=o.k:=rfl;have hjg:j<g.length:=by omega
   clear ho hsn hbad hgo;go_wp2_with fail;clear enil
   refine Qp 12 ([(vE u15),(vE (.slice (some ⟨bG,oG,none⟩) g.length cG)),(vE (.int .i64 (j:Int))),(vE (.pointer (some ⟨bG,oG+j*6,none⟩))),(λv wv=>IvR wv v ((gI g j).raw)),(vP w.heap.size 0),(vE (.int .i64 (p:Int))),(λv wv=>∃ d,v=.tuple #[d,.int .i64 (Bn o).k]/\IvR wv d (Bn o).v),(λv wv=>IvR wv v (Bn o).v),(vE (.int .i64 (Bn o).k)),(λv wv=>o.k=0/\IvR wv v o.v.raw),(λv wv=>OneI wv v o.v.raw)])
    (hM:=⟨⟨mE,mE,mE,mE,λv w w' k h=>by first | exact h | exact h.kept k | exact ⟨h.1,h.2.kept k⟩,mE,mE,λv w w' k h=>by obtain ⟨d,h1,h2⟩:=h;exact ⟨d,h1,h2.kept k⟩,λv w w' k h=>by first | exact h | exact h.kept k | exact ⟨h.1,h.2.kept k⟩,mE,λv w w' k h=>⟨h.1,h.2.kept k⟩,λv w w' k h=>h.kept k,trivial⟩⟩) ⟨
      (gq 15),(gq 16),(gq 17),(Hz 1 52 2 53),(λaF wF F=>by have s54:=F.v 3 54;obtain ⟨xx,yy,zz,xx',yy',zz',h0,h1,h2,h3,h4,h5,hI⟩:=(RG.o _ (KR.o.trans F.kept) j (by omega));exact sv hI),(gq 7),(Ie 5 56 λ_ k=>Ai HPw.o k 0 _ rfl),(λaF wF F=>by have s55:=F.p 4 55;have s57:=F.v 6 57;exact sP (HNX.o _ F.kept _ s55) λ_ _ h=>h),(λaF wF F=>by have s58:=F.p 7 58;obtain ⟨dd,ee,hh⟩:=s58;exact sv hh),(λaF wF F=>by have s58:=F.p 7 58;exact sw (by obtain ⟨dd,ee,hh⟩:=s58;go_simp) rfl),(λaF wF F=>by have s59:=F.p 8 59;have s60:=F.v 9 60;exact sJ (G0 (o:=o) s59) (λ_ _ _ h0 h=>⟨h0,h⟩) (λw2 k2 h0=>⟨F.defers,BAD.o _ ((K.o.trans KR.o).trans (F.kept.trans k2)) h0⟩)),(λaF wF F=>by have s61:=F.p 10 61;obtain ⟨A1,l1,d1,A2,l2,d2,e9,h9,g9⟩:=Ar s61.2;simp only [Cv] at e9;exact Zm (Jl (r:=o.v.raw) ⟨_,_,_,_,_,_,rfl,h9,g9⟩)),
      trivial⟩ ?_
   intro u w1 k1 hu;have p55:=hp hu 4;have p58:=hp hu 7;have p59:=hp hu 8;have p61:=hp hu 10;have p62:=hp hu 11;simp only [Bb,Ap,Act.put,Ep,hv hu 0,hv hu 1,hv hu 2,hv hu 3,hv hu 5,hv hu 6,hv hu 9];clear hu;generalize u 4=v55,u 7=v58,u 8=v59,u 10=v61,u 11=v62 at *;obtain ⟨h0,-⟩:=p61;obtain ⟨b1,x0,x1,x2,x3,x4,x5,e81,hb1,hI⟩:=p62;subst e81;have own1:=OWN.o.kept k1;have hcl9:c.length<=1000:=by have:=HCL.o;omega
   have hW9:W1.heap.size<=w1.heap.size:=(KR.o.trans k1).size;refine ⟨?_,.inl (by kernel_rfl)⟩;refine Im (.tmp 51) (.tmp 62) ?ho (v:=u15) ?hs own1 hI hb1 ?hx hcl9 hW9 ?h
   case ho=>rfl
   case hs=>first | rfl | (go_simp;done)
   case hx=>first | rfl | (go_simp;done)
   intro v' X OX gX;have KX:=Ad (OwnI.grown_kept own1 (KR.o.trans k1) gX);have OXX:=Ad OX;have H0:=Ad h0;clear own1 hI hb1 OX gX k1 h0 hW9 p55 p58 p59;go_simp;go_wp2_with fail;go_roundw
   case rel=>exact ⟨j+1,c++[o.v.raw],_,by go_num,by omega,by simp [HCL.o],GO.o H0.o,OXX.o,KX.o⟩
   case measure=>simp [intOf];omega
  ·obtain rfl:j=k+1:=by omega
   have hr:r=⟨c,0⟩:=by
    have:=HCO.o;rw [show k+1-(k+1)=0 by omega] at this;exact this.symm
   have FI:=Ad (show J3 r w (.returned u15) wr by
    rw [hr];exact ⟨K.o.trans KR.o,.inl ⟨rfl,_,rfl,OWN.o.ivS,λg hg=>Bp K.o.size (OWN.o.base g hg)⟩⟩)
   clear hr;go_wp2_with fail;go_ret;exact FI.o
theorem jz (ov:Iv->Nat->Outc Iv)(p:Nat)(l:Ln)(all:List (List RawI))(t:List RawI)(x q:List (List RawI))(k:Nat)(h:l.op=1):Fe ov p l all t x q k=Dp p (Bs l.k k) [] (List.range' 0 (k+1)):=by
 unfold Fe;rw [h,<-List.range_eq_range'];rfl
theorem rH {t:List RawI}{x q:List (List RawI)}{l:Ln}(h:l.op=1)(gl:l.k.iv.Ok/\l.k.iv.raw=l.k)(hk:k<=900)(p1:1<=p)(p2:p<=300):Xx tm ov p k t x q i l:=by
 refine ⟨λall hi gall e=>?_,?_⟩
 ·rw [jz _ _ _ _ _ _ _ _ h] at e ⊢;obtain ⟨q1,q2⟩:=N4 p1 (Pa gl k) _ _ gd_nil e;exact ⟨q1,by rw [q2];simp⟩
 ·intro w vl vall vt vx vq all hl hall hi gall ht hx hq hT;rw [jz _ _ _ _ _ _ _ _ h];exact mK h hl gl hk hT p1 p2
theorem qo:H8 iu :=
 ⟨λ_ _ _ _ _ _ _=>qN,λ_ _ _ _ _ _ _=>re,λ_ _ _ _ _ _ _=>qT,λ_ _ _ _ _ _ _=>qP,λ_ _ _ _ _=>qV,λ_ _ _ _ _=>qZ,λ_ _ _ _ _=>oZ⟩
theorem jA (ov:Iv->Nat->Outc Iv)(p:Nat)(l:Ln)(all:List (List RawI))(t:List RawI)(x q:List (List RawI))(k:Nat)(h:l.op=2):Fe ov p l all t x q k=Dp p t [] (List.range' 0 (k+1)):=by
 unfold Fe;rw [h,<-List.range_eq_range'];rfl
theorem jB (ov:Iv->Nat->Outc Iv)(p:Nat)(l:Ln)(all:List (List RawI))(t:List RawI)(x q:List (List RawI))(k:Nat)(h:l.op=5):Fe ov p l all t x q k=Dp p (Hy q l.a) [] (List.range' 0 (k+1)):=by
 unfold Fe;rw [h,<-List.range_eq_range'];rfl
theorem rI {t:List RawI}{x q:List (List RawI)}{l:Ln}(h:l.op=2)(gt:Gd t)(lt:t.length=k+1)(hk:k<=900)(p1:1<=p)(p2:p<=300):Xx true ov p k t x q i l:=by
 refine ⟨λall hi gall e=>?_,?_⟩
 ·rw [jA _ _ _ _ _ _ _ _ h] at e ⊢;obtain ⟨q1,q2⟩:=N4 p1 gt _ _ gd_nil e;exact ⟨q1,by rw [q2];simp⟩
 ·intro w vl vall vt vx vq all hl hall hi gall ht hx hq hT;rw [jA _ _ _ _ _ _ _ _ h];exact mP h hl (ht rfl) gt (by omega) (by omega) hT p1 p2
theorem rL {j:Nat}{t:List RawI}{x q:List (List RawI)}{l:Ln}(h:l.op=5)(ha:l.a=(j:Int))(hj:j<q.length)(gq:GdR k q)(hk:k<=900)(p1:1<=p)(p2:p<=300):Xx tm ov p k t x q i l:=by
 obtain ⟨g1,g2⟩:=gq.at hj;refine ⟨λall hi gall e=>?_,?_⟩
 ·rw [jB _ _ _ _ _ _ _ _ h,Hy,ha,Int.toNat_natCast] at e ⊢;obtain ⟨q1,q2⟩:=N4 p1 g1 _ _ gd_nil e;exact ⟨q1,by rw [q2];simp⟩
 ·intro w vl vall vt vx vq all hl hall hi gall ht hx hq hT;rw [jB _ _ _ _ _ _ _ _ h,Hy,ha,Int.toNat_natCast];exact mO h hl hq hj ha rfl g1 (by omega) (by omega) hT p1 p2
theorem az {x u q:Int}:∀ (ls:List Ln) (i j:Nat) (l:Ln),Me x u q i ls=true->ls[j]?=some l->Ix l ((i+j:Nat):Int) x u q=true
 | [],_,_,_,_,hl=>by simp at hl
 | m :: ls, i, 0, l, h, hl => by
   rw [Me,Bool.and_eq_true] at h;obtain rfl:m=l:=by simpa using hl
   exact h.1
 | m :: ls, i, j + 1, l, h, hl => by
   rw [Me,Bool.and_eq_true] at h;have:=az ls (i+1) j l h.2 (by simpa using hl);rwa [show i+1+j=i+(j+1) by omega] at this
theorem It {n m:Int}(h:Cr n m=true):∃ j:Nat,n=(j:Int)/\(j:Int)<m:=by
 unfold Cr at h;simp only [Bool.and_eq_true,decide_eq_true_eq] at h;exact ⟨n.toNat,by omega,by omega⟩
theorem jy {t:List RawI}{x q:List (List RawI)}{l:Ln}{nx nq:Nat}(hm:Ix l (i:Int) (nx:Int) 0 (nq:Int)=true)(ck:Dl l.k=true->l.k.iv.Ok/\l.k.iv.raw=l.k)(gt:Gd t)(lt:t.length=k+1)(gx:GdR k x)(lx:x.length=nx)(gq:GdR k q)(lq:q.length=nq)(hk:k<=900)(p1:1<=p)(p2:p<=300):Xx true P4 p k t x q i l:=by
 unfold Ix at hm;by_cases h1:l.op=1
 ·rw [Ak h1,Bool.and_eq_true] at hm;exact rH h1 (ck hm.1) hk p1 p2
 rw [Af h1] at hm;split at hm
 ·cases hm
 by_cases h2:l.op=2
 ·exact rI h2 gt lt hk p1 p2
 rw [Af h2] at hm;by_cases h3:l.op=3
 ·rw [Ak h3,Bool.and_eq_true] at hm;obtain ⟨j,hj,hlt⟩:=It hm.1;exact rJ h3 hj (by omega) gx hk p1 p2
 rw [Af h3] at hm;by_cases h4:l.op=4
 ·rw [Ak h4,Bool.and_eq_true] at hm;obtain ⟨j,hj,hlt⟩:=It hm.1;omega
 rw [Af h4] at hm;by_cases h5:l.op=5
 ·rw [Ak h5,Bool.and_eq_true] at hm;obtain ⟨j,hj,hlt⟩:=It hm.1;exact rL h5 hj (by omega) gq hk p1 p2
 rw [Af h5] at hm;have V:=Y7.1;have N:im P4 iu:=n6 qo Y7;split at hm
 ·rename_i h6;rw [Bool.and_eq_true] at hm;obtain ⟨j,hj,hlt⟩:=It hm.1;obtain ⟨m,hm',hlt2⟩:=It hm.2;exact jx V N ⟨by omega,by omega⟩ hj hm' (by omega) (by omega) hk p1 p2
 split at hm
 ·rename_i h6 h7;rw [Bool.and_eq_true] at hm;obtain ⟨j,hj,hlt⟩:=It hm.1;have h0:l.b=((0:Nat):Int):=by simpa using hm.2
  exact jx V N ⟨by omega,by omega⟩ hj h0 (by omega) (by omega) hk p1 p2
 ·cases hm
theorem TpR.clean (h:TpR w v ls outs):∀ l∈ls,Dl l.k=true->l.k.iv.Ok/\l.k.iv.raw=l.k:=by
 intro l hl hm;obtain ⟨i,hi⟩:=List.getElem?_of_mem hl;obtain ⟨s,o,-,⟨A,c,-,-,hA⟩,-⟩:=h;obtain ⟨b,off,-,hD⟩:=hA (by have:=(Ed hi).1;omega);obtain ⟨-,-,-,y0,y1,y2,y3,y4,y5,-,-,-,-,-,-,hI⟩:=hD i l hi;exact hI.clean hm
theorem IvS.clean (h:IvS w v l):∀ a∈l,Dl a=true->a.iv.Ok/\a.iv.raw=a:=by
 intro a ha hm;obtain ⟨i,hi⟩:=List.getElem?_of_mem ha;obtain ⟨A,c,-,-,hA⟩:=h;obtain ⟨b,off,-,hD⟩:=hA (by have:=(Ed hi).1;omega);obtain ⟨y0,y1,y2,y3,y4,y5,-,-,-,-,-,-,hI⟩:=hD i a hi;exact hI.clean hm
theorem Vu {ov:Iv->Nat->Outc Iv}{p:Nat}{ls:List Ln}{outs:List Int}{time q:List RawI}:∀ (ns:List Nat) (o:List (List RawI)),(Cu ov p ls outs time q o ns).k≠0->(Cu ov p ls outs time q o ns).v=[]
 | [],o,h=>absurd rfl h
 | n :: ns, o, h => by
   rw [Cu] at h ⊢;split
   ·rfl
   ·rename_i e1;rw [Af e1] at h;split
    ·rfl
    ·rename_i e2;rw [Af e2] at h;exact Vu ns _ h
theorem dO {k p:Int}(h:(Ei ov ls outs t x q k p).k≠0):(Ei ov ls outs t x q k p).v=[]:=by
 unfold Ei at h ⊢;split
 ·rename_i e1;rw [Ak e1] at h;split
  ·rename_i e2;rw [Ak e2] at h;exact Vu _ _ h
  ·rfl
 ·rfl
theorem kT (ht:t.iv.Ok/\t.iv.raw=t)(k:Nat):Gd (Hg t k)/\(Hg t k).length=k+1:=by
 have hc:=Pa ht k;have hp:(Fm 1).Ok:=P5 (E6 _ _ _).1;unfold Hg;split
 ·refine ⟨fun a ha=>?_,by simp [Bs]⟩;rcases List.mem_or_eq_of_mem_set ha with ha | rfl
  ·exact hc a ha
  ·rw [Iv.raw_iv];exact ⟨hp,rfl⟩
 ·exact ⟨hc,by simp [Bs]⟩
theorem Sm (hv:TpR w vt ls outs)(hI:IvR w vi t)(hx:IvS w vx x)(hq:IvS w vq q)(hok:Ru   ls)(lx:∀ a∈x,a.lens 17592186044416)(lq:∀ a∈q,a.lens 17592186044416)(lt:t.lens 17592186044416)
 (n8:x.length<=100) (n9:q.length<=100) (hn:ls.length<=200) (hno:outs.length<=200) (hw:Eg k p=true) (hT:Tab w) :
 Calls Tryz.prog 27 #[vt,vi,vx,vq,.int .i64 (k:Int),.int .i64 (p:Int)] w (Pv (Ei P4 ls outs t x q k p) w):=by
 have hcl:=hv.clean;have hv':=hv;obtain ⟨s,o,rfl,hls,hou⟩:=hv';obtain ⟨A,ca,rfl,-,-⟩:=hls;obtain ⟨B,cb,rfl,-,-⟩:=hou;have hx':=hx;obtain ⟨AX,cx,rfl,-,-⟩:=hx';have hq':=hq;obtain ⟨AP,cq,rfl,-,-⟩:=hq';have hI':=hI;obtain ⟨A1,l1,d1,A2,l2,d2,rfl,-,-⟩:=Ar hI';refine dR dO λw1 kw hb=>?_
 have hG:SvG w1 (w.heap.size+1+1+1+1+1) (w.heap.size+1+1+1+1) w.heap.size (w.heap.size+1+1) (w.heap.size+1+1+1) (w.heap.size+1) (.slice A ls.length ca) (.slice B outs.length cb) (.slice AX x.length cx) (.slice AP q.length cq) (.bool t.lo.neg) (.slice A1 l1 d1) (.int .i64 t.lo.e) (.bool t.hi.neg) (.slice A2 l2 d2) (.int .i64 t.hi.e) k p :=
  ⟨hb.b,hb.k,hb.f,hb.x,hb.p,hb.t⟩
 have kp:k<=12/\1<=p/\p<=300:=by
  unfold Eg at hw;simp only [Bool.and_eq_true,decide_eq_true_eq] at hw;omega
 obtain ⟨k12,p1,p2⟩:=kp;have hS:∀ (m:Bool),(Iy ls outs x.length 0 q.length&&decide (outs.length=x.length)&&(x++[t]).all Dl&&q.all Dl)=m->Ei P4 ls outs t x q k p=if m then (if (D6 p x []).k=0 then Cu P4 p ls outs (Hg t k) q (D6 p x []).v (List.range' 0 k) else ⟨[],(D6 p x []).k⟩) else ⟨[],1⟩:=by
  intro m hm;rw [Mn,hw,Bool.true_and];unfold Nn;rw [hm];simp only [Int.toNat_natCast,List.range_eq_range']
 by_cases hm:Iy ls outs x.length 0 q.length=true
 ·by_cases hol:outs.length=x.length
  ·have hf : Li    [x ++ [t]] x.length = (x ++ [t]).all Dl   := by
    unfold Li;simp
   have hv1:=hv.kept kw;by_cases hxt:(x++[t]).all Dl=true
   ·have ct:t.iv.Ok/\t.iv.raw=t:=hI.clean (by rw [List.all_append,Bool.and_eq_true] at hxt;simpa using hxt.2);obtain ⟨tg,tl⟩:=kT ct k;rw [hol] at hv1 hG;exact kI (R:=Ei P4 ls outs t x q k p) qo ⟨by decide,by decide⟩ hG (hx.kept kw) (hq.kept kw) (hI.kept kw) rfl rfl n8 n9 lx lq lt hv1 hok hn hno hol (λn hn'=>by
     unfold Iy at hm;simp only [Bool.and_eq_true] at hm;have:=List.all_eq_true.1 hm.2 n hn';unfold Cr at this;simpa using this) hw hm (by rw [hf,hxt])
     (λhqm n rows hnk hrl hgr i l hl=>by
       have hml:Me x.length 0 q.length 0 ls=true:=by
        unfold Iy at hm;simp only [Bool.and_eq_true] at hm;exact hm.1.2
       have h:=az ls 0 i l hml hl;rw [Nat.zero_add] at h;refine jy h (hcl l (Dc hl)) (λa ha=>tg a (List.mem_of_mem_take ha)) (by rw [List.length_take,tl];omega) hgr hrl (λr hr=>?_) (by simp) (by omega) p1 p2;obtain ⟨a,ha,rfl⟩:=List.mem_map.1 hr;exact ⟨Pa (hq.clean a ha (List.all_eq_true.1 hqm a ha)) n,by simp [Bs]⟩)
     (λhqm=>by rw [hS true (by rw [hm,hxt,hqm,decide_eq_true hol];rfl)];rfl) (λhqm=>by rw [hS false (by rw [hqm,Bool.and_false])];rfl) (hT.kept kw)
   ·have hxf:(x++[t]).all Dl=false:=by simpa using hxt
    rw [hS false (by rw [hxf,Bool.and_false,Bool.false_and])];rw [hol] at hv1 hG;exact dP hG (hx.kept kw) (hI.kept kw) rfl n8 n9 lx lt hv1 hok hn hno hw hm (by rw [hf,hxf])
  ·rw [hS false (by rw [decide_eq_false hol,Bool.and_false,Bool.false_and,Bool.false_and])];exact Vl hG (hv.kept kw) hok (by omega) (by omega) (by omega) (by omega) hw hm (λ_=>by simp;omega)
 ·have hmf:Iy ls outs x.length 0 q.length=false:=by simpa using hm
  rw [hS false (by rw [hmf,Bool.false_and,Bool.false_and,Bool.false_and])];exact Vl hG (hv.kept kw) hok (by omega) (by omega) (by omega) (by omega) hw hmf (λh=>by cases h)
theorem Rws.shape (h:Rws w v rows)(hn:rows.length=n):∃ A c,v=.slice A n c/\n<=c/\∀ (i:Nat) (r:List RawI),rows[i]?=some r->∃ b off s,A=some ⟨b,off,none⟩/\w.cell? ⟨b,off+i,none⟩=some s/\IvS w s r:=by
 obtain ⟨A,c,rfl,hc,hA⟩:=h;rw [hn] at hc ⊢;refine ⟨A,c,rfl,hc,λi r hi=>?_⟩;obtain ⟨b,off,e,hD⟩:=hA (by have:=(Ed hi).1;omega);obtain ⟨s,h1,h2⟩:=hD i r hi;exact ⟨b,off,s,e,h1,h2⟩
theorem IvS.shape (h:IvS w v l)(hn:l.length=n)(h0:0<n):∃ b off c,v=.slice (some ⟨b,off,none⟩) n c/\n<=c/\∀ (i:Nat) (a:RawI),l[i]?=some a->IvAt w b (off+i*6) a:=by
 obtain ⟨A,c,rfl,hc,hA⟩:=h;obtain ⟨b,off,rfl,hD⟩:=hA (by omega);rw [hn] at hc ⊢;exact ⟨b,off,c,rfl,hc,hD⟩
theorem IvS.shape0 (h:IvS w v l)(hn:l.length=n):∃ A c,v=.slice A n c/\∀ (i:Nat) (a:RawI),l[i]?=some a->∃ b off,A=some ⟨b,off,none⟩/\IvAt w b (off+i*6) a:=by
 obtain ⟨A,c,rfl,hc,hA⟩:=h;rw [hn];refine ⟨A,c,rfl,λi a hi=>?_⟩;obtain ⟨b,off,e,hD⟩:=hA (by have:=(Ed hi).1;omega);exact ⟨b,off,e,hD i a hi⟩
theorem Xq {ov:Iv->Nat->Outc Iv}{p:Nat}{ls:List Ln}{outs:List Int}{time q:List RawI}(p1:1<=p):∀ (ns:List Nat) (o:List (List RawI)),o.length=outs.length->(∀ r∈o,Gd r)->(Cu ov p ls outs time q o ns).k=0->∀ r∈(Cu ov p ls outs time q o ns).v,Gd r
 | [],o,_,h,_=>h
 | n :: ns, o, ho, h, hk => by
   obtain ⟨h1,h2,h3⟩:=Lq hk;rw [h3] at hk ⊢;have hl:=Ou h1;obtain ⟨g1,g2⟩:=Ma o _ (by rw [hl,ho]) h2;refine Xq p1 ns _ (by rw [g1,ho]) (λr hr=>?_) hk;obtain ⟨j,hj⟩:=List.getElem?_of_mem hr;have hj2:j<o.length:=by have:=(Ed hj).1;omega
   obtain ⟨-,e⟩:=g2 j _ _ (Cd hj2) (Cd (by omega));rw [Option.some.inj (hj.symm.trans e)];exact (h _ (List.getElem_mem hj2)).snoc (Kd (P5 (E6 _ _ _).1) p1).1
theorem gU (p1:1<=p)(cx:∀ a∈x,Dl a=true->a.iv.Ok)(h:(Ei ov ls outs t x q (k:Int) (p:Int)).k=0):∀ r∈(Ei ov ls outs t x q k p).v,Gd r:=by
 obtain ⟨hw,hm,hf,e⟩:=Ow h;rw [e] at h ⊢;unfold Nn at hm;simp only [Bool.and_eq_true,decide_eq_true_eq] at hm;obtain ⟨⟨⟨-,hol⟩,mxt⟩,-⟩:=hm;rw [List.all_append,Bool.and_eq_true] at mxt;refine Xq p1 _ _ (by simp [Cj,hol]) (λr hr=>?_) h;unfold Cj at hr;obtain ⟨b,hb,rfl⟩:=List.mem_map.1 hr;obtain ⟨a,ha,rfl⟩:=List.mem_map.1 hb;exact gd_nil.snoc (D8 (cx a ha (List.all_eq_true.1 mxt.1 a ha)) p1).1
theorem Ys (h:a.iv.Ok/\a.iv.raw=a):a.lens 1000000:=by
 have h1:=Eb h.1.lo;have h2:=Eb h.1.hi;rw [<-h.2];exact ⟨by show a.iv.lo.raw.m.length<=_;omega,by show a.iv.hi.raw.m.length<=_;omega⟩
theorem mI (h:a.lens 1000000):a.lens 17592186044416:=⟨by have:=h.1;omega,by have:=h.2;omega⟩
theorem nG (p:Nat)(a:Iv)(ok:a.Ok)(hk:(P4 a p).k=0):Sz p (P4 a p).v:=by
 obtain ⟨a1,a2,a3⟩:=aG hk;obtain ⟨-,⟨lo,hi,-,-,d1,-⟩,-⟩:=Pe ok.lo a1;obtain ⟨-,⟨lo',hi',-,-,d2,-⟩,-⟩:=Pe ok.hi a2;rw [a3];exact ⟨IsDown.fits d1,IsUp.fits d2⟩
theorem OwnI.setlow {B:Nat}{xs:List Value}(h:OwnI w B v l xs)(hlt:bx<B)(hc:w.cell? ⟨bx,i,none⟩=some c0)(hn:Bv c0):OwnI (w.setCell ⟨bx,i,none⟩ u) B v l xs:=by
 have k:KB w [bx] (w.setCell ⟨bx,i,none⟩ u):=(KB.refl w [bx]).setCell (by simp) hc hn u;obtain ⟨h1,h2,h3,h4,h5⟩:=h;have blk:∀ g o,B<=g->w.heap[g]?=some o->(w.setCell ⟨bx,i,none⟩ u).heap[g]?=some o:=λg o hg ho=>(Below.heap_setCell _ _ _ _ (show g≠bx by omega)).trans ho
 refine ⟨⟨h1.1,?_⟩,h2,h3,?_,?_⟩
 ·rcases h1.2 with hn | ⟨g2,cap,cr,e,hb2,hg2,rest⟩
  ·exact .inl hn
  ·exact .inr ⟨g2,cap,cr,e,hb2,blk _ _ hb2 hg2,rest⟩
 ·intro g2 hg2;obtain ⟨cr,e,q1,q2⟩:=h4 g2 hg2;refine ⟨cr,e,blk _ _ ?_ q1,q2⟩;rcases h1.2 with ⟨rfl,-⟩ | ⟨g3,cap,cr',rfl,hb2,-⟩
  ·simp [Value.ownBlock] at hg2
  ·obtain rfl:g3=g2:=by simpa [Value.ownBlock] using hg2
   exact hb2
 ·intro i a hi;obtain ⟨p0,p1,p2,p3,p4,p5,s0,s1,s2,s3,s4,s5,hI⟩:=h5 i a hi;exact ⟨p0,p1,p2,p3,p4,p5,s0,s1,s2,s3,s4,s5,hI.kb k⟩
theorem OneI.setlow (h:OneI w v r)(hb:w.heap[bx]?=some (.cells cs T (0,0)))(h9:cs.size≠6)(hc:w.cell? ⟨bx,i,none⟩=some c0)(hn:Bv c0):OneI (w.setCell ⟨bx,i,none⟩ u) v r:=by
 have k:KB w [bx] (w.setCell ⟨bx,i,none⟩ u):=(KB.refl w [bx]).setCell (by simp) hc hn u;obtain ⟨b,x',y,z,x'',y',z',e,h1,h2⟩:=h;refine ⟨b,x',y,z,x'',y',z',e,h1.kb k ?_,h2.kb k⟩;intro hm;simp only [List.mem_singleton] at hm;subst hm;unfold BlkI at h1;rw [h1] at hb;injection hb with hb
 injection hb with hb
 subst hb;exact h9 rfl
def qK (x0 x1 x2 x3 x4 x5 u v:Value):Array Value:=#[x0,x1,x2,x3,x4,x5,u,.slice none 0 0,v]
structure EnK (B bE:Nat) (x0 x1 x2 x3 x4 x5 vp vX:Value) (l:List RawI) (xs:List Value) (d:RawI) (l0 l1 l2:Bool) (w:World):Prop where
 own:l1=false->OwnI w B vX l xs
 box:l2=false->w.heap[bE]?=some (.cells (qK x0 x1 x2 x3 x4 x5 vX vp) 33 (0,0))
 did:l2=true->l0=true/\l1=true/\∃ v' xs',w.heap[bE]?=some (.cells (qK x0 x1 x2 x3 x4 x5 v' vp) 33 (0,0))/\OwnI w B v' (l++[d]) xs'
section
variable {B bE:Nat} {x0 x1 x2 x3 x4 x5 vp vX:Value} {l:List RawI} {xs:List Value} {d:RawI} {l0 l1 l2:Bool} {w w':World}
theorem EnK.kept (k:Kept w w')(h:EnK B bE x0 x1 x2 x3 x4 x5 vp vX l xs d l0 l1 l2 w):EnK B bE x0 x1 x2 x3 x4 x5 vp vX l xs d l0 l1 l2 w' :=
 ⟨fun e => (h.own e).kept k, fun e => Ay       (h.box e) k, fun e => by
  obtain ⟨e0,e1,v',xs',hb,hv⟩:=h.did e;exact ⟨e0,e1,v',xs',Ay hb k,hv.kept k⟩⟩
theorem EnK.seen (k:Kept w w')(h:EnK B bE x0 x1 x2 x3 x4 x5 vp vX l xs d l0 l1 l2 w):EnK B bE x0 x1 x2 x3 x4 x5 vp vX l xs d true l1 l2 w':=by
 obtain ⟨h1,h2,h3⟩:=h.kept k;exact ⟨h1,h2,λe=>⟨rfl,(h3 e).2⟩⟩
theorem EnK.boxed (h:EnK B bE x0 x1 x2 x3 x4 x5 vp vX l xs d l0 l1 l2 w)(hl:l0=false\/l1=false\/l2=false):w.heap[bE]?=some (.cells (qK x0 x1 x2 x3 x4 x5 vX vp) 33 (0,0)):=by
 cases l2
 ·exact h.box rfl
 ·obtain ⟨e0,e1,-⟩:=h.did rfl;rcases hl with hl | hl | hl
  ·rw [e0] at hl;cases hl
  ·rw [e1] at hl;cases hl
  ·cases hl
theorem EnK.app (h:EnK B bE x0 x1 x2 x3 x4 x5 vp vX l xs d l0 l1 l2 w)(hl:l1=false)(hlt:bE<B)(hg:w.grownBy w' vX.ownBlock):EnK B bE x0 x1 x2 x3 x4 x5 vp vX l xs d l0 true l2 w':=by
 refine ⟨λe=>(by cases e),λe=>?_,λe=>?_⟩
 ·have hb:=h.box e;rw [hg.block bE (Bi hb).1 (λe9=>by have:=(h.own hl).base bE e9.symm;omega)];exact hb
 ·obtain ⟨-,e1,-⟩:=h.did e;rw [hl] at e1;cases e1
theorem EnK.laid {v':Value}{xs':List Value}(h:EnK B bE x0 x1 x2 x3 x4 x5 vp vX l xs d l0 l1 l2 w)(h0:l0=true)(h1:l1=true)(hl2:l2=false)(hlt:bE<B)(hX:Bv vX)(ho:OwnI w B v' (l++[d]) xs') :
 EnK B bE x0 x1 x2 x3 x4 x5 vp vX l xs d l0 l1 true (w.setCell ⟨bE,6,none⟩ v'):=by
 have hb:=h.box hl2;have hx:w.cell? ⟨bE,6,none⟩=some vX:=Ae hb 6 _ rfl;refine ⟨λe=>by (rw [h1] at e;cases e),λe=>by (cases e),λ_=>⟨h0,h1,v',xs',?_,ho.setlow hlt hx hX⟩⟩;have:=Bw (i:=6) hb v';simpa [qK] using this
end
theorem dU:∃ c9,Ei P4 tE [0] rzI [(pt (Rs 8 (-3))).raw] [] ((3:Nat):Int) ((30:Nat):Int)=⟨[c9],0⟩/\Gd c9/\c9.length=4/\(gI c9 2).lo.e=-1/\(gI c9 3).lo.q<(gI c9 3).hi.q:=by
 have hE:E8 8 30:=⟨by decide,by decide,by decide⟩;obtain ⟨c9,h1,h2,h3⟩:=rV (ov:=P4) hE (K:=3) (by decide) (Hg rzI 3);have e:c9=(Cu P4 30 tE [0] (Hg rzI 3) [] [[(Bk (pt (Rs 8 (-3))) 30).v.raw]] (List.range' 0 3)).v.getD 0 []:=by rw [h1];rfl
 have e2:(gI c9 2).lo.e=-1:=by rw [e];decide +kernel
 have e3:(gI c9 3).lo.m≠(gI c9 3).hi.m:=by rw [e];decide +kernel
 have ok:=Lj h2.gd 3;have hne:(gI c9 3).lo.q≠(gI c9 3).hi.q:=λh=>e3 (congrArg Dy.m (kt ok.lo ok.hi h))
 have hle:=ok.le;have hf:D6 30 [(pt (Rs 8 (-3))).raw] []=⟨[[(Bk (pt (Rs 8 (-3))) 30).v.raw]],0⟩:=by
  rw [D6,Iv.raw_iv,Ak (ai hE).2.1.1];rfl
 have hm:Dl (pt (Rs 8 (-3))).raw=true:=Ev (P5 (Yi _ _));have hz:Dl rzI=true:=by rw [<-Pf];exact Ev Ss
 refine ⟨c9,?_,h2.gd,h3,e2,by grind⟩;rw [Mn,Ak (show (Eg ((3:Nat):Int) ((30:Nat):Int)&&Nn tE [0] rzI [(pt (Rs 8 (-3))).raw] [])=true by
  rw [show Eg ((3:Nat):Int) ((30:Nat):Int)=true from rfl,Bool.true_and];unfold Nn;simp only [List.all_append,List.all_cons,List.all_nil,hm,hz,Bool.and_true,List.length_cons,List.length_nil];rfl)]
 simp only [Int.toNat_natCast];rw [hf,Ak rfl,List.range_eq_range'];exact h1
theorem lf (hT:Tab w):Calls Tryz.prog 19 #[] w (RetK (.bool true) w):=by
 obtain ⟨c9,hs,gc9,lc9,he9,hq9⟩:=dU;have hl:rzI.lens 17592186044416:=⟨by show (0:Nat)<=17592186044416;decide,by show (0:Nat)<=17592186044416;decide⟩;have e:(⟨⟨false,[1],0⟩,⟨false,[1],0⟩⟩:RawI)=(pt (Rs 8 (-3))).raw:=by show _=RawI.mk (Rs 8 (-3)).raw (Rs 8 (-3)).raw;rw [sj]
 refine ld gc9 lc9 he9 hq9 (λw1 k vt vx ht hx=>?_) (λw1 k vt ht=>?_)
 ·rw [e] at hx;have hxs:IvS w1 vx [(pt (Rs 8 (-3))).raw]:=by
   obtain ⟨b,x,y,z,x',y',z',rfl,hb,hI⟩:=hx;refine ⟨_,_,rfl,Aq _,λ_=>⟨b,0,rfl,λi a hi=>?_⟩⟩;rcases i with _ | i
   ·obtain rfl:(pt (Rs 8 (-3))).raw=a:=by simpa using hi
    exact ⟨_,_,_,_,_,_,Ae hb 0 _ rfl,Ae hb 1 _ rfl,Ae hb 2 _ rfl,Ae hb 3 _ rfl,Ae hb 4 _ rfl,Ae hb 5 _ rfl,hI⟩
   ·simp at hi
  have h:=Sm (k:=3) (p:=30) ht (Gr w1) hxs (Lk w1) jD (λa ha=>by rw [List.mem_singleton.1 ha];exact Gx (P5 (Yi _ _))) (λa ha=>by cases ha) hl (by decide) (by decide) (by decide) (by decide) rfl (hT.kept k);rw [hs] at h;exact h
 ·have h:=Sm (k:=3) (p:=30) ht (Gr w1) (Lk w1) (Lk w1) jD (λa ha=>by cases ha) (λa ha=>by cases ha) hl (by decide) (by decide) (by decide) (by decide) rfl (hT.kept k);rwa [show Ei P4 tE [0] rzI [] [] ((3:Nat):Int) ((30:Nat):Int)=⟨[],1⟩ from by rw [Mn,Af (by decide)]] at h
theorem pu (w:World)(s o x0 x1 x2 x3 x4 x5:Value):∃ W,W=(w.alloc (.cells #[s,o] 25)).alloc (.cells #[x0,x1,x2,x3,x4,x5] 30)/\Kept w W/\W.heap[w.heap.size]?=some (.cells #[s,o] 25 (0,0))/\BlkI W (w.heap.size+1) x0 x1 x2 x3 x4 x5:=by
 refine ⟨_,rfl,(Ab _ _).trans (Ab _ _),Ay (heap_alloc_new _ _) (Ab _ _),?_⟩;have:=Ea (w.alloc (.cells #[s,o] 25)) x0 x1 x2 x3 x4 x5;simpa using this
theorem po (w:World)(s o:Value):∃ W,W=w.alloc (.cells #[s,o] 25)/\Kept w W/\W.heap[w.heap.size]?=some (.cells #[s,o] 25 (0,0)) :=
 ⟨_,rfl,Ab _ _,heap_alloc_new _ _⟩
theorem pL (hv:TpR w v ls outs)(hn:ls.length<=1000000000000000)(hno:outs.length<=1000000000000000)(hl:Ru ls) :
 Calls Tryz.prog 25 #[v] w (RetK (.bool (Rz ls outs&&decide (ls.length<=15))) w):=by
 have FC:=Ad (λw1 (k:Kept w w1)=>rC (hv.kept k) hn hno hl);obtain ⟨s,o,rfl,hls,hou⟩:=hv;obtain ⟨A,c,rfl,hc,-⟩:=hls;obtain ⟨B,d,rfl,hd,-⟩:=hou;obtain ⟨W,hW,kW,hb⟩:=po w (.slice A ls.length c) (.slice B outs.length d);have HW:=Ad hW;have K:=Ad kW;have HB:=Ad hb;obtain ⟨c0,c1⟩:=Ez hb;obtain ⟨bf,hbf⟩:∃ b,Rz ls outs=b:=⟨_,rfl⟩;rw [hbf] at FC ⊢;clear hW kW hb hbf hl;go_enter Tryz.func25,Tryz.ntmps25;go_upto_region 1 with fail;rw [<-HW.o];go_wp2_with fail;refine (FC.o _ K.o).mono ?_;rintro ee w1 ⟨rfl,q⟩;simp only [];have K1:=Ad (K.o.trans q);clear c0 c1 HW FC;obtain ⟨c0,c1⟩:=Ez (Ay HB.o q)
 cases bf
 ·go_wp2_with fail;go_ret;exact ⟨by simp,K1.o⟩
 ·by_cases h15:ls.length≤15
  ·have t15:(ls.length:Int)≤15:=by omega
   go_wp2_with fail;go_ret;exact ⟨by first | rfl | (rw [Bool.true_and,decide_eq_true h15];rfl),K1.o⟩
  ·have t15:¬(ls.length:Int)≤15:=by omega
   go_wp2_with fail;go_ret;exact ⟨by first | rfl | (rw [Bool.true_and,decide_eq_false h15];rfl),K1.o⟩
theorem jq {zi zk zp:Int}(hv:TpR w vt ls outs)(hI:IvR w vi t)(hx:IvS w vx x)(hq:IvS w vq q)(hok:Ru ls)(hn:ls.length<=1000000000000000)(hno:outs.length<=1000000000000000)(lt:t.lens 17592186044416)
 (lx:∀ a∈x,a.lens 17592186044416) (nx:x.length<=1000000000000000) (lq:∀ a∈q,a.lens 17592186044416) (nq:q.length<=1000000000000000) (hT:Tab w) :
 Calls Tryz.prog 6 #[vt,vi,vx,vq,.int .i64 zi,.int .i64 zk,.int .i64 zp] w (RetK (.bool true) w):=by
 have T:=Ad hT;have HTP:=Ad hv;have HIV:=Ad hI;have HX:=Ad hx;have HQ:=Ad hq;have OK:=Ad hok;have FC:=Ad (λw1 (k:Kept w w1)=>pL (hv.kept k) hn hno hok);have R0:=Ad (λw1 v (h:IvS w1 v [t])=>kB h (by simp) (λa ha=>by rw [List.mem_singleton.1 ha];exact lt));have R1:=Ad (λw1 (k:Kept w w1)=>kB (hx.kept k) nx lx);have R2:=Ad (λw1 (k:Kept w w1)=>kB (hq.kept k) nq lq);have TD:=Ad (λw1 (k:Kept w w1)=>lf (w:=w1) (hT.kept k));obtain ⟨bf,hbf⟩:∃ b,(Rz ls outs&&decide (ls.length<=15))=b:=⟨_,rfl⟩;rw [hbf] at FC;obtain ⟨bt,hbt⟩:∃ b,S5 [t]=b:=⟨_,rfl⟩;rw [hbt] at R0
 obtain ⟨bx,hbx⟩:∃ b,S5 x=b:=⟨_,rfl⟩;rw [hbx] at R1;obtain ⟨bq,hbq⟩:∃ b,S5 q=b:=⟨_,rfl⟩;rw [hbq] at R2;have HBF:=Ad hbf;have HBX:=Ad hbx;have HBQ:=Ad hbq;have LT:=Ad lt;obtain ⟨s,o,rfl,hls,hou⟩:=hv;obtain ⟨A,c,rfl,hc,-⟩:=hls;obtain ⟨B,d,rfl,hd,-⟩:=hou;obtain ⟨A1,m1,e1,A2,m2,e2,rfl,-,-⟩:=Ar hI;generalize t.lo.neg=zz1,t.lo.e=zz2,t.hi.neg=zz3,t.hi.e=zz4 at *;obtain ⟨AX,cx,rfl,-,-⟩:=hx;obtain ⟨AP,cq,rfl,-,-⟩:=hq;obtain ⟨W,hW,kW,hb,hb'⟩:=pu w (.slice A ls.length c) (.slice B outs.length d) (.bool zz1) (.slice A1 m1 e1) (.int .i64 zz2) (.bool zz3) (.slice A2 m2 e2) (.int .i64 zz4)
 have HW:=Ad hW;have K:=Ad kW;have HB:=Ad hb;have HB':=Ad hb';obtain ⟨c0,c1⟩:=Ez hb;clear hT hok hn hno lx lq lt nx nq hI hW kW hb hb' hbf hbt hbx hbq;go_enter Tryz.func6,Tryz.ntmps6;go_upto_region 1 with fail;rw [<-HW.o];go_wp2_with fail;refine (FC.o _ K.o).mono ?_;rintro ee w1 ⟨rfl,q1⟩;simp only [];replace K:=Ad (K.o.trans q1);replace HB:=Ad (Ay HB.o q1);replace HB':=Ad (HB'.o.kept q1);clear q1 c0 c1 HW FC;obtain ⟨-,d0,d1,d2,d3,d4,d5⟩:=HB'.o.facts;cases bf
 ·skip
  go_wp2_with fail;refine (TD.o _ K.o).mono ?_;rintro ee w9 ⟨rfl,q9⟩;simp only [];go_wp2_with fail;go_ret;exact ⟨rfl,K.o.trans q9⟩
 go_wp2_with fail;refine (R0.o _ _ (mG (HIV.o.kept K.o))).mono ?_;rintro ee w2 ⟨rfl,q1⟩;simp only [];replace K:=Ad (K.o.trans ((Ab _ _).trans q1));replace HB:=Ad (Ay HB.o ((Ab _ _).trans q1));replace HB':=Ad (HB'.o.kept ((Ab _ _).trans q1));clear q1 d0 d1 d2 d3 d4 d5 R0;cases bt
 ·skip
  go_wp2_with fail;refine (TD.o _ K.o).mono ?_;rintro ee w9 ⟨rfl,q9⟩;simp only [];go_wp2_with fail;go_ret;exact ⟨rfl,K.o.trans q9⟩
 go_wp2_with fail;refine (R1.o _ K.o).mono ?_;rintro ee w3 ⟨rfl,q1⟩;simp only [];replace K:=Ad (K.o.trans q1);replace HB:=Ad (Ay HB.o q1);replace HB':=Ad (HB'.o.kept q1);clear q1 R1;cases bx
 ·skip
  go_wp2_with fail;refine (TD.o _ K.o).mono ?_;rintro ee w9 ⟨rfl,q9⟩;simp only [];go_wp2_with fail;go_ret;exact ⟨rfl,K.o.trans q9⟩
 go_wp2_with fail;refine (R2.o _ K.o).mono ?_;rintro ee w4 ⟨rfl,q1⟩;simp only [];replace K:=Ad (K.o.trans q1);replace HB:=Ad (Ay HB.o q1);replace HB':=Ad (HB'.o.kept q1);clear q1 R2;cases bq
 ·skip
  go_wp2_with fail;refine (TD.o _ K.o).mono ?_;rintro ee w9 ⟨rfl,q9⟩;simp only [];go_wp2_with fail;go_ret;exact ⟨rfl,K.o.trans q9⟩
 obtain ⟨l40,o12,-⟩:=cT (by have:=HBF.o;rw [Bool.and_eq_true] at this;exact this.1);obtain ⟨nx,lx6⟩:=Uj HBX.o;obtain ⟨nq,lq6⟩:=Uj HBQ.o;have lx:∀ a∈x,a.lens 17592186044416:=λa ha=>⟨by have:=(lx6 a ha).1;omega,by have:=(lx6 a ha).2;omega⟩
 have lq:∀ a∈q,a.lens 17592186044416:=λa ha=>⟨by have:=(lq6 a ha).1;omega,by have:=(lq6 a ha).2;omega⟩
 clear lx6 lq6;obtain ⟨n,hnb,n1,n2⟩:=oK zp 8 73 (by decide) (by decide);obtain ⟨hi,hhi,hi1,hi2⟩:=oK zk 1 6 (by decide) (by decide);obtain ⟨lo,hlo,lo1⟩:=rT zi hi (by omega) (by omega);have hnb':wrap64 (8+wrap64 ((IntKind.u64.wrap zp).tmod 73))=(n:Int):=hnb;have hhi':wrap64 (1+wrap64 ((IntKind.u64.wrap zk).tmod 6))=(hi:Int):=hhi;have huh:IntKind.u64.wrap (hi:Int)=(hi:Int):=by rw [IntKind.wrap_u64];omega
 have SV:=Ad (λ(k:Nat) (hk:k<=12) w1 (kq:Kept w w1)=>Sm (k:=k) (p:=n) (HTP.o.kept kq) (HIV.o.kept kq) (HX.o.kept kq) (HQ.o.kept kq) OK.o lx lq LT.o (by omega) (by omega) (by omega) (by omega) (by unfold Eg;simp only [Bool.and_eq_true,decide_eq_true_eq];omega) (T.o.kept kq));have LX:=Ad lx;have LQ:=Ad lq;clear hnb hhi lx lq HBF HBX HBQ;go_upto_region 5 with fail;simp only [hnb',hhi'];clear hnb' hhi';have hne:¬(hi:Int)=0:=by omega
 go_upto_region 6 with fail;simp only [hlo];clear huh hlo hne;obtain ⟨c0,c1⟩:=Ez HB.o;obtain ⟨-,d0,d1,d2,d3,d4,d5⟩:=HB'.o.facts;go_wp2_with fail;obtain ⟨G1,hG1⟩:∃ G,Ei P4 ls outs t x q (hi:Int) (n:Int)=G:=⟨_,rfl⟩;obtain ⟨G2,hG2⟩:∃ G,Ei P4 ls outs t x q (lo:Int) (n:Int)=G:=⟨_,rfl⟩;have S1:=Ad (λw1 (kq:Kept w w1)=>show Calls Tryz.prog 27 #[.agg #[.slice A ls.length c,.slice B outs.length d],.agg #[.bool zz1,.slice A1 m1 e1,.int .i64 zz2,.bool zz3,.slice A2 m2 e2,.int .i64 zz4],.slice AX x.length cx,.slice AP q.length cq,.int .i64 (hi:Int),.int .i64 (n:Int)] w1 (Pv G1 w1) by rw [<-hG1];exact SV.o hi (by omega) w1 kq)
 have S2:=Ad (λw1 (kq:Kept w w1)=>show Calls Tryz.prog 27 #[.agg #[.slice A ls.length c,.slice B outs.length d],.agg #[.bool zz1,.slice A1 m1 e1,.int .i64 zz2,.bool zz3,.slice A2 m2 e2,.int .i64 zz4],.slice AX x.length cx,.slice AP q.length cq,.int .i64 (lo:Int),.int .i64 (n:Int)] w1 (Pv G2 w1) by rw [<-hG2];exact SV.o lo (by omega) w1 kq);have HG1:=Ad hG1;have HG2:=Ad hG2;clear hG1 hG2 SV;refine (S1.o _ K.o).mono ?_;rintro ee w5 ⟨q1,v3,rfl,h3⟩;simp only [];replace K:=Ad (K.o.trans q1);replace HB:=Ad (Ay HB.o q1);replace HB':=Ad (HB'.o.kept q1);have H3:=Ad h3;clear q1 h3 c0 c1 d0 d1 d2 d3 d4 d5 S1
 obtain ⟨c0,c1⟩:=Ez HB.o;obtain ⟨-,d0,d1,d2,d3,d4,d5⟩:=HB'.o.facts;go_wp2_with fail;refine (S2.o _ K.o).mono ?_;rintro ee w6 ⟨q1,v4,rfl,h4⟩;simp only [];replace K:=Ad (K.o.trans q1);replace HB:=Ad (Ay HB.o q1);replace HB':=Ad (HB'.o.kept q1);replace H3:=Ad (H3.o.kept q1);have H4:=Ad h4;clear q1 h4 c0 c1 d0 d1 d2 d3 d4 d5 S2;by_cases hk:G1.k=0
 case neg =>
  have gk:(G1.k != 0)=true:=by simp [hk]
  clear hk;go_wp2_with fail;refine (TD.o _ K.o).mono ?_;rintro ee w9 ⟨rfl,q9⟩;simp only [];go_wp2_with fail;go_ret;exact ⟨rfl,K.o.trans q9⟩
 have gk:(G1.k != 0)=false:=by simp [hk]
 obtain ⟨gk2',l1,l2,hrows⟩:=bD (ov:=P4) (ls:=ls) (outs:=outs) (t:=t) (x:=x) (q:=q) (p:=n) lo1 (by rw [HG1.o];exact hk);obtain ⟨XS,VS,lxs,lvs,gxs,gvs,hev,hrv⟩:=dQ (ov:=P4) (ls:=ls) (outs:=outs) (t:=t) (x:=x) (q:=q) (hi:=hi) (p:=n) (by omega) (nG n) (λa ha=>kl a n ha (by omega) (by omega)) (by rw [HG1.o];exact hk) (λhm=>(HIV.o.clean hm).1) (λa ha hm=>(HX.o.clean a ha hm).1) HQ.o.clean (λl hl hm=>(HTP.o.clean l hl hm).1);have hgd:=gU (ov:=P4) (ls:=ls) (outs:=outs) (t:=t) (x:=x) (q:=q) (k:=hi) (p:=n) (by omega) (λa ha hm=>(HX.o.clean a ha hm).1) (by rw [HG1.o];exact hk)
 rw [HG1.o] at l1 hrows hrv hgd;rw [HG2.o] at gk2' l2 hrows;have gk2:(G2.k != 0)=false:=by simp [gk2']
 obtain ⟨A3,c3,rfl,-,hA3⟩:=H3.o.shape l1;obtain ⟨A4,c4,rfl,-,hA4⟩:=H4.o.shape l2;have ROWS:=Ad hrows;have HRV:=Ad hrv;have HGD:=Ad hgd;have HA3:=Ad hA3;have HA4:=Ad hA4;have GXS:=Ad gxs;have GVS:=Ad gvs;have LXS:=Ad lxs;have LVS:=Ad lvs;have VC:=Ad (λw1 (kq:Kept w w1) ve (he:EnR w1 ve ⟨t,XS,[],q⟩)=>show Calls Tryz.prog 17 #[.agg #[.slice A ls.length c,.slice B outs.length d],ve,.int .i64 (n:Int)] w1 (ix ⟨VS,0⟩ w1) by
  have h:=pK (ov:=P4) (p:=(n:Int)) (HTP.o.kept kq) he OK.o ⟨LT.o,λa ha=>mI (Ys (gxs a ha)),λa ha=>(by cases ha),LQ.o,by show XS.length<=_;omega,by show 0<=_;omega,by show q.length<=_;omega⟩ (by omega) (by omega) (T.o.kept kq) (λ_ _ _=>Y7) qo (λl _ a b=>⟨a,by omega⟩);rwa [hev] at h)
 obtain ⟨W7,hW7,kW7,hE,sE⟩:=rh w6 (.bool zz1) (.slice A1 m1 e1) (.int .i64 zz2) (.bool zz3) (.slice A2 m2 e2) (.int .i64 zz4) (.slice none 0 0) (.slice none 0 0) (.slice AP q.length cq);have HW7:=Ad hW7;have K7:=Ad kW7;have HE:=Ad (show W7.heap[w6.heap.size]?=some (.cells (qK (.bool zz1) (.slice A1 m1 e1) (.int .i64 zz2) (.bool zz3) (.slice A2 m2 e2) (.int .i64 zz4) (.slice none 0 0) (.slice AP q.length cq)) 33 (0,0)) from hE);have SE:=Ad sE;obtain ⟨-,d0,d1,d2,d3,d4,d5⟩:=HB'.o.facts;clear hW7 kW7 hE sE hk gk2' l1 l2 hrows hrv hgd hA3 hA4 gxs gvs lxs lvs hev H3 H4 HG1 HG2 LX LT;go_upto_region 13 with fail
 rw [<-HW7.o];clear HW7 gk gk2 d0 d1 d2 d3 d4 d5;generalize hbE:w6.heap.size=bE at *;have HBE:=Ad hbE;generalize hBE:W7.heap.size=BE at *;have HBE2:=Ad hBE;clear hbE hBE;go_wp2_with fail
 go_loopw [23] (λti wr=>∃ (i:Nat) (vX:Value) (xs:List Value),ti=.int .i64 (i:Int)/\i<=x.length/\wr.heap[bE]?=some (.cells (qK (.bool zz1) (.slice A1 m1 e1) (.int .i64 zz2) (.bool zz3) (.slice A2 m2 e2) (.int .i64 zz4) vX (.slice AP q.length cq)) 33 (0,0))/\OwnI wr BE vX (XS.take i) xs/\(i=0->vX=.slice none 0 0)/\Kept w6 wr/\BE<=wr.heap.size) (λti _=>(x.length-intOf ti).toNat)
 case atStart=>exact ⟨0,_,[],rfl,Nat.zero_le _,HE.o,OwnI.nil _ _,λ_=>rfl,K7.o,by rw [HBE2.o];exact Aq _⟩
 case round =>
  obtain ⟨i,vX,xs,rfl,hi9,hbx,hown,hnil,hkr,hsz⟩:=hrel;have EB:=Ad hbx;have OWN:=Ad hown;have NIL:=Ad hnil;have KR:=Ad hkr;have SZ:=Ad hsz;clear hbx hown hnil hkr hsz HE K7;by_cases hix:i<x.length
  ·obtain ⟨r,s9,hr2,lr,hr1,lrs⟩:=ROWS.out i hix;obtain ⟨ba,oa,sa,rfl,cella,isa⟩:=HA3.out i _ hr1;obtain ⟨bb,ob,sb,rfl,cellb,isb⟩:=HA4.out i _ hr2;obtain ⟨pa,qa,ca,rfl,hca,atA⟩:=isa.shape lrs (by omega);obtain ⟨pb,qb,cb,rfl,hcb,-⟩:=isb.shape lr (by omega);have hgr:=HGD.out _ (Dc hr1);have BX:=Ad (fun w1 (kq:Kept w6 w1)=>show Calls Tryz.prog 18 #[.slice (some ⟨pb,qb,none⟩) (lo+1) cb,.slice (some ⟨pa,qa,none⟩) (lo+1) ca] w1 (RetK (.bool true) w1) by
    have h1:=IvS.takeJ (m:=lo+1) (l:=r++s9) (by rw [lrs];exact isa.kept kq) (by omega);rw [List.take_left' lr] at h1;exact rl (isb.kept kq) h1 (by omega) (λa ha=>Ys (hgr a (List.mem_append_left _ ha))))
   obtain ⟨dX,hdX⟩:∃ a,(r++s9)[0]?=some a:=⟨_,Cd (by omega)⟩;have hXi:XS[i]?=some dX:=by rw [<-(HRV.o i _ hr1).1];exact hdX
   have HZ:=Ad (show XS.take (i+1)=XS.take i++[dX] by rw [List.take_add_one,hXi];rfl);have AT:=Ad (show IvAt w6 pa qa dX by have:=atA 0 dX hdX;simpa using this);have CA:=Ad cella;have CB:=Ad cellb;have HIX:=Ad hix;have WH:Hid (IntKind.i64.wrap ((hi:Int)+1)=(hi:Int)+1):=Ad (by simp [IntKind.wrap_i64];omega);have WL:Hid (IntKind.i64.wrap ((lo:Int)+1)=(lo:Int)+1):=Ad (by simp [IntKind.wrap_i64];omega);have LTK:=Ad (show (XS.take i).length<=1000 by rw [List.length_take];omega);have NILT:=Ad (show XS.take i=[]->vX=.slice none 0 0 from λe=>NIL.o (by
    have h:(XS.take i).length=0:=by rw [e];rfl
    rw [List.length_take,LXS.o] at h;omega))
   have hlow:lo+1<=ca:=by omega
   clear cella cellb isa isb atA hgr hdX hXi hr1 hr2 lr lrs NIL hix;go_upto_region 16 with fail
   refine Sv 33 ([(vE (.slice (some ⟨ba,oa,none⟩) x.length c3)),(vE (.int .i64 (i:Int))),(vE (.pointer (some ⟨ba,oa+i,none⟩))),(vE (.slice (some ⟨pa,qa,none⟩) (hi+1) ca)),(vE (.int .i64 ((hi:Int)+1))),(vE (.int .i64 (hi:Int))),(vE (.int .i64 ((hi:Int)+1))),(vE (.bool false)),(vE (.bool false)),(vE (.slice (some ⟨bb,ob,none⟩) x.length c4)),(vE (.int .i64 (i:Int))),(vE (.pointer (some ⟨bb,ob+i,none⟩))),(vE (.slice (some ⟨pb,qb,none⟩) (lo+1) cb)),(vE (.int .i64 ((lo:Int)+1))),(vE (.int .i64 (lo:Int))),(vE (.int .i64 ((lo:Int)+1))),(vE (.bool false)),(vE (.bool false)),(vE (.bool false)),(vE (.slice (some ⟨bb,ob,none⟩) x.length c4)),(vE (.int .i64 (i:Int))),(vE (.pointer (some ⟨bb,ob+i,none⟩))),(vE (.slice (some ⟨pb,qb,none⟩) (lo+1) cb)),(vE (.slice (some ⟨ba,oa,none⟩) x.length c3)),(vE (.int .i64 (i:Int))),(vE (.pointer (some ⟨ba,oa+i,none⟩))),(vE (.slice (some ⟨pa,qa,none⟩) (hi+1) ca)),(vE (.int .i64 (lo:Int))),(vE (.int .i64 ((lo:Int)+1))),(vE (.slice (some ⟨pa,qa,none⟩) (lo+1) ca)),(vE (.bool true)),(vE (.bool false)),(vE (.bool false))])
    ⟨
     (gq 18),(gq 23),(λaF wF F=>by have s111:=F.v 0 111;have s112:=F.v 1 112;exact sw (by (have hh:=HIX.o;first | (go_simp;done) | (go_simp;omega))) rfl),(λaF wF F=>by have s113:=F.v 2 113;exact sw (by (have n0:=Gn CA.o (KR.o.trans F.kept);go_simp)) rfl),(gv 3 114),(gq 16),(λaF wF F=>by have s116:=F.v 5 116;exact sw (by (have h9:=WH.o;go_simp)) rfl),(Hz 4 115 6 117),(gv 7 118),(λaF wF F=>by have s20:=F.q 20 (.slice (some ⟨bb,ob,none⟩) x.length c4);exact Dz rfl rfl (F.v 8 119) rfl),(λaF wF F=>by have s23:=F.q 23 (.int .i64 (i:Int));exact Dz rfl rfl (F.v 8 119) rfl),(λaF wF F=>by have s120:=F.v 9 120;have s121:=F.v 10 121;have sg:=F.v 8 119;exact Bc ((Am rfl rfl sg).trans rfl) (by (have hh:=HIX.o;first | (go_simp;done) | (go_simp;omega))) rfl),(λaF wF F=>by have s122:=F.v 11 122;have sg:=F.v 8 119;exact Bc ((Am rfl rfl sg).trans rfl) (by (have n0:=Gn CB.o (KR.o.trans F.kept);go_simp)) rfl),(λaF wF F=>by have s123:=F.v 12 123;exact Dz rfl rfl (F.v 8 119) rfl),(λaF wF F=>by have s17:=F.q 17 (.int .i64 (lo:Int));exact Dz rfl rfl (F.v 8 119) rfl),(λaF wF F=>by have s125:=F.v 14 125;have sg:=F.v 8 119;exact Bc ((Am rfl rfl sg).trans rfl) (by (have h9:=WL.o;go_simp)) rfl),(λaF wF F=>by have s124:=F.v 13 124;have s126:=F.v 15 126;exact Dz rfl rfl (F.v 8 119) rfl),(Hz 8 119 16 127),(gv 17 128),(λaF wF F=>by have s20:=F.q 20 (.slice (some ⟨bb,ob,none⟩) x.length c4);exact Dz rfl rfl (F.v 18 129) rfl),(λaF wF F=>by have s23:=F.q 23 (.int .i64 (i:Int));exact Dz rfl rfl (F.v 18 129) rfl),(λaF wF F=>by have s130:=F.v 19 130;have s131:=F.v 20 131;have sg:=F.v 18 129;exact Bc ((Am rfl rfl sg).trans rfl) (by (have hh:=HIX.o;first | (go_simp;done) | (go_simp;omega))) rfl),(λaF wF F=>by have s132:=F.v 21 132;have sg:=F.v 18 129;exact Bc ((Am rfl rfl sg).trans rfl) (by (have n0:=Gn CB.o (KR.o.trans F.kept);go_simp)) rfl),(λaF wF F=>by have s18:=F.q 18 (.slice (some ⟨ba,oa,none⟩) x.length c3);exact Dz rfl rfl (F.v 18 129) rfl),(λaF wF F=>by have s23:=F.q 23 (.int .i64 (i:Int));exact Dz rfl rfl (F.v 18 129) rfl),(λaF wF F=>by have s134:=F.v 23 134;have s135:=F.v 24 135;have sg:=F.v 18 129;exact Bc ((Am rfl rfl sg).trans rfl) (by (have hh:=HIX.o;first | (go_simp;done) | (go_simp;omega))) rfl),(λaF wF F=>by have s136:=F.v 25 136;have sg:=F.v 18 129;exact Bc ((Am rfl rfl sg).trans rfl) (by (have n0:=Gn CA.o (KR.o.trans F.kept);go_simp)) rfl),(λaF wF F=>by have s17:=F.q 17 (.int .i64 (lo:Int));exact Dz rfl rfl (F.v 18 129) rfl),(λaF wF F=>by have s138:=F.v 27 138;have sg:=F.v 18 129;exact Bc ((Am rfl rfl sg).trans rfl) (by (have h9:=WL.o;go_simp)) rfl),(λaF wF F=>by have s137:=F.v 26 137;have s139:=F.v 28 139;have sg:=F.v 18 129;exact Bc ((Am rfl rfl sg).trans rfl) (by (go_simp;omega)) rfl),(λaF wF F=>by have s133:=F.v 22 133;have s140:=F.v 29 140;have sg:=F.v 18 129;exact Ax ((Am rfl rfl sg).trans rfl) (by go_simp) (BX.o _ (KR.o.trans F.kept)) (λ_ _ h=>RetK.good h) (λ_ _ h=>h)),(λaF wF F=>by have s141:=F.v 30 141;exact Dz rfl rfl (F.v 18 129) rfl),(Hz 18 129 31 142),
     trivial⟩ ?_
   intro u w8 k8 hu;simp only [Bb,Ap,Act.put,Ep,hv hu 0,hv hu 1,hv hu 2,hv hu 3,hv hu 4,hv hu 5,hv hu 6,hv hu 7,hv hu 8,hv hu 9,hv hu 10,hv hu 11,hv hu 12,hv hu 13,hv hu 14,hv hu 15,hv hu 16,hv hu 17,hv hu 18,hv hu 19,hv hu 20,hv hu 21,hv hu 22,hv hu 23,hv hu 24,hv hu 25,hv hu 26,hv hu 27,hv hu 28,hv hu 29,hv hu 30,hv hu 31,hv hu 32];clear hu;have K68:=Ad (KR.o.trans k8);have EB8:=Ad (Ay EB.o k8);have OWN8:=Ad (OWN.o.kept k8);have SZ8:=Ad (Bp SZ.o k8.size);have EBL:bE<BE:=by have:=SE.o;have:=HBE2.o;have:=HBE.o;omega
   have XLE:=Ad (λy (hy:y∈bE::Nw vX)=>show w6.heap.size<=y by
    have h6:=HBE.o;rcases List.mem_cons.1 hy with rfl | hy
    ·omega
    ·have:=OWN.o.base y (Ku.1 hy);omega)
   have SLX:Bv vX:=by
    obtain ⟨A9,c9,e9,-⟩:=OWN.o.ivS;rw [e9];exact Ag _ _ _
   clear k8 KR EB OWN SZ BX WH WL CB;go_upto_region 18 with fail
   refine Oo (m:=12) (J:=λL w=>KB w8 (bE::Nw vX) w/\(λL w'=>EnK BE bE (.bool zz1) (.slice A1 m1 e1) (.int .i64 zz2) (.bool zz3) (.slice A2 m2 e2) (.int .i64 zz4) (.slice AP q.length cq) vX (XS.take i) xs dX (L 1) (L 9) (L 11) w') L w) (l:=[(vP bE 6),(vE vX),(vE (.slice (some ⟨ba,oa,none⟩) x.length c3)),(vE (.int .i64 (i:Int))),(vE (.pointer (some ⟨ba,oa+i,none⟩))),(vE (.slice (some ⟨pa,qa,none⟩) (hi+1) ca)),(vE (.pointer (some ⟨pa,qa,none⟩))),(λv wv=>IvR wv v dX),(λv wv=>OneI wv v dX),(λv wv=>∃ xs',OwnI wv BE v (XS.take i++[dX]) xs'),(vP bE 6),(λv _=>True)])
    (by kernel_rfl) rfl (by kernel_rfl) (by kernel_rfl) (by kernel_rfl) ⟨mE,mE,mE,mE,mE,mE,mE,λv w w' k h=>by first | exact h | exact h.kept k | exact ⟨h.1,h.2.kept k⟩,λv w w' k h=>h.kept k,λv w w' k h=>h.imp λ_ h=>h.kept k,mE,λv w w' k h=>by first | exact h | exact h.kept k | exact ⟨h.1,h.2.kept k⟩,trivial⟩ ⟨(KB.refl _ _).drew,(by exact ⟨λ_=>OWN8.o.kept (Below.refl _ _).drew,λ_=>EB8.o,λh=>(by cases h)⟩)⟩ (⟨
      (λLF aF wF F=>by have FK:KB w8 (bE::Nw vX) wF:=F.frame.1;have fj:=F.frame.2;refine .inl ⟨λwq kq=>⟨FK.step kq,by first | exact EnK.kept kq fj | exact EnK.seen kq fj⟩,?_⟩;have s22:=F.q 22 (.pointer (some ⟨bE,0,none⟩));exact sv rfl),(λLF aF wF F=>by have FK:KB w8 (bE::Nw vX) wF:=F.frame.1;have fj:=F.frame.2;refine .inl ⟨λwq kq=>⟨FK.step kq,by first | exact EnK.kept kq fj | exact EnK.seen kq fj⟩,?_⟩;have s144:=F.v 0 144;exact sw (by (have hb:=fj.boxed (.inl F.yet);have c6:wF.cell? ⟨bE,6,none⟩=some vX:=Ae hb 6 _ rfl;go_simp)) rfl),(λLF aF wF F=>by have FK:KB w8 (bE::Nw vX) wF:=F.frame.1;have fj:=F.frame.2;refine .inl ⟨λwq kq=>⟨FK.step kq,by first | exact EnK.kept kq fj | exact EnK.seen kq fj⟩,?_⟩;have s18:=F.q 18 (.slice (some ⟨ba,oa,none⟩) x.length c3);exact sv rfl),(λLF aF wF F=>by have FK:KB w8 (bE::Nw vX) wF:=F.frame.1;have fj:=F.frame.2;refine .inl ⟨λwq kq=>⟨FK.step kq,by first | exact EnK.kept kq fj | exact EnK.seen kq fj⟩,?_⟩;have s23:=F.q 23 (.int .i64 (i:Int));exact sv rfl),(λLF aF wF F=>by have FK:KB w8 (bE::Nw vX) wF:=F.frame.1;have fj:=F.frame.2;refine .inl ⟨λwq kq=>⟨FK.step kq,by first | exact EnK.kept kq fj | exact EnK.seen kq fj⟩,?_⟩;have s146:=F.v 2 146;have s147:=F.v 3 147;exact sw (by (have hh:=HIX.o;first | (go_simp;done) | (go_simp;omega))) rfl),(λLF aF wF F=>by have FK:KB w8 (bE::Nw vX) wF:=F.frame.1;have fj:=F.frame.2;refine .inl ⟨λwq kq=>⟨FK.step kq,by first | exact EnK.kept kq fj | exact EnK.seen kq fj⟩,?_⟩;have s148:=F.v 4 148;exact sw (by (have n0:=Gn CA.o (KB.kept K68.o FK XLE.o);go_simp)) rfl),(λLF aF wF F=>by have FK:KB w8 (bE::Nw vX) wF:=F.frame.1;have fj:=F.frame.2;refine .inl ⟨λwq kq=>⟨FK.step kq,by first | exact EnK.kept kq fj | exact EnK.seen kq fj⟩,?_⟩;have s149:=F.v 5 149;exact sw (by (first | (go_simp;done) | (go_simp;omega))) rfl),(λLF aF wF F=>by have FK:KB w8 (bE::Nw vX) wF:=F.frame.1;have fj:=F.frame.2;refine .inl ⟨λwq kq=>⟨FK.step kq,by first | exact EnK.kept kq fj | exact EnK.seen kq fj⟩,?_⟩;have s150:=F.v 6 150;obtain ⟨xx,yy,zz,xx',yy',zz',h0,h1,h2,h3,h4,h5,hI⟩:=(AT.o.kept (KB.kept K68.o FK XLE.o));exact sv hI),(λLF aF wF F=>by have FK:KB w8 (bE::Nw vX) wF:=F.frame.1;have fj:=F.frame.2;refine .inl ⟨λwq kq=>⟨FK.step kq,by first | exact EnK.kept kq fj | exact EnK.seen kq fj⟩,?_⟩;have s151:=F.p 7 151;obtain ⟨A1,l1,d1,A2,l2,d2,e9,h9',g9⟩:=Ar s151;simp only [Cv] at e9;exact Zm (Jl (r:=dX) ⟨_,_,_,_,_,_,rfl,h9',g9⟩)),(λLF aF wF F=>by have FK:KB w8 (bE::Nw vX) wF:=F.frame.1;have fj:=F.frame.2;refine .inr ?_;have s145:=F.v 1 145;have s152:=F.p 8 152;obtain ⟨b3,y0,y1,y2,y3,y4,y5,e3,hb3,hd3⟩:=s152;have how:=fj.own F.yet;obtain ⟨v',w',g',hrr,hoo,hgg,hsm,-⟩:=Td 31 how (λe=>.inl (NILT.o e)) LTK.o (Bp SZ8.o FK.size) hb3 hd3;exact Ps (by simp [Region.wanted]) (Pd (.tmp 145) (.tmp 152) _ rfl s145 e3 hrr) ⟨FK.grown hgg (λg hg=>.inl (List.mem_cons_of_mem _ (Ku.2 hg))) how.blk,EnK.app fj F.yet EBL hgg⟩ (Ii _ ⟨.inr vS,.inr vS,.inr vS,.inr vS,.inr vS,.inr vS,.inr vS,.inr (λu h=>by first | exact h.grown hgg how.blk | exact OneI.appJ h hgg how.blk hsm),.inr (λu h=>by first | exact h.grown hgg how.blk | exact OneI.appJ h hgg how.blk hsm),.inl rfl,.inr vS,.inr (λu h=>h),trivial⟩) ⟨_,hoo⟩),(λLF aF wF F=>by have FK:KB w8 (bE::Nw vX) wF:=F.frame.1;have fj:=F.frame.2;refine .inl ⟨λwq kq=>⟨FK.step kq,by first | exact EnK.kept kq fj | exact EnK.seen kq fj⟩,?_⟩;have s22:=F.q 22 (.pointer (some ⟨bE,0,none⟩));exact sv rfl),(λLF aF wF F=>by have FK:KB w8 (bE::Nw vX) wF:=F.frame.1;have fj:=F.frame.2;refine .inr ?_;have s153:=F.p 9 153;have s154:=F.v 10 154;obtain ⟨xs',ho8⟩:=s153;obtain ⟨A8,c8,e8,-⟩:=ho8.ivS;rw [e8] at ho8;simp only [Cv] at e8;have hb:=fj.boxed (.inr (.inr F.yet));have c6:wF.cell? ⟨bE,6,none⟩=some vX:=Ae hb 6 _ rfl;have fb:=Aw hb 6;exact Ox (w':=wF.setCell ⟨bE,6,none⟩ (.slice A8 (XS.take i++[dX]).length c8)) (by simp [Region.wanted]) (by go_simp) ⟨FK.trans ((KB.refl wF [bE]).setCell (by simp) c6 SLX _) (by simp),EnK.laid fj (F.wait 1 (by kernel_rfl)) (F.wait 9 (by kernel_rfl)) F.yet EBL SLX ho8⟩ (Ii _ ⟨.inr vS,.inr vS,.inr vS,.inr vS,.inr vS,.inr vS,.inr vS,.inr (λu h=>by first | exact h.kb ((KB.refl wF [bE]).setCell (by simp) c6 SLX _) | exact OneI.setlow h hb (show (9:Nat)≠6 by decide) c6 SLX | exact h.imp λ_ h=>OwnI.setlow h EBL c6 SLX),.inr (λu h=>by first | exact h.kb ((KB.refl wF [bE]).setCell (by simp) c6 SLX _) | exact OneI.setlow h hb (show (9:Nat)≠6 by decide) c6 SLX | exact h.imp λ_ h=>OwnI.setlow h EBL c6 SLX),.inr (λu h=>by first | exact h.kb ((KB.refl wF [bE]).setCell (by simp) c6 SLX _) | exact OneI.setlow h hb (show (9:Nat)≠6 by decide) c6 SLX | exact h.imp λ_ h=>OwnI.setlow h EBL c6 SLX),.inr vS,.inl rfl,trivial⟩) trivial),
      trivial⟩) ?_
   intro u w9 L1 hL j1 hu;obtain ⟨q9,j1⟩:=j1;have p151:=hp hu 7;have p152:=hp hu 8;have p153:=hp hu 9;simp only [Bb,Ap,Act.put,Ep,hv hu 0,hv hu 1,hv hu 2,hv hu 3,hv hu 4,hv hu 5,hv hu 6,hv hu 10];clear hu;generalize u 7=v151,u 8=v152,u 9=v153 at *;obtain ⟨-,-,v9,xs9,hb9,ho9⟩:=j1.did (hL 11 (by decide));have EB9:=Ad hb9;have OW9:=Ad ho9;have K9:=Ad (KB.kept K68.o q9 XLE.o);have SZ9:=Ad (Bp SZ8.o q9.size);clear hb9 ho9 j1 q9 p151 p152 p153 XLE SLX EBL K68 EB8 OWN8 SZ8;go_wp2_with fail;go_roundw
   case rel=>exact ⟨i+1,v9,xs9,by go_num,HIX.o,EB9.o,by rw [HZ.o];exact OW9.o,λh=>by omega,K9.o,SZ9.o⟩
   case measure=>simp [intOf];have:=HIX.o;omega
  ·obtain rfl:i=x.length:=by omega
   have htk:XS.take x.length=XS:=Fq (by have:=LXS.o;omega);have hxs:=OWN.o.ivS;rw [htk] at hxs;have ENV:=Ad (show EnR wr (.agg #[.bool zz1,.slice A1 m1 e1,.int .i64 zz2,.bool zz3,.slice A2 m2 e2,.int .i64 zz4,vX,.slice none 0 0,.slice AP q.length cq]) ⟨t,XS,[],q⟩ from ⟨_,_,_,_,_,_,_,_,_,rfl,HIV.o.kept (K.o.trans KR.o),hxs,Lk _,HQ.o.kept (K.o.trans KR.o)⟩);obtain ⟨c0,c1⟩:=Ez (Ay HB.o KR.o);obtain ⟨d0,d1,d2,d3,d4,d5,d6,d7,d8⟩:=Cp (show wr.heap[bE]?=some (.cells #[.bool zz1,.slice A1 m1 e1,.int .i64 zz2,.bool zz3,.slice A2 m2 e2,.int .i64 zz4,vX,.slice none 0 0,.slice AP q.length cq] 33 (0,0)) from EB.o)
   obtain ⟨V8,hV8⟩:∃ V,V=wr:=⟨wr,rfl⟩;subst hV8;clear htk hxs OWN NIL SZ EB;go_wp2_with fail;refine (VC.o _ (K.o.trans KR.o) _ ENV.o).mono ?_;rintro ee w9 ⟨q9,v5,rfl,h5⟩;simp only [];obtain ⟨A5,c5,rfl,hA5⟩:=h5.shape0 LVS.o;have HA5:=Ad hA5;have K9:=Ad (KR.o.trans q9);clear c0 c1 d0 d1 d2 d3 d4 d5 d6 d7 d8 q9 h5 hA5 ENV VC KR;go_wp2_with fail
   go_loopw [26] (λti wr=>∃ i:Nat,ti=.int .i64 (i:Int)/\i<=x.length/\Kept w9 wr) (λti _=>(x.length-intOf ti).toNat)
   case atStart=>exact ⟨0,rfl,Nat.zero_le _,Below.refl _ _⟩
   case round =>
    obtain ⟨i,rfl,hi9',hkr⟩:=hrel;have KR:=Ad hkr;clear hkr;by_cases hix:i<x.length
    ·obtain ⟨r,s9,-,-,hr1,lrs⟩:=ROWS.out i hix;obtain ⟨ba,oa,sa,rfl,cella,isa⟩:=HA3.out i _ hr1;obtain ⟨pa,qa,ca,rfl,hca,atA⟩:=isa.shape lrs (by omega);obtain ⟨dV,hdV⟩:∃ a,(r++s9)[1]?=some a:=⟨_,Cd (by omega)⟩;have hVi:VS[i]?=some dV:=by rw [←(HRV.out i _ hr1).2];exact hdV
     obtain ⟨pv,qv,rfl,atV⟩:=HA5.o i dV hVi;have AT:=Ad (show IvAt w6 pa (qa+6) dV by have:=atA 1 dV hdV;simpa using this);have AV:=Ad atV;have CA:=Ad cella;have HIX:=Ad hix;have SM:=Ad (λw1 va vb (h1:IvR w1 va dV) (h2:IvR w1 vb dV)=>bj h1 h2 (Ys (GVS.o dV (Dc hVi))));clear cella isa atA hdV hVi hr1 lrs atV hix;go_upto_region 25 with fail
     refine Sv 12 ([(vE (.slice (some ⟨ba,oa,none⟩) x.length c3)),(vE (.int .i64 (i:Int))),(vE (.pointer (some ⟨ba,oa+i,none⟩))),(vE (.slice (some ⟨pa,qa,none⟩) (hi+1) ca)),(vE (.pointer (some ⟨pa,qa+6,none⟩))),(λv wv=>IvR wv v dV),(vE (.slice (some ⟨pv,qv,none⟩) x.length c5)),(vE (.int .i64 (i:Int))),(vE (.pointer (some ⟨pv,qv+i*6,none⟩))),(λv wv=>IvR wv v dV),(vE (.bool true)),(vE (.bool false))])
      ⟨
       (gq 18),(gq 26),(λaF wF F=>by have s177:=F.v 0 177;have s178:=F.v 1 178;exact sw (by (have hh:=HIX.o;first | (go_simp;done) | (go_simp;omega))) rfl),(λaF wF F=>by have s179:=F.v 2 179;exact sw (by (have n0:=Gn CA.o ((K9.o.trans KR.o).trans F.kept);go_simp)) rfl),(λaF wF F=>by have s180:=F.v 3 180;exact sw (by (first | (go_simp;done) | (go_simp;omega))) rfl),(λaF wF F=>by have s181:=F.v 4 181;obtain ⟨xx,yy,zz,xx',yy',zz',h0,h1,h2,h3,h4,h5,hI⟩:=(AT.o.kept ((K9.o.trans KR.o).trans F.kept));exact sv hI),(gq 24),(gq 26),(λaF wF F=>by have s183:=F.v 6 183;have s184:=F.v 7 184;exact sw (by (have hh:=HIX.o;first | (go_simp;done) | (go_simp;omega))) rfl),(λaF wF F=>by have s185:=F.v 8 185;obtain ⟨xx,yy,zz,xx',yy',zz',h0,h1,h2,h3,h4,h5,hI⟩:=(AV.o.kept (KR.o.trans F.kept));exact sv hI),(λaF wF F=>by have s182:=F.p 5 182;have s186:=F.p 9 186;exact sK (SM.o _ _ _ s182 s186) λ_ _ h=>h),(gv 10 187),
       trivial⟩ ?_
     intro u w10 k10 hu;have p182:=hp hu 5;have p186:=hp hu 9;simp only [Bb,Ap,Act.put,Ep,hv hu 0,hv hu 1,hv hu 2,hv hu 3,hv hu 4,hv hu 6,hv hu 7,hv hu 8,hv hu 10,hv hu 11];clear hu;generalize u 5=v182,u 9=v186 at *;have K10:=Ad (KR.o.trans k10);clear p182 p186 k10 KR SM AT AV CA;go_wp2_with fail;go_roundw
     case rel=>exact ⟨i+1,by go_num,HIX.o,K10.o⟩
     case measure=>simp [intOf];have:=HIX.o;omega
    ·obtain rfl:i=x.length:=by omega
     go_wp2_with fail;refine (TD.o _ (K.o.trans (K9.o.trans KR.o))).mono ?_;rintro ee w11 ⟨rfl,q9⟩;simp only [];go_wp2_with fail;go_ret;exact ⟨rfl,K.o.trans (K9.o.trans (KR.o.trans q9))⟩
end Go.Proofs.YtabjjdicffcolaaGreatDoor
