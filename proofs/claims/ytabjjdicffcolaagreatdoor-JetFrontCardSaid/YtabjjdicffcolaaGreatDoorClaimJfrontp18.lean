/- Words and contracts, part 18. -/
import Derived.Test.YtabjjdicffcolaaGreatDoorClaimJfrontp17
set_option maxRecDepth 100000
set_option maxHeartbeats 0
namespace Go.Proofs.YtabjjdicffcolaaGreatDoor
open Go.RowKit
variable {cur:Array Value} {m op u:Int} {ov:Iv->Nat->Outc Iv} {all q rows:List (List RawI)} {outs:List Int} {ls:List Ln} {c l t:List RawI} {cs vs xs:List Value} {B H K b bo bt i j n p:Nat} {f:Nat->Rat} {o:Oper} {A A' AX:Option Addr} {O:Outc (List (List RawI))} {a d k r:RawI} {g:RawI->Bool} {T:TypeId} {m0 m1 m2 m3 m4 m5 s v vq vr vt vx x:Value} {W W' w w':World}
theorem iG (w:World)(s o x0 x1 x2 x3 x4 x5 x6 x7 x8:Value):∃ W,W=(w.alloc (.cells #[s,o] 25)).alloc (.cells #[x0,x1,x2,x3,x4,x5,x6,x7,x8] 33)/\Kept w W/\W.heap[w.heap.size]?=some (.cells #[s,o] 25 (0,0)) /\
 W.heap[w.heap.size+1]?=some (.cells #[x0,x1,x2,x3,x4,x5,x6,x7,x8] 33 (0,0))/\W.heap.size=w.heap.size+1+1:=by
 refine ⟨_,rfl,(Ab _ _).trans (Ab _ _),Ay (heap_alloc_new _ _) (Ab _ _),?_,by simp⟩;have:=heap_alloc_new (w.alloc (.cells #[s,o] 25)) (.cells #[x0,x1,x2,x3,x4,x5,x6,x7,x8] 33);simpa using this
theorem IvR.clean (h:IvR w v a)(hm:Dl a=true):a.iv.Ok/\a.iv.raw=a:=by
 obtain ⟨x,y,z,x',y',z',rfl,h1,h2⟩:=h;exact F6 (Mg h1) (Mg h2) hm
theorem IvR.ivC (h:IvR w v a)(hr:a.iv.raw=a):IvC w v a.iv:=by unfold IvC;rw [hr];exact h
theorem IvS.cl (h:IvS w v l)(hm:l.all Dl=true):Cl l:=by
 obtain ⟨A,c,rfl,hc,hA⟩:=h;intro a ha;obtain ⟨i,hi,he⟩:=List.mem_iff_getElem.1 ha;obtain ⟨b,off,rfl,hd⟩:=hA (by omega);obtain ⟨x,y,z,x',y',z',h0,h1,h2,h3,h4,h5,hI⟩:=hd i a (by rw [Cd hi,he]);exact hI.clean (List.all_eq_true.1 hm a ha)
theorem IvS.at {c:Nat}(h:IvS w (.slice A n c) l)(hi:i<l.length):∃ b off a,A=some ⟨b,off,none⟩/\n=l.length/\l[i]?=some a/\IvAt w b (off+i*6) a:=by
 obtain ⟨A',c',e,hc,hA⟩:=h;injection e with e1 e2 e3
 subst e1;subst e2;subst e3;obtain ⟨b,off,rfl,hd⟩:=hA (by omega);exact ⟨b,off,l[i],rfl,rfl,Cd hi,hd i _ (Cd hi)⟩
theorem Hj {n n':Bool}{l c l' c':Nat}{e e':Int}(h:IvR w v a)(hb:BlkI w b (.bool n) (.slice A l c) (.int .i64 e) (.bool n') (.slice A' l' c') (.int .i64 e'))(x y z x' y' z':Value) :
 IvR (ivW w b x y z x' y' z') v a:=by
 obtain ⟨p,q,r,p',q',r',rfl,h1,h2⟩:=h;exact ⟨p,q,r,p',q',r',rfl,h1.ivW hb _ _ _ _ _ _,h2.ivW hb _ _ _ _ _ _⟩
theorem rM {a b i x p:Int}(h:Ix ⟨3,a,b,k⟩ i x u p=true):0<=a/\a<x:=by
 unfold Ix Cr at h;simp at h;exact h.2.1
theorem rN {a b i x p:Int}(h:Ix ⟨4,a,b,k⟩ i x u p=true):0<=a/\a<u:=by
 unfold Ix Cr at h;simp at h;exact h.2.1
theorem rO {a b i x p:Int}(h:Ix ⟨5,a,b,k⟩ i x u p=true):0<=a/\a<p:=by
 unfold Ix Cr at h;simp at h;exact h.2.1
theorem rP {a b i x p:Int}(h:Ix ⟨op,a,b,k⟩ i x u p=true)(h1:op≠1)(h2:op≠2)(h3:op≠3)(h4:op≠4)(h5:op≠5):0<=a/\a<i/\0<=b/\b<i/\6<=op/\op<=13:=by
 unfold Ix Cr at h;simp only [Af h1,Af h2,Af h3,Af h4,Af h5] at h;split at h
 ·cases h
 ·split at h
  ·simp only [Bool.and_eq_true,decide_eq_true_eq] at h;omega
  ·split at h
   ·simp only [Bool.and_eq_true,decide_eq_true_eq] at h;omega
   ·cases h
def Cells6 (w:World) (b o:Nat) (m0 m1 m2 m3 m4 m5:Value):Prop:=w.cell? ⟨b,o,none⟩=some m0/\w.cell? ⟨b,o+1,none⟩=some m1/\w.cell? ⟨b,o+2,none⟩=some m2/\w.cell? ⟨b,o+3,none⟩=some m3/\w.cell? ⟨b,o+4,none⟩=some m4/\w.cell? ⟨b,o+5,none⟩=some m5
theorem Cells6.kept {o:Nat}(h:Cells6 w b o m0 m1 m2 m3 m4 m5)(k:Kept w w'):Cells6 w' b o m0 m1 m2 m3 m4 m5:=by
 obtain ⟨h0,h1,h2,h3,h4,h5⟩:=h;have hb:=Av h0;exact ⟨(k.cell (p:=⟨b,o,none⟩) hb).trans h0,(k.cell (p:=⟨b,o+1,none⟩) hb).trans h1,(k.cell (p:=⟨b,o+2,none⟩) hb).trans h2,(k.cell (p:=⟨b,o+3,none⟩) hb).trans h3,(k.cell (p:=⟨b,o+4,none⟩) hb).trans h4,(k.cell (p:=⟨b,o+5,none⟩) hb).trans h5⟩
theorem Cells6.kb {X:List Nat}{o:Nat}(h:Cells6 W b o m0 m1 m2 m3 m4 m5)(k:KB W X w)(hn:b∉X):Cells6 w b o m0 m1 m2 m3 m4 m5:=by
 obtain ⟨h0,h1,h2,h3,h4,h5⟩:=h;exact ⟨k.cell h0 hn,k.cell h1 hn,k.cell h2 hn,k.cell h3 hn,k.cell h4 hn,k.cell h5 hn⟩
def LinJ (b:Nat) (r:RawI) (l:Bool) (w:World):Prop :=
 ∃ n A i c d n' A' i' c' d',BlkI w b (.bool n) (.slice A i c) (.int .i64 d) (.bool n') (.slice A' i' c') (.int .i64 d')/\(l=true->IvR w (.agg #[.bool n,.slice A i c,.int .i64 d,.bool n',.slice A' i' c',.int .i64 d']) r)
theorem LinJ.parts {l:Bool}(h:LinJ b r l w):∃ n A i c d n' A' i' c' d',BlkI w b (.bool n) (.slice A i c) (.int .i64 d) (.bool n') (.slice A' i' c') (.int .i64 d')/\(l=true->IvR w (.agg #[.bool n,.slice A i c,.int .i64 d,.bool n',.slice A' i' c',.int .i64 d']) r):=h
theorem LinJ.kept {l:Bool}(q:Kept w w')(h:LinJ b r l w):LinJ b r l w':=by
 obtain ⟨n,A,i,c,d,n',A',i',c',d',h1,h2⟩:=h;exact ⟨n,A,i,c,d,n',A',i',c',d',h1.kept q,λhl=>(h2 hl).kept q⟩
theorem ri (w:World)(o a b k0 k1 k2 k3 k4 k5:Value):∃ W,W=(w.alloc (.cells #[o,a,b,k0,k1,k2,k3,k4,k5] 52)).alloc (.cells #[.bool false,.slice none 0 0,.int .i64 0,.bool false,.slice none 0 0,.int .i64 0] 30)/\Kept w W /\
 W.heap[w.heap.size]?=some (.cells #[o,a,b,k0,k1,k2,k3,k4,k5] 52 (0,0))/\BlkI W (w.heap.size+1) (.bool false) (.slice none 0 0) (.int .i64 0) (.bool false) (.slice none 0 0) (.int .i64 0)/\W.heap.size=w.heap.size+1+1:=by
 refine ⟨_,rfl,(Ab _ _).trans (Ab _ _),Ay (heap_alloc_new _ _) (Ab _ _),?_,by simp⟩;have:=Gw (w.alloc (.cells #[o,a,b,k0,k1,k2,k3,k4,k5] 52));simpa using this
theorem Zq {P Q:Prop} [Decidable P] [Decidable Q] (h:P↔¬Q):decide P=!decide Q:=by
 by_cases hq:Q<;>simp [hq,h]
theorem mR {S:Int->Prop}{ve:Value}{e:En}{p:Int}(hv:TpR w vt ls outs)(he:EnR w ve e)(hok:Ru ls)(hle:ch e)(hn:ls.length<=1000000000)(hno:outs.length<=1000000000)
 (hT:Tab w) (hov:∀ l∈ls,l.op=13->qJ ov) (O:H8 S) (hS:∀ l∈ls,6<=l.op->l.op<=12->S l.op) :
 Calls Tryz.prog 30 #[vt,ve,.int .i64 p] w (ix (Lu ov ls outs e p) w):=by
 have MT:=Ad (λw1 (k:Kept w w1)=>Yv (x:=e.x.length) (u:=e.u.length) (p:=e.p.length) (hv.kept k) hok hn hno (by have:=hle.2.2.2.2.1;omega) (by have:=hle.2.2.2.2.2.1;omega) (by have:=hle.2.2.2.2.2.2;omega));have ME:=Ad (λw1 (k:Kept w w1)=>jH (he.kept k) hle);obtain ⟨s,o,rfl,hls,hou⟩:=hv;obtain ⟨x0,x1,x2,x3,x4,x5,sx,su,sp,rfl,ht,hx,hu,hp⟩:=he;have HLS:=Ad hls;have HTT:=Ad ht;have HX:=Ad hx;have HU:=Ad hu;have HP:=Ad hp;have OK:=Ad hok;have OV:=Ad hov;have OPS:=Ad O;have HS:=Ad hS;clear O hS;have TT:=Ad hT;obtain ⟨A,c,rfl,hc,-⟩:=hls;obtain ⟨B,d,rfl,-,-⟩:=hou;obtain ⟨AX,cx,rfl,-,-⟩:=hx
 obtain ⟨AU,cu,rfl,-,-⟩:=hu;obtain ⟨AP,cp,rfl,-,-⟩:=hp;obtain ⟨W,hW,kW,hb,hb',lW⟩:=iG w (.slice A ls.length c) (.slice B outs.length d) x0 x1 x2 x3 x4 x5 (.slice AX e.x.length cx) (.slice AU e.u.length cu) (.slice AP e.p.length cp);have HW:=Ad hW;have K:=Ad kW;have HB:=Ad hb;have HB':=Ad hb';obtain ⟨c0,c1⟩:=Ez hb;obtain ⟨d0,d1,d2,d3,d4,d5,d6,d7,d8⟩:=Cp hb';clear hok hle hW kW hb hb' hT hov;obtain ⟨mt,hmt⟩:∃ m,Iy ls outs e.x.length e.u.length e.p.length=m:=⟨_,rfl⟩;obtain ⟨me,hme⟩:∃ m,Uw e=m:=⟨_,rfl⟩;rw [hmt] at MT;rw [hme] at ME;obtain ⟨fa,hfa⟩:∃ f,decide (1<=p)=f:=⟨_,rfl⟩;obtain ⟨fb,hfb⟩:∃ f,decide (p<=300)=f:=⟨_,rfl⟩
 have FA:Hid (decide (p<1)=!fa):=Ad (by rw [<-hfa];exact Zq (by omega));have FB:Hid (decide (300<p)=!fb):=Ad (by rw [<-hfb];exact Zq (by omega));have EM:Hid ((fa&&fb&&mt&&me)=true↔1<=p/\p<=300/\Iy ls outs e.x.length e.u.length e.p.length=true/\Uw e=true):=Ad (by
  rw [<-hfa,<-hfb,<-hmt,<-hme];simp only [Bool.and_eq_true,decide_eq_true_eq,and_assoc])
 have HME:=Ad hme;have HMT:=Ad hmt;clear hfa hfb hmt hme;obtain ⟨T,hTI⟩:∃ T,Lu ov ls outs e p=T:=⟨_,rfl⟩;rw [hTI];have HTI:=Ad hTI;clear hTI;generalize hnl:ls.length=n at *;have HN:=Ad hnl;clear hnl;go_enter Tryz.func30,Tryz.ntmps30;go_upto_region 1 with fail;rw [<-HW.o];go_step3;go_upto_region 1 with fail;clear c0 c1 d0 d1 d2 d3 d4 d5 d6 d7 d8
 refine rS 25 ([(vE (.int .i64 p)),(vE (.bool (!fa))),(vE (.bool (!fa))),(λv wv=>(fa=true->(λv _=>v=(.int .i64 p)) v wv)/\(fa=false->v=undef)),(λv wv=>(fa=true->(λv _=>v=(.bool (!fb))) v wv)/\(fa=false->v=undef)),(vE (.bool (!(fa&&fb)))),(vE (.bool (!(fa&&fb)))),(λv wv=>((fa&&fb)=true->(λv _=>v=(.agg #[.slice A n c,.slice B outs.length d])) v wv)/\((fa&&fb)=false->v=undef)),(λv wv=>((fa&&fb)=true->(λv _=>v=(.pointer (some ⟨w.heap.size+1,6,none⟩))) v wv)/\((fa&&fb)=false->v=undef)),(λv wv=>((fa&&fb)=true->(λv _=>v=(.slice AX e.x.length cx)) v wv)/\((fa&&fb)=false->v=undef)),(λv wv=>((fa&&fb)=true->(λv _=>v=(.int .i64 (e.x.length:Int))) v wv)/\((fa&&fb)=false->v=undef)),(λv wv=>((fa&&fb)=true->(λv _=>v=(.pointer (some ⟨w.heap.size+1,7,none⟩))) v wv)/\((fa&&fb)=false->v=undef)),(λv wv=>((fa&&fb)=true->(λv _=>v=(.slice AU e.u.length cu)) v wv)/\((fa&&fb)=false->v=undef)),(λv wv=>((fa&&fb)=true->(λv _=>v=(.int .i64 (e.u.length:Int))) v wv)/\((fa&&fb)=false->v=undef)),(λv wv=>((fa&&fb)=true->(λv _=>v=(.pointer (some ⟨w.heap.size+1,8,none⟩))) v wv)/\((fa&&fb)=false->v=undef)),(λv wv=>((fa&&fb)=true->(λv _=>v=(.slice AP e.p.length cp)) v wv)/\((fa&&fb)=false->v=undef)),(λv wv=>((fa&&fb)=true->(λv _=>v=(.int .i64 (e.p.length:Int))) v wv)/\((fa&&fb)=false->v=undef)),(λv wv=>((fa&&fb)=true->(λv _=>v=(.bool mt)) v wv)/\((fa&&fb)=false->v=undef)),(λv wv=>((fa&&fb)=true->(λv _=>v=(.bool (!mt))) v wv)/\((fa&&fb)=false->v=undef)),(vE (.bool (!(fa&&fb&&mt)))),(vE (.bool (!(fa&&fb&&mt)))),(λv wv=>((fa&&fb&&mt)=true->(λv _=>v=(.agg #[x0,x1,x2,x3,x4,x5,.slice AX e.x.length cx,.slice AU e.u.length cu,.slice AP e.p.length cp])) v wv)/\((fa&&fb&&mt)=false->v=undef)),(λv wv=>((fa&&fb&&mt)=true->(λv _=>v=(.bool me)) v wv)/\((fa&&fb&&mt)=false->v=undef)),(λv wv=>((fa&&fb&&mt)=true->(λv _=>v=(.bool (!me))) v wv)/\((fa&&fb&&mt)=false->v=undef)),(vE (.bool (!(fa&&fb&&mt&&me))))])
  ⟨
   (gq 2),(λaF wF F=>by have s13:=F.v 0 13;exact sw (by (go_simp;exact FA.o)) rfl),(gv 1 14),
   (λaF wF F=>by
  have sg:=F.v 2 15;have s2:=F.q 2 (.int .i64 p);rcases Cb fa with hC | hC
  ·refine J0 hC (vE (.int .i64 p)) ?_;exact Dz rfl rfl sg (by first | rfl | simp [hC])
  ·exact J2 rfl rfl sg (by first | rfl | simp [hC]) (nW hC)),
   (λaF wF F=>by
  have sg:=F.v 2 15;have s16:(fa=true->aF.tmps.getD 16 undef=(.int .i64 p))/\(fa=false->aF.tmps.getD 16 undef=undef):=F.done 3 16 (by kernel_rfl) rfl;rcases Cb fa with hC | hC
  ·refine J0 hC (vE (.bool (!fb))) ?_;replace s16:=s16.1 hC;exact Bc ((Am rfl rfl sg).trans (by first | rfl | simp [hC])) (by (go_simp;exact FB.o)) rfl
  ·exact J2 rfl rfl sg (by first | rfl | simp [hC]) (nW hC)),
   (λaF wF F=>by
  have s15:=F.v 2 15;have s17:(fa=true->aF.tmps.getD 17 undef=(.bool (!fb)))/\(fa=false->aF.tmps.getD 17 undef=undef):=F.done 4 17 (by kernel_rfl) rfl;rcases Cb fa with hE | hE
  ·replace s17:=s17.1 hE;exact sw (by first | (go_simp;done) | (go_simp;simp_all;done) | (simp_all;done)) rfl
  ·exact sw (by first | (go_simp;done) | (go_simp;simp_all;done) | (simp_all;done)) rfl),(gv 5 18),
   (λaF wF F=>by
  have sg:=F.v 6 19;have s3:=F.q 3 (.pointer (some ⟨w.heap.size,0,none⟩));have c0:=Ai HB.o F.kept 0 _ rfl;have c1:=Ai HB.o F.kept 1 _ rfl;rcases Cb (fa&&fb) with hC | hC
  ·refine J0 hC (vE (.agg #[.slice A n c,.slice B outs.length d])) ?_;exact Dz rfl rfl sg (by first | rfl | simp [hC])
  ·exact J2 rfl rfl sg (by first | rfl | simp [hC]) (nW hC)),
   (λaF wF F=>by
  have sg:=F.v 6 19;have s4:=F.q 4 (.pointer (some ⟨w.heap.size+1,0,none⟩));rcases Cb (fa&&fb) with hC | hC
  ·refine J0 hC (vE (.pointer (some ⟨w.heap.size+1,6,none⟩))) ?_;exact Dz rfl rfl sg (by first | rfl | simp [hC])
  ·exact J2 rfl rfl sg (by first | rfl | simp [hC]) (nW hC)),
   (λaF wF F=>by
  have sg:=F.v 6 19;have s21:((fa&&fb)=true->aF.tmps.getD 21 undef=(.pointer (some ⟨w.heap.size+1,6,none⟩)))/\((fa&&fb)=false->aF.tmps.getD 21 undef=undef):=F.done 8 21 (by kernel_rfl) rfl;have c0:=Ai HB'.o F.kept 6 _ rfl;rcases Cb (fa&&fb) with hC | hC
  ·refine J0 hC (vE (.slice AX e.x.length cx)) ?_;replace s21:=s21.1 hC;exact Dz rfl rfl sg (by first | rfl | simp [hC])
  ·exact J2 rfl rfl sg (by first | rfl | simp [hC]) (nW hC)),
   (λaF wF F=>by
  have sg:=F.v 6 19;have s22:((fa&&fb)=true->aF.tmps.getD 22 undef=(.slice AX e.x.length cx))/\((fa&&fb)=false->aF.tmps.getD 22 undef=undef):=F.done 9 22 (by kernel_rfl) rfl;rcases Cb (fa&&fb) with hC | hC
  ·refine J0 hC (vE (.int .i64 (e.x.length:Int))) ?_;replace s22:=s22.1 hC;exact Dz rfl rfl sg (by first | rfl | simp [hC])
  ·exact J2 rfl rfl sg (by first | rfl | simp [hC]) (nW hC)),
   (λaF wF F=>by
  have sg:=F.v 6 19;have s4:=F.q 4 (.pointer (some ⟨w.heap.size+1,0,none⟩));rcases Cb (fa&&fb) with hC | hC
  ·refine J0 hC (vE (.pointer (some ⟨w.heap.size+1,7,none⟩))) ?_;exact Dz rfl rfl sg (by first | rfl | simp [hC])
  ·exact J2 rfl rfl sg (by first | rfl | simp [hC]) (nW hC)),
   (λaF wF F=>by
  have sg:=F.v 6 19;have s24:((fa&&fb)=true->aF.tmps.getD 24 undef=(.pointer (some ⟨w.heap.size+1,7,none⟩)))/\((fa&&fb)=false->aF.tmps.getD 24 undef=undef):=F.done 11 24 (by kernel_rfl) rfl;have c0:=Ai HB'.o F.kept 7 _ rfl;rcases Cb (fa&&fb) with hC | hC
  ·refine J0 hC (vE (.slice AU e.u.length cu)) ?_;replace s24:=s24.1 hC;exact Dz rfl rfl sg (by first | rfl | simp [hC])
  ·exact J2 rfl rfl sg (by first | rfl | simp [hC]) (nW hC)),
   (λaF wF F=>by
  have sg:=F.v 6 19;have s25:((fa&&fb)=true->aF.tmps.getD 25 undef=(.slice AU e.u.length cu))/\((fa&&fb)=false->aF.tmps.getD 25 undef=undef):=F.done 12 25 (by kernel_rfl) rfl;rcases Cb (fa&&fb) with hC | hC
  ·refine J0 hC (vE (.int .i64 (e.u.length:Int))) ?_;replace s25:=s25.1 hC;exact Dz rfl rfl sg (by first | rfl | simp [hC])
  ·exact J2 rfl rfl sg (by first | rfl | simp [hC]) (nW hC)),
   (λaF wF F=>by
  have sg:=F.v 6 19;have s4:=F.q 4 (.pointer (some ⟨w.heap.size+1,0,none⟩));rcases Cb (fa&&fb) with hC | hC
  ·refine J0 hC (vE (.pointer (some ⟨w.heap.size+1,8,none⟩))) ?_;exact Dz rfl rfl sg (by first | rfl | simp [hC])
  ·exact J2 rfl rfl sg (by first | rfl | simp [hC]) (nW hC)),
   (λaF wF F=>by
  have sg:=F.v 6 19;have s27:((fa&&fb)=true->aF.tmps.getD 27 undef=(.pointer (some ⟨w.heap.size+1,8,none⟩)))/\((fa&&fb)=false->aF.tmps.getD 27 undef=undef):=F.done 14 27 (by kernel_rfl) rfl;have c0:=Ai HB'.o F.kept 8 _ rfl;rcases Cb (fa&&fb) with hC | hC
  ·refine J0 hC (vE (.slice AP e.p.length cp)) ?_;replace s27:=s27.1 hC;exact Dz rfl rfl sg (by first | rfl | simp [hC])
  ·exact J2 rfl rfl sg (by first | rfl | simp [hC]) (nW hC)),
   (λaF wF F=>by
  have sg:=F.v 6 19;have s28:((fa&&fb)=true->aF.tmps.getD 28 undef=(.slice AP e.p.length cp))/\((fa&&fb)=false->aF.tmps.getD 28 undef=undef):=F.done 15 28 (by kernel_rfl) rfl;rcases Cb (fa&&fb) with hC | hC
  ·refine J0 hC (vE (.int .i64 (e.p.length:Int))) ?_;replace s28:=s28.1 hC;exact Dz rfl rfl sg (by first | rfl | simp [hC])
  ·exact J2 rfl rfl sg (by first | rfl | simp [hC]) (nW hC)),
   (λaF wF F=>by
  have sg:=F.v 6 19;have s20:((fa&&fb)=true->aF.tmps.getD 20 undef=(.agg #[.slice A n c,.slice B outs.length d]))/\((fa&&fb)=false->aF.tmps.getD 20 undef=undef):=F.done 7 20 (by kernel_rfl) rfl;have s23:((fa&&fb)=true->aF.tmps.getD 23 undef=(.int .i64 (e.x.length:Int)))/\((fa&&fb)=false->aF.tmps.getD 23 undef=undef):=F.done 10 23 (by kernel_rfl) rfl;have s26:((fa&&fb)=true->aF.tmps.getD 26 undef=(.int .i64 (e.u.length:Int)))/\((fa&&fb)=false->aF.tmps.getD 26 undef=undef):=F.done 13 26 (by kernel_rfl) rfl;have s29:((fa&&fb)=true->aF.tmps.getD 29 undef=(.int .i64 (e.p.length:Int)))/\((fa&&fb)=false->aF.tmps.getD 29 undef=undef):=F.done 16 29 (by kernel_rfl) rfl
  rcases Cb (fa&&fb) with hC | hC
  ·refine J0 hC (vE (.bool mt)) ?_;replace s20:=s20.1 hC;replace s23:=s23.1 hC;replace s26:=s26.1 hC;replace s29:=s29.1 hC;exact Ax ((Am rfl rfl sg).trans (by first | rfl | simp [hC])) (by go_simp) (MT.o _ (K.o.trans F.kept)) (λ_ _ h=>RetK.good h) (λ_ _ h=>h)
  ·exact J2 rfl rfl sg (by first | rfl | simp [hC]) (nW hC)),
   (λaF wF F=>by
  have sg:=F.v 6 19;have s30:((fa&&fb)=true->aF.tmps.getD 30 undef=(.bool mt))/\((fa&&fb)=false->aF.tmps.getD 30 undef=undef):=F.done 17 30 (by kernel_rfl) rfl;rcases Cb (fa&&fb) with hC | hC
  ·refine J0 hC (vE (.bool (!mt))) ?_;replace s30:=s30.1 hC;exact Dz rfl rfl sg (by first | rfl | simp [hC])
  ·exact J2 rfl rfl sg (by first | rfl | simp [hC]) (nW hC)),
   (λaF wF F=>by
  have s19:=F.v 6 19;have s31:((fa&&fb)=true->aF.tmps.getD 31 undef=(.bool (!mt)))/\((fa&&fb)=false->aF.tmps.getD 31 undef=undef):=F.done 18 31 (by kernel_rfl) rfl;rcases Cb (fa&&fb) with hE | hE
  ·replace s31:=s31.1 hE;exact sw (by first | (go_simp;done) | (go_simp;simp_all;done) | (simp_all;done)) rfl
  ·exact sw (by first | (go_simp;done) | (go_simp;simp_all;done) | (simp_all;done)) rfl),(gv 19 32),
   (λaF wF F=>by
  have sg:=F.v 20 33;have s4:=F.q 4 (.pointer (some ⟨w.heap.size+1,0,none⟩));have c0:=Ai HB'.o F.kept 0 _ rfl;have c1:=Ai HB'.o F.kept 1 _ rfl;have c2:=Ai HB'.o F.kept 2 _ rfl;have c3:=Ai HB'.o F.kept 3 _ rfl;have c4:=Ai HB'.o F.kept 4 _ rfl;have c5:=Ai HB'.o F.kept 5 _ rfl;have c6:=Ai HB'.o F.kept 6 _ rfl;have c7:=Ai HB'.o F.kept 7 _ rfl;have c8:=Ai HB'.o F.kept 8 _ rfl;rcases Cb (fa&&fb&&mt) with hC | hC
  ·refine J0 hC (vE (.agg #[x0,x1,x2,x3,x4,x5,.slice AX e.x.length cx,.slice AU e.u.length cu,.slice AP e.p.length cp])) ?_;exact Dz rfl rfl sg (by first | rfl | simp [hC])
  ·exact J2 rfl rfl sg (by first | rfl | simp [hC]) (nW hC)),
   (λaF wF F=>by
  have sg:=F.v 20 33;have s34:((fa&&fb&&mt)=true->aF.tmps.getD 34 undef=(.agg #[x0,x1,x2,x3,x4,x5,.slice AX e.x.length cx,.slice AU e.u.length cu,.slice AP e.p.length cp]))/\((fa&&fb&&mt)=false->aF.tmps.getD 34 undef=undef):=F.done 21 34 (by kernel_rfl) rfl;rcases Cb (fa&&fb&&mt) with hC | hC
  ·refine J0 hC (vE (.bool me)) ?_;replace s34:=s34.1 hC;exact Ax ((Am rfl rfl sg).trans (by first | rfl | simp [hC])) (by go_simp) (ME.o _ (K.o.trans F.kept)) (λ_ _ h=>RetK.good h) (λ_ _ h=>h)
  ·exact J2 rfl rfl sg (by first | rfl | simp [hC]) (nW hC)),
   (λaF wF F=>by
  have sg:=F.v 20 33;have s35:((fa&&fb&&mt)=true->aF.tmps.getD 35 undef=(.bool me))/\((fa&&fb&&mt)=false->aF.tmps.getD 35 undef=undef):=F.done 22 35 (by kernel_rfl) rfl;rcases Cb (fa&&fb&&mt) with hC | hC
  ·refine J0 hC (vE (.bool (!me))) ?_;replace s35:=s35.1 hC;exact Dz rfl rfl sg (by first | rfl | simp [hC])
  ·exact J2 rfl rfl sg (by first | rfl | simp [hC]) (nW hC)),
   (λaF wF F=>by
  have s33:=F.v 20 33;have s36:((fa&&fb&&mt)=true->aF.tmps.getD 36 undef=(.bool (!me)))/\((fa&&fb&&mt)=false->aF.tmps.getD 36 undef=undef):=F.done 23 36 (by kernel_rfl) rfl;rcases Cb (fa&&fb&&mt) with hE | hE
  ·replace s36:=s36.1 hE;exact sw (by first | (go_simp;done) | (go_simp;simp_all;done) | (simp_all;done)) rfl
  ·exact sw (by first | (go_simp;done) | (go_simp;simp_all;done) | (simp_all;done)) rfl),
   trivial⟩ ?_
 intro u w1 k1 hu;have p16:=hp hu 3;have p17:=hp hu 4;have p20:=hp hu 7;have p21:=hp hu 8;have p22:=hp hu 9;have p23:=hp hu 10;have p24:=hp hu 11;have p25:=hp hu 12;have p26:=hp hu 13;have p27:=hp hu 14;have p28:=hp hu 15;have p29:=hp hu 16;have p30:=hp hu 17;have p31:=hp hu 18;have p34:=hp hu 21;have p35:=hp hu 22;have p36:=hp hu 23;simp only [Bb,Ap,Act.put,Ep,hv hu 0,hv hu 1,hv hu 2,hv hu 5,hv hu 6,hv hu 19,hv hu 20,hv hu 24];clear hu;generalize u 3=v16,u 4=v17,u 7=v20,u 8=v21,u 9=v22,u 10=v23,u 11=v24,u 12=v25,u 13=v26,u 14=v27,u 15=v28,u 16=v29,u 17=v30,u 18=v31,u 21=v34,u 22=v35,u 23=v36 at *
 clear p16 p17 p20 p21 p22 p23 p24 p25 p26 p27 p28 p29 p30 p31 p34 p35 p36 MT ME;have K1:=Ad (K.o.trans k1);have HB1:=Ad (Ay HB.o k1);have HB1':=Ad (Ay HB'.o k1);clear k1 HB HB' K HW;rcases (Cb (fa&&fb&&mt&&me)).symm with hg | hg
 ·rw [hg];have e1:T=⟨[],1⟩:=by
   rw [<-HTI.o];unfold Lu;rw [Af];intro h;rw [EM.o.2 h] at hg;cases hg
  go_wp2_with fail
  go_ret2
  subst e1;exact ⟨K1.o,_,rfl,Lk _⟩
 have hgood:=EM.o.1 hg;rw [hg];clear hg EM;obtain ⟨pn,rfl⟩:∃ pn:Nat,p=(pn:Int):=⟨p.toNat,by omega⟩;have HTL:Hid (Ec ov e pn [] ls=T):=Ad (by
  rw [<-HTI.o];unfold Lu;rw [Ak hgood,Int.toNat_natCast])
 obtain ⟨p1,p2,hmt,hme⟩:=hgood;replace p1:1<=pn:=by omega
 replace p2:pn<=300:=by omega
 have hmt':=hmt;unfold Iy at hmt';simp only [Bool.and_eq_true,decide_eq_true_eq] at hmt';obtain ⟨⟨⟨n200,-⟩,hmls⟩,-⟩:=hmt';rw [HN.o] at n200;have ML:=Ad ((Pi _ _ _ ls 0).1 hmls);unfold Uw at hme;simp only [Bool.and_eq_true] at hme;obtain ⟨⟨⟨me1,me2⟩,me3⟩,me4⟩:=hme;have ET:=Ad (HTT.o.clean me1);have EX:=Ad (HX.o.cl me2);have EU:=Ad (HU.o.cl me3);have EP:=Ad (HP.o.cl me4);clear hmls hmt HTI FA FB HMT HME me1 me2 me3 me4;obtain ⟨V,hmk,kV,lV,OV0⟩:=mS w1 (n:=n) (by omega);have KV:=Ad kV;have OV0':=Ad OV0;obtain ⟨c0,c1⟩:=Ez HB1.o;obtain ⟨f0,f1⟩:=Ez (Ay HB1.o kV)
 clear kV OV0;go_wp2_with fail;go_step3;go_wp2_with fail;clear c0 c1 f0 f1 hmk;rw [show (!true)=false from rfl];generalize (!(fa&&fb&&mt))=fd;generalize (!(fa&&fb))=fc;generalize (!fa)=fa'
 go_loopw [8,45] (λv t wr=>∃ (k:Nat) (rows:List RawI) (xs:List Value),k<=n/\t=.int .i64 k/\Ec ov e pn [] (ls.take k)=⟨rows,0⟩/\rows.length=k/\Cl rows/\OwnI wr w1.heap.size v rows xs/\Kept w1 wr) (λ_ t _=>(n-intOf t).toNat)
 case atStart=>exact ⟨0,[],[],Nat.zero_le _,rfl,rfl,rfl,(by intro a ha;cases ha),OV0'.o,KV.o⟩
 case round =>
  obtain ⟨k,rows,xs,hk,rfl,hrow,hlen,hcl,hown,hKr⟩:=hrel;have KR:=Ad hKr;have HROW:=Ad hrow;have HLEN:=Ad hlen;have HCL:=Ad hcl;have HOWN:=Ad hown;clear hKr hrow hcl hown KV OV0' hlen;by_cases hlt:k<n
  ·obtain ⟨⟨op,a,b,kk⟩,hl⟩:∃ l,ls[k]?=some l:=⟨_,Cd (by have:=HN.out;omega)⟩;have hml:=ML.out k _ hl;rw [Nat.zero_add] at hml;obtain ⟨A',c',eA,-,hA⟩:=HLS.out;injection eA with eA1 eA2 eA3
   subst eA1;obtain ⟨bl,ol,rfl,hd⟩:=hA (by have:=HN.o;omega);obtain ⟨a0,a1,a2,y0,y1,y2,y3,y4,y5,g0,g1,g2,g3,g4,g5,hI⟩:=(hd k _ hl).kept (K1.o.trans KR.o);have HI:=Ad hI;obtain ⟨A1,l1,q1,A2,l2,q2,ei,-,-⟩:=Ar hI;injection ei with ei;injection ei with ei
   simp only [List.cons.injEq,and_true] at ei;obtain ⟨rfl,rfl,rfl,rfl,rfl,rfl⟩:=ei;have hok:=OK.o _ (Dc hl);obtain ⟨W2,hW2,kW2,HL,HZ,lW2⟩:=ri wr (.int .i64 op) (.int .i64 a) (.int .i64 b) (.bool kk.lo.neg) (.slice A1 l1 q1) (.int .i64 kk.lo.e) (.bool kk.hi.neg) (.slice A2 l2 q2) (.int .i64 kk.hi.e);have HW2:=Ad hW2;have K2:=Ad kW2;have HLB:=Ad HL;have HZB:=Ad HZ;have HML:=Ad hml;have HLK:=Ad hl;clear hI hl hml hok hW2 kW2 HL HZ hd hA eA2 eA3;simp only [] at a0 a1 a2;generalize kk.lo.neg=z1,kk.lo.e=z2,kk.hi.neg=z3,kk.hi.e=z4 at *
   go_upto_block 2 with fail
   rw [<-HW2.o];clear HW2 a0 a1 a2 g0 g1 g2 g3 g4 g5;generalize hb10:wr.heap.size=b10 at *;have LB:=Ad hb10;clear hb10;have HML':=HML
   go_cut [12] (λt wx=>∃ ro,t=.int .i64 ro.k/\ro=Bn (Dm ov e pn rows ⟨op,a,b,kk⟩)/\(Dm ov e pn rows ⟨op,a,b,kk⟩).v.Ok/\Kept wr wx/\∃ n1 P1 i1 q1 d1 n2 P2 i2 q2 d2,BlkI wx (b10+1) (.bool n1) (.slice P1 i1 q1) (.int .i64 d1) (.bool n2) (.slice P2 i2 q2) (.int .i64 d2)/\IvR wx (.agg #[.bool n1,.slice P1 i1 q1,.int .i64 d1,.bool n2,.slice P2 i2 q2,.int .i64 d2]) ro.v)
   case first =>
    clear HML';obtain ⟨r0,r1,r2,r3,r4,r5,r6,r7,r8⟩:=Cp HLB.o;by_cases e1:op=1
    ·subst e1;obtain ⟨ro,ho⟩:∃ ro,ro=Bn (Dm ov e pn rows ⟨1,a,b,kk⟩):=⟨_,rfl⟩;have hmk:Dl kk=true:=by
      have:=HML.o;rw [oJ] at this;simp only [Bool.and_eq_true] at this;exact this.1.1
     obtain ⟨hok,hrw⟩:=HI.o.clean hmk;have CC:=Ad (λw' (q:Kept W2 w')=>show Calls Tryz.prog 59 _ w' (RetIE ro w') by rw [ho];exact Hd ((HI.o.kept (K2.o.trans q)).ivC hrw) hok (TT.o.kept (K1.o.trans (KR.o.trans (K2.o.trans q)))) p1 (by omega));have HO:Hid ((Dm ov e pn rows ⟨1,a,b,kk⟩).v.Ok):=Ad (D8 hok p1).1;have HLI:=Ad ho;clear ho hmk hok hrw HML HI;go_upto_region 12 with fail;go_wp2_with fail;refine (CC.o _ (Below.refl _ _)).mono ?_;rintro e' w3 ⟨q,u,rfl,hd⟩;obtain ⟨P1,i1,q1,P2,i2,q2,rfl,v1,v2⟩:=Ar hd;simp only [];have hz:=HZB.o.kept q;obtain ⟨-,u0,u1,u2,u3,u4,u5⟩:=hz.facts
     obtain ⟨f0,f1,f2,f3,f4,f5⟩:=hz.free;go_wp2_with fail
     go_meet
     exact ⟨ro,rfl,HLI.o,HO.o,Az (K2.o.trans q) (by have:=LB.o;omega),_,_,_,_,_,_,_,_,_,_,hz.laid _ _ _ _ _ _,Hj hd hz _ _ _ _ _ _⟩
    have g1:(op==1)=false:=by simp [e1]
    have h'd:=Cp (Ay HB1'.o (KR.o.trans K2.o));obtain ⟨d0,d1,d2,d3,d4,d5,d6,d7,d8⟩:=h'd;by_cases e2:op=2
    ·subst e2;obtain ⟨ro,ho⟩:∃ ro,ro=Bn (Dm ov e pn rows ⟨2,a,b,kk⟩):=⟨_,rfl⟩;obtain ⟨hok,hrw⟩:=ET.out;have CC:=Ad (fun w' (q:Kept W2 w')=>show Calls Tryz.prog 59 _ w' (RetIE ro w') by rw [ho];exact Hd ((HTT.out.kept (K1.out.trans (KR.out.trans (K2.out.trans q)))).ivC hrw) hok (TT.out.kept (K1.out.trans (KR.out.trans (K2.out.trans q)))) p1 (by omega));have HO:Hid ((Dm ov e pn rows ⟨2,a,b,kk⟩).v.Ok):=Ad (D8 hok p1).1;have HLI:=Ad ho;clear ho hok hrw HML HI;go_upto_region 14 with fail;go_wp2_with fail;refine (CC.out _ (Below.refl _ _)).mono ?_;clear d0 d1 d2 d3 d4 d5 d6 d7 d8
     rintro e' w3 ⟨q,u,rfl,hd⟩;obtain ⟨P1,i1,q1,P2,i2,q2,rfl,v1,v2⟩:=Ar hd;simp only [];have hz:=HZB.o.kept q;obtain ⟨-,u0,u1,u2,u3,u4,u5⟩:=hz.facts;obtain ⟨f0,f1,f2,f3,f4,f5⟩:=hz.free;go_wp2_with fail
     go_meet
     exact ⟨ro,rfl,HLI.o,HO.o,Az (K2.o.trans q) (by have:=LB.o;omega),_,_,_,_,_,_,_,_,_,_,hz.laid _ _ _ _ _ _,Hj hd hz _ _ _ _ _ _⟩
    have g2:(op==2)=false:=by simp [e2]
    by_cases e3:op=3
    ·subst e3;obtain ⟨hm1,hm2⟩:=rM HML.out;obtain ⟨ka,rfl⟩:∃ ka:Nat,a=(ka:Int):=⟨a.toNat,by omega⟩;have hka:ka<(e.x).length:=by omega
     obtain ⟨bo,oo,el,rfl,-,hel,hat⟩:=(HX.o.kept (K1.o.trans (KR.o.trans K2.o))).at hka;obtain ⟨m0,m1,m2,m3,m4,m5,n0,n1,n2,n3,n4,n5,hIe⟩:=hat;obtain ⟨hok,hrw⟩:=EX.o el (Dc hel);have hat2:ce (e.x) ka=el.iv:=by unfold ce;rw [Int.toNat_natCast,Da,hel,Option.getD_some]
     obtain ⟨ro,ho⟩:∃ ro,ro=Bn (Dm ov e pn rows ⟨3,ka,b,kk⟩):=⟨_,rfl⟩;have hli:Dm ov e pn rows ⟨3,ka,b,kk⟩=Bk el.iv pn:=by rw [<-hat2];rfl
     have CC:=Ad (λw' (q:Kept W2 w')=>show Calls Tryz.prog 59 _ w' (RetIE ro w') by rw [ho,hli];exact Hd ((hIe.kept q).ivC hrw) hok (TT.o.kept (K1.o.trans (KR.o.trans (K2.o.trans q)))) p1 (by omega));have HO:Hid ((Dm ov e pn rows ⟨3,ka,b,kk⟩).v.Ok):=Ad (by rw [hli];exact (D8 hok p1).1);have HLI:=Ad ho;clear ho hok hrw HML HI hli hat2 hel hIe hm1 hm2;go_upto_region 16 with fail;go_wp2_with fail;refine (CC.o _ (Below.refl _ _)).mono ?_;clear d0 d1 d2 d3 d4 d5 d6 d7 d8 n0 n1 n2 n3 n4 n5;rintro e' w3 ⟨q,u,rfl,hd⟩;obtain ⟨P1,i1,q1,P2,i2,q2,rfl,v1,v2⟩:=Ar hd;simp only []
     have hz:=HZB.o.kept q;obtain ⟨-,u0,u1,u2,u3,u4,u5⟩:=hz.facts;obtain ⟨f0,f1,f2,f3,f4,f5⟩:=hz.free;go_wp2_with fail
     go_meet
     exact ⟨ro,rfl,HLI.o,HO.o,Az (K2.o.trans q) (by have:=LB.o;omega),_,_,_,_,_,_,_,_,_,_,hz.laid _ _ _ _ _ _,Hj hd hz _ _ _ _ _ _⟩
    have g3:(op==3)=false:=by simp [e3]
    by_cases e4:op=4
    ·subst e4;obtain ⟨hm1,hm2⟩:=rN HML.out;obtain ⟨ka,rfl⟩:∃ ka:Nat,a=(ka:Int):=⟨a.toNat,by omega⟩;have hka:ka<(e.u).length:=by omega
     obtain ⟨bo,oo,el,rfl,-,hel,hat⟩:=(HU.o.kept (K1.o.trans (KR.o.trans K2.o))).at hka;obtain ⟨m0,m1,m2,m3,m4,m5,n0,n1,n2,n3,n4,n5,hIe⟩:=hat;obtain ⟨hok,hrw⟩:=EU.o el (Dc hel);have hat2:ce (e.u) ka=el.iv:=by unfold ce;rw [Int.toNat_natCast,Da,hel,Option.getD_some]
     obtain ⟨ro,ho⟩:∃ ro,ro=Bn (Dm ov e pn rows ⟨4,ka,b,kk⟩):=⟨_,rfl⟩;have hli:Dm ov e pn rows ⟨4,ka,b,kk⟩=Bk el.iv pn:=by rw [<-hat2];rfl
     have CC:=Ad (λw' (q:Kept W2 w')=>show Calls Tryz.prog 59 _ w' (RetIE ro w') by rw [ho,hli];exact Hd ((hIe.kept q).ivC hrw) hok (TT.o.kept (K1.o.trans (KR.o.trans (K2.o.trans q)))) p1 (by omega));have HO:Hid ((Dm ov e pn rows ⟨4,ka,b,kk⟩).v.Ok):=Ad (by rw [hli];exact (D8 hok p1).1);have HLI:=Ad ho;clear ho hok hrw HML HI hli hat2 hel hIe hm1 hm2;go_upto_region 18 with fail;go_wp2_with fail;refine (CC.o _ (Below.refl _ _)).mono ?_;clear d0 d1 d2 d3 d4 d5 d6 d7 d8 n0 n1 n2 n3 n4 n5;rintro e' w3 ⟨q,u,rfl,hd⟩;obtain ⟨P1,i1,q1,P2,i2,q2,rfl,v1,v2⟩:=Ar hd;simp only []
     have hz:=HZB.o.kept q;obtain ⟨-,u0,u1,u2,u3,u4,u5⟩:=hz.facts;obtain ⟨f0,f1,f2,f3,f4,f5⟩:=hz.free;go_wp2_with fail
     go_meet
     exact ⟨ro,rfl,HLI.o,HO.o,Az (K2.o.trans q) (by have:=LB.o;omega),_,_,_,_,_,_,_,_,_,_,hz.laid _ _ _ _ _ _,Hj hd hz _ _ _ _ _ _⟩
    have g4:(op==4)=false:=by simp [e4]
    by_cases e5:op=5
    ·subst e5;obtain ⟨hm1,hm2⟩:=rO HML.out;obtain ⟨ka,rfl⟩:∃ ka:Nat,a=(ka:Int):=⟨a.toNat,by omega⟩;have hka:ka<(e.p).length:=by omega
     obtain ⟨bo,oo,el,rfl,-,hel,hat⟩:=(HP.o.kept (K1.o.trans (KR.o.trans K2.o))).at hka;obtain ⟨m0,m1,m2,m3,m4,m5,n0,n1,n2,n3,n4,n5,hIe⟩:=hat;obtain ⟨hok,hrw⟩:=EP.o el (Dc hel);have hat2:ce (e.p) ka=el.iv:=by unfold ce;rw [Int.toNat_natCast,Da,hel,Option.getD_some]
     obtain ⟨ro,ho⟩:∃ ro,ro=Bn (Dm ov e pn rows ⟨5,ka,b,kk⟩):=⟨_,rfl⟩;have hli:Dm ov e pn rows ⟨5,ka,b,kk⟩=Bk el.iv pn:=by rw [<-hat2];rfl
     have CC:=Ad (λw' (q:Kept W2 w')=>show Calls Tryz.prog 59 _ w' (RetIE ro w') by rw [ho,hli];exact Hd ((hIe.kept q).ivC hrw) hok (TT.o.kept (K1.o.trans (KR.o.trans (K2.o.trans q)))) p1 (by omega));have HO:Hid ((Dm ov e pn rows ⟨5,ka,b,kk⟩).v.Ok):=Ad (by rw [hli];exact (D8 hok p1).1);have HLI:=Ad ho;clear ho hok hrw HML HI hli hat2 hel hIe hm1 hm2;go_upto_region 20 with fail;go_wp2_with fail;refine (CC.o _ (Below.refl _ _)).mono ?_;clear d0 d1 d2 d3 d4 d5 d6 d7 d8 n0 n1 n2 n3 n4 n5;rintro e' w3 ⟨q,u,rfl,hd⟩;obtain ⟨P1,i1,q1,P2,i2,q2,rfl,v1,v2⟩:=Ar hd;simp only []
     have hz:=HZB.o.kept q;obtain ⟨-,u0,u1,u2,u3,u4,u5⟩:=hz.facts;obtain ⟨f0,f1,f2,f3,f4,f5⟩:=hz.free;go_wp2_with fail
     go_meet
     exact ⟨ro,rfl,HLI.o,HO.o,Az (K2.o.trans q) (by have:=LB.o;omega),_,_,_,_,_,_,_,_,_,_,hz.laid _ _ _ _ _ _,Hj hd hz _ _ _ _ _ _⟩
    have g5:(op==5)=false:=by simp [e5]
    clear d0 d1 d2 d3 d4 d5 d6 d7 d8;obtain ⟨ha1,ha2,hb1,hb2,h6,h13⟩:=rP HML.o e1 e2 e3 e4 e5;obtain ⟨ka,rfl⟩:∃ ka:Nat,a=(ka:Int):=⟨a.toNat,by omega⟩;obtain ⟨kb,rfl⟩:∃ kb:Nat,b=(kb:Int):=⟨b.toNat,by omega⟩;have hka:ka<rows.length:=by have:=HLEN.o;omega
    have hkb:kb<rows.length:=by have:=HLEN.o;omega
    have hsl:=HOWN.o.ivS;obtain ⟨Ao,co,rfl,-,-⟩:=hsl;have hsl:=HOWN.o.ivS;obtain ⟨bo,oo,ela,rfl,-,hea,hata⟩:=hsl.at hka;obtain ⟨bo',oo',elb,eq',-,heb,hatb⟩:=hsl.at hkb;injection eq' with eq'
    injection eq' with eq1 eq2
    subst eq1;subst eq2;obtain ⟨m0,m1,m2,m3,m4,m5,n0,n1,n2,n3,n4,n5,hIa⟩:=hata;obtain ⟨m0',m1',m2',m3',m4',m5',n0',n1',n2',n3',n4',n5',hIb⟩:=hatb;have lbo:bo<wr.heap.size:=Av n0;have lTT:=TT.o.lt;have lK1:=K1.o.size;have lKR:=KR.o.size;generalize hb11:b10+1=b11 at *;have NBO:bo∉[b11]:=by have:=LB.o;simp;omega
    have N10:b10∉[b11]:=by simp;omega
    have NG:0∉[b11]:=by have:=LB.o;simp;omega
    have CA:=Ad ((show Cells6 wr bo (oo+ka*6) m0 m1 m2 m3 m4 m5 from ⟨n0,n1,n2,n3,n4,n5⟩).kept K2.o);have CB:=Ad ((show Cells6 wr bo (oo+kb*6) m0' m1' m2' m3' m4' m5' from ⟨n0',n1',n2',n3',n4',n5'⟩).kept K2.o);obtain ⟨oka,rwa'⟩:=HCL.o ela (Dc hea);obtain ⟨okb,rwb'⟩:=HCL.o elb (Dc heb);have hli:Dm ov e pn rows ⟨op,ka,kb,kk⟩=Ip ov op ela.iv elb.iv pn:=by
     unfold Dm;simp only [Af e1,Af e2,Af e3,Af e4,Af e5];unfold ce;rw [Int.toNat_natCast,Int.toNat_natCast,Da,Da,hea,heb,Option.getD_some,Option.getD_some]
    have hov:=OV.o ⟨op,ka,kb,kk⟩ (Dc HLK.o);have hIa2:=hIa.kept K2.o;have hIb2:=hIb.kept K2.o;have hT2:=TT.o.kept (K1.o.trans (KR.o.trans K2.o));obtain ⟨ro,ho⟩:∃ ro,ro=Bn (Dm ov e pn rows ⟨op,ka,kb,kk⟩):=⟨_,rfl⟩;have CC:=Ad (λw' (q:KB W2 [b11] w')=>show Calls Tryz.prog 63 _ w' (RetIE ro w') by rw [ho,hli];exact qE (op:=op) ((hIa2.kb q).ivC rwa') ((hIb2.kb q).ivC rwb') oka okb (hT2.kb q NG) p1 (by omega) (λhn w4 q4=>(hov (show op=13 by omega)).2 w4 _ _ _ (((hIa2.kb q).kept q4).ivC rwa') oka ((hT2.kb q NG).kept q4) p1 p2) OPS.o (HS.o ⟨op,ka,kb,kk⟩ (Dc HLK.o)))
    have HO:Hid ((Dm ov e pn rows ⟨op,ka,kb,kk⟩).v.Ok):=Ad (by rw [hli];exact (nF oka okb p1 (λhn=>(hov (show op=13 by omega)).1 _ _ oka p1 p2)).1);have HLI:=Ad ho;have HB11:=Ad hb11;clear ho oka okb rwa' rwb' HML HI hli hea heb hIa hIb hov n0 n1 n2 n3 n4 n5 n0' n1' n2' n3' n4' n5' e1 e2 e3 e4 e5 hsl hIa2 hIb2 hT2 hb11 lbo lTT lK1 lKR;go_upto_region 10 with fail;clear r0 r1 r2 r3 r4 r5 r6 r7 r8
    refine rK 19 (λi=>i==17) ([b11]) (λL w=>LinJ b11 ro.v (L 17) w) ([(vP b10 0),(vE (.int .i64 op)),(vE (.slice (some ⟨bo,oo,none⟩) rows.length co)),(vP b10 1),(vE (.int .i64 (ka:Int))),(vE (.pointer (some ⟨bo,oo+ka*6,none⟩))),(vE (.agg #[m0,m1,m2,m3,m4,m5])),(vE (.slice (some ⟨bo,oo,none⟩) rows.length co)),(vP b10 2),(vE (.int .i64 (kb:Int))),(vE (.pointer (some ⟨bo,oo+kb*6,none⟩))),(vE (.agg #[m0',m1',m2',m3',m4',m5'])),(vE (.int .i64 (pn:Int))),(λv wv=>∃ d,v=.tuple #[d,.int .i64 ro.k]/\IvR wv d ro.v),(λv wv=>∃ d,v=.tuple #[d,.int .i64 ro.k]/\IvR wv d ro.v),(λv wv=>IvR wv v ro.v),(vE (.int .i64 ro.k)),(λv _=>True),(vE (.int .i64 ro.k))])
     (λi hE L w w' kq fj=>by simp only [sH hE 17];exact LinJ.kept kq fj) ((by exact ⟨_,_,_,_,_,_,_,_,_,_,HZB.o,λh=>absurd h (by decide)⟩)) (by exact ⟨
       (kq 10),(sk 0 52 λ_ k=>Bt HLB.o k N10 0 _ rfl),(kq 8),(kq 10),(sk 3 55 λ_ k=>Bt HLB.o k N10 1 _ rfl),(lC 2 54 4 56),(kp λ_ aF wF F=>by have FK:=F.frame.1;have s57:=F.v 5 57;exact sw (by (obtain ⟨n0,n1,n2,n3,n4,n5⟩:=CA.o.kb FK NBO;go_simp)) rfl),(kq 8),(kq 10),(sk 8 60 λ_ k=>Bt HLB.o k N10 2 _ rfl),(lC 7 59 9 61),(kp λ_ aF wF F=>by have FK:=F.frame.1;have s62:=F.v 10 62;exact sw (by (obtain ⟨n0,n1,n2,n3,n4,n5⟩:=CB.o.kb FK NBO;go_simp)) rfl),(kq 2),(kp λ_ aF wF F=>by have FK:=F.frame.1;have s53:=F.v 1 53;have s58:=F.v 6 58;have s63:=F.v 11 63;have s64:=F.v 12 64;exact sP (CC.o _ FK) λ_ _ h=>h),(km 13 65),(kp λ_ aF wF F=>by have s51:=F.p 14 51;obtain ⟨dd,ee,hh⟩:=s51;exact sv hh),(kp λ_ aF wF F=>by have s51:=F.p 14 51;exact sw (by obtain ⟨dd,ee,hh⟩:=s51;go_simp) rfl),(.inr λLF aF wF F=>by have FK:=F.frame.1;have fj:=F.frame.2;have s11:=F.q 11 (.pointer (some ⟨b11,0,none⟩));have s66:=F.p 15 66;obtain ⟨P1,i1,k1,P2,i2,k2,ee,z1,z2⟩:=Ar s66;simp only [Cv] at ee;obtain ⟨_,_,_,_,_,_,_,_,_,_,hbb,-⟩:=LinJ.parts fj;obtain ⟨-,q0,q1,q2,q3,q4,q5⟩:=hbb.facts;obtain ⟨g0,g1,g2,g3,g4,g5⟩:=hbb.free;exact Ox (w':=ivW wF b11 _ _ _ _ _ _) (by simp [Region.wanted]) (by go_simp;rfl) ⟨FK.ivW hbb (by simp) _ _ _ _ _ _,⟨_,_,_,_,_,_,_,_,_,_,hbb.laid _ _ _ _ _ _,λ_=>Hj (show IvR wF (.agg #[_,_,_,_,_,_]) ro.v from ⟨_,_,_,_,_,_,rfl,z1,z2⟩) hbb _ _ _ _ _ _⟩⟩ (Ii _ ⟨vR,vR,vR,vR,vR,vR,vR,vR,vR,vR,vR,vR,vR,.inr (λu h=>by first | exact Hj h hbb _ _ _ _ _ _ | exact ⟨h.choose,h.choose_spec.1,Hj h.choose_spec.2 hbb _ _ _ _ _ _⟩),.inr (λu h=>by first | exact Hj h hbb _ _ _ _ _ _ | exact ⟨h.choose,h.choose_spec.1,Hj h.choose_spec.2 hbb _ _ _ _ _ _⟩),.inr (λu h=>by first | exact Hj h hbb _ _ _ _ _ _ | exact ⟨h.choose,h.choose_spec.1,Hj h.choose_spec.2 hbb _ _ _ _ _ _⟩),vR,.inl rfl,vR,trivial⟩) trivial),(kv 16 67),
       trivial⟩) ?_
    intro u w3 L1 hL j1 hu;obtain ⟨q,j1⟩:=j1;have p65:=hp hu 13;have p51:=hp hu 14;have p66:=hp hu 15;simp only [Bb,Ap,Act.put,Ep,hv hu 0,hv hu 1,hv hu 2,hv hu 3,hv hu 4,hv hu 5,hv hu 6,hv hu 7,hv hu 8,hv hu 9,hv hu 10,hv hu 11,hv hu 12,hv hu 16,hv hu 18];clear hu;generalize u 13=v65,u 14=v51,u 15=v66 at *;have jj:LinJ b11 ro.v true w3:=by
     have jj:=j1;simp only [hL 17 (by decide)] at jj;exact jj
    clear j1 hL p66 p65 p51 CC;obtain ⟨_,_,_,_,_,_,_,_,_,_,hbx,hiv⟩:=jj.parts;have hix:=hiv rfl;clear hiv;have kX:Kept wr w3:=KB.kept K2.o q (by intro x hx;simp at hx;have:=LB.o;have:=HB11.o;omega);go_simp;go_wp2_with fail
    go_meet
    exact ⟨ro,rfl,HLI.o,HO.o,kX,_,_,_,_,_,_,_,_,_,_,hbx,hix⟩
   obtain ⟨ro,rfl,ho,hok,kX,n1,P1,i1,q1,d1,n2,P2,i2,q2,d2,hbx,hix⟩:=hcut;have HBX:=Ad hbx;have HIX:=Ad hix;have HO:=Ad hok;have HLI:=Ad ho;clear hbx hix hok ho HML HML' HLB HZB HI;go_upto_region 21 with fail;generalize wc=X at *;have OWNX:=Ad (HOWN.o.kept kX);have KX:=Ad (KR.o.trans kX);clear kX;obtain ⟨-,s0,s1,s2,s3,s4,s5⟩:=HBX.o.facts;have lrows:rows.length<=1000:=by have:=HLEN.o;omega
   have lbase:w1.heap.size<=X.heap.size:=KX.o.size;have htk:ls.take (k+1)=ls.take k++[⟨op,a,b,kk⟩]:=by rw [List.take_add_one,HLK.o];rfl
   have hsn:=Su ov e pn (ls.take k) [] rows ⟨op,a,b,kk⟩ HROW.o;rw [<-htk] at hsn;have HSN:=Ad hsn;clear htk hsn;have hrk:(Dm ov e pn rows ⟨op,a,b,kk⟩).k=ro.k:=by rw [HLI.o];rfl
   have hrv:(Dm ov e pn rows ⟨op,a,b,kk⟩).v.raw=ro.v:=by rw [HLI.o];rfl
   have HRK:=Ad hrk;have HRV:=Ad hrv;clear hrk hrv;by_cases hk0:ro.k=0
   ·have gk:(ro.k==0)=true:=by simp [hk0]
    go_wp2_with (at_builtin;refine Ja rfl (.tmp 125) (.tmp 127) rfl rfl (OWNX.o.kept (Ab _ _)) (HIX.o.kept (Ab _ _)) (Ea _ _ _ _ _ _ _) rfl lrows (Bp lbase (by simp)) ?_;intro v' X' OX' gX')
    have K':=Ad (OwnI.grown_kept (OWNX.o.kept (Ab _ _)) (KX.o.trans (Ab _ _)) gX');have OX:=Ad OX';clear s0 s1 s2 s3 s4 s5 gX' OX';go_roundw
    case rel =>
     refine ⟨k+1,rows++[ro.v],_,by omega,by go_num,?_,by simp [HLEN.o],?_,OX.o,K'.o⟩
     ·rw [HSN.o,HRK.o,Ak hk0,HRV.o]
     ·rw [<-HRV.o];exact HCL.o.snoc HO.o
    case measure=>simp only [intOf];omega
   ·have gk:(ro.k==0)=false:=by simp [hk0]
    go_wp2_with (at_builtin;refine Ja rfl (.tmp 125) (.tmp 127) rfl rfl (OWNX.o.kept (Ab _ _)) (HIX.o.kept (Ab _ _)) (Ea _ _ _ _ _ _ _) rfl lrows (Bp lbase (by simp)) ?_;intro v' X' OX' gX')
    have K':=Ad (OwnI.grown_kept (OWNX.o.kept (Ab _ _)) (KX.o.trans (Ab _ _)) gX');clear s0 s1 s2 s3 s4 s5 gX' OX';have e1:T=⟨[],ro.k⟩:=by
     rw [<-HTL.o];have h1:=HSN.o;rw [HRK.o,Af hk0] at h1
     conv=>lhs;rw [<-List.take_append_drop (k+1) ls]
     rw [Ut ov e pn _ _ _ (by rw [h1];exact hk0),h1]
    go_ret2
    subst e1;exact ⟨K1.o.trans K'.o,_,rfl,Lk _⟩
  ·obtain rfl:k=n:=by omega
   have e1:T=⟨rows,0⟩:=by
    rw [<-HTL.o,<-HROW.o,<-HN.o,List.take_length]
   go_wp2_with fail
   go_ret2
   subst e1;exact ⟨K1.o.trans KR.o,_,rfl,HOWN.o.ivS⟩
theorem Hm {ops:Array Oper}{rest:List Oper}{a:Act}{Q:Exit->Act->World->Prop}(hgd:o.guard=none)(s x:Operand)
 (ho:o.op=.call { callee:=.builtin .append,args:=#[s,x],argTypes:=#[38,38] })
 {base:Nat} {v:Value} {l:List (List RawI)} {xs:List Value} (hs:a.eval s=v) (hown:OwnR w base v l xs) {d:List RawI} {u:Value} {b:Nat}
 (hd:IvS w u d) (hb:w.cell? ⟨b,0,none⟩=some u) (hx:a.eval x=.slice (some ⟨b,0,none⟩) 1 1)
 (hl:l.length<=1000) (hbase:base<=w.heap.size)
 (h:∀ v' w',OwnR w' base v' (l++[d]) (xs++[u])->w.grownBy w' v.ownBlock->wpList Tryz.prog ops Q rest (a.put o.dst v') w'):wpList Tryz.prog ops Q (o::rest) a w:=by
 obtain ⟨i0,hi,hz0,hz1,hz2⟩:=info_parts rU;have ad:∀ j,(⟨b,0,none⟩:Addr).add j=⟨b,j,none⟩:=by intro j;unfold Addr.add;split<;>simp_all
 have hu:SlC u:=by obtain ⟨A,c,rfl,-⟩:=hd;exact ⟨_,_,_,rfl⟩
 have hu1:u.oneCell'=true:=by obtain ⟨A,c,rfl,-⟩:=hd;rfl
 refine Rq (p:=SlC) hgd s x _ ho base 31 i0 _ 1 24 Tryz.underlying38 hi hz0 hz1 hz2 rfl (by decide) v l.length xs hs hown.row _ 1 1 [u] hx rfl ?_ (by intro y hy;simp only [List.mem_singleton] at hy;rw [hy];exact hu1) (by unfold maxLen;omega) (by omega) hbase (by decide) hown.sl (by intro y hy;simp only [List.mem_singleton] at hy;rw [hy];exact hu) (by intro y hy;simp [Value.cells] at hy;rw [hy];exact ⟨_,_,_,rfl⟩) hown.blk ?_
 ·intro j y hy;rw [ad];rcases j with _ | j
  ·cases hy;exact hb
  ·simp at hy
 ·intro v' w' g' q1 q2 q3 q4;exact h v' w' (hown.snoc hd q1 q2 q3 q4) q2
theorem ru (w:World)(p:Int)(s o:Value):∃ W,W=(w.alloc (.cells #[.int .i64 p] 81)).alloc (.cells #[s,o] 25) /\
 Kept w W/\W.heap[w.heap.size]?=some (.cells #[.int .i64 p] 81 (0,0))/\W.heap[w.heap.size+1]?=some (.cells #[s,o] 25 (0,0)):=by
 refine ⟨_,rfl,(Ab _ _).trans (Ab _ _),?_,?_⟩
 ·rw [Below.heap_alloc _ _ _ (by simp)];exact heap_alloc_new _ _
 ·have:=heap_alloc_new (w.alloc (.cells #[.int .i64 p] 81)) (.cells #[s,o] 25);simpa using this
theorem rq (w:World)(o a b x y z x' y' z':Value):∃ W,W=w.alloc (.cells #[o,a,b,x,y,z,x',y',z'] 52)/\Kept w W/\W.heap[w.heap.size]?=some (.cells #[o,a,b,x,y,z,x',y',z'] 52 (0,0)) :=
 ⟨_,rfl,Ab _ _,heap_alloc_new _ _⟩
theorem ay {k:Nat}{x:List (List RawI)}{l:Ln}(h:ls[j]?=some l):Fj ov p t x q k all (ls.drop j) =
 if (Fe ov p l all t x q k).k=0 then Fj ov p t x q k (all++[(Fe ov p l all t x q k).v]) (ls.drop (j+1)) else ⟨[],(Fe ov p l all t x q k).k⟩:=by
 obtain ⟨hj,rfl⟩:=Ed h;rw [List.drop_eq_getElem_cons hj];rfl
theorem dk {k:Nat}{x:List (List RawI)}(h:ls.length<=j):Fj ov p t x q k all (ls.drop j)=⟨all,0⟩:=by
 rw [List.drop_eq_nil_of_le h];rfl
def ci (o:Outc (List (List RawI))) (w:World) (e:Ending) (w':World):Prop:=Kept w w'/\((o.k=0/\∃ v xs,e=.returned v/\OutS w' w.heap.size v o.v xs)\/(o.k≠0/\e=.panicked (By 106 o.k)))
theorem kD {tm:Bool}{vs:Value}{x:List (List RawI)}{k:Nat}(hv:TpR w vt ls outs)(ht:tm=true->IvS w vs t)(hx:Rws w vx x)(hq:Rws w vq q)
 (hL:∀ i l,ls[i]?=some l->Xx tm ov p k t x q i l) (ho:∀ n∈outs,0<=n/\n<(ls.length:Int)) (hn:ls.length<=200) (hm:outs.length<=200) (hk:k<=900) (hT:Tab w) :
 Calls Tryz.prog 49 #[.agg #[.int .i64 p],vt,vs,vx,vq,.int .i64 k] w (ci (Cy ov p ls outs t x q k) w):=by
 obtain ⟨s,o,rfl,hls,hou⟩:=hv;have HLS:=Ad hls;have HOU:=Ad hou;have CL:=Ad (λ(i:Nat) (l:Ln) (hl:ls[i]?=some l) (w1:World) (kq:Kept w w1) vl vall (all:List (List RawI)) (h1:oW w1 vl l) (h2:Rws w1 vall all) (h3:all.length=i) (h4:GdR k all)=>And.intro ((hL i l hl).2 h1 h2 h3 h4 (λe=>(ht e).kept kq) (hx.kept kq) (hq.kept kq) (hT.kept kq)) ((hL i l hl).1 all h3 h4));have HO:=Ad ho;obtain ⟨A,c,rfl,hc,-⟩:=hls;obtain ⟨B,d,rfl,-,-⟩:=hou;obtain ⟨R,hR⟩:∃ R,R=Fj ov p t x q k [] ls:=⟨_,rfl⟩;obtain ⟨U,hU⟩:∃ U,U=Cy ov p ls outs t x q k:=⟨_,rfl⟩;have hU0:R.k=0->U=⟨outs.map λn=>Hy R.v n,0⟩:=λh=>by rw [hU,Cy,<-hR,Ak h]
 have hU1:R.k≠0->U=⟨[],R.k⟩:=λh=>by rw [hU,Cy,<-hR,Af h]
 rw [<-hU];have UG:=Ad hU0;have UB:=Ad hU1;have HR:=Ad hR;have HK:=Ad hk;obtain ⟨W,hW,kW,bW,bT⟩:=ru w p (.slice A ls.length c) (.slice B outs.length d);have HW:=Ad hW;have K:=Ad kW;have BW:=Ad bW;obtain ⟨c0,c1⟩:=Ez bT;have BT:=Ad bT;generalize hnl:ls.length=n at *;have HN:=Ad hnl;generalize hml:outs.length=m at *;have HM:=Ad hml;clear hW kW bW bT hU0 hU1 hR hU hL ho hT ht hx hq hnl hml hk hc;go_enter Tryz.func49,Tryz.ntmps49;go_upto_region 2 with fail;rw [<-HW.o];clear HW;go_wp2_with fail;clear c0 c1
 go_loopw [13,22] (λva ti wr=>∃ (j:Nat) (all:List (List RawI)) (xs:List Value),j<=n/\ti=.int .i64 (j:Int)/\all.length=j/\GdR k all/\Fj ov p t x q k all (ls.drop j)=R/\OwnR wr W.heap.size va all xs/\Kept W wr) (λ_ ti _=>(n-intOf ti).toNat)
 case atStart=>exact ⟨0,[],[],Nat.zero_le _,rfl,rfl,GdR.nil k,HR.o.symm,OwnR.nil _ _,Below.refl _ _⟩
 case round =>
  obtain ⟨j,all,xs,hj,rfl,hal,hgd,hlj,hown,hkr⟩:=hrel;have HAL:=Ad hal;have GD:=Ad hgd;have LJ:=Ad hlj;have OWN:=Ad hown;have KR:=Ad hkr;clear hal hgd hlj hown hkr;by_cases hlt:j<n
  ·obtain ⟨l,hl⟩:∃ l,ls[j]?=some l:=⟨_,Cd (by have:=HN.out;omega)⟩;obtain ⟨A',c',eA,-,hA⟩:=HLS.out;injection eA with eA1 eA2 eA3
   subst eA1;obtain ⟨bl,ol,rfl,hd⟩:=hA (by have:=HN.o;omega);obtain ⟨a0,a1,a2,y0,y1,y2,y3,y4,y5,g0,g1,g2,g3,g4,g5,hI⟩:=(hd j _ hl).kept (K.o.trans KR.o);obtain ⟨A1,l1,q1,A2,l2,q2,ei,-,-⟩:=Ar hI;injection ei with ei;injection ei with ei
   simp only [List.cons.injEq,and_true] at ei;obtain ⟨rfl,rfl,rfl,rfl,rfl,rfl⟩:=ei;obtain ⟨ro,hro⟩:∃ ro,ro=Fe ov p l all t x q k:=⟨_,rfl⟩;have hst:=ay (ov:=ov) (p:=p) (k:=k) (t:=t) (x:=x) (q:=q) (all:=all) hl;rw [<-hro,LJ.o] at hst;have hR0:ro.k=0->Fj ov p t x q k (all++[ro.v]) (ls.drop (j+1))=R:=λh=>by rw [hst,Ak h]
   have hBAD:∀ w1,Kept w w1->ro.k≠0->ci U w (.panicked (By 106 ro.k)) w1:=λw1 kq h=>by
    have e:R=⟨[],ro.k⟩:=by rw [hst,Af h]
    have e2:=UB.o (by rw [e];exact h);rw [e] at e2;rw [e2];exact ⟨kq,.inr ⟨h,rfl⟩⟩
   obtain ⟨W2,hW2,kW2,hLB⟩:=rq wr (.int .i64 l.op) (.int .i64 l.a) (.int .i64 l.b) (.bool l.k.lo.neg) (.slice A1 l1 q1) (.int .i64 l.k.lo.e) (.bool l.k.hi.neg) (.slice A2 l2 q2) (.int .i64 l.k.hi.e);have hcl:=CL.o j l hl W2 (K.o.trans (KR.o.trans kW2)) _ _ all ⟨_,_,_,_,_,_,rfl,hI.kept kW2⟩ (OWN.o.all.kept kW2) HAL.o GD.o;rw [<-hro] at hcl;have HCL:=Ad hcl;have R0:=Ad hR0;have BAD:=Ad hBAD;have HW2:=Ad hW2;have K2:=Ad kW2;have HLB:=Ad hLB;clear hcl hR0 hBAD hW2 hI hd hA eA2 eA3 hst hro hl;generalize l.op=e1,l.a=e2,l.b=e3,l.k.lo.neg=e4 at *
   generalize l.k.lo.e=e5,l.k.hi.neg=e6,l.k.hi.e=e7 at *;go_upto_region 5 with fail;rw [<-HW2.o];clear HW2 a0 a1 a2 g0 g1 g2 g3 g4 g5;generalize hb10:wr.heap.size=b10 at *;obtain ⟨r0,r1,r2,r3,r4,r5,r6,r7,r8⟩:=Cp HLB.o;have d0:=Ae (Ay BW.o (KR.o.trans K2.o)) 0 _ rfl;go_wp2_with fail;refine HCL.o.1.mono ?_;rintro e w3 ⟨q3,hq3⟩;rcases hq3 with ⟨h0,v,rfl,hv3,-⟩ | ⟨h0,rfl⟩
   ·have hvv:=hv3;obtain ⟨A3,c3,rfl,-⟩:=hvv;have HV3:=Ad hv3;obtain ⟨gd1,gd2⟩:=HCL.out.2 h0;have GD':=Ad (GD.out.snoc gd1 gd2);have R0':=Ad (R0.out h0);have K3:=Ad (K2.out.trans q3);have KK:=Ad (KR.out.trans K3.out);have OW3:=Ad (OWN.out.kept K3.out);have hl9:all.length≤1000:=by have:=HAL.out;omega
    have hW9:W.heap.size<=w3.heap.size:=KK.o.size;clear r0 r1 r2 r3 r4 r5 r6 r7 r8 d0 hv3 gd1 gd2 q3 h0 HCL R0 BAD HLB OWN hb10;simp only []
    go_wp2_with (at_builtin;refine Hm rfl (.tmp 26) (.tmp 35) rfl rfl (OW3.o.kept (Ab _ _)) (HV3.o.kept (Ab _ _)) (Ae (heap_alloc_new _ _) 0 _ rfl) rfl hl9 (Bp hW9 (by simp)) ?_;intro v' X OX gX)
    have KX:=Ad (OwnR.grown_kept (OW3.o.kept (Ab _ _)) (KK.o.trans (Ab _ _)) gX);have OXX:=Ad OX;clear OX gX OW3 HV3;go_wp2_with fail;go_roundw
    case rel=>exact ⟨j+1,all++[ro.v],_,by omega,by go_num,by simp [HAL.o],GD'.o,R0'.o,OXX.o,KX.o⟩
    case measure=>simp [intOf];omega
   ·simp only [];exact ⟨rfl,BAD.o _ (K.o.trans (KR.o.trans (K2.o.trans q3))) h0⟩
  ·obtain rfl:j=n:=by omega
   have hRR:R=⟨all,0⟩:=by
    have:=LJ.o;rw [dk (by have:=HN.o;omega)] at this;exact this.symm
   have hUU:U=⟨outs.map λn=>Hy all n,0⟩:=by
    have:=UG.o (by rw [hRR]);rw [hRR] at this;exact this
   have UU:=Ad hUU;clear hRR hUU UG UB LJ CL HR;obtain ⟨Aa,ca,rfl,hca,hall⟩:=OWN.o.all;have HALL:=Ad (show Rws wr (.slice Aa all.length ca) all from ⟨Aa,ca,rfl,hca,hall⟩);clear hca hall OWN;rw [HAL.o];obtain ⟨c0,c1⟩:=Ez (Ay BT.o KR.o);go_wp2_with fail;clear c0 c1;have hW8:W.heap.size<=wr.heap.size:=KR.o.size;obtain ⟨V1,hV1⟩:∃ V1,V1=wr:=⟨wr,rfl⟩;subst hV1
   go_loopw [14,41] (λva ti wr2=>∃ (i:Nat) (xs:List Value),i<=m/\ti=.int .i64 (i:Int)/\OutS wr2 V1.heap.size va ((outs.take i).map λn=>Hy all n) xs/\Kept V1 wr2) (λ_ ti _=>(m-intOf ti).toNat)
   case atStart=>exact ⟨0,[],Nat.zero_le _,rfl,OutS.nil _ _,Below.refl _ _⟩
   case round =>
    obtain ⟨i,xs',hi,rfl,hown,hkz⟩:=hrel;have OWN:=Ad hown;have KZ:=Ad hkz;clear hown hkz;by_cases him:i<m
    ·obtain ⟨z,hz⟩:∃ z,outs[i]?=some z:=⟨_,Cd (by have:=HM.out;omega)⟩;obtain ⟨z0,z1⟩:=HO.out z (Dc hz);obtain ⟨zn,rfl⟩:∃ zn:Nat,z=(zn:Int):=⟨z.toNat,by omega⟩;have hzn:zn<all.length:=by have:=HAL.out;omega
     obtain ⟨B',d',eB,-,hB⟩:=HOU.o;injection eB with eB1 eB2 eB3
     subst eB1;obtain ⟨bo,oo,rfl,hdo⟩:=hB (by have:=HM.o;omega);have o0:=(((K.o.trans KR.o).trans KZ.o).cell (p:=⟨bo,oo+i,none⟩) (Av (hdo i _ hz))).trans (hdo i _ hz);obtain ⟨ba,oa,c9,s9,e9,-,t9,hs9⟩:=HALL.o.row hzn;injection e9 with e9 e8 e7
     subst e9;have t8:=(KZ.o.cell (p:=⟨ba,oa+zn,none⟩) (Av t9)).trans t9;obtain ⟨g1,g2⟩:=GD.o.at hzn;have HCC:=Ad (jm (hs9.kept KZ.o) (by rw [g2];omega) (by have:=HK.o;rw [g2];omega));obtain ⟨As,cs,rfl,-⟩:=hs9;have NE:=Ad (show all.getD zn []≠[] from λe=>by rw [e] at g2;simp at g2);have HZ:=Ad (show (outs.take (i+1)).map (λn=>Hy all n)=(outs.take i).map (λn=>Hy all n)++[all.getD zn []] by
      rw [List.take_add_one,hz,List.map_append];rfl)
     have hlen:((outs.take i).map λn=>Hy all n).length<=1000:=by rw [List.length_map,List.length_take];omega
     have hW7:V1.heap.size<=wr.heap.size:=KZ.o.size;have hna:(zn:Int)<(j:Int):=by have:=HAL.o;omega
     generalize all.getD zn []=rw9 at *;clear hdo hB eB2 eB3 hz t9 g1 g2 z0 z1 e8 e7;go_wp2_with fail;refine HCC.o.mono ?_;rintro e w4 ⟨q4,v',ys,rfl,hoi⟩;have HF4:=Ad (And.intro (hoi.low KZ.o.size) (λ(j:Nat) (u:Value) (hu:xs'[j]?=some u) (g:Nat) (hg:v'.ownBlock=some g) (e:u.ownBlock=some g)=>show False from absurd (OWN.o.blt hu e).2 (Nat.not_lt.2 (hoi.base g hg))));have hS4:=hoi.ivS;obtain ⟨A4,c4,rfl,-⟩:=hS4;have HV4:=Ad hoi.ivS;have OW4:=Ad (OWN.o.kept q4);have K4:=Ad (KZ.o.trans q4);have hW6:V1.heap.size<=w4.heap.size:=K4.o.size;clear hoi o0 t8 OWN HCC;simp only []
     go_wp2_with (at_builtin;refine Hm rfl (.tmp 45) (.tmp 51) rfl rfl (OW4.o.kept (Ab _ _)).own (HV4.o.kept (Ab _ _)) (Ae (heap_alloc_new _ _) 0 _ rfl) rfl hlen (Bp hW6 (by simp)) ?_;intro v' X OX gX)
     have KX:=Ad (OwnR.grown_kept (OW4.o.kept (Ab _ _)).own (K4.o.trans (Ab _ _)) gX);have OXS:=(OW4.o.kept (Ab _ _)).snoc OX gX (HF4.o.1.kept (Ab _ _)) NE.o HF4.o.2;rw [<-HZ.o] at OXS;have OXX:=Ad OXS;clear OX OXS gX OW4 HV4 HF4 NE q4;go_wp2_with fail;go_roundw
     case rel=>exact ⟨i+1,_,by omega,by go_num,OXX.o,KX.o⟩
     case measure=>simp [intOf];omega
    ·obtain rfl:i=m:=by omega
     have hfin:=OWN.o;rw [Fq (by have:=HM.o;omega)] at hfin;have FI:=Ad hfin;clear hfin OWN;go_wp2_with fail;go_ret;refine ⟨K.o.trans (KR.o.trans KZ.o),.inl ?_⟩;rw [UU.o];exact ⟨rfl,_,_,rfl,FI.o.low (Bp K.o.size hW8)⟩
theorem Pd {P:Program}{a:Act}(s x:Operand)(t:TypeId){vs v':Value}
 (ho:o.op=.call { callee:=.builtin .append,args:=#[s,x],argTypes:=#[t,t] }) (hs:a.eval s=vs) (hx:a.eval x=vx)
 (hr:(Builtin.append_ #[t,t] o.type #[vs,vx]).run P w=.ok v' w'):(execOp a.eval o).run P w=.ok (.value v') w':=by
 unfold execOp;simp only [ho,resolve,invoke,builtin,Sem.run_bind,Sem.run_pure,Result.andThen_ok,List.map_toArray,List.map_cons,List.map_nil,hs,hx,hr]
theorem Td {t0 t1 t2 t3 t4 t5:Value}(ty:TypeId)(ho:OwnI w B v l xs)(hnil:l=[]->v=.slice none 0 0\/∃ g,v=.slice (some ⟨g,0,none⟩) 0 0)(hl:l.length<=1000)(hB:B<=w.heap.size)
 (hb:BlkI w bt t0 t1 t2 t3 t4 t5) (hd:IvR w (.agg #[t0,t1,t2,t3,t4,t5]) d) :
 ∃ v' w' g', (Builtin.append_ #[31, 31] ty #[v, .slice (some ⟨bt, 0, none⟩) 1 1]).run Tryz.prog w = .ok v' w' ∧ OwnI w' B v' (l ++ [d]) (xs ++ [t0, t1, t2, t3, t4, t5]) ∧ w.grownBy w' v.ownBlock ∧
   (∀ (b:Nat) (cs:Array Value) (T:TypeId),w.heap[b]?=some (.cells cs T (0,0))->cs.size<12->w'.heap[b]?=some (.cells cs T (0,0))) /\
   (∀ g,(∀ (j:Nat) (u:Value),(xs++[t0,t1,t2,t3,t4,t5])[j]?=some u->w.cell? ⟨g,j,none⟩=some u)->∀ (j:Nat) (u:Value),(xs++[t0,t1,t2,t3,t4,t5])[j]?=some u->w'.cell? ⟨g,j,none⟩=some u) /\
   (∀ v2,OwnI w B v2 l xs->OwnI w' B v2 l xs)/\v'.ownBlock=some g'/\(v.ownBlock=some g'\/w.heap.size<=g'):=by
 obtain ⟨i0,hi,hz0,hz1,hz2⟩:=info_parts Uo;obtain ⟨-,c0,c1,c2,c3,c4,c5⟩:=hb.facts;have hcl:=hd.cells;have ad:∀ (b j:Nat),(⟨b,0,none⟩:Addr).add j=⟨b,j,none⟩:=by intro b j;unfold Addr.add;split<;>simp_all
 have hnews:∀ (j:Nat) (u:Value),[t0,t1,t2,t3,t4,t5][j]?=some u->w.cell? ((⟨bt,0,none⟩:Addr).add j)=some u:=by
  intro j u hu;rw [ad];rcases j with _ | _ | _ | _ | _ | _ | j
  ·cases hu;exact c0
  ·cases hu;exact c1
  ·cases hu;exact c2
  ·cases hu;exact c3
  ·cases hu;exact c4
  ·cases hu;exact c5
  ·simp at hu
 obtain ⟨v',w',g',hr,h2,h3,h4,h5⟩:=Kz (P:=Tryz.prog) w B 31 ty 30 i0 _ 6 80 Tryz.underlying31 hi hz0 hz1 hz2 rfl (by decide) v l.length xs ho.row ⟨bt,0,none⟩ 1 1 [t0,t1,t2,t3,t4,t5] rfl hnews (λu hu=>(hcl u hu).2) (by unfold maxLen;omega) (by omega) hB (by decide) ho.nl (λu hu=>(hcl u hu).1) Km ho.blk;have hown':=ho.snoc hd h2 h3 h4 h5;rcases ho.row.2 with ⟨rfl,h0⟩ | ⟨g,cap,cur,rfl,hbg,hg,hnc,hcm,hcs,htake⟩
 ·obtain rfl:l=[]:=G9 h0;have hr2:=run_append_nil (P:=Tryz.prog) w 31 ty 30 i0 _ Tryz.underlying31 hi hz0 ⟨bt,0,none⟩ 1 1 [t0,t1,t2,t3,t4,t5] (by rw [hz1];rfl) hnews (by decide) (by decide) (by rw [hz2];decide);rw [hr2] at hr;injection hr with e1 e2
  have kk:Kept w w':=by rw [<-e2];exact (Below.refl _ _).drew.alloc (Aq _) _
  have hg':w.heap.size=g':=by rw [<-e1] at h4;simpa [Value.ownBlock] using h4
  rw [e1,e2] at hr2;exact ⟨_,_,g',hr2,hown',h3,λb cs T hb2 _=>(kk.block b (Bi hb2).1).trans hb2,λg2 hh j u hj=>(kk.cell (p:=⟨g2,j,none⟩) (Av (hh j u hj))).trans (hh j u hj),λv2 o2=>o2.kept kk,h4,.inr (Nat.le_of_eq hg')⟩
 have h3':w.grownBy w' (some g):=h3;have oth:∀ (b:Nat) (o:Obj),b≠g->w.heap[b]?=some o->w'.heap[b]?=some o:=λb o hne hb'=>by
  rw [h3'.block b (Bi hb').1 (λe=>hne (Option.some.inj e))];exact hb'
 have othc:∀ b j u,b≠g->w.cell? ⟨b,j,none⟩=some u->w'.cell? ⟨b,j,none⟩=some u:=λb j u hne hb'=>by
  have:=h3'.block b (Av hb') (λe=>hne (Option.some.inj e));simp only [World.cell?,this];simpa only [World.cell?] using hb'
 by_cases hroom:l.length+1<=cap
 ·have hn:0<l.length:=by
   by_cases e:l=[]
   ·subst e;rcases hnil rfl with e | ⟨g9,e⟩<;>injection e with e1 e2 e3
    ·cases e1
    ·subst e3;simp at hroom
   ·exact List.length_pos_iff.2 e
  have hsz:12<=cur.size:=by rw [hcs];omega
  have hr2:=run_append_room (P:=Tryz.prog) w 31 ty 30 i0 Tryz.underlying31 hi g l.length cap cur hg ⟨bt,0,none⟩ 1 1 [t0,t1,t2,t3,t4,t5] (by rw [hz1];rfl) hnews (λu hu=>(hcl u hu).2) hroom (by rw [hz1,hcs];simp only [List.length_cons,List.length_nil];omega);rw [hz1] at hr2;rw [hr2] at hr;injection hr with e1 e2
  subst e1;subst e2;obtain rfl:g=g':=by simpa [Value.ownBlock] using h4
  refine ⟨_,_,g,hr2,hown',h3,?_,?_,?_,rfl,.inl rfl⟩
  ·intro b cs T hb2 hlt;refine oth b _ ?_ hb2;rintro rfl;rw [hg] at hb2;injection hb2 with hb2
   injection hb2 with hb2
   subst hb2;omega
  ·intro g2 hh j u hj;by_cases e:g2=g
   ·subst e;have:=h2.cells (g:=g2) rfl j u hj;rwa [ad] at this
   ·exact othc g2 j u e (hh j u hj)
  ·intro v2 o2;rcases o2.row.2 with ⟨-,h0⟩ | ⟨g2,cap2,cur2,rfl,hbg2,hgg2,hnc2,hcm2,hcs2,htake2⟩
   ·omega
   by_cases e:g2=g
   ·subst e;rw [hg] at hgg2;injection hgg2 with hgg2
    injection hgg2 with hgg2
    subst hgg2;refine ⟨⟨o2.row.1,.inr ⟨g2,cap2,_,rfl,hbg2,setRow_heap w g2 cur _ _ _ hg,hnc2,hcm2,?_,?_⟩⟩,o2.nl,o2.one,?_,?_⟩
    ·simp only [List.size_toArray,List.length_append,List.length_take,List.length_drop,Array.length_toList,List.length_cons,List.length_nil];omega
    ·rw [List.append_assoc,List.take_append_of_le_length (by simp only [List.length_take,Array.length_toList];omega),List.take_take,Nat.min_self];exact htake2
    ·intro gg hgg;obtain rfl:g2=gg:=by simpa [Value.ownBlock] using hgg
     exact h5
    ·intro i a hi2;obtain ⟨p0,p1,p2,p3,p4,p5,s0,s1,s2,s3,s4,s5,hJ⟩:=o2.ivs i a hi2;exact ⟨p0,p1,p2,p3,p4,p5,s0,s1,s2,s3,s4,s5,hJ.grown h3 ho.blk⟩
   ·refine ⟨⟨o2.row.1,.inr ⟨g2,cap2,cur2,rfl,hbg2,oth g2 _ e hgg2,hnc2,hcm2,hcs2,htake2⟩⟩,o2.nl,o2.one,?_,?_⟩
    ·intro gg hgg;obtain rfl:g2=gg:=by simpa [Value.ownBlock] using hgg
     obtain ⟨cur3,e3,r1,r2⟩:=o2.blk g2 rfl;exact ⟨cur3,e3,oth g2 _ e r1,r2⟩
    ·intro i a hi2;obtain ⟨p0,p1,p2,p3,p4,p5,s0,s1,s2,s3,s4,s5,hJ⟩:=o2.ivs i a hi2;exact ⟨p0,p1,p2,p3,p4,p5,s0,s1,s2,s3,s4,s5,hJ.grown h3 ho.blk⟩
 ·have holds:∀ j u,xs[j]?=some u→w.cell? ((⟨g,0,none⟩:Addr).add j)=some u:=ho.row.cells (g:=g) rfl;have hr2:=run_append_grow (P:=Tryz.prog) w 31 ty 30 i0 _ Tryz.underlying31 hi hz0 ⟨g,0,none⟩ l.length cap xs (by rw [hz1];exact ho.row.1) holds ⟨bt,0,none⟩ 1 1 [t0,t1,t2,t3,t4,t5] (by rw [hz1];rfl) hnews (by omega) (by omega) (growslice_fits (by omega) (by rw [hz2];omega));rw [hr2] at hr;injection hr with e1 e2
  have kk:Kept w w':=by rw [<-e2];exact (Below.refl _ _).drew.alloc (Aq _) _
  have hg':w.heap.size=g':=by rw [<-e1] at h4;simpa [Value.ownBlock] using h4
  rw [e1,e2] at hr2;refine ⟨_,_,g',hr2,hown',h3,λb cs T hb2 _=>(kk.block b (Bi hb2).1).trans hb2,λg2 hh j u hj=>(kk.cell (p:=⟨g2,j,none⟩) (Av (hh j u hj))).trans (hh j u hj),λv2 o2=>o2.kept kk,h4,.inr (Nat.le_of_eq hg')⟩
def ep (v:Value) (l:List RawI):Prop:=l=[]->v=.slice none 0 0\/∃ g,v=.slice (some ⟨g,0,none⟩) 0 0
def CellsI (w:World) (v:Value) (l:List RawI) (cs:List Value):Prop:=∃ A c,v=.slice A l.length c/\l.length<=c/\cs.length=l.length*6/\(0<l.length->∃ b off,A=some ⟨b,off,none⟩ /\
 ∀ (j:Nat) (u:Value),cs[j]?=some u->w.cell? ⟨b,off+j,none⟩=some u/\Bv u/\u.oneCell'=true) /\
 (∀ (i:Nat) (a:RawI),l[i]?=some a->∃ x y z x' y' z',cs[i*6]?=some x/\cs[i*6+1]?=some y/\cs[i*6+2]?=some z/\cs[i*6+3]?=some x'/\cs[i*6+4]?=some y'/\cs[i*6+5]?=some z'/\IvR w (.agg #[x,y,z,x',y',z']) a)
theorem IvS.cellsI (h:IvS w v l):∃ cs,CellsI w v l cs:=by
 obtain ⟨A,c,rfl,hc,hA⟩:=h;by_cases h0:0<l.length
 ·obtain ⟨b,off,rfl,hD⟩:=hA h0;obtain ⟨cs,q1,q2,q3⟩:=Sh (w:=w) (b:=b) l off hD;exact ⟨cs,_,c,rfl,hc,q1,λ_=>⟨b,off,rfl,q2⟩,q3⟩
 ·obtain rfl:l=[]:=G9 (by omega);exact ⟨[],A,c,rfl,hc,rfl,λh=>absurd h h0,by simp⟩
theorem CellsI.kept (h:CellsI w v l cs)(k:Kept w w'):CellsI w' v l cs:=by
 obtain ⟨A,c,e,hc,hl,hA,hI⟩:=h;refine ⟨A,c,e,hc,hl,λh0=>?_,λi a hi=>?_⟩
 ·obtain ⟨b,off,e2,hD⟩:=hA h0;exact ⟨b,off,e2,λj u hj=>⟨(k.cell (p:=⟨b,off+j,none⟩) (Av (hD j u hj).1)).trans (hD j u hj).1,(hD j u hj).2⟩⟩
 ·obtain ⟨x,y,z,x',y',z',a0,a1,a2,a3,a4,a5,hJ⟩:=hI i a hi;exact ⟨x,y,z,x',y',z',a0,a1,a2,a3,a4,a5,hJ.kept k⟩
theorem W9 (hv:CellsI w v l cs)(hl:l.length<=1000) :
 Calls Tryz.prog 55 #[v] w λe w'=>Kept w w'/\∃ v',e=.returned v'/\OwnI w' w.heap.size v' l cs/\ep v' l:=by
 obtain ⟨A,c,rfl,hc,hcl,hA,hI⟩:=hv;obtain ⟨i0,hi,hz0,hz1,hz2⟩:=info_parts Uo;rcases A with _ | A
 ·obtain rfl:l=[]:=by
   refine G9 (Nat.eq_zero_of_not_pos λh0=>?_);obtain ⟨b,off,e,-⟩:=hA h0;cases e
  obtain rfl:cs=[]:=G9 (by simpa using hcl);have e1:=λ(w:World)=>Lib.run_eql_slice_nil (P:=Tryz.prog) w 31 30 none 0 c 0 0 Tryz.underlying31
  simp only [List.length_nil];go_enter Tryz.func55,Tryz.ntmps55;go_wp2_with fail;go_ret;exact ⟨Below.refl _ _,_,rfl,OwnI.nil _ _,λ_=>.inl rfl⟩
 obtain ⟨W,hW⟩:∃ W,W=w.alloc (.cells #[] 30):=⟨_,rfl⟩;have kW:Kept w W:=by rw [hW];exact Ab _ _
 have hown:W.ownsRow w.heap.size 30 6 (.slice (some ⟨w.heap.size,0,none⟩) 0 0) 0 []:=by rw [hW];exact World.ownsRow_made w #[] 0 (Aq _) (by decide) rfl
 have hnol:∀ g,(Value.slice (some ⟨w.heap.size,0,none⟩) 0 0).ownBlock=some g->Ws W g:=by
  intro g hg;obtain rfl:w.heap.size=g:=Option.some.inj hg;exact ⟨_,_,by rw [hW];exact heap_alloc_new _ _,by simp⟩
 have hsz:w.heap.size<=W.heap.size:=kW.size;have HO:=Ad hown;have HN:=Ad hnol;have K:=Ad kW;have HW:=Ad hW;by_cases h0:0<l.length
 ·obtain ⟨b,off,e2,hD⟩:=hA h0;injection e2 with e2
  subst e2;have ad:∀ j,(⟨b,off,none⟩:Addr).add j=⟨b,off+j,none⟩:=by intro j;unfold Addr.add;split<;>simp_all
  have Q2:=Ad (λj u (hj:cs[j]?=some u)=>show W.cell? ⟨b,off+j,none⟩=some u/\Bv u/\u.oneCell'=true from ⟨(kW.cell (p:=⟨b,off+j,none⟩) (Av (hD j u hj).1)).trans (hD j u hj).1,(hD j u hj).2⟩);have HI:=Ad hI;have AD:=Ad ad;have CL:=Ad hcl;have e1:=λ(w:World)=>Lib.run_eql_slice_nil (P:=Tryz.prog) w 31 30 (some ⟨b,off,none⟩) l.length c 0 0 Tryz.underlying31
  have Tg:∀ v',ep v' l:=λv' e=>by rw [e] at h0;simp at h0
  have TG:=Ad Tg;clear hA hD hown hnol kW hW ad hI hcl Tg;go_enter Tryz.func55,Tryz.ntmps55;go_upto_region 3 with fail
  go_wp2_with (at_builtin;rw [<-HW.o];refine Il rfl (.tmp 5) (.tmp 6) _ rfl w.heap.size 30 i0 _ 6 80 Tryz.underlying31 hi hz0 hz1 hz2 rfl (by decide) _ 0 [] rfl HO.o ⟨b,off,none⟩ l.length c cs rfl CL.o (λj u hj=>by rw [AD.o];exact (Q2.o j u hj).1) (λu hu=>by obtain ⟨j,hj⟩:=List.getElem?_of_mem hu;exact (Q2.o j u hj).2.2) (by unfold maxLen;omega) (by omega) hsz h0 (by simp) (λu hu=>by obtain ⟨j,hj⟩:=List.getElem?_of_mem hu;exact (Q2.o j u hj).2.1) Km HN.o ?_;intro v' w' g' o1 o2 o3 o4)
  have kk:Kept w w':=Below.grown K.o o2 hsz (λg hg=>Nat.le_of_eq (Option.some.inj hg));have own:OwnI w' w.heap.size v' l cs:=by
   refine ⟨by simpa using o1,?_,?_,?_,?_⟩
   ·intro u hu;obtain ⟨j,hj⟩:=List.getElem?_of_mem hu;exact (Q2.o j u hj).2.1
   ·intro u hu;obtain ⟨j,hj⟩:=List.getElem?_of_mem hu;exact (Q2.o j u hj).2.2
   ·intro g hg;rw [o3] at hg;cases hg;exact o4
   ·intro i a hi;obtain ⟨x,y,z,x',y',z',a0,a1,a2,a3,a4,a5,hJ⟩:=HI.o i a hi;exact ⟨x,y,z,x',y',z',a0,a1,a2,a3,a4,a5,(hJ.kept K.o).grown o2 HN.o⟩
  have FI:=Ad (And.intro kk (And.intro own (TG.o v')));clear kk own o1 o2 o3 o4;go_wp2;go_ret;exact ⟨FI.o.1,_,rfl,FI.o.2⟩
 ·obtain rfl:l=[]:=G9 (by omega);obtain rfl:cs=[]:=G9 (by simpa using hcl);have e1:=fun (w:World)=>Lib.run_eql_slice_nil (P:=Tryz.prog) w 31 30 (some A) 0 c 0 0 Tryz.underlying31
  clear hA hI hcl hown hnol kW hW;simp only [List.length_nil];go_enter Tryz.func55,Tryz.ntmps55;go_upto_region 3 with fail
  go_wp2_with (at_builtin;rw [<-HW.o];refine wpList_append_fits _ rfl (.tmp 5) (.tmp 6) 31 rfl w.heap.size 30 i0 6 Tryz.underlying31 hi hz1 w.heap.size 0 0 [] rfl HO.o A 0 c [] rfl rfl (by simp) (by simp) (Aq _) ?_;intro w' o1 o2)
  have kk:Kept w w':=Below.grown K.o o2 hsz (λg hg=>Nat.le_of_eq (Option.some.inj hg));have own:OwnI w' w.heap.size (.slice (some ⟨w.heap.size,0,none⟩) 0 0) [] []:=by
   refine ⟨by simpa using o1,by simp,by simp,?_,by simp⟩;intro g hg;obtain rfl:w.heap.size=g:=Option.some.inj hg;have o1':=o1.2;rcases o1' with ⟨e,-⟩ | ⟨g2,cap,cur,e,-,hg2,-,-,hcs,-⟩
   ·cases e
   ·injection e with e3 e4 e5
    injection e3 with e3
    injection e3 with e3 e6
    subst e3;subst e5;refine ⟨cur,_,hg2,λu hu=>?_⟩;have:cur.toList=[]:=G9 (by simpa using hcs);rw [this] at hu;cases hu
  have FI:=Ad (And.intro kk own);clear kk own o1 o2;go_wp2;go_ret;exact ⟨FI.o.1,_,rfl,FI.o.2,λ_=>.inr ⟨_,rfl⟩⟩
def RowB (w:World) (v:Value) (n:Nat) (xs:List Value):Prop:=∃ b g cap,v=.slice (some ⟨b,0,none⟩) 1 1/\w.heap[b]?=some (.cells #[.slice (some ⟨g,0,none⟩) n cap] 31 (0,0))/\n<=cap/\∀ (j:Nat) (u:Value),xs[j]?=some u->w.cell? ⟨g,j,none⟩=some u
theorem RowB.kept (h:RowB w v n xs)(k:Kept w w'):RowB w' v n xs:=by
 obtain ⟨b,g,cap,e,hb,hc,hh⟩:=h;exact ⟨b,g,cap,e,Ay hb k,hc,λj u hj=>(k.cell (p:=⟨g,j,none⟩) (Av (hh j u hj))).trans (hh j u hj)⟩
theorem RowB.stab (h:RowB w v n xs)(hs:∀ (b:Nat) (cs:Array Value) (T:TypeId),w.heap[b]?=some (.cells cs T (0,0))->cs.size<12->w'.heap[b]?=some (.cells cs T (0,0)))
 (hh:∀ g,(∀ (j:Nat) (u:Value),xs[j]?=some u->w.cell? ⟨g,j,none⟩=some u)->∀ (j:Nat) (u:Value),xs[j]?=some u->w'.cell? ⟨g,j,none⟩=some u):RowB w' v n xs:=by
 obtain ⟨b,g,cap,e,hb,hc,hd⟩:=h;exact ⟨b,g,cap,e,hs _ _ _ hb (by simp),hc,hh g hd⟩
theorem RowB.rws (h:RowB w v l.length xs)
 (hI:∀ (i:Nat) (a:RawI),l[i]?=some a->∃ x y z x' y' z',xs[i*6]?=some x/\xs[i*6+1]?=some y/\xs[i*6+2]?=some z/\xs[i*6+3]?=some x'/\xs[i*6+4]?=some y'/\xs[i*6+5]?=some z'/\IvR w (.agg #[x,y,z,x',y',z']) a):Rws w v [l]:=by
 obtain ⟨b,g,cap,rfl,hb,hc,hh⟩:=h;refine ⟨_,_,rfl,Aq _,λ_=>⟨b,0,rfl,λi r hi=>?_⟩⟩;rcases i with _ | i
 ·obtain rfl:l=r:=by simpa using hi
  refine ⟨_,Ae hb 0 _ rfl,_,cap,rfl,hc,λ_=>⟨g,0,rfl,λj d hj=>?_⟩⟩;obtain ⟨x,y,z,x',y',z',a0,a1,a2,a3,a4,a5,hJ⟩:=hI j d hj;simp only [Nat.zero_add];exact ⟨x,y,z,x',y',z',hh _ _ a0,hh _ _ a1,hh _ _ a2,hh _ _ a3,hh _ _ a4,hh _ _ a5,hJ⟩
 ·simp at hi
def OneR (w:World) (v s:Value):Prop:=∃ b,v=.slice (some ⟨b,0,none⟩) 1 1/\w.heap[b]?=some (.cells #[s] 31 (0,0))
theorem OneR.kept (h:OneR w v s)(k:Kept w w'):OneR w' v s:=by
 obtain ⟨b,e,hb⟩:=h;exact ⟨b,e,Ay hb k⟩
theorem OneR.stab (h:OneR w v s)(hs:∀ (b:Nat) (cs:Array Value) (T:TypeId),w.heap[b]?=some (.cells cs T (0,0))->cs.size<12->w'.heap[b]?=some (.cells cs T (0,0))):OneR w' v s:=by
 obtain ⟨b,e,hb⟩:=h;exact ⟨b,e,hs _ _ _ hb (by simp)⟩
theorem OneR.rws {q:List RawI}(h:OneR w v s)(hq:IvS w s q):Rws w v [q]:=by
 obtain ⟨b,rfl,hb⟩:=h;refine ⟨_,_,rfl,Aq _,λ_=>⟨b,0,rfl,λi r hi=>?_⟩⟩;rcases i with _ | i
 ·obtain rfl:q=r:=by simpa using hi
  exact ⟨s,Ae hb 0 _ rfl,hq⟩
 ·simp at hi
theorem OwnI.headCell (h:OwnI w B v l xs)(hl:0<l.length):∃ g cap,v=.slice (some ⟨g,0,none⟩) l.length cap/\l.length<=cap/\B<=g/\∀ (j:Nat) (u:Value),xs[j]?=some u->w.cell? ⟨g,j,none⟩=some u:=by
 have hr:=h.row;rcases hr.2 with ⟨-,h0⟩ | ⟨g,cap,cur,rfl,hbg,hg,hnc,hcm,hcs,htake⟩
 ·omega
 ·refine ⟨g,cap,rfl,hnc,hbg,fun j u hj=>?_⟩;have ad:∀ j,(⟨g,0,none⟩:Addr).add j=⟨g,j,none⟩:=by intro j;unfold Addr.add;split<;>simp_all
  have:=hr.cells (g:=g) rfl j u hj;rwa [ad] at this
theorem AllC.ne (hA:AllC SlC w bo){x:Bool}(h:w.cell? ⟨b,i,none⟩=some (.bool x)):b≠bo:=by
 rintro rfl;obtain ⟨cur,e,h1,h2⟩:=hA;have hc:cur[i]?=some (.bool x):=by simpa [World.cell?,h1] using h
 obtain ⟨A,n,c,e2⟩:=h2 (.bool x) (by rw [<-Array.getElem?_toList] at hc;exact Dc hc);cases e2
theorem AllC.cellS (hA:AllC SlC w bo)(h:w.cell? ⟨bo,i,none⟩=some x):SlC x:=by
 obtain ⟨cur,e,h1,h2⟩:=hA;have hc:cur[i]?=some x:=by simpa [World.cell?,h1] using h
 exact h2 x (by rw [<-Array.getElem?_toList] at hc;exact Dc hc)
theorem AllC.kb (hA:AllC SlC w bo)(h:w.cell? ⟨bo,i,none⟩=some x)(u:Value):KB w [bo] (w.setCell ⟨bo,i,none⟩ u) :=
 (KB.refl w [bo]).setCell (by simp) h (hA.cellS h).nl u
theorem OneI.setk (h:OneI w v r)(hA:AllC SlC w bo)(hx:w.cell? ⟨bo,i,none⟩=some x)(u:Value):OneI (w.setCell ⟨bo,i,none⟩ u) v r:=by
 obtain ⟨b,x,y,z,x',y',z',e,h1,h2⟩:=h;have k:=hA.kb hx u;obtain ⟨A1,l1,d1,A2,l2,d2,e9,-,-⟩:=Ar h2;injection e9 with e9;injection e9 with e9
 simp only [List.cons.injEq,and_true] at e9;obtain ⟨rfl,rfl,rfl,rfl,rfl,rfl⟩:=e9;exact ⟨b,_,_,_,_,_,_,e,h1.kb k (by simpa using hA.ne (Ae h1 0 _ rfl)),h2.kb k⟩
theorem OwnI.setk (h:OwnI w B v l xs)(hl:l≠[])(hA:AllC SlC w bo)(hx:w.cell? ⟨bo,i,none⟩=some x)(u:Value):OwnI (w.setCell ⟨bo,i,none⟩ u) B v l xs:=by
 have k:=hA.kb hx u;have hne:∀ g,v.ownBlock=some g->g≠bo:=λg hg e=>h.notS hl hg (by rw [e];exact hA)
 obtain ⟨h1,h2,h3,h4,h5⟩:=h;refine ⟨⟨h1.1,?_⟩,h2,h3,?_,?_⟩
 ·rcases h1.2 with hn | ⟨g2,cap,cr,rfl,hb2,hg2,rest⟩
  ·exact .inl hn
  ·exact .inr ⟨g2,cap,cr,rfl,hb2,(Below.heap_setCell _ _ _ _ (hne g2 rfl)).trans hg2,rest⟩
 ·intro g2 hg2;obtain ⟨cr,e,q1,q2⟩:=h4 g2 hg2;exact ⟨cr,e,(Below.heap_setCell _ _ _ _ (hne g2 hg2)).trans q1,q2⟩
 ·intro i a hi;obtain ⟨p0,p1,p2,p3,p4,p5,s0,s1,s2,s3,s4,s5,hI⟩:=h5 i a hi;exact ⟨p0,p1,p2,p3,p4,p5,s0,s1,s2,s3,s4,s5,hI.kb k⟩
structure SolP (B bo i n:Nat) (cur:Array Value) (vs:List Value) (rows:List (List RawI)) (vr:Value) (c:List RawI):Prop where
 hi:i<n
 hvs:vs.length=n
 hrs:rows.length=n
 htk:cur.toList.take n=vs
 sl:∀ u∈cur.toList,SlC u
 hv:vs[i]?=some vr
 hc:rows[i]?=some c
 ne:∀ r∈rows,r≠[]
 ap:∀ (j:Nat) (s:Value),j≠i->vs[j]?=some s->∀ g,vr.ownBlock=some g->s.ownBlock≠some g
 ap2:∀ (j k:Nat) (s s':Value),j≠k->vs[j]?=some s->vs[k]?=some s'->∀ g,s.ownBlock=some g->s'.ownBlock≠some g
def ApV (i:Nat) (vs:List Value) (v:Value):Prop:=∀ (j:Nat) (s:Value),j≠i->vs[j]?=some s->∀ g,v.ownBlock=some g->s.ownBlock≠some g
theorem ApV.of {hs hw g':Nat}(P:SolP B bo i n cur vs rows vr c)(hb:∀ (j:Nat) (z:Value),vs[j]?=some z->∀ g,z.ownBlock=some g->g<hs)(hle:hs<=hw)(hob:v.ownBlock=some g')(hwh:vr.ownBlock=some g'\/hw<=g'):ApV i vs v:=by
 intro j s hj hs' g hg e;rw [hob] at hg;injection hg with hg
 subst hg;rcases hwh with h | h
 ·exact P.ap j s hj hs' _ h e
 ·have:=hb j s hs' _ e;omega
structure SolK (B bo i:Nat) (cur:Array Value) (vs:List Value) (rows:List (List RawI)) (vr:Value) (c:List RawI) (xs:List Value) (d:RawI) (l0 l1 l2:Bool) (w:World):Prop where
 own:l1=false->OwnI w B vr c xs
 oth:∀ (j:Nat) (s:Value) (r:List RawI),j≠i->vs[j]?=some s->rows[j]?=some r->∃ ys,OwnI w B s r ys
 box:l2=false->w.heap[bo]?=some (.cells cur 31 (0,0))
 did:l2=true->l0=true/\l1=true/\∃ v' xs',w.heap[bo]?=some (.cells (cur.setIfInBounds i v') 31 (0,0))/\OwnI w B v' (c++[d]) xs'/\ApV i vs v'/\SlC v'
section
variable {B bo i n:Nat} {cur:Array Value} {vs:List Value} {rows:List (List RawI)} {vr:Value} {c:List RawI} {xs:List Value} {d:RawI} {l0 l1 l2:Bool} {w w':World}
theorem SolK.kept (k:Kept w w')(h:SolK B bo i cur vs rows vr c xs d l0 l1 l2 w):SolK B bo i cur vs rows vr c xs d l0 l1 l2 w' :=
 ⟨fun e => (h.own e).kept k, fun j s r a b c => (h.oth j s r a b c).imp fun _ o => o.kept k, fun e => Ay       (h.box e) k, fun e => by
  obtain ⟨e0,e1,v',xs',hb,hv,ha⟩:=h.did e;exact ⟨e0,e1,v',xs',Ay hb k,hv.kept k,ha⟩⟩
theorem SolK.seen (k:Kept w w')(h:SolK B bo i cur vs rows vr c xs d l0 l1 l2 w):SolK B bo i cur vs rows vr c xs d true l1 l2 w':=by
 obtain ⟨h1,h2,h3,h4⟩:=h.kept k;exact ⟨h1,h2,h3,λe=>⟨rfl,(h4 e).2⟩⟩
theorem SolK.boxed (h:SolK B bo i cur vs rows vr c xs d l0 l1 l2 w)(hl:l0=false\/l1=false\/l2=false):w.heap[bo]?=some (.cells cur 31 (0,0)):=by
 cases l2
 ·exact h.box rfl
 ·obtain ⟨e0,e1,-⟩:=h.did rfl;rcases hl with hl | hl | hl
  ·rw [e0] at hl;cases hl
  ·rw [e1] at hl;cases hl
  ·cases hl
theorem SolP.cell (P:SolP B bo i n cur vs rows vr c):cur[i]?=some vr:=by
 have h:=P.hv;rw [<-P.htk,List.getElem?_take,Ak P.hi,Array.getElem?_toList] at h;exact h
theorem SolP.allC (P:SolP B bo i n cur vs rows vr c){w:World}(hb:w.heap[bo]?=some (.cells cur 31 (0,0))):AllC SlC w bo:=⟨_,_,hb,P.sl⟩
theorem SolP.cne (P:SolP B bo i n cur vs rows vr c):c≠[]:=P.ne c (Dc P.hc)
theorem SolK.app (P:SolP B bo i n cur vs rows vr c)(h:SolK B bo i cur vs rows vr c xs d l0 l1 l2 w)(hl:l1=false)(hg:w.grownBy w' vr.ownBlock)(hN:∀ g,vr.ownBlock=some g->Ws w g):SolK B bo i cur vs rows vr c xs d l0 true l2 w':=by
 refine ⟨λe=>(by cases e),λj s r a b c=>?_,λe=>?_,λe=>?_⟩
 ·obtain ⟨ys,o⟩:=h.oth j s r a b c;exact ⟨ys,o.apart hg hN (λg hgs e=>P.ap j s a b g e hgs)⟩
 ·have hb:=h.box e;rw [hg.block bo (Bi hb).1 (λe9=>(h.own hl).notS P.cne e9.symm (P.allC hb))];exact hb
 ·obtain ⟨-,e1,-⟩:=h.did e;rw [hl] at e1;cases e1
theorem SolK.laid {v':Value}{xs':List Value}(P:SolP B bo i n cur vs rows vr c)(h:SolK B bo i cur vs rows vr c xs d l0 l1 l2 w)(h0:l0=true)(h1:l1=true)(hl2:l2=false)(ho:OwnI w B v' (c++[d]) xs')(ha:ApV i vs v')(hs:SlC v') :
 SolK B bo i cur vs rows vr c xs d l0 l1 true (w.setCell ⟨bo,i,none⟩ v'):=by
 have hb:=h.box hl2;have hx:=Ae hb i _ P.cell;refine ⟨λe=>by (rw [h1] at e;cases e),λj s r a b c=>?_,λe=>by (cases e),λ_=>⟨h0,h1,v',xs',Bw hb v',ho.setk (by simp) (P.allC hb) hx _,ha,hs⟩⟩;obtain ⟨ys,o⟩:=h.oth j s r a b c;exact ⟨ys,o.setk (P.ne r (Dc c)) (P.allC hb) hx _⟩
end
theorem SolK.fin {co:Nat}{l0 l1 l2:Bool}(P:SolP B bo i n cur vs rows vr c)(h:SolK B bo i cur vs rows vr c xs d l0 l1 l2 w)(hl2:l2=true)(hbo:B<=bo)(hnc:n<=co)(hcm:co<=maxLen)(hcs:cur.size=co) :
 ∃ v',OutS w B (.slice (some ⟨bo,0,none⟩) n co) (rows.set i (c++[d])) (vs.set i v'):=by
 obtain ⟨-,-,v',xs',hb,ho,ha,hsl⟩:=h.did hl2;have hin:i<cur.size:=by have:=P.hi;omega
 have hall:∀ u∈(cur.setIfInBounds i v').toList,SlC u:=by
  intro u hu;rw [Array.toList_setIfInBounds] at hu;rcases List.mem_or_eq_of_mem_set hu with hu | rfl
  ·exact P.sl u hu
  ·exact hsl
 have hvi:i<vs.length:=by have:=P.hi;have:=P.hvs;omega
 have hri:i<rows.length:=by have:=P.hi;have:=P.hrs;omega
 have each:∀ (j:Nat) (r:List RawI) (s:Value),(rows.set i (c++[d]))[j]?=some r->(vs.set i v')[j]?=some s->r≠[]/\∃ ys,OwnI w B s r ys:=by
  intro j r s hr hs;by_cases e:i=j
  ·subst e;rw [List.getElem?_set_self hri] at hr;rw [List.getElem?_set_self hvi] at hs;injection hr with hr
   injection hs with hs
   subst hr;subst hs;exact ⟨by simp,xs',ho⟩
  ·rw [List.getElem?_set_ne e] at hr hs;exact ⟨P.ne r (Dc hr),h.oth j s r (λe2=>e e2.symm) hs hr⟩
 refine ⟨v',⟨⟨⟨?_,.inr ⟨bo,co,_,?_,hbo,hb,?_,hcm,?_,?_⟩⟩,?_,?_,?_⟩,each,?_⟩⟩
 ·simp [P.hvs,P.hrs]
 ·simp [P.hrs]
 ·simpa [P.hrs] using hnc
 ·simp [hcs]
 ·rw [Array.toList_setIfInBounds,List.length_set,P.hrs,Nat.mul_one,List.take_set,P.htk]
 ·intro u hu;rcases List.mem_or_eq_of_mem_set hu with hu | rfl
  ·refine P.sl u ?_;rw [<-P.htk] at hu;exact List.mem_of_mem_take hu
  ·exact hsl
 ·intro g hg;obtain rfl:bo=g:=by simpa [Value.ownBlock] using hg
  exact ⟨_,_,hb,hall⟩
 ·intro j r hr;have hj:j<(vs.set i v').length:=by
   have:=(Ed hr).1;simp [P.hvs,P.hrs] at this ⊢;omega
  obtain ⟨-,ys,o⟩:=each j r _ hr (Cd hj);exact ⟨_,Cd hj,o.ivS⟩
 ·intro j k s s' hjk hs hs' g hgs hgs';by_cases e:i=j
  ·subst e;rw [List.getElem?_set_self hvi] at hs;rw [List.getElem?_set_ne hjk] at hs';injection hs with hs
   subst hs;exact ha k s' (λe=>hjk e.symm) hs' g hgs hgs'
  ·rw [List.getElem?_set_ne e] at hs;by_cases e2:i=k
   ·subst e2;rw [List.getElem?_set_self hvi] at hs';injection hs' with hs'
    subst hs';exact ha j s (λe3=>e e3.symm) hs g hgs' hgs
   ·rw [List.getElem?_set_ne e2] at hs';exact P.ap2 j k s s' hjk hs hs' g hgs hgs'
theorem OutS.sol (h:OutS w B v rows vs)(hn:rows.length=n)(hi:i<n):∃ bo co cur vr c xs,v=.slice (some ⟨bo,0,none⟩) n co/\B<=bo/\n<=co/\co<=maxLen/\cur.size=co/\SolP B bo i n cur vs rows vr c/\OwnI w B vr c xs /\
 ∀ d,SolK B bo i cur vs rows vr c xs d false false false w:=by
 have hl:=h.own.vlen;rcases h.own.row.2 with ⟨-,h0⟩ | ⟨bo,co,cur,rfl,hbo,hb,hnc,hcm,hcs,htk⟩
 ·omega
 obtain ⟨c,hc⟩:∃ c,rows[i]?=some c:=⟨_,Cd (by omega)⟩;obtain ⟨vr,hv⟩:∃ vr,vs[i]?=some vr:=⟨_,Cd (by omega)⟩;obtain ⟨-,xs,ho⟩:=h.each i c vr hc hv;obtain ⟨cur',e',hb',hs'⟩:=h.own.blk bo rfl;rw [hb] at hb';injection hb' with hb'
 injection hb' with hb'
 subst hb';refine ⟨bo,co,cur,vr,c,xs,by rw [hn],hbo,by omega,hcm,by omega,⟨hi,by omega,hn,by rw [<-htk,hn,Nat.mul_one],hs',hv,hc,λr hr=>?_,λj s hj hs=>h.ap i j vr s (λe=>hj e.symm) hv hs,h.ap⟩,ho,λd=>⟨λ_=>ho,λj s r hj hs hr=>(h.each j r s hr hs).2,λ_=>hb,λe=>(by cases e)⟩⟩;obtain ⟨j,hj⟩:=List.getElem?_of_mem hr;have hjl:=(Ed hj).1;exact (h.each j r _ hj (Cd (by omega))).1
def da (p n:Nat) (rows cs:List (List RawI)):Nat->List (List RawI)
 | 0=>rows
 | i+1=>(da p n rows cs i).set i (rows.getD i []++[(Cm (gI (cs.getD i []) n) (Fm (n+1)) p).v.raw])
theorem Tp (p n:Nat)(rows cs:List (List RawI)):∀ i,(da p n rows cs i).length=rows.length
 | 0=>rfl
 | i+1=>by rw [da,List.length_set,Tp p n rows cs i]
theorem jh (p n:Nat)(rows cs:List (List RawI)):∀ (i j:Nat),i<=j->(da p n rows cs i)[j]?=rows[j]?
 | 0,_,_=>rfl
 | i+1,j,h=>by rw [da,List.getElem?_set_ne (by omega),jh p n rows cs i j (by omega)]
theorem al (p n:Nat)(o c:List RawI)(os cs:List (List RawI)):∀ i,da p n (o::os) (c::cs) (i+1)=(o++[(Cm (gI c n) (Fm (n+1)) p).v.raw])::da p n os cs i
 | 0=>rfl
 | i + 1 => by
   rw [da,al p n o c os cs i,List.set_cons_succ];rfl
theorem Qh {p n:Nat}:∀ (os cs:List (List RawI)),os.length=cs.length->(∀ j,j<os.length->(Cm (gI (cs.getD j []) n) (Fm (n+1)) p).k=0)->Ft p n os cs=⟨da p n os cs os.length,0⟩
 | [],[],_,_=>rfl
 | [],c::cs,h,_=>by simp at h
 | o::os,[],h,_=>by simp at h
 | o :: os, c :: cs, h, hk => by
   have h0:(Cm (gI c n) (Fm (n+1)) p).k=0:=hk 0 (by simp);have ih:=Qh os cs (by simpa using h) (λj hj=>hk (j+1) (by simpa using hj));rw [Ft,Ak h0,ih,Ak rfl,List.length_cons,al]
theorem Un {p n:Nat}:∀ (os cs:List (List RawI)) (i:Nat),os.length=cs.length->i<os.length->(∀ j,j<i->(Cm (gI (cs.getD j []) n) (Fm (n+1)) p).k=0)->(Cm (gI (cs.getD i []) n) (Fm (n+1)) p).k≠0->(Ft p n os cs).k=(Cm (gI (cs.getD i []) n) (Fm (n+1)) p).k
 | [],[],i,_,h,_,_=>by simp at h
 | [],c::cs,i,h,_,_,_=>by simp at h
 | o::os,[],i,h,_,_,_=>by simp at h
 | o :: os, c :: cs, 0, h, _, _, hk => by
   have hk':(Cm (gI c n) (Fm (n+1)) p).k≠0:=hk;rw [Ft,Af hk'];rfl
 | o :: os, c :: cs, i + 1, h, hi, hj, hk => by
   have h0:(Cm (gI c n) (Fm (n+1)) p).k=0:=hj 0 (by omega);have ih:=Un os cs i (by simpa using h) (by simpa using hi) (λj hj'=>hj (j+1) (by omega)) hk;have hk':(Cm (gI (cs.getD i []) n) (Fm (n+1)) p).k≠0:=hk;rw [Ft,Ak h0,Af (by rw [ih];exact hk')];exact ih
structure SvG (w:World) (bB bK bF bX bP bT:Nat) (s o vx vp t0 t1 t2 t3 t4 t5:Value) (k p:Int):Prop where
 b:w.heap[bB]?=some (.cells #[.int .i64 p] 3 (0,0))
 k:w.heap[bK]?=some (.cells #[.int .i64 k] 3 (0,0))
 f:w.heap[bF]?=some (.cells #[s,o] 25 (0,0))
 x:w.heap[bX]?=some (.cells #[vx] 31 (0,0))
 p:w.heap[bP]?=some (.cells #[vp] 31 (0,0))
 t:BlkI w bT t0 t1 t2 t3 t4 t5
theorem SvG.kept {bB bK bF bX bP bT:Nat}{o vp t0 t1 t2 t3 t4 t5:Value}{k p:Int}(h:SvG w bB bK bF bX bP bT s o vx vp t0 t1 t2 t3 t4 t5 k p)(q:Kept w w'):SvG w' bB bK bF bX bP bT s o vx vp t0 t1 t2 t3 t4 t5 k p :=
 ⟨Ay h.b q,Ay h.k q,Ay h.f q,Ay h.x q,Ay h.p q,h.t.kept q⟩
theorem cF (w:World)(p:Int):∃ W,W=w.alloc (.cells #[.int .i64 p] 81)/\Kept w W/\W.heap[w.heap.size]?=some (.cells #[.int .i64 p] 81 (0,0)) :=
 ⟨_,rfl,Ab _ _,heap_alloc_new _ _⟩
section
variable {w:World} {bB bK bF bX bP bT nx cx np cp:Nat} {AX AP:Option Addr} {s o t0 t1 t2 t3 t4 t5:Value} {ls:List Ln} {outs:List Int} {k p:Int}
theorem Vl {oA:Option Addr}{no oc:Nat}{mt:Bool}(hB:SvG w bB bK bF bX bP bT s (.slice oA no oc) (.slice AX nx cx) (.slice AP np cp) t0 t1 t2 t3 t4 t5 k p)
 (hv:TpR w (.agg #[s,.slice oA no oc]) ls outs) (hok:Ru ls) (hn:ls.length<=1000000000) (hno:outs.length<=1000000000) (hnx:nx<=1000000000) (hnp:np<=1000000000) (hw:Eg k p=true) (hm:Iy ls outs nx 0 np=mt) (hne:mt=true->((no:Int)==(nx:Int))=false) :
 Calls Tryz.prog 54 #[.pointer (some ⟨bB,0,none⟩),.pointer (some ⟨bK,0,none⟩),.pointer (some ⟨bF,0,none⟩),.pointer (some ⟨bX,0,none⟩),.pointer (some ⟨bP,0,none⟩),.pointer (some ⟨bT,0,none⟩)] w (Hn ⟨[],1⟩ w):=by
 have WI:=Ad (λw1=>show Calls Tryz.prog 46 #[.int .i64 k,.int .i64 p] w1 (RetQ (.bool true) w1) by have:=Rp w1 k p;rwa [hw] at this);have MT:=Ad (λw1 (q:Kept w w1)=>show Calls Tryz.prog 47 #[.agg #[s,.slice oA no oc],.int .i64 (nx:Int),.int .i64 0,.int .i64 np] w1 (RetK (.bool mt) w1) by have:=Yv (hv.kept q) hok hn hno (x:=nx) (u:=0) (p:=np) (by omega) (by omega) (by omega);rwa [hm] at this);obtain ⟨W,hW,kW,bW⟩:=cF w p;have HW:=Ad hW;have K:=Ad kW;have cB:=Ae hB.b 0 _ rfl;have HG:=Ad (hB.kept kW);have BAD:=Ad (λw1 (q:Kept w w1)=>show Hn ⟨[],1⟩ w (.panicked (By 106 1)) w1 from ⟨q,.inr ⟨by decide,rfl⟩⟩)
 have NE:=Ad hne;clear hW kW bW hB hv hok hn hno hw hm hne;go_enter Tryz.func54,Tryz.ntmps54;go_upto_region 2 with fail;rw [<-HW.o];clear HW cB
 refine Sv 39 ([(vE (.int .i64 k)),(vE (.int .i64 p)),(vE (.bool true)),(vE (.bool true)),(vE (.agg #[s,.slice oA no oc])),(vE (.slice AX nx cx)),(vE (.int .i64 (nx:Int))),(vE (.slice AP np cp)),(vE (.int .i64 (np:Int))),(vE (.bool mt)),(vE (.bool mt)),(vE (.bool mt)),(λv wv=>(mt=true->(λv _=>v=(.pointer (some ⟨bF,1,none⟩))) v wv)/\(mt=false->v=undef)),(λv wv=>(mt=true->(λv _=>v=(.slice oA no oc)) v wv)/\(mt=false->v=undef)),(λv wv=>(mt=true->(λv _=>v=(.int .i64 (no:Int))) v wv)/\(mt=false->v=undef)),(λv wv=>(mt=true->(λv _=>v=(.slice AX nx cx)) v wv)/\(mt=false->v=undef)),(λv wv=>(mt=true->(λv _=>v=(.int .i64 (nx:Int))) v wv)/\(mt=false->v=undef)),(λv wv=>(mt=true->(λv _=>v=(.bool false)) v wv)/\(mt=false->v=undef)),(vE (.bool false)),(vE (.bool false)),(vE undef),(vE undef),(vE undef),(vE undef),(vE undef),(vE undef),(vE undef),(vE undef),(vE undef),(vE (.bool false)),(vE (.bool false)),(vE undef),(vE undef),(vE undef),(vE undef),(vE undef),(vE undef),(vE (.bool false)),(λv _=>False)])
  ⟨
   (E3 1 λ_ k=>Ai HG.o.k k 0 _ rfl),(E3 0 λ_ k=>Ai HG.o.b k 0 _ rfl),(λaF wF F=>by have s20:=F.v 0 20;have s21:=F.v 1 21;exact sQ (WI.o _) λ_ _ h=>h),(gv 2 22),(λaF wF F=>by have s2:=F.q 2 (.pointer (some ⟨bF,0,none⟩));have c0:=Ai HG.o.f F.kept 0 _ rfl;have c1:=Ai HG.o.f F.kept 1 _ rfl;exact Dz rfl rfl (F.v 3 23) rfl),(λaF wF F=>by have s3:=F.q 3 (.pointer (some ⟨bX,0,none⟩));have c0:=Ai HG.o.x F.kept 0 _ rfl;exact Dz rfl rfl (F.v 3 23) rfl),(λaF wF F=>by have s25:=F.v 5 25;exact Dz rfl rfl (F.v 3 23) rfl),(λaF wF F=>by have s4:=F.q 4 (.pointer (some ⟨bP,0,none⟩));have c0:=Ai HG.o.p F.kept 0 _ rfl;exact Dz rfl rfl (F.v 3 23) rfl),(λaF wF F=>by have s27:=F.v 7 27;exact Dz rfl rfl (F.v 3 23) rfl),(λaF wF F=>by have s24:=F.v 4 24;have s26:=F.v 6 26;have s28:=F.v 8 28;have sg:=F.v 3 23;exact Ax ((Am rfl rfl sg).trans rfl) (by go_simp) (MT.o _ (K.o.trans F.kept)) (λ_ _ h=>RetK.good h) (λ_ _ h=>h)),(Hz 3 23 9 29),(gv 10 30),
   (λaF wF F=>by
  have sg:=F.v 11 31;have s2:=F.q 2 (.pointer (some ⟨bF,0,none⟩));rcases Cb mt with hC | hC
  ·refine J0 hC (vE (.pointer (some ⟨bF,1,none⟩))) ?_;exact Dz rfl rfl sg (by first | rfl | simp [hC])
  ·exact J2 rfl rfl sg (by first | rfl | simp [hC]) (nW hC)),
   (λaF wF F=>by
  have sg:=F.v 11 31;have s32:(mt=true->aF.tmps.getD 32 undef=(.pointer (some ⟨bF,1,none⟩)))/\(mt=false->aF.tmps.getD 32 undef=undef):=F.done 12 32 (by kernel_rfl) rfl;have c0:=Ai HG.o.f F.kept 1 _ rfl;rcases Cb mt with hC | hC
  ·refine J0 hC (vE (.slice oA no oc)) ?_;replace s32:=s32.1 hC;exact Dz rfl rfl sg (by first | rfl | simp [hC])
  ·exact J2 rfl rfl sg (by first | rfl | simp [hC]) (nW hC)),
   (λaF wF F=>by
  have sg:=F.v 11 31;have s33:(mt=true->aF.tmps.getD 33 undef=(.slice oA no oc))/\(mt=false->aF.tmps.getD 33 undef=undef):=F.done 13 33 (by kernel_rfl) rfl;rcases Cb mt with hC | hC
  ·refine J0 hC (vE (.int .i64 (no:Int))) ?_;replace s33:=s33.1 hC;exact Dz rfl rfl sg (by first | rfl | simp [hC])
  ·exact J2 rfl rfl sg (by first | rfl | simp [hC]) (nW hC)),
   (λaF wF F=>by
  have sg:=F.v 11 31;have s3:=F.q 3 (.pointer (some ⟨bX,0,none⟩));have c0:=Ai HG.o.x F.kept 0 _ rfl;rcases Cb mt with hC | hC
  ·refine J0 hC (vE (.slice AX nx cx)) ?_;exact Dz rfl rfl sg (by first | rfl | simp [hC])
  ·exact J2 rfl rfl sg (by first | rfl | simp [hC]) (nW hC)),
   (λaF wF F=>by
  have sg:=F.v 11 31;have s35:(mt=true->aF.tmps.getD 35 undef=(.slice AX nx cx))/\(mt=false->aF.tmps.getD 35 undef=undef):=F.done 15 35 (by kernel_rfl) rfl;rcases Cb mt with hC | hC
  ·refine J0 hC (vE (.int .i64 (nx:Int))) ?_;replace s35:=s35.1 hC;exact Dz rfl rfl sg (by first | rfl | simp [hC])
  ·exact J2 rfl rfl sg (by first | rfl | simp [hC]) (nW hC)),
   (λaF wF F=>by
  have sg:=F.v 11 31;have s34:(mt=true->aF.tmps.getD 34 undef=(.int .i64 (no:Int)))/\(mt=false->aF.tmps.getD 34 undef=undef):=F.done 14 34 (by kernel_rfl) rfl;have s36:(mt=true->aF.tmps.getD 36 undef=(.int .i64 (nx:Int)))/\(mt=false->aF.tmps.getD 36 undef=undef):=F.done 16 36 (by kernel_rfl) rfl;rcases Cb mt with hC | hC
  ·refine J0 hC (vE (.bool false)) ?_;replace s34:=s34.1 hC;replace s36:=s36.1 hC;exact Bc ((Am rfl rfl sg).trans (by first | rfl | simp [hC])) (by (have hh:=NE.o hC;go_simp)) rfl
  ·exact J2 rfl rfl sg (by first | rfl | simp [hC]) (nW hC)),
   (λaF wF F=>by
  have s31:=F.v 11 31;have s37:(mt=true->aF.tmps.getD 37 undef=(.bool false))/\(mt=false->aF.tmps.getD 37 undef=undef):=F.done 17 37 (by kernel_rfl) rfl;rcases Cb mt with hE | hE
  ·replace s37:=s37.1 hE;exact sw (by first | (go_simp;done) | (go_simp;simp_all;done) | (simp_all;done)) rfl
  ·exact sw (by first | (go_simp;done) | (go_simp;simp_all;done) | (simp_all;done)) rfl),(gv 18 38),(so 19 39),(so 19 39),(so 19 39),(so 19 39),(so 19 39),(so 19 39),(so 19 39),(so 19 39),(so 19 39),(Hz 19 39 28 48),(gv 29 49),(so 30 50),(so 30 50),(so 30 50),(so 30 50),(so 30 50),(so 30 50),(Hz 30 50 36 56),(fun aF wF F=>by have s57:=F.v 37 57;exact Gb (by simp [Region.wanted]) (by go_simp) (Rb false 1 _) (fun e w2 h=>h.elim (fun ⟨v,he,hk,hb,_⟩=>absurd hb (by decide)) (fun ⟨c,he,h0,hc,hw2⟩=>.inr ⟨c,he,F.defers,by subst hc;exact BAD.out w2 (hw2▸(K.out.trans F.kept))⟩))),
   trivial⟩ ?_
 intro u w1 k1 hu;have p32:=hp hu 12;have p33:=hp hu 13;have p34:=hp hu 14;have p35:=hp hu 15;have p36:=hp hu 16;have p37:=hp hu 17;have p58:=hp hu 38;simp only [Bb,Ap,Act.put,Ep,hv hu 0,hv hu 1,hv hu 2,hv hu 3,hv hu 4,hv hu 5,hv hu 6,hv hu 7,hv hu 8,hv hu 9,hv hu 10,hv hu 11,hv hu 18,hv hu 19,hv hu 20,hv hu 21,hv hu 22,hv hu 23,hv hu 24,hv hu 25,hv hu 26,hv hu 27,hv hu 28,hv hu 29,hv hu 30,hv hu 31,hv hu 32,hv hu 33,hv hu 34,hv hu 35,hv hu 36,hv hu 37];clear hu;generalize u 12=v32,u 13=v33,u 14=v34,u 15=v35,u 16=v36,u 17=v37,u 38=v58 at *;exact p58.elim
end
theorem jp (hv:IvS w v l)(hn:l.length<=1000000000)
 (h:∀ w1 y,Kept w w1->∀ x,x∈l->IvR w1 y x->Calls Tryz.prog 88 #[y] w1 (RetK (.bool (g x)) w1)) :
 Calls Tryz.prog 121 #[v,.func (.func 88) #[] #[]] w (cj l g w):=by
 obtain ⟨A,c,rfl,hc,hA⟩:=hv;have HG:=Ad h;have HA:=Ad hA;clear h hA;obtain ⟨n,hn'⟩:∃ n,n=l.length:=⟨_,rfl⟩;rw [<-hn'] at hn hc HA ⊢;have HN:=Ad hn';clear hn';go_enter Tryz.func121,Tryz.ntmps121;go_wp2_with fail
 go_loopw [8] (λt wr=>∃ k:Nat,k<=n/\t=.int .i64 k/\(∀ i x,i<k->l[i]?=some x->g x=false)/\Kept w wr) (λt _=>(n-intOf t).toNat)
 case atStart=>exact ⟨0,Nat.zero_le _,rfl,λi a hi=>absurd hi (Nat.not_lt_zero _),Below.refl _ _⟩
 case round =>
  obtain ⟨k,hk,rfl,hall,hKr⟩:=hrel;have KR:=Ad hKr;have AL:=Ad hall;clear hKr hall;by_cases hlt:k<n
  ·obtain ⟨b,off,rfl,hd⟩:=HA.out (by omega);obtain ⟨x,hx⟩:∃ x,l[k]?=some x:=⟨_,Cd (by have:=HN.out;omega)⟩;obtain ⟨y0,y1,y2,y3,y4,y5,g0,g1,g2,g3,g4,g5,hI⟩:=(hd k x hx).kept KR.out;have HX:=Ad hx;have hm:=HG.out wr _ KR.out x (Dc hx) hI;obtain ⟨gx,hgx⟩:∃ y,y=g x:=⟨_,rfl⟩;rw [←hgx] at hm;have HM:=Ad hm;have HGX:=Ad hgx;clear hd hx hm hgx hI;go_wp2_with fail;refine HM.out.mono ?_;rintro e w2 ⟨rfl,q⟩;have K2:=Ad (KR.out.trans q);clear q g0 g1 g2 g3 g4 g5;simp only [];cases gx
   ·go_wp2_with fail;go_roundw
    case rel =>
     refine ⟨k+1,by omega,by go_num,λi a hi ha'=>?_,K2.o⟩;by_cases h2:i=k
     ·subst h2;rw [HX.o] at ha';cases ha';exact HGX.o.symm
     ·exact AL.o i a (by omega) ha'
    case measure=>simp only [intOf];omega
   ·go_wp2_with fail;go_ret;exact ⟨k,rfl,by rw [Tz HX.o HGX.o.symm];simp,K2.o⟩
  ·obtain rfl:k=n:=by omega
   go_wp2_with fail;go_ret;exact ⟨-1,rfl,by rw [Rw (λi x hi hx=>AL.o i x (by have:=HN.o;omega) hx)];decide,KR.o⟩
theorem Z0 (hv:IvS w v l)(hn:l.length<=1000000000)
 (h:∀ w1 y,Kept w w1->∀ x,x∈l->IvR w1 y x->Calls Tryz.prog 88 #[y] w1 (RetK (.bool (g x)) w1)) :
 Calls Tryz.prog 87 #[v,.func (.func 88) #[] #[]] w (RetK (.bool (l.any g)) w):=by
 have C:=Ad (jp hv hn h);obtain ⟨A,c,rfl,-,-⟩:=hv;clear hn h;go_enter Tryz.func87,Tryz.ntmps87;go_wp2_with fail;refine C.o.mono ?_;rintro e w2 ⟨r,rfl,hr,q⟩;have Q:=Ad q;have HR:=Ad hr;clear q hr C;simp only [];go_wp2_with fail;go_ret;exact ⟨by rw [<-HR.o];rfl,Q.o⟩
theorem m7 (hv:IvR w v a)(hl:a.lens 17592186044416):Calls Tryz.prog 88 #[v] w (RetK (.bool (!Dl a)) w):=by
 obtain ⟨x0,x1,x2,x3,x4,x5,rfl,-,-⟩:=(show IvR _ _ _ from hv);obtain ⟨W,hW,kW,hb,-⟩:=py w x0 x1 x2 x3 x4 x5;have M:=Ad (Up (hv.kept kW) hl);obtain ⟨f,hf⟩:∃ f,Dl a=f:=⟨_,rfl⟩;rw [hf] at M ⊢;obtain ⟨-,c0,c1,c2,c3,c4,c5⟩:=hb.facts;have HW:=Ad hW;clear hf hv hl hb hW;go_enter Tryz.func88,Tryz.ntmps88;go_upto_region 1 with fail;rw [<-HW.o];go_wp2_with fail;refine M.o.mono ?_;rintro e w2 ⟨rfl,q⟩;simp only [];go_wp2_with fail;go_ret;exact ⟨rfl,kW.trans q⟩
def kA (k:Int) (c:List RawI):Bool:=decide ((c.length:Int)=k+1)&&c.all Dl
theorem lO (l:List RawI):(l.any λa=>!Dl a)=!l.all Dl:=by
 induction l with
 | nil=>rfl
 | cons a l ih=>simp only [List.any_cons,List.all_cons,ih,Bool.not_and]
theorem cZ {k:Int}(hv:Rws w v rows)(hn:rows.length<=1000000000)(hl:∀ r∈rows,r.length<=1000000000/\∀ a∈r,a.lens 17592186044416)(k1:-1<=k)(k2:k<=2000000000) :
 Calls Tryz.prog 48 #[v,.int .i64 k] w (RetK (.bool (Li rows k)) w):=by
 obtain ⟨A,c,rfl,hc,hA⟩:=hv;have HA:=Ad hA;have HL:=Ad hl;clear hA hl;obtain ⟨n,hn'⟩:∃ n,n=rows.length:=⟨_,rfl⟩;rw [<-hn'] at hn hc HA ⊢;have HN:=Ad hn';clear hn';have hwk:IntKind.i64.wrap (k+1)=k+1:=by simp [IntKind.wrap_i64];omega
 go_enter Tryz.func48,Tryz.ntmps48;go_wp2_with fail
 go_loopw [9] (λt wr=>∃ j:Nat,j<=n/\t=.int .i64 j/\(∀ i r,i<j->rows[i]?=some r->kA k r=true)/\Kept w wr) (λt _=>(n-intOf t).toNat)
 case atStart=>exact ⟨0,Nat.zero_le _,rfl,λi a hi=>absurd hi (Nat.not_lt_zero _),Below.refl _ _⟩
 case round =>
  obtain ⟨j,hj,rfl,hall,hKr⟩:=hrel;have KR:=Ad hKr;have AL:=Ad hall;clear hKr hall;by_cases hlt:j<n
  ·obtain ⟨b,off,rfl,hD⟩:=HA.out (by omega);obtain ⟨r,hr⟩:∃ r,rows[j]?=some r:=⟨_,Cd (by have:=HN.out;omega)⟩;obtain ⟨s,hs,hS⟩:=hD j r hr;have hs2:=(KR.out.cell (p:=⟨b,off+j,none⟩) (Av hs)).trans hs;have hS2:=hS.kept KR.out;have hlr:=HL.out r (Dc hr);have HC:=Ad (Z0 (g:=fun a=>!Dl a) hS2 hlr.1 (fun w1 y kq x hx hy=>m7 hy (hlr.2 x hx)));rw [lO] at HC;have HRJ:=Ad hr;obtain ⟨A2,c2,rfl,-,-⟩:=hS2;clear hs hS hD hr hlr;by_cases hk:(r.length:Int)=k+1
   ·obtain ⟨mb,hmb⟩:∃ mb,mb=r.all Dl:=⟨_,rfl⟩;rw [←hmb] at HC;have hrow:kA k r=mb:=by unfold kA;rw [hk];simp [hmb]
    have HROW:=Ad hrow;clear hmb hrow;go_wp2_with fail;refine HC.o.mono ?_;rintro e w2 ⟨rfl,q⟩;have K2:=Ad (KR.o.trans q);clear q hs2;simp only [];cases mb
    ·go_wp2_with fail;go_ret;exact ⟨by
      have:Li rows k=false:=by
       unfold Li;rw [List.all_eq_false];refine ⟨r,Dc HRJ.o,?_⟩;have:=HROW.o;unfold kA at this;rw [this];simp
      rw [this];rfl,K2.o⟩
    ·go_wp2_with fail;go_roundw
     case rel =>
      refine ⟨j+1,by omega,by go_num,λi x hi hx=>?_,K2.o⟩;by_cases hij:i=j
      ·subst hij;rw [HRJ.out] at hx;injection hx with hx
       rw [<-hx,HROW.o]
      ·exact AL.o i x (by omega) hx
     case measure=>simp [intOf];omega
   ·have hkb:((r.length:Int) != k+1)=true:=by simpa using hk
    have HKK:=Ad hk;go_wp2_with fail;go_ret;exact ⟨by
     have:Li rows k=false:=by
      unfold Li;rw [List.all_eq_false];refine ⟨r,Dc HRJ.o,?_⟩;simp [HKK.o]
     rw [this];rfl,KR.o⟩
  ·obtain rfl:j=n:=by omega
   go_wp2_with fail;go_ret;exact ⟨by
    have:Li rows k=true:=by
     unfold Li;rw [List.all_eq_true];intro r hr;obtain ⟨i,hi,rfl⟩:=List.getElem_of_mem hr;have:=AL.o i _ (by have:=HN.o;omega) (Cd hi);unfold kA at this;exact this
    rw [this];rfl,KR.o⟩
def Two2 (w:World) (v:Value) (xs:List Value):Prop:=∃ b g cap,v=.slice (some ⟨b,0,none⟩) 1 1/\w.heap[b]?=some (.cells #[.slice (some ⟨g,0,none⟩) 2 cap] 31 (0,0))/\2<=cap/\∀ (j:Nat) (u:Value),xs[j]?=some u->w.cell? ⟨g,j,none⟩=some u
def NilB (w:World) (v:Value):Prop:=∃ b,v=.slice (some ⟨b,0,none⟩) 1 1/\w.heap[b]?=some (.cells #[.slice none 0 0] 31 (0,0))
def BoxI (w:World) (v:Value) (t0 t1 t2 t3 t4 t5:Value):Prop:=∃ b,v=.slice (some ⟨b,0,none⟩) 1 1/\BlkI w b t0 t1 t2 t3 t4 t5
section
variable {w w':World} {v t0 t1 t2 t3 t4 t5:Value} {xs:List Value}
end
def Six (w:World) (b o:Nat) (x0 x1 x2 x3 x4 x5:Value):Prop:=w.cell? ⟨b,o,none⟩=some x0/\w.cell? ⟨b,o+1,none⟩=some x1/\w.cell? ⟨b,o+2,none⟩=some x2/\w.cell? ⟨b,o+3,none⟩=some x3/\w.cell? ⟨b,o+4,none⟩=some x4/\w.cell? ⟨b,o+5,none⟩=some x5
theorem ko {y z x' y' z':Value}(h:IvR w (.agg #[x,y,z,x',y',z']) r):OwnI (w.alloc (.cells #[x,y,z,x',y',z'] 30)) w.heap.size (.slice (some ⟨w.heap.size,0,none⟩) 1 1) [r] [x,y,z,x',y',z']:=by
 have hcl:=h.cells;refine ⟨⟨rfl,.inr ⟨w.heap.size,1,_,rfl,Aq _,heap_alloc_new _ _,Aq _,by unfold maxLen;omega,rfl,rfl⟩⟩,λu hu=>(hcl u hu).1,λu hu=>(hcl u hu).2,?_,?_⟩
 ·intro g hg;obtain rfl:w.heap.size=g:=Option.some.inj hg;exact ⟨_,_,heap_alloc_new _ _,λu hu=>(hcl u (by simpa using hu)).1⟩
 ·intro i d hi;rcases i with _ | i
  ·obtain rfl:r=d:=by simpa using hi
   exact ⟨_,_,_,_,_,_,rfl,rfl,rfl,rfl,rfl,rfl,h.kept (Ab _ _)⟩
  ·simp at hi
theorem rm (w:World)(x y z x' y' z':Value):∃ W,W=w.alloc (.cells #[x,y,z,x',y',z'] 30)/\Kept w W/\BlkI W w.heap.size x y z x' y' z' :=
 ⟨_,rfl,Ab _ _,Ea _ _ _ _ _ _ _⟩
def SolJ (B bo:Nat) (vr:Value) (c:List RawI) (xs:List Value) (cur:Array Value) (d:RawI) (l0 l1 l2:Bool) (w:World):Prop :=
 (l1=false->OwnI w B vr c xs)/\(l2=false->w.heap[bo]?=some (.cells cur 31 (0,0))) /\
 (l2=true->l0=true/\l1=true/\∃ v' xs',w.heap[bo]?=some (.cells (cur.setIfInBounds 0 v') 31 (0,0))/\OwnI w B v' (c++[d]) xs')
def RowJ (br o:Nat) (a:RawI) (l10 l14 l16:Bool) (w:World):Prop:=(l10=false->IvAt w br o a)/\(l14=true->l10=true)/\(l16=true->l10=true)
section
variable {w:World} {bo B:Nat} {cur:Array Value} {T:TypeId} {A:Option Addr} {n m:Nat} {v:Value} {l:List RawI} {xs:List Value} {r:RawI}
end
structure SvB (W:World) (H:Nat) (s o y0 y1 y2 y3 y4 y5 vx vp:Value) (k b:Int):Prop where
 f:W.heap[H]?=some (.cells #[s,o] 25 (0,0))
 t:BlkI W (H+1) y0 y1 y2 y3 y4 y5
 x:W.heap[H+1+1]?=some (.cells #[vx] 31 (0,0))
 p:W.heap[H+1+1+1]?=some (.cells #[vp] 31 (0,0))
 k:W.heap[H+1+1+1+1]?=some (.cells #[.int .i64 k] 3 (0,0))
 b:W.heap[H+1+1+1+1+1]?=some (.cells #[.int .i64 b] 3 (0,0))
theorem SvB.kept {o y0 y1 y2 y3 y4 y5 vp:Value}{k b:Int}(h:SvB W H s o y0 y1 y2 y3 y4 y5 vx vp k b)(q:Kept W W'):SvB W' H s o y0 y1 y2 y3 y4 y5 vx vp k b :=
 ⟨Ay h.f q,h.t.kept q,Ay h.x q,Ay h.p q,Ay h.k q,Ay h.b q⟩
theorem o8 (w:World)(o0 o1 o2 o3 o4 o5:Array Value)(T0 T1 T2 T3 T4 T5:TypeId):∃ W,W=(((((w.alloc (.cells o0 T0)).alloc (.cells o1 T1)).alloc (.cells o2 T2)).alloc (.cells o3 T3)).alloc (.cells o4 T4)).alloc (.cells o5 T5)/\Kept w W /\
 W.heap[w.heap.size]?=some (.cells o0 T0 (0,0))/\W.heap[w.heap.size+1]?=some (.cells o1 T1 (0,0))/\W.heap[w.heap.size+1+1]?=some (.cells o2 T2 (0,0))/\W.heap[w.heap.size+1+1+1]?=some (.cells o3 T3 (0,0)) /\
 W.heap[w.heap.size+1+1+1+1]?=some (.cells o4 T4 (0,0))/\W.heap[w.heap.size+1+1+1+1+1]?=some (.cells o5 T5 (0,0)):=by
 have st:∀ (v:World) (n:Nat) (c:Array Value) (T:TypeId),v.heap.size=n->(v.alloc (.cells c T)).heap[n]?=some (.cells c T (0,0))/\(v.alloc (.cells c T)).heap.size=n+1/\Kept v (v.alloc (.cells c T)):=by
  intro v n c T h;subst h;exact ⟨heap_alloc_new _ _,by simp,Ab _ _⟩
 obtain ⟨p1,q1,k1⟩:=st w _ o0 T0 rfl;obtain ⟨p2,q2,k2⟩:=st _ _ o1 T1 q1;obtain ⟨p3,q3,k3⟩:=st _ _ o2 T2 q2;obtain ⟨p4,q4,k4⟩:=st _ _ o3 T3 q3;obtain ⟨p5,q5,k5⟩:=st _ _ o4 T4 q4;obtain ⟨p6,q6,k6⟩:=st _ _ o5 T5 q5;exact ⟨_,rfl,((((k1.trans k2).trans k3).trans k4).trans k5).trans k6,Ay p1 ((((k2.trans k3).trans k4).trans k5).trans k6),Ay p2 (((k3.trans k4).trans k5).trans k6),Ay p3 ((k4.trans k5).trans k6),Ay p4 (k5.trans k6),Ay p5 k6,p6⟩
theorem dR {B A1 A2 AP:Option Addr}{l c m d l1 d1 l2 d2 nx cx np cp:Nat}{n1 n2:Bool}{e1 e2 k b:Int}(hz:O.k≠0->O.v=[])
 (h:∀ w1,Kept w w1->SvB w1 w.heap.size (.slice A l c) (.slice B m d) (.bool n1) (.slice A1 l1 d1) (.int .i64 e1) (.bool n2) (.slice A2 l2 d2) (.int .i64 e2) (.slice AX nx cx) (.slice AP np cp) k b ->
   Calls Tryz.prog 54 #[.pointer (some ⟨w.heap.size+1+1+1+1+1,0,none⟩),.pointer (some ⟨w.heap.size+1+1+1+1,0,none⟩),.pointer (some ⟨w.heap.size,0,none⟩),.pointer (some ⟨w.heap.size+1+1,0,none⟩),.pointer (some ⟨w.heap.size+1+1+1,0,none⟩),.pointer (some ⟨w.heap.size+1,0,none⟩)] w1 (Hn O w1)) :
 Calls Tryz.prog 27 #[.agg #[.slice A l c,.slice B m d],.agg #[.bool n1,.slice A1 l1 d1,.int .i64 e1,.bool n2,.slice A2 l2 d2,.int .i64 e2],.slice AX nx cx,.slice AP np cp,.int .i64 k,.int .i64 b] w (Pv O w):=by
 have hmf:=Hf;obtain ⟨W,hW,kW,b0,b1,b2,b3,b4,b5⟩:=o8 w #[.slice A l c,.slice B m d] #[.bool n1,.slice A1 l1 d1,.int .i64 e1,.bool n2,.slice A2 l2 d2,.int .i64 e2] #[.slice AX nx cx] #[.slice AP np cp] #[.int .i64 k] #[.int .i64 b] 25 30 31 31 3 3;have hf:=ff (w:=W) (K:=54) (o:=O) (λw1 q=>h w1 (kW.trans q) (SvB.kept ⟨b0,b1,b2,b3,b4,b5⟩ q)) hz (λ_=>rfl);have HF:=Ad hf;have HW:=Ad hW;have HK:=Ad kW;clear hf hW kW b0 b1 b2 b3 b4 b5 h hz;go_enter Tryz.func27,Tryz.ntmps27
 go_wp2_with (go_at_call 43;rw [<-HW.o];refine HF.o.mono ?_;rintro e w1 ⟨q,u,rfl,hd⟩;have HD:=Ad hd;have HQ:=Ad q;clear q hd HF HW;simp only [])
 go_ret2
 exact ⟨HK.o.trans HQ.o,_,rfl,HD.o⟩
structure SeB (W:World) (H:Nat) (s o vt vx vq:Value) (k b:Int):Prop where
 f:W.heap[H]?=some (.cells #[s,o] 25 (0,0))
 t:W.heap[H+1]?=some (.cells #[vt] 31 (0,0))
 x:W.heap[H+1+1]?=some (.cells #[vx] 38 (0,0))
 p:W.heap[H+1+1+1]?=some (.cells #[vq] 38 (0,0))
 k:W.heap[H+1+1+1+1]?=some (.cells #[.int .i64 k] 3 (0,0))
 b:W.heap[H+1+1+1+1+1]?=some (.cells #[.int .i64 b] 3 (0,0))
theorem SeB.kept {o:Value}{k b:Int}(h:SeB W H s o vt vx vq k b)(q:Kept W W'):SeB W' H s o vt vx vq k b :=
 ⟨Ay h.f q,Ay h.t q,Ay h.x q,Ay h.p q,Ay h.k q,Ay h.b q⟩
theorem bv {B AT AQ:Option Addr}{l c m d nt ct nx cx nq cq:Nat}{k b:Int}(hz:O.k≠0->O.v=[])
 (h:∀ w1,Kept w w1->SeB w1 w.heap.size (.slice A l c) (.slice B m d) (.slice AT nt ct) (.slice AX nx cx) (.slice AQ nq cq) k b ->
   Calls Tryz.prog 44 #[.pointer (some ⟨w.heap.size+1+1+1+1,0,none⟩),.pointer (some ⟨w.heap.size+1+1+1+1+1,0,none⟩),.pointer (some ⟨w.heap.size,0,none⟩),.pointer (some ⟨w.heap.size+1+1,0,none⟩),.pointer (some ⟨w.heap.size+1+1+1,0,none⟩),.pointer (some ⟨w.heap.size+1,0,none⟩)] w1 (Hn O w1)) :
 Calls Tryz.prog 22 #[.agg #[.slice A l c,.slice B m d],.slice AT nt ct,.slice AX nx cx,.slice AQ nq cq,.int .i64 k,.int .i64 b] w (Pv O w):=by
 have hmf:=Hf;obtain ⟨W,hW,kW,b0,b1,b2,b3,b4,b5⟩:=o8 w #[.slice A l c,.slice B m d] #[.slice AT nt ct] #[.slice AX nx cx] #[.slice AQ nq cq] #[.int .i64 k] #[.int .i64 b] 25 31 38 38 3 3;have hf:=ff (w:=W) (K:=44) (o:=O) (λw1 q=>h w1 (kW.trans q) (SeB.kept ⟨b0,b1,b2,b3,b4,b5⟩ q)) hz (λ_=>rfl);have HF:=Ad hf;have HW:=Ad hW;have HK:=Ad kW;clear hf hW kW b0 b1 b2 b3 b4 b5 h hz;go_enter Tryz.func22,Tryz.ntmps22
 go_wp2_with (go_at_call 43;rw [<-HW.o];refine HF.o.mono ?_;rintro e w1 ⟨q,u,rfl,hd⟩;have HD:=Ad hd;have HQ:=Ad q;clear q hd HF HW;simp only [])
 go_ret2
 exact ⟨HK.o.trans HQ.o,_,rfl,HD.o⟩
def Cf (f:Nat->Rat) (A B:Nat->Int) (l:List RawI):Prop:=∀ i,i<l.length->((gI l i).Ok/\l[i]?=some (gI l i).raw)/\RgI (gI l i) (A i) (B i)/\In (f i) (gI l i)
theorem Cf.gd {A B:Nat->Int}(h:Cf f A B l):Gd l:=by
 intro a ha;obtain ⟨i,hi,rfl⟩:=List.getElem_of_mem ha;obtain ⟨⟨h1,h2⟩,-⟩:=h i hi;rw [Cd hi] at h2;injection h2 with h2
 rw [h2,Iv.raw_iv];exact ⟨h1,rfl⟩
theorem Cf.nil (f:Nat->Rat)(A B:Nat->Int):Cf f A B []:=λi h=>absurd h (by simp)
theorem dc {v:Iv}(e:i<l.length):gI (l++[v.raw]) i=gI l i:=by
 unfold gI;rw [Da,Da,Gf e]
theorem db (l:List RawI)(v:Iv):gI (l++[v.raw]) l.length=v:=by
 unfold gI;rw [Da,Gk (Aq _),Nat.sub_self];exact Iv.raw_iv v
theorem Cf.snoc {A B:Nat->Int}(h:Cf f A B l){v:Iv}(ok:v.Ok)(r:RgI v (A l.length) (B l.length))(m:In (f l.length) v):Cf f A B (l++[v.raw]):=by
 intro i hi;by_cases e:i<l.length
 ·rw [dc e,Gf e];exact h i e
 ·have e2:i=l.length:=by simp at hi;omega
  subst e2;rw [db];refine ⟨⟨ok,?_⟩,r,m⟩;rw [Gk (Aq _),Nat.sub_self];rfl
theorem Zy {f:Nat->Rat}{A B:Nat->Int}{p:Nat}{g:List RawI}(p1:1<=p)(p2:p<=300)(h:Cf f A B g)(hA:∀ i,i<g.length->A i<=100000/\B i<=99990):∀ (m:Nat) (c:List RawI),c.length+m<=g.length->Cf f A (λi=>B i+1) c ->
 (Dp p g c (List.range' c.length m)).k=0/\Cf f A (λi=>B i+1) (Dp p g c (List.range' c.length m)).v/\(Dp p g c (List.range' c.length m)).v.length=c.length+m
 | 0,c,_,hc=>⟨rfl,hc,rfl⟩
 | m + 1, c, hl, hc => by
   have hj:c.length<g.length:=by omega
   obtain ⟨⟨ok,-⟩,rg,i0⟩:=h c.length hj;have gr:=Xk (p:=p) rg (by omega) (hA _ hj).1 (hA _ hj).2;have ho:=D8 ok p1;rw [Ko _ _ _ _ _ (Nat.succ_pos m),Ak gr.1];have s:=hc.snoc ho.1 gr.2 (Xj p1 gr.1 i0);have ih:=Zy p1 p2 h hA m _ (by simp;omega) s;simp only [List.length_append,List.length_cons,List.length_nil,Nat.zero_add] at ih ⊢;rw [show m.succ-1=m from rfl];exact ⟨ih.1,ih.2.1,by rw [ih.2.2];omega⟩
theorem Rf (n:Nat):Fm n=pt (Rs n 0):=by
 unfold Fm Rs;rw [decide_eq_false (by omega),Int.natAbs_natCast]
theorem d9 (n:Nat):(Fm n).Ok:=by rw [Rf];exact P5 (Yi _ _)
theorem zN (h:n<2^30):se (n:Int) 0:=⟨Dn h (Ee (by decide) (by decide)),by decide,by decide⟩
theorem kr (h:n<2^30):In ((n:Int):Rat) (Fm n):=by
 rw [Rf];have:=oE (Rs n 0);rw [oC (zN h),F3,Rat.mul_one] at this;exact this
theorem qr {k:Nat}(h:n<2^k)(hk:k<=30):RgI (Fm n) 0 k:=by
 rw [Rf];have h2:=Gl n k h;have h3:n<2^30:=Dn h (Ee (by decide) hk);have:n<1073741824:=h3;exact RgI.pt (Yl (λ_=>by omega) (λ_=>by rw [Int.natAbs_natCast];omega) (by rw [Int.natAbs_natCast];omega) (by decide) (by omega)).2
theorem qp (h0:n≠0)(h:n<2^30):¬D4 (Fm n)=true:=by
 rw [Hs];have q:=kr h;rintro ⟨a,b⟩;have e:(Fm n).lo=(Fm n).hi:=by rw [Rf];rfl
 rw [e] at a;have e2:(Fm n).hi.q=((n:Int):Rat):=by
  rw [Rf]
  show (Rs n 0).q=_
  rw [oC (zN h),F3,Rat.mul_one]
 rw [e2] at a b;have:((n:Int):Rat)=((0:Int):Rat):=Rat.le_antisymm a b;rw [Rat.intCast_inj] at this;omega
theorem iV {a:Iv}{x:Rat}{A B:Int}(p1:1<=p)(p2:p<=300)(hn:n+1<16)(r:RgI a A B)(i:In x a)(hA:A<=90000)(hB:B<=90000) :
 (Cm a (Fm (n+1)) p).v.Ok/\GoodI (Cm a (Fm (n+1)) p) (A+p+5) (B+2)/\In (x/(((n+1:Nat):Int):Rat)) (Cm a (Fm (n+1)) p).v:=by
 have hb:n+1<2^30:=by omega
 have g:=mg (p:=p) r (qr (n:=n+1) (k:=4) (by omega) (by decide)) (d9 _) (qp (by omega) hb) (by omega) (by omega) (by omega);exact ⟨(Kd (d9 _) p1).1,g.mono (by omega) (by omega),pG (d9 _) p1 g.1 i (kr hb)⟩
theorem Xu {ov:Iv->Nat->Outc Iv}{p:Nat}{ls:List Ln}{outs:List Int}{time:List RawI}{f:Nat->Rat}{A B:Nat->Int}{K:Nat}
 (hs:∀ n c,n<K->Cf f A B c->c.length=n+1->∃ r,Cy ov p ls outs (time.take (n+1)) [c] [] n=⟨[r],0⟩/\(Cm (gI r n) (Fm (n+1)) p).v.Ok/\GoodI (Cm (gI r n) (Fm (n+1)) p) (A (n+1)) (B (n+1))/\In (f (n+1)) (Cm (gI r n) (Fm (n+1)) p).v) :
 ∀ (m n:Nat) (c:List RawI),n+m=K->Cf f A B c->c.length=n+1->∃ c',Cu ov p ls outs time [] [c] (List.range' n m)=⟨[c'],0⟩/\Cf f A B c'/\c'.length=K+1
 | 0,n,c,e,hc,hl=>⟨c,rfl,hc,by omega⟩
 | m + 1, n, c, e, hc, hl => by
   obtain ⟨r,h1,h2,h3,h4⟩:=hs n c (by omega) hc hl;have hg:Ft p n [c] [r]=⟨[c++[(Cm (gI r n) (Fm (n+1)) p).v.raw]],0⟩:=by
    simp only [Ft,h3.1,if_true]
   obtain ⟨c',q1,q2⟩:=Xu hs m (n+1) (c++[(Cm (gI r n) (Fm (n+1)) p).v.raw]) (by omega) (hc.snoc h2 (by rw [hl];exact h3.2) (by rw [hl];exact h4)) (by simp [hl]);refine ⟨c',?_,q2⟩;rw [List.range'_succ,Cu,List.map_nil,h1];simp only [hg,ne_eq,not_true_eq_false,if_false];exact q1
theorem pC {A B:Nat->Int}{v:Iv}(ok:v.Ok)(r:RgI v (A 0) (B 0))(m:In (f 0) v):Cf f A B [v.raw]:=(Cf.nil f A B).snoc ok r m
structure E8 (m:Int) (p:Nat):Prop where
 m8:m.natAbs<=15
 p1:8<=p
 p2:p<=80
theorem rx (h:E8 m p):RgI (pt (Rs m (-3))) 3 1:=by
 have:=h.m8;have hb:=Gl m.natAbs 4 (by omega);exact RgI.pt (Yl (λ_=>by omega) (λ_=>by omega) (by omega) (by decide) (by decide)).2
theorem ai (h:E8 m p):(Bk (pt (Rs m (-3))) p).v.Ok/\GoodI (Bk (pt (Rs m (-3))) p) 3 2/\In (Rs m (-3)).q (Bk (pt (Rs m (-3))) p).v:=by
 have h1:=h.p1;have h2:=h.p2;have g:=Xk (p:=p) (rx h) (by omega) (by decide) (by decide);exact ⟨(D8 (P5 (Yi _ _)) (by omega)).1,g,Xj (by omega) g.1 (oE _)⟩
def eF (x:Rat):Nat->Rat
 | 0=>x
 | n+1=>eF x n/(((n+1:Nat):Int):Rat)
def tE:List Ln:=[⟨3,0,0,rzI⟩]
theorem nO (ov:Iv->Nat->Outc Iv)(p:Nat)(t c r:List RawI)(n:Nat)(h:Dp p c [] (List.range' 0 (n+1))=⟨r,0⟩):Cy ov p tE [0] t [c] [] n=⟨[r],0⟩:=by
 have e:Fe ov p ⟨3,0,0,rzI⟩ [] t [c] [] n=⟨r,0⟩:=by
  rw [dj _ _ _ _ _ _ _ _ rfl,<-h];rfl
 simp only [Cy,Fj,tE,e,if_true,List.nil_append,List.map_cons,List.map_nil];rfl
theorem rV (h:E8 m p)(hK:K<=8)(time:List RawI) :
 ∃ c',Cu ov p tE [0] time [] [[(Bk (pt (Rs m (-3))) p).v.raw]] (List.range' 0 K)=⟨[c'],0⟩/\Cf (eF (Rs m (-3)).q) (λn=>3+85*n) (λn=>2+3*n) c'/\c'.length=K+1:=by
 have h1:=h.p1;have h2:=h.p2;obtain ⟨ok,g,i⟩:=ai h;refine Xu (λn c hn hc hl=>?_) K 0 _ (by omega) (pC ok (g.2.mono (by omega) (by omega)) i) rfl;obtain ⟨k0,q,ql⟩:=Zy (p:=p) (by omega) (by omega) hc (λi hi=>⟨by omega,by omega⟩) (n+1) [] (by simp;omega) (Cf.nil _ _ _);obtain ⟨r,hr⟩:∃ r,r=(Dp p c [] (List.range' 0 (n+1))).v:=⟨_,rfl⟩;have hk:Dp p c [] (List.range' 0 (n+1))=⟨r,0⟩:=by
  rw [hr];generalize Dp p c [] (List.range' 0 (n+1))=o at *;cases o with | mk v k=>exact congrArg (Outc.mk v) k0
 change (Cf _ _ _ (Dp p c [] (List.range' 0 (n+1))).v) at q;change ((Dp p c [] (List.range' 0 (n+1))).v.length=_) at ql;rw [<-hr] at q ql;obtain ⟨-,rg,i0⟩:=q n (by simp at ql;omega);have rg':RgI (gI r n) (3+85*(n:Int)) (2+3*(n:Int)+1):=rg;obtain ⟨d1,d2,d3⟩:=iV (p:=p) (n:=n) (by omega) (by omega) (by omega) rg' i0 (by omega) (by omega);exact ⟨r,nO ov p _ c r n hk,d1,d2.mono (by show _<=3+85*((n+1:Nat):Int);omega) (by show _<=2+3*((n+1:Nat):Int);omega),d3⟩
def rp (x:Rat):Nat->Rat
 | 0=>x
 | n+1=>rp x n*x
theorem oK (p:Int)(c m:Nat)(hm:0<m)(hs:c+m<=1000):∃ n:Nat,wrap64 ((c:Int)+wrap64 ((IntKind.u64.wrap p).tmod (m:Int)))=(n:Int)/\c<=n/\n<c+m:=by
 rw [IntKind.wrap_u64];have h0:0<=p%18446744073709551616:=Int.emod_nonneg _ (by decide);rw [Int.tmod_eq_emod_of_nonneg h0];have h1:0<=p%18446744073709551616%(m:Int):=Int.emod_nonneg _ (by omega);have h2:p%18446744073709551616%(m:Int)<m:=Int.emod_lt_of_pos _ (by omega);generalize p%18446744073709551616%(m:Int)=x at *;refine ⟨(c+x).toNat,?_,by omega,by omega⟩;unfold wrap64;omega
theorem rT (p:Int)(m:Nat)(hm:0<m)(hs:m<=1000):∃ n:Nat,wrap64 ((IntKind.u64.wrap p).tmod (m:Int))=(n:Int)/\n<m:=by
 rw [IntKind.wrap_u64];have h0:0<=p%18446744073709551616:=Int.emod_nonneg _ (by decide);rw [Int.tmod_eq_emod_of_nonneg h0];have h1:0<=p%18446744073709551616%(m:Int):=Int.emod_nonneg _ (by omega);have h2:p%18446744073709551616%(m:Int)<m:=Int.emod_lt_of_pos _ (by omega);generalize p%18446744073709551616%(m:Int)=x at *;refine ⟨x.toNat,?_,by omega⟩;unfold wrap64;omega
theorem rF {n:Int}(h:w.heap[b]?=some (.cells #[.int .i64 n] T (0,0))):InS w (.slice (some ⟨b,0,none⟩) 1 1) [n] :=
 ⟨_, _, rfl, Aq    _, fun _ => ⟨b, 0, rfl, fun i a hi => by
  rcases i with _ | i
  ·cases hi;exact Ae h 0 _ rfl
  ·simp at hi⟩⟩
theorem sr {x y:Int}(h:w.heap[b]?=some (.cells #[.int .i64 op,.int .i64 x,.int .i64 y,.bool false,.slice none 0 0,.int .i64 0,.bool false,.slice none 0 0,.int .i64 0] T (0,0))):LnS w (.slice (some ⟨b,0,none⟩) 1 1) [⟨op,x,y,rzI⟩] :=
 ⟨_, _, rfl, Aq    _, fun _ => ⟨b, 0, rfl, fun i a hi => by
  rcases i with _ | i
  ·cases hi;exact ⟨Ae h 0 _ rfl,Ae h 1 _ rfl,Ae h 2 _ rfl,_,_,_,_,_,_,Ae h 3 _ rfl,Ae h 4 _ rfl,Ae h 5 _ rfl,Ae h 6 _ rfl,Ae h 7 _ rfl,Ae h 8 _ rfl,Gr _⟩
  ·simp at hi⟩⟩
theorem rk (w:World)(cs:Array Value)(n1:Int)(m:Nat):∃ V,V=((w.alloc (.cells cs 52)).alloc (.cells #[.int .i64 n1] 3)).alloc (.cells #[.slice (some ⟨w.heap.size,0,none⟩) m m,.slice (some ⟨w.heap.size+1,0,none⟩) 1 1] 25)/\Kept w V /\
 V.heap[w.heap.size]?=some (.cells cs 52 (0,0))/\V.heap[w.heap.size+1]?=some (.cells #[.int .i64 n1] 3 (0,0)) /\
 V.heap[w.heap.size+1+1]?=some (.cells #[.slice (some ⟨w.heap.size,0,none⟩) m m,.slice (some ⟨w.heap.size+1,0,none⟩) 1 1] 25 (0,0)):=by
 have st:∀ (v:World) (n:Nat) (c:Array Value) (T:TypeId),v.heap.size=n->(v.alloc (.cells c T)).heap[n]?=some (.cells c T (0,0))/\(v.alloc (.cells c T)).heap.size=n+1/\Kept v (v.alloc (.cells c T)):=by
  intro v n c T h;subst h;exact ⟨heap_alloc_new _ _,by simp,Ab _ _⟩
 obtain ⟨p1,q1,k1⟩:=st w _ cs 52 rfl;obtain ⟨p2,q2,k2⟩:=st _ _ #[.int .i64 n1] 3 q1;obtain ⟨p3,q3,k3⟩:=st _ _ #[.slice (some ⟨w.heap.size,0,none⟩) m m,.slice (some ⟨w.heap.size+1,0,none⟩) 1 1] 25 q2;exact ⟨_,rfl,(k1.trans k2).trans k3,Ay p1 (k2.trans k3),Ay p2 k3,p3⟩
theorem jD:Ru tE:=by
 intro l hl;simp only [tE,List.mem_cons,List.not_mem_nil,or_false] at hl;subst hl;exact ⟨by decide,by decide,by show (0:Nat)<=17592186044416;decide,by show (0:Nat)<=17592186044416;decide⟩
end Go.Proofs.YtabjjdicffcolaaGreatDoor
