/- Words and contracts, part 21. -/
import Derived.Test.YtabjjdicffcolaaGreatDoorClaimSholdp20
set_option maxRecDepth 100000
set_option maxHeartbeats 0
namespace Go.Proofs.YtabjjdicffcolaaGreatDoor
open Go.Lib (hid)
open Go.RowKit
variable {e:En} {p u x:Int} {outs:List Int} {ls:List Ln} {l:List RawI} {b c i o:Nat} {A A':Option Addr} {a k r:RawI} {m0 m1 m2 m3 m4 m5 v:Value} {w w':World}
theorem Zz (w:World)(s o x0 x1 x2 x3 x4 x5 x6 x7 x8:Value):∃ W,W=(w.alloc (.cells #[s,o] 25)).alloc (.cells #[x0,x1,x2,x3,x4,x5,x6,x7,x8] 33)∧Kept w W∧W.heap[w.heap.size]?=some (.cells #[s,o] 25 (0,0)) ∧
 W.heap[w.heap.size+1]?=some (.cells #[x0,x1,x2,x3,x4,x5,x6,x7,x8] 33 (0,0))∧W.heap.size=w.heap.size+1+1:=by
 refine ⟨_,rfl,(Ad _ _).trans (Ad _ _),Bk (heap_alloc_new _ _) (Ad _ _),?_,by simp⟩;have:=heap_alloc_new (w.alloc (.cells #[s,o] 25)) (.cells #[x0,x1,x2,x3,x4,x5,x6,x7,x8] 33);simpa using this
theorem IvR.clean (h:IvR w v a)(hm:Fh a=true):a.iv.Ok∧a.iv.raw=a:=by
 obtain ⟨x,y,z,x',y',z',rfl,h1,h2⟩:=h;exact Fa (Hz h1) (Hz h2) hm
theorem IvR.ivC (h:IvR w v a)(hr:a.iv.raw=a):IvC w v a.iv:=by unfold IvC;rw [hr];exact h
theorem IvS.cl (h:IvS w v l)(hm:l.all Fh=true):Cl l:=by
 obtain ⟨A,c,rfl,hc,hA⟩:=h;intro a ha;obtain ⟨i,hi,he⟩:=List.mem_iff_getElem.1 ha;obtain ⟨b,off,rfl,hd⟩:=hA (by omega);obtain ⟨x,y,z,x',y',z',h0,h1,h2,h3,h4,h5,hI⟩:=hd i a (by rw [List.getElem?_eq_getElem hi,he]);exact hI.clean (List.all_eq_true.1 hm a ha)
theorem IvS.at {n:Nat}(h:IvS w (.slice A n c) l)(hi:i<l.length):∃ b off a,A=some ⟨b,off,none⟩∧n=l.length∧l[i]?=some a∧IvAt w b (off+i*6) a:=by
 obtain ⟨A',c',e,hc,hA⟩:=h;injection e with e1 e2 e3
 subst e1;subst e2;subst e3;obtain ⟨b,off,rfl,hd⟩:=hA (by omega);exact ⟨b,off,l[i],rfl,rfl,List.getElem?_eq_getElem hi,hd i _ (List.getElem?_eq_getElem hi)⟩
theorem Gr {n n':Bool}{l l' c':Nat}{e e':Int}(h:IvR w v a)(hb:BlkI w b (.bool n) (.slice A l c) (.int .i64 e) (.bool n') (.slice A' l' c') (.int .i64 e'))(x y z x' y' z':Value) :
 IvR (ivW w b x y z x' y' z') v a:=by
 obtain ⟨p,q,r,p',q',r',rfl,h1,h2⟩:=h;exact ⟨p,q,r,p',q',r',rfl,h1.ivW hb _ _ _ _ _ _,h2.ivW hb _ _ _ _ _ _⟩
theorem Akn {a b i:Int}(h:Gj ⟨3,a,b,k⟩ i x u p=true):0≤a∧a<x:=by
 unfold Gj Bw at h;simp at h;exact h.2.1
theorem Ana {a b i:Int}(h:Gj ⟨4,a,b,k⟩ i x u p=true):0≤a∧a<u:=by
 unfold Gj Bw at h;simp at h;exact h.2.1
theorem Anb {a b i:Int}(h:Gj ⟨5,a,b,k⟩ i x u p=true):0≤a∧a<p:=by
 unfold Gj Bw at h;simp at h;exact h.2.1
theorem Af8 {op a b i:Int}(h:Gj ⟨op,a,b,k⟩ i x u p=true)(h1:op≠1)(h2:op≠2)(h3:op≠3)(h4:op≠4)(h5:op≠5):0≤a∧a<i∧0≤b∧b<i∧6≤op∧op≤13:=by
 unfold Gj Bw at h;simp only [if_neg h1,if_neg h2,if_neg h3,if_neg h4,if_neg h5] at h;split at h
 ·cases h
 ·split at h
  ·simp only [Bool.and_eq_true,decide_eq_true_eq] at h;omega
  ·split at h
   ·simp only [Bool.and_eq_true,decide_eq_true_eq] at h;omega
   ·cases h
def Cells6 (w:World) (b o:Nat) (m0 m1 m2 m3 m4 m5:Value):Prop:=w.cell? ⟨b,o,none⟩=some m0∧w.cell? ⟨b,o+1,none⟩=some m1∧w.cell? ⟨b,o+2,none⟩=some m2∧w.cell? ⟨b,o+3,none⟩=some m3∧w.cell? ⟨b,o+4,none⟩=some m4∧w.cell? ⟨b,o+5,none⟩=some m5
theorem Cells6.kept (h:Cells6 w b o m0 m1 m2 m3 m4 m5)(k:Kept w w'):Cells6 w' b o m0 m1 m2 m3 m4 m5:=by
 obtain ⟨h0,h1,h2,h3,h4,h5⟩:=h;have hb:=Am h0;exact ⟨(k.cell (p:=⟨b,o,none⟩) hb).trans h0,(k.cell (p:=⟨b,o+1,none⟩) hb).trans h1,(k.cell (p:=⟨b,o+2,none⟩) hb).trans h2,(k.cell (p:=⟨b,o+3,none⟩) hb).trans h3,(k.cell (p:=⟨b,o+4,none⟩) hb).trans h4,(k.cell (p:=⟨b,o+5,none⟩) hb).trans h5⟩
theorem Cells6.kb {W:World}{X:List Nat}(h:Cells6 W b o m0 m1 m2 m3 m4 m5)(k:KB W X w)(hn:b∉X):Cells6 w b o m0 m1 m2 m3 m4 m5:=by
 obtain ⟨h0,h1,h2,h3,h4,h5⟩:=h;exact ⟨k.cell h0 hn,k.cell h1 hn,k.cell h2 hn,k.cell h3 hn,k.cell h4 hn,k.cell h5 hn⟩
def LinJ (b:Nat) (r:RawI) (l:Bool) (w:World):Prop :=
 ∃ n A i c d n' A' i' c' d',BlkI w b (.bool n) (.slice A i c) (.int .i64 d) (.bool n') (.slice A' i' c') (.int .i64 d')∧(l=true→IvR w (.agg #[.bool n,.slice A i c,.int .i64 d,.bool n',.slice A' i' c',.int .i64 d']) r)
theorem LinJ.parts {l:Bool}(h:LinJ b r l w):∃ n A i c d n' A' i' c' d',BlkI w b (.bool n) (.slice A i c) (.int .i64 d) (.bool n') (.slice A' i' c') (.int .i64 d')∧(l=true→IvR w (.agg #[.bool n,.slice A i c,.int .i64 d,.bool n',.slice A' i' c',.int .i64 d']) r):=h
theorem LinJ.kept {l:Bool}(q:Kept w w')(h:LinJ b r l w):LinJ b r l w':=by
 obtain ⟨n,A,i,c,d,n',A',i',c',d',h1,h2⟩:=h;exact ⟨n,A,i,c,d,n',A',i',c',d',h1.kept q,fun hl=>(h2 hl).kept q⟩
theorem Amx (w:World)(o a b k0 k1 k2 k3 k4 k5:Value):∃ W,W=(w.alloc (.cells #[o,a,b,k0,k1,k2,k3,k4,k5] 52)).alloc (.cells #[.bool false,.slice none 0 0,.int .i64 0,.bool false,.slice none 0 0,.int .i64 0] 30)∧Kept w W ∧
 W.heap[w.heap.size]?=some (.cells #[o,a,b,k0,k1,k2,k3,k4,k5] 52 (0,0))∧BlkI W (w.heap.size+1) (.bool false) (.slice none 0 0) (.int .i64 0) (.bool false) (.slice none 0 0) (.int .i64 0)∧W.heap.size=w.heap.size+1+1:=by
 refine ⟨_,rfl,(Ad _ _).trans (Ad _ _),Bk (heap_alloc_new _ _) (Ad _ _),?_,by simp⟩;have:=Hq (w.alloc (.cells #[o,a,b,k0,k1,k2,k3,k4,k5] 52));simpa using this
theorem Xb {P Q:Prop} [Decidable P] [Decidable Q] (h:P↔¬Q):decide P=!decide Q:=by
 by_cases hq:Q<;>simp [hq,h]
theorem Ai4 {S:Int→Prop}{ov:Iv→Nat→Outc Iv}{vt ve:Value}(hv:TpR w vt ls outs)(he:EnR w ve e)(hok:W5 ls)(hle:Mh e)(hn:ls.length≤1000000000)(hno:outs.length≤1000000000)
 (hT:Tab w) (hov:∀ l∈ls,l.op=13→OvC ov) (O:Zt S) (hS:∀ l∈ls,6≤l.op→l.op≤12→S l.op) :
 Calls Tryz.prog 30 #[vt,ve,.int .i64 p] w (Amr (Cm ov ls outs e p) w):=by
 have MT:=hid (fun w1 (k:Kept w w1)=>Alu (x:=e.x.length) (u:=e.u.length) (p:=e.p.length) (hv.kept k) hok hn hno (by have:=hle.2.2.2.2.1;omega) (by have:=hle.2.2.2.2.2.1;omega) (by have:=hle.2.2.2.2.2.2;omega));have ME:=hid (fun w1 (k:Kept w w1)=>Af6 (he.kept k) hle);obtain ⟨s,o,rfl,hls,hou⟩:=hv;obtain ⟨x0,x1,x2,x3,x4,x5,sx,su,sp,rfl,ht,hx,hu,hp⟩:=he;have HLS:=hid hls;have HTT:=hid ht;have HX:=hid hx;have HU:=hid hu;have HP:=hid hp;have OK:=hid hok;have OV:=hid hov;have OPS:=hid O;have HS:=hid hS;clear O hS;have TT:=hid hT;obtain ⟨A,c,rfl,hc,-⟩:=hls;obtain ⟨B,d,rfl,-,-⟩:=hou;obtain ⟨AX,cx,rfl,-,-⟩:=hx
 obtain ⟨AU,cu,rfl,-,-⟩:=hu;obtain ⟨AP,cp,rfl,-,-⟩:=hp;obtain ⟨W,hW,kW,hb,hb',lW⟩:=Zz w (.slice A ls.length c) (.slice B outs.length d) x0 x1 x2 x3 x4 x5 (.slice AX e.x.length cx) (.slice AU e.u.length cu) (.slice AP e.p.length cp);have HW:=hid hW;have K:=hid kW;have HB:=hid hb;have HB':=hid hb';obtain ⟨c0,c1⟩:=E4 hb;obtain ⟨d0,d1,d2,d3,d4,d5,d6,d7,d8⟩:=Bo hb';clear hok hle hW kW hb hb' hT hov;obtain ⟨mt,hmt⟩:∃ m,Jt ls outs e.x.length e.u.length e.p.length=m:=⟨_,rfl⟩;obtain ⟨me,hme⟩:∃ m,Mr e=m:=⟨_,rfl⟩;rw [hmt] at MT;rw [hme] at ME;obtain ⟨fa,hfa⟩:∃ f,decide (1≤p)=f:=⟨_,rfl⟩;obtain ⟨fb,hfb⟩:∃ f,decide (p≤300)=f:=⟨_,rfl⟩
 have FA:Hid (decide (p<1)=!fa):=hid (by rw [←hfa];exact Xb (by omega));have FB:Hid (decide (300<p)=!fb):=hid (by rw [←hfb];exact Xb (by omega));have EM:Hid ((fa&&fb&&mt&&me)=true↔1≤p∧p≤300∧Jt ls outs e.x.length e.u.length e.p.length=true∧Mr e=true):=hid (by
  rw [←hfa,←hfb,←hmt,←hme];simp only [Bool.and_eq_true,decide_eq_true_eq,and_assoc])
 have HME:=hid hme;have HMT:=hid hmt;clear hfa hfb hmt hme;obtain ⟨T,hTI⟩:∃ T,Cm ov ls outs e p=T:=⟨_,rfl⟩;rw [hTI];have HTI:=hid hTI;clear hTI;generalize hnl:ls.length=n at *;have HN:=hid hnl;clear hnl;go_enter Tryz.func30,Tryz.ntmps30;go_upto_region 1 with fail;rw [←HW.out];go_step3;go_upto_region 1 with fail;clear c0 c1 d0 d1 d2 d3 d4 d5 d6 d7 d8
 refine rS 25 ([(vE (.int .i64 p)),(vE (.bool (!fa))),(vE (.bool (!fa))),(fun v wv=>(fa=true→(fun v _=>v=(.int .i64 p)) v wv)∧(fa=false→v=undef)),(fun v wv=>(fa=true→(fun v _=>v=(.bool (!fb))) v wv)∧(fa=false→v=undef)),(vE (.bool (!(fa&&fb)))),(vE (.bool (!(fa&&fb)))),(fun v wv=>((fa&&fb)=true→(fun v _=>v=(.agg #[.slice A n c,.slice B outs.length d])) v wv)∧((fa&&fb)=false→v=undef)),(fun v wv=>((fa&&fb)=true→(fun v _=>v=(.pointer (some ⟨w.heap.size+1,6,none⟩))) v wv)∧((fa&&fb)=false→v=undef)),(fun v wv=>((fa&&fb)=true→(fun v _=>v=(.slice AX e.x.length cx)) v wv)∧((fa&&fb)=false→v=undef)),(fun v wv=>((fa&&fb)=true→(fun v _=>v=(.int .i64 (e.x.length:Int))) v wv)∧((fa&&fb)=false→v=undef)),(fun v wv=>((fa&&fb)=true→(fun v _=>v=(.pointer (some ⟨w.heap.size+1,7,none⟩))) v wv)∧((fa&&fb)=false→v=undef)),(fun v wv=>((fa&&fb)=true→(fun v _=>v=(.slice AU e.u.length cu)) v wv)∧((fa&&fb)=false→v=undef)),(fun v wv=>((fa&&fb)=true→(fun v _=>v=(.int .i64 (e.u.length:Int))) v wv)∧((fa&&fb)=false→v=undef)),(fun v wv=>((fa&&fb)=true→(fun v _=>v=(.pointer (some ⟨w.heap.size+1,8,none⟩))) v wv)∧((fa&&fb)=false→v=undef)),(fun v wv=>((fa&&fb)=true→(fun v _=>v=(.slice AP e.p.length cp)) v wv)∧((fa&&fb)=false→v=undef)),(fun v wv=>((fa&&fb)=true→(fun v _=>v=(.int .i64 (e.p.length:Int))) v wv)∧((fa&&fb)=false→v=undef)),(fun v wv=>((fa&&fb)=true→(fun v _=>v=(.bool mt)) v wv)∧((fa&&fb)=false→v=undef)),(fun v wv=>((fa&&fb)=true→(fun v _=>v=(.bool (!mt))) v wv)∧((fa&&fb)=false→v=undef)),(vE (.bool (!(fa&&fb&&mt)))),(vE (.bool (!(fa&&fb&&mt)))),(fun v wv=>((fa&&fb&&mt)=true→(fun v _=>v=(.agg #[x0,x1,x2,x3,x4,x5,.slice AX e.x.length cx,.slice AU e.u.length cu,.slice AP e.p.length cp])) v wv)∧((fa&&fb&&mt)=false→v=undef)),(fun v wv=>((fa&&fb&&mt)=true→(fun v _=>v=(.bool me)) v wv)∧((fa&&fb&&mt)=false→v=undef)),(fun v wv=>((fa&&fb&&mt)=true→(fun v _=>v=(.bool (!me))) v wv)∧((fa&&fb&&mt)=false→v=undef)),(vE (.bool (!(fa&&fb&&mt&&me))))])
  ⟨
   (gq 2),(fun aF wF F=>by have s13:=F.v 0 13;exact sw (by (go_simp;exact FA.out)) rfl),(gv 1 14),
   (fun aF wF F=>by
  have sg:=F.v 2 15;have s2:=F.q 2 (.int .i64 p);rcases Bl fa with hC | hC
  ·refine sIm hC (vE (.int .i64 p)) ?_;exact sVc rfl rfl sg (by first | rfl | simp [hC])
  ·exact sOc rfl rfl sg (by first | rfl | simp [hC]) (nW hC)),
   (fun aF wF F=>by
  have sg:=F.v 2 15;have s16:(fa=true→aF.tmps.getD 16 undef=(.int .i64 p))∧(fa=false→aF.tmps.getD 16 undef=undef):=F.done 3 16 (by kernel_rfl) rfl;rcases Bl fa with hC | hC
  ·refine sIm hC (vE (.bool (!fb))) ?_;replace s16:=s16.1 hC;exact Ar ((Aj rfl rfl sg).trans (by first | rfl | simp [hC])) (by (go_simp;exact FB.out)) rfl
  ·exact sOc rfl rfl sg (by first | rfl | simp [hC]) (nW hC)),
   (fun aF wF F=>by
  have s15:=F.v 2 15;have s17:(fa=true→aF.tmps.getD 17 undef=(.bool (!fb)))∧(fa=false→aF.tmps.getD 17 undef=undef):=F.done 4 17 (by kernel_rfl) rfl;rcases Bl fa with hE | hE
  ·replace s17:=s17.1 hE;exact sw (by first | (go_simp;done) | (go_simp;simp_all;done) | (simp_all;done)) rfl
  ·exact sw (by first | (go_simp;done) | (go_simp;simp_all;done) | (simp_all;done)) rfl),(gv 5 18),
   (fun aF wF F=>by
  have sg:=F.v 6 19;have s3:=F.q 3 (.pointer (some ⟨w.heap.size,0,none⟩));have c0:=Ai HB.out F.kept 0 _ rfl;have c1:=Ai HB.out F.kept 1 _ rfl;rcases Bl (fa&&fb) with hC | hC
  ·refine sIm hC (vE (.agg #[.slice A n c,.slice B outs.length d])) ?_;exact sVc rfl rfl sg (by first | rfl | simp [hC])
  ·exact sOc rfl rfl sg (by first | rfl | simp [hC]) (nW hC)),
   (fun aF wF F=>by
  have sg:=F.v 6 19;have s4:=F.q 4 (.pointer (some ⟨w.heap.size+1,0,none⟩));rcases Bl (fa&&fb) with hC | hC
  ·refine sIm hC (vE (.pointer (some ⟨w.heap.size+1,6,none⟩))) ?_;exact sVc rfl rfl sg (by first | rfl | simp [hC])
  ·exact sOc rfl rfl sg (by first | rfl | simp [hC]) (nW hC)),
   (fun aF wF F=>by
  have sg:=F.v 6 19;have s21:((fa&&fb)=true→aF.tmps.getD 21 undef=(.pointer (some ⟨w.heap.size+1,6,none⟩)))∧((fa&&fb)=false→aF.tmps.getD 21 undef=undef):=F.done 8 21 (by kernel_rfl) rfl;have c0:=Ai HB'.out F.kept 6 _ rfl;rcases Bl (fa&&fb) with hC | hC
  ·refine sIm hC (vE (.slice AX e.x.length cx)) ?_;replace s21:=s21.1 hC;exact sVc rfl rfl sg (by first | rfl | simp [hC])
  ·exact sOc rfl rfl sg (by first | rfl | simp [hC]) (nW hC)),
   (fun aF wF F=>by
  have sg:=F.v 6 19;have s22:((fa&&fb)=true→aF.tmps.getD 22 undef=(.slice AX e.x.length cx))∧((fa&&fb)=false→aF.tmps.getD 22 undef=undef):=F.done 9 22 (by kernel_rfl) rfl;rcases Bl (fa&&fb) with hC | hC
  ·refine sIm hC (vE (.int .i64 (e.x.length:Int))) ?_;replace s22:=s22.1 hC;exact sVc rfl rfl sg (by first | rfl | simp [hC])
  ·exact sOc rfl rfl sg (by first | rfl | simp [hC]) (nW hC)),
   (fun aF wF F=>by
  have sg:=F.v 6 19;have s4:=F.q 4 (.pointer (some ⟨w.heap.size+1,0,none⟩));rcases Bl (fa&&fb) with hC | hC
  ·refine sIm hC (vE (.pointer (some ⟨w.heap.size+1,7,none⟩))) ?_;exact sVc rfl rfl sg (by first | rfl | simp [hC])
  ·exact sOc rfl rfl sg (by first | rfl | simp [hC]) (nW hC)),
   (fun aF wF F=>by
  have sg:=F.v 6 19;have s24:((fa&&fb)=true→aF.tmps.getD 24 undef=(.pointer (some ⟨w.heap.size+1,7,none⟩)))∧((fa&&fb)=false→aF.tmps.getD 24 undef=undef):=F.done 11 24 (by kernel_rfl) rfl;have c0:=Ai HB'.out F.kept 7 _ rfl;rcases Bl (fa&&fb) with hC | hC
  ·refine sIm hC (vE (.slice AU e.u.length cu)) ?_;replace s24:=s24.1 hC;exact sVc rfl rfl sg (by first | rfl | simp [hC])
  ·exact sOc rfl rfl sg (by first | rfl | simp [hC]) (nW hC)),
   (fun aF wF F=>by
  have sg:=F.v 6 19;have s25:((fa&&fb)=true→aF.tmps.getD 25 undef=(.slice AU e.u.length cu))∧((fa&&fb)=false→aF.tmps.getD 25 undef=undef):=F.done 12 25 (by kernel_rfl) rfl;rcases Bl (fa&&fb) with hC | hC
  ·refine sIm hC (vE (.int .i64 (e.u.length:Int))) ?_;replace s25:=s25.1 hC;exact sVc rfl rfl sg (by first | rfl | simp [hC])
  ·exact sOc rfl rfl sg (by first | rfl | simp [hC]) (nW hC)),
   (fun aF wF F=>by
  have sg:=F.v 6 19;have s4:=F.q 4 (.pointer (some ⟨w.heap.size+1,0,none⟩));rcases Bl (fa&&fb) with hC | hC
  ·refine sIm hC (vE (.pointer (some ⟨w.heap.size+1,8,none⟩))) ?_;exact sVc rfl rfl sg (by first | rfl | simp [hC])
  ·exact sOc rfl rfl sg (by first | rfl | simp [hC]) (nW hC)),
   (fun aF wF F=>by
  have sg:=F.v 6 19;have s27:((fa&&fb)=true→aF.tmps.getD 27 undef=(.pointer (some ⟨w.heap.size+1,8,none⟩)))∧((fa&&fb)=false→aF.tmps.getD 27 undef=undef):=F.done 14 27 (by kernel_rfl) rfl;have c0:=Ai HB'.out F.kept 8 _ rfl;rcases Bl (fa&&fb) with hC | hC
  ·refine sIm hC (vE (.slice AP e.p.length cp)) ?_;replace s27:=s27.1 hC;exact sVc rfl rfl sg (by first | rfl | simp [hC])
  ·exact sOc rfl rfl sg (by first | rfl | simp [hC]) (nW hC)),
   (fun aF wF F=>by
  have sg:=F.v 6 19;have s28:((fa&&fb)=true→aF.tmps.getD 28 undef=(.slice AP e.p.length cp))∧((fa&&fb)=false→aF.tmps.getD 28 undef=undef):=F.done 15 28 (by kernel_rfl) rfl;rcases Bl (fa&&fb) with hC | hC
  ·refine sIm hC (vE (.int .i64 (e.p.length:Int))) ?_;replace s28:=s28.1 hC;exact sVc rfl rfl sg (by first | rfl | simp [hC])
  ·exact sOc rfl rfl sg (by first | rfl | simp [hC]) (nW hC)),
   (fun aF wF F=>by
  have sg:=F.v 6 19;have s20:((fa&&fb)=true→aF.tmps.getD 20 undef=(.agg #[.slice A n c,.slice B outs.length d]))∧((fa&&fb)=false→aF.tmps.getD 20 undef=undef):=F.done 7 20 (by kernel_rfl) rfl;have s23:((fa&&fb)=true→aF.tmps.getD 23 undef=(.int .i64 (e.x.length:Int)))∧((fa&&fb)=false→aF.tmps.getD 23 undef=undef):=F.done 10 23 (by kernel_rfl) rfl;have s26:((fa&&fb)=true→aF.tmps.getD 26 undef=(.int .i64 (e.u.length:Int)))∧((fa&&fb)=false→aF.tmps.getD 26 undef=undef):=F.done 13 26 (by kernel_rfl) rfl;have s29:((fa&&fb)=true→aF.tmps.getD 29 undef=(.int .i64 (e.p.length:Int)))∧((fa&&fb)=false→aF.tmps.getD 29 undef=undef):=F.done 16 29 (by kernel_rfl) rfl
  rcases Bl (fa&&fb) with hC | hC
  ·refine sIm hC (vE (.bool mt)) ?_;replace s20:=s20.1 hC;replace s23:=s23.1 hC;replace s26:=s26.1 hC;replace s29:=s29.1 hC;exact Av ((Aj rfl rfl sg).trans (by first | rfl | simp [hC])) (by go_simp) (MT.out _ (K.out.trans F.kept)) (fun _ _ h=>RetK.good h) (fun _ _ h=>h)
  ·exact sOc rfl rfl sg (by first | rfl | simp [hC]) (nW hC)),
   (fun aF wF F=>by
  have sg:=F.v 6 19;have s30:((fa&&fb)=true→aF.tmps.getD 30 undef=(.bool mt))∧((fa&&fb)=false→aF.tmps.getD 30 undef=undef):=F.done 17 30 (by kernel_rfl) rfl;rcases Bl (fa&&fb) with hC | hC
  ·refine sIm hC (vE (.bool (!mt))) ?_;replace s30:=s30.1 hC;exact sVc rfl rfl sg (by first | rfl | simp [hC])
  ·exact sOc rfl rfl sg (by first | rfl | simp [hC]) (nW hC)),
   (fun aF wF F=>by
  have s19:=F.v 6 19;have s31:((fa&&fb)=true→aF.tmps.getD 31 undef=(.bool (!mt)))∧((fa&&fb)=false→aF.tmps.getD 31 undef=undef):=F.done 18 31 (by kernel_rfl) rfl;rcases Bl (fa&&fb) with hE | hE
  ·replace s31:=s31.1 hE;exact sw (by first | (go_simp;done) | (go_simp;simp_all;done) | (simp_all;done)) rfl
  ·exact sw (by first | (go_simp;done) | (go_simp;simp_all;done) | (simp_all;done)) rfl),(gv 19 32),
   (fun aF wF F=>by
  have sg:=F.v 20 33;have s4:=F.q 4 (.pointer (some ⟨w.heap.size+1,0,none⟩));have c0:=Ai HB'.out F.kept 0 _ rfl;have c1:=Ai HB'.out F.kept 1 _ rfl;have c2:=Ai HB'.out F.kept 2 _ rfl;have c3:=Ai HB'.out F.kept 3 _ rfl;have c4:=Ai HB'.out F.kept 4 _ rfl;have c5:=Ai HB'.out F.kept 5 _ rfl;have c6:=Ai HB'.out F.kept 6 _ rfl;have c7:=Ai HB'.out F.kept 7 _ rfl;have c8:=Ai HB'.out F.kept 8 _ rfl;rcases Bl (fa&&fb&&mt) with hC | hC
  ·refine sIm hC (vE (.agg #[x0,x1,x2,x3,x4,x5,.slice AX e.x.length cx,.slice AU e.u.length cu,.slice AP e.p.length cp])) ?_;exact sVc rfl rfl sg (by first | rfl | simp [hC])
  ·exact sOc rfl rfl sg (by first | rfl | simp [hC]) (nW hC)),
   (fun aF wF F=>by
  have sg:=F.v 20 33;have s34:((fa&&fb&&mt)=true→aF.tmps.getD 34 undef=(.agg #[x0,x1,x2,x3,x4,x5,.slice AX e.x.length cx,.slice AU e.u.length cu,.slice AP e.p.length cp]))∧((fa&&fb&&mt)=false→aF.tmps.getD 34 undef=undef):=F.done 21 34 (by kernel_rfl) rfl;rcases Bl (fa&&fb&&mt) with hC | hC
  ·refine sIm hC (vE (.bool me)) ?_;replace s34:=s34.1 hC;exact Av ((Aj rfl rfl sg).trans (by first | rfl | simp [hC])) (by go_simp) (ME.out _ (K.out.trans F.kept)) (fun _ _ h=>RetK.good h) (fun _ _ h=>h)
  ·exact sOc rfl rfl sg (by first | rfl | simp [hC]) (nW hC)),
   (fun aF wF F=>by
  have sg:=F.v 20 33;have s35:((fa&&fb&&mt)=true→aF.tmps.getD 35 undef=(.bool me))∧((fa&&fb&&mt)=false→aF.tmps.getD 35 undef=undef):=F.done 22 35 (by kernel_rfl) rfl;rcases Bl (fa&&fb&&mt) with hC | hC
  ·refine sIm hC (vE (.bool (!me))) ?_;replace s35:=s35.1 hC;exact sVc rfl rfl sg (by first | rfl | simp [hC])
  ·exact sOc rfl rfl sg (by first | rfl | simp [hC]) (nW hC)),
   (fun aF wF F=>by
  have s33:=F.v 20 33;have s36:((fa&&fb&&mt)=true→aF.tmps.getD 36 undef=(.bool (!me)))∧((fa&&fb&&mt)=false→aF.tmps.getD 36 undef=undef):=F.done 23 36 (by kernel_rfl) rfl;rcases Bl (fa&&fb&&mt) with hE | hE
  ·replace s36:=s36.1 hE;exact sw (by first | (go_simp;done) | (go_simp;simp_all;done) | (simp_all;done)) rfl
  ·exact sw (by first | (go_simp;done) | (go_simp;simp_all;done) | (simp_all;done)) rfl),
   trivial⟩ ?_
 intro u w1 k1 hu;have p16:=hp hu 3;have p17:=hp hu 4;have p20:=hp hu 7;have p21:=hp hu 8;have p22:=hp hu 9;have p23:=hp hu 10;have p24:=hp hu 11;have p25:=hp hu 12;have p26:=hp hu 13;have p27:=hp hu 14;have p28:=hp hu 15;have p29:=hp hu 16;have p30:=hp hu 17;have p31:=hp hu 18;have p34:=hp hu 21;have p35:=hp hu 22;have p36:=hp hu 23;simp only [Ax,Al,if_true,Act.put,zlA,zlB,zlC,zlD,zlE,zlF,zlG,hv hu 0,hv hu 1,hv hu 2,hv hu 5,hv hu 6,hv hu 19,hv hu 20,hv hu 24];clear hu;generalize u 3=v16,u 4=v17,u 7=v20,u 8=v21,u 9=v22,u 10=v23,u 11=v24,u 12=v25,u 13=v26,u 14=v27,u 15=v28,u 16=v29,u 17=v30,u 18=v31,u 21=v34,u 22=v35,u 23=v36 at *
 clear p16 p17 p20 p21 p22 p23 p24 p25 p26 p27 p28 p29 p30 p31 p34 p35 p36 MT ME;have K1:=hid (K.out.trans k1);have HB1:=hid (Bk HB.out k1);have HB1':=hid (Bk HB'.out k1);clear k1 HB HB' K HW;rcases (Bl (fa&&fb&&mt&&me)).symm with hg | hg
 ·rw [hg];have e1:T=⟨[],1⟩:=by
   rw [←HTI.out];unfold Cm;rw [if_neg];intro h;rw [EM.out.2 h] at hg;cases hg
  go_wp2_with fail
  go_ret2
  subst e1;exact ⟨K1.out,_,rfl,Hi _⟩
 have hgood:=EM.out.1 hg;rw [hg];clear hg EM;obtain ⟨pn,rfl⟩:∃ pn:Nat,p=(pn:Int):=⟨p.toNat,by omega⟩;have HTL:Hid (Ca ov e pn [] ls=T):=hid (by
  rw [←HTI.out];unfold Cm;rw [if_pos hgood,Int.toNat_natCast])
 obtain ⟨p1,p2,hmt,hme⟩:=hgood;replace p1:1≤pn:=by omega
 replace p2:pn≤300:=by omega
 have hmt':=hmt;unfold Jt at hmt';simp only [Bool.and_eq_true,decide_eq_true_eq] at hmt';obtain ⟨⟨⟨n200,-⟩,hmls⟩,-⟩:=hmt';rw [HN.out] at n200;have ML:=hid ((Hs _ _ _ ls 0).1 hmls);unfold Mr at hme;simp only [Bool.and_eq_true] at hme;obtain ⟨⟨⟨me1,me2⟩,me3⟩,me4⟩:=hme;have ET:=hid (HTT.out.clean me1);have EX:=hid (HX.out.cl me2);have EU:=hid (HU.out.cl me3);have EP:=hid (HP.out.cl me4);clear hmls hmt HTI FA FB HMT HME me1 me2 me3 me4;obtain ⟨V,hmk,kV,lV,OV0⟩:=Ai6 w1 (n:=n) (by omega);have KV:=hid kV;have OV0':=hid OV0;obtain ⟨c0,c1⟩:=E4 HB1.out;obtain ⟨f0,f1⟩:=E4 (Bk HB1.out kV)
 clear kV OV0;go_wp2_with fail;go_step3;go_wp2_with fail;clear c0 c1 f0 f1 hmk;rw [show (!true)=false from rfl];generalize (!(fa&&fb&&mt))=fd;generalize (!(fa&&fb))=fc;generalize (!fa)=fa'
 go_loopw [8,45] (fun v t wr=>∃ (k:Nat) (rows:List RawI) (xs:List Value),k≤n∧t=.int .i64 k∧Ca ov e pn [] (ls.take k)=⟨rows,0⟩∧rows.length=k∧Cl rows∧OwnI wr w1.heap.size v rows xs∧Kept w1 wr) (fun _ t _=>(n-intOf t).toNat)
 case atStart=>exact ⟨0,[],[],Nat.zero_le _,rfl,rfl,rfl,(by intro a ha;cases ha),OV0'.out,KV.out⟩
 case round =>
  obtain ⟨k,rows,xs,hk,rfl,hrow,hlen,hcl,hown,hKr⟩:=hrel;have KR:=hid hKr;have HROW:=hid hrow;have HLEN:=hid hlen;have HCL:=hid hcl;have HOWN:=hid hown;clear hKr hrow hcl hown KV OV0' hlen;by_cases hlt:k<n
  ·obtain ⟨⟨op,a,b,kk⟩,hl⟩:∃ l,ls[k]?=some l:=⟨_,List.getElem?_eq_getElem (by have:=HN.out;omega)⟩;have hml:=ML.out k _ hl;rw [Nat.zero_add] at hml;obtain ⟨A',c',eA,-,hA⟩:=HLS.out;injection eA with eA1 eA2 eA3
   subst eA1;obtain ⟨bl,ol,rfl,hd⟩:=hA (by have:=HN.out;omega);obtain ⟨a0,a1,a2,y0,y1,y2,y3,y4,y5,g0,g1,g2,g3,g4,g5,hI⟩:=(hd k _ hl).kept (K1.out.trans KR.out);have HI:=hid hI;obtain ⟨A1,l1,q1,A2,l2,q2,ei,-,-⟩:=Aq hI;injection ei with ei;injection ei with ei
   simp only [List.cons.injEq,and_true] at ei;obtain ⟨rfl,rfl,rfl,rfl,rfl,rfl⟩:=ei;have hok:=OK.out _ (List.mem_of_getElem? hl);obtain ⟨W2,hW2,kW2,HL,HZ,lW2⟩:=Amx wr (.int .i64 op) (.int .i64 a) (.int .i64 b) (.bool kk.lo.neg) (.slice A1 l1 q1) (.int .i64 kk.lo.e) (.bool kk.hi.neg) (.slice A2 l2 q2) (.int .i64 kk.hi.e);have HW2:=hid hW2;have K2:=hid kW2;have HLB:=hid HL;have HZB:=hid HZ;have HML:=hid hml;have HLK:=hid hl;clear hI hl hml hok hW2 kW2 HL HZ hd hA eA2 eA3;simp only [] at a0 a1 a2;generalize kk.lo.neg=z1,kk.lo.e=z2,kk.hi.neg=z3,kk.hi.e=z4 at *
   go_upto_block 2 with fail
   rw [←HW2.out];clear HW2 a0 a1 a2 g0 g1 g2 g3 g4 g5;generalize hb10:wr.heap.size=b10 at *;have LB:=hid hb10;clear hb10;have HML':=HML
   go_cut [12] (fun t wx=>∃ ro,t=.int .i64 ro.k∧ro=Bp (Ch ov e pn rows ⟨op,a,b,kk⟩)∧(Ch ov e pn rows ⟨op,a,b,kk⟩).v.Ok∧Kept wr wx∧∃ n1 P1 i1 q1 d1 n2 P2 i2 q2 d2,BlkI wx (b10+1) (.bool n1) (.slice P1 i1 q1) (.int .i64 d1) (.bool n2) (.slice P2 i2 q2) (.int .i64 d2)∧IvR wx (.agg #[.bool n1,.slice P1 i1 q1,.int .i64 d1,.bool n2,.slice P2 i2 q2,.int .i64 d2]) ro.v)
   case first =>
    clear HML';obtain ⟨r0,r1,r2,r3,r4,r5,r6,r7,r8⟩:=Bo HLB.out;by_cases e1:op=1
    ·subst e1;obtain ⟨ro,ho⟩:∃ ro,ro=Bp (Ch ov e pn rows ⟨1,a,b,kk⟩):=⟨_,rfl⟩;have hmk:Fh kk=true:=by
      have:=HML.out;rw [Af7] at this;simp only [Bool.and_eq_true] at this;exact this.1.1
     obtain ⟨hok,hrw⟩:=HI.out.clean hmk;have CC:=hid (fun w' (q:Kept W2 w')=>show Calls Tryz.prog 59 _ w' (RetIE ro w') by rw [ho];exact Mo ((HI.out.kept (K2.out.trans q)).ivC hrw) hok (TT.out.kept (K1.out.trans (KR.out.trans (K2.out.trans q)))) p1 (by omega));have HO:Hid ((Ch ov e pn rows ⟨1,a,b,kk⟩).v.Ok):=hid (Ff hok p1).1;have HLI:=hid ho;clear ho hmk hok hrw HML HI;go_upto_region 12 with fail;go_wp2_with fail;refine (CC.out _ (Below.refl _ _)).mono ?_;rintro e' w3 ⟨q,u,rfl,hd⟩;obtain ⟨P1,i1,q1,P2,i2,q2,rfl,v1,v2⟩:=Aq hd;simp only [];have hz:=HZB.out.kept q;obtain ⟨-,u0,u1,u2,u3,u4,u5⟩:=hz.facts
     obtain ⟨f0,f1,f2,f3,f4,f5⟩:=hz.free;go_wp2_with fail
     go_meet
     exact ⟨ro,rfl,HLI.out,HO.out,Bm (K2.out.trans q) (by have:=LB.out;omega),_,_,_,_,_,_,_,_,_,_,hz.laid _ _ _ _ _ _,Gr hd hz _ _ _ _ _ _⟩
    have g1:(op==1)=false:=by simp [e1]
    have h'd:=Bo (Bk HB1'.out (KR.out.trans K2.out));obtain ⟨d0,d1,d2,d3,d4,d5,d6,d7,d8⟩:=h'd;by_cases e2:op=2
    ·subst e2;obtain ⟨ro,ho⟩:∃ ro,ro=Bp (Ch ov e pn rows ⟨2,a,b,kk⟩):=⟨_,rfl⟩;obtain ⟨hok,hrw⟩:=ET.out;have CC:=hid (fun w' (q:Kept W2 w')=>show Calls Tryz.prog 59 _ w' (RetIE ro w') by rw [ho];exact Mo ((HTT.out.kept (K1.out.trans (KR.out.trans (K2.out.trans q)))).ivC hrw) hok (TT.out.kept (K1.out.trans (KR.out.trans (K2.out.trans q)))) p1 (by omega));have HO:Hid ((Ch ov e pn rows ⟨2,a,b,kk⟩).v.Ok):=hid (Ff hok p1).1;have HLI:=hid ho;clear ho hok hrw HML HI;go_upto_region 14 with fail;go_wp2_with fail;refine (CC.out _ (Below.refl _ _)).mono ?_;clear d0 d1 d2 d3 d4 d5 d6 d7 d8
     rintro e' w3 ⟨q,u,rfl,hd⟩;obtain ⟨P1,i1,q1,P2,i2,q2,rfl,v1,v2⟩:=Aq hd;simp only [];have hz:=HZB.out.kept q;obtain ⟨-,u0,u1,u2,u3,u4,u5⟩:=hz.facts;obtain ⟨f0,f1,f2,f3,f4,f5⟩:=hz.free;go_wp2_with fail
     go_meet
     exact ⟨ro,rfl,HLI.out,HO.out,Bm (K2.out.trans q) (by have:=LB.out;omega),_,_,_,_,_,_,_,_,_,_,hz.laid _ _ _ _ _ _,Gr hd hz _ _ _ _ _ _⟩
    have g2:(op==2)=false:=by simp [e2]
    by_cases e3:op=3
    ·subst e3;obtain ⟨hm1,hm2⟩:=Akn HML.out;obtain ⟨ka,rfl⟩:∃ ka:Nat,a=(ka:Int):=⟨a.toNat,by omega⟩;have hka:ka<(e.x).length:=by omega
     obtain ⟨bo,oo,el,rfl,-,hel,hat⟩:=(HX.out.kept (K1.out.trans (KR.out.trans K2.out))).at hka;obtain ⟨m0,m1,m2,m3,m4,m5,n0,n1,n2,n3,n4,n5,hIe⟩:=hat;obtain ⟨hok,hrw⟩:=EX.out el (List.mem_of_getElem? hel);have hat2:atI (e.x) ka=el.iv:=by unfold atI;rw [Int.toNat_natCast,List.getD_eq_getElem?_getD,hel,Option.getD_some]
     obtain ⟨ro,ho⟩:∃ ro,ro=Bp (Ch ov e pn rows ⟨3,ka,b,kk⟩):=⟨_,rfl⟩;have hli:Ch ov e pn rows ⟨3,ka,b,kk⟩=Ek el.iv pn:=by rw [←hat2];rfl
     have CC:=hid (fun w' (q:Kept W2 w')=>show Calls Tryz.prog 59 _ w' (RetIE ro w') by rw [ho,hli];exact Mo ((hIe.kept q).ivC hrw) hok (TT.out.kept (K1.out.trans (KR.out.trans (K2.out.trans q)))) p1 (by omega));have HO:Hid ((Ch ov e pn rows ⟨3,ka,b,kk⟩).v.Ok):=hid (by rw [hli];exact (Ff hok p1).1);have HLI:=hid ho;clear ho hok hrw HML HI hli hat2 hel hIe hm1 hm2;go_upto_region 16 with fail;go_wp2_with fail;refine (CC.out _ (Below.refl _ _)).mono ?_;clear d0 d1 d2 d3 d4 d5 d6 d7 d8 n0 n1 n2 n3 n4 n5;rintro e' w3 ⟨q,u,rfl,hd⟩;obtain ⟨P1,i1,q1,P2,i2,q2,rfl,v1,v2⟩:=Aq hd;simp only []
     have hz:=HZB.out.kept q;obtain ⟨-,u0,u1,u2,u3,u4,u5⟩:=hz.facts;obtain ⟨f0,f1,f2,f3,f4,f5⟩:=hz.free;go_wp2_with fail
     go_meet
     exact ⟨ro,rfl,HLI.out,HO.out,Bm (K2.out.trans q) (by have:=LB.out;omega),_,_,_,_,_,_,_,_,_,_,hz.laid _ _ _ _ _ _,Gr hd hz _ _ _ _ _ _⟩
    have g3:(op==3)=false:=by simp [e3]
    by_cases e4:op=4
    ·subst e4;obtain ⟨hm1,hm2⟩:=Ana HML.out;obtain ⟨ka,rfl⟩:∃ ka:Nat,a=(ka:Int):=⟨a.toNat,by omega⟩;have hka:ka<(e.u).length:=by omega
     obtain ⟨bo,oo,el,rfl,-,hel,hat⟩:=(HU.out.kept (K1.out.trans (KR.out.trans K2.out))).at hka;obtain ⟨m0,m1,m2,m3,m4,m5,n0,n1,n2,n3,n4,n5,hIe⟩:=hat;obtain ⟨hok,hrw⟩:=EU.out el (List.mem_of_getElem? hel);have hat2:atI (e.u) ka=el.iv:=by unfold atI;rw [Int.toNat_natCast,List.getD_eq_getElem?_getD,hel,Option.getD_some]
     obtain ⟨ro,ho⟩:∃ ro,ro=Bp (Ch ov e pn rows ⟨4,ka,b,kk⟩):=⟨_,rfl⟩;have hli:Ch ov e pn rows ⟨4,ka,b,kk⟩=Ek el.iv pn:=by rw [←hat2];rfl
     have CC:=hid (fun w' (q:Kept W2 w')=>show Calls Tryz.prog 59 _ w' (RetIE ro w') by rw [ho,hli];exact Mo ((hIe.kept q).ivC hrw) hok (TT.out.kept (K1.out.trans (KR.out.trans (K2.out.trans q)))) p1 (by omega));have HO:Hid ((Ch ov e pn rows ⟨4,ka,b,kk⟩).v.Ok):=hid (by rw [hli];exact (Ff hok p1).1);have HLI:=hid ho;clear ho hok hrw HML HI hli hat2 hel hIe hm1 hm2;go_upto_region 18 with fail;go_wp2_with fail;refine (CC.out _ (Below.refl _ _)).mono ?_;clear d0 d1 d2 d3 d4 d5 d6 d7 d8 n0 n1 n2 n3 n4 n5;rintro e' w3 ⟨q,u,rfl,hd⟩;obtain ⟨P1,i1,q1,P2,i2,q2,rfl,v1,v2⟩:=Aq hd;simp only []
     have hz:=HZB.out.kept q;obtain ⟨-,u0,u1,u2,u3,u4,u5⟩:=hz.facts;obtain ⟨f0,f1,f2,f3,f4,f5⟩:=hz.free;go_wp2_with fail
     go_meet
     exact ⟨ro,rfl,HLI.out,HO.out,Bm (K2.out.trans q) (by have:=LB.out;omega),_,_,_,_,_,_,_,_,_,_,hz.laid _ _ _ _ _ _,Gr hd hz _ _ _ _ _ _⟩
    have g4:(op==4)=false:=by simp [e4]
    by_cases e5:op=5
    ·subst e5;obtain ⟨hm1,hm2⟩:=Anb HML.out;obtain ⟨ka,rfl⟩:∃ ka:Nat,a=(ka:Int):=⟨a.toNat,by omega⟩;have hka:ka<(e.p).length:=by omega
     obtain ⟨bo,oo,el,rfl,-,hel,hat⟩:=(HP.out.kept (K1.out.trans (KR.out.trans K2.out))).at hka;obtain ⟨m0,m1,m2,m3,m4,m5,n0,n1,n2,n3,n4,n5,hIe⟩:=hat;obtain ⟨hok,hrw⟩:=EP.out el (List.mem_of_getElem? hel);have hat2:atI (e.p) ka=el.iv:=by unfold atI;rw [Int.toNat_natCast,List.getD_eq_getElem?_getD,hel,Option.getD_some]
     obtain ⟨ro,ho⟩:∃ ro,ro=Bp (Ch ov e pn rows ⟨5,ka,b,kk⟩):=⟨_,rfl⟩;have hli:Ch ov e pn rows ⟨5,ka,b,kk⟩=Ek el.iv pn:=by rw [←hat2];rfl
     have CC:=hid (fun w' (q:Kept W2 w')=>show Calls Tryz.prog 59 _ w' (RetIE ro w') by rw [ho,hli];exact Mo ((hIe.kept q).ivC hrw) hok (TT.out.kept (K1.out.trans (KR.out.trans (K2.out.trans q)))) p1 (by omega));have HO:Hid ((Ch ov e pn rows ⟨5,ka,b,kk⟩).v.Ok):=hid (by rw [hli];exact (Ff hok p1).1);have HLI:=hid ho;clear ho hok hrw HML HI hli hat2 hel hIe hm1 hm2;go_upto_region 20 with fail;go_wp2_with fail;refine (CC.out _ (Below.refl _ _)).mono ?_;clear d0 d1 d2 d3 d4 d5 d6 d7 d8 n0 n1 n2 n3 n4 n5;rintro e' w3 ⟨q,u,rfl,hd⟩;obtain ⟨P1,i1,q1,P2,i2,q2,rfl,v1,v2⟩:=Aq hd;simp only []
     have hz:=HZB.out.kept q;obtain ⟨-,u0,u1,u2,u3,u4,u5⟩:=hz.facts;obtain ⟨f0,f1,f2,f3,f4,f5⟩:=hz.free;go_wp2_with fail
     go_meet
     exact ⟨ro,rfl,HLI.out,HO.out,Bm (K2.out.trans q) (by have:=LB.out;omega),_,_,_,_,_,_,_,_,_,_,hz.laid _ _ _ _ _ _,Gr hd hz _ _ _ _ _ _⟩
    have g5:(op==5)=false:=by simp [e5]
    clear d0 d1 d2 d3 d4 d5 d6 d7 d8;obtain ⟨ha1,ha2,hb1,hb2,h6,h13⟩:=Af8 HML.out e1 e2 e3 e4 e5;obtain ⟨ka,rfl⟩:∃ ka:Nat,a=(ka:Int):=⟨a.toNat,by omega⟩;obtain ⟨kb,rfl⟩:∃ kb:Nat,b=(kb:Int):=⟨b.toNat,by omega⟩;have hka:ka<rows.length:=by have:=HLEN.out;omega
    have hkb:kb<rows.length:=by have:=HLEN.out;omega
    have hsl:=HOWN.out.ivS;obtain ⟨Ao,co,rfl,-,-⟩:=hsl;have hsl:=HOWN.out.ivS;obtain ⟨bo,oo,ela,rfl,-,hea,hata⟩:=hsl.at hka;obtain ⟨bo',oo',elb,eq',-,heb,hatb⟩:=hsl.at hkb;injection eq' with eq'
    injection eq' with eq1 eq2
    subst eq1;subst eq2;obtain ⟨m0,m1,m2,m3,m4,m5,n0,n1,n2,n3,n4,n5,hIa⟩:=hata;obtain ⟨m0',m1',m2',m3',m4',m5',n0',n1',n2',n3',n4',n5',hIb⟩:=hatb;have lbo:bo<wr.heap.size:=Am n0;have lTT:=TT.out.lt;have lK1:=K1.out.size;have lKR:=KR.out.size;generalize hb11:b10+1=b11 at *;have NBO:bo∉[b11]:=by have:=LB.out;simp;omega
    have N10:b10∉[b11]:=by simp;omega
    have NG:0∉[b11]:=by have:=LB.out;simp;omega
    have CA:=hid ((show Cells6 wr bo (oo+ka*6) m0 m1 m2 m3 m4 m5 from ⟨n0,n1,n2,n3,n4,n5⟩).kept K2.out);have CB:=hid ((show Cells6 wr bo (oo+kb*6) m0' m1' m2' m3' m4' m5' from ⟨n0',n1',n2',n3',n4',n5'⟩).kept K2.out);obtain ⟨oka,rwa'⟩:=HCL.out ela (List.mem_of_getElem? hea);obtain ⟨okb,rwb'⟩:=HCL.out elb (List.mem_of_getElem? heb);have hli:Ch ov e pn rows ⟨op,ka,kb,kk⟩=Hj ov op ela.iv elb.iv pn:=by
     unfold Ch;simp only [if_neg e1,if_neg e2,if_neg e3,if_neg e4,if_neg e5];unfold atI;rw [Int.toNat_natCast,Int.toNat_natCast,List.getD_eq_getElem?_getD,List.getD_eq_getElem?_getD,hea,heb,Option.getD_some,Option.getD_some]
    have hov:=OV.out ⟨op,ka,kb,kk⟩ (List.mem_of_getElem? HLK.out);have hIa2:=hIa.kept K2.out;have hIb2:=hIb.kept K2.out;have hT2:=TT.out.kept (K1.out.trans (KR.out.trans K2.out));obtain ⟨ro,ho⟩:∃ ro,ro=Bp (Ch ov e pn rows ⟨op,ka,kb,kk⟩):=⟨_,rfl⟩;have CC:=hid (fun w' (q:KB W2 [b11] w')=>show Calls Tryz.prog 63 _ w' (RetIE ro w') by rw [ho,hli];exact Amh (op:=op) ((hIa2.kb q).ivC rwa') ((hIb2.kb q).ivC rwb') oka okb (hT2.kb q NG) p1 (by omega) (fun hn w4 q4=>(hov (show op=13 by omega)).2 w4 _ _ _ (((hIa2.kb q).kept q4).ivC rwa') oka ((hT2.kb q NG).kept q4) p1 p2) OPS.out (HS.out ⟨op,ka,kb,kk⟩ (List.mem_of_getElem? HLK.out)))
    have HO:Hid ((Ch ov e pn rows ⟨op,ka,kb,kk⟩).v.Ok):=hid (by rw [hli];exact (Acj oka okb p1 (fun hn=>(hov (show op=13 by omega)).1 _ _ oka p1 p2)).1);have HLI:=hid ho;have HB11:=hid hb11;clear ho oka okb rwa' rwb' HML HI hli hea heb hIa hIb hov n0 n1 n2 n3 n4 n5 n0' n1' n2' n3' n4' n5' e1 e2 e3 e4 e5 hsl hIa2 hIb2 hT2 hb11 lbo lTT lK1 lKR;go_upto_region 10 with fail;clear r0 r1 r2 r3 r4 r5 r6 r7 r8
    refine rK 19 (fun i=>i==17) ([b11]) (fun L w=>LinJ b11 ro.v (L 17) w) ([(vP b10 0),(vE (.int .i64 op)),(vE (.slice (some ⟨bo,oo,none⟩) rows.length co)),(vP b10 1),(vE (.int .i64 (ka:Int))),(vE (.pointer (some ⟨bo,oo+ka*6,none⟩))),(vE (.agg #[m0,m1,m2,m3,m4,m5])),(vE (.slice (some ⟨bo,oo,none⟩) rows.length co)),(vP b10 2),(vE (.int .i64 (kb:Int))),(vE (.pointer (some ⟨bo,oo+kb*6,none⟩))),(vE (.agg #[m0',m1',m2',m3',m4',m5'])),(vE (.int .i64 (pn:Int))),(fun v wv=>∃ d,v=.tuple #[d,.int .i64 ro.k]∧IvR wv d ro.v),(fun v wv=>∃ d,v=.tuple #[d,.int .i64 ro.k]∧IvR wv d ro.v),(fun v wv=>IvR wv v ro.v),(vE (.int .i64 ro.k)),(fun v _=>True),(vE (.int .i64 ro.k))])
     (fun i hE L w w' kq fj=>by simp only [I5 hE 17];exact LinJ.kept kq fj) ((by exact ⟨_,_,_,_,_,_,_,_,_,_,HZB.out,fun h=>absurd h (by decide)⟩)) (by exact ⟨
       (kq 10),(kvl 0 52 fun _ k=>Ct HLB.out k N10 0 _ rfl),(kq 8),(kq 10),(kvl 3 55 fun _ k=>Ct HLB.out k N10 1 _ rfl),(kvv 2 54 4 56),(kp fun _ aF wF F=>by have FK:=F.frame.1;have s57:=F.v 5 57;exact sw (by (obtain ⟨n0,n1,n2,n3,n4,n5⟩:=CA.out.kb FK NBO;go_simp)) rfl),(kq 8),(kq 10),(kvl 8 60 fun _ k=>Ct HLB.out k N10 2 _ rfl),(kvv 7 59 9 61),(kp fun _ aF wF F=>by have FK:=F.frame.1;have s62:=F.v 10 62;exact sw (by (obtain ⟨n0,n1,n2,n3,n4,n5⟩:=CB.out.kb FK NBO;go_simp)) rfl),(kq 2),(kp fun _ aF wF F=>by have FK:=F.frame.1;have s53:=F.v 1 53;have s58:=F.v 6 58;have s63:=F.v 11 63;have s64:=F.v 12 64;exact sP (CC.out _ FK) fun _ _ h=>h),(km 13 65),(kp fun _ aF wF F=>by have s51:=F.p 14 51;obtain ⟨dd,ee,hh⟩:=s51;exact sv hh),(kp fun _ aF wF F=>by have s51:=F.p 14 51;exact sw (by obtain ⟨dd,ee,hh⟩:=s51;go_simp) rfl),(.inr fun LF aF wF F=>by have FK:=F.frame.1;have fj:=F.frame.2;have s11:=F.q 11 (.pointer (some ⟨b11,0,none⟩));have s66:=F.p 15 66;obtain ⟨P1,i1,k1,P2,i2,k2,ee,z1,z2⟩:=Aq s66;simp only [Array.getD_eq_getD_getElem?] at ee;obtain ⟨_,_,_,_,_,_,_,_,_,_,hbb,-⟩:=LinJ.parts fj;obtain ⟨-,q0,q1,q2,q3,q4,q5⟩:=hbb.facts;obtain ⟨g0,g1,g2,g3,g4,g5⟩:=hbb.free;exact B8 (w':=ivW wF b11 _ _ _ _ _ _) (by simp [Region.wanted]) (by go_simp;rfl) ⟨FK.ivW hbb (by simp) _ _ _ _ _ _,⟨_,_,_,_,_,_,_,_,_,_,hbb.laid _ _ _ _ _ _,fun _=>Gr (show IvR wF (.agg #[_,_,_,_,_,_]) ro.v from ⟨_,_,_,_,_,_,rfl,z1,z2⟩) hbb _ _ _ _ _ _⟩⟩ (By _ ⟨vR,vR,vR,vR,vR,vR,vR,vR,vR,vR,vR,vR,vR,.inr (fun u h=>by first | exact Gr h hbb _ _ _ _ _ _ | exact ⟨h.choose,h.choose_spec.1,Gr h.choose_spec.2 hbb _ _ _ _ _ _⟩),.inr (fun u h=>by first | exact Gr h hbb _ _ _ _ _ _ | exact ⟨h.choose,h.choose_spec.1,Gr h.choose_spec.2 hbb _ _ _ _ _ _⟩),.inr (fun u h=>by first | exact Gr h hbb _ _ _ _ _ _ | exact ⟨h.choose,h.choose_spec.1,Gr h.choose_spec.2 hbb _ _ _ _ _ _⟩),vR,.inl rfl,vR,trivial⟩) trivial),(kv 16 67),
       trivial⟩) ?_
    intro u w3 L1 hL j1 hu;obtain ⟨q,j1⟩:=j1;have p65:=hp hu 13;have p51:=hp hu 14;have p66:=hp hu 15;simp only [Ax,Al,if_true,Act.put,zlA,zlB,zlC,zlD,zlE,zlF,zlG,hv hu 0,hv hu 1,hv hu 2,hv hu 3,hv hu 4,hv hu 5,hv hu 6,hv hu 7,hv hu 8,hv hu 9,hv hu 10,hv hu 11,hv hu 12,hv hu 16,hv hu 18];clear hu;generalize u 13=v65,u 14=v51,u 15=v66 at *;have jj:LinJ b11 ro.v true w3:=by
     have jj:=j1;simp only [hL 17 (by decide)] at jj;exact jj
    clear j1 hL p66 p65 p51 CC;obtain ⟨_,_,_,_,_,_,_,_,_,_,hbx,hiv⟩:=jj.parts;have hix:=hiv rfl;clear hiv;have kX:Kept wr w3:=KB.kept K2.out q (by intro x hx;simp at hx;have:=LB.out;have:=HB11.out;omega);go_simp;go_wp2_with fail
    go_meet
    exact ⟨ro,rfl,HLI.out,HO.out,kX,_,_,_,_,_,_,_,_,_,_,hbx,hix⟩
   obtain ⟨ro,rfl,ho,hok,kX,n1,P1,i1,q1,d1,n2,P2,i2,q2,d2,hbx,hix⟩:=hcut;have HBX:=hid hbx;have HIX:=hid hix;have HO:=hid hok;have HLI:=hid ho;clear hbx hix hok ho HML HML' HLB HZB HI;go_upto_region 21 with fail;generalize wc=X at *;have OWNX:=hid (HOWN.out.kept kX);have KX:=hid (KR.out.trans kX);clear kX;obtain ⟨-,s0,s1,s2,s3,s4,s5⟩:=HBX.out.facts;have lrows:rows.length≤1000:=by have:=HLEN.out;omega
   have lbase:w1.heap.size≤X.heap.size:=KX.out.size;have htk:ls.take (k+1)=ls.take k++[⟨op,a,b,kk⟩]:=by rw [List.take_add_one,HLK.out];rfl
   have hsn:=Q6 ov e pn (ls.take k) [] rows ⟨op,a,b,kk⟩ HROW.out;rw [←htk] at hsn;have HSN:=hid hsn;clear htk hsn;have hrk:(Ch ov e pn rows ⟨op,a,b,kk⟩).k=ro.k:=by rw [HLI.out];rfl
   have hrv:(Ch ov e pn rows ⟨op,a,b,kk⟩).v.raw=ro.v:=by rw [HLI.out];rfl
   have HRK:=hid hrk;have HRV:=hid hrv;clear hrk hrv;by_cases hk0:ro.k=0
   ·have gk:(ro.k==0)=true:=by simp [hk0]
    go_wp2_with (at_builtin;refine F9 rfl (.tmp 125) (.tmp 127) rfl rfl (OWNX.out.kept (Ad _ _)) (HIX.out.kept (Ad _ _)) (Eo _ _ _ _ _ _ _) rfl lrows (Nat.le_trans lbase (by simp)) ?_;intro v' X' OX' gX')
    have K':=hid (OwnI.grown_kept (OWNX.out.kept (Ad _ _)) (KX.out.trans (Ad _ _)) gX');have OX:=hid OX';clear s0 s1 s2 s3 s4 s5 gX' OX';go_roundw
    case rel =>
     refine ⟨k+1,rows++[ro.v],_,by omega,by go_num,?_,by simp [HLEN.out],?_,OX.out,K'.out⟩
     ·rw [HSN.out,HRK.out,if_pos hk0,HRV.out]
     ·rw [←HRV.out];exact HCL.out.snoc HO.out
    case measure=>simp only [intOf];omega
   ·have gk:(ro.k==0)=false:=by simp [hk0]
    go_wp2_with (at_builtin;refine F9 rfl (.tmp 125) (.tmp 127) rfl rfl (OWNX.out.kept (Ad _ _)) (HIX.out.kept (Ad _ _)) (Eo _ _ _ _ _ _ _) rfl lrows (Nat.le_trans lbase (by simp)) ?_;intro v' X' OX' gX')
    have K':=hid (OwnI.grown_kept (OWNX.out.kept (Ad _ _)) (KX.out.trans (Ad _ _)) gX');clear s0 s1 s2 s3 s4 s5 gX' OX';have e1:T=⟨[],ro.k⟩:=by
     rw [←HTL.out];have h1:=HSN.out;rw [HRK.out,if_neg hk0] at h1
     conv=>lhs;rw [←List.take_append_drop (k+1) ls]
     rw [Sp ov e pn _ _ _ (by rw [h1];exact hk0),h1]
    go_ret2
    subst e1;exact ⟨K1.out.trans K'.out,_,rfl,Hi _⟩
  ·obtain rfl:k=n:=by omega
   have e1:T=⟨rows,0⟩:=by
    rw [←HTL.out,←HROW.out,←HN.out,List.take_length]
   go_wp2_with fail
   go_ret2
   subst e1;exact ⟨K1.out.trans KR.out,_,rfl,HOWN.out.ivS⟩
def Mf (a:RawI):Bool:=decide (a.lo.m.length≤6)&&decide (a.hi.m.length≤6)
def Kh (l:List RawI):Bool:=decide (l.length≤8)&&l.all Mf
def Sf (ls:List Ln) (outs:List Int):Bool:=decide (ls.length≤40)&&decide (outs.length≤12)&&ls.all fun l=>Mf l.k
def Afj (e:En):Bool:=Kh [e.t]&&Kh e.x&&Kh e.u&&Kh e.p
theorem Ab7 {x:RawI}(h:l[i]?=some x)(hf:Mf x=false):Kh l=false:=by
 unfold Kh;have h2:l.all Mf=false:=by
  cases h3:l.all Mf with
  | false=>rfl
  | true=>have:=List.all_eq_true.1 h3 x (List.mem_of_getElem? h);rw [hf] at this;cases this
 rw [h2,Bool.and_false]
theorem Afk (h:l.length≤8)(hf:∀ (i:Nat) x,l[i]?=some x→Mf x=true):Kh l=true:=by
 unfold Kh;rw [decide_eq_true h,Bool.true_and,List.all_eq_true];intro x hx;obtain ⟨i,hi⟩:=List.getElem?_of_mem hx;exact hf i x hi
theorem IvAt.lens (h:IvAt w b o a):∃ x A c z x' A' c' z',w.cell? ⟨b,o,none⟩=some x∧w.cell? ⟨b,o+1,none⟩=some (.slice A a.lo.m.length c)∧w.cell? ⟨b,o+2,none⟩=some z ∧
 w.cell? ⟨b,o+3,none⟩=some x'∧w.cell? ⟨b,o+4,none⟩=some (.slice A' a.hi.m.length c')∧w.cell? ⟨b,o+5,none⟩=some z':=by
 obtain ⟨y0,y1,y2,y3,y4,y5,g0,g1,g2,g3,g4,g5,hI⟩:=h;obtain ⟨x0,x1,x2,x3,x4,x5,e,⟨s,e1,hs,-,-⟩,⟨s',e2,hs',-,-⟩⟩:=hI;obtain ⟨-,A,c,rfl,-,-⟩:=hs;obtain ⟨-,A',c',rfl,-,-⟩:=hs';injection e with e;injection e with e
 injection e1 with e1;injection e1 with e1
 injection e2 with e2;injection e2 with e2
 simp only [List.cons.injEq,and_true] at e e1 e2;obtain ⟨rfl,rfl,rfl,rfl,rfl,rfl⟩:=e;obtain ⟨rfl,rfl,rfl⟩:=e1;obtain ⟨rfl,rfl,rfl⟩:=e2;exact ⟨_,A,c,_,_,A',c',_,g0,g1,g2,g3,g4,g5⟩
theorem Acs (hv:IvS w v l)(hn:l.length≤1000000000000000)(hl:∀ a∈l,a.lens 17592186044416):Calls Tryz.prog 26 #[v] w (RetK (.bool (Kh l)) w):=by
 obtain ⟨A,c,rfl,hc,hA⟩:=hv;have HA:=hid hA;have HL:=hid hl;obtain ⟨R,hR⟩:∃ R,Kh l=R:=⟨_,rfl⟩;rw [hR];have HR:=hid hR;clear hA hR hl;obtain ⟨n,hn'⟩:∃ n,n=l.length:=⟨_,rfl⟩;rw [←hn'] at hn hc HA ⊢;have HN:=hid hn';clear hn';by_cases h8:n≤8
 ·have t1 : decide ((8 : Int) < (n : Int)) = false := by simp; omega
  go_enter Tryz.func26,Tryz.ntmps26;go_wp2_with fail;clear t1
  go_loopw [3] (fun t wr=>∃ k:Nat,k≤n∧t=.int .i64 k∧(∀ i x,i<k→l[i]?=some x→Mf x=true)∧Kept w wr) (fun t _=>(n-intOf t).toNat)
  case atStart=>exact ⟨0,Nat.zero_le _,rfl,fun i a hi=>absurd hi (Nat.not_lt_zero _),Below.refl _ _⟩
  case round =>
   obtain ⟨k,hk,rfl,hall,hKr⟩:=hrel;have KR:=hid hKr;have AL:=hid hall;clear hKr hall;by_cases hlt:k<n
   ·obtain ⟨b,off,rfl,hd⟩:=HA.out (by omega);obtain ⟨x,hx⟩:∃ x,l[k]?=some x:=⟨_,List.getElem?_eq_getElem (by have:=HN.out;omega)⟩;have hat:=(hd k x hx).kept KR.out;obtain ⟨y0,A1,q1,y2,y3,A2,q2,y5,g0,g1,g2,g3,g4,g5⟩:=hat.lens;have HX:=hid hx;obtain ⟨l1,l2⟩:=HL.out x (List.mem_of_getElem? hx);obtain ⟨fx,hfx⟩:∃ f,Mf x=f:=⟨_,rfl⟩;have HF:=hid hfx;unfold Mf at hfx;generalize x.lo.m.length=n1,x.hi.m.length=n2 at *;clear hd hx hat g0 g2 g3 g5;by_cases f1:n1≤6
    ·have u1:decide ((6:Int)<(n1:Int))=false:=by simp;omega
     by_cases f2:n2≤6
     ·have u2:decide ((6:Int)<(n2:Int))=false:=by simp;omega
      obtain rfl:fx=true:=by rw [←hfx];simp [f1,f2]
      clear hfx f1 f2;go_wp2_with fail;go_roundw
      case rel =>
       refine ⟨k+1,by omega,by go_num,fun i a hi ha'=>?_,KR.out⟩;by_cases h2:i=k
       ·subst h2;rw [HX.out] at ha';cases ha';exact HF.out
       ·exact AL.out i a (by omega) ha'
      case measure=>simp only [intOf];omega
     ·have u2:decide ((6:Int)<(n2:Int))=true:=by simp;omega
      obtain rfl:fx=false:=by rw [←hfx];simp [f2]
      clear hfx f1 f2;go_wp2_with fail;go_ret;exact ⟨by rw [←HR.out,Ab7 HX.out HF.out];rfl,KR.out⟩
    ·have u1:decide ((6:Int)<(n1:Int))=true:=by simp;omega
     obtain rfl:fx=false:=by rw [←hfx];simp [f1]
     clear hfx f1;go_wp2_with fail;go_ret;exact ⟨by rw [←HR.out,Ab7 HX.out HF.out];rfl,KR.out⟩
   ·obtain rfl:k=n:=by omega
    go_wp2_with fail;go_ret;exact ⟨by rw [←HR.out,Afk (by have:=HN.out;omega) (fun i x hx=>AL.out i x (by have:=(List.getElem?_eq_some_iff.1 hx).1;have:=HN.out;omega) hx)];rfl,KR.out⟩
 ·have t1:decide ((8:Int)<(n:Int))=true:=by simp;omega
  go_enter Tryz.func26,Tryz.ntmps26;go_wp2_with fail;go_ret;exact ⟨by rw [←HR.out];unfold Kh;rw [decide_eq_false (by have:=HN.out;omega)];rfl,Below.refl _ _⟩
theorem Ab8 {x:Ln}(h:ls[i]?=some x)(hf:Mf x.k=false):Sf ls outs=false:=by
 unfold Sf;have h2:(ls.all fun l=>Mf l.k)=false:=by
  cases h3:ls.all fun l=>Mf l.k with
  | false=>rfl
  | true=>have:=List.all_eq_true.1 h3 x (List.mem_of_getElem? h);rw [hf] at this;cases this
 rw [h2,Bool.and_false]
theorem Afl (h:ls.length≤40)(h':outs.length≤12)(hf:∀ (i:Nat) x,ls[i]?=some x→Mf x.k=true):Sf ls outs=true:=by
 unfold Sf;rw [decide_eq_true h,decide_eq_true h',Bool.true_and,Bool.true_and,List.all_eq_true];intro x hx;obtain ⟨i,hi⟩:=List.getElem?_of_mem hx;exact hf i x hi
theorem Aal (h:Sf ls outs=true):ls.length≤40∧outs.length≤12∧∀ l∈ls,l.k.lens 6:=by
 unfold Sf Mf at h;simp only [Bool.and_eq_true,decide_eq_true_eq,List.all_eq_true] at h;exact ⟨h.1.1,h.1.2,fun l hl=>h.2 l hl⟩
theorem Lp (h:Kh l=true):l.length≤8∧∀ a∈l,a.lens 6:=by
 unfold Kh Mf at h;simp only [Bool.and_eq_true,decide_eq_true_eq,List.all_eq_true] at h;exact ⟨h.1,fun l hl=>h.2 l hl⟩
theorem Am5 (hv:TpR w v ls outs)(hn:ls.length≤1000000000000000)(hno:outs.length≤1000000000000000)(hl:W5   ls) :
 Calls Tryz.prog 11 #[v] w (RetK (.bool (Sf ls outs)) w):=by
 obtain ⟨s,o,rfl,hls,hou⟩:=hv;obtain ⟨A,c,rfl,hc,hA⟩:=hls;obtain ⟨B,d,rfl,hd,-⟩:=hou;have HA:=hid hA;have HL:=hid hl;obtain ⟨W,hW,kW,hb,lW⟩:=Amy w (.slice A ls.length c) (.slice B outs.length d);have HW:=hid hW;have K:=hid kW;have HB:=hid hb;obtain ⟨c0,c1⟩:=E4 hb;obtain ⟨R,hR⟩:∃ R,Sf ls outs=R:=⟨_,rfl⟩;rw [hR];have HR:=hid hR;clear hA hR hl hW kW hb;obtain ⟨n,hn'⟩:∃ n,n=ls.length:=⟨_,rfl⟩;obtain ⟨no,hno'⟩:∃ n,n=outs.length:=⟨_,rfl⟩;rw [←hn'] at hn hc HA HW HB ⊢;rw [←hn'] at c0;rw [←hno'] at hno hd HW HB ⊢;rw [←hno'] at c1;have HN:=hid hn';have HNO:=hid hno';clear hn' hno';by_cases h8:n≤40
 ·have t1 : decide ((40 : Int) < (n : Int)) = false := by simp; omega
  by_cases h9:no≤12
  ·have t2 : decide ((12 : Int) < (no : Int)) = false := by simp; omega
   go_enter Tryz.func11,Tryz.ntmps11;go_upto_region 1 with fail;rw [←HW.out];go_wp2_with fail;clear t1 t2 c0 c1
   go_loopw [3] (fun t wr=>∃ k:Nat,k≤n∧t=.int .i64 k∧(∀ i x,i<k→ls[i]?=some x→Mf x.k=true)∧Kept W wr) (fun t _=>(n-intOf t).toNat)
   case atStart=>exact ⟨0,Nat.zero_le _,rfl,fun i a hi=>absurd hi (Nat.not_lt_zero _),Below.refl _ _⟩
   case round =>
    obtain ⟨k,hk,rfl,hall,hKr⟩:=hrel;have KR:=hid hKr;have AL:=hid hall;obtain ⟨c0,-⟩:=E4 (Bk HB.out hKr);clear hKr hall;by_cases hlt:k<n
    ·obtain ⟨b,off,rfl,hd⟩:=HA.out (by omega);obtain ⟨x,hx⟩:∃ x,ls[k]?=some x:=⟨_,List.getElem?_eq_getElem (by have:=HN.out;omega)⟩;have hat:=(hd k x hx).kept (K.out.trans KR.out);obtain ⟨y0,A1,q1,y2,y3,A2,q2,y5,g0,g1,g2,g3,g4,g5⟩:=hat.2.2.2.lens;have HX:=hid hx;obtain ⟨-,-,l1,l2⟩:=HL.out x (List.mem_of_getElem? hx);obtain ⟨fx,hfx⟩:∃ f,Mf x.k=f:=⟨_,rfl⟩;have HF:=hid hfx;unfold Mf at hfx;generalize x.k.lo.m.length=n1,x.k.hi.m.length=n2 at *;clear hd hx hat g0 g2 g3 g5;by_cases f1:n1≤6
     ·have u1:decide ((6:Int)<(n1:Int))=false:=by simp;omega
      by_cases f2:n2≤6
      ·have u2:decide ((6:Int)<(n2:Int))=false:=by simp;omega
       obtain rfl:fx=true:=by rw [←hfx];simp [f1,f2]
       clear hfx f1 f2;go_wp2_with fail;go_roundw
       case rel =>
        refine ⟨k+1,by omega,by go_num,fun i a hi ha'=>?_,KR.out⟩;by_cases h2:i=k
        ·subst h2;rw [HX.out] at ha';cases ha';exact HF.out
        ·exact AL.out i a (by omega) ha'
       case measure=>simp only [intOf];omega
      ·have u2:decide ((6:Int)<(n2:Int))=true:=by simp;omega
       obtain rfl:fx=false:=by rw [←hfx];simp [f2]
       clear hfx f1 f2;go_wp2_with fail;go_ret;exact ⟨by rw [←HR.out,Ab8 HX.out HF.out];rfl,K.out.trans KR.out⟩
     ·have u1:decide ((6:Int)<(n1:Int))=true:=by simp;omega
      obtain rfl:fx=false:=by rw [←hfx];simp [f1]
      clear hfx f1;go_wp2_with fail;go_ret;exact ⟨by rw [←HR.out,Ab8 HX.out HF.out];rfl,K.out.trans KR.out⟩
    ·obtain rfl:k=n:=by omega
     go_wp2_with fail;go_ret;exact ⟨by rw [←HR.out,Afl (by have:=HN.out;omega) (by have:=HNO.out;omega) (fun i x hx=>AL.out i x (by have:=(List.getElem?_eq_some_iff.1 hx).1;have:=HN.out;omega) hx)];rfl,K.out.trans KR.out⟩
  ·have t2:decide ((12:Int)<(no:Int))=true:=by simp;omega
   go_enter Tryz.func11,Tryz.ntmps11;go_upto_region 1 with fail;rw [←HW.out];go_wp2_with fail;go_ret;exact ⟨by rw [←HR.out];unfold Sf;rw [decide_eq_false (p:=outs.length≤12) (by have:=HNO.out;omega),Bool.and_false];rfl,K.out⟩
 ·have t1:decide ((40:Int)<(n:Int))=true:=by simp;omega
  go_enter Tryz.func11,Tryz.ntmps11;go_upto_region 1 with fail;rw [←HW.out];go_wp2_with fail;go_ret;exact ⟨by rw [←HR.out];unfold Sf;rw [decide_eq_false (p:=ls.length≤40) (by have:=HN.out;omega)];rfl,K.out⟩
def Aer (e:En):Prop:=e.t.lens 17592186044416∧(∀ a∈e.x,a.lens 17592186044416)∧(∀ a∈e.u,a.lens 17592186044416)∧(∀ a∈e.p,a.lens 17592186044416)∧e.x.length≤1000000000000000∧e.u.length≤1000000000000000∧e.p.length≤1000000000000000
theorem Akk (w:World)(x0 x1 x2 x3 x4 x5 x6 x7 x8:Value):∃ W,W=w.alloc (.cells #[x0,x1,x2,x3,x4,x5,x6,x7,x8] 33)∧Kept w W∧W.heap[w.heap.size]?=some (.cells #[x0,x1,x2,x3,x4,x5,x6,x7,x8] 33 (0,0))∧w.heap.size<W.heap.size :=
 ⟨_,rfl,Ad _ _,heap_alloc_new _ _,by simp⟩
theorem Ai0 {x0 x1 x2 x3 x4 x5:Value}(h:IvR w (.agg #[x0,x1,x2,x3,x4,x5]) a) :
 IvS (w.alloc (.cells #[x0,x1,x2,x3,x4,x5] 30)) (.slice (some ⟨w.heap.size,0,none⟩) 1 1) [a]:=by
 refine ⟨some ⟨w.heap.size,0,none⟩,1,rfl,Nat.le_refl _,fun _=>⟨_,0,rfl,fun i r hi=>?_⟩⟩;rcases i with _ | i
 ·cases hi;have hb:=heap_alloc_new w (.cells #[x0,x1,x2,x3,x4,x5] 30);exact ⟨x0,x1,x2,x3,x4,x5,Ae hb 0 _ rfl,Ae hb 1 _ rfl,Ae hb 2 _ rfl,Ae hb 3 _ rfl,Ae hb 4 _ rfl,Ae hb 5 _ rfl,h.kept (Ad _ _)⟩
 ·simp at hi
theorem Ali (he:EnR w v e)(hle:Aer e):Calls Tryz.prog 12 #[v] w (RetK (.bool (Afj e)) w):=by
 obtain ⟨x0,x1,x2,x3,x4,x5,sx,su,sp,rfl,ht,hx,hu,hp⟩:=he;obtain ⟨lt,lx,lu,lp,nx,nu,np⟩:=hle;have HT:=hid ht;have R0:=hid (fun w1 v (h:IvS w1 v [e.t])=>Acs h (by simp) (fun a ha=>by rw [List.mem_singleton.1 ha];exact lt));have R1:=hid (fun w1 (k:Kept w w1)=>Acs (hx.kept k) nx lx);have R2:=hid (fun w1 (k:Kept w w1)=>Acs (hu.kept k) nu lu);have R3:=hid (fun w1 (k:Kept w w1)=>Acs (hp.kept k) np lp);obtain ⟨b,hb⟩:∃ b,b=Afj e:=⟨_,rfl⟩;rw [←hb];have HB:Hid (b=(Kh [e.t]&&Kh e.x&&Kh e.u&&Kh e.p)):=hid hb;clear hb;generalize Kh [e.t]=b0 at *;generalize Kh e.x=b1 at *;generalize Kh e.u=b2 at *
 generalize Kh e.p=b3 at *;obtain ⟨A1,c1,rfl,-,-⟩:=hx;obtain ⟨A2,c2,rfl,-,-⟩:=hu;obtain ⟨A3,c3,rfl,-,-⟩:=hp;obtain ⟨W,hW,kW,hB,lW⟩:=Akk w x0 x1 x2 x3 x4 x5 (.slice A1 e.x.length c1) (.slice A2 e.u.length c2) (.slice A3 e.p.length c3);have HW:=hid hW;have K:=hid kW;have HBW:=hid hB;obtain ⟨d0,d1,d2,d3,d4,d5,d6,d7,d8⟩:=Bo hB;clear ht lt lx lu lp nx nu np hW kW hB;go_enter Tryz.func12,Tryz.ntmps12;go_upto_region 1 with fail;rw [←HW.out];go_wp2_with fail;refine (R0.out _ _ (Ai0 (HT.out.kept K.out))).mono ?_;rintro e' w1 ⟨rfl,q⟩;have K1:=hid ((Ad _ _).trans q);clear q d0 d1 d2 d3 d4 d5 d6 d7 d8 HW
 obtain ⟨-,-,-,-,-,-,d6,d7,d8⟩:=Bo (Bk HBW.out K1.out);simp only [];cases b0
 ·go_wp2_with fail;go_ret;exact ⟨by rw [HB.out];rfl,K.out.trans K1.out⟩
 go_wp2_with fail;refine (R1.out _ (K.out.trans K1.out)).mono ?_;rintro e' w2 ⟨rfl,q⟩;replace K1:=hid (K1.out.trans q);clear q d6 d7 d8;obtain ⟨-,-,-,-,-,-,d6,d7,d8⟩:=Bo (Bk HBW.out K1.out);simp only [];cases b1
 ·go_wp2_with fail;go_ret;exact ⟨by rw [HB.out];rfl,K.out.trans K1.out⟩
 go_wp2_with fail;refine (R2.out _ (K.out.trans K1.out)).mono ?_;rintro e' w3 ⟨rfl,q⟩;replace K1:=hid (K1.out.trans q);clear q d6 d7 d8;obtain ⟨-,-,-,-,-,-,d6,d7,d8⟩:=Bo (Bk HBW.out K1.out);simp only [];cases b2
 ·go_wp2_with fail;go_ret;exact ⟨by rw [HB.out];rfl,K.out.trans K1.out⟩
 go_wp2_with fail;refine (R3.out _ (K.out.trans K1.out)).mono ?_;rintro e' w4 ⟨rfl,q⟩;replace K1:=hid (K1.out.trans q);clear q d6 d7 d8;simp only [];go_wp2_with fail;go_ret;exact ⟨by rw [HB.out];cases b3<;>rfl,K.out.trans K1.out⟩
end Go.Proofs.YtabjjdicffcolaaGreatDoor
