/- Words and contracts, part 34. -/
import Derived.Test.YtmgaloopddiekaaGreatDoorClaimFargsp33
set_option maxRecDepth 100000
set_option maxHeartbeats 0
namespace Go.Proofs.YtmgaloopddiekaaGreatDoor
open Go.Lib (hid)
open Go.RowKit
theorem Abf (w:World)(s o x0 x1 x2 x3 x4 x5 x6 x7 x8:Value):∃ W,W=(w.alloc (.cells #[s,o] 25)).alloc (.cells #[x0,x1,x2,x3,x4,x5,x6,x7,x8] 133)∧Kept w W∧W.heap[w.heap.size]?=some (.cells #[s,o] 25 (0,0)) ∧
 W.heap[w.heap.size+1]?=some (.cells #[x0,x1,x2,x3,x4,x5,x6,x7,x8] 133 (0,0))∧W.heap.size=w.heap.size+1+1:=by
 refine ⟨_,rfl,(Ad _ _).trans (Ad _ _),Aj (heap_alloc_new _ _) (Ad _ _),?_,by simp⟩;have:=heap_alloc_new (w.alloc (.cells #[s,o] 25)) (.cells #[x0,x1,x2,x3,x4,x5,x6,x7,x8] 133);simpa using this
theorem IvR.clean {w:World}{v:Value}{a:RawI}(h:IvR w v a)(hm:Ck a=true):a.iv.Ok∧a.iv.raw=a:=by
 obtain ⟨x,y,z,x',y',z',rfl,h1,h2⟩:=h;exact Gi (Fo h1) (Fo h2) hm
theorem IvR.ivC {w:World}{v:Value}{a:RawI}(h:IvR w v a)(hr:a.iv.raw=a):IvC w v a.iv:=by unfold IvC;rw [hr];exact h
theorem IvS.cl {w:World}{v:Value}{l:List RawI}(h:IvS w v l)(hm:l.all Ck=true):Cl l:=by
 obtain ⟨A,c,rfl,hc,hA⟩:=h;intro a ha;obtain ⟨i,hi,he⟩:=List.mem_iff_getElem.1 ha;obtain ⟨b,off,rfl,hd⟩:=hA (by omega);obtain ⟨x,y,z,x',y',z',h0,h1,h2,h3,h4,h5,hI⟩:=hd i a (by rw [List.getElem?_eq_getElem hi,he]);exact hI.clean (List.all_eq_true.1 hm a ha)
theorem IvS.at {w:World}{A:Option Addr}{n c:Nat}{l:List RawI}(h:IvS w (.slice A n c) l){i:Nat}(hi:i<l.length):∃ b off a,A=some ⟨b,off,none⟩∧n=l.length∧l[i]?=some a∧IvAt w b (off+i*6) a:=by
 obtain ⟨A',c',e,hc,hA⟩:=h;injection e with e1 e2 e3
 subst e1;subst e2;subst e3;obtain ⟨b,off,rfl,hd⟩:=hA (by omega);exact ⟨b,off,l[i],rfl,rfl,List.getElem?_eq_getElem hi,hd i _ (List.getElem?_eq_getElem hi)⟩
theorem Fy {w:World}{v:Value}{a:RawI}{b:Nat}{n n':Bool}{A A':Option Addr}{l c l' c':Nat}{e e':Int}(h:IvR w v a)(hb:BlkI w b (.bool n) (.slice A l c) (.int .i64 e) (.bool n') (.slice A' l' c') (.int .i64 e'))(x y z x' y' z':Value) :
 IvR (ivW w b x y z x' y' z') v a:=by
 obtain ⟨p,q,r,p',q',r',rfl,h1,h2⟩:=h;exact ⟨p,q,r,p',q',r',rfl,h1.ivW hb _ _ _ _ _ _,h2.ivW hb _ _ _ _ _ _⟩
theorem Ajm {a b i x u p:Int}{k:RawI}(h:Gq ⟨3,a,b,k⟩ i x u p=true):0≤a∧a<x:=by
 unfold Gq Cd at h;simp at h;exact h.2.1
theorem Ajn {a b i x u p:Int}{k:RawI}(h:Gq ⟨4,a,b,k⟩ i x u p=true):0≤a∧a<u:=by
 unfold Gq Cd at h;simp at h;exact h.2.1
theorem Ajo {a b i x u p:Int}{k:RawI}(h:Gq ⟨5,a,b,k⟩ i x u p=true):0≤a∧a<p:=by
 unfold Gq Cd at h;simp at h;exact h.2.1
theorem Ajp {op a b i x u p:Int}{k:RawI}(h:Gq ⟨op,a,b,k⟩ i x u p=true)(h1:op≠1)(h2:op≠2)(h3:op≠3)(h4:op≠4)(h5:op≠5):0≤a∧a<i∧0≤b∧b<i∧6≤op∧op≤13:=by
 unfold Gq Cd at h;simp only [if_neg h1,if_neg h2,if_neg h3,if_neg h4,if_neg h5] at h;split at h
 ·cases h
 ·split at h
  ·simp only [Bool.and_eq_true,decide_eq_true_eq] at h;omega
  ·split at h
   ·simp only [Bool.and_eq_true,decide_eq_true_eq] at h;omega
   ·cases h
def Cells6 (w:World) (b o:Nat) (m0 m1 m2 m3 m4 m5:Value):Prop:=w.cell? ⟨b,o,none⟩=some m0∧w.cell? ⟨b,o+1,none⟩=some m1∧w.cell? ⟨b,o+2,none⟩=some m2∧w.cell? ⟨b,o+3,none⟩=some m3∧w.cell? ⟨b,o+4,none⟩=some m4∧w.cell? ⟨b,o+5,none⟩=some m5
theorem Cells6.kept {w w':World}{b o:Nat}{m0 m1 m2 m3 m4 m5:Value}(h:Cells6 w b o m0 m1 m2 m3 m4 m5)(k:Kept w w'):Cells6 w' b o m0 m1 m2 m3 m4 m5:=by
 obtain ⟨h0,h1,h2,h3,h4,h5⟩:=h;have hb:=Bg h0;exact ⟨(k.cell (p:=⟨b,o,none⟩) hb).trans h0,(k.cell (p:=⟨b,o+1,none⟩) hb).trans h1,(k.cell (p:=⟨b,o+2,none⟩) hb).trans h2,(k.cell (p:=⟨b,o+3,none⟩) hb).trans h3,(k.cell (p:=⟨b,o+4,none⟩) hb).trans h4,(k.cell (p:=⟨b,o+5,none⟩) hb).trans h5⟩
theorem Cells6.kb {W w:World}{X:List Nat}{b o:Nat}{m0 m1 m2 m3 m4 m5:Value}(h:Cells6 W b o m0 m1 m2 m3 m4 m5)(k:KB W X w)(hn:b∉X):Cells6 w b o m0 m1 m2 m3 m4 m5:=by
 obtain ⟨h0,h1,h2,h3,h4,h5⟩:=h;exact ⟨k.cell h0 hn,k.cell h1 hn,k.cell h2 hn,k.cell h3 hn,k.cell h4 hn,k.cell h5 hn⟩
def LinJ (b:Nat) (r:RawI) (l:Bool) (w:World):Prop :=
 ∃ n A i c d n' A' i' c' d',BlkI w b (.bool n) (.slice A i c) (.int .i64 d) (.bool n') (.slice A' i' c') (.int .i64 d')∧(l=true→IvR w (.agg #[.bool n,.slice A i c,.int .i64 d,.bool n',.slice A' i' c',.int .i64 d']) r)
theorem LinJ.parts {b:Nat}{r:RawI}{l:Bool}{w:World}(h:LinJ b r l w):∃ n A i c d n' A' i' c' d',BlkI w b (.bool n) (.slice A i c) (.int .i64 d) (.bool n') (.slice A' i' c') (.int .i64 d')∧(l=true→IvR w (.agg #[.bool n,.slice A i c,.int .i64 d,.bool n',.slice A' i' c',.int .i64 d']) r):=h
theorem LinJ.kept {b:Nat}{r:RawI}{l:Bool}{w w':World}(q:Kept w w')(h:LinJ b r l w):LinJ b r l w':=by
 obtain ⟨n,A,i,c,d,n',A',i',c',d',h1,h2⟩:=h;exact ⟨n,A,i,c,d,n',A',i',c',d',h1.kept q,fun hl=>(h2 hl).kept q⟩
theorem Ai2 (w:World)(o a b k0 k1 k2 k3 k4 k5:Value):∃ W,W=(w.alloc (.cells #[o,a,b,k0,k1,k2,k3,k4,k5] 53)).alloc (.cells #[.bool false,.slice none 0 0,.int .i64 0,.bool false,.slice none 0 0,.int .i64 0] 51)∧Kept w W ∧
 W.heap[w.heap.size]?=some (.cells #[o,a,b,k0,k1,k2,k3,k4,k5] 53 (0,0))∧BlkI W (w.heap.size+1) (.bool false) (.slice none 0 0) (.int .i64 0) (.bool false) (.slice none 0 0) (.int .i64 0)∧W.heap.size=w.heap.size+1+1:=by
 refine ⟨_,rfl,(Ad _ _).trans (Ad _ _),Aj (heap_alloc_new _ _) (Ad _ _),?_,by simp⟩;have:=Dv (w.alloc (.cells #[o,a,b,k0,k1,k2,k3,k4,k5] 53));simpa using this
theorem Tn {P Q:Prop} [Decidable P] [Decidable Q] (h:P↔¬Q):decide P=!decide Q:=by
 by_cases hq:Q<;>simp [hq,h]
theorem Afu {S:Int→Prop}{ov:Iv→Nat→Outc Iv}{w:World}{vt ve:Value}{ls:List Ln}{outs:List Int}{e:En}{p:Int}(hv:TpR w vt ls outs)(he:EnR w ve e)(hok:Ke ls)(hle:R5 e)(hn:ls.length≤1000000000)(hno:outs.length≤1000000000)
 (hT:Tab w) (hov:∀ l∈ls,l.op=13→OvC ov) (O:R8 S) (hS:∀ l∈ls,6≤l.op→l.op≤12→S l.op) :
 Calls Tryz.prog 148 #[vt,ve,.int .i64 p] w (Kf (Kb ov ls outs e p) w):=by
 have MT:=hid (fun w1 (k:Kept w w1)=>W8 (x:=e.x.length) (u:=e.u.length) (p:=e.p.length) (hv.kept k) hok hn hno (by have:=hle.2.2.2.2.1;omega) (by have:=hle.2.2.2.2.2.1;omega) (by have:=hle.2.2.2.2.2.2;omega));have ME:=hid (fun w1 (k:Kept w w1)=>Acr (he.kept k) hle);obtain ⟨s,o,rfl,hls,hou⟩:=hv;obtain ⟨x0,x1,x2,x3,x4,x5,sx,su,sp,rfl,ht,hx,hu,hp⟩:=he;have HLS:=hid hls;have HTT:=hid ht;have HX:=hid hx;have HU:=hid hu;have HP:=hid hp;have OK:=hid hok;have OV:=hid hov;have OPS:=hid O;have HS:=hid hS;clear O hS;have TT:=hid hT;obtain ⟨A,c,rfl,hc,-⟩:=hls;obtain ⟨B,d,rfl,-,-⟩:=hou;obtain ⟨AX,cx,rfl,-,-⟩:=hx
 obtain ⟨AU,cu,rfl,-,-⟩:=hu;obtain ⟨AP,cp,rfl,-,-⟩:=hp;obtain ⟨W,hW,kW,hb,hb',lW⟩:=Abf w (.slice A ls.length c) (.slice B outs.length d) x0 x1 x2 x3 x4 x5 (.slice AX e.x.length cx) (.slice AU e.u.length cu) (.slice AP e.p.length cp);have HW:=hid hW;have K:=hid kW;have HB:=hid hb;have HB':=hid hb';obtain ⟨c0,c1⟩:=Cj hb;obtain ⟨d0,d1,d2,d3,d4,d5,d6,d7,d8⟩:=Cf hb';clear hok hle hW kW hb hb' hT hov;obtain ⟨mt,hmt⟩:∃ m,Hk ls outs e.x.length e.u.length e.p.length=m:=⟨_,rfl⟩;obtain ⟨me,hme⟩:∃ m,Sr e=m:=⟨_,rfl⟩;rw [hmt] at MT;rw [hme] at ME;obtain ⟨fa,hfa⟩:∃ f,decide (1≤p)=f:=⟨_,rfl⟩;obtain ⟨fb,hfb⟩:∃ f,decide (p≤300)=f:=⟨_,rfl⟩
 have FA:Hid (decide (p<1)=!fa):=hid (by rw [←hfa];exact Tn (by omega));have FB:Hid (decide (300<p)=!fb):=hid (by rw [←hfb];exact Tn (by omega));have EM:Hid ((fa&&fb&&mt&&me)=true↔1≤p∧p≤300∧Hk ls outs e.x.length e.u.length e.p.length=true∧Sr e=true):=hid (by
  rw [←hfa,←hfb,←hmt,←hme];simp only [Bool.and_eq_true,decide_eq_true_eq,and_assoc])
 have HME:=hid hme;have HMT:=hid hmt;clear hfa hfb hmt hme;obtain ⟨T,hTI⟩:∃ T,Kb ov ls outs e p=T:=⟨_,rfl⟩;rw [hTI];have HTI:=hid hTI;clear hTI;generalize hnl:ls.length=n at *;have HN:=hid hnl;clear hnl;go_enter Tryz.func148,Tryz.ntmps148;go_upto_region 1 with fail;rw [←HW.out];go_step3;go_upto_region 1 with fail;clear c0 c1 d0 d1 d2 d3 d4 d5 d6 d7 d8
 refine rS 25 ([(vE (.int .i64 p)),(vE (.bool (!fa))),(vE (.bool (!fa))),(fun v wv=>(fa=true→(fun v _=>v=(.int .i64 p)) v wv)∧(fa=false→v=undef)),(fun v wv=>(fa=true→(fun v _=>v=(.bool (!fb))) v wv)∧(fa=false→v=undef)),(vE (.bool (!(fa&&fb)))),(vE (.bool (!(fa&&fb)))),(fun v wv=>((fa&&fb)=true→(fun v _=>v=(.agg #[.slice A n c,.slice B outs.length d])) v wv)∧((fa&&fb)=false→v=undef)),(fun v wv=>((fa&&fb)=true→(fun v _=>v=(.pointer (some ⟨w.heap.size+1,6,none⟩))) v wv)∧((fa&&fb)=false→v=undef)),(fun v wv=>((fa&&fb)=true→(fun v _=>v=(.slice AX e.x.length cx)) v wv)∧((fa&&fb)=false→v=undef)),(fun v wv=>((fa&&fb)=true→(fun v _=>v=(.int .i64 (e.x.length:Int))) v wv)∧((fa&&fb)=false→v=undef)),(fun v wv=>((fa&&fb)=true→(fun v _=>v=(.pointer (some ⟨w.heap.size+1,7,none⟩))) v wv)∧((fa&&fb)=false→v=undef)),(fun v wv=>((fa&&fb)=true→(fun v _=>v=(.slice AU e.u.length cu)) v wv)∧((fa&&fb)=false→v=undef)),(fun v wv=>((fa&&fb)=true→(fun v _=>v=(.int .i64 (e.u.length:Int))) v wv)∧((fa&&fb)=false→v=undef)),(fun v wv=>((fa&&fb)=true→(fun v _=>v=(.pointer (some ⟨w.heap.size+1,8,none⟩))) v wv)∧((fa&&fb)=false→v=undef)),(fun v wv=>((fa&&fb)=true→(fun v _=>v=(.slice AP e.p.length cp)) v wv)∧((fa&&fb)=false→v=undef)),(fun v wv=>((fa&&fb)=true→(fun v _=>v=(.int .i64 (e.p.length:Int))) v wv)∧((fa&&fb)=false→v=undef)),(fun v wv=>((fa&&fb)=true→(fun v _=>v=(.bool mt)) v wv)∧((fa&&fb)=false→v=undef)),(fun v wv=>((fa&&fb)=true→(fun v _=>v=(.bool (!mt))) v wv)∧((fa&&fb)=false→v=undef)),(vE (.bool (!(fa&&fb&&mt)))),(vE (.bool (!(fa&&fb&&mt)))),(fun v wv=>((fa&&fb&&mt)=true→(fun v _=>v=(.agg #[x0,x1,x2,x3,x4,x5,.slice AX e.x.length cx,.slice AU e.u.length cu,.slice AP e.p.length cp])) v wv)∧((fa&&fb&&mt)=false→v=undef)),(fun v wv=>((fa&&fb&&mt)=true→(fun v _=>v=(.bool me)) v wv)∧((fa&&fb&&mt)=false→v=undef)),(fun v wv=>((fa&&fb&&mt)=true→(fun v _=>v=(.bool (!me))) v wv)∧((fa&&fb&&mt)=false→v=undef)),(vE (.bool (!(fa&&fb&&mt&&me))))])
  ⟨
   (gq 2),(fun aF wF F=>by have s13:=F.v 0 13;exact sw (by (go_simp;exact FA.out)) rfl),(gv 1 14),
   (fun aF wF F=>by
  have sg:=F.v 2 15;have s2:=F.q 2 (.int .i64 p);rcases Ay fa with hC | hC
  ·refine sIm hC (vE (.int .i64 p)) ?_;exact sVc rfl rfl sg (by first | rfl | simp [hC])
  ·exact sOc rfl rfl sg (by first | rfl | simp [hC]) (nW hC)),
   (fun aF wF F=>by
  have sg:=F.v 2 15;have s16:(fa=true→aF.tmps.getD 16 undef=(.int .i64 p))∧(fa=false→aF.tmps.getD 16 undef=undef):=F.done 3 16 (by kernel_rfl) rfl;rcases Ay fa with hC | hC
  ·refine sIm hC (vE (.bool (!fb))) ?_;replace s16:=s16.1 hC;exact A0 ((Al rfl rfl sg).trans (by first | rfl | simp [hC])) (by (go_simp;exact FB.out)) rfl
  ·exact sOc rfl rfl sg (by first | rfl | simp [hC]) (nW hC)),
   (fun aF wF F=>by
  have s15:=F.v 2 15;have s17:(fa=true→aF.tmps.getD 17 undef=(.bool (!fb)))∧(fa=false→aF.tmps.getD 17 undef=undef):=F.done 4 17 (by kernel_rfl) rfl;rcases Ay fa with hE | hE
  ·replace s17:=s17.1 hE;exact sw (by first | (go_simp;done) | (go_simp;simp_all;done) | (simp_all;done)) rfl
  ·exact sw (by first | (go_simp;done) | (go_simp;simp_all;done) | (simp_all;done)) rfl),(gv 5 18),
   (fun aF wF F=>by
  have sg:=F.v 6 19;have s3:=F.q 3 (.pointer (some ⟨w.heap.size,0,none⟩));have c0:=Ai HB.out F.kept 0 _ rfl;have c1:=Ai HB.out F.kept 1 _ rfl;rcases Ay (fa&&fb) with hC | hC
  ·refine sIm hC (vE (.agg #[.slice A n c,.slice B outs.length d])) ?_;exact sVc rfl rfl sg (by first | rfl | simp [hC])
  ·exact sOc rfl rfl sg (by first | rfl | simp [hC]) (nW hC)),
   (fun aF wF F=>by
  have sg:=F.v 6 19;have s4:=F.q 4 (.pointer (some ⟨w.heap.size+1,0,none⟩));rcases Ay (fa&&fb) with hC | hC
  ·refine sIm hC (vE (.pointer (some ⟨w.heap.size+1,6,none⟩))) ?_;exact sVc rfl rfl sg (by first | rfl | simp [hC])
  ·exact sOc rfl rfl sg (by first | rfl | simp [hC]) (nW hC)),
   (fun aF wF F=>by
  have sg:=F.v 6 19;have s21:((fa&&fb)=true→aF.tmps.getD 21 undef=(.pointer (some ⟨w.heap.size+1,6,none⟩)))∧((fa&&fb)=false→aF.tmps.getD 21 undef=undef):=F.done 8 21 (by kernel_rfl) rfl;have c0:=Ai HB'.out F.kept 6 _ rfl;rcases Ay (fa&&fb) with hC | hC
  ·refine sIm hC (vE (.slice AX e.x.length cx)) ?_;replace s21:=s21.1 hC;exact sVc rfl rfl sg (by first | rfl | simp [hC])
  ·exact sOc rfl rfl sg (by first | rfl | simp [hC]) (nW hC)),
   (fun aF wF F=>by
  have sg:=F.v 6 19;have s22:((fa&&fb)=true→aF.tmps.getD 22 undef=(.slice AX e.x.length cx))∧((fa&&fb)=false→aF.tmps.getD 22 undef=undef):=F.done 9 22 (by kernel_rfl) rfl;rcases Ay (fa&&fb) with hC | hC
  ·refine sIm hC (vE (.int .i64 (e.x.length:Int))) ?_;replace s22:=s22.1 hC;exact sVc rfl rfl sg (by first | rfl | simp [hC])
  ·exact sOc rfl rfl sg (by first | rfl | simp [hC]) (nW hC)),
   (fun aF wF F=>by
  have sg:=F.v 6 19;have s4:=F.q 4 (.pointer (some ⟨w.heap.size+1,0,none⟩));rcases Ay (fa&&fb) with hC | hC
  ·refine sIm hC (vE (.pointer (some ⟨w.heap.size+1,7,none⟩))) ?_;exact sVc rfl rfl sg (by first | rfl | simp [hC])
  ·exact sOc rfl rfl sg (by first | rfl | simp [hC]) (nW hC)),
   (fun aF wF F=>by
  have sg:=F.v 6 19;have s24:((fa&&fb)=true→aF.tmps.getD 24 undef=(.pointer (some ⟨w.heap.size+1,7,none⟩)))∧((fa&&fb)=false→aF.tmps.getD 24 undef=undef):=F.done 11 24 (by kernel_rfl) rfl;have c0:=Ai HB'.out F.kept 7 _ rfl;rcases Ay (fa&&fb) with hC | hC
  ·refine sIm hC (vE (.slice AU e.u.length cu)) ?_;replace s24:=s24.1 hC;exact sVc rfl rfl sg (by first | rfl | simp [hC])
  ·exact sOc rfl rfl sg (by first | rfl | simp [hC]) (nW hC)),
   (fun aF wF F=>by
  have sg:=F.v 6 19;have s25:((fa&&fb)=true→aF.tmps.getD 25 undef=(.slice AU e.u.length cu))∧((fa&&fb)=false→aF.tmps.getD 25 undef=undef):=F.done 12 25 (by kernel_rfl) rfl;rcases Ay (fa&&fb) with hC | hC
  ·refine sIm hC (vE (.int .i64 (e.u.length:Int))) ?_;replace s25:=s25.1 hC;exact sVc rfl rfl sg (by first | rfl | simp [hC])
  ·exact sOc rfl rfl sg (by first | rfl | simp [hC]) (nW hC)),
   (fun aF wF F=>by
  have sg:=F.v 6 19;have s4:=F.q 4 (.pointer (some ⟨w.heap.size+1,0,none⟩));rcases Ay (fa&&fb) with hC | hC
  ·refine sIm hC (vE (.pointer (some ⟨w.heap.size+1,8,none⟩))) ?_;exact sVc rfl rfl sg (by first | rfl | simp [hC])
  ·exact sOc rfl rfl sg (by first | rfl | simp [hC]) (nW hC)),
   (fun aF wF F=>by
  have sg:=F.v 6 19;have s27:((fa&&fb)=true→aF.tmps.getD 27 undef=(.pointer (some ⟨w.heap.size+1,8,none⟩)))∧((fa&&fb)=false→aF.tmps.getD 27 undef=undef):=F.done 14 27 (by kernel_rfl) rfl;have c0:=Ai HB'.out F.kept 8 _ rfl;rcases Ay (fa&&fb) with hC | hC
  ·refine sIm hC (vE (.slice AP e.p.length cp)) ?_;replace s27:=s27.1 hC;exact sVc rfl rfl sg (by first | rfl | simp [hC])
  ·exact sOc rfl rfl sg (by first | rfl | simp [hC]) (nW hC)),
   (fun aF wF F=>by
  have sg:=F.v 6 19;have s28:((fa&&fb)=true→aF.tmps.getD 28 undef=(.slice AP e.p.length cp))∧((fa&&fb)=false→aF.tmps.getD 28 undef=undef):=F.done 15 28 (by kernel_rfl) rfl;rcases Ay (fa&&fb) with hC | hC
  ·refine sIm hC (vE (.int .i64 (e.p.length:Int))) ?_;replace s28:=s28.1 hC;exact sVc rfl rfl sg (by first | rfl | simp [hC])
  ·exact sOc rfl rfl sg (by first | rfl | simp [hC]) (nW hC)),
   (fun aF wF F=>by
  have sg:=F.v 6 19;have s20:((fa&&fb)=true→aF.tmps.getD 20 undef=(.agg #[.slice A n c,.slice B outs.length d]))∧((fa&&fb)=false→aF.tmps.getD 20 undef=undef):=F.done 7 20 (by kernel_rfl) rfl;have s23:((fa&&fb)=true→aF.tmps.getD 23 undef=(.int .i64 (e.x.length:Int)))∧((fa&&fb)=false→aF.tmps.getD 23 undef=undef):=F.done 10 23 (by kernel_rfl) rfl;have s26:((fa&&fb)=true→aF.tmps.getD 26 undef=(.int .i64 (e.u.length:Int)))∧((fa&&fb)=false→aF.tmps.getD 26 undef=undef):=F.done 13 26 (by kernel_rfl) rfl;have s29:((fa&&fb)=true→aF.tmps.getD 29 undef=(.int .i64 (e.p.length:Int)))∧((fa&&fb)=false→aF.tmps.getD 29 undef=undef):=F.done 16 29 (by kernel_rfl) rfl
  rcases Ay (fa&&fb) with hC | hC
  ·refine sIm hC (vE (.bool mt)) ?_;replace s20:=s20.1 hC;replace s23:=s23.1 hC;replace s26:=s26.1 hC;replace s29:=s29.1 hC;exact Bi ((Al rfl rfl sg).trans (by first | rfl | simp [hC])) (by go_simp) (MT.out _ (K.out.trans F.kept)) (fun _ _ h=>RetK.good h) (fun _ _ h=>h)
  ·exact sOc rfl rfl sg (by first | rfl | simp [hC]) (nW hC)),
   (fun aF wF F=>by
  have sg:=F.v 6 19;have s30:((fa&&fb)=true→aF.tmps.getD 30 undef=(.bool mt))∧((fa&&fb)=false→aF.tmps.getD 30 undef=undef):=F.done 17 30 (by kernel_rfl) rfl;rcases Ay (fa&&fb) with hC | hC
  ·refine sIm hC (vE (.bool (!mt))) ?_;replace s30:=s30.1 hC;exact sVc rfl rfl sg (by first | rfl | simp [hC])
  ·exact sOc rfl rfl sg (by first | rfl | simp [hC]) (nW hC)),
   (fun aF wF F=>by
  have s19:=F.v 6 19;have s31:((fa&&fb)=true→aF.tmps.getD 31 undef=(.bool (!mt)))∧((fa&&fb)=false→aF.tmps.getD 31 undef=undef):=F.done 18 31 (by kernel_rfl) rfl;rcases Ay (fa&&fb) with hE | hE
  ·replace s31:=s31.1 hE;exact sw (by first | (go_simp;done) | (go_simp;simp_all;done) | (simp_all;done)) rfl
  ·exact sw (by first | (go_simp;done) | (go_simp;simp_all;done) | (simp_all;done)) rfl),(gv 19 32),
   (fun aF wF F=>by
  have sg:=F.v 20 33;have s4:=F.q 4 (.pointer (some ⟨w.heap.size+1,0,none⟩));have c0:=Ai HB'.out F.kept 0 _ rfl;have c1:=Ai HB'.out F.kept 1 _ rfl;have c2:=Ai HB'.out F.kept 2 _ rfl;have c3:=Ai HB'.out F.kept 3 _ rfl;have c4:=Ai HB'.out F.kept 4 _ rfl;have c5:=Ai HB'.out F.kept 5 _ rfl;have c6:=Ai HB'.out F.kept 6 _ rfl;have c7:=Ai HB'.out F.kept 7 _ rfl;have c8:=Ai HB'.out F.kept 8 _ rfl;rcases Ay (fa&&fb&&mt) with hC | hC
  ·refine sIm hC (vE (.agg #[x0,x1,x2,x3,x4,x5,.slice AX e.x.length cx,.slice AU e.u.length cu,.slice AP e.p.length cp])) ?_;exact sVc rfl rfl sg (by first | rfl | simp [hC])
  ·exact sOc rfl rfl sg (by first | rfl | simp [hC]) (nW hC)),
   (fun aF wF F=>by
  have sg:=F.v 20 33;have s34:((fa&&fb&&mt)=true→aF.tmps.getD 34 undef=(.agg #[x0,x1,x2,x3,x4,x5,.slice AX e.x.length cx,.slice AU e.u.length cu,.slice AP e.p.length cp]))∧((fa&&fb&&mt)=false→aF.tmps.getD 34 undef=undef):=F.done 21 34 (by kernel_rfl) rfl;rcases Ay (fa&&fb&&mt) with hC | hC
  ·refine sIm hC (vE (.bool me)) ?_;replace s34:=s34.1 hC;exact Bi ((Al rfl rfl sg).trans (by first | rfl | simp [hC])) (by go_simp) (ME.out _ (K.out.trans F.kept)) (fun _ _ h=>RetK.good h) (fun _ _ h=>h)
  ·exact sOc rfl rfl sg (by first | rfl | simp [hC]) (nW hC)),
   (fun aF wF F=>by
  have sg:=F.v 20 33;have s35:((fa&&fb&&mt)=true→aF.tmps.getD 35 undef=(.bool me))∧((fa&&fb&&mt)=false→aF.tmps.getD 35 undef=undef):=F.done 22 35 (by kernel_rfl) rfl;rcases Ay (fa&&fb&&mt) with hC | hC
  ·refine sIm hC (vE (.bool (!me))) ?_;replace s35:=s35.1 hC;exact sVc rfl rfl sg (by first | rfl | simp [hC])
  ·exact sOc rfl rfl sg (by first | rfl | simp [hC]) (nW hC)),
   (fun aF wF F=>by
  have s33:=F.v 20 33;have s36:((fa&&fb&&mt)=true→aF.tmps.getD 36 undef=(.bool (!me)))∧((fa&&fb&&mt)=false→aF.tmps.getD 36 undef=undef):=F.done 23 36 (by kernel_rfl) rfl;rcases Ay (fa&&fb&&mt) with hE | hE
  ·replace s36:=s36.1 hE;exact sw (by first | (go_simp;done) | (go_simp;simp_all;done) | (simp_all;done)) rfl
  ·exact sw (by first | (go_simp;done) | (go_simp;simp_all;done) | (simp_all;done)) rfl),
   trivial⟩ ?_
 intro u w1 k1 hu;have p16:=hp hu 3;have p17:=hp hu 4;have p20:=hp hu 7;have p21:=hp hu 8;have p22:=hp hu 9;have p23:=hp hu 10;have p24:=hp hu 11;have p25:=hp hu 12;have p26:=hp hu 13;have p27:=hp hu 14;have p28:=hp hu 15;have p29:=hp hu 16;have p30:=hp hu 17;have p31:=hp hu 18;have p34:=hp hu 21;have p35:=hp hu 22;have p36:=hp hu 23;simp only [Bl,Au,if_true,Act.put,zlA,zlB,zlC,zlD,zlE,zlF,zlG,hv hu 0,hv hu 1,hv hu 2,hv hu 5,hv hu 6,hv hu 19,hv hu 20,hv hu 24];clear hu;generalize u 3=v16,u 4=v17,u 7=v20,u 8=v21,u 9=v22,u 10=v23,u 11=v24,u 12=v25,u 13=v26,u 14=v27,u 15=v28,u 16=v29,u 17=v30,u 18=v31,u 21=v34,u 22=v35,u 23=v36 at *
 clear p16 p17 p20 p21 p22 p23 p24 p25 p26 p27 p28 p29 p30 p31 p34 p35 p36 MT ME;have K1:=hid (K.out.trans k1);have HB1:=hid (Aj HB.out k1);have HB1':=hid (Aj HB'.out k1);clear k1 HB HB' K HW;rcases (Ay (fa&&fb&&mt&&me)).symm with hg | hg
 ·rw [hg];have e1:T=⟨[],1⟩:=by
   rw [←HTI.out];unfold Kb;rw [if_neg];intro h;rw [EM.out.2 h] at hg;cases hg
  go_wp2_with fail
  go_ret2
  subst e1;exact ⟨K1.out,_,rfl,Hb _⟩
 have hgood:=EM.out.1 hg;rw [hg];clear hg EM;obtain ⟨pn,rfl⟩:∃ pn:Nat,p=(pn:Int):=⟨p.toNat,by omega⟩;have HTL:Hid (Eo ov e pn [] ls=T):=hid (by
  rw [←HTI.out];unfold Kb;rw [if_pos hgood,Int.toNat_natCast])
 obtain ⟨p1,p2,hmt,hme⟩:=hgood;replace p1:1≤pn:=by omega
 replace p2:pn≤300:=by omega
 have hmt':=hmt;unfold Hk at hmt';simp only [Bool.and_eq_true,decide_eq_true_eq] at hmt';obtain ⟨⟨⟨n200,-⟩,hmls⟩,-⟩:=hmt';rw [HN.out] at n200;have ML:=hid ((H7 _ _ _ ls 0).1 hmls);unfold Sr at hme;simp only [Bool.and_eq_true] at hme;obtain ⟨⟨⟨me1,me2⟩,me3⟩,me4⟩:=hme;have ET:=hid (HTT.out.clean me1);have EX:=hid (HX.out.cl me2);have EU:=hid (HU.out.cl me3);have EP:=hid (HP.out.cl me4);clear hmls hmt HTI FA FB HMT HME me1 me2 me3 me4;obtain ⟨V,hmk,kV,lV,OV0⟩:=Afv w1 (n:=n) (by omega);have KV:=hid kV;have OV0':=hid OV0;obtain ⟨c0,c1⟩:=Cj HB1.out;obtain ⟨f0,f1⟩:=Cj (Aj HB1.out kV)
 clear kV OV0;go_wp2_with fail;go_step3;go_wp2_with fail;clear c0 c1 f0 f1 hmk;rw [show (!true)=false from rfl];generalize (!(fa&&fb&&mt))=fd;generalize (!(fa&&fb))=fc;generalize (!fa)=fa'
 go_loopw [8,45] (fun v t wr=>∃ (k:Nat) (rows:List RawI) (xs:List Value),k≤n∧t=.int .i64 k∧Eo ov e pn [] (ls.take k)=⟨rows,0⟩∧rows.length=k∧Cl rows∧OwnI wr w1.heap.size v rows xs∧Kept w1 wr) (fun _ t _=>(n-intOf t).toNat)
 case atStart=>exact ⟨0,[],[],Nat.zero_le _,rfl,rfl,rfl,(by intro a ha;cases ha),OV0'.out,KV.out⟩
 case round =>
  obtain ⟨k,rows,xs,hk,rfl,hrow,hlen,hcl,hown,hKr⟩:=hrel;have KR:=hid hKr;have HROW:=hid hrow;have HLEN:=hid hlen;have HCL:=hid hcl;have HOWN:=hid hown;clear hKr hrow hcl hown KV OV0' hlen;by_cases hlt:k<n
  ·obtain ⟨⟨op,a,b,kk⟩,hl⟩:∃ l,ls[k]?=some l:=⟨_,List.getElem?_eq_getElem (by have:=HN.out;omega)⟩;have hml:=ML.out k _ hl;rw [Nat.zero_add] at hml;obtain ⟨A',c',eA,-,hA⟩:=HLS.out;injection eA with eA1 eA2 eA3
   subst eA1;obtain ⟨bl,ol,rfl,hd⟩:=hA (by have:=HN.out;omega);obtain ⟨a0,a1,a2,y0,y1,y2,y3,y4,y5,g0,g1,g2,g3,g4,g5,hI⟩:=(hd k _ hl).kept (K1.out.trans KR.out);have HI:=hid hI;obtain ⟨A1,l1,q1,A2,l2,q2,ei,-,-⟩:=Ar hI;injection ei with ei;injection ei with ei
   simp only [List.cons.injEq,and_true] at ei;obtain ⟨rfl,rfl,rfl,rfl,rfl,rfl⟩:=ei;have hok:=OK.out _ (List.mem_of_getElem? hl);obtain ⟨W2,hW2,kW2,HL,HZ,lW2⟩:=Ai2 wr (.int .i64 op) (.int .i64 a) (.int .i64 b) (.bool kk.lo.neg) (.slice A1 l1 q1) (.int .i64 kk.lo.e) (.bool kk.hi.neg) (.slice A2 l2 q2) (.int .i64 kk.hi.e);have HW2:=hid hW2;have K2:=hid kW2;have HLB:=hid HL;have HZB:=hid HZ;have HML:=hid hml;have HLK:=hid hl;clear hI hl hml hok hW2 kW2 HL HZ hd hA eA2 eA3;simp only [] at a0 a1 a2;generalize kk.lo.neg=z1 at *;generalize kk.lo.e=z2 at *;generalize kk.hi.neg=z3 at *;generalize kk.hi.e=z4 at *
   go_upto_block 2 with fail
   rw [←HW2.out];clear HW2 a0 a1 a2 g0 g1 g2 g3 g4 g5;generalize hb10:wr.heap.size=b10 at *;have LB:=hid hb10;clear hb10;have HML':=HML
   go_cut [12] (fun t wx=>∃ ro,t=.int .i64 ro.k∧ro=Cu (Dr ov e pn rows ⟨op,a,b,kk⟩)∧(Dr ov e pn rows ⟨op,a,b,kk⟩).v.Ok∧Kept wr wx∧∃ n1 P1 i1 q1 d1 n2 P2 i2 q2 d2,BlkI wx (b10+1) (.bool n1) (.slice P1 i1 q1) (.int .i64 d1) (.bool n2) (.slice P2 i2 q2) (.int .i64 d2)∧IvR wx (.agg #[.bool n1,.slice P1 i1 q1,.int .i64 d1,.bool n2,.slice P2 i2 q2,.int .i64 d2]) ro.v)
   case first =>
    clear HML';obtain ⟨r0,r1,r2,r3,r4,r5,r6,r7,r8⟩:=Cf HLB.out;by_cases e1:op=1
    ·subst e1;obtain ⟨ro,ho⟩:∃ ro,ro=Cu (Dr ov e pn rows ⟨1,a,b,kk⟩):=⟨_,rfl⟩;have hmk:Ck kk=true:=by
      have:=HML.out;rw [Ag8] at this;simp only [Bool.and_eq_true] at this;exact this.1.1
     obtain ⟨hok,hrw⟩:=HI.out.clean hmk;have CC:=hid (fun w' (q:Kept W2 w')=>show Calls Tryz.prog 183 _ w' (RetIE ro w') by rw [ho];exact Ii ((HI.out.kept (K2.out.trans q)).ivC hrw) hok (TT.out.kept (K1.out.trans (KR.out.trans (K2.out.trans q)))) p1 (by omega));have HO:Hid ((Dr ov e pn rows ⟨1,a,b,kk⟩).v.Ok):=hid (G5 hok p1).1;have HLI:=hid ho;clear ho hmk hok hrw HML HI;go_upto_region 12 with fail;go_wp2_with fail;refine (CC.out _ (Below.refl _ _)).mono ?_;rintro e' w3 ⟨q,u,rfl,hd⟩;obtain ⟨P1,i1,q1,P2,i2,q2,rfl,v1,v2⟩:=Ar hd;simp only [];have hz:=HZB.out.kept q;obtain ⟨-,u0,u1,u2,u3,u4,u5⟩:=hz.facts
     obtain ⟨f0,f1,f2,f3,f4,f5⟩:=hz.free;go_wp2_with fail
     go_meet
     exact ⟨ro,rfl,HLI.out,HO.out,B8 (K2.out.trans q) (by have:=LB.out;omega),_,_,_,_,_,_,_,_,_,_,hz.laid _ _ _ _ _ _,Fy hd hz _ _ _ _ _ _⟩
    have g1:(op==1)=false:=by simp [e1]
    have h'd:=Cf (Aj HB1'.out (KR.out.trans K2.out));obtain ⟨d0,d1,d2,d3,d4,d5,d6,d7,d8⟩:=h'd;by_cases e2:op=2
    ·subst e2;obtain ⟨ro,ho⟩:∃ ro,ro=Cu (Dr ov e pn rows ⟨2,a,b,kk⟩):=⟨_,rfl⟩;obtain ⟨hok,hrw⟩:=ET.out;have CC:=hid (fun w' (q:Kept W2 w')=>show Calls Tryz.prog 183 _ w' (RetIE ro w') by rw [ho];exact Ii ((HTT.out.kept (K1.out.trans (KR.out.trans (K2.out.trans q)))).ivC hrw) hok (TT.out.kept (K1.out.trans (KR.out.trans (K2.out.trans q)))) p1 (by omega));have HO:Hid ((Dr ov e pn rows ⟨2,a,b,kk⟩).v.Ok):=hid (G5 hok p1).1;have HLI:=hid ho;clear ho hok hrw HML HI;go_upto_region 14 with fail;go_wp2_with fail;refine (CC.out _ (Below.refl _ _)).mono ?_;clear d0 d1 d2 d3 d4 d5 d6 d7 d8
     rintro e' w3 ⟨q,u,rfl,hd⟩;obtain ⟨P1,i1,q1,P2,i2,q2,rfl,v1,v2⟩:=Ar hd;simp only [];have hz:=HZB.out.kept q;obtain ⟨-,u0,u1,u2,u3,u4,u5⟩:=hz.facts;obtain ⟨f0,f1,f2,f3,f4,f5⟩:=hz.free;go_wp2_with fail
     go_meet
     exact ⟨ro,rfl,HLI.out,HO.out,B8 (K2.out.trans q) (by have:=LB.out;omega),_,_,_,_,_,_,_,_,_,_,hz.laid _ _ _ _ _ _,Fy hd hz _ _ _ _ _ _⟩
    have g2:(op==2)=false:=by simp [e2]
    by_cases e3:op=3
    ·subst e3;obtain ⟨hm1,hm2⟩:=Ajm HML.out;obtain ⟨ka,rfl⟩:∃ ka:Nat,a=(ka:Int):=⟨a.toNat,by omega⟩;have hka:ka<(e.x).length:=by omega
     obtain ⟨bo,oo,el,rfl,-,hel,hat⟩:=(HX.out.kept (K1.out.trans (KR.out.trans K2.out))).at hka;obtain ⟨m0,m1,m2,m3,m4,m5,n0,n1,n2,n3,n4,n5,hIe⟩:=hat;obtain ⟨hok,hrw⟩:=EX.out el (List.mem_of_getElem? hel);have hat2:atI (e.x) ka=el.iv:=by unfold atI;rw [Int.toNat_natCast,List.getD_eq_getElem?_getD,hel,Option.getD_some]
     obtain ⟨ro,ho⟩:∃ ro,ro=Cu (Dr ov e pn rows ⟨3,ka,b,kk⟩):=⟨_,rfl⟩;have hli:Dr ov e pn rows ⟨3,ka,b,kk⟩=De el.iv pn:=by rw [←hat2];rfl
     have CC:=hid (fun w' (q:Kept W2 w')=>show Calls Tryz.prog 183 _ w' (RetIE ro w') by rw [ho,hli];exact Ii ((hIe.kept q).ivC hrw) hok (TT.out.kept (K1.out.trans (KR.out.trans (K2.out.trans q)))) p1 (by omega));have HO:Hid ((Dr ov e pn rows ⟨3,ka,b,kk⟩).v.Ok):=hid (by rw [hli];exact (G5 hok p1).1);have HLI:=hid ho;clear ho hok hrw HML HI hli hat2 hel hIe hm1 hm2;go_upto_region 16 with fail;go_wp2_with fail;refine (CC.out _ (Below.refl _ _)).mono ?_;clear d0 d1 d2 d3 d4 d5 d6 d7 d8 n0 n1 n2 n3 n4 n5;rintro e' w3 ⟨q,u,rfl,hd⟩;obtain ⟨P1,i1,q1,P2,i2,q2,rfl,v1,v2⟩:=Ar hd;simp only []
     have hz:=HZB.out.kept q;obtain ⟨-,u0,u1,u2,u3,u4,u5⟩:=hz.facts;obtain ⟨f0,f1,f2,f3,f4,f5⟩:=hz.free;go_wp2_with fail
     go_meet
     exact ⟨ro,rfl,HLI.out,HO.out,B8 (K2.out.trans q) (by have:=LB.out;omega),_,_,_,_,_,_,_,_,_,_,hz.laid _ _ _ _ _ _,Fy hd hz _ _ _ _ _ _⟩
    have g3:(op==3)=false:=by simp [e3]
    by_cases e4:op=4
    ·subst e4;obtain ⟨hm1,hm2⟩:=Ajn HML.out;obtain ⟨ka,rfl⟩:∃ ka:Nat,a=(ka:Int):=⟨a.toNat,by omega⟩;have hka:ka<(e.u).length:=by omega
     obtain ⟨bo,oo,el,rfl,-,hel,hat⟩:=(HU.out.kept (K1.out.trans (KR.out.trans K2.out))).at hka;obtain ⟨m0,m1,m2,m3,m4,m5,n0,n1,n2,n3,n4,n5,hIe⟩:=hat;obtain ⟨hok,hrw⟩:=EU.out el (List.mem_of_getElem? hel);have hat2:atI (e.u) ka=el.iv:=by unfold atI;rw [Int.toNat_natCast,List.getD_eq_getElem?_getD,hel,Option.getD_some]
     obtain ⟨ro,ho⟩:∃ ro,ro=Cu (Dr ov e pn rows ⟨4,ka,b,kk⟩):=⟨_,rfl⟩;have hli:Dr ov e pn rows ⟨4,ka,b,kk⟩=De el.iv pn:=by rw [←hat2];rfl
     have CC:=hid (fun w' (q:Kept W2 w')=>show Calls Tryz.prog 183 _ w' (RetIE ro w') by rw [ho,hli];exact Ii ((hIe.kept q).ivC hrw) hok (TT.out.kept (K1.out.trans (KR.out.trans (K2.out.trans q)))) p1 (by omega));have HO:Hid ((Dr ov e pn rows ⟨4,ka,b,kk⟩).v.Ok):=hid (by rw [hli];exact (G5 hok p1).1);have HLI:=hid ho;clear ho hok hrw HML HI hli hat2 hel hIe hm1 hm2;go_upto_region 18 with fail;go_wp2_with fail;refine (CC.out _ (Below.refl _ _)).mono ?_;clear d0 d1 d2 d3 d4 d5 d6 d7 d8 n0 n1 n2 n3 n4 n5;rintro e' w3 ⟨q,u,rfl,hd⟩;obtain ⟨P1,i1,q1,P2,i2,q2,rfl,v1,v2⟩:=Ar hd;simp only []
     have hz:=HZB.out.kept q;obtain ⟨-,u0,u1,u2,u3,u4,u5⟩:=hz.facts;obtain ⟨f0,f1,f2,f3,f4,f5⟩:=hz.free;go_wp2_with fail
     go_meet
     exact ⟨ro,rfl,HLI.out,HO.out,B8 (K2.out.trans q) (by have:=LB.out;omega),_,_,_,_,_,_,_,_,_,_,hz.laid _ _ _ _ _ _,Fy hd hz _ _ _ _ _ _⟩
    have g4:(op==4)=false:=by simp [e4]
    by_cases e5:op=5
    ·subst e5;obtain ⟨hm1,hm2⟩:=Ajo HML.out;obtain ⟨ka,rfl⟩:∃ ka:Nat,a=(ka:Int):=⟨a.toNat,by omega⟩;have hka:ka<(e.p).length:=by omega
     obtain ⟨bo,oo,el,rfl,-,hel,hat⟩:=(HP.out.kept (K1.out.trans (KR.out.trans K2.out))).at hka;obtain ⟨m0,m1,m2,m3,m4,m5,n0,n1,n2,n3,n4,n5,hIe⟩:=hat;obtain ⟨hok,hrw⟩:=EP.out el (List.mem_of_getElem? hel);have hat2:atI (e.p) ka=el.iv:=by unfold atI;rw [Int.toNat_natCast,List.getD_eq_getElem?_getD,hel,Option.getD_some]
     obtain ⟨ro,ho⟩:∃ ro,ro=Cu (Dr ov e pn rows ⟨5,ka,b,kk⟩):=⟨_,rfl⟩;have hli:Dr ov e pn rows ⟨5,ka,b,kk⟩=De el.iv pn:=by rw [←hat2];rfl
     have CC:=hid (fun w' (q:Kept W2 w')=>show Calls Tryz.prog 183 _ w' (RetIE ro w') by rw [ho,hli];exact Ii ((hIe.kept q).ivC hrw) hok (TT.out.kept (K1.out.trans (KR.out.trans (K2.out.trans q)))) p1 (by omega));have HO:Hid ((Dr ov e pn rows ⟨5,ka,b,kk⟩).v.Ok):=hid (by rw [hli];exact (G5 hok p1).1);have HLI:=hid ho;clear ho hok hrw HML HI hli hat2 hel hIe hm1 hm2;go_upto_region 20 with fail;go_wp2_with fail;refine (CC.out _ (Below.refl _ _)).mono ?_;clear d0 d1 d2 d3 d4 d5 d6 d7 d8 n0 n1 n2 n3 n4 n5;rintro e' w3 ⟨q,u,rfl,hd⟩;obtain ⟨P1,i1,q1,P2,i2,q2,rfl,v1,v2⟩:=Ar hd;simp only []
     have hz:=HZB.out.kept q;obtain ⟨-,u0,u1,u2,u3,u4,u5⟩:=hz.facts;obtain ⟨f0,f1,f2,f3,f4,f5⟩:=hz.free;go_wp2_with fail
     go_meet
     exact ⟨ro,rfl,HLI.out,HO.out,B8 (K2.out.trans q) (by have:=LB.out;omega),_,_,_,_,_,_,_,_,_,_,hz.laid _ _ _ _ _ _,Fy hd hz _ _ _ _ _ _⟩
    have g5:(op==5)=false:=by simp [e5]
    clear d0 d1 d2 d3 d4 d5 d6 d7 d8;obtain ⟨ha1,ha2,hb1,hb2,h6,h13⟩:=Ajp HML.out e1 e2 e3 e4 e5;obtain ⟨ka,rfl⟩:∃ ka:Nat,a=(ka:Int):=⟨a.toNat,by omega⟩;obtain ⟨kb,rfl⟩:∃ kb:Nat,b=(kb:Int):=⟨b.toNat,by omega⟩;have hka:ka<rows.length:=by have:=HLEN.out;omega
    have hkb:kb<rows.length:=by have:=HLEN.out;omega
    have hsl:=HOWN.out.ivS;obtain ⟨Ao,co,rfl,-,-⟩:=hsl;have hsl:=HOWN.out.ivS;obtain ⟨bo,oo,ela,rfl,-,hea,hata⟩:=hsl.at hka;obtain ⟨bo',oo',elb,eq',-,heb,hatb⟩:=hsl.at hkb;injection eq' with eq'
    injection eq' with eq1 eq2
    subst eq1;subst eq2;obtain ⟨m0,m1,m2,m3,m4,m5,n0,n1,n2,n3,n4,n5,hIa⟩:=hata;obtain ⟨m0',m1',m2',m3',m4',m5',n0',n1',n2',n3',n4',n5',hIb⟩:=hatb;have lbo:bo<wr.heap.size:=Bg n0;have lTT:=TT.out.lt;have lK1:=K1.out.size;have lKR:=KR.out.size;generalize hb11:b10+1=b11 at *;have NBO:bo∉[b11]:=by have:=LB.out;simp;omega
    have N10:b10∉[b11]:=by simp;omega
    have NG:0∉[b11]:=by have:=LB.out;simp;omega
    have CA:=hid ((show Cells6 wr bo (oo+ka*6) m0 m1 m2 m3 m4 m5 from ⟨n0,n1,n2,n3,n4,n5⟩).kept K2.out);have CB:=hid ((show Cells6 wr bo (oo+kb*6) m0' m1' m2' m3' m4' m5' from ⟨n0',n1',n2',n3',n4',n5'⟩).kept K2.out);obtain ⟨oka,rwa'⟩:=HCL.out ela (List.mem_of_getElem? hea);obtain ⟨okb,rwb'⟩:=HCL.out elb (List.mem_of_getElem? heb);have hli:Dr ov e pn rows ⟨op,ka,kb,kk⟩=I8 ov op ela.iv elb.iv pn:=by
     unfold Dr;simp only [if_neg e1,if_neg e2,if_neg e3,if_neg e4,if_neg e5];unfold atI;rw [Int.toNat_natCast,Int.toNat_natCast,List.getD_eq_getElem?_getD,List.getD_eq_getElem?_getD,hea,heb,Option.getD_some,Option.getD_some]
    have hov:=OV.out ⟨op,ka,kb,kk⟩ (List.mem_of_getElem? HLK.out);have hIa2:=hIa.kept K2.out;have hIb2:=hIb.kept K2.out;have hT2:=TT.out.kept (K1.out.trans (KR.out.trans K2.out));obtain ⟨ro,ho⟩:∃ ro,ro=Cu (Dr ov e pn rows ⟨op,ka,kb,kk⟩):=⟨_,rfl⟩;have CC:=hid (fun w' (q:KB W2 [b11] w')=>show Calls Tryz.prog 184 _ w' (RetIE ro w') by rw [ho,hli];exact Ain (op:=op) ((hIa2.kb q).ivC rwa') ((hIb2.kb q).ivC rwb') oka okb (hT2.kb q NG) p1 (by omega) (fun hn w4 q4=>(hov (show op=13 by omega)).2 w4 _ _ _ (((hIa2.kb q).kept q4).ivC rwa') oka ((hT2.kb q NG).kept q4) p1 p2) OPS.out (HS.out ⟨op,ka,kb,kk⟩ (List.mem_of_getElem? HLK.out)))
    have HO:Hid ((Dr ov e pn rows ⟨op,ka,kb,kk⟩).v.Ok):=hid (by rw [hli];exact (Agb oka okb p1 (fun hn=>(hov (show op=13 by omega)).1 _ _ oka p1 p2)).1);have HLI:=hid ho;have HB11:=hid hb11;clear ho oka okb rwa' rwb' HML HI hli hea heb hIa hIb hov n0 n1 n2 n3 n4 n5 n0' n1' n2' n3' n4' n5' e1 e2 e3 e4 e5 hsl hIa2 hIb2 hT2 hb11 lbo lTT lK1 lKR;go_upto_region 10 with fail;clear r0 r1 r2 r3 r4 r5 r6 r7 r8
    refine rK 19 (fun i=>i==17) ([b11]) (fun L w=>LinJ b11 ro.v (L 17) w) ([(vP b10 0),(vE (.int .i64 op)),(vE (.slice (some ⟨bo,oo,none⟩) rows.length co)),(vP b10 1),(vE (.int .i64 (ka:Int))),(vE (.pointer (some ⟨bo,oo+ka*6,none⟩))),(vE (.agg #[m0,m1,m2,m3,m4,m5])),(vE (.slice (some ⟨bo,oo,none⟩) rows.length co)),(vP b10 2),(vE (.int .i64 (kb:Int))),(vE (.pointer (some ⟨bo,oo+kb*6,none⟩))),(vE (.agg #[m0',m1',m2',m3',m4',m5'])),(vE (.int .i64 (pn:Int))),(fun v wv=>∃ d,v=.tuple #[d,.int .i64 ro.k]∧IvR wv d ro.v),(fun v wv=>∃ d,v=.tuple #[d,.int .i64 ro.k]∧IvR wv d ro.v),(fun v wv=>IvR wv v ro.v),(vE (.int .i64 ro.k)),(fun v _=>True),(vE (.int .i64 ro.k))])
     (fun i hE L w w' kq fj=>by simp only [Aj6 hE 17];exact LinJ.kept kq fj) ((by exact ⟨_,_,_,_,_,_,_,_,_,_,HZB.out,fun h=>absurd h (by decide)⟩)) (by exact ⟨
       (kq 10),(kvl 0 52 fun _ k=>Cn HLB.out k N10 0 _ rfl),(kq 8),(kq 10),(kvl 3 55 fun _ k=>Cn HLB.out k N10 1 _ rfl),(kvv 2 54 4 56),(kp fun _ aF wF F=>by have FK:=F.frame.1;have s57:=F.v 5 57;exact sw (by (obtain ⟨n0,n1,n2,n3,n4,n5⟩:=CA.out.kb FK NBO;go_simp)) rfl),(kq 8),(kq 10),(kvl 8 60 fun _ k=>Cn HLB.out k N10 2 _ rfl),(kvv 7 59 9 61),(kp fun _ aF wF F=>by have FK:=F.frame.1;have s62:=F.v 10 62;exact sw (by (obtain ⟨n0,n1,n2,n3,n4,n5⟩:=CB.out.kb FK NBO;go_simp)) rfl),(kq 2),(kp fun _ aF wF F=>by have FK:=F.frame.1;have s53:=F.v 1 53;have s58:=F.v 6 58;have s63:=F.v 11 63;have s64:=F.v 12 64;exact sP (CC.out _ FK) fun _ _ h=>h),(km 13 65),(kp fun _ aF wF F=>by have s51:=F.p 14 51;obtain ⟨dd,ee,hh⟩:=s51;exact sv hh),(kp fun _ aF wF F=>by have s51:=F.p 14 51;exact sw (by obtain ⟨dd,ee,hh⟩:=s51;go_simp) rfl),(.inr fun LF aF wF F=>by have FK:=F.frame.1;have fj:=F.frame.2;have s11:=F.q 11 (.pointer (some ⟨b11,0,none⟩));have s66:=F.p 15 66;obtain ⟨P1,i1,k1,P2,i2,k2,ee,z1,z2⟩:=Ar s66;simp only [Array.getD_eq_getD_getElem?] at ee;obtain ⟨_,_,_,_,_,_,_,_,_,_,hbb,-⟩:=LinJ.parts fj;obtain ⟨-,q0,q1,q2,q3,q4,q5⟩:=hbb.facts;obtain ⟨g0,g1,g2,g3,g4,g5⟩:=hbb.free;exact Oe (w':=ivW wF b11 _ _ _ _ _ _) (by simp [Region.wanted]) (by go_simp;rfl) ⟨FK.ivW hbb (by simp) _ _ _ _ _ _,⟨_,_,_,_,_,_,_,_,_,_,hbb.laid _ _ _ _ _ _,fun _=>Fy (show IvR wF (.agg #[_,_,_,_,_,_]) ro.v from ⟨_,_,_,_,_,_,rfl,z1,z2⟩) hbb _ _ _ _ _ _⟩⟩ (Oz _ ⟨vR,vR,vR,vR,vR,vR,vR,vR,vR,vR,vR,vR,vR,.inr (fun u h=>by first | exact Fy h hbb _ _ _ _ _ _ | exact ⟨h.choose,h.choose_spec.1,Fy h.choose_spec.2 hbb _ _ _ _ _ _⟩),.inr (fun u h=>by first | exact Fy h hbb _ _ _ _ _ _ | exact ⟨h.choose,h.choose_spec.1,Fy h.choose_spec.2 hbb _ _ _ _ _ _⟩),.inr (fun u h=>by first | exact Fy h hbb _ _ _ _ _ _ | exact ⟨h.choose,h.choose_spec.1,Fy h.choose_spec.2 hbb _ _ _ _ _ _⟩),vR,.inl rfl,vR,trivial⟩) trivial),(kv 16 67),
       trivial⟩) ?_
    intro u w3 L1 hL j1 hu;obtain ⟨q,j1⟩:=j1;have p65:=hp hu 13;have p51:=hp hu 14;have p66:=hp hu 15;simp only [Bl,Au,if_true,Act.put,zlA,zlB,zlC,zlD,zlE,zlF,zlG,hv hu 0,hv hu 1,hv hu 2,hv hu 3,hv hu 4,hv hu 5,hv hu 6,hv hu 7,hv hu 8,hv hu 9,hv hu 10,hv hu 11,hv hu 12,hv hu 16,hv hu 18];clear hu;generalize u 13=v65,u 14=v51,u 15=v66 at *;have jj:LinJ b11 ro.v true w3:=by
     have jj:=j1;simp only [hL 17 (by decide)] at jj;exact jj
    clear j1 hL p66 p65 p51 CC;obtain ⟨_,_,_,_,_,_,_,_,_,_,hbx,hiv⟩:=jj.parts;have hix:=hiv rfl;clear hiv;have kX:Kept wr w3:=KB.kept K2.out q (by intro x hx;simp at hx;have:=LB.out;have:=HB11.out;omega);go_simp;go_wp2_with fail
    go_meet
    exact ⟨ro,rfl,HLI.out,HO.out,kX,_,_,_,_,_,_,_,_,_,_,hbx,hix⟩
   obtain ⟨ro,rfl,ho,hok,kX,n1,P1,i1,q1,d1,n2,P2,i2,q2,d2,hbx,hix⟩:=hcut;have HBX:=hid hbx;have HIX:=hid hix;have HO:=hid hok;have HLI:=hid ho;clear hbx hix hok ho HML HML' HLB HZB HI;go_upto_region 21 with fail;generalize wc=X at *;have OWNX:=hid (HOWN.out.kept kX);have KX:=hid (KR.out.trans kX);clear kX;obtain ⟨-,s0,s1,s2,s3,s4,s5⟩:=HBX.out.facts;have lrows:rows.length≤1000:=by have:=HLEN.out;omega
   have lbase:w1.heap.size≤X.heap.size:=KX.out.size;have htk:ls.take (k+1)=ls.take k++[⟨op,a,b,kk⟩]:=by rw [List.take_add_one,HLK.out];rfl
   have hsn:=Oa ov e pn (ls.take k) [] rows ⟨op,a,b,kk⟩ HROW.out;rw [←htk] at hsn;have HSN:=hid hsn;clear htk hsn;have hrk:(Dr ov e pn rows ⟨op,a,b,kk⟩).k=ro.k:=by rw [HLI.out];rfl
   have hrv:(Dr ov e pn rows ⟨op,a,b,kk⟩).v.raw=ro.v:=by rw [HLI.out];rfl
   have HRK:=hid hrk;have HRV:=hid hrv;clear hrk hrv;by_cases hk0:ro.k=0
   ·have gk:(ro.k==0)=true:=by simp [hk0]
    go_wp2_with (at_builtin;refine Dp rfl (.tmp 125) (.tmp 127) rfl rfl (OWNX.out.kept (Ad _ _)) (HIX.out.kept (Ad _ _)) (Cv _ _ _ _ _ _ _) rfl lrows (Nat.le_trans lbase (by simp)) ?_;intro v' X' OX' gX')
    have K':=hid (OwnI.grown_kept (OWNX.out.kept (Ad _ _)) (KX.out.trans (Ad _ _)) gX');have OX:=hid OX';clear s0 s1 s2 s3 s4 s5 gX' OX';go_roundw
    case rel =>
     refine ⟨k+1,rows++[ro.v],_,by omega,by go_num,?_,by simp [HLEN.out],?_,OX.out,K'.out⟩
     ·rw [HSN.out,HRK.out,if_pos hk0,HRV.out]
     ·rw [←HRV.out];exact HCL.out.snoc HO.out
    case measure=>simp only [intOf];omega
   ·have gk:(ro.k==0)=false:=by simp [hk0]
    go_wp2_with (at_builtin;refine Dp rfl (.tmp 125) (.tmp 127) rfl rfl (OWNX.out.kept (Ad _ _)) (HIX.out.kept (Ad _ _)) (Cv _ _ _ _ _ _ _) rfl lrows (Nat.le_trans lbase (by simp)) ?_;intro v' X' OX' gX')
    have K':=hid (OwnI.grown_kept (OWNX.out.kept (Ad _ _)) (KX.out.trans (Ad _ _)) gX');clear s0 s1 s2 s3 s4 s5 gX' OX';have e1:T=⟨[],ro.k⟩:=by
     rw [←HTL.out];have h1:=HSN.out;rw [HRK.out,if_neg hk0] at h1
     conv=>lhs;rw [←List.take_append_drop (k+1) ls]
     rw [Pu ov e pn _ _ _ (by rw [h1];exact hk0),h1]
    go_ret2
    subst e1;exact ⟨K1.out.trans K'.out,_,rfl,Hb _⟩
  ·obtain rfl:k=n:=by omega
   have e1:T=⟨rows,0⟩:=by
    rw [←HTL.out,←HROW.out,←HN.out,List.take_length]
   go_wp2_with fail
   go_ret2
   subst e1;exact ⟨K1.out.trans KR.out,_,rfl,HOWN.out.ivS⟩
end Go.Proofs.YtmgaloopddiekaaGreatDoor
