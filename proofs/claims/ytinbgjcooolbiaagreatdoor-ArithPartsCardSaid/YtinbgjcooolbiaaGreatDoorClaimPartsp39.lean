/- Words and contracts, part 39. -/
import Derived.Test.YtinbgjcooolbiaaGreatDoorClaimPartsp32
set_option maxRecDepth 100000
set_option maxHeartbeats 0
namespace Go.Proofs.YtinbgjcooolbiaaGreatDoor
open Go.Lib (hid)
open Go.RowKit
theorem Dg.RetDiv.good {n m:Nat}{w w':World}{e:Ending}(h:Dg.RetDiv n m w e w'):Ef (fun v w=>∃ x y,v=.tuple #[x,y]∧Dg.Lim w x (Dg.limbs (n/m))∧Dg.Lim w y (Dg.limbs (n%m))) w e w':=by
 obtain ⟨v,u,he,h1,h2,k⟩:=h;exact ⟨_,he,k,v,u,rfl,h1,h2⟩
theorem Zl (w:World)(x y z x' y' z':Value):∃ W,W=((w.alloc (.cells #[x,y,z] 81)).alloc (.cells #[x',y',z'] 81)).alloc (.cells #[.bool false,.slice none 0 0,.int .i64 0] 81) ∧
 Kept w W∧Dg.Blk W w.heap.size x y z∧Dg.Blk W (w.heap.size+1) x' y' z'∧Dg.Blk W (w.heap.size+1+1) (.bool false) (.slice none 0 0) (.int .i64 0):=by
 refine ⟨_,rfl,((Ad _ _).trans (Ad _ _)).trans (Ad _ _),((Dg.blk_new _ _ _ _).kept (Ad _ _)).kept (Ad _ _),?_,?_⟩
 ·have:=Dg.blk_new (w.alloc (.cells #[x,y,z] 81)) x' y' z';simp only [World.size_alloc] at this;exact this.kept (Ad _ _)
 ·have:=Dg.blk_new ((w.alloc (.cells #[x,y,z] 81)).alloc (.cells #[x',y',z'] 81)) (.bool false) (.slice none 0 0) (.int .i64 0);simp only [World.size_alloc] at this;exact this
theorem T8 {w:World}{v:Value}{neg:Bool}{m:Nat}{e:Int}(hv:Dg.DN w v neg m e)(hl:(Dg.limbs m).length≤1000000)(he:-100000000≤e)(he':e≤100000000) :
 Calls Tryz.prog 82 #[v] w (RetE (Hi neg m e).raw w):=by
 obtain ⟨A,l,c,rfl,hd⟩:=hv;obtain ⟨W,hW,kW,BA,BB⟩:=Wa w (.bool neg) (.slice A l c) (.int .i64 e) (.bool false) (.slice none 0 0) (.int .i64 0);have HW:=hid hW;have K:=hid kW;have HA:=hid BA;have HB:=hid BB;have HD:=hid hd;have hlen:=Dg.Lim.len hd;clear hW kW BA BB hd;by_cases h0:m=0
 ·have hz:(Hi neg m e).raw=⟨rz,0⟩:=by unfold Hi;rw [if_pos h0];simp [Outc.raw,good,Cj]
  rw [hz];have hl0:l=0:=by rw [hlen,h0,Dg.limbs_zero];rfl
  subst hl0;clear hz hlen h0 hl HD;go_enter Tryz.func82,Tryz.ntmps82;go_wp2_with fail;rw [←HW.out];exact Bw HB.out rfl rfl rfl ⟨K.out,_,rfl,rzR _⟩
 ·have hl0:(((l:Nat):Int)==0)=false:=by
   have:=Dg.length_limbs_pos m h0;simp;omega
  have htz:=Rp m (16*(Dg.limbs m).length) h0 (by have:=Dg.lt_pow_length m;rwa [Dg.pow16] at this);have hlq:(Dg.limbs (m/2^tz m)).length≤1000000:=Nat.le_trans (Dg.len_mono (Nat.div_le_self _ _)) hl;have LO:=hid (fun w1 (k:Kept w w1)=>(Dg.low_c (HD.out.kept k) hl h0).mono fun _ _ h=>RetQ.k h);have SH:=hid (fun w1 (k:Kept w w1)=>Dg.shr_c (HD.out.kept k) (tz m) hl (by omega));have NO:=hid (fun w1 v1 (h1:Dg.DN w1 v1 neg (m/2^tz m) (e+(tz m:Nat)))=>Acd h1 hlq);have hT:Hi neg m e=Ik neg (m/2^tz m) (e+(tz m:Nat)):=by unfold Hi;rw [if_neg h0]
  rw [←hT] at NO;have hwr:IntKind.i64.wrap (e+((tz m:Nat):Int))=e+((tz m:Nat):Int):=by simp [IntKind.wrap_i64];omega
  clear hlen h0 hl hlq htz hT HD he he';generalize Hi neg m e=T at *;generalize m/2^tz m=q at *;generalize tz m=n at *;obtain ⟨-,a0,a1,a2,-⟩:=HA.out.facts;go_enter Tryz.func82,Tryz.ntmps82;go_wp2_with fail;rw [←HW.out];go_wp2_with fail;refine (LO.out _ K.out).mono ?_;rintro _ w1 ⟨rfl,q1⟩;replace K:=hid (K.out.trans q1);replace HA:=hid (HA.out.kept q1);replace HB:=hid (HB.out.kept q1);clear a0 a1 a2 q1 LO;simp only [];go_wp2_with fail
  refine Q9 14 ([(vP w.heap.size 0),(vE (.bool neg)),(vP w.heap.size 1),(vE (.slice A l c)),(vE (.int .i64 n)),(fun v wv=>Dg.Lim wv v (Dg.limbs q)),(vP w.heap.size 2),(vE (.int .i64 e)),(vE (.int .i64 n)),(vE (.int .i64 (e+n))),(fun v wv=>Dg.DN wv v neg q (e+n)),(fun v wv=>∃ d,v=.tuple #[d,.int .i64 T.raw.k]∧DyR wv d T.raw.v),(fun v wv=>DyR wv v T.raw.v),(vE (.int .i64 T.raw.k))])
   (hM:=⟨⟨mE,mE,mE,mE,mE,fun v w w' k h=>Dg.Lim.kept h k,mE,mE,mE,mE,fun v w w' k h=>by first | exact h | exact h.kept k | exact ⟨h.1,h.2.kept k⟩,fun v w w' k h=>by obtain ⟨d,h1,h2⟩:=h;exact ⟨d,h1,h2.kept k⟩,mD,mE,trivial⟩⟩) ⟨
     (gq 1),(gvl 0 13 fun _ k=>Af HA.out k 0 _ rfl),(gq 1),(gvl 2 15 fun _ k=>Af HA.out k 1 _ rfl),(gq 4),(fun aF wF F=>by have s16:=F.v 3 16;have s17:=F.v 4 17;exact Ao (by simp [Region.wanted]) (by go_simp) (SH.out _ (K.out.trans F.kept)) (fun _ _ h=>Dg.RetLim.good h) (fun _ _ h=>h)),(gq 1),(gvl 6 19 fun _ k=>Af HA.out k 2 _ rfl),(gq 4),(gvv 7 20 8 21),(fun aF wF F=>by have s14:=F.v 1 14;have s18:=F.p 5 18;have s22:=F.v 9 22;simp only [Array.getD_eq_getD_getElem?] at s14;simp only [Array.getD_eq_getD_getElem?] at s22;obtain ⟨X1,X2,ee⟩:=s18.shape;rw [ee] at s18;simp only [Array.getD_eq_getD_getElem?] at ee;exact sv ⟨_,_,_,rfl,s18⟩),(fun aF wF F=>by have s23:=F.p 10 23;exact sE (NO.out _ _ s23) fun _ _ h=>h),(fun aF wF F=>by have s24:=F.p 11 24;obtain ⟨dd,ee,hh⟩:=s24;exact sv hh),(fun aF wF F=>by have s24:=F.p 11 24;exact sw (by obtain ⟨dd,ee,hh⟩:=s24;go_simp) rfl),
     trivial⟩ ?_
  intro u w1 k1 hu;have p18:=hp hu 5;have p23:=hp hu 10;have p24:=hp hu 11;have p25:=hp hu 12;simp only [Av,Am,if_true,Act.put,zlA,zlB,zlC,zlD,zlE,zlF,zlG,hv hu 0,hv hu 1,hv hu 2,hv hu 3,hv hu 4,hv hu 6,hv hu 7,hv hu 8,hv hu 9,hv hu 13];clear hu;generalize u 5=v18,u 10=v23,u 11=v24,u 12=v25 at *;obtain ⟨Az,lz,cz,rfl,-,zz,g3,g4⟩:=p25.shape;have ZZ:=hid zz;replace HB:=hid (HB.out.kept k1);replace K:=hid (K.out.trans k1);clear zz p18 p23 p24 p25 k1 HA NO SH;obtain ⟨-,b0,b1,b2,f0,f1,f2⟩:=HB.out.facts;refine ⟨?_,.inl (by kernel_rfl)⟩;go_simp;go_wp2_with fail;exact Bw (HB.out.laid _ _ _) rfl rfl rfl ⟨Al K.out (by omega),_,rfl,(ZZ.out.dyW HB.out (Ah _) (Ag _ _ _) (Aj _)).dyR (r:=T.raw.v) g3 g4⟩
def N6 (a b:Dy):Bool:=if a.m=0 then false else a.neg != b.neg
def Lc (a b:Dy) (p:Nat) (up:Bool):Nat:=if a.m=0 then 0 else Gv (a.neg != b.neg) (Jg a b p) p up
def Ka (a b:Dy) (p:Nat):Int:=if a.m=0 then 0 else a.e-b.e-Ch a b p-1+((bl (Jg a b p)-p:Nat):Int)
theorem Uy {a b:Dy}{p:Nat}{up:Bool}(hb:b.m≠0):Hi (N6 a b) (Lc a b p up) (Ka a b p)=Bh a b p up:=by
 unfold N6 Lc Ka;by_cases h:a.m=0
 ·rw [if_pos h,if_pos h,if_pos h,U1 h];unfold Hi;rw [if_pos rfl]
 ·rw [if_neg h,if_neg h,if_neg h,Ym h hb]
theorem Ace {w:World}{v u:Value}{a b:Dy}{p:Nat}{up:Bool}(ha:Dg.DN w v a.neg a.m a.e)(hb:Dg.DN w u b.neg b.m b.e)(oa:a.Ok)(ob:b.Ok)(hb0:b.m≠0)(p1:1≤p)(p2:p≤1000) :
 Calls Tryz.prog 83 #[v,u,.int .i64 p,.bool up] w (Dg.RetN (N6 a b) (Lc a b p up) (Ka a b p) w):=by
 obtain ⟨A,l,c,rfl,hA⟩:=ha;obtain ⟨B,j,d,rfl,hB⟩:=hb;have LA:=hid hA;have LB:=hid hB;have hlen:=Dg.Lim.len hA;obtain ⟨W,hW,kW,BA,BB,BC⟩:=Zl w (.bool a.neg) (.slice A l c) (.int .i64 a.e) (.bool b.neg) (.slice B j d) (.int .i64 b.e);have HW:=hid hW;have K:=hid kW;have HA:=hid BA;have HB:=hid BB;have HC:=hid BC;clear hW kW BA BB BC hA hB;unfold N6 Lc Ka;by_cases h0:a.m=0
 ·rw [if_pos h0,if_pos h0,if_pos h0];have hl0:l=0:=by rw [hlen,h0,Dg.limbs_zero];rfl
  subst hl0;clear hlen h0 LA LB oa ob hb0;have hz0:∀ w',Dg.Lim w' (.slice none 0 0) (Dg.limbs 0):=fun w'=>by
   rw [Dg.limbs_zero];exact ⟨fun x hx=>absurd hx List.not_mem_nil,none,0,rfl,Nat.le_refl _,fun h=>absurd h (Nat.lt_irrefl 0)⟩
  generalize a.neg=n1 at *;generalize a.e=e1 at *;generalize b.neg=n2 at *;generalize b.e=e2 at *;go_enter Tryz.func83,Tryz.ntmps83;go_wp2_with fail;rw [←HW.out];exact Dg.ret_n HC.out rfl rfl rfl ⟨K.out,_,rfl,_,_,_,rfl,hz0 _⟩
 rw [if_neg h0,if_neg h0,if_neg h0];have hl0:(((l:Nat):Int)==0)=false:=by
  have:=Dg.length_limbs_pos a.m h0;simp;omega
 have ba:=Kz oa;have bb:=Kz ob;have a1:=oa.lo;have a2:=oa.hi;have b1:=ob.lo;have b2:=ob.hi;have ka:(Dg.limbs a.m).length≤10000:=by have:=Dg.len_bl a.m;omega
 have kb:(Dg.limbs b.m).length≤10000:=by have:=Dg.len_bl b.m;omega
 have hs:max 0 ((p:Int)+3+(bl b.m:Int)-(bl a.m:Int))=((Ch a b p:Nat):Int):=by unfold Ch;omega
 have hsb:Ch a b p≤5200:=by unfold Ch;omega
 have hX:bl (a.m*2^Ch a b p)≤9300:=by rw [Ci _ _ h0];omega
 have hXl:(Dg.limbs (a.m*2^Ch a b p)).length≤10000:=by have:=Dg.len_bl (a.m*2^Ch a b p);omega
 have hw1:IntKind.i64.wrap ((p:Int)+3)=(p:Int)+3:=by simp [IntKind.wrap_i64];omega
 have hw2:IntKind.i64.wrap ((p:Int)+3+(bl b.m:Int))=(p:Int)+3+(bl b.m:Int):=by simp [IntKind.wrap_i64];omega
 have hw3:IntKind.i64.wrap ((p:Int)+3+(bl b.m:Int)-(bl a.m:Int))=(p:Int)+3+(bl b.m:Int)-(bl a.m:Int):=by simp [IntKind.wrap_i64];omega
 have hw4:IntKind.i64.wrap (a.e-b.e)=a.e-b.e:=by simp [IntKind.wrap_i64];omega
 have hw5:IntKind.i64.wrap (a.e-b.e-(Ch a b p:Nat))=a.e-b.e-(Ch a b p:Nat):=by simp [IntKind.wrap_i64];omega
 have hw6:IntKind.i64.wrap (a.e-b.e-(Ch a b p:Nat)-1)=a.e-b.e-(Ch a b p:Nat)-1:=by simp [IntKind.wrap_i64];omega
 have he1:-10000000≤a.e-b.e-(Ch a b p:Nat)-1:=by omega
 have he2:a.e-b.e-(Ch a b p:Nat)-1≤10000000:=by omega
 have B1:=hid (fun w1 (k:Kept w w1)=>(Dg.bits_c (LA.out.kept k) (by omega)).mono fun _ _ h=>RetQ.k h);have B2:=hid (fun w1 (k:Kept w w1)=>(Dg.bits_c (LB.out.kept k) (by omega)).mono fun _ _ h=>RetQ.k h);have SH:=hid (fun w1 (k:Kept w w1)=>Dg.shl_c (LA.out.kept k) (Ch a b p) (by omega) (by omega));have DV:=hid (fun w1 v1 (k:Kept w w1) (h:Dg.Lim w1 v1 (Dg.limbs (a.m*2^Ch a b p)))=>Dg.div_c h (LB.out.kept k) (Nat.pos_of_ne_zero hb0) (by omega) (by omega));have hQ:Jg a b p=if a.m*2^Ch a b p%b.m=0 then a.m*2^Ch a b p/b.m*2 else a.m*2^Ch a b p/b.m*2+1:=rfl
 have hqx:a.m*2^Ch a b p/b.m≤a.m*2^Ch a b p:=Nat.div_le_self _ _;generalize Jg a b p=M at *;generalize Ch a b p=s at *;generalize a.m*2^s=X at *;have hrx:(Dg.limbs (X%b.m)).length≤10000:=Nat.le_trans (Dg.len_mono (Nat.mod_le _ _)) hXl;have hqb:bl (X/b.m)≤9300:=Nat.le_trans (Gb _ _ (Nat.lt_of_le_of_lt hqx (Bi X))) hX;obtain ⟨q,hq⟩:∃ q,X/b.m=q:=⟨_,rfl⟩;obtain ⟨r,hr⟩:∃ r,X%b.m=r:=⟨_,rfl⟩;have DV':=hid (fun w1 v1 (k:Kept w w1) (h:Dg.Lim w1 v1 (Dg.limbs X))=>show Calls Tryz.prog 126 _ w1 (fun e w'=>Ef (fun v w=>∃ x y,v=.tuple #[x,y]∧Dg.Lim w x (Dg.limbs q)∧Dg.Lim w y (Dg.limbs r)) w1 e w') from (DV.out w1 v1 k h).mono fun _ _ h=>by have g:=Dg.RetDiv.good h;rwa [hq,hr] at g)
 rw [hq] at hQ hqb;rw [hr] at hQ hrx;have hq2:bl (q*2)≤9301:=by
  by_cases h:q=0
  ·rw [h,Nat.zero_mul,Ey];omega
  ·have:=Ci q 1 h;rw [Nat.pow_one] at this;omega
 have hql:(Dg.limbs q).length≤10000:=by have:=Dg.len_bl q;omega
 have hq2l:(Dg.limbs (q*2)).length≤10000:=by have:=Dg.len_bl (q*2);omega
 have hMb:bl M≤9400:=by
  rw [hQ];split
  ·omega
  ·have h1:=Bi (q*2);obtain ⟨K,hK⟩:∃ K:Nat,K=9301:=⟨_,rfl⟩;have h2:2^bl (q*2)≤2^K:=Nat.pow_le_pow_right (by decide) (by omega);have:=Gb (q*2+1) (K+1) (by rw [Nat.pow_succ];omega);omega
 have S1:=hid (fun w1 v1 (h:Dg.Lim w1 v1 (Dg.limbs q))=>show Calls Tryz.prog 90 #[v1,.int .i64 1] w1 (Dg.RetLim (Dg.limbs (q*2)) w1) by have g:=Dg.shl_c h 1 (by omega) (by omega);rwa [Nat.pow_one] at g);have AD:=hid (fun w1 u v1 (h:Dg.Lim w1 u (Dg.limbs (q*2))) (h':Dg.Lim w1 v1 (Dg.limbs 1))=>Dg.add_c h h' (by omega) (by rw [Dg.limbs_one];decide));have CU:=hid (fun w1 u (h:Dg.DN w1 u (a.neg != b.neg) M (a.e-b.e-(s:Nat)-1))=>Yh (up:=up) (p:=p) h (by omega) (by omega) he1 he2);have HQ:=hid hQ;have hr0:(0<(Dg.limbs r).length)↔r≠0:=by
  constructor
  ·rintro h rfl;rw [Dg.limbs_zero] at h;exact absurd h (Nat.lt_irrefl 0)
  ·intro h;exact Dg.length_limbs_pos r h
 have HR0:=hid hr0;clear hlen h0 oa ob hb0 ba bb a1 a2 b1 b2 ka kb hX hXl hqx hrx hqb hq hr hq2 hql hq2l hMb hQ hr0 he1 he2 hsb p1 p2 LA LB DV;generalize a.neg=n1 at *;generalize a.e=e1 at *;generalize b.neg=n2 at *;generalize b.e=e2 at *;generalize (bl a.m:Int)=bA at *;generalize (bl b.m:Int)=bB at *;obtain ⟨-,a0,a1,a2,-⟩:=HA.out.facts;go_enter Tryz.func83,Tryz.ntmps83;go_wp2_with fail;rw [←HW.out];go_wp2_with fail;clear a0 a1 a2 hl0
 refine rgL 12 ([(vE (.int .i64 p)),(vE (.int .i64 ((p:Int)+3))),(vP (w.heap.size+1) 1),(vE (.slice B j d)),(vE (.int .i64 bB)),(vE (.int .i64 ((p:Int)+3+bB))),(vP w.heap.size 1),(vE (.slice A l c)),(vE (.int .i64 bA)),(vE (.int .i64 ((p:Int)+3+bB-bA))),(vE (.int .i64 (max 0 ((p:Int)+3+bB-bA)))),(vE (.int .i64 (max 0 ((p:Int)+3+bB-bA))))])
  ⟨
   (gq 2),(gv 0 17),(gq 5),(gvl 2 19 fun _ k=>Af HB.out k 1 _ rfl),(fun aF wF F=>by have s20:=F.v 3 20;exact sK (B2.out _ (K.out.trans F.kept)) fun _ _ h=>h),(gvv 1 18 4 21),(gq 4),(gvl 6 23 fun _ k=>Af HA.out k 1 _ rfl),(fun aF wF F=>by have s24:=F.v 7 24;exact sK (B1.out _ (K.out.trans F.kept)) fun _ _ h=>h),(gvv 5 22 8 25),(gv 9 26),(gv 10 27),
   trivial⟩ ?_
 intro u w1 k1 hu;simp only [Av,Am,if_true,Act.put,zlA,zlB,zlC,zlD,zlE,zlF,zlG,hv hu 0,hv hu 1,hv hu 2,hv hu 3,hv hu 4,hv hu 5,hv hu 6,hv hu 7,hv hu 8,hv hu 9,hv hu 10,hv hu 11];clear hu;rw [hs];clear hw1 hw2 hw3 hs B1 B2;replace K:=hid (K.out.trans k1);replace HA:=hid (HA.out.kept k1);replace HB:=hid (HB.out.kept k1);replace HC:=hid (HC.out.kept k1);clear k1;go_wp2_with fail
 refine rgL 12 ([(vP w.heap.size 1),(vE (.slice A l c)),(vE (.int .i64 s)),(fun v wv=>Dg.Lim wv v (Dg.limbs X)),(vP (w.heap.size+1) 1),(vE (.slice B j d)),(fun v wv=>∃ x y,v=.tuple #[x,y]∧Dg.Lim wv x (Dg.limbs q)∧Dg.Lim wv y (Dg.limbs r)),(fun v wv=>∃ x y,v=.tuple #[x,y]∧Dg.Lim wv x (Dg.limbs q)∧Dg.Lim wv y (Dg.limbs r)),(fun v wv=>Dg.Lim wv v (Dg.limbs q)),(fun v wv=>Dg.Lim wv v (Dg.limbs r)),(fun v wv=>Dg.Lim wv v (Dg.limbs q)),(fun v wv=>Dg.Lim wv v (Dg.limbs r))])
  (hM:=⟨⟨mE,mE,mE,fun v w w' k h=>Dg.Lim.kept h k,mE,mE,fun v w w' k h=>by obtain ⟨x,y,h0,h1,h2⟩:=h;exact ⟨x,y,h0,h1.kept k,h2.kept k⟩,fun v w w' k h=>by obtain ⟨x,y,h0,h1,h2⟩:=h;exact ⟨x,y,h0,h1.kept k,h2.kept k⟩,fun v w w' k h=>Dg.Lim.kept h k,fun v w w' k h=>Dg.Lim.kept h k,fun v w w' k h=>by first | exact h | exact h.kept k | exact ⟨h.1,h.2.kept k⟩,fun v w w' k h=>by first | exact h | exact h.kept k | exact ⟨h.1,h.2.kept k⟩,trivial⟩⟩) ⟨
    (gq 4),(gvl 0 29 fun _ k=>Af HA.out k 1 _ rfl),(gq 9),(fun aF wF F=>by have s30:=F.v 1 30;have s31:=F.v 2 31;exact Ao (by simp [Region.wanted]) (by go_simp) (SH.out _ (K.out.trans F.kept)) (fun _ _ h=>Dg.RetLim.good h) (fun _ _ h=>h)),(gq 5),(gvl 4 33 fun _ k=>Af HB.out k 1 _ rfl),(fun aF wF F=>by have s32:=F.p 3 32;have s34:=F.v 5 34;exact Ao (by simp [Region.wanted]) (by go_simp) (DV'.out _ _ (K.out.trans F.kept) s32) (fun _ _ h=>h) (fun _ _ h=>h)),(gm 6 35),(fun aF wF F=>by have s28:=F.p 7 28;obtain ⟨x,y,e0,g1,g2⟩:=s28;exact sv g1),(fun aF wF F=>by have s28:=F.p 7 28;obtain ⟨x,y,e0,g1,g2⟩:=s28;exact sv g2),(gm 8 36),(gm 9 37),
    trivial⟩ ?_
 intro u w2 k2 hu;have p32:=hp hu 3;have p35:=hp hu 6;have p28:=hp hu 7;have p36:=hp hu 8;have p37:=hp hu 9;have p10:=hp hu 10;have p11:=hp hu 11;simp only [Av,Am,if_true,Act.put,zlA,zlB,zlC,zlD,zlE,zlF,zlG,hv hu 0,hv hu 1,hv hu 2,hv hu 4,hv hu 5];clear hu;generalize u 3=v32,u 6=v35,u 7=v28,u 8=v36,u 9=v37,u 10=v10,u 11=v11 at *;obtain ⟨Aq,cq,rfl⟩:=Dg.Lim.shape p10;obtain ⟨Ar,cr,rfl⟩:=Dg.Lim.shape p11;have Z1:=hid p10;clear p10 p11 p28 p32 p35 p36 p37 SH DV';replace K:=hid (K.out.trans k2);replace HA:=hid (HA.out.kept k2);replace HB:=hid (HB.out.kept k2);replace HC:=hid (HC.out.kept k2);clear k2
 generalize (Dg.limbs q).length=lq at *;generalize (Dg.limbs r).length=lr at *;go_wp2_with fail;refine (S1.out _ _ Z1.out).mono ?_;rintro _ w3 ⟨v3,rfl,z3,q3⟩;obtain ⟨A3,c3,rfl⟩:=Dg.Lim.shape z3;have Z3:=hid z3;replace K:=hid (K.out.trans q3);replace HA:=hid (HA.out.kept q3);replace HB:=hid (HB.out.kept q3);replace HC:=hid (HC.out.kept q3);clear q3 z3 Z1 S1;simp only [];generalize hl3:(Dg.limbs (q*2)).length=l3 at *;clear hl3;by_cases hr0:r=0
 ·have hM:M=q*2:=by rw [HQ.out,if_pos hr0]
  have d0:decide (0<lr)=false:=decide_eq_false (fun h=>HR0.out.1 h hr0);subst hM;clear HQ HR0 hr0 AD;go_upto_region 8 with fail;clear d0
  refine rS1 18 ([(vP w.heap.size 0),(vE (.bool n1)),(vP (w.heap.size+1) 0),(vE (.bool n2)),(vE (.bool (n1 != n2))),(vE (.slice A3 l3 c3)),(vP w.heap.size 2),(vE (.int .i64 e1)),(vP (w.heap.size+1) 2),(vE (.int .i64 e2)),(vE (.int .i64 (e1-e2))),(vE (.int .i64 s)),(vE (.int .i64 (e1-e2-s))),(vE (.int .i64 (e1-e2-s-1))),(fun v wv=>Dg.DN wv v (n1 != n2) (q*2) (e1-e2-s-1)),(vE (.int .i64 p)),(vE (.bool up)),(fun v wv=>Dg.DN wv v (n1 != n2) (Gv (n1 != n2) (q*2) p up) (e1-e2-s-1+((bl (q*2)-p:Nat):Int)))])
   (hM:=⟨⟨mE,mE,mE,mE,mE,mE,mE,mE,mE,mE,mE,mE,mE,mE,fun v w w' k h=>h.kept k,mE,mE,fun v w w' k h=>by first | exact h | exact h.kept k | exact ⟨h.1,h.2.kept k⟩,trivial⟩⟩) ⟨
     (gq 4),(gvl 0 46 fun _ k=>Af HA.out k 0 _ rfl),(gq 5),(gvl 2 48 fun _ k=>Af HB.out k 0 _ rfl),(fun aF wF F=>by have s47:=F.v 1 47;have s49:=F.v 3 49;exact sw (by (go_simp;cases n1<;>cases n2<;>rfl)) rfl),(gq 10),(gq 4),(gvl 6 52 fun _ k=>Af HA.out k 2 _ rfl),(gq 5),(gvl 8 54 fun _ k=>Af HB.out k 2 _ rfl),(gvv 7 53 9 55),(gq 9),(gvv 10 56 11 57),(gv 12 58),(fun aF wF F=>by have s50:=F.v 4 50;have s51:=F.v 5 51;have s59:=F.v 13 59;simp only [Array.getD_eq_getD_getElem?] at s50;simp only [Array.getD_eq_getD_getElem?] at s51;simp only [Array.getD_eq_getD_getElem?] at s59;exact sv ⟨_,_,_,rfl,Z3.out.kept F.kept⟩),(gq 2),(gq 3),(fun aF wF F=>by have s60:=F.p 14 60;have s61:=F.v 15 61;have s62:=F.v 16 62;exact Ao (by simp [Region.wanted]) (by go_simp) (CU.out _ _ s60) (fun _ _ h=>Dg.RetN.good h) (fun _ _ h=>h)),
     trivial⟩ ?_
  intro u w8 k8 hu;have p60:=hp hu 14;have p63:=hp hu 17;simp only [Av,Am,if_true,Act.put,zlA,zlB,zlC,zlD,zlE,zlF,zlG,hv hu 0,hv hu 1,hv hu 2,hv hu 3,hv hu 4,hv hu 5,hv hu 6,hv hu 7,hv hu 8,hv hu 9,hv hu 10,hv hu 11,hv hu 12,hv hu 13,hv hu 15,hv hu 16];clear hu;generalize u 14=v60,u 17=v63 at *;obtain ⟨A9,l9,c9,rfl,z9⟩:=p63;replace K:=hid (K.out.trans k8);replace HC:=hid (HC.out.kept k8);have Z9:=hid z9;clear z9 p60 k8 HA HB CU;obtain ⟨-,b0,b1,b2,f0,f1,f2⟩:=HC.out.facts;go_simp;go_wp2_with fail;exact Dg.ret_n (HC.out.laid _ _ _) rfl rfl rfl ⟨Al K.out (by omega),_,rfl,_,_,_,rfl,Z9.out.dyW HC.out (by simp) (by simp) (by simp)⟩
 ·have hM:M=q*2+1:=by rw [HQ.out,if_neg hr0]
  have d0:decide (0<lr)=true:=decide_eq_true (HR0.out.2 hr0);subst hM;clear HQ HR0 hr0;go_wp2_with fail;refine (AD.out _ _ _ (Z3.out.kept (Ad _ _)) (Dg.lim_one _)).mono ?_;rintro _ w4 ⟨v4,rfl,z4,q4⟩;have Z4:=hid z4;obtain ⟨A4,c4,rfl⟩:=Dg.Lim.shape z4;have q5:=(Ad _ _).trans q4;replace K:=hid (K.out.trans q5);replace HA:=hid (HA.out.kept q5);replace HB:=hid (HB.out.kept q5);replace HC:=hid (HC.out.kept q5);clear q4 q5 z4 Z3 AD d0;generalize hl4:(Dg.limbs (q*2+1)).length=l4 at *;clear hl4;generalize q*2+1=M at *;simp only [];go_upto_region 8 with fail
  refine rS1 18 ([(vP w.heap.size 0),(vE (.bool n1)),(vP (w.heap.size+1) 0),(vE (.bool n2)),(vE (.bool (n1 != n2))),(vE (.slice A4 l4 c4)),(vP w.heap.size 2),(vE (.int .i64 e1)),(vP (w.heap.size+1) 2),(vE (.int .i64 e2)),(vE (.int .i64 (e1-e2))),(vE (.int .i64 s)),(vE (.int .i64 (e1-e2-s))),(vE (.int .i64 (e1-e2-s-1))),(fun v wv=>Dg.DN wv v (n1 != n2) M (e1-e2-s-1)),(vE (.int .i64 p)),(vE (.bool up)),(fun v wv=>Dg.DN wv v (n1 != n2) (Gv (n1 != n2) M p up) (e1-e2-s-1+((bl M-p:Nat):Int)))])
   (hM:=⟨⟨mE,mE,mE,mE,mE,mE,mE,mE,mE,mE,mE,mE,mE,mE,fun v w w' k h=>h.kept k,mE,mE,fun v w w' k h=>by first | exact h | exact h.kept k | exact ⟨h.1,h.2.kept k⟩,trivial⟩⟩) ⟨
     (gq 4),(gvl 0 46 fun _ k=>Af HA.out k 0 _ rfl),(gq 5),(gvl 2 48 fun _ k=>Af HB.out k 0 _ rfl),(fun aF wF F=>by have s47:=F.v 1 47;have s49:=F.v 3 49;exact sw (by (go_simp;cases n1<;>cases n2<;>rfl)) rfl),(gq 10),(gq 4),(gvl 6 52 fun _ k=>Af HA.out k 2 _ rfl),(gq 5),(gvl 8 54 fun _ k=>Af HB.out k 2 _ rfl),(gvv 7 53 9 55),(gq 9),(gvv 10 56 11 57),(gv 12 58),(fun aF wF F=>by have s50:=F.v 4 50;have s51:=F.v 5 51;have s59:=F.v 13 59;simp only [Array.getD_eq_getD_getElem?] at s50;simp only [Array.getD_eq_getD_getElem?] at s51;simp only [Array.getD_eq_getD_getElem?] at s59;exact sv ⟨_,_,_,rfl,Z4.out.kept F.kept⟩),(gq 2),(gq 3),(fun aF wF F=>by have s60:=F.p 14 60;have s61:=F.v 15 61;have s62:=F.v 16 62;exact Ao (by simp [Region.wanted]) (by go_simp) (CU.out _ _ s60) (fun _ _ h=>Dg.RetN.good h) (fun _ _ h=>h)),
     trivial⟩ ?_
  intro u w8 k8 hu;have p60:=hp hu 14;have p63:=hp hu 17;simp only [Av,Am,if_true,Act.put,zlA,zlB,zlC,zlD,zlE,zlF,zlG,hv hu 0,hv hu 1,hv hu 2,hv hu 3,hv hu 4,hv hu 5,hv hu 6,hv hu 7,hv hu 8,hv hu 9,hv hu 10,hv hu 11,hv hu 12,hv hu 13,hv hu 15,hv hu 16];clear hu;generalize u 14=v60,u 17=v63 at *;obtain ⟨A9,l9,c9,rfl,z9⟩:=p63;replace K:=hid (K.out.trans k8);replace HC:=hid (HC.out.kept k8);have Z9:=hid z9;clear z9 p60 k8 HA HB CU;obtain ⟨-,b0,b1,b2,f0,f1,f2⟩:=HC.out.facts;go_simp;go_wp2_with fail;exact Dg.ret_n (HC.out.laid _ _ _) rfl rfl rfl ⟨Al K.out (by omega),_,rfl,_,_,_,rfl,Z9.out.dyW HC.out (by simp) (by simp) (by simp)⟩
end Go.Proofs.YtinbgjcooolbiaaGreatDoor
