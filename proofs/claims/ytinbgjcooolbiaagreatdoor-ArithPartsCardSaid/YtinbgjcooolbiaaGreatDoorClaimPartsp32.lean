/- Words and contracts, part 32. -/
import Derived.Test.YtinbgjcooolbiaaGreatDoorClaimPartsp29
import Derived.Test.YtinbgjcooolbiaaGreatDoorClaimPartsp31
set_option maxRecDepth 100000
set_option maxHeartbeats 0
namespace Go.Proofs.YtinbgjcooolbiaaGreatDoor
open Go.Lib (hid)
open Go.RowKit
theorem RetQ.k {v:Value}{w w':World}{e:Ending}(h:RetQ v w e w'):RetK v w e w':=⟨h.1,by obtain ⟨_,n,rfl⟩:=h;exact Kept.drewN (Below.refl _ _) n⟩
theorem rzR (w:World):DyR w (.agg #[.bool false,.slice none 0 0,.int .i64 0]) rz :=
 ⟨_,rfl,⟨fun x hx=>absurd hx List.not_mem_nil,none,0,rfl,Nat.le_refl _,fun h=>absurd h (Nat.lt_irrefl 0)⟩,by decide,by decide⟩
theorem Zx {w:World}{v:Value}{m:Nat}(hv:Dg.Lim w v (Dg.limbs m))(hl:(Dg.limbs m).length≤1000000) :
 Calls Tryz.prog 135 #[v] w (RetK (.bool (decide (256<(Dg.limbs m).length))) w):=by
 obtain ⟨A,c,rfl⟩:=Dg.Lim.shape hv;clear hv;generalize (Dg.limbs m).length=n at *;have e:decide (256<n)=decide ((256:Int)<(n:Int)):=by simp only [decide_eq_decide];omega
 rw [e];clear e hl;go_enter Tryz.func135,Tryz.ntmps135;go_wp2_with fail;go_ret;exact ⟨rfl,Below.refl _ _⟩
theorem Wa (w:World)(x y z p q r:Value):∃ W,W=(w.alloc (.cells #[x,y,z] 81)).alloc (.cells #[p,q,r] 24) ∧
 Kept w W∧Dg.Blk W w.heap.size x y z∧Blk W (w.heap.size+1) p q r:=by
 refine ⟨_,rfl,(Ad _ _).trans (Ad _ _),(Dg.blk_new _ _ _ _).kept (Ad _ _),?_⟩;have:=blk_new (w.alloc (.cells #[x,y,z] 81)) p q r;simpa using this
theorem Acd    {w:World}{v:Value}{neg:Bool}{m:Nat}{e:Int}(hv:Dg.DN w v neg m e)(hl:(Dg.limbs m).length≤1000000) :
 Calls Tryz.prog 101 #[v] w (RetE (Ik neg m e).raw w):=by
 obtain ⟨A,l,c,rfl,hd⟩:=hv;obtain ⟨W,hW,kW,BA,BB⟩:=Wa w (.bool neg) (.slice A l c) (.int .i64 e) (.bool false) (.slice none 0 0) (.int .i64 0);have HW:=hid hW;have K:=hid kW;have HA:=hid BA;have HB:=hid BB;have HD:=hid hd;have hlen:=Dg.Lim.len hd;clear hW kW BA BB hd;by_cases h0:m=0
 ·have hz:(Ik neg m e).raw=⟨rz,0⟩:=by unfold Ik;rw [if_pos h0];simp [Outc.raw,good,Cj]
  rw [hz];have hl0:l=0:=by rw [hlen,h0,Dg.limbs_zero];rfl
  subst hl0;clear hz hlen h0 hl HD;go_enter Tryz.func101,Tryz.ntmps101;go_wp2_with fail;rw [←HW.out];exact Bw HB.out rfl rfl rfl ⟨K.out,_,rfl,rzR _⟩
 ·have hl0:(((l:Nat):Int)==0)=false:=by
   have:=Dg.length_limbs_pos m h0;simp;omega
  have htz:=Rp m (16*(Dg.limbs m).length) h0 (by have:=Dg.lt_pow_length m;rwa [Dg.pow16] at this);have hlq:(Dg.limbs (m/2^tz m)).length≤1000000:=Nat.le_trans (Dg.len_mono (Nat.div_le_self _ _)) hl;have LO:=hid (fun w1 (k:Kept w w1)=>(Dg.low_c (HD.out.kept k) hl h0).mono fun _ _ h=>RetQ.k h);have SH:=hid (fun w1 (k:Kept w w1)=>Dg.shr_c (HD.out.kept k) (tz m) hl (by omega));have GR:=hid (fun w1 u (h:Dg.Lim w1 u (Dg.limbs (m/2^tz m)))=>Zx h hlq);have LM:=hid (fun w1 u (h:Dg.Lim w1 u (Dg.limbs (m/2^tz m)))=>Dg.limbs_c h hlq)
  have hn0:Ik neg m e=if 256<(Dg.limbs (m/2^tz m)).length then bad 2
   else if 1048576<e∨e < -1053576∨1048576<e+tz m∨e+tz m < -1048576 then bad 3 else good ⟨neg,m/2^tz m,e+tz m⟩:=by
   unfold Ik;rw [if_neg h0]
  have hn:=hid hn0;have ht:tz m≤16000000:=by omega
  clear hlen h0 hl hlq htz hn0;generalize (Dg.limbs (m/2^tz m)).length=lq at *;obtain ⟨xq,hxq⟩:∃ xq,Dg.limbs (m/2^tz m)=xq:=⟨_,rfl⟩;rw [hxq] at SH GR LM;have HX:=hid hxq;clear hxq;generalize Ik neg m e=res at *;generalize m/2^tz m=q at *;generalize tz m=n at *;clear HD;go_enter Tryz.func101,Tryz.ntmps101;go_wp2_with fail;rw [←HW.out];refine (LO.out _ K.out).mono ?_;rintro _ w1 ⟨rfl,q1⟩;obtain ⟨-,a0,a1,a2,-⟩:=(HA.out.kept q1).facts;simp only [];go_wp2_with fail;refine (SH.out _ (K.out.trans q1)).mono ?_;rintro _ w2 ⟨v2,rfl,z2,q2⟩;have Z2:=hid z2;obtain ⟨A2,c2,rfl⟩:=Dg.Lim.shape z2;clear z2 a0 a1 a2
  have Q2:=hid (q1.trans q2);clear q1 q2;simp only [];go_wp2_with fail;refine (GR.out _ _ Z2.out).mono ?_;rintro _ w3 ⟨rfl,q3⟩;simp only [];replace Q2:=hid (Q2.out.trans q3);replace Z2:=hid (Z2.out.kept q3);clear q3;have HB2:=hid (HB.out.kept Q2.out);have HA2:=hid (HA.out.kept Q2.out);by_cases hg:256<lq
  ·have hr:res.raw=⟨rz,2⟩:=by rw [hn.out,if_pos hg];rw [bad,Outc.raw,Cj]
   have HR:=hid hr;have dg:decide (256<lq)=true:=decide_eq_true hg;rw [dg];clear hr hg dg;obtain ⟨-,b0,b1,b2,f0,f1,f2⟩:=HB2.out.facts;go_wp2_with fail;rw [HR.out];exact Bw (HB2.out.laid _ _ _) rfl rfl rfl ⟨Al (K.out.trans Q2.out) (by omega),_,rfl,rzR _⟩
  ·have dg:decide (256<lq)=false:=decide_eq_false hg;rw [dg];have hn1:res=if 1048576<e∨e < -1053576∨1048576<e+n∨e+n < -1048576 then bad 3 else good ⟨neg,q,e+n⟩:=by rw [hn.out,if_neg hg]
   clear hg dg;by_cases h1:1048576<e
   ·have hr:res.raw=⟨rz,3⟩:=by rw [hn1,if_pos (by omega)];rw [bad,Outc.raw,Cj]
    have HR:=hid hr;have d1:decide (1048576<e)=true:=decide_eq_true h1;clear h1;clear hr hn1 hn ht LM GR LO SH HX;obtain ⟨-,a0,a1,a2,-⟩:=HA2.out.facts;obtain ⟨-,b0,b1,b2,f0,f1,f2⟩:=HB2.out.facts;go_wp2_with fail;rw [HR.out];exact Bw (HB2.out.laid _ _ _) rfl rfl rfl ⟨Al (K.out.trans Q2.out) (by omega),_,rfl,rzR _⟩
   ·by_cases h2:e < -1053576
    ·have hr:res.raw=⟨rz,3⟩:=by rw [hn1,if_pos (by omega)];rw [bad,Outc.raw,Cj]
     have HR:=hid hr;have d1:decide (1048576<e)=false:=decide_eq_false h1;have d2:decide (e < -1053576)=true:=decide_eq_true h2;clear h1 h2;clear hr hn1 hn ht LM GR LO SH HX;obtain ⟨-,a0,a1,a2,-⟩:=HA2.out.facts;obtain ⟨-,b0,b1,b2,f0,f1,f2⟩:=HB2.out.facts;go_wp2_with fail;rw [HR.out];exact Bw (HB2.out.laid _ _ _) rfl rfl rfl ⟨Al (K.out.trans Q2.out) (by omega),_,rfl,rzR _⟩
    ·have hw:IntKind.i64.wrap (e+(n:Int))=e+(n:Int):=by simp [IntKind.wrap_i64];omega
     have d1:decide (1048576<e)=false:=decide_eq_false h1;have d2:decide (e < -1053576)=false:=decide_eq_false h2;by_cases h3:1048576<e+(n:Int)
     ·have hr:res.raw=⟨rz,3⟩:=by rw [hn1,if_pos (by omega)];rw [bad,Outc.raw,Cj]
      have HR:=hid hr;have d3:decide (1048576<e+(n:Int))=true:=decide_eq_true h3;clear h1 h2 h3;clear hr hn1 hn ht LM GR LO SH HX;obtain ⟨-,a0,a1,a2,-⟩:=HA2.out.facts;obtain ⟨-,b0,b1,b2,f0,f1,f2⟩:=HB2.out.facts;go_wp2_with fail;rw [HR.out];exact Bw (HB2.out.laid _ _ _) rfl rfl rfl ⟨Al (K.out.trans Q2.out) (by omega),_,rfl,rzR _⟩
     ·by_cases h4:e+(n:Int) < -1048576
      ·have hr:res.raw=⟨rz,3⟩:=by rw [hn1,if_pos (by omega)];rw [bad,Outc.raw,Cj]
       have HR:=hid hr;have d3:decide (1048576<e+(n:Int))=false:=decide_eq_false h3;have d4:decide (e+(n:Int) < -1048576)=true:=decide_eq_true h4;clear h1 h2 h3 h4;clear hr hn1 hn ht LM GR LO SH HX;obtain ⟨-,a0,a1,a2,-⟩:=HA2.out.facts;obtain ⟨-,b0,b1,b2,f0,f1,f2⟩:=HB2.out.facts;go_wp2_with fail;rw [HR.out];exact Bw (HB2.out.laid _ _ _) rfl rfl rfl ⟨Al (K.out.trans Q2.out) (by omega),_,rfl,rzR _⟩
      ·have hr:res.raw=⟨⟨neg,limbs q,e+n⟩,0⟩:=by rw [hn1,if_neg (by omega)];rfl
       have HR:=hid hr;have hb:-9223372036854775808≤e+(n:Int)∧e+(n:Int)≤9223372036854775807:=by omega
       have HBD:=hid hb;have d3:decide (1048576<e+(n:Int))=false:=decide_eq_false h3;have d4:decide (e+(n:Int) < -1048576)=false:=decide_eq_false h4;clear hr hn1 hn ht GR LO SH HX h1 h2 h3 h4 hb;generalize hs:e+(n:Int)=s at *;obtain ⟨-,a0,a1,a2,-⟩:=HA2.out.facts;go_wp2_with fail
       refine Q9 9 ([(vP w.heap.size 0),(vE (.bool neg)),(vE (.slice A2 xq.length c2)),(fun v wv=>Lim wv v (limbs q)),(vP w.heap.size 2),(vE (.int .i64 e)),(vE (.int .i64 n)),(vE (.int .i64 s)),(fun v wv=>DyR wv v ⟨neg,limbs q,s⟩)])
        ⟨
         (gq 1),(gvl 0 44 fun _ k=>Af HA2.out k 0 _ rfl),(gq 5),(fun aF wF F=>by have s46:=F.v 2 46;exact sL (LM.out _ _ (Z2.out.kept F.kept)) fun _ _ h=>h),(gq 1),(gvl 4 48 fun _ k=>Af HA2.out k 2 _ rfl),(gq 4),(gvv 5 49 6 50),(fun aF wF F=>by have s45:=F.v 1 45;have s47:=F.p 3 47;have s51:=F.v 7 51;simp only [Array.getD_eq_getD_getElem?] at s45;simp only [Array.getD_eq_getD_getElem?] at s51;obtain ⟨-,A5,c5,ee,-,-⟩:=id s47;rw [ee] at s47;simp only [Array.getD_eq_getD_getElem?] at ee;exact sv ⟨_,rfl,s47,HBD.out⟩),
         trivial⟩ ?_
       intro u w1 k1 hu;have p47:=hp hu 3;have p52:=hp hu 8;simp only [Av,Am,if_true,Act.put,zlA,zlB,zlC,zlD,zlE,zlF,zlG,hv hu 0,hv hu 1,hv hu 2,hv hu 4,hv hu 5,hv hu 6,hv hu 7];clear hu;generalize u 3=v47,u 8=v52 at *;obtain ⟨A6,l6,c6,rfl,-,z6,g3,g4⟩:=p52.shape;have Z6:=hid z6;have hb3:=HB2.out.kept k1;obtain ⟨-,b0,b1,b2,f0,f1,f2⟩:=hb3.facts;have HB3:=hid hb3;have K3:=hid (K.out.trans (Q2.out.trans k1));clear z6 hb3 p47 p52 k1;refine ⟨?_,.inl (by kernel_rfl)⟩;go_simp;go_wp2_with fail;rw [HR.out];exact Bw (HB3.out.laid _ _ _) rfl rfl rfl ⟨Al K3.out (by omega),_,rfl,(Z6.out.dyW HB3.out (Ah _) (Ag _ _ _) (Aj _)).dyR (r:=⟨neg,limbs q,s⟩) g3 g4⟩
theorem Tz {w:World}{v u:Value}{r:Raw}(ha:DyR w v r)(hb:DyR w u r)(hl:r.m.length≤17592186044416) :
 Calls Tryz.prog 96 #[v,u] w (RetK (.bool true) w):=by
 obtain ⟨neg,m,e⟩:=r;obtain ⟨s,rfl,hs,h1,h2⟩:=ha;obtain ⟨t,rfl,ht,-,-⟩:=hb;obtain ⟨hsm,A,c,rfl,hc,hA⟩:=hs;obtain ⟨-,B,d,rfl,hd,hB⟩:=ht;simp only at *;have HX:=hid (fun i=>nth_lt hsm i);obtain ⟨W,hW,kW,BA,BB⟩:=Kh w (.bool neg) (.slice A m.length c) (.int .i64 e) (.bool neg) (.slice B m.length d) (.int .i64 e);have qA:0<m.length→∀ i,i<m.length→∃ b off,A=some ⟨b,off,none⟩∧W.cell? ⟨b,off+i,none⟩=some (.int .u64 (nth m i)):=fun h i hi=>by
  obtain ⟨b,off,e1,e2,e3⟩:=hA h;exact ⟨b,off,e1,(kW.cell (p:=⟨b,off+i,none⟩) e2).trans (e3 i hi)⟩
 have HA:=hid qA;have qB:0<m.length→∀ i,i<m.length→∃ b off,B=some ⟨b,off,none⟩∧W.cell? ⟨b,off+i,none⟩=some (.int .u64 (nth m i)):=fun h i hi=>by
  obtain ⟨b,off,e1,e2,e3⟩:=hB h;exact ⟨b,off,e1,(kW.cell (p:=⟨b,off+i,none⟩) e2).trans (e3 i hi)⟩
 have HB:=hid qB;have HW:=hid hW;have K:=hid kW;obtain ⟨-,a0,a1,a2,-⟩:=BA.facts;obtain ⟨-,b0,b1,b2,-⟩:=BB.facts;clear qA qB hA hB hW kW BA BB hsm;generalize m.length=l at *;have e1:(neg != neg)=false:=by cases neg<;>rfl
 have e2:(e != e)=false:=by simp
 have e3:(((l:Nat):Int) != (l:Int))=false:=by simp
 go_enter Tryz.func96,Tryz.ntmps96;go_wp2_with fail;rw [←HW.out]
 go_loopw [5] (fun i wr=>∃ k:Nat,k≤l∧i=.int .i64 k∧∃ q,wr=W.drewN q) (fun i _=>l-(intOf i).toNat)
 case atStart=>exact ⟨0,by omega,rfl,⟨0,rfl⟩⟩
 case round =>
  obtain ⟨k,hk,rfl,⟨q,rfl⟩⟩:=hrel;by_cases hkl:k<l
  ·obtain ⟨b,off,hA1,hck⟩:=HA.out (by omega) k hkl;obtain ⟨b',off',hB1,hck'⟩:=HB.out (by omega) k hkl;have hxk:=HX.out k;subst hA1;subst hB1;generalize nth m k=x at *;have e4:(((x:Nat):Int) != (x:Int))=false:=by simp
   have d4:decide (k<l)=true:=decide_eq_true hkl;go_wp2_with fail
   go_quiet (fail)
   go_wp2_with fail;go_roundw
   case rel=>exact ⟨k+1,by omega,by go_num,⟨_,rfl⟩⟩
   case measure=>simp [intOf];omega
  ·obtain rfl:k=l:=by omega
   have d4:decide (k<k)=false:=by simp
   go_wp2_with fail;go_ret;exact ⟨rfl,K.out.drewN _⟩
theorem Zn (a b:Nat):(Bp a b != 0)=decide (a≠b):=by
 unfold Bp;by_cases h1:a<b
 ·rw [if_pos h1,decide_eq_true (by omega)];rfl
 ·rw [if_neg h1];by_cases h2:a=b
  ·rw [if_pos h2,decide_eq_false (fun h=>h h2)];rfl
  ·rw [if_neg h2,decide_eq_true h2];rfl
theorem Yh {w:World}{v:Value}{neg up:Bool}{m p:Nat}{e:Int}(hv:Dg.DN w v neg m e)(hb:bl m≤10000)(hp:p≤2000)(he:-10000000≤e)(he':e≤10000000) :
 Calls Tryz.prog 95 #[v,.int .i64 p,.bool up] w (Dg.RetN neg (Gv neg m p up) (e+((bl m-p:Nat):Int)) w):=by
 obtain ⟨A,l,c,rfl,hd⟩:=hv;have hl:(Dg.limbs m).length≤10000:=by have:=Dg.len_bl m;omega
 have BI:=hid (fun w1 (k:Kept w w1)=>(Dg.bits_c (hd.kept k) (by omega)).mono fun _ _ h=>RetQ.k h);obtain ⟨W,hW,kW,BA,BB⟩:=Dg.box_nn w (.bool neg) (.slice A l c) (.int .i64 e) (.bool false) (.slice none 0 0) (.int .i64 0);have HW:=hid hW;have K:=hid kW;have HA:=hid BA;have HB:=hid BB;have HD:=hid hd;clear hW kW BA BB;have hw1:IntKind.i64.wrap ((bl m:Int)-(p:Int))=(bl m:Int)-(p:Int):=by simp [IntKind.wrap_i64];omega
 by_cases h0:bl m≤p
 ·have hq:Gv neg m p up=m:=by unfold Gv;rw [if_pos h0]
  have hz:((bl m-p:Nat):Int)=0:=by omega
  rw [hq,hz,Int.add_zero];have d0:decide ((bl m:Int)-(p:Int)≤0)=true:=decide_eq_true (by omega);clear hq hz h0 hd hl hb;generalize (bl m:Int)=bm at *;go_enter Tryz.func95,Tryz.ntmps95;go_wp2_with fail;rw [←HW.out];refine (BI.out _ K.out).mono ?_;rintro _ w1 ⟨rfl,q1⟩;have ha3:=HA.out.kept q1;have hb3:=HB.out.kept q1;obtain ⟨-,a0,a1,a2,-⟩:=ha3.facts;obtain ⟨-,b0,b1,b2,f0,f1,f2⟩:=hb3.facts;have K3:=hid (K.out.trans q1);have HB3:=hid hb3;clear ha3 hb3 q1;simp only [];go_wp2_with fail;exact Dg.ret_n (HB3.out.laid _ _ _) rfl rfl rfl ⟨Al K3.out (by omega),_,rfl,_,_,_,rfl,(HD.out.kept K3.out).dyW HB3.out (by simp) (by simp) (by simp)⟩
 ·obtain ⟨n,hn⟩:∃ n,bl m-p=n:=⟨_,rfl⟩;have hn0:(bl m:Int)-(p:Int)=(n:Int):=by omega
  have hm0:m≠0:=by rintro rfl;exact h0 (by rw [Ey];omega)
  have hq:Gv neg m p up=if up != neg&&(Bp (m/2^n*2^n) m != 0) then m/2^n+1 else m/2^n:=by
   unfold Gv;rw [if_neg h0,hn,Zn]
  rw [hq,hn];replace hw1:=hw1.trans hn0;have d0:¬n=0:=by omega
  have hw2:IntKind.i64.wrap (e+(n:Int))=e+(n:Int):=by simp [IntKind.wrap_i64];omega
  have h1:(Dg.limbs (m/2^n)).length≤10000:=Nat.le_trans (Dg.len_mono (Nat.div_le_self _ _)) hl;have h2:(Dg.limbs (m/2^n*2^n)).length≤10000:=Nat.le_trans (Dg.len_mono (Nat.div_mul_le_self _ _)) hl;have SH:=hid (fun w1 (k:Kept w w1)=>Dg.shr_c (hd.kept k) n (by omega) (by omega));have SL:=hid (fun w1 u (h:Dg.Lim w1 u (Dg.limbs (m/2^n)))=>Dg.shl_c h n (by omega) (by omega));have CM:=hid (fun w1 u (k:Kept w w1) (h:Dg.Lim w1 u (Dg.limbs (m/2^n*2^n)))=>(Dg.cmp_c h (hd.kept k) (by omega) (by omega)).mono fun _ _ h=>RetQ.k h);have AD:=hid (fun w1 u v1 (h:Dg.Lim w1 u (Dg.limbs (m/2^n))) (h':Dg.Lim w1 v1 (Dg.limbs 1))=>Dg.add_c h h' (by omega) (by rw [Dg.limbs_one];decide))
  clear hq hd hl hb h0 hm0 hp he he' h1 h2 hn HD hn0;generalize Bp (m/2^n*2^n) m=cc at *;generalize m/2^n*2^n=ms at *;generalize m/2^n=mq at *;generalize (bl m:Int)=bm at *;obtain ⟨R,hR⟩:∃ R,(if up != neg&&(cc != 0) then mq+1 else mq)=R:=⟨_,rfl⟩;rw [hR];have HR:=hid hR;clear hR;go_enter Tryz.func95,Tryz.ntmps95;go_wp2_with fail;rw [←HW.out];refine (BI.out _ K.out).mono ?_;rintro _ w1 ⟨rfl,q1⟩;obtain ⟨-,a0,a1,a2,-⟩:=(HA.out.kept q1).facts;simp only [];go_wp2_with fail;refine (SH.out _ (K.out.trans q1)).mono ?_;rintro _ w2 ⟨v2,rfl,z2,q2⟩;have Z2:=hid z2;obtain ⟨A2,c2,rfl⟩:=Dg.Lim.shape z2;have K2:=hid (K.out.trans (q1.trans q2))
  replace HA:=hid (HA.out.kept (q1.trans q2));replace HB:=hid (HB.out.kept (q1.trans q2));clear z2 a0 a1 a2 q1 q2 BI SH hw1;simp only [];generalize (Dg.limbs mq).length=lq at *;obtain ⟨-,a0,a1,a2,-⟩:=HA.out.facts;go_wp2_with fail;obtain ⟨b,hb⟩:∃ b,(up != neg)=b:=⟨_,rfl⟩;rw [hb] at HR;cases b
  ·have r0:R=mq:=by rw [←HR.out];rfl
   subst r0;clear HR
   refine rgL 13 ([(vE (.bool up)),(vP w.heap.size 0),(vE (.bool neg)),(vE (.bool false)),(vE (.bool false)),(vE undef),(vE undef),(vE undef),(vE undef),(vE undef),(vE undef),(vE undef),(vE (.bool false))])
    ⟨
     (gq 2),(gq 3),(gvl 1 22 fun _ k=>Af HA.out k 0 _ rfl),(fun aF wF F=>by have s21:=F.v 0 21;have s23:=F.v 2 23;exact sw (by (go_simp;cases up<;>cases neg<;>simp_all)) rfl),(gv 3 24),(so 4 25),(so 4 25),(so 4 25),(so 4 25),(so 4 25),(so 4 25),(so 4 25),(gvv 4 25 11 32),
     trivial⟩ ?_
   intro u w1 k1 hu;simp only [Av,Am,if_true,Act.put,zlA,zlB,zlC,zlD,zlE,zlF,zlG,hv hu 0,hv hu 1,hv hu 2,hv hu 3,hv hu 4,hv hu 5,hv hu 6,hv hu 7,hv hu 8,hv hu 9,hv hu 10,hv hu 11,hv hu 12];clear hu;have K3:=hid (K2.out.trans k1);have hb3:=HB.out.kept k1;obtain ⟨-,a0,a1,a2,-⟩:=(HA.out.kept k1).facts;obtain ⟨-,b0,b1,b2,f0,f1,f2⟩:=hb3.facts;have HB3:=hid hb3;replace Z2:=hid (Z2.out.kept k1);clear hb3 k1;go_wp2_with fail;exact Dg.ret_n (HB3.out.laid _ _ _) rfl rfl rfl ⟨Al K3.out (by omega),_,rfl,_,_,_,rfl,Z2.out.dyW HB3.out (by simp) (by simp) (by simp)⟩
  ·have r0:R=if cc != 0 then mq+1 else mq:=by rw [←HR.out,Bool.true_and]
   have R0:=hid r0;clear HR r0
   refine rgL 13 ([(vE (.bool up)),(vP w.heap.size 0),(vE (.bool neg)),(vE (.bool true)),(vE (.bool true)),(vE (.slice A2 lq c2)),(vE (.int .i64 n)),(fun v wv=>Dg.Lim wv v (Dg.limbs ms)),(vP w.heap.size 1),(vE (.slice A l c)),(vE (.int .i64 cc)),(vE (.bool (cc != 0))),(vE (.bool (cc != 0)))])
    (hM:=⟨⟨mE,mE,mE,mE,mE,mE,mE,fun v w w' k h=>Dg.Lim.kept h k,mE,mE,mE,mE,mE,trivial⟩⟩) ⟨
      (gq 2),(gq 3),(gvl 1 22 fun _ k=>Af HA.out k 0 _ rfl),(fun aF wF F=>by have s21:=F.v 0 21;have s23:=F.v 2 23;exact sw (by (go_simp;cases up<;>cases neg<;>simp_all)) rfl),(gv 3 24),(fun aF wF F=>by have s8:=F.q 8 (.slice A2 lq c2);have sg:=F.v 4 25;exact Au ((Ai rfl rfl sg).trans rfl) (by go_simp) rfl),(fun aF wF F=>by have s7:=F.q 7 (.int .i64 n);have sg:=F.v 4 25;exact Au ((Ai rfl rfl sg).trans rfl) (by go_simp) rfl),(fun aF wF F=>by have s26:=F.v 5 26;have s27:=F.v 6 27;have sg:=F.v 4 25;exact Ao ((Ai rfl rfl sg).trans rfl) (by go_simp) (SL.out _ _ (Z2.out.kept F.kept)) (fun _ _ h=>Dg.RetLim.good h) (fun _ _ h=>h)),(fun aF wF F=>by have s3:=F.q 3 (.pointer (some ⟨w.heap.size,0,none⟩));have sg:=F.v 4 25;exact Au ((Ai rfl rfl sg).trans rfl) (by go_simp) rfl),(fun aF wF F=>by have s29:=F.v 8 29;have c0:=Af HA.out F.kept 1 _ rfl;have sg:=F.v 4 25;exact Au ((Ai rfl rfl sg).trans rfl) (by go_simp) rfl),(fun aF wF F=>by have s28:=F.p 7 28;have s30:=F.v 9 30;have sg:=F.v 4 25;exact Ao ((Ai rfl rfl sg).trans rfl) (by go_simp) (CM.out _ _ (K2.out.trans F.kept) s28) (fun _ _ h=>RetK.good h) (fun _ _ h=>h)),(fun aF wF F=>by have s31:=F.v 10 31;have sg:=F.v 4 25;exact Au ((Ai rfl rfl sg).trans rfl) (by go_simp) rfl),(gvv 4 25 11 32),
      trivial⟩ ?_
   intro u w1 k1 hu;have p28:=hp hu 7;simp only [Av,Am,if_true,Act.put,zlA,zlB,zlC,zlD,zlE,zlF,zlG,hv hu 0,hv hu 1,hv hu 2,hv hu 3,hv hu 4,hv hu 5,hv hu 6,hv hu 8,hv hu 9,hv hu 10,hv hu 11,hv hu 12];clear hu;generalize u 7=v28 at *;clear p28;rcases Ca (cc != 0) with hc | hc
   ·have r0:R=mq+1:=by rw [R0.out,hc];rfl
    rw [hc];have R1:=hid r0;clear R0 r0;have K3:=hid (K2.out.trans k1);have HA3:=hid (HA.out.kept k1);have HB3:=hid (HB.out.kept k1);replace Z2:=hid (Z2.out.kept k1);clear k1;go_wp2_with fail;refine (AD.out _ _ _ (Z2.out.kept (Ad _ _)) (Dg.lim_one _)).mono ?_;rintro _ w4 ⟨v4,rfl,z4,q4⟩;have Z4:=hid z4;obtain ⟨A4,c4,rfl⟩:=Dg.Lim.shape z4;have q5:=(Ad _ _).trans q4;have K5:=hid (K3.out.trans q5);have hb3:=HB3.out.kept q5;obtain ⟨-,a0,a1,a2,-⟩:=(HA3.out.kept q5).facts;obtain ⟨-,b0,b1,b2,f0,f1,f2⟩:=hb3.facts;have HB4:=hid hb3;clear hb3 q5 q4 z4;simp only [];go_wp2_with fail;rw [R1.out]
    exact Dg.ret_n (HB4.out.laid _ _ _) rfl rfl rfl ⟨Al K5.out (by omega),_,rfl,_,_,_,rfl,Z4.out.dyW HB4.out (by simp) (by simp) (by simp)⟩
   ·have r0:R=mq:=by rw [R0.out,hc];rfl
    rw [hc];subst r0;clear R0;have K3:=hid (K2.out.trans k1);have hb3:=HB.out.kept k1;obtain ⟨-,a0,a1,a2,-⟩:=(HA.out.kept k1).facts;obtain ⟨-,b0,b1,b2,f0,f1,f2⟩:=hb3.facts;have HB3:=hid hb3;replace Z2:=hid (Z2.out.kept k1);clear hb3 k1;go_wp2_with fail;exact Dg.ret_n (HB3.out.laid _ _ _) rfl rfl rfl ⟨Al K3.out (by omega),_,rfl,_,_,_,rfl,Z2.out.dyW HB3.out (by simp) (by simp) (by simp)⟩
theorem Ye {w:World}{v u:Value}{a:RawI}(ha:IvR w v a)(hb:IvR w u a)(hl:a.lens 17592186044416) :
 Calls Tryz.prog 45 #[v,u] w (RetK (.bool true) w):=by
 obtain ⟨A,l,c,A',l',c',rfl,h1,h2⟩:=Be ha;obtain ⟨B,m,d,B',m',d',rfl,g1,g2⟩:=Be hb;have C1:=hid (fun w1 (k:Kept w w1)=>Tz (h1.kept k) (g1.kept k) hl.1);have C2:=hid (fun w1 (k:Kept w w1)=>Tz (h2.kept k) (g2.kept k) hl.2);clear h1 h2 g1 g2 ha hb hl;generalize a.lo.neg=n1 at *;generalize a.lo.e=e1 at *;generalize a.hi.neg=n2 at *;generalize a.hi.e=e2 at *;obtain ⟨W,hW,kW,BA,BB⟩:=Om w (.bool n1) (.slice A l c) (.int .i64 e1) (.bool n2) (.slice A' l' c') (.int .i64 e2) (.bool n1) (.slice B m d) (.int .i64 e1) (.bool n2) (.slice B' m' d') (.int .i64 e2);have HW:=hid hW;have K:=hid kW
 have HA:=hid BA;have HB:=hid BB;clear hW kW BA BB;go_enter Tryz.func45,Tryz.ntmps45;go_wp2_with fail;rw [←HW.out];obtain ⟨-,a0,a1,a2,a3,a4,a5⟩:=HA.out.facts;obtain ⟨-,b0,b1,b2,b3,b4,b5⟩:=HB.out.facts;go_wp2_with fail;refine (C1.out _ K.out).mono ?_;rintro _ w1 ⟨rfl,q1⟩;replace HA:=hid (HA.out.kept q1);replace HB:=hid (HB.out.kept q1);clear a0 a1 a2 a3 a4 a5 b0 b1 b2 b3 b4 b5;obtain ⟨-,a0,a1,a2,a3,a4,a5⟩:=HA.out.facts;obtain ⟨-,b0,b1,b2,b3,b4,b5⟩:=HB.out.facts;simp only [];go_wp2_with fail;refine (C2.out _ (K.out.trans q1)).mono ?_;rintro _ w2 ⟨rfl,q2⟩;simp only [];go_wp2_with fail;go_ret;exact ⟨rfl,K.out.trans (q1.trans q2)⟩
theorem Yb {w:World}{p:Int}:Calls Tryz.prog 37 #[.int .i64 p] w (RetK (.bool (decide (1≤p)&&decide (p≤2000))) w):=by
 rcases Ca (decide (1≤p)) with h1 | h1
 ·rw [h1,Bool.true_and];go_enter Tryz.func37,Tryz.ntmps37;go_wp2_with fail;go_ret;exact ⟨rfl,Below.refl _ _⟩
 ·rw [h1,Bool.false_and];go_enter Tryz.func37,Tryz.ntmps37;go_wp2_with fail;go_ret;exact ⟨rfl,Below.refl _ _⟩
theorem Ls {w:World}{v u:Value}{x y:Dy}(ha:DyR w v x.raw)(hb:DyR w u y.raw)(hx:x.Ok)(hy:y.Ok) :
 Calls Tryz.prog 81 #[v,u] w (RetK (.bool (decide (Bq x.q y.q<0))) w):=by
 have C1:=hid (fun w1 (k:Kept w w1)=>Yg (ha.kept k) (hb.kept k) hx hy);obtain ⟨A,l,c,rfl,-,-,-,-⟩:=ha.shape;obtain ⟨B,m,d,rfl,-,-,-,-⟩:=hb.shape;clear ha hb hx hy;generalize Bq x.q y.q=r at *;simp only [Dy.raw] at *;generalize x.neg=n1 at *;generalize x.e=e1 at *;generalize y.neg=n2 at *;generalize y.e=e2 at *;obtain ⟨W,hW,kW,BA,BB⟩:=Kh w (.bool n1) (.slice A l c) (.int .i64 e1) (.bool n2) (.slice B m d) (.int .i64 e2);have HW:=hid hW;have K:=hid kW;obtain ⟨-,a0,a1,a2,-⟩:=BA.facts;obtain ⟨-,b0,b1,b2,-⟩:=BB.facts;clear hW kW BA BB;go_enter Tryz.func81,Tryz.ntmps81;go_wp2_with fail;rw [←HW.out]
 go_wp2_with fail;refine (C1.out _ K.out).mono ?_;rintro _ w1 ⟨rfl,q1⟩;simp only [];go_wp2_with fail;go_ret;exact ⟨rfl,K.out.trans q1⟩
theorem Xa {w:World}{v u:Value}{x y:Dy}(ha:DyR w v x.raw)(hb:DyR w u y.raw)(hx:x.Ok)(hy:y.Ok) :
 Calls Tryz.prog 40 #[v,u] w (RetD (if Bq y.q x.q<0 then y else x).raw w):=by
 have C1:=hid (fun w1 (k:Kept w w1)=>Ls (hb.kept k) (ha.kept k) hy hx);have HX:=hid ha;have HY:=hid hb;obtain ⟨A,l,c,rfl,-,ha,ga,ga'⟩:=ha.shape;obtain ⟨B,m,d,rfl,-,hb,gb,gb'⟩:=hb.shape;have LA:=hid ha;have LB:=hid hb;have GA:=hid ga;have GA':=hid ga';have GB:=hid gb;have GB':=hid gb';clear ha hb hx hy ga ga' gb gb' HX HY;obtain ⟨R,hR⟩:∃ R,(if Bq y.q x.q<0 then y else x)=R:=⟨_,rfl⟩;rw [hR];have HR:=hid hR;clear hR;obtain ⟨W,hW,kW,BA,BB,BC⟩:=Gu w (.bool x.neg) (.slice A l c) (.int .i64 x.e) (.bool y.neg) (.slice B m d) (.int .i64 y.e);have HW:=hid hW;have K:=hid kW;have HA:=hid BA;have HB:=hid BB
 have HC:=hid BC;clear hW kW BA BB BC;by_cases hlt:Bq y.q x.q<0
 ·have r0:R=y:=by rw [←HR.out,if_pos hlt]
  subst r0;rw [decide_eq_true hlt] at C1;clear HR hlt LA GA GA';simp only [Dy.raw] at *;generalize x.neg=n1 at *;generalize x.e=e1 at *;generalize R.neg=n2 at *;generalize R.e=e2 at *;obtain ⟨-,a0,a1,a2,-⟩:=HA.out.facts;obtain ⟨-,b0,b1,b2,-⟩:=HB.out.facts;go_enter Tryz.func40,Tryz.ntmps40;go_wp2_with fail;rw [←HW.out];go_wp2_with fail;refine (C1.out _ K.out).mono ?_;rintro _ w1 ⟨rfl,q1⟩;replace K:=hid (K.out.trans q1);replace HB:=hid (HB.out.kept q1);replace HC:=hid (HC.out.kept q1);clear a0 a1 a2 b0 b1 b2 q1 HA;obtain ⟨-,b0,b1,b2,-⟩:=HB.out.facts;obtain ⟨-,c0,c1,c2,f0,f1,f2⟩:=HC.out.facts;simp only []
  go_wp2_with fail;exact B9 (HC.out.laid _ _ _) rfl rfl rfl ⟨Al K.out (by omega),_,rfl,((LB.out.kept K.out).dyW HC.out (Ah _) (Ag _ _ _) (Aj _)).dyR (r:=⟨_,_,_⟩) GB.out GB'.out⟩
 ·have r0:R=x:=by rw [←HR.out,if_neg hlt]
  subst r0;rw [decide_eq_false hlt] at C1;clear HR hlt LB GB GB';simp only [Dy.raw] at *;generalize R.neg=n1 at *;generalize R.e=e1 at *;generalize y.neg=n2 at *;generalize y.e=e2 at *;obtain ⟨-,a0,a1,a2,-⟩:=HA.out.facts;obtain ⟨-,b0,b1,b2,-⟩:=HB.out.facts;go_enter Tryz.func40,Tryz.ntmps40;go_wp2_with fail;rw [←HW.out];go_wp2_with fail;refine (C1.out _ K.out).mono ?_;rintro _ w1 ⟨rfl,q1⟩;replace K:=hid (K.out.trans q1);replace HA:=hid (HA.out.kept q1);replace HC:=hid (HC.out.kept q1);clear a0 a1 a2 b0 b1 b2 q1 HB;obtain ⟨-,a0,a1,a2,-⟩:=HA.out.facts;obtain ⟨-,c0,c1,c2,f0,f1,f2⟩:=HC.out.facts;simp only []
  go_wp2_with fail;exact B9 (HC.out.laid _ _ _) rfl rfl rfl ⟨Al K.out (by omega),_,rfl,((LA.out.kept K.out).dyW HC.out (Ah _) (Ag _ _ _) (Aj _)).dyR (r:=⟨_,_,_⟩) GA.out GA'.out⟩
theorem Qj {w:World}{v u:Value}{x y:Dy}(ha:DyR w v x.raw)(hb:DyR w u y.raw)(hx:x.Ok)(hy:y.Ok) :
 Calls Tryz.prog 41 #[v,u] w (RetD (if Bq x.q y.q<0 then y else x).raw w):=by
 have C1:=hid (fun w1 (k:Kept w w1)=>Ls (ha.kept k) (hb.kept k) hx hy);have HX:=hid ha;have HY:=hid hb;obtain ⟨A,l,c,rfl,-,ha,ga,ga'⟩:=ha.shape;obtain ⟨B,m,d,rfl,-,hb,gb,gb'⟩:=hb.shape;have LA:=hid ha;have LB:=hid hb;have GA:=hid ga;have GA':=hid ga';have GB:=hid gb;have GB':=hid gb';clear ha hb hx hy ga ga' gb gb' HX HY;obtain ⟨R,hR⟩:∃ R,(if Bq x.q y.q<0 then y else x)=R:=⟨_,rfl⟩;rw [hR];have HR:=hid hR;clear hR;obtain ⟨W,hW,kW,BA,BB,BC⟩:=Gu w (.bool x.neg) (.slice A l c) (.int .i64 x.e) (.bool y.neg) (.slice B m d) (.int .i64 y.e);have HW:=hid hW;have K:=hid kW;have HA:=hid BA;have HB:=hid BB
 have HC:=hid BC;clear hW kW BA BB BC;by_cases hlt:Bq x.q y.q<0
 ·have r0:R=y:=by rw [←HR.out,if_pos hlt]
  subst r0;rw [decide_eq_true hlt] at C1;clear HR hlt LA GA GA';simp only [Dy.raw] at *;generalize x.neg=n1 at *;generalize x.e=e1 at *;generalize R.neg=n2 at *;generalize R.e=e2 at *;obtain ⟨-,a0,a1,a2,-⟩:=HA.out.facts;obtain ⟨-,b0,b1,b2,-⟩:=HB.out.facts;go_enter Tryz.func41,Tryz.ntmps41;go_wp2_with fail;rw [←HW.out];go_wp2_with fail;refine (C1.out _ K.out).mono ?_;rintro _ w1 ⟨rfl,q1⟩;replace K:=hid (K.out.trans q1);replace HB:=hid (HB.out.kept q1);replace HC:=hid (HC.out.kept q1);clear a0 a1 a2 b0 b1 b2 q1 HA;obtain ⟨-,b0,b1,b2,-⟩:=HB.out.facts;obtain ⟨-,c0,c1,c2,f0,f1,f2⟩:=HC.out.facts;simp only []
  go_wp2_with fail;exact B9 (HC.out.laid _ _ _) rfl rfl rfl ⟨Al K.out (by omega),_,rfl,((LB.out.kept K.out).dyW HC.out (Ah _) (Ag _ _ _) (Aj _)).dyR (r:=⟨_,_,_⟩) GB.out GB'.out⟩
 ·have r0:R=x:=by rw [←HR.out,if_neg hlt]
  subst r0;rw [decide_eq_false hlt] at C1;clear HR hlt LB GB GB';simp only [Dy.raw] at *;generalize R.neg=n1 at *;generalize R.e=e1 at *;generalize y.neg=n2 at *;generalize y.e=e2 at *;obtain ⟨-,a0,a1,a2,-⟩:=HA.out.facts;obtain ⟨-,b0,b1,b2,-⟩:=HB.out.facts;go_enter Tryz.func41,Tryz.ntmps41;go_wp2_with fail;rw [←HW.out];go_wp2_with fail;refine (C1.out _ K.out).mono ?_;rintro _ w1 ⟨rfl,q1⟩;replace K:=hid (K.out.trans q1);replace HA:=hid (HA.out.kept q1);replace HC:=hid (HC.out.kept q1);clear a0 a1 a2 b0 b1 b2 q1 HB;obtain ⟨-,a0,a1,a2,-⟩:=HA.out.facts;obtain ⟨-,c0,c1,c2,f0,f1,f2⟩:=HC.out.facts;simp only []
  go_wp2_with fail;exact B9 (HC.out.laid _ _ _) rfl rfl rfl ⟨Al K.out (by omega),_,rfl,((LA.out.kept K.out).dyW HC.out (Ah _) (Ag _ _ _) (Aj _)).dyR (r:=⟨_,_,_⟩) GA.out GA'.out⟩
section
variable {P:Program} {ops:Array Oper} {Q:Exit→Act→World→Prop}
variable {id:Nat} {o o':Oper} {a0:Act} {W:World}
end
theorem Dg.Blk.other {w:World}{b c:Nat}{x y z:Value}(h:Dg.Blk w b x y z)(hne:¬b=c)(p q r:Value):Dg.Blk (dyW w c p q r) b x y z:=by
 unfold Dg.Blk dyW at *;rw [Below.heap_setCell _ _ _ _ hne,Below.heap_setCell _ _ _ _ hne,Below.heap_setCell _ _ _ _ hne];exact h
end Go.Proofs.YtinbgjcooolbiaaGreatDoor
