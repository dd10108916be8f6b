/- Words and contracts, part 36. -/
import Derived.Test.YtmgaloopddiekaaGreatDoorClaimFargsp31
set_option maxRecDepth 100000
set_option maxHeartbeats 0
namespace Go.Proofs.YtmgaloopddiekaaGreatDoor
open Go.Lib (hid)
open Go.RowKit
def Wo (x p:List RawI) (bits:Int):Bool:=decide (8≤bits)&&decide (bits≤200)&&decide (1≤x.length)&&decide (x.length≤6)&&x.all Ck&&p.all Ck
def Wp (ls:List Ln) (outs:List Int) (x p:List RawI) (f t h:Raw):Bool:=Hk ls outs x.length 0 p.length&&decide (outs.length=x.length)&&Di f&&Di t&&decide (0<Jr h)
def Mt (f t h:Dy):Bool:=decide ((Du t (Fg f)).k=0)&&decide ((D7 h (Cr false 64 0).v).k=0)&&decide (0≤sg (Du t (Fg f)).v)&&decide (Ce (Du t (Fg f)).v.q (D7 h (Cr false 64 0).v).v.q≤0)
def Fj (ls:List Ln) (outs:List Int) (x p:List RawI) (f t h:Raw) (bits:Int):Bool:=Wo x p bits&&Wp ls outs x p f t h&&Mt f.dy t.dy h.dy
theorem Ai4 (w:World)(a b c d:Value):∃ V,V=w.alloc (.cells #[a,b,c,d] 83)∧Kept w V∧V.heap[w.heap.size]?=some (.cells #[a,b,c,d] 83 (0,0))∧V.heap.size=w.heap.size+1 :=
 ⟨_,rfl,Ad _ _,heap_alloc_new _ _,by simp⟩
theorem Si {w:World}{b:Nat}{x y z u:Value}{T:TypeId}(h:w.heap[b]?=some (.cells #[x,y,z,u] T (0,0))):w.cell? ⟨b,0,none⟩=some x∧w.cell? ⟨b,1,none⟩=some y∧w.cell? ⟨b,2,none⟩=some z∧w.cell? ⟨b,3,none⟩=some u :=
 ⟨Ag h 0 _ rfl,Ag h 1 _ rfl,Ag h 2 _ rfl,Ag h 3 _ rfl⟩
theorem dup {A B G:Prop}(a:G→A)(b:G→B)(g:G):A∧B:=⟨a g,b g⟩
theorem Ad0 {r:Raw}(h:0<Jr r):Di r=true:=by
 by_cases hm:Di r=true
 ·exact hm
 ·exfalso;unfold Jr at h;simp [hm] at h
theorem Aj0 (w:World)(a b c d x y z x' y' z' x2 y2 z2:Value):∃ W,W=(((w.alloc (.cells #[a,b,c,d] 83)).alloc (.cells #[x,y,z] 30)).alloc (.cells #[x',y',z'] 30)).alloc (.cells #[x2,y2,z2] 30) ∧
 Kept w W∧W.heap[w.heap.size]?=some (.cells #[a,b,c,d] 83 (0,0))∧Blk W (w.heap.size+1) x y z∧Blk W (w.heap.size+1+1) x' y' z'∧Blk W (w.heap.size+1+1+1) x2 y2 z2:=by
 obtain ⟨V1,e1,k1,h1,s1⟩:=Ai4 w a b c d;have b2:=blk_new V1 x y z;have b3:=blk_new (V1.alloc (.cells #[x,y,z] 30)) x' y' z';have b4:=blk_new ((V1.alloc (.cells #[x,y,z] 30)).alloc (.cells #[x',y',z'] 30)) x2 y2 z2;simp only [World.size_alloc,s1] at b2 b3 b4;refine ⟨_,rfl,?_,?_,?_,?_,?_⟩
 ·rw [←e1];exact ((k1.trans (Ad _ _)).trans (Ad _ _)).trans (Ad _ _)
 ·rw [←e1];exact Aj h1 (((Ad _ _).trans (Ad _ _)).trans (Ad _ _))
 ·rw [←e1];exact (b2.kept (Ad _ _)).kept (Ad _ _)
 ·rw [←e1];exact b3.kept (Ad _ _)
 ·rw [←e1];exact b4
theorem Acs {w:World}{s o vp vx vf vt vh:Value}{ls:List Ln}{outs:List Int}{p x:List RawI}{rf rt rh:Raw}{bits:Int}
 (hv:TpR w (.agg #[s,o]) ls outs) (hok:Ke ls) (hn:ls.length≤1000000) (hno:outs.length≤1000000) (hp:IvS w vp p) (hx:IvS w vx x) (np:p.length≤1000000) (nx:x.length≤1000000)
 (lp:∀ a∈p,a.lens 17592186044416) (lx:∀ a∈x,a.lens 17592186044416) (h1:DyR w vf rf) (h2:DyR w vt rt) (h3:DyR w vh rh) (l1:rf.m.length≤17592186044416) (l2:rt.m.length≤17592186044416) (l3:rh.m.length≤17592186044416) (hT:Tab w) :
 Calls Tryz.prog 79 #[.agg #[s,o,vp,.int .i64 bits],vx,vf,vt,vh] w (RetK (.bool (Fj ls outs x p rf rt rh bits)) w):=by
 have BX:=hid (fun w1 (k:Kept w w1)=>Ml (hx.kept k) (by omega) lx);have BP:=hid (fun w1 (k:Kept w w1)=>Ml (hp.kept k) (by omega) lp);have TM:=hid (fun w1 (k:Kept w w1)=>W8 (x:=(x.length:Int)) (u:=0) (p:=(p.length:Int)) (hv.kept k) hok (by omega) (by omega) (by omega) (by omega) (by omega));have MF:=hid (fun w1 (k:Kept w w1)=>J9 (h1.kept k) l1);have MT:=hid (fun w1 (k:Kept w w1)=>J9 (h2.kept k) l2);have SH:=hid (fun w1 (k:Kept w w1)=>Mp (h3.kept k) l3);have T:=hid hT;have R1:=hid h1;have R2:=hid h2;have R3:=hid h3;obtain ⟨Af,lf,cf,rfl,-,-,-,-⟩:=h1.shape;obtain ⟨At,lt,ct,rfl,-,-,-,-⟩:=h2.shape
 obtain ⟨Ah,lh,ch,rfl,-,-,-,-⟩:=h3.shape;obtain ⟨Ax,cx,rfl,-,-⟩:=hx;obtain ⟨Ap,cp,rfl,-,-⟩:=hp;obtain ⟨s',o',es,hls,hou⟩:=hv;simp only [Value.agg.injEq,Array.mk.injEq,List.cons.injEq,and_true] at es;obtain ⟨rfl,rfl⟩:=es;obtain ⟨As,cs,rfl,-,-⟩:=hls;obtain ⟨Ao,co,rfl,-,-⟩:=hou;clear h1 h2 h3 l1 l2 l3 hok lx lp hT;obtain ⟨W,hW,kW,hS,BF,BT,BH⟩:=Aj0 w (.slice As ls.length cs) (.slice Ao outs.length co) (.slice Ap p.length cp) (.int .i64 bits) (.bool rf.neg) (.slice Af lf cf) (.int .i64 rf.e) (.bool rt.neg) (.slice At lt ct) (.int .i64 rt.e) (.bool rh.neg) (.slice Ah lh ch) (.int .i64 rh.e);have HW:=hid hW
 have K:=hid kW;have HS:=hid hS;have HF:=hid BF;have HT:=hid BT;have HH:=hid BH;clear hW kW hS BF BT BH;obtain ⟨Q,hQ⟩:∃ Q,Fj ls outs x p rf rt rh bits=Q:=⟨_,rfl⟩;rw [hQ];unfold Fj Wo Wp at hQ;obtain ⟨bx,hbx⟩:∃ t,x.all Ck=t:=⟨_,rfl⟩;obtain ⟨bp,hbp⟩:∃ t,p.all Ck=t:=⟨_,rfl⟩;obtain ⟨tm,htm⟩:∃ t,Hk ls outs x.length 0 p.length=t:=⟨_,rfl⟩;obtain ⟨mf,hmf⟩:∃ t,Di rf=t:=⟨_,rfl⟩;obtain ⟨mt,hmt⟩:∃ t,Di rt=t:=⟨_,rfl⟩;obtain ⟨c1,hc1⟩:∃ t,decide (8≤bits)=t:=⟨_,rfl⟩;obtain ⟨c2,hc2⟩:∃ t,decide (bits≤200)=t:=⟨_,rfl⟩;obtain ⟨c3,hc3⟩:∃ t,decide (1≤x.length)=t:=⟨_,rfl⟩;obtain ⟨c4,hc4⟩:∃ t,decide (x.length≤6)=t:=⟨_,rfl⟩
 obtain ⟨c5,hc5⟩:∃ t,decide (outs.length=x.length)=t:=⟨_,rfl⟩;obtain ⟨c6,hc6⟩:∃ t,decide (0<Jr rh)=t:=⟨_,rfl⟩;rw [hbx] at BX;rw [hbp] at BP;rw [htm] at TM;rw [hmf] at MF;rw [hmt] at MT;rw [hbx,hbp,htm,hmf,hmt,hc1,hc2,hc3,hc4,hc5,hc6] at hQ;have GF:=hid (fun (h:mf=true)=>Dq (Fo R1.out) (hmf.trans h));have GT:=hid (fun (h:mt=true)=>Dq (Fo R2.out) (hmt.trans h));have HQ:=hid hQ;obtain ⟨nx',hnx'⟩:∃ n,x.length=n:=⟨_,rfl⟩;obtain ⟨np',hnp'⟩:∃ n,p.length=n:=⟨_,rfl⟩;obtain ⟨no',hno'⟩:∃ n,outs.length=n:=⟨_,rfl⟩;obtain ⟨nl',hnl'⟩:∃ n,ls.length=n:=⟨_,rfl⟩;rw [hnx'] at hc3 hc4 hc5 BX TM nx ⊢
 rw [hnp'] at BP TM HS HW np;rw [hnp'] at *;rw [hno'] at hc5 TM HS HW ⊢;rw [hnl'] at TM HS HW ⊢;have C1:=hid (show decide (bits<8)=!c1 by rw [←hc1,←decide_not,decide_eq_decide];omega);have C2:=hid (show decide (200<bits)=!c2 by rw [←hc2,←decide_not,decide_eq_decide];omega);have C3:=hid (show decide ((nx':Int)<1)=!c3 by rw [←hc3,←decide_not,decide_eq_decide];omega);have C3':=hid (show decide (nx'=0)=!c3 by rw [←hc3,←decide_not,decide_eq_decide];omega);have C3'':=hid (show decide (nx'<1)=!c3 by rw [←hc3,←decide_not,decide_eq_decide];omega);have C4:=hid (show decide ((6:Int)<(nx':Int))=!c4 by rw [←hc4,←decide_not,decide_eq_decide];omega)
 have C4':=hid (show decide (6<nx')=!c4 by rw [←hc4,←decide_not,decide_eq_decide];omega);have C5:=hid (show (((no':Nat):Int) != (nx':Int))=!c5 by rw [←hc5];by_cases h:no'=nx'<;>simp [h];omega);have C6:=hid (show decide (Jr rh≤0)=!c6 by rw [←hc6,←decide_not,decide_eq_decide];omega);clear hQ hbx hbp htm hmf hmt hc1 hc2 hc3 hc4 hc5 hc6 hnx' hnp' hno' hnl' hn hno np nx;go_enter Tryz.func79,Tryz.ntmps79;go_upto_region 1 with fail;rw [←HW.out]
 go_cut [43] (fun s43 wx=>s43=.bool (!(c1&&c2&&c3&&c4&&bx&&bp))∧Kept W wx)
 case first =>
  obtain ⟨d0,d1,d2,d3⟩:=Si HS.out;have e1:=C1.out;have e2:=C2.out;have e3:=C3.out;have e4:=C4.out;have e3':=C3'.out;have e3'':=C3''.out;have e4':=C4'.out;cases c1
  ·go_wp2_with fail
   go_meet
   exact ⟨rfl,Below.refl _ _⟩
  cases c2
  ·go_wp2_with fail
   go_meet
   exact ⟨rfl,Below.refl _ _⟩
  cases c3
  ·go_wp2_with fail
   go_meet
   exact ⟨rfl,Below.refl _ _⟩
  cases c4
  ·go_wp2_with fail
   go_meet
   exact ⟨rfl,Below.refl _ _⟩
  go_wp2_with fail;refine (BX.out _ K.out).mono ?_;rintro _ w1 ⟨rfl,q1⟩;clear d0 d1 d2 d3;obtain ⟨d0,d1,d2,d3⟩:=Si (Aj HS.out q1);simp only [];cases bx
  ·go_wp2_with fail
   go_meet
   exact ⟨rfl,q1⟩
  go_wp2_with fail;refine (BP.out _ (K.out.trans q1)).mono ?_;rintro _ w2 ⟨rfl,q2⟩;simp only [];cases bp
  ·go_wp2_with fail
   go_meet
   exact ⟨rfl,q1.trans q2⟩
  ·go_wp2_with fail
   go_meet
   exact ⟨rfl,q1.trans q2⟩
 obtain ⟨rfl,k1⟩:=hcut;replace K:=hid (K.out.trans k1);replace HS:=hid (Aj HS.out k1);replace HF:=hid (HF.out.kept k1);replace HT:=hid (HT.out.kept k1);replace HH:=hid (HH.out.kept k1);clear k1 C1 C2 C3 C3' C3'' C4 C4' BX BP;rcases (Ay (c1&&c2&&c3&&c4&&bx&&bp)).symm with hg | hg
 ·have r0:Q=false:=by rw [←HQ.out,hg,Bool.false_and,Bool.false_and]
  subst r0;rw [hg];clear hg HQ GF GT;go_wp2_with fail;go_ret;exact ⟨rfl,K.out⟩
 have hq:=HQ.out;rw [hg,Bool.true_and] at hq;replace HQ:=hid hq;rw [hg];clear hg hq;go_upto_region 3 with fail
 go_cut [76] (fun s76 wx=>s76=.bool (!(tm&&c5&&mf&&mt&&c6))∧Kept wc wx)
 case first =>
  obtain ⟨d0,d1,d2,d3⟩:=Si HS.out;go_wp2_with fail;refine (TM.out _ K.out).mono ?_;rintro _ w1 ⟨rfl,q1⟩;clear d0 d1 d2 d3;obtain ⟨d0,d1,d2,d3⟩:=Si (Aj HS.out q1);obtain ⟨-,a0,a1,a2,-⟩:=(HF.out.kept q1).facts;have e5:=C5.out;simp only [];cases tm
  ·go_wp2_with fail
   go_meet
   exact ⟨rfl,q1⟩
  cases c5
  ·go_wp2_with fail
   go_meet
   exact ⟨rfl,q1⟩
  go_wp2_with fail;refine (MF.out _ (K.out.trans q1)).mono ?_;rintro _ w2 ⟨rfl,q2⟩;have q12:=q1.trans q2;clear a0 a1 a2 d0 d1 d2 d3;obtain ⟨-,a0,a1,a2,-⟩:=(HT.out.kept q12).facts;simp only [];cases mf
  ·go_wp2_with fail
   go_meet
   exact ⟨rfl,q12⟩
  go_wp2_with fail;refine (MT.out _ (K.out.trans q12)).mono ?_;rintro _ w3 ⟨rfl,q3⟩;have q13:=q12.trans q3;clear a0 a1 a2;obtain ⟨-,a0,a1,a2,-⟩:=(HH.out.kept q13).facts;simp only [];cases mt
  ·go_wp2_with fail
   go_meet
   exact ⟨rfl,q13⟩
  go_wp2_with fail;refine (SH.out _ (K.out.trans q13)).mono ?_;rintro _ w4 ⟨rfl,q4⟩;have q14:=q13.trans q4;have e6:=C6.out;clear a0 a1 a2;generalize Jr rh=sh at *;simp only [];cases c6
  ·go_wp2_with fail
   go_meet
   exact ⟨rfl,q14⟩
  ·go_wp2_with fail
   go_meet
   exact ⟨rfl,q14⟩
 obtain ⟨rfl,k1⟩:=hcut;replace K:=hid (K.out.trans k1);replace HF:=hid (HF.out.kept k1);replace HT:=hid (HT.out.kept k1);replace HH:=hid (HH.out.kept k1);clear k1 TM MF MT SH HS;rcases (Ay (tm&&c5&&mf&&mt&&c6)).symm with hg | hg
 ·have r0:Q=false:=by rw [←HQ.out,hg,Bool.false_and]
  subst r0;rw [hg];clear hg HQ GF GT;go_wp2_with fail;go_ret;exact ⟨rfl,K.out⟩
 have hq:=HQ.out;rw [hg,Bool.true_and] at hq;rw [hg];simp only [Bool.and_eq_true] at hg;obtain ⟨⟨⟨-,hgf⟩,hgt⟩,hgh⟩:=hg;obtain ⟨cf1,of1⟩:=GF.out hgf;obtain ⟨ct1,ot1⟩:=GT.out hgt;have hs6:=C6.out;rw [hgh] at hs6;obtain ⟨ch1,oh1⟩:=Dq (Fo R3.out) (Ad0 (by simpa using of_decide_eq_false hs6));have q1:DyR w (.agg #[.bool rf.neg,.slice Af lf cf,.int .i64 rf.e]) rf.dy.raw:=by rw [cf1];exact R1.out
 have q2:DyR w (.agg #[.bool rt.neg,.slice At lt ct,.int .i64 rt.e]) rt.dy.raw:=by rw [ct1];exact R2.out
 have q3:DyR w (.agg #[.bool rh.neg,.slice Ah lh ch,.int .i64 rh.e]) rh.dy.raw:=by rw [ch1];exact R3.out
 have SB:=hid (fun w1 (k:Kept w w1)=>Aa5 (q2.kept k) (q1.kept k) ot1 of1 (T.out.kept k));have OF:=hid (fun w1 (k:Kept w w1)=>show Calls Tryz.prog 75 #[.int .i64 64,.int .i64 0] w1 (RetE (Cr false 64 0).raw w1) from Vx (k:=64) (by decide) (by decide) (by decide) (T.out.kept k));have ML:=hid (fun w1 v1 (k:Kept w w1) (h:DyR w1 v1 (Cr false 64 0).v.raw)=>Tj (q3.kept k) h oh1 (Gh false 64 0).1 (T.out.kept k));have NU:=hid (fun w1 v1 (h:DyR w1 v1 (Cr false 64 0).v.raw)=>show Calls Tryz.prog 117 #[v1,.int .i64 (Cr false 64 0).raw.k] w1 (RetD (Cr false 64 0).v.raw w1) from (Xa (k:=(Cr false 64 0).raw.k) h).mono fun _ _ hh=>by
  obtain ⟨k0,⟨-,v',e',hd⟩ | ⟨hk,-⟩⟩:=hh
  ·exact ⟨k0,v',e',hd⟩
  ·exact absurd (by decide +kernel) hk)
 have so:=(Nf ot1 (M4 of1)).1;have mo:=(Ld rh.dy (Cr false 64 0).v).1;unfold Mt at hq;clear GF GT C5 C6 HQ hs6 hgf hgt hgh cf1 ct1 ch1 R1 R2 T of1 ot1 oh1;have R3':=hid q3;clear q1 q2;generalize Du rt.dy (Fg rf.dy)=S at *;generalize D7 rh.dy (Cr false 64 0).v=M at *;generalize Cr false 64 0=D at *;have DS:=hid (fun w1 v1 (h:DyR w1 v1 S.v.raw)=>show Calls Tryz.prog 63 #[v1] w1 (RetK (.int .i64 (sg S.v)) w1) by
  have h':=Mp h (by have:=Ds so;omega);rwa [Kq S.v so] at h')
 have DC:=hid (fun w1 v1 v2 (h:DyR w1 v1 S.v.raw) (h2:DyR w1 v2 M.v.raw)=>Hp h h2 so mo);obtain ⟨sk,hsk⟩:∃ t,decide (S.k=0)=t:=⟨_,rfl⟩;obtain ⟨mk,hmk⟩:∃ t,decide (M.k=0)=t:=⟨_,rfl⟩;obtain ⟨g0,hg0⟩:∃ t,decide (0≤sg S.v)=t:=⟨_,rfl⟩;obtain ⟨l0,hl0⟩:∃ t,decide (Ce S.v.q M.v.q≤0)=t:=⟨_,rfl⟩;rw [hsk,hmk,hg0,hl0] at hq;have E1:=hid (show (S.k==0)=sk by rw [←hsk];rfl);have E2:=hid (show (M.k==0)=mk by rw [←hmk];rfl);have E3:=hid hg0;have E4:=hid hl0;subst hq;clear hsk hmk hg0 hl0 so mo q3;generalize sg S.v=sgS at *;generalize Ce S.v.q M.v.q=cmS at *;obtain ⟨-,a0,a1,a2,-⟩:=HT.out.facts;obtain ⟨-,b0,b1,b2,-⟩:=HF.out.facts
 go_wp2_with fail;refine (SB.out _ K.out).mono ?_;rintro _ w5 ⟨q1,u1,rfl,hd⟩;obtain ⟨PX,pX,qX,rfl,z1⟩:=Bu hd;simp only [Outc.raw];obtain ⟨VX,hV,kV,hb⟩:∃ V,V=w5.alloc (.cells #[.bool S.v.neg,.slice PX pX qX,.int .i64 S.v.e] 30)∧Kept w5 V∧Blk V w5.heap.size (.bool S.v.neg) (.slice PX pX qX) (.int .i64 S.v.e):=⟨_,rfl,Ad _ _,blk_new _ _ _ _⟩;have HV:=hid hV;have kk:=q1.trans kV;replace K:=hid (K.out.trans kk);replace HH:=hid (HH.out.kept kk);have HX:=hid hb;have ZX:=hid (z1.kept kV);clear hV kV hb kk q1 hd z1 a0 a1 a2 b0 b1 b2 HF HT SB;go_upto_region 6 with fail;rw [←HV.out];clear HV
 generalize w5.heap.size=bX at *
 refine Na (e:=8) (m:=10) (V:=VL [(vE (.agg #[.bool rh.neg,.slice Ah lh ch,.int .i64 rh.e])),(fun v wv=>∃ d,v=.tuple #[d,.int .i64 D.raw.k]∧DyR wv d D.raw.v),(fun v wv=>DyR wv v D.raw.v),(vE (.int .i64 D.raw.k)),(fun v wv=>DyR wv v D.v.raw),(fun v wv=>∃ d,v=.tuple #[d,.int .i64 M.raw.k]∧DyR wv d M.raw.v),(fun v wv=>∃ d,v=.tuple #[d,.int .i64 M.raw.k]∧DyR wv d M.raw.v),(fun v wv=>DyR wv v M.raw.v),(vE (.int .i64 M.raw.k)),(fun v wv=>∃ b,v=.pointer (some ⟨b,0,none⟩)∧VX.heap.size≤b∧Blk wv b (.bool false) (.slice none 0 0) (.int .i64 0))])
  (by kernel_rfl) rfl rfl rfl rfl rfl rfl rfl (by decide) (by kernel_rfl) (by kernel_rfl) (by kernel_rfl) (by kernel_rfl) (by kernel_rfl) (by kernel_rfl) (Hc _ ⟨mE,fun v w w' k h=>by obtain ⟨d,h1,h2⟩:=h;exact ⟨d,h1,h2.kept k⟩,mD,mE,mD,fun v w w' k h=>by obtain ⟨d,h1,h2⟩:=h;exact ⟨d,h1,h2.kept k⟩,fun v w w' k h=>by obtain ⟨d,h1,h2⟩:=h;exact ⟨d,h1,h2.kept k⟩,mD,mE,fun v w w' k h=>by obtain ⟨b,h1,h2,h3⟩:=h;exact ⟨b,h1,h2,h3.kept k⟩,trivial⟩) (Ho ⟨
    (fun aF wF F=>by have s9:=F.q 9 (.pointer (some ⟨w.heap.size+1+1+1,0,none⟩));obtain ⟨c0,c1,c2⟩:=Go.Proofs.YtmgaloopddiekaaGreatDoor.c3 HH.out F.kept;exact sv rfl),(fun aF wF F=>by exact sE (OF.out _ (K.out.trans F.kept)) fun _ _ h=>h),(fun aF wF F=>by have s85:=F.p 1 85;obtain ⟨dd,ee,hh⟩:=s85;exact sv hh),(fun aF wF F=>by have s85:=F.p 1 85;exact sw (by obtain ⟨dd,ee,hh⟩:=s85;go_simp) rfl),(fun aF wF F=>by have s86:=F.p 2 86;have s87:=F.v 3 87;exact sD (NU.out _ _ s86) fun _ _ h=>h),(fun aF wF F=>by have s84:=F.v 0 84;have s88:=F.p 4 88;exact sE (ML.out _ _ (K.out.trans F.kept) s88) fun _ _ h=>h),(fun aF wF F=>by have s89:=F.p 5 89;exact sx s89),(fun aF wF F=>by have s83:=F.p 6 83;obtain ⟨dd,ee,hh⟩:=s83;exact sv hh),(fun aF wF F=>by have s83:=F.p 6 83;exact sw (by obtain ⟨dd,ee,hh⟩:=s83;go_simp) rfl),(fun aF wF F=>by exact sN ⟨_,rfl,F.kept.size,Gg _⟩),
    trivial⟩) ?_
 intro u w6 k6 hu;have e84:u 0=(.agg #[.bool rh.neg,.slice Ah lh ch,.int .i64 rh.e]):=hu 0 (by decide) (by decide);have p85:=hu 1 (by decide) (by decide);obtain ⟨v85,e85⟩:∃ v,u 1=v:=⟨_,rfl⟩;rw [e85] at p85
 try simp only [VL,List.getD_cons_zero,List.getD_cons_succ] at p85
 have p86:=hu 2 (by decide) (by decide);obtain ⟨v86,e86⟩:∃ v,u 2=v:=⟨_,rfl⟩;rw [e86] at p86
 try simp only [VL,List.getD_cons_zero,List.getD_cons_succ] at p86
 have e87:u 3=(.int .i64 D.raw.k):=hu 3 (by decide) (by decide);have p88:=hu 4 (by decide) (by decide);obtain ⟨v88,e88⟩:∃ v,u 4=v:=⟨_,rfl⟩;rw [e88] at p88
 try simp only [VL,List.getD_cons_zero,List.getD_cons_succ] at p88
 have p89:=hu 5 (by decide) (by decide);obtain ⟨v89,e89⟩:∃ v,u 5=v:=⟨_,rfl⟩;rw [e89] at p89
 try simp only [VL,List.getD_cons_zero,List.getD_cons_succ] at p89
 have p83:=hu 6 (by decide) (by decide);obtain ⟨v83,e83⟩:∃ v,u 6=v:=⟨_,rfl⟩;rw [e83] at p83
 try simp only [VL,List.getD_cons_zero,List.getD_cons_succ] at p83
 have p90:=hu 7 (by decide) (by decide);obtain ⟨v90,e90⟩:∃ v,u 7=v:=⟨_,rfl⟩;rw [e90] at p90
 try simp only [VL,List.getD_cons_zero,List.getD_cons_succ] at p90
 have p13:=hu 9 (by decide) (by decide);obtain ⟨v13,e13⟩:∃ v,u 9=v:=⟨_,rfl⟩;rw [e13] at p13
 try simp only [VL,List.getD_cons_zero,List.getD_cons_succ] at p13
 clear hu;obtain ⟨b13,rfl,hb13,hx13⟩:=p13;obtain ⟨Pz,pz,qz,rfl,hz⟩:=Bu p90;obtain ⟨-,u0,u1,u2,f0,f1,f2⟩:=hx13.facts;have H13:=hid hx13;have Z13:=hid hz;have ltX:bX<b13:=Nat.lt_of_lt_of_le HX.out.facts.1 hb13;have szw:w.heap.size≤b13:=Nat.le_trans K.out.size hb13;clear p85 p86 p88 p89 hz hx13;obtain ⟨dd,rfl,-⟩:=p83;replace K:=hid (K.out.trans k6);replace HX:=hid (HX.out.kept k6);replace ZX:=hid (ZX.out.kept k6);clear OF NU ML HH R3' k6 hb13;apply dup
 ·intro G he;simp only [VL,vE,List.getD_cons_zero,List.getD_cons_succ] at he;simp only [if_true,Bl,Au,Act.put,List.setIfInBounds_toArray,List.set_cons_zero,List.set_cons_succ,List.getElem?_toArray,List.getElem?_cons_zero,List.getElem?_cons_succ,Option.bind_some,e84,e85,e86,e87,e88,e89,e83,e90,e13,he];go_simp;exact G
 ·intro G;simp only [Bl,Au,Act.put,List.setIfInBounds_toArray,List.set_cons_zero,List.set_cons_succ,List.getElem?_toArray,List.getElem?_cons_zero,List.getElem?_cons_succ,Option.bind_some,e84,e85,e86,e87,e88,e89,e83,e90,e13];go_simp;exact G
 clear e84 e85 e86 e87 e88 e89 e83 e90 e13;simp only [Outc.raw] at *;go_upto_region 7 with fail;change Code.wp _ _ _ _ (dyW w6 b13 _ _ _);replace K:=hid (Bj (x:=.bool M.v.neg) (y:=.slice Pz pz qz) (z:=.int .i64 M.v.e) K.out szw);replace HX:=hid (HX.out.laid_other (show ¬bX=b13 by omega) (.bool M.v.neg) (.slice Pz pz qz) (.int .i64 M.v.e));replace ZX:=hid (ZX.out.dyW H13.out (An _) (Ak _ _ _) (Aq _) (.bool M.v.neg) (.slice Pz pz qz) (.int .i64 M.v.e));replace Z13:=hid (Z13.out.dyW H13.out (An _) (Ak _ _ _) (Aq _) (.bool M.v.neg) (.slice Pz pz qz) (.int .i64 M.v.e))
 replace H13:=hid (H13.out.laid (.bool M.v.neg) (.slice Pz pz qz) (.int .i64 M.v.e));clear u0 u1 u2 f0 f1 f2;generalize dyW w6 b13 (.bool M.v.neg) (.slice Pz pz qz) (.int .i64 M.v.e)=V9 at *
 refine rS 18 ([(vE (.int .i64 S.k)),(vE (.bool sk)),(vE (.bool sk)),(fun v wv=>(sk=true→(fun v _=>v=(.int .i64 M.k)) v wv)∧(sk=false→v=undef)),(fun v wv=>(sk=true→(fun v _=>v=(.bool mk)) v wv)∧(sk=false→v=undef)),(vE (.bool (sk&&mk))),(vE (.bool (sk&&mk))),(fun v wv=>((sk&&mk)=true→(fun v _=>v=(.agg #[.bool S.v.neg,.slice PX pX qX,.int .i64 S.v.e])) v wv)∧((sk&&mk)=false→v=undef)),(fun v wv=>((sk&&mk)=true→(fun v _=>v=(.int .i64 sgS)) v wv)∧((sk&&mk)=false→v=undef)),(fun v wv=>((sk&&mk)=true→(fun v _=>v=(.bool g0)) v wv)∧((sk&&mk)=false→v=undef)),(vE (.bool (sk&&mk&&g0))),(vE (.bool (sk&&mk&&g0))),(fun v wv=>((sk&&mk&&g0)=true→(fun v _=>v=(.agg #[.bool S.v.neg,.slice PX pX qX,.int .i64 S.v.e])) v wv)∧((sk&&mk&&g0)=false→v=undef)),(fun v wv=>((sk&&mk&&g0)=true→(fun v _=>v=(.agg #[.bool M.v.neg,.slice Pz pz qz,.int .i64 M.v.e])) v wv)∧((sk&&mk&&g0)=false→v=undef)),(fun v wv=>((sk&&mk&&g0)=true→(fun v _=>v=(.int .i64 cmS)) v wv)∧((sk&&mk&&g0)=false→v=undef)),(fun v wv=>((sk&&mk&&g0)=true→(fun v _=>v=(.bool l0)) v wv)∧((sk&&mk&&g0)=false→v=undef)),(vE (.bool (sk&&mk&&g0&&l0))),(vE (.bool (sk&&mk&&g0&&l0)))])
  ⟨
   (gq 12),(fun aF wF F=>by have s92:=F.v 0 92;exact sw (by (go_simp;exact E1.out)) rfl),(gv 1 93),
   (fun aF wF F=>by
  have sg:=F.v 2 94;have s14:=F.q 14 (.int .i64 M.k);rcases Ay sk with hC | hC
  ·refine sIm hC (vE (.int .i64 M.k)) ?_;exact sVc rfl rfl sg (by first | rfl | simp [hC])
  ·exact sOc rfl rfl sg (by first | rfl | simp [hC]) (nW hC)),
   (fun aF wF F=>by
  have sg:=F.v 2 94;have s95:(sk=true→aF.tmps.getD 95 undef=(.int .i64 M.k))∧(sk=false→aF.tmps.getD 95 undef=undef):=F.done 3 95 (by kernel_rfl) rfl;rcases Ay sk with hC | hC
  ·refine sIm hC (vE (.bool mk)) ?_;replace s95:=s95.1 hC;exact A0 ((Al rfl rfl sg).trans (by first | rfl | simp [hC])) (by (go_simp;exact E2.out)) rfl
  ·exact sOc rfl rfl sg (by first | rfl | simp [hC]) (nW hC)),
   (fun aF wF F=>by
  have s94:=F.v 2 94;have s96:(sk=true→aF.tmps.getD 96 undef=(.bool mk))∧(sk=false→aF.tmps.getD 96 undef=undef):=F.done 4 96 (by kernel_rfl) rfl;rcases Ay sk with hE | hE
  ·replace s96:=s96.1 hE;exact sw (by first | (go_simp;done) | (go_simp;simp_all;done) | (simp_all;done)) rfl
  ·exact sw (by first | (go_simp;done) | (go_simp;simp_all;done) | (simp_all;done)) rfl),(gv 5 97),
   (fun aF wF F=>by
  have sg:=F.v 6 98;have s11:=F.q 11 (.pointer (some ⟨bX,0,none⟩));obtain ⟨c0,c1,c2⟩:=Go.Proofs.YtmgaloopddiekaaGreatDoor.c3 HX.out F.kept;rcases Ay (sk&&mk) with hC | hC
  ·refine sIm hC (vE (.agg #[.bool S.v.neg,.slice PX pX qX,.int .i64 S.v.e])) ?_;exact sVc rfl rfl sg (by first | rfl | simp [hC])
  ·exact sOc rfl rfl sg (by first | rfl | simp [hC]) (nW hC)),
   (fun aF wF F=>by
  have sg:=F.v 6 98;have s99:((sk&&mk)=true→aF.tmps.getD 99 undef=(.agg #[.bool S.v.neg,.slice PX pX qX,.int .i64 S.v.e]))∧((sk&&mk)=false→aF.tmps.getD 99 undef=undef):=F.done 7 99 (by kernel_rfl) rfl;rcases Ay (sk&&mk) with hC | hC
  ·refine sIm hC (vE (.int .i64 sgS)) ?_;replace s99:=s99.1 hC;exact Bi ((Al rfl rfl sg).trans (by first | rfl | simp [hC])) (by go_simp) (DS.out _ _ (ZX.out.kept F.kept)) (fun _ _ h=>RetK.good h) (fun _ _ h=>h)
  ·exact sOc rfl rfl sg (by first | rfl | simp [hC]) (nW hC)),
   (fun aF wF F=>by
  have sg:=F.v 6 98;have s100:((sk&&mk)=true→aF.tmps.getD 100 undef=(.int .i64 sgS))∧((sk&&mk)=false→aF.tmps.getD 100 undef=undef):=F.done 8 100 (by kernel_rfl) rfl;rcases Ay (sk&&mk) with hC | hC
  ·refine sIm hC (vE (.bool g0)) ?_;replace s100:=s100.1 hC;exact A0 ((Al rfl rfl sg).trans (by first | rfl | simp [hC])) (by (go_simp;exact E3.out)) rfl
  ·exact sOc rfl rfl sg (by first | rfl | simp [hC]) (nW hC)),
   (fun aF wF F=>by
  have s98:=F.v 6 98;have s101:((sk&&mk)=true→aF.tmps.getD 101 undef=(.bool g0))∧((sk&&mk)=false→aF.tmps.getD 101 undef=undef):=F.done 9 101 (by kernel_rfl) rfl;rcases Ay (sk&&mk) with hE | hE
  ·replace s101:=s101.1 hE;exact sw (by first | (go_simp;done) | (go_simp;simp_all;done) | (simp_all;done)) rfl
  ·exact sw (by first | (go_simp;done) | (go_simp;simp_all;done) | (simp_all;done)) rfl),(gv 10 102),
   (fun aF wF F=>by
  have sg:=F.v 11 103;have s11:=F.q 11 (.pointer (some ⟨bX,0,none⟩));obtain ⟨c0,c1,c2⟩:=Go.Proofs.YtmgaloopddiekaaGreatDoor.c3 HX.out F.kept;rcases Ay (sk&&mk&&g0) with hC | hC
  ·refine sIm hC (vE (.agg #[.bool S.v.neg,.slice PX pX qX,.int .i64 S.v.e])) ?_;exact sVc rfl rfl sg (by first | rfl | simp [hC])
  ·exact sOc rfl rfl sg (by first | rfl | simp [hC]) (nW hC)),
   (fun aF wF F=>by
  have sg:=F.v 11 103;have s13:=F.q 13 (.pointer (some ⟨b13,0,none⟩));obtain ⟨c0,c1,c2⟩:=Go.Proofs.YtmgaloopddiekaaGreatDoor.c3 H13.out F.kept;rcases Ay (sk&&mk&&g0) with hC | hC
  ·refine sIm hC (vE (.agg #[.bool M.v.neg,.slice Pz pz qz,.int .i64 M.v.e])) ?_;exact sVc rfl rfl sg (by first | rfl | simp [hC])
  ·exact sOc rfl rfl sg (by first | rfl | simp [hC]) (nW hC)),
   (fun aF wF F=>by
  have sg:=F.v 11 103;have s104:((sk&&mk&&g0)=true→aF.tmps.getD 104 undef=(.agg #[.bool S.v.neg,.slice PX pX qX,.int .i64 S.v.e]))∧((sk&&mk&&g0)=false→aF.tmps.getD 104 undef=undef):=F.done 12 104 (by kernel_rfl) rfl;have s105:((sk&&mk&&g0)=true→aF.tmps.getD 105 undef=(.agg #[.bool M.v.neg,.slice Pz pz qz,.int .i64 M.v.e]))∧((sk&&mk&&g0)=false→aF.tmps.getD 105 undef=undef):=F.done 13 105 (by kernel_rfl) rfl;rcases Ay (sk&&mk&&g0) with hC | hC
  ·refine sIm hC (vE (.int .i64 cmS)) ?_;replace s104:=s104.1 hC;replace s105:=s105.1 hC;exact Bi ((Al rfl rfl sg).trans (by first | rfl | simp [hC])) (by go_simp) (DC.out _ _ _ (ZX.out.kept F.kept) (Z13.out.kept F.kept)) (fun _ _ h=>RetK.good h) (fun _ _ h=>h)
  ·exact sOc rfl rfl sg (by first | rfl | simp [hC]) (nW hC)),
   (fun aF wF F=>by
  have sg:=F.v 11 103;have s106:((sk&&mk&&g0)=true→aF.tmps.getD 106 undef=(.int .i64 cmS))∧((sk&&mk&&g0)=false→aF.tmps.getD 106 undef=undef):=F.done 14 106 (by kernel_rfl) rfl;rcases Ay (sk&&mk&&g0) with hC | hC
  ·refine sIm hC (vE (.bool l0)) ?_;replace s106:=s106.1 hC;exact A0 ((Al rfl rfl sg).trans (by first | rfl | simp [hC])) (by (go_simp;exact E4.out)) rfl
  ·exact sOc rfl rfl sg (by first | rfl | simp [hC]) (nW hC)),
   (fun aF wF F=>by
  have s103:=F.v 11 103;have s107:((sk&&mk&&g0)=true→aF.tmps.getD 107 undef=(.bool l0))∧((sk&&mk&&g0)=false→aF.tmps.getD 107 undef=undef):=F.done 15 107 (by kernel_rfl) rfl;rcases Ay (sk&&mk&&g0) with hE | hE
  ·replace s107:=s107.1 hE;exact sw (by first | (go_simp;done) | (go_simp;simp_all;done) | (simp_all;done)) rfl
  ·exact sw (by first | (go_simp;done) | (go_simp;simp_all;done) | (simp_all;done)) rfl),(gv 16 108),
   trivial⟩ ?_
 intro u w9 k9 hu;have p95:=hp hu 3;have p96:=hp hu 4;have p99:=hp hu 7;have p100:=hp hu 8;have p101:=hp hu 9;have p104:=hp hu 12;have p105:=hp hu 13;have p106:=hp hu 14;have p107:=hp hu 15;simp only [Bl,Au,if_true,Act.put,zlA,zlB,zlC,zlD,zlE,zlF,zlG,hv hu 0,hv hu 1,hv hu 2,hv hu 5,hv hu 6,hv hu 10,hv hu 11,hv hu 16,hv hu 17];clear hu;generalize u 3=v95,u 4=v96,u 7=v99,u 8=v100,u 9=v101,u 12=v104,u 13=v105,u 14=v106,u 15=v107 at *;clear p95 p96 p99 p100 p101 p104 p105 p106 p107;go_wp2_with fail;go_ret;exact ⟨rfl,K.out.trans k9⟩
theorem Lo {w:World}{s o vp vx vf vt vh:Value}{ls:List Ln}{outs:List Int}{p x:List RawI}{rf rt rh:Raw}{bits:Int}
 (hv:TpR w (.agg #[s,o]) ls outs) (hok:Ke ls) (hn:ls.length≤1000000) (hno:outs.length≤1000000) (hp:IvS w vp p) (hx:IvS w vx x) (np:p.length≤1000000) (nx:x.length≤1000000)
 (lp:∀ a∈p,a.lens 17592186044416) (lx:∀ a∈x,a.lens 17592186044416) (h1:DyR w vf rf) (h2:DyR w vt rt) (h3:DyR w vh rh) (l1:rf.m.length≤17592186044416) (l2:rt.m.length≤17592186044416) (l3:rh.m.length≤17592186044416) (hT:Tab w)
 (hm:Fj ls outs x p rf rt rh bits=false) :
 Calls Tryz.prog 46 #[.agg #[s,o,vp,.int .i64 bits],vx,vf,vt,vh] w (fun e w'=>e=.panicked (Ch 112 1)∧Kept w w'):=by
 have MM:=hid (fun w1 (k:Kept w w1)=>show Calls Tryz.prog 79 #[.agg #[s,o,vp,.int .i64 bits],vx,vf,vt,vh] w1 (RetK (.bool false) w1) by
  have h:=Acs (bits:=bits) (hv.kept k) hok hn hno (hp.kept k) (hx.kept k) np nx lp lx (h1.kept k) (h2.kept k) (h3.kept k) l1 l2 l3 (hT.kept k);rwa [hm] at h)
 obtain ⟨Af,lf,cf,rfl,-,-,-,-⟩:=h1.shape;obtain ⟨At,lt,ct,rfl,-,-,-,-⟩:=h2.shape;obtain ⟨Ah,lh,ch,rfl,-,-,-,-⟩:=h3.shape;obtain ⟨Ax,cx,rfl,-,-⟩:=hx;obtain ⟨Ap,cp,rfl,-,-⟩:=hp;obtain ⟨s',o',es,hls,hou⟩:=hv;simp only [Value.agg.injEq,Array.mk.injEq,List.cons.injEq,and_true] at es;obtain ⟨rfl,rfl⟩:=es;obtain ⟨As,cs,rfl,-,-⟩:=hls;obtain ⟨Ao,co,rfl,-,-⟩:=hou;clear h1 h2 h3 l1 l2 l3 hok lx lp hT hm hn hno np nx;generalize rf.neg=n1 at *;generalize rf.e=e1 at *;generalize rt.neg=n2 at *;generalize rt.e=e2 at *;generalize rh.neg=n3 at *;generalize rh.e=e3 at *;generalize x.length=lx at *;generalize p.length=lp at *
 generalize ls.length=lsn at *;generalize outs.length=lo at *;go_enter Tryz.func46,Tryz.ntmps46;go_wp2_with fail;have k7:∀ a b c d e f g,Kept w (((((((w.alloc a).alloc b).alloc c).alloc d).alloc e).alloc f).alloc g):=fun _ _ _ _ _ _ _=>((((((Ad _ _).trans (Ad _ _)).trans (Ad _ _)).trans (Ad _ _)).trans (Ad _ _)).trans (Ad _ _)).trans (Ad _ _)
 have K7:=hid k7;clear k7;refine (MM.out _ (K7.out _ _ _ _ _ _ _)).mono ?_;rintro _ w1 ⟨rfl,q1⟩;simp only [];go_wp2_with fail;refine (Ow false 1 _).mono ?_;rintro e w2 ⟨he,rfl⟩;obtain rfl:e=.panicked (Ch 112 1):=he;exact ⟨rfl,rfl,(K7.out _ _ _ _ _ _ _).trans q1⟩
theorem Aeh {w:World}{t0 t1 t2 t3 t4 t5 t6:Nat}{s o vp vx a0 a1 a2 c0 c1 c2 d0 d1 d2:Value}{bits:Int}
 (EN:∀ w1,Kept w w1→Calls Tryz.prog 46 #[.agg #[s,o,vp,.int .i64 bits],vx,.agg #[a0,a1,a2],.agg #[c0,c1,c2],.agg #[d0,d1,d2]] w1 (fun e w'=>e=.panicked (Ch 112 1)∧Kept w1 w'))
 (b0:w.heap[t0]?=some (.cells #[s,o] 25 (0,0))) (b1:w.cell? ⟨t1,0,none⟩=some vp) (b2:w.cell? ⟨t2,0,none⟩=some (.int .i64 bits)) (b3:w.cell? ⟨t3,0,none⟩=some vx) (b4:Blk w t4 a0 a1 a2) (b5:Blk w t5 c0 c1 c2) (b6:Blk w t6 d0 d1 d2)
 (np:∃ A l c,vp=.slice A l c) (nx:∃ A l c,vx=.slice A l c) (ns:∃ A l c,s=.slice A l c) (no:∃ A l c,o=.slice A l c) :
 Calls Tryz.prog 45 #[.pointer (some ⟨t0,0,none⟩),.pointer (some ⟨t1,0,none⟩),.pointer (some ⟨t2,0,none⟩),.pointer (some ⟨t3,0,none⟩),.pointer (some ⟨t4,0,none⟩),.pointer (some ⟨t5,0,none⟩),.pointer (some ⟨t6,0,none⟩)] w (fun e w'=>e=.panicked (Ch 112 1)∧Kept w w'):=by
 obtain ⟨Ap,lp,cp,rfl⟩:=np;obtain ⟨Ax,lx,cx,rfl⟩:=nx;obtain ⟨As,ls,cs,rfl⟩:=ns;obtain ⟨Ao,lo,co,rfl⟩:=no;obtain ⟨x0,x1⟩:=Cj b0;obtain ⟨-,y0,y1,y2,-⟩:=b4.facts;obtain ⟨-,z0,z1,z2,-⟩:=b5.facts;obtain ⟨-,u0,u1,u2,-⟩:=b6.facts;have HE:=hid EN;clear EN b0 b4 b5 b6;go_enter Tryz.func45,Tryz.ntmps45;go_wp2_with fail;refine (HE.out _ (Below.refl _ _)).mono ?_;rintro e w1 ⟨rfl,q1⟩;exact ⟨rfl,rfl,q1⟩
theorem Xd {w:World}{t0 t1 t2 t3 t4 t5 t6:Nat}{s o vp vx a0 a1 a2 c0 c1 c2 d0 d1 d2:Value}{bits:Int}
 (EN:∀ w1,Kept w w1→Calls Tryz.prog 46 #[.agg #[s,o,vp,.int .i64 bits],vx,.agg #[a0,a1,a2],.agg #[c0,c1,c2],.agg #[d0,d1,d2]] w1 (fun e w'=>e=.panicked (Ch 112 1)∧Kept w1 w'))
 (b0:w.heap[t0]?=some (.cells #[s,o] 25 (0,0))) (b1:w.cell? ⟨t1,0,none⟩=some vp) (b2:w.cell? ⟨t2,0,none⟩=some (.int .i64 bits)) (b3:w.cell? ⟨t3,0,none⟩=some vx) (b4:Blk w t4 a0 a1 a2) (b5:Blk w t5 c0 c1 c2) (b6:Blk w t6 d0 d1 d2)
 (np:∃ A l c,vp=.slice A l c) (nx:∃ A l c,vx=.slice A l c) (ns:∃ A l c,s=.slice A l c) (no:∃ A l c,o=.slice A l c) :
 Calls Tryz.prog 47 #[.pointer (some ⟨t0,0,none⟩),.pointer (some ⟨t1,0,none⟩),.pointer (some ⟨t2,0,none⟩),.pointer (some ⟨t3,0,none⟩),.pointer (some ⟨t4,0,none⟩),.pointer (some ⟨t5,0,none⟩),.pointer (some ⟨t6,0,none⟩)] w (fun e w'=>e=.panicked (Ch 112 1)∧Kept w w'):=by
 obtain ⟨Ap,lp,cp,rfl⟩:=np;obtain ⟨Ax,lx,cx,rfl⟩:=nx;obtain ⟨As,ls,cs,rfl⟩:=ns;obtain ⟨Ao,lo,co,rfl⟩:=no;obtain ⟨x0,x1⟩:=Cj b0;obtain ⟨-,y0,y1,y2,-⟩:=b4.facts;obtain ⟨-,z0,z1,z2,-⟩:=b5.facts;obtain ⟨-,u0,u1,u2,-⟩:=b6.facts;have HE:=hid EN;clear EN b0 b4 b5 b6;go_enter Tryz.func47,Tryz.ntmps47;go_wp2_with fail;refine (HE.out _ (Below.refl _ _)).mono ?_;rintro e w1 ⟨rfl,q1⟩;exact ⟨rfl,rfl,q1⟩
theorem Abh (w:World)(s o vx vp a b c a' b' c' a2 b2 c2 n:Value):∃ W,W=((((((w.alloc (.cells #[s,o] 25)).alloc (.cells #[vx] 26)).alloc (.cells #[vp] 26)).alloc (.cells #[a,b,c] 30)).alloc (.cells #[a',b',c'] 30)).alloc (.cells #[a2,b2,c2] 30)).alloc (.cells #[n] 3) ∧
 Kept w W∧W.heap[w.heap.size]?=some (.cells #[s,o] 25 (0,0))∧W.cell? ⟨w.heap.size+1,0,none⟩=some vx∧W.cell? ⟨w.heap.size+1+1,0,none⟩=some vp∧Blk W (w.heap.size+1+1+1) a b c∧Blk W (w.heap.size+1+1+1+1) a' b' c'∧Blk W (w.heap.size+1+1+1+1+1) a2 b2 c2∧W.cell? ⟨w.heap.size+1+1+1+1+1+1,0,none⟩=some n:=by
 have al:∀ (v:World) (x:Obj),v.heap.size=v.heap.size∧Kept v (v.alloc x)∧(v.alloc x).heap.size=v.heap.size+1:=fun v x=>⟨rfl,Ad _ _,by simp⟩
 obtain ⟨V1,e1,k1,s1,h1⟩:∃ V,V=w.alloc (.cells #[s,o] 25)∧Kept w V∧V.heap.size=w.heap.size+1∧V.heap[w.heap.size]?=some (.cells #[s,o] 25 (0,0)):=⟨_,rfl,Ad _ _,by simp,heap_alloc_new _ _⟩;obtain ⟨V2,e2,k2,s2,h2⟩:∃ V,V=V1.alloc (.cells #[vx] 26)∧Kept V1 V∧V.heap.size=V1.heap.size+1∧V.heap[V1.heap.size]?=some (.cells #[vx] 26 (0,0)):=⟨_,rfl,Ad _ _,by simp,heap_alloc_new _ _⟩;obtain ⟨V3,e3,k3,s3,h3⟩:∃ V,V=V2.alloc (.cells #[vp] 26)∧Kept V2 V∧V.heap.size=V2.heap.size+1∧V.heap[V2.heap.size]?=some (.cells #[vp] 26 (0,0)):=⟨_,rfl,Ad _ _,by simp,heap_alloc_new _ _⟩;obtain ⟨V4,e4,k4,s4,h4⟩:∃ V,V=V3.alloc (.cells #[a,b,c] 30)∧Kept V3 V∧V.heap.size=V3.heap.size+1∧Blk V V3.heap.size a b c:=⟨_,rfl,Ad _ _,by simp,blk_new _ _ _ _⟩
 obtain ⟨V5,e5,k5,s5,h5⟩:∃ V,V=V4.alloc (.cells #[a',b',c'] 30)∧Kept V4 V∧V.heap.size=V4.heap.size+1∧Blk V V4.heap.size a' b' c':=⟨_,rfl,Ad _ _,by simp,blk_new _ _ _ _⟩;obtain ⟨V6,e6,k6,s6,h6⟩:∃ V,V=V5.alloc (.cells #[a2,b2,c2] 30)∧Kept V5 V∧V.heap.size=V5.heap.size+1∧Blk V V5.heap.size a2 b2 c2:=⟨_,rfl,Ad _ _,by simp,blk_new _ _ _ _⟩;obtain ⟨V7,e7,k7,s7,h7⟩:∃ V,V=V6.alloc (.cells #[n] 3)∧Kept V6 V∧V.heap.size=V6.heap.size+1∧V.heap[V6.heap.size]?=some (.cells #[n] 3 (0,0)):=⟨_,rfl,Ad _ _,by simp,heap_alloc_new _ _⟩;rw [s5,s4,s3,s2,s1] at h6;rw [s4,s3,s2,s1] at h5;rw [s3,s2,s1] at h4
 rw [s2,s1] at h3;rw [s1] at h2;rw [s6,s5,s4,s3,s2,s1] at h7;have q6:=k7;have q5:=k6.trans q6;have q4:=k5.trans q5;have q3:=k4.trans q4;have q2:=k3.trans q3;have q1:=k2.trans q2;refine ⟨V7,by rw [e7,e6,e5,e4,e3,e2,e1],k1.trans q1,Aj h1 q1,Ag (Aj h2 q2) 0 _ rfl,Ag (Aj h3 q3) 0 _ rfl,h4.kept q4,h5.kept q5,h6.kept q6,Ag h7 0 _ rfl⟩
theorem Y9 {w:World}{s o vp vx vf vt vh:Value}{ls:List Ln}{outs:List Int}{p x:List RawI}{rf rt rh:Raw}{bits:Int}
 (hv:TpR w (.agg #[s,o]) ls outs) (hok:Ke ls) (hn:ls.length≤1000000) (hno:outs.length≤1000000) (hp:IvS w vp p) (hx:IvS w vx x) (np:p.length≤1000000) (nx:x.length≤1000000)
 (lp:∀ a∈p,a.lens 17592186044416) (lx:∀ a∈x,a.lens 17592186044416) (h1:DyR w vf rf) (h2:DyR w vt rt) (h3:DyR w vh rh) (l1:rf.m.length≤17592186044416) (l2:rt.m.length≤17592186044416) (l3:rh.m.length≤17592186044416) (hT:Tab w)
 (hm:Fj ls outs x p rf rt rh bits=false) :
 Calls Tryz.prog 18 #[.agg #[s,o],vx,vp,vf,vt,vh,.int .i64 bits] w (RetK (.tuple #[.slice none 0 0,.int .i64 1]) w):=by
 have hmf:=Es;have EN:=fun w1 (k:Kept w w1)=>Lo (bits:=bits) (hv.kept k) hok hn hno (hp.kept k) (hx.kept k) np nx lp lx (h1.kept k) (h2.kept k) (h3.kept k) l1 l2 l3 (hT.kept k) hm
 obtain ⟨Af,lf,cf,rfl,-,-,-,-⟩:=h1.shape;obtain ⟨At,lt,ct,rfl,-,-,-,-⟩:=h2.shape;obtain ⟨Ah,lh,ch,rfl,-,-,-,-⟩:=h3.shape;obtain ⟨Ax,cx,rfl,-,-⟩:=hx;obtain ⟨Ap,cp,rfl,-,-⟩:=hp;obtain ⟨s',o',es,hls,hou⟩:=hv;simp only [Value.agg.injEq,Array.mk.injEq,List.cons.injEq,and_true] at es;obtain ⟨rfl,rfl⟩:=es;obtain ⟨As,cs,rfl,-,-⟩:=hls;obtain ⟨Ao,co,rfl,-,-⟩:=hou;obtain ⟨W,hW,kW,B0,B1,B2,B3,B4,B5,B6⟩:=Abh w (.slice As ls.length cs) (.slice Ao outs.length co) (.slice Ax x.length cx) (.slice Ap p.length cp) (.bool rf.neg) (.slice Af lf cf) (.int .i64 rf.e) (.bool rt.neg) (.slice At lt ct) (.int .i64 rt.e) (.bool rh.neg) (.slice Ah lh ch) (.int .i64 rh.e) (.int .i64 bits)
 have hf:=Rb (w:=W) (K:=45) (cap:=#[.pointer (some ⟨w.heap.size,0,none⟩),.pointer (some ⟨w.heap.size+1+1,0,none⟩),.pointer (some ⟨w.heap.size+1+1+1+1+1+1,0,none⟩),.pointer (some ⟨w.heap.size+1,0,none⟩),.pointer (some ⟨w.heap.size+1+1+1,0,none⟩),.pointer (some ⟨w.heap.size+1+1+1+1,0,none⟩),.pointer (some ⟨w.heap.size+1+1+1+1+1,0,none⟩)]) (k:=1)
  (fun w1 k=>Aeh (fun w2 k2=>EN w2 (kW.trans (k.trans k2))) (Aj B0 k) (Bc k B2) (Bc k B6) (Bc k B1) (B3.kept k) (B4.kept k) (B5.kept k) ⟨_,_,_,rfl⟩ ⟨_,_,_,rfl⟩ ⟨_,_,_,rfl⟩ ⟨_,_,_,rfl⟩) (fun _=>rfl)
 have HF:=hid hf;have HW:=hid hW;have K:=hid kW;clear hf hW kW B0 B1 B2 B3 B4 B5 B6 EN h1 h2 h3 l1 l2 l3 hok lp lx hT hm hn hno np nx;generalize rf.neg=n1 at *;generalize rf.e=e1 at *;generalize rt.neg=n2 at *;generalize rt.e=e2 at *;generalize rh.neg=n3 at *;generalize rh.e=e3 at *;generalize x.length=lx at *;generalize p.length=lp at *;generalize ls.length=lsn at *;generalize outs.length=lo at *;go_enter Tryz.func18,Tryz.ntmps18;go_wp2_with fail;rw [←HW.out];refine HF.out.mono ?_;rintro e w1 ⟨rfl,q1⟩;simp only [];go_wp2_with fail
 go_ret2
 exact ⟨rfl,K.out.trans q1⟩
theorem Rn {w:World}{s o vp vx vf vt vh:Value}{ls:List Ln}{outs:List Int}{p x:List RawI}{rf rt rh:Raw}{bits:Int}
 (hv:TpR w (.agg #[s,o]) ls outs) (hok:Ke ls) (hn:ls.length≤1000000) (hno:outs.length≤1000000) (hp:IvS w vp p) (hx:IvS w vx x) (np:p.length≤1000000) (nx:x.length≤1000000)
 (lp:∀ a∈p,a.lens 17592186044416) (lx:∀ a∈x,a.lens 17592186044416) (h1:DyR w vf rf) (h2:DyR w vt rt) (h3:DyR w vh rh) (l1:rf.m.length≤17592186044416) (l2:rt.m.length≤17592186044416) (l3:rh.m.length≤17592186044416) (hT:Tab w)
 (hm:Fj ls outs x p rf rt rh bits=false) :
 Calls Tryz.prog 19 #[.agg #[s,o],vx,vp,vf,vt,vh,.int .i64 bits] w (RetK (.tuple #[.slice none 0 0,.int .i64 1]) w):=by
 have hmf:=Es;have EN:=fun w1 (k:Kept w w1)=>Lo (bits:=bits) (hv.kept k) hok hn hno (hp.kept k) (hx.kept k) np nx lp lx (h1.kept k) (h2.kept k) (h3.kept k) l1 l2 l3 (hT.kept k) hm
 obtain ⟨Af,lf,cf,rfl,-,-,-,-⟩:=h1.shape;obtain ⟨At,lt,ct,rfl,-,-,-,-⟩:=h2.shape;obtain ⟨Ah,lh,ch,rfl,-,-,-,-⟩:=h3.shape;obtain ⟨Ax,cx,rfl,-,-⟩:=hx;obtain ⟨Ap,cp,rfl,-,-⟩:=hp;obtain ⟨s',o',es,hls,hou⟩:=hv;simp only [Value.agg.injEq,Array.mk.injEq,List.cons.injEq,and_true] at es;obtain ⟨rfl,rfl⟩:=es;obtain ⟨As,cs,rfl,-,-⟩:=hls;obtain ⟨Ao,co,rfl,-,-⟩:=hou;obtain ⟨W,hW,kW,B0,B1,B2,B3,B4,B5,B6⟩:=Abh w (.slice As ls.length cs) (.slice Ao outs.length co) (.slice Ax x.length cx) (.slice Ap p.length cp) (.bool rf.neg) (.slice Af lf cf) (.int .i64 rf.e) (.bool rt.neg) (.slice At lt ct) (.int .i64 rt.e) (.bool rh.neg) (.slice Ah lh ch) (.int .i64 rh.e) (.int .i64 bits)
 have hf:=Rb (w:=W) (K:=47) (cap:=#[.pointer (some ⟨w.heap.size,0,none⟩),.pointer (some ⟨w.heap.size+1+1,0,none⟩),.pointer (some ⟨w.heap.size+1+1+1+1+1+1,0,none⟩),.pointer (some ⟨w.heap.size+1,0,none⟩),.pointer (some ⟨w.heap.size+1+1+1,0,none⟩),.pointer (some ⟨w.heap.size+1+1+1+1,0,none⟩),.pointer (some ⟨w.heap.size+1+1+1+1+1,0,none⟩)]) (k:=1)
  (fun w1 k=>Xd (fun w2 k2=>EN w2 (kW.trans (k.trans k2))) (Aj B0 k) (Bc k B2) (Bc k B6) (Bc k B1) (B3.kept k) (B4.kept k) (B5.kept k) ⟨_,_,_,rfl⟩ ⟨_,_,_,rfl⟩ ⟨_,_,_,rfl⟩ ⟨_,_,_,rfl⟩) (fun _=>rfl)
 have HF:=hid hf;have HW:=hid hW;have K:=hid kW;clear hf hW kW B0 B1 B2 B3 B4 B5 B6 EN h1 h2 h3 l1 l2 l3 hok lp lx hT hm hn hno np nx;generalize rf.neg=n1 at *;generalize rf.e=e1 at *;generalize rt.neg=n2 at *;generalize rt.e=e2 at *;generalize rh.neg=n3 at *;generalize rh.e=e3 at *;generalize x.length=lx at *;generalize p.length=lp at *;generalize ls.length=lsn at *;generalize outs.length=lo at *;go_enter Tryz.func19,Tryz.ntmps19;go_wp2_with fail;rw [←HW.out];refine HF.out.mono ?_;rintro e w1 ⟨rfl,q1⟩;simp only [];go_wp2_with fail
 go_ret2
 exact ⟨rfl,K.out.trans q1⟩
theorem Ags {f t h:Dy}(hc:0<Ce f.q t.q):Mt f t h=false:=by
 unfold Mt;by_cases hk:(Du t (Fg f)).k=0
 ·have hq:=Xt hk;rw [Ac9] at hq;have hlt:t.q<f.q:=Sk.1 hc;have hs:¬0≤sg (Du t (Fg f)).v:=by
   rw [Ad1];intro hh;have h2:(Du t (Fg f)).v.q<0:=by rw [hq];grind
   have h3:=Mn.2 h2;omega
  rw [decide_eq_false hs,Bool.and_false,Bool.false_and]
 ·rw [decide_eq_false hk,Bool.false_and,Bool.false_and,Bool.false_and]
def Pf (f t:Raw):Int:=if Di f&&Di t then Ce f.dy.q t.dy.q else 0
def Nj (ls:List Ln) (outs:List Int) (x p:List RawI) (f t h:Raw) (bits:Int):Bool :=
 decide (8≤bits)&&decide (bits≤200)&&Hk ls outs x.length 0 p.length&&decide (outs.length=x.length)&&decide (1≤x.length)&&decide (x.length≤6)&&x.all Ck&&p.all Ck&&Di f&&Di t&&Di h&&decide (Pf f t≤0)&&decide (0<Jr h)
theorem Ug {ls:List Ln}{outs:List Int}{x p:List RawI}{f t h:Raw}{bits:Int}(hd:Nj ls outs x p f t h bits=false):Fj ls outs x p f t h bits=false:=by
 rw [←Bool.not_eq_true] at hd ⊢;intro hm;apply hd;unfold Fj Wo Wp at hm;simp only [Bool.and_eq_true] at hm;obtain ⟨⟨⟨⟨⟨⟨⟨c1,c2⟩,c3⟩,c4⟩,c5⟩,c6⟩,⟨⟨⟨⟨d1,d2⟩,d3⟩,d4⟩,d5⟩⟩,tl⟩:=hm;have hh:Di h=true:=Ad0 (of_decide_eq_true d5);have hc:Pf f t≤0:=by
  unfold Pf;rw [d3,d4,Bool.and_self,if_pos rfl];by_cases hc:0<Ce f.dy.q t.dy.q
  ·rw [Ags hc] at tl;exact absurd tl (by decide)
  ·omega
 unfold Nj;simp only [c1,c2,c3,c4,c5,c6,d1,d2,d3,d4,d5,hh,decide_eq_true hc,Bool.and_self]
end Go.Proofs.YtmgaloopddiekaaGreatDoor
