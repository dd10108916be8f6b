/- TapeUses: inputs that an out does not lean on do not change it; their numbers rise. -/
import Derived.Test.YtabjjdicffcolaaGreatDoorClaimTusesp43
set_option maxRecDepth 100000
set_option maxHeartbeats 16000000
namespace Go.Proofs.YtabjjdicffcolaaGreatDoor
open Go.Lib (hid)
open Go.RowKit
theorem OwnI.dRow {w:World}{base:Nat}{v:Value}{l:List RawI}{xs:List Value}(h:OwnI w base v l xs)(h0:0<l.length):∃ g cap,v=.slice (some ⟨g,0,none⟩) l.length cap∧l.length≤cap∧base≤g∧DRow w g l:=by
 obtain ⟨h1,h2⟩:=h.row
 rcases h2 with ⟨-,hn⟩ | ⟨g,cap,cur,rfl,hb,hg,hc,-,hs,ht⟩
 ·omega
 ·obtain ⟨cur', T', hg', hnl⟩ := h.blk g rfl;rw [hg] at hg';cases hg';have hle:l.length*6≤cur.size:=by rw [hs];omega
  refine ⟨g,cap,rfl,hc,hb,cur,hg,hle,hnl,fun i a hi=>?_⟩;obtain ⟨x,y,z,x',y',z',a0,a1,a2,a3,a4,a5,hI⟩:=h.ivs i a hi;have key:∀ j u,xs[j]?=some u→cur[j]?=some u:=fun j u hj=>by
   rw [←ht,List.getElem?_take] at hj
   split at hj
   ·simpa using hj
   ·cases hj
  exact ⟨x,y,z,x',y',z',key _ _ a0,key _ _ a1,key _ _ a2,key _ _ a3,key _ _ a4,key _ _ a5,hI⟩
theorem Pe {Y:World}{ops:Array Oper}{rest:List Oper}{o:Oper}{a:Act}{Q:Exit→Act→World→Prop}(hgd:o.guard=none)(s x:Operand)
 (ho:o.op=.call { callee:=.builtin .append,args:=#[s,x],argTypes:=#[31,31] }) (hs:a.eval s=.slice (some ⟨Y.heap.size,0,none⟩) 0 0) {v:Value} {l:List RawI} (hx:a.eval x=v) (hv:IvS Y v l) (h0:0<l.length) (hl:l.length≤1000)
 (h:∀ g cap w',Kept Y w'→Y.heap.size≤g→l.length≤cap→DRow w' g l→wpList Tryz.prog ops Q rest (a.put o.dst (.slice (some ⟨g,0,none⟩) l.length cap)) w'):wpList Tryz.prog ops Q (o::rest) a (Y.alloc (.cells #[] 30)):=by
 obtain ⟨A,c,rfl,hc,hA⟩:=hv;obtain ⟨b,off,rfl,hD⟩:=hA h0;obtain ⟨i0,hi,hz0,hz1,hz2⟩:=info_parts Aei;obtain ⟨W,hW⟩:∃ W,W=Y.alloc (.cells #[] 30):=⟨_,rfl⟩;have kW:Kept Y W:=by rw [hW];exact Aa _ _
 have hown:W.ownsRow Y.heap.size 30 6 (.slice (some ⟨Y.heap.size,0,none⟩) 0 0) 0 []:=by rw [hW];exact World.ownsRow_made Y #[] 0 (Nat.le_refl _) (by decide) rfl
 have hnol:∀ g,(Value.slice (some ⟨Y.heap.size,0,none⟩) 0 0).ownBlock=some g→NoL W g:=by
  intro g hg;obtain rfl:Y.heap.size=g:=Option.some.inj hg;exact ⟨_,_,by rw [hW];exact heap_alloc_new _ _,by simp⟩
 obtain ⟨cs,q1,q2,q3⟩:=S7 (w:=W) (b:=b) l off (fun i a hi=>(hD i a hi).kept kW);have ad:∀ j,(⟨b,off,none⟩:Addr).add j=⟨b,off+j,none⟩:=by intro j;unfold Addr.add;split<;>simp_all
 rw [←hW]
 refine Jl hgd s x _ ho Y.heap.size 30 i0 _ 6 80 Tryz.underlying31 hi hz0 hz1 hz2 rfl (by decide) _ 0 [] hs hown ⟨b,off,none⟩ l.length c cs hx q1 (fun j u hj=>by rw [ad];exact (q2 j u hj).1)
  (fun u hu=>by obtain ⟨j,hj⟩:=List.getElem?_of_mem hu;exact (q2 j u hj).2.2) (by unfold maxLen;omega) (by omega) kW.size h0 (by simp) (fun u hu=>by obtain ⟨j,hj⟩:=List.getElem?_of_mem hu;exact (q2 j u hj).2.1) Oz hnol ?_
 intro v' w' g' o1 o2 o3 o4;have own:OwnI w' Y.heap.size v' l cs:=by
  refine ⟨by simpa using o1,?_,?_,?_,?_⟩
  ·intro u hu;obtain ⟨j,hj⟩:=List.getElem?_of_mem hu;exact (q2 j u hj).2.1
  ·intro u hu;obtain ⟨j,hj⟩:=List.getElem?_of_mem hu;exact (q2 j u hj).2.2
  ·intro g hg;rw [o3] at hg;cases hg;exact o4
  ·intro i a hi;obtain ⟨x,y,z,x',y',z',a0,a1,a2,a3,a4,a5,hI⟩:=q3 i a hi;exact ⟨x,y,z,x',y',z',a0,a1,a2,a3,a4,a5,hI.grown o2 hnol⟩
 obtain ⟨g,cap,rfl,h1,h2,h3⟩:=own.dRow h0;exact h g cap w' (Below.grown kW o2 kW.size (fun g hg=>Nat.le_of_eq (Option.some.inj hg))) h2 h1 h3
theorem Ag0 (w:World)(s o x0 x1 x2 x3 x4 x5 x6 x7 x8 y0 y1 y2 y3 y4 y5:Value):∃ W,W=((w.alloc (.cells #[s,o] 25)).alloc (.cells #[x0,x1,x2,x3,x4,x5,x6,x7,x8] 33)).alloc (.cells #[y0,y1,y2,y3,y4,y5] 30)∧Kept w W ∧
 W.heap[w.heap.size]?=some (.cells #[s,o] 25 (0,0))∧W.heap[w.heap.size+1]?=some (.cells #[x0,x1,x2,x3,x4,x5,x6,x7,x8] 33 (0,0))∧BlkI W (w.heap.size+1+1) y0 y1 y2 y3 y4 y5∧W.heap.size=w.heap.size+1+1+1:=by
 obtain ⟨V,hV,kV,h1,h2,h3⟩:=Xj w s o x0 x1 x2 x3 x4 x5 x6 x7 x8;refine ⟨_,rfl,?_,?_,?_,?_,?_⟩<;>rw [←hV]
 ·exact kV.trans (Aa _ _)
 ·exact Ar h1 (Aa _ _)
 ·exact Ar h2 (Aa _ _)
 ·have := Fj       V y0 y1 y2 y3 y4 y5
  rwa [h3] at this
 ·simp [h3]
theorem Rc:∀ (l:List Int) (lo u:Int),l.Pairwise (·<·)→(∀ y∈l,lo≤y∧y<u)→(l.length:Int)≤max 0 (u-lo)
 | [],lo,u,_,_=>by simp;omega
 | x :: l, lo, u, h, hb => by
   have h1:=List.pairwise_cons.1 h;have:=Rc l (x+1) u h1.2 (fun y hy=>⟨by have:=h1.1 y hy;omega,(hb y (List.mem_cons_of_mem _ hy)).2⟩);have h2:=hb x (List.mem_cons_self ..);simp only [List.length_cons];omega
theorem Afm (which:Int)(m:Nat)(h1:1≤m)(h2:m≤1000):∃ k:Nat,wrap64 ((IntKind.u64.wrap which).tmod (m:Int))=(k:Int)∧k<m:=by
 obtain ⟨k,e,-,h⟩:=Aep which 0 m h1 (by omega);refine ⟨k,?_,by omega⟩;rw [←e];have h0:0≤(IntKind.u64.wrap which).tmod (m:Int):=by rw [IntKind.wrap_u64];exact Int.tmod_nonneg _ (Int.emod_nonneg _ (by decide))
 have h3:(IntKind.u64.wrap which).tmod (m:Int)<m:=Int.tmod_lt_of_pos _ (by omega);generalize (IntKind.u64.wrap which).tmod (m:Int)=t at *;unfold wrap64;omega
theorem Afn {w:World}{vt ve vi:Value}{ls:List Ln}{outs:List Int}{e:En}{rv:RawI}{which p:Int}(hv:TpR w vt ls outs)(he:EnR w ve e)(hi:IvR w vi rv)(hok:Pg ls)(hn:ls.length≤1000000000000000)(hno:outs.length≤1000000000000000)(hle:Ac6 e)(hli:rv.lens 17592186044416)(hT:Tab w) :
 Calls Tryz.prog 8 #[vt,ve,.int .i64 which,vi,.int .i64 p] w (RetK (.bool true) w):=by
 have T:=hid hT;have HTP:=hid hv;have HEN:=hid he;have HIV:=hid hi;have OK:=hid hok;have FC:=hid (fun w1 (k:Kept w w1)=>Ajk (hv.kept k) hn hno hok);have EC:=hid (fun w1 (k:Kept w w1)=>Aio (he.kept k) hle);have RC:=hid (fun w1 v (h:IvS w1 v [rv])=>U4 h (by simp) (fun a ha=>by rw [List.mem_singleton.1 ha];exact hli));obtain ⟨s,o,rfl,hls,hou⟩:=hv;obtain ⟨x0,x1,x2,x3,x4,x5,sx,su,sp,rfl,ht,hx,hu,hp⟩:=he;have HX:=hid hx;have HU:=hid hu;have HP:=hid hp;have HTT:=hid ht;have HO:=hid hou;obtain ⟨TA,Tl,Tc,TA',Tl',Tc',ei,-,-⟩:=Az ht;injection ei with ei;injection ei with ei
 simp only [List.cons.injEq,and_true] at ei;obtain ⟨rfl,rfl,rfl,rfl,rfl,rfl⟩:=ei;obtain ⟨VA,Vl,Vc,VA',Vl',Vc',rfl,-,-⟩:=Az hi;obtain ⟨A,c,rfl,hc,-⟩:=hls;obtain ⟨B,d,rfl,hd,-⟩:=hou;obtain ⟨AX,cx,rfl,-,-⟩:=hx;obtain ⟨AU,cu,rfl,-,hAU⟩:=hu;obtain ⟨AP,cp,rfl,-,-⟩:=hp;have HAU:=hid hAU;obtain ⟨W,hW,kW,hb,hb',hb2,lW⟩:=Ag0 w (.slice A ls.length c) (.slice B outs.length d) (.bool e.t.lo.neg) (.slice TA Tl Tc) (.int .i64 e.t.lo.e) (.bool e.t.hi.neg) (.slice TA' Tl' Tc') (.int .i64 e.t.hi.e) (.slice AX e.x.length cx) (.slice AU e.u.length cu) (.slice AP e.p.length cp) (.bool rv.lo.neg) (.slice VA Vl Vc) (.int .i64 rv.lo.e) (.bool rv.hi.neg) (.slice VA' Vl' Vc') (.int .i64 rv.hi.e)
 have HW:=hid hW;have K:=hid kW;have HB:=hid hb;have HB':=hid hb';have HB2:=hid hb2;obtain ⟨c0,c1⟩:=Cn hb;obtain ⟨bf,hbf⟩:∃ b,Q7 ls outs=b:=⟨_,rfl⟩;rw [hbf] at FC;obtain ⟨be,hbe⟩:∃ b,Aeu e=b:=⟨_,rfl⟩;rw [hbe] at EC;obtain ⟨br,hbr⟩:∃ b,Jc [rv]=b:=⟨_,rfl⟩;rw [hbr] at RC;have HBF:=hid hbf;have HBE:=hid hbe;have HBR:=hid hbr;clear hT hok hn hno hle hli hi ht hAU hW kW hb hb' hb2 hbf hbe hbr
 go_enter Tryz.func8,Tryz.ntmps8
 go_upto_region 1 with fail
 rw [←HW.out];go_wp2_with fail;refine (FC.out _ K.out).mono ?_;rintro ee w1 ⟨rfl,q⟩;simp only [];replace K:=hid (K.out.trans q);replace HB:=hid (Ar HB.out q);replace HB':=hid (Ar HB'.out q);replace HB2:=hid (HB2.out.kept q);clear q;clear c0 c1 HW FC;obtain ⟨d0,d1,d2,d3,d4,d5,d6,d7,d8⟩:=Be HB'.out;cases bf
 ·skip
  go_wp2_with fail;refine (Kc (T.out.kept K.out) Tt trivial).mono ?_;rintro ee w9 ⟨rfl,q⟩;simp only [];go_wp2_with fail;go_ret;exact ⟨rfl,K.out.trans q⟩
 go_wp2_with fail;refine (EC.out _ K.out).mono ?_;rintro ee w2 ⟨rfl,q⟩;simp only [];replace K:=hid (K.out.trans q);replace HB:=hid (Ar HB.out q);replace HB':=hid (Ar HB'.out q);replace HB2:=hid (HB2.out.kept q);clear q;clear d0 d1 d2 d3 d4 d5 d6 d7 d8 EC;obtain ⟨d0,d1,d2,d3,d4,d5,d6,d7,d8⟩:=Be HB'.out;obtain ⟨-,y0,y1,y2,y3,y4,y5⟩:=HB2.out.facts;cases be
 ·skip
  go_wp2_with fail;refine (Kc (T.out.kept K.out) Tt trivial).mono ?_;rintro ee w9 ⟨rfl,q⟩;simp only [];go_wp2_with fail;go_ret;exact ⟨rfl,K.out.trans q⟩
 go_wp2_with fail;refine (RC.out _ _ (Yj (HIV.out.kept K.out))).mono ?_;rintro ee w3 ⟨rfl,q9⟩;simp only [];have q:=(Aa w2 (.cells #[.bool rv.lo.neg,.slice VA Vl Vc,.int .i64 rv.lo.e,.bool rv.hi.neg,.slice VA' Vl' Vc',.int .i64 rv.hi.e] 30)).trans q9;replace K:=hid (K.out.trans q);replace HB:=hid (Ar HB.out q);replace HB':=hid (Ar HB'.out q);replace HB2:=hid (HB2.out.kept q);clear q;clear d0 d1 d2 d3 d4 d5 d6 d7 d8 y0 y1 y2 y3 y4 y5 RC q9;obtain ⟨d0,d1,d2,d3,d4,d5,d6,d7,d8⟩:=Be HB'.out;cases br
 ·skip
  go_wp2_with fail;refine (Kc (T.out.kept K.out) Tt trivial).mono ?_;rintro ee w9 ⟨rfl,q⟩;simp only [];go_wp2_with fail;go_ret;exact ⟨rfl,K.out.trans q⟩
 by_cases hu0:e.u.length=0
 ·have hu9 : ((e.u.length : Int) == 0) = true := by simp [hu0]
  clear hu0;go_wp2_with fail;refine (Kc (T.out.kept K.out) Tt trivial).mono ?_;rintro ee w9 ⟨rfl,q⟩;simp only [];go_wp2_with fail;go_ret;exact ⟨rfl,K.out.trans q⟩
 have hu9:((e.u.length:Int)==0)=false:=by rw [beq_eq_false_iff_ne];omega
 go_upto_region 3 with fail
 clear hu9;obtain ⟨l40,o12,lk⟩:=Xz HBF.out;obtain ⟨le,lx8,lu8,lp8,lt6,lx6,lu6,lp6⟩:=Aax HBE.out;have lr6:=(I2 HBR.out).2 rv (by simp);obtain ⟨n,hnb,n1,n2⟩:=Aep p 8 53 (by decide) (by decide);have hnb':wrap64 (8+wrap64 ((IntKind.u64.wrap p).tmod 53))=(n:Int):=hnb;clear hnb
 go_upto_region 4 with fail
 simp only [hnb'];clear hnb';obtain ⟨k,hkk,hkl⟩:=Afm which e.u.length (by omega) (by omega);have hw2:IntKind.u64.wrap (e.u.length:Int)=(e.u.length:Int):=by rw [IntKind.wrap_u64];omega
 have hw4:¬(e.u.length:Int)=0:=by omega
 have hw3:((e.u.length:Int)==0)=false:=by rw [beq_eq_false_iff_ne];omega
 have HKK:=hid hkk;clear hkk
 go_upto_region 5 with fail
 simp only [HKK.out];clear hw2 hw3 hw4 HKK;obtain ⟨Y,hY,kY,hy,lY⟩:=Ahn w3 (.bool e.t.lo.neg) (.slice TA Tl Tc) (.int .i64 e.t.lo.e) (.bool e.t.hi.neg) (.slice TA' Tl' Tc') (.int .i64 e.t.hi.e) (.slice AX e.x.length cx) (.slice AU e.u.length cu) (.slice AP e.p.length cp);have HY:=hid hY;have KY:=hid kY;have HYB:=hid hy;clear hY kY hy
 go_upto_region 6 with fail
 rw [←HY.out];clear d0 d1 d2 d3 d4 d5 d6 d7 d8 HY;have q:=KY.out;have lb3:w.heap.size+1+1<w3.heap.size:=by
  obtain ⟨h1,-⟩:=HB2.out.facts;exact h1
 have LB3:=hid lb3;have K3:=hid K.out;have S3:=hid (And.intro HB.out (And.intro HB'.out HB2.out));replace K:=hid (K.out.trans q);replace HB:=hid (Ar HB.out q);replace HB':=hid (Ar HB'.out q);replace HB2:=hid (HB2.out.kept q);clear q;have LY:=hid lY;have HUY:=hid (HU.out.kept K.out);clear lb3 lY;have EU:=hid (And.intro (show 0<e.u.length by omega) lu8);obtain ⟨d0,d1,d2,d3,d4,d5,d6,d7,d8⟩:=Be HB'.out;have e7:=Ae (Ar HB'.out (Aa Y (.cells #[] 30))) 7 _ rfl
 go_upto_region 7 with (at_builtin;refine Pe (v:=.slice AU e.u.length cu) (l:=e.u) rfl (.tmp 57) (.tmp 59) rfl rfl rfl HUY.out EU.out.1 (by have:=EU.out.2;omega) ?_;intro g cap w4 k4 g4 g5 g6;have z7:=Ae (Ar HYB.out k4) 7 _ rfl;have f7:=Ay (Ar HYB.out k4) 7)
 clear z7 f7 e7 d0 d1 d2 d3 d4 d5 d6 d7 d8;have K4:=hid k4;have G4:=hid g4;have G5:=hid g5;have G6:=hid g6;clear k4 g4 g5 g6;obtain ⟨X,hX⟩:∃ X,X=w4.setCell ⟨w3.heap.size,7,none⟩ (.slice (some ⟨g,0,none⟩) e.u.length cap):=⟨_,rfl⟩;rw [←hX];have hb4:=Ar HYB.out K4.out;have hXb:=Bb (i:=7) hb4 (.slice (some ⟨g,0,none⟩) e.u.length cap);have kX:KB w4 [w3.heap.size] X:=by rw [hX];exact (KB.refl w4 _).setCell (by simp) (Ae hb4 7 _ rfl) (Af _ _ _) _
 simp only [List.setIfInBounds_toArray,List.set_cons_zero,List.set_cons_succ] at hXb;rw [←hX] at hXb;have kX3:Kept w3 X:=KB.kept (KY.out.trans K4.out) kX (by simp);have hdX:DRow X g e.u:=G6.out.kb kX (by have:=G4.out;have:=LY.out;simp;omega);have HXB:=hid hXb;have KX3:=hid kX3;have HDX:=hid hdX;have HKL:=hid hkl;have HIX:=hid (HIV.out.kept (K3.out.trans kX3));obtain ⟨r0,hr0⟩:∃ r0,e.u[k]?=some r0:=⟨_,List.getElem?_eq_getElem hkl⟩;obtain ⟨p0,p1,p2,p3,p4,p5,a0,a1,a2,a3,a4,a5,-⟩:=hdX.at hr0;have f0:=hdX.free (k*6);have f1:=hdX.free (k*6+1);have f2:=hdX.free (k*6+2);have f3:=hdX.free (k*6+3);have f4:=hdX.free (k*6+4)
 have f5:=hdX.free (k*6+5);have e7:=Ae hXb 7 _ rfl;obtain ⟨-,y0,y1,y2,y3,y4,y5⟩:=(S3.out.2.2.kept kX3).facts;clear hX hb4 hXb kX kX3 hdX hr0 HB HB' HB2 K K4 HYB HUY KY
 go_upto_region 8 with fail
 obtain ⟨hdZ,kZ⟩:=HDX.out.set HKL.out HIX.out
 change Code.wp _ _ _ _ (Sb X g (k*6) _ _ _ _ _ _)
 generalize Sb X g (k*6) (.bool rv.lo.neg) (.slice VA Vl Vc) (.int .i64 rv.lo.e) (.bool rv.hi.neg) (.slice VA' Vl' Vc') (.int .i64 rv.hi.e)=Z at *;clear a0 a1 a2 a3 a4 a5 f0 f1 f2 f3 f4 f5 e7 y0 y1 y2 y3 y4 y5;have hg3:w3.heap.size<g:=by have:=G4.out;have:=LY.out;omega
 have kZ3:Kept w3 Z:=KB.kept KX3.out kZ (by simp;omega);have HYZ:=hid (kZ.blk HXB.out (by simp;omega));have HB:=hid (Ar S3.out.1 kZ3);have HB':=hid (Ar S3.out.2.1 kZ3);have K:=hid (K3.out.trans kZ3);have hU2:=hdZ.ivS (c:=cap) (by rw [List.length_set];exact G5.out);rw [List.length_set] at hU2;obtain ⟨f,hf⟩:∃ f:En,f=⟨e.t,e.x,e.u.set k rv,e.p⟩:=⟨_,rfl⟩;have hEN:EnR Z (.agg #[.bool e.t.lo.neg,.slice TA Tl Tc,.int .i64 e.t.lo.e,.bool e.t.hi.neg,.slice TA' Tl' Tc',.int .i64 e.t.hi.e,.slice AX e.x.length cx,.slice (some ⟨g,0,none⟩) e.u.length cap,.slice AP e.p.length cp]) f:=by
  rw [hf];exact ⟨_,_,_,_,_,_,_,_,_,rfl,HTT.out.kept K.out,HX.out.kept K.out,hU2,HP.out.kept K.out⟩
 have hle2:M4 f:=by
  rw [hf];refine ⟨le.1,le.2.1,fun a ha=>?_,le.2.2.2.1,le.2.2.2.2.1,by simp only [List.length_set];omega,le.2.2.2.2.2.2⟩
  rcases List.mem_or_eq_of_mem_set ha with h | rfl
  ·exact le.2.2.1 a h
  ·exact Il lr6 (by decide)
 have VC:=hid (fun w1 (q:Kept Z w1)=>Tq (ov:=ovI) (p:=(n:Int)) (HTP.out.kept (K.out.trans q)) (HEN.out.kept (K.out.trans q)) OK.out le (by omega) (by omega) (T.out.kept (K.out.trans q)) (fun _ _ _=>Um) Tt (fun _ _ _ _=>trivial));have VD:=hid (fun w1 (q:Kept Z w1)=>Tq (ov:=ovI) (p:=(n:Int)) (HTP.out.kept (K.out.trans q)) (hEN.kept q) OK.out hle2 (by omega) (by omega) (T.out.kept (K.out.trans q)) (fun _ _ _=>Um) Tt (fun _ _ _ _=>trivial));have UC:=hid (fun w1 (q:Kept Z w1) (i:Nat) (hi:i<outs.length)=>Xo (k:=(i:Int)) (HTP.out.kept (K.out.trans q)) OK.out (by omega) (by omega) (by omega) (by omega))
 have AC:=hid (fun w1 (q:Kept Z w1) (hm:Ex ls outs big big big=true)=>Agy (HTP.out.kept (K.out.trans q)) OK.out hm);have HF:=hid hf;have L8:=hid (And.intro lx8 (And.intro lu8 lp8));have L12:=hid o12;obtain ⟨E,hE⟩:∃ E,Mq ovI ls outs e n=E:=⟨_,rfl⟩;obtain ⟨D,hD⟩:∃ D,Mq ovI ls outs f n=D:=⟨_,rfl⟩;have HE:=hid hE;have HD:=hid hD;rw [hE] at VC;rw [hD] at VD;have TC:=hid (fun w1 (q:Kept Z w1)=>T.out.kept (K.out.trans q));have KZ:=hid K.out;clear hdZ kZ hg3 kZ3 hU2 hf hEN hle2 le lt6 lx6 lu6 lp6 lr6 lk lx8 lp8 o12 hE hD HXB HDX HIX KX3 S3 K3 G4 G5 G6 LY LB3 EU;have K:Hid (Kept Z Z):=hid (Below.refl _ _)
 obtain ⟨c0,c1⟩:=Cn HB.out;obtain ⟨d0,d1,d2,d3,d4,d5,d6,d7,d8⟩:=Be HB'.out;go_wp2_with fail;refine (VC.out _ K.out).mono ?_;rintro ee w5 ⟨q,v5,rfl,h5⟩;simp only [];have H5:=hid h5;obtain ⟨A5,c5,rfl,hc5,-⟩:=h5;replace K:=hid (K.out.trans q);clear q c0 c1 d0 d1 d2 d3 d4 d5 d6 d7 d8 VC;obtain ⟨c0,c1⟩:=Cn (Ar HB.out K.out);obtain ⟨d0,d1,d2,d3,d4,d5,d6,d7,d8⟩:=Be (Ar HYZ.out K.out);go_wp2_with fail;refine (VD.out _ K.out).mono ?_;rintro ee w6 ⟨q,v6,rfl,h6⟩;simp only [];replace H5:=hid (H5.out.kept q);have H6:=hid h6;obtain ⟨A6,c6,rfl,hc6,-⟩:=h6;replace K:=hid (K.out.trans q)
 clear q c0 c1 d0 d1 d2 d3 d4 d5 d6 d7 d8 VD
 by_cases hk:E.k=0
 ·by_cases hk' : D.k = 0
  ·have hkE : (E8    ovI ls outs e n).k = 0 := by rw [← Zi     , HE.out]; exact hk
   have hkD:(E8 ovI ls outs f n).k=0:=by rw [←Zi,HD.out];exact hk'
   have hev:=Qo hkE;have hdv:=Qo hkD;rw [HE.out] at hev;rw [HD.out] at hdv;have hmay:=(Hg hkE).1.2.2.1;have hvl:=(Hg hkE).2.1;have hcl:=Ae5 (Af4 HTP.out HEN.out hkE).2.2
   have SU:=hid (fun (i:Nat) z (hz:outs[i]?=some z) (hn:(k:Int)∉Ic ls outs i)=>Aay (k:=k) hkE hkD (by rw [HF.out]) (by rw [HF.out]) (by rw [HF.out]) (by have:=L8.out;omega) (by have:=L8.out;omega) (by have:=L8.out;omega)
    (fun j hj=>by rw [HF.out,List.getD_eq_getElem?_getD,List.getD_eq_getElem?_getD,List.getElem?_set_ne (fun h=>hj h.symm)]) hz hn)
   have UI:=hid (fun (i:Nat)=>Afa hmay (i:Int));have BIG:=hid (Va hmay (by unfold big;have:=L8.out;omega) (by unfold big;have:=L8.out;omega) (by unfold big;have:=L8.out;omega));generalize E8 ovI ls outs e n=G at *;generalize E8 ovI ls outs f n=M at *;have VLN:=hid (And.intro hvl (And.intro hcl (Io hmay).2));subst hev;subst hdv;simp only [List.length_map];clear hk hk' hkE hkD hmay hvl hcl HE HD HF;obtain ⟨c0,c1⟩:=Cn (Ar HB.out K.out);have gk:((0:Int) != 0)=false:=by decide
   go_upto_region 14 with fail
   clear gk c0 c1;go_wp2_with fail
   go_loopw [18] (fun t wr=>∃ i:Nat,i≤outs.length∧t=.int .i64 i∧Kept w6 wr) (fun t _=>(outs.length-intOf t).toNat)
   case atStart=>exact ⟨0,Nat.zero_le _,rfl,Below.refl _ _⟩
   case round =>
    obtain ⟨i,hi,rfl,hkr⟩:=hrel;have KR:=hid hkr;clear hkr;obtain ⟨c0,c1⟩:=Cn (Ar HB.out (K.out.trans KR.out))
    by_cases hin:i<outs.length
    ·have UCi := hid (UC.out _ (K.out.trans KR.out) i hin);obtain ⟨z,hz⟩:∃ z,outs[i]?=some z:=⟨_,List.getElem?_eq_getElem hin⟩;have SUi:=hid (SU.out i z hz);obtain ⟨ui1,ui2⟩:=UI.out i;generalize Ic    ls outs i=us at *;have ul:=Rc         us 0 e.u.length ui1 ui2;have UP:=hid ui1;have UM:=hid ui2;have HIN:=hid hin;have UL:=hid (show us.length≤8 by have:=L8.out;omega);have HZ:=hid hz;clear hz ui1 ui2 ul;go_wp2_with fail;refine UCi.out.mono ?_;rintro ee w7 ⟨q,v7,rfl,h7⟩;simp only [];obtain ⟨A7,c7,rfl,hc7,hA7⟩:=h7;have HA7:=hid hA7;have K7:=hid (KR.out.trans q);clear q hA7 UCi c0 c1;go_wp2_with fail
     go_loopw [20,21] (fun o t wr'=>∃ j:Nat,j≤us.length∧t=.int .i64 j∧o=.bool ((us.take j).any fun y=>y==(k:Int))∧Kept w7 wr') (fun _ t _=>(us.length-intOf t).toNat)
     case atStart=>exact ⟨0,Nat.zero_le _,rfl,rfl,Below.refl _ _⟩
     case round =>
      obtain ⟨j,hj,rfl,rfl,hks⟩:=hrel;have KS:=hid (K7.out.trans hks);have KQ:=hid hks;clear hks
      by_cases hjn:j<us.length
      ·obtain ⟨b7, o7, rfl, hd7⟩ := HA7.out (by omega);obtain ⟨y,hy⟩:∃ y,us[j]?=some y:=⟨_,List.getElem?_eq_getElem hjn⟩;have hyb:=UM.out y (List.mem_of_getElem? hy);have F1:=hid (show decide (y<0)=false by simp;omega);have F2:=hid (show decide ((e.u.length:Int)≤y)=false by simp;omega);have cy:=hd7 j y hy;have CY:=hid ((KQ.out.cell (p:=⟨b7,o7+j,none⟩) (Ax         cy)).trans cy);obtain ⟨yp,hyp⟩:∃ yp,yp=us.getD (j-1) 0:=⟨_,rfl⟩;obtain ⟨c1,hc1⟩:∃ c1,decide (0<j)=c1:=⟨_,rfl⟩;have PV:Hid (c1=true→0<j∧decide (y≤yp)=false∧wr.cell? ⟨b7,o7+(j-1),none⟩=some (.int .i64 yp)):=hid (fun hc=>by
        have h0:0<j:=by rw [hc] at hc1;simpa using hc1
        have hp1:us[j-1]?=some yp:=by rw [hyp,List.getD_eq_getElem?_getD,List.getElem?_eq_getElem (by omega)];rfl
        have cp:=hd7 (j-1) yp hp1;have hlt:yp<y:=by
         have hj':=(List.getElem?_eq_some_iff.1 hy).2;have hp':=(List.getElem?_eq_some_iff.1 hp1).2;rw [←hj',←hp'];exact List.pairwise_iff_getElem.1 UP.out (j-1) j (by omega) hjn (by omega)
        exact ⟨h0,by simp;omega,(KQ.out.cell (p:=⟨b7,o7+(j-1),none⟩) (Ax cp)).trans cp⟩)
       have C1:=hid hc1;have HJ:=hid hjn;have HBS:=hid (Ar HB'.out (K.out.trans KS.out));have HAN:Hid (((us.take (j+1)).any fun y=>y==(k:Int))=(((us.take j).any fun y=>y==(k:Int))||(y==(k:Int)))):=hid (by
        rw [List.take_add_one,hy,List.any_append]
        simp)
       obtain ⟨on,hon⟩:∃ on,((us.take j).any fun y=>y==(k:Int))=on:=⟨_,rfl⟩;rw [hon] at HAN ⊢;clear hy hyb cy hyp hc1 hd7 hon;go_wp2_with fail
       refine Bk (m:=31) (V:=VL [(vE (.int .i64 (j:Int))),(vE (.bool c1)),(vE (.bool c1)),(fun v wv=>(c1=true→(fun v _=>v=(.slice (some ⟨b7,o7,none⟩) us.length c7)) v wv)∧(c1=false→v=undef)),(fun v wv=>(c1=true→(fun v _=>v=(.int .i64 (j:Int))) v wv)∧(c1=false→v=undef)),(fun v wv=>(c1=true→(fun v _=>v=(.pointer (some ⟨b7,o7+j,none⟩))) v wv)∧(c1=false→v=undef)),(fun v wv=>(c1=true→(fun v _=>v=(.int .i64 y)) v wv)∧(c1=false→v=undef)),(fun v wv=>(c1=true→(fun v _=>v=(.slice (some ⟨b7,o7,none⟩) us.length c7)) v wv)∧(c1=false→v=undef)),(fun v wv=>(c1=true→(fun v _=>v=(.int .i64 (j:Int))) v wv)∧(c1=false→v=undef)),(fun v wv=>(c1=true→(fun v _=>v=(.int .i64 ((j-1:Nat):Int))) v wv)∧(c1=false→v=undef)),(fun v wv=>(c1=true→(fun v _=>v=(.pointer (some ⟨b7,o7+(j-1),none⟩))) v wv)∧(c1=false→v=undef)),(fun v wv=>(c1=true→(fun v _=>v=(.int .i64 yp)) v wv)∧(c1=false→v=undef)),(fun v wv=>(c1=true→(fun v _=>v=(.bool false)) v wv)∧(c1=false→v=undef)),(vE (.bool false)),(vE (.bool false)),(vE (.slice (some ⟨b7,o7,none⟩) us.length c7)),(vE (.int .i64 (j:Int))),(vE (.pointer (some ⟨b7,o7+j,none⟩))),(vE (.int .i64 y)),(vE (.bool false)),(vE (.bool false)),(vE (.bool false)),(vE (.slice (some ⟨b7,o7,none⟩) us.length c7)),(vE (.int .i64 (j:Int))),(vE (.pointer (some ⟨b7,o7+j,none⟩))),(vE (.int .i64 y)),(vP (w.heap.size+1) 7),(vE (.slice AU e.u.length cu)),(vE (.int .i64 (e.u.length:Int))),(vE (.bool false)),(vE (.bool false))])
        (by kernel_rfl) rfl (by kernel_rfl) (by kernel_rfl) (by kernel_rfl) (Au _ ⟨mE,mE,mE,fun v w w' k h=>⟨fun hC=>(fun v w w' k h=>by first | exact h | exact h.kept k | exact ⟨h.1,h.2.kept k⟩) v w w' k (h.1 hC),h.2⟩,fun v w w' k h=>⟨fun hC=>(fun v w w' k h=>by first | exact h | exact h.kept k | exact ⟨h.1,h.2.kept k⟩) v w w' k (h.1 hC),h.2⟩,fun v w w' k h=>⟨fun hC=>(fun v w w' k h=>by first | exact h | exact h.kept k | exact ⟨h.1,h.2.kept k⟩) v w w' k (h.1 hC),h.2⟩,fun v w w' k h=>⟨fun hC=>(fun v w w' k h=>by first | exact h | exact h.kept k | exact ⟨h.1,h.2.kept k⟩) v w w' k (h.1 hC),h.2⟩,fun v w w' k h=>⟨fun hC=>(fun v w w' k h=>by first | exact h | exact h.kept k | exact ⟨h.1,h.2.kept k⟩) v w w' k (h.1 hC),h.2⟩,fun v w w' k h=>⟨fun hC=>(fun v w w' k h=>by first | exact h | exact h.kept k | exact ⟨h.1,h.2.kept k⟩) v w w' k (h.1 hC),h.2⟩,fun v w w' k h=>⟨fun hC=>(fun v w w' k h=>by first | exact h | exact h.kept k | exact ⟨h.1,h.2.kept k⟩) v w w' k (h.1 hC),h.2⟩,fun v w w' k h=>⟨fun hC=>(fun v w w' k h=>by first | exact h | exact h.kept k | exact ⟨h.1,h.2.kept k⟩) v w w' k (h.1 hC),h.2⟩,fun v w w' k h=>⟨fun hC=>(fun v w w' k h=>by first | exact h | exact h.kept k | exact ⟨h.1,h.2.kept k⟩) v w w' k (h.1 hC),h.2⟩,fun v w w' k h=>⟨fun hC=>(fun v w w' k h=>by first | exact h | exact h.kept k | exact ⟨h.1,h.2.kept k⟩) v w w' k (h.1 hC),h.2⟩,mE,mE,mE,mE,mE,mE,mE,mE,mE,mE,mE,mE,mE,mE,mE,mE,mE,mE,trivial⟩) (Al ⟨
          (fun aF wF F=>by have s21:aF.tmps.getD 21 undef=(.int .i64 (j:Int)):=F.o 21;exact sv rfl),(fun aF wF F=>by have s117:=F.v 0 117;exact sw (by (have c9:=C1.out;go_simp)) rfl),(fun aF wF F=>by have s118:=F.v 1 118;exact sv rfl),
          (fun aF wF F=>by
        have sg:=F.v 2 119;have s19:aF.tmps.getD 19 undef=(.slice (some ⟨b7,o7,none⟩) us.length c7):=F.o 19
        rcases Bf c1 with hC | hC
        ·refine Aq (V1 := fun _ => (fun v _ => v = (.slice (some ⟨b7, o7, none⟩) us.length c7))) ?_ (fun _ _ h => ⟨fun _ => h, fun hN => absurd (hC.symm.trans hN) (by decide)⟩);exact Ah ((Ab rfl rfl sg).trans (by first | rfl | simp [hC])) (by go_simp) rfl
        ·exact Ap       ((Ab           rfl rfl sg).trans (by first | rfl | simp [hC])) ⟨fun h => absurd (hC.symm.trans h) (by decide), fun _ => rfl⟩),
         (fun aF wF F=>by
        have sg:=F.v 2 119;have s21:aF.tmps.getD 21 undef=(.int .i64 (j:Int)):=F.o 21
        rcases Bf c1 with hC | hC
        ·refine Aq (V1 := fun _ => (fun v _ => v = (.int .i64 (j : Int)))) ?_ (fun _ _ h => ⟨fun _ => h, fun hN => absurd (hC.symm.trans hN) (by decide)⟩);exact Ah ((Ab rfl rfl sg).trans (by first | rfl | simp [hC])) (by go_simp) rfl
        ·exact Ap       ((Ab           rfl rfl sg).trans (by first | rfl | simp [hC])) ⟨fun h => absurd (hC.symm.trans h) (by decide), fun _ => rfl⟩),
         (fun aF wF F=>by
        have sg:=F.v 2 119;have s120:(c1=true→aF.tmps.getD 120 undef=(.slice (some ⟨b7,o7,none⟩) us.length c7))∧(c1=false→aF.tmps.getD 120 undef=undef):=F.done 3 120 (by kernel_rfl) rfl;have s121:(c1=true→aF.tmps.getD 121 undef=(.int .i64 (j:Int)))∧(c1=false→aF.tmps.getD 121 undef=undef):=F.done 4 121 (by kernel_rfl) rfl
        rcases Bf c1 with hC | hC
        ·refine Aq (V1 := fun _ => (fun v _ => v = (.pointer (some ⟨b7, o7 + j, none⟩)))) ?_ (fun _ _ h => ⟨fun _ => h, fun hN => absurd (hC.symm.trans hN) (by decide)⟩);replace s120:=s120.1 hC;replace s121:=s121.1 hC;exact Ah ((Ab rfl rfl sg).trans (by first | rfl | simp [hC])) (by (have hi9:=HJ.out;first | (go_simp;done) | (go_simp;omega))) rfl
        ·exact Ap       ((Ab           rfl rfl sg).trans (by first | rfl | simp [hC])) ⟨fun h => absurd (hC.symm.trans h) (by decide), fun _ => rfl⟩),
         (fun aF wF F=>by
        have sg:=F.v 2 119;have s122:(c1=true→aF.tmps.getD 122 undef=(.pointer (some ⟨b7,o7+j,none⟩)))∧(c1=false→aF.tmps.getD 122 undef=undef):=F.done 5 122 (by kernel_rfl) rfl
        rcases Bf c1 with hC | hC
        ·refine Aq (V1 := fun _ => (fun v _ => v = (.int .i64 y))) ?_ (fun _ _ h => ⟨fun _ => h, fun hN => absurd (hC.symm.trans hN) (by decide)⟩);replace s122:=s122.1 hC;exact Ah ((Ab rfl rfl sg).trans (by first | rfl | simp [hC])) (by (have n0:=(F.kept.cell (p:=⟨b7,o7+j,none⟩) (Ax CY.out)).trans CY.out;go_simp)) rfl
        ·exact Ap       ((Ab           rfl rfl sg).trans (by first | rfl | simp [hC])) ⟨fun h => absurd (hC.symm.trans h) (by decide), fun _ => rfl⟩),
         (fun aF wF F=>by
        have sg:=F.v 2 119;have s19:aF.tmps.getD 19 undef=(.slice (some ⟨b7,o7,none⟩) us.length c7):=F.o 19
        rcases Bf c1 with hC | hC
        ·refine Aq (V1 := fun _ => (fun v _ => v = (.slice (some ⟨b7, o7, none⟩) us.length c7))) ?_ (fun _ _ h => ⟨fun _ => h, fun hN => absurd (hC.symm.trans hN) (by decide)⟩);exact Ah ((Ab rfl rfl sg).trans (by first | rfl | simp [hC])) (by go_simp) rfl
        ·exact Ap       ((Ab           rfl rfl sg).trans (by first | rfl | simp [hC])) ⟨fun h => absurd (hC.symm.trans h) (by decide), fun _ => rfl⟩),
         (fun aF wF F=>by
        have sg:=F.v 2 119;have s21:aF.tmps.getD 21 undef=(.int .i64 (j:Int)):=F.o 21
        rcases Bf c1 with hC | hC
        ·refine Aq (V1 := fun _ => (fun v _ => v = (.int .i64 (j : Int)))) ?_ (fun _ _ h => ⟨fun _ => h, fun hN => absurd (hC.symm.trans hN) (by decide)⟩);exact Ah ((Ab rfl rfl sg).trans (by first | rfl | simp [hC])) (by go_simp) rfl
        ·exact Ap       ((Ab           rfl rfl sg).trans (by first | rfl | simp [hC])) ⟨fun h => absurd (hC.symm.trans h) (by decide), fun _ => rfl⟩),
         (fun aF wF F=>by
        have sg:=F.v 2 119;have s125:(c1=true→aF.tmps.getD 125 undef=(.int .i64 (j:Int)))∧(c1=false→aF.tmps.getD 125 undef=undef):=F.done 8 125 (by kernel_rfl) rfl
        rcases Bf c1 with hC | hC
        ·refine Aq (V1 := fun _ => (fun v _ => v = (.int .i64 ((j - 1 : Nat) : Int)))) ?_ (fun _ _ h => ⟨fun _ => h, fun hN => absurd (hC.symm.trans hN) (by decide)⟩);replace s125:=s125.1 hC;exact Ah ((Ab rfl rfl sg).trans (by first | rfl | simp [hC])) (by (have e9:IntKind.i64.wrap ((j:Int)-1)=((j-1:Nat):Int):=(have h9:=(PV.out hC).1;have h8:=HJ.out;have h7:=UL.out;by rw [IntKind.wrap_i64];omega);go_simp)) rfl
        ·exact Ap       ((Ab           rfl rfl sg).trans (by first | rfl | simp [hC])) ⟨fun h => absurd (hC.symm.trans h) (by decide), fun _ => rfl⟩),
         (fun aF wF F=>by
        have sg:=F.v 2 119;have s124:(c1=true→aF.tmps.getD 124 undef=(.slice (some ⟨b7,o7,none⟩) us.length c7))∧(c1=false→aF.tmps.getD 124 undef=undef):=F.done 7 124 (by kernel_rfl) rfl;have s126:(c1=true→aF.tmps.getD 126 undef=(.int .i64 ((j-1:Nat):Int)))∧(c1=false→aF.tmps.getD 126 undef=undef):=F.done 9 126 (by kernel_rfl) rfl
        rcases Bf c1 with hC | hC
        ·refine Aq (V1 := fun _ => (fun v _ => v = (.pointer (some ⟨b7, o7 + (j - 1), none⟩)))) ?_ (fun _ _ h => ⟨fun _ => h, fun hN => absurd (hC.symm.trans hN) (by decide)⟩);replace s124:=s124.1 hC;replace s126:=s126.1 hC;exact Ah ((Ab rfl rfl sg).trans (by first | rfl | simp [hC])) (by (have hi9:j-1<us.length:=(have:=HJ.out;by omega);first | (go_simp;done) | (go_simp;omega))) rfl
        ·exact Ap       ((Ab           rfl rfl sg).trans (by first | rfl | simp [hC])) ⟨fun h => absurd (hC.symm.trans h) (by decide), fun _ => rfl⟩),
         (fun aF wF F=>by
        have sg:=F.v 2 119;have s127:(c1=true→aF.tmps.getD 127 undef=(.pointer (some ⟨b7,o7+(j-1),none⟩)))∧(c1=false→aF.tmps.getD 127 undef=undef):=F.done 10 127 (by kernel_rfl) rfl
        rcases Bf c1 with hC | hC
        ·refine Aq (V1 := fun _ => (fun v _ => v = (.int .i64 yp))) ?_ (fun _ _ h => ⟨fun _ => h, fun hN => absurd (hC.symm.trans hN) (by decide)⟩);replace s127:=s127.1 hC;exact Ah ((Ab rfl rfl sg).trans (by first | rfl | simp [hC])) (by (have p9:=(PV.out hC).2.2;have n0:=(F.kept.cell (p:=⟨b7,o7+(j-1),none⟩) (Ax p9)).trans p9;go_simp)) rfl
        ·exact Ap       ((Ab           rfl rfl sg).trans (by first | rfl | simp [hC])) ⟨fun h => absurd (hC.symm.trans h) (by decide), fun _ => rfl⟩),
         (fun aF wF F=>by
        have sg:=F.v 2 119;have s123:(c1=true→aF.tmps.getD 123 undef=(.int .i64 y))∧(c1=false→aF.tmps.getD 123 undef=undef):=F.done 6 123 (by kernel_rfl) rfl;have s128:(c1=true→aF.tmps.getD 128 undef=(.int .i64 yp))∧(c1=false→aF.tmps.getD 128 undef=undef):=F.done 11 128 (by kernel_rfl) rfl
        rcases Bf c1 with hC | hC
        ·refine Aq (V1 := fun _ => (fun v _ => v = (.bool false))) ?_ (fun _ _ h => ⟨fun _ => h, fun hN => absurd (hC.symm.trans hN) (by decide)⟩);replace s123:=s123.1 hC;replace s128:=s128.1 hC;exact Ah ((Ab rfl rfl sg).trans (by first | rfl | simp [hC])) (by (have f9:=(PV.out hC).2.1;go_simp)) rfl
        ·exact Ap       ((Ab           rfl rfl sg).trans (by first | rfl | simp [hC])) ⟨fun h => absurd (hC.symm.trans h) (by decide), fun _ => rfl⟩),
         (fun aF wF F=>by
        have s119:=F.v 2 119;have s129:(c1=true→aF.tmps.getD 129 undef=(.bool false))∧(c1=false→aF.tmps.getD 129 undef=undef):=F.done 12 129 (by kernel_rfl) rfl
        rcases Bf c1 with hE | hE
        ·replace s129 := s129.1 hE;exact sw (by first | (go_simp;done) | (go_simp;simp_all;done) | (simp_all;done)) rfl
        ·exact sw (by first | (go_simp; done) | (go_simp; simp_all; done) | (simp_all; done)) rfl), (fun aF wF F => by have s130 := F.v 13 130; exact sv rfl), (fun aF wF F => by have s19 : aF.tmps.getD 19 undef = (.slice (some ⟨b7, o7, none⟩) us.length c7) := F.o 19; have sg := F.v 14 131; exact Ah       ((Ab           rfl rfl sg).trans rfl) (by go_simp) rfl), (fun aF wF F => by have s21 : aF.tmps.getD 21 undef = (.int .i64 (j : Int)) := F.o 21; have sg := F.v 14 131; exact Ah       ((Ab           rfl rfl sg).trans rfl) (by go_simp) rfl), (fun aF wF F => by have s132 := F.v 15 132; have s133 := F.v 16 133; have sg := F.v 14 131; exact Ah       ((Ab           rfl rfl sg).trans rfl) (by (have hi9 := HJ.out; first | (go_simp; done) | (go_simp; omega))) rfl), (fun aF wF F => by have s134 := F.v 17 134; have sg := F.v 14 131; exact Ah       ((Ab           rfl rfl sg).trans rfl) (by (have n0 := (F.kept.cell (p := ⟨b7, o7 + j, none⟩) (Ax         CY.out)).trans CY.out; go_simp)) rfl), (fun aF wF F => by have s135 := F.v 18 135; have sg := F.v 14 131; exact Ah       ((Ab           rfl rfl sg).trans rfl) (by (have f9 := F1.out; go_simp)) rfl), (fun aF wF F => by have s131 := F.v 14 131; have s136 := F.v 19 136; exact sv rfl), (fun aF wF F => by have s137 := F.v 20 137; exact sv rfl), (fun aF wF F => by have s19 : aF.tmps.getD 19 undef = (.slice (some ⟨b7, o7, none⟩) us.length c7) := F.o 19; have sg := F.v 21 138; exact Ah       ((Ab           rfl rfl sg).trans rfl) (by go_simp) rfl), (fun aF wF F => by have s21 : aF.tmps.getD 21 undef = (.int .i64 (j : Int)) := F.o 21; have sg := F.v 21 138; exact Ah       ((Ab           rfl rfl sg).trans rfl) (by go_simp) rfl), (fun aF wF F => by have s139 := F.v 22 139; have s140 := F.v 23 140; have sg := F.v 21 138; exact Ah       ((Ab           rfl rfl sg).trans rfl) (by (have hi9 := HJ.out; first | (go_simp; done) | (go_simp; omega))) rfl), (fun aF wF F => by have s141 := F.v 24 141; have sg := F.v 21 138; exact Ah       ((Ab           rfl rfl sg).trans rfl) (by (have n0 := (F.kept.cell (p := ⟨b7, o7 + j, none⟩) (Ax         CY.out)).trans CY.out; go_simp)) rfl), (fun aF wF F => by have s6 : aF.tmps.getD 6 undef = (.pointer (some ⟨w.heap.size + 1, 0, none⟩)) := F.o 6; have sg := F.v 21 138; exact Ah       ((Ab           rfl rfl sg).trans rfl) (by go_simp) rfl), (fun aF wF F => by have s143 := F.v 26 143; have c0 := Ad      HBS.out F.kept 7 _ rfl; have sg := F.v 21 138; exact Ah       ((Ab           rfl rfl sg).trans rfl) (by go_simp) rfl), (fun aF wF F => by have s144 := F.v 27 144; have sg := F.v 21 138; exact Ah       ((Ab           rfl rfl sg).trans rfl) (by go_simp) rfl), (fun aF wF F => by have s142 := F.v 25 142; have s145 := F.v 28 145; have sg := F.v 21 138; exact Ah       ((Ab           rfl rfl sg).trans rfl) (by (have f9 := F2.out; go_simp)) rfl), (fun aF wF F => by have s138 := F.v 21 138; have s146 := F.v 29 146; exact sv rfl),
         trivial⟩) ?_
       intro u w8 q hu;have p120:=hp hu 3;have p121:=hp hu 4;have p122:=hp hu 5;have p123:=hp hu 6;have p124:=hp hu 7;have p125:=hp hu 8;have p126:=hp hu 9;have p127:=hp hu 10;have p128:=hp hu 11;have p129:=hp hu 12;simp only [Bc,Am,if_true,Act.put,z1,z2,z3,z4,z5,z6,z7,hv hu 0,hv hu 1,hv hu 2,hv hu 13,hv hu 14,hv hu 15,hv hu 16,hv hu 17,hv hu 18,hv hu 19,hv hu 20,hv hu 21,hv hu 22,hv hu 23,hv hu 24,hv hu 25,hv hu 26,hv hu 27,hv hu 28,hv hu 29,hv hu 30];clear hu;generalize u 3=v120 at *;generalize u 4=v121 at *;generalize u 5=v122 at *;generalize u 6=v123 at *;generalize u 7=v124 at *;generalize u 8=v125 at *
       generalize u 9=v126 at *;generalize u 10=v127 at *;generalize u 11=v128 at *;generalize u 12=v129 at *;have KX:=hid (KQ.out.trans q);have CY2:=hid ((q.cell (p:=⟨b7,o7+j,none⟩) (Ax CY.out)).trans CY.out);clear q PV C1 F1 F2;cases on
       ·obtain ⟨eq1, heq⟩ : ∃ b, (y == (k : Int)) = b := ⟨_, rfl⟩;have n0:=CY2.out;have hi9:=HJ.out;have ul8:=UL.out;go_wp2_with fail
        go_roundw
        case rel=>exact ⟨j+1,by have:=HJ.out;omega,by have:=HJ.out;have:=UL.out;go_num,by rw [HAN.out];first | rfl | (rw [heq];rfl),KX.out⟩
        case measure=>simp only [intOf];have:=HJ.out;omega
       ·have hi9 := HJ.out;have ul8:=UL.out;go_wp2_with fail
        go_roundw
        case rel=>exact ⟨j+1,by have:=HJ.out;omega,by have:=HJ.out;have:=UL.out;go_num,by rw [HAN.out];rfl,KX.out⟩
        case measure=>simp only [intOf];have:=HJ.out;omega
      ·obtain rfl : us.length = j := by omega
       rw [List.take_length];obtain ⟨nb,hnb⟩:∃ nb,(us.any fun y=>y==(k:Int))=!nb:=⟨!(us.any fun y=>y==(k:Int)),by simp⟩;rw [hnb];obtain ⟨b5,o5,r5,e5,-,hr5,hat5⟩:=(H5.out.kept KS.out).at (i:=i) (by simp only [List.length_map];exact HIN.out);obtain ⟨b6,o6,r6,e6,-,hr6,hat6⟩:=(H6.out.kept KS.out).at (i:=i) (by simp only [List.length_map];exact HIN.out);subst e5 e6;simp only [List.getElem?_map,HZ.out,Option.map_some,Option.some.injEq] at hr5 hr6;have lr:r5.lens 1000000:=by
        obtain ⟨v1,v2,v3⟩:=VLN.out;have hz2:=v3 z (List.mem_of_getElem? HZ.out);rw [←hr5,List.getD_eq_getElem?_getD,List.getElem?_eq_getElem (by omega)];exact Il (v2 _ (List.getElem_mem _)) (by decide)
       have SC:Hid (nb=true→∀ w1 v u,IvR w1 v r5→IvR w1 u r6→Calls Tryz.prog 28 #[v,u] w1 (RetK (.bool true) w1)):=hid (fun hc w1 v u hv hu=>by
        have hn:(k:Int)∉us:=fun hm=>by
         rw [hc] at hnb;have:=List.any_eq_true.2 ⟨_,hm,by simp⟩ |>.symm.trans hnb
         cases this
        have he:=SUi.out hn;rw [hr5,hr6] at he;rw [←he] at hu;exact Wc hv hu lr)
       have I5:=hid (fun w1 (q:Kept wr w1)=>hat5.kept q);have I6:=hid (fun w1 (q:Kept wr w1)=>hat6.kept q);clear hat5 hat6 hr5 hr6 lr hnb;go_wp2_with fail
       refine Bk (m:=14) (V:=VL [(vE (.bool (!nb))),(vE (.bool nb)),(vE (.bool nb)),(fun v wv=>(nb=true→(fun v _=>v=(.slice (some ⟨b5,o5,none⟩) outs.length c5)) v wv)∧(nb=false→v=undef)),(fun v wv=>(nb=true→(fun v _=>v=(.int .i64 (i:Int))) v wv)∧(nb=false→v=undef)),(fun v wv=>(nb=true→(fun v _=>v=(.pointer (some ⟨b5,o5+i*6,none⟩))) v wv)∧(nb=false→v=undef)),(fun v wv=>(nb=true→(fun v wv=>IvR wv v r5) v wv)∧(nb=false→v=undef)),(fun v wv=>(nb=true→(fun v _=>v=(.slice (some ⟨b6,o6,none⟩) outs.length c6)) v wv)∧(nb=false→v=undef)),(fun v wv=>(nb=true→(fun v _=>v=(.int .i64 (i:Int))) v wv)∧(nb=false→v=undef)),(fun v wv=>(nb=true→(fun v _=>v=(.pointer (some ⟨b6,o6+i*6,none⟩))) v wv)∧(nb=false→v=undef)),(fun v wv=>(nb=true→(fun v wv=>IvR wv v r6) v wv)∧(nb=false→v=undef)),(fun v wv=>(nb=true→(fun v _=>v=(.bool true)) v wv)∧(nb=false→v=undef)),(fun v wv=>(nb=true→(fun v _=>v=(.bool false)) v wv)∧(nb=false→v=undef)),(vE (.bool false))])
        (by kernel_rfl) rfl (by kernel_rfl) (by kernel_rfl) (by kernel_rfl) (Au _ ⟨mE,mE,mE,fun v w w' k h=>⟨fun hC=>(fun v w w' k h=>by first | exact h | exact h.kept k | exact ⟨h.1,h.2.kept k⟩) v w w' k (h.1 hC),h.2⟩,fun v w w' k h=>⟨fun hC=>(fun v w w' k h=>by first | exact h | exact h.kept k | exact ⟨h.1,h.2.kept k⟩) v w w' k (h.1 hC),h.2⟩,fun v w w' k h=>⟨fun hC=>(fun v w w' k h=>by first | exact h | exact h.kept k | exact ⟨h.1,h.2.kept k⟩) v w w' k (h.1 hC),h.2⟩,fun v w w' k h=>⟨fun hC=>(fun v w w' k h=>by first | exact h | exact h.kept k | exact ⟨h.1,h.2.kept k⟩) v w w' k (h.1 hC),h.2⟩,fun v w w' k h=>⟨fun hC=>(fun v w w' k h=>by first | exact h | exact h.kept k | exact ⟨h.1,h.2.kept k⟩) v w w' k (h.1 hC),h.2⟩,fun v w w' k h=>⟨fun hC=>(fun v w w' k h=>by first | exact h | exact h.kept k | exact ⟨h.1,h.2.kept k⟩) v w w' k (h.1 hC),h.2⟩,fun v w w' k h=>⟨fun hC=>(fun v w w' k h=>by first | exact h | exact h.kept k | exact ⟨h.1,h.2.kept k⟩) v w w' k (h.1 hC),h.2⟩,fun v w w' k h=>⟨fun hC=>(fun v w w' k h=>by first | exact h | exact h.kept k | exact ⟨h.1,h.2.kept k⟩) v w w' k (h.1 hC),h.2⟩,fun v w w' k h=>⟨fun hC=>(fun v w w' k h=>by first | exact h | exact h.kept k | exact ⟨h.1,h.2.kept k⟩) v w w' k (h.1 hC),h.2⟩,fun v w w' k h=>⟨fun hC=>(fun v w w' k h=>by first | exact h | exact h.kept k | exact ⟨h.1,h.2.kept k⟩) v w w' k (h.1 hC),h.2⟩,mE,trivial⟩) (Al ⟨
          (fun aF wF F=>by have s20:aF.tmps.getD 20 undef=(.bool (!nb)):=F.o 20;exact sv rfl),(fun aF wF F=>by have s157:=F.v 0 157;exact sv rfl),(fun aF wF F=>by have s158:=F.v 1 158;exact sv rfl),
          (fun aF wF F=>by
        have sg:=F.v 2 159;have s14:aF.tmps.getD 14 undef=(.slice (some ⟨b5,o5,none⟩) outs.length c5):=F.o 14
        rcases Bf nb with hC | hC
        ·refine Aq (V1 := fun _ => (fun v _ => v = (.slice (some ⟨b5, o5, none⟩) outs.length c5))) ?_ (fun _ _ h => ⟨fun _ => h, fun hN => absurd (hC.symm.trans hN) (by decide)⟩);exact Ah ((Ab rfl rfl sg).trans (by first | rfl | simp [hC])) (by go_simp) rfl
        ·exact Ap       ((Ab           rfl rfl sg).trans (by first | rfl | simp [hC])) ⟨fun h => absurd (hC.symm.trans h) (by decide), fun _ => rfl⟩),
         (fun aF wF F=>by
        have sg:=F.v 2 159;have s18:aF.tmps.getD 18 undef=(.int .i64 (i:Int)):=F.o 18
        rcases Bf nb with hC | hC
        ·refine Aq (V1 := fun _ => (fun v _ => v = (.int .i64 (i : Int)))) ?_ (fun _ _ h => ⟨fun _ => h, fun hN => absurd (hC.symm.trans hN) (by decide)⟩);exact Ah ((Ab rfl rfl sg).trans (by first | rfl | simp [hC])) (by go_simp) rfl
        ·exact Ap       ((Ab           rfl rfl sg).trans (by first | rfl | simp [hC])) ⟨fun h => absurd (hC.symm.trans h) (by decide), fun _ => rfl⟩),
         (fun aF wF F=>by
        have sg:=F.v 2 159;have s160:(nb=true→aF.tmps.getD 160 undef=(.slice (some ⟨b5,o5,none⟩) outs.length c5))∧(nb=false→aF.tmps.getD 160 undef=undef):=F.done 3 160 (by kernel_rfl) rfl;have s161:(nb=true→aF.tmps.getD 161 undef=(.int .i64 (i:Int)))∧(nb=false→aF.tmps.getD 161 undef=undef):=F.done 4 161 (by kernel_rfl) rfl
        rcases Bf nb with hC | hC
        ·refine Aq (V1 := fun _ => (fun v _ => v = (.pointer (some ⟨b5, o5 + i * 6, none⟩)))) ?_ (fun _ _ h => ⟨fun _ => h, fun hN => absurd (hC.symm.trans hN) (by decide)⟩);replace s160:=s160.1 hC;replace s161:=s161.1 hC;exact Ah ((Ab rfl rfl sg).trans (by first | rfl | simp [hC])) (by (have hi9:=HIN.out;first | (go_simp;done) | (go_simp;omega))) rfl
        ·exact Ap       ((Ab           rfl rfl sg).trans (by first | rfl | simp [hC])) ⟨fun h => absurd (hC.symm.trans h) (by decide), fun _ => rfl⟩),
         (fun aF wF F=>by
        have sg:=F.v 2 159;have s162:(nb=true→aF.tmps.getD 162 undef=(.pointer (some ⟨b5,o5+i*6,none⟩)))∧(nb=false→aF.tmps.getD 162 undef=undef):=F.done 5 162 (by kernel_rfl) rfl
        rcases Bf nb with hC | hC
        ·refine Aq (V1 := fun _ => (fun v wv => IvR wv v r5)) ?_ (fun _ _ h => ⟨fun _ => h, fun hN => absurd (hC.symm.trans hN) (by decide)⟩);replace s162:=s162.1 hC;obtain ⟨xx,yy,zz,xx',yy',zz',h0,h1,h2,h3,h4,h5,hI⟩:=(I5.out _ F.kept);exact Ah ((Ab rfl rfl sg).trans (by first | rfl | simp [hC])) (by go_simp) hI
        ·exact Ap       ((Ab           rfl rfl sg).trans (by first | rfl | simp [hC])) ⟨fun h => absurd (hC.symm.trans h) (by decide), fun _ => rfl⟩),
         (fun aF wF F=>by
        have sg:=F.v 2 159;have s16:aF.tmps.getD 16 undef=(.slice (some ⟨b6,o6,none⟩) outs.length c6):=F.o 16
        rcases Bf nb with hC | hC
        ·refine Aq (V1 := fun _ => (fun v _ => v = (.slice (some ⟨b6, o6, none⟩) outs.length c6))) ?_ (fun _ _ h => ⟨fun _ => h, fun hN => absurd (hC.symm.trans hN) (by decide)⟩);exact Ah ((Ab rfl rfl sg).trans (by first | rfl | simp [hC])) (by go_simp) rfl
        ·exact Ap       ((Ab           rfl rfl sg).trans (by first | rfl | simp [hC])) ⟨fun h => absurd (hC.symm.trans h) (by decide), fun _ => rfl⟩),
         (fun aF wF F=>by
        have sg:=F.v 2 159;have s18:aF.tmps.getD 18 undef=(.int .i64 (i:Int)):=F.o 18
        rcases Bf nb with hC | hC
        ·refine Aq (V1 := fun _ => (fun v _ => v = (.int .i64 (i : Int)))) ?_ (fun _ _ h => ⟨fun _ => h, fun hN => absurd (hC.symm.trans hN) (by decide)⟩);exact Ah ((Ab rfl rfl sg).trans (by first | rfl | simp [hC])) (by go_simp) rfl
        ·exact Ap       ((Ab           rfl rfl sg).trans (by first | rfl | simp [hC])) ⟨fun h => absurd (hC.symm.trans h) (by decide), fun _ => rfl⟩),
         (fun aF wF F=>by
        have sg:=F.v 2 159;have s164:(nb=true→aF.tmps.getD 164 undef=(.slice (some ⟨b6,o6,none⟩) outs.length c6))∧(nb=false→aF.tmps.getD 164 undef=undef):=F.done 7 164 (by kernel_rfl) rfl;have s165:(nb=true→aF.tmps.getD 165 undef=(.int .i64 (i:Int)))∧(nb=false→aF.tmps.getD 165 undef=undef):=F.done 8 165 (by kernel_rfl) rfl
        rcases Bf nb with hC | hC
        ·refine Aq (V1 := fun _ => (fun v _ => v = (.pointer (some ⟨b6, o6 + i * 6, none⟩)))) ?_ (fun _ _ h => ⟨fun _ => h, fun hN => absurd (hC.symm.trans hN) (by decide)⟩);replace s164:=s164.1 hC;replace s165:=s165.1 hC;exact Ah ((Ab rfl rfl sg).trans (by first | rfl | simp [hC])) (by (have hi9:=HIN.out;first | (go_simp;done) | (go_simp;omega))) rfl
        ·exact Ap       ((Ab           rfl rfl sg).trans (by first | rfl | simp [hC])) ⟨fun h => absurd (hC.symm.trans h) (by decide), fun _ => rfl⟩),
         (fun aF wF F=>by
        have sg:=F.v 2 159;have s166:(nb=true→aF.tmps.getD 166 undef=(.pointer (some ⟨b6,o6+i*6,none⟩)))∧(nb=false→aF.tmps.getD 166 undef=undef):=F.done 9 166 (by kernel_rfl) rfl
        rcases Bf nb with hC | hC
        ·refine Aq (V1 := fun _ => (fun v wv => IvR wv v r6)) ?_ (fun _ _ h => ⟨fun _ => h, fun hN => absurd (hC.symm.trans hN) (by decide)⟩);replace s166:=s166.1 hC;obtain ⟨xx,yy,zz,xx',yy',zz',h0,h1,h2,h3,h4,h5,hI⟩:=(I6.out _ F.kept);exact Ah ((Ab rfl rfl sg).trans (by first | rfl | simp [hC])) (by go_simp) hI
        ·exact Ap       ((Ab           rfl rfl sg).trans (by first | rfl | simp [hC])) ⟨fun h => absurd (hC.symm.trans h) (by decide), fun _ => rfl⟩),
         (fun aF wF F=>by
        have sg:=F.v 2 159;have s163:(nb=true→(fun v wv=>IvR wv v r5) (aF.tmps.getD 163 undef) wF)∧(nb=false→aF.tmps.getD 163 undef=undef):=F.done 6 163 (by kernel_rfl) rfl;have s167:(nb=true→(fun v wv=>IvR wv v r6) (aF.tmps.getD 167 undef) wF)∧(nb=false→aF.tmps.getD 167 undef=undef):=F.done 10 167 (by kernel_rfl) rfl
        rcases Bf nb with hC | hC
        ·refine Aq (V1 := fun _ => (fun v _ => v = (.bool true))) ?_ (fun _ _ h => ⟨fun _ => h, fun hN => absurd (hC.symm.trans hN) (by decide)⟩);replace s163:=s163.1 hC;replace s167:=s167.1 hC;exact Aw ((Ab rfl rfl sg).trans (by first | rfl | simp [hC])) (by go_simp) (SC.out hC _ _ _ s163 s167) (fun _ _ h=>RetK.good h) (fun _ _ h=>h)
        ·exact Ap       ((Ab           rfl rfl sg).trans (by first | rfl | simp [hC])) ⟨fun h => absurd (hC.symm.trans h) (by decide), fun _ => rfl⟩),
         (fun aF wF F=>by
        have sg:=F.v 2 159;have s168:(nb=true→aF.tmps.getD 168 undef=(.bool true))∧(nb=false→aF.tmps.getD 168 undef=undef):=F.done 11 168 (by kernel_rfl) rfl
        rcases Bf nb with hC | hC
        ·refine Aq (V1 := fun _ => (fun v _ => v = (.bool false))) ?_ (fun _ _ h => ⟨fun _ => h, fun hN => absurd (hC.symm.trans hN) (by decide)⟩);replace s168:=s168.1 hC;exact Ah ((Ab rfl rfl sg).trans (by first | rfl | simp [hC])) (by go_simp) rfl
        ·exact Ap       ((Ab           rfl rfl sg).trans (by first | rfl | simp [hC])) ⟨fun h => absurd (hC.symm.trans h) (by decide), fun _ => rfl⟩),
         (fun aF wF F=>by
        have s159:=F.v 2 159;have s169:(nb=true→aF.tmps.getD 169 undef=(.bool false))∧(nb=false→aF.tmps.getD 169 undef=undef):=F.done 12 169 (by kernel_rfl) rfl
        rcases Bf nb with hE | hE
        ·replace s169 := s169.1 hE;exact sw (by first | (go_simp;done) | (go_simp;simp_all;done) | (simp_all;done)) rfl
        ·exact sw (by first | (go_simp; done) | (go_simp; simp_all; done) | (simp_all; done)) rfl),
         trivial⟩) ?_
       intro u w8 q hu;have p160:=hp hu 3;have p161:=hp hu 4;have p162:=hp hu 5;have p163:=hp hu 6;have p164:=hp hu 7;have p165:=hp hu 8;have p166:=hp hu 9;have p167:=hp hu 10;have p168:=hp hu 11;have p169:=hp hu 12;simp only [Bc,Am,if_true,Act.put,z1,z2,z3,z4,z5,z6,z7,hv hu 0,hv hu 1,hv hu 2,hv hu 13];clear hu;generalize u 3=v160 at *;generalize u 4=v161 at *;generalize u 5=v162 at *;generalize u 6=v163 at *;generalize u 7=v164 at *;generalize u 8=v165 at *;generalize u 9=v166 at *;generalize u 10=v167 at *;generalize u 11=v168 at *;generalize u 12=v169 at *;clear p163 p167;have KX:=hid (K7.out.trans (KQ.out.trans q))
       clear q;have hi9:=HIN.out;have ol12:=L12.out;go_wp2_with fail
       go_roundw
       case rel=>exact ⟨i+1,by have:=HIN.out;omega,by have:=L12.out;have:=HIN.out;go_num,KX.out⟩
       case measure=>simp only [intOf];have:=HIN.out;omega
    ·obtain rfl : outs.length = i := by omega
     go_wp2_with fail;refine (Kc (TC.out _ (K.out.trans KR.out)) Tt trivial).mono ?_;rintro ee w7 ⟨rfl,q⟩;simp only [];clear c0 c1;obtain ⟨c0,c1⟩:=Cn (Ar HB.out ((K.out.trans KR.out).trans q));have K7:=hid ((K.out.trans KR.out).trans q);clear q;go_wp2_with fail;refine (AC.out _ K7.out BIG.out).mono ?_;rintro ee w9 ⟨rfl,q⟩;simp only [];clear c0 c1;go_wp2_with fail;go_ret;exact ⟨rfl,KZ.out.trans (K7.out.trans q)⟩
  ·have gk : (E.k != 0) = false := by simp [hk]
   have gm:(D.k != 0)=true:=by simp [hk']
   clear hk hk';go_wp2_with fail;refine (Kc (TC.out _ K.out) Tt trivial).mono ?_;rintro ee w9 ⟨rfl,q⟩;simp only [];go_wp2_with fail;go_ret;exact ⟨rfl,KZ.out.trans (K.out.trans q)⟩
 ·have gk : (E.k != 0) = true := by simp [hk]
  clear hk;go_wp2_with fail;refine (Kc (TC.out _ K.out) Tt trivial).mono ?_;rintro ee w9 ⟨rfl,q⟩;simp only [];go_wp2_with fail;go_ret;exact ⟨rfl,KZ.out.trans (K.out.trans q)⟩
end Go.Proofs.YtabjjdicffcolaaGreatDoor
