/- Words and contracts, part 39. -/
import Derived.Test.YtmgaloopddiekaaGreatDoorClaimFargsp34
import Derived.Test.YtmgaloopddiekaaGreatDoorClaimFargsp36
set_option maxRecDepth 100000
set_option maxHeartbeats 0
namespace Go.Proofs.YtmgaloopddiekaaGreatDoor
open Go.Lib (hid)
open Go.RowKit
theorem Pv (ov:Iv→Nat→Outc Iv)(e:En)(p:Nat):∀ (ls:List Ln) (out:List RawI),(Eo ov e p out ls).k=0→(Eo ov e p out ls).v.length=out.length+ls.length
 | [],out,_=>rfl
 | l :: ls, out, h => by
   rw [Eo] at h ⊢;by_cases hk:(Dr ov e p out l).k=0
   ·rw [if_pos hk] at h ⊢;rw [Pv ov e p ls _ h];simp;omega
   ·rw [if_neg hk] at h;exact absurd h hk
theorem Xu {ov:Iv→Nat→Outc Iv}{ls:List Ln}{outs:List Int}{e:En}{p:Int}(h:(Kb ov ls outs e p).k=0) :
 (1≤p∧p≤300∧Hk ls outs e.x.length e.u.length e.p.length=true∧Sr e=true)∧(Kb ov ls outs e p).v.length=ls.length∧Kb ov ls outs e p=Eo ov e p.toNat [] ls:=by
 unfold Kb at h ⊢;by_cases hg:1≤p∧p≤300∧Hk ls outs e.x.length e.u.length e.p.length=true∧Sr e=true
 ·rw [if_pos hg] at h ⊢;refine ⟨hg,?_,rfl⟩;rw [Pv _ _ _ _ _ h];simp
 ·rw [if_neg hg] at h;cases h
theorem Zv {ls:List Ln}{outs:List Int}{x u p:Int}(h:Hk ls outs x u p=true):outs.length≤200∧∀ n∈outs,0≤n∧n<ls.length:=by
 unfold Hk at h;simp only [Bool.and_eq_true,decide_eq_true_eq,List.all_eq_true] at h;refine ⟨h.1.1.2,fun n hn=>?_⟩;have:=h.2 n hn;unfold Cd at this;simpa using this
theorem Aht {S:Int→Prop}{ov:Iv→Nat→Outc Iv}{w:World}{vt ve:Value}{ls:List Ln}{outs:List Int}{e:En}{p:Int}(hv:TpR w vt ls outs)(he:EnR w ve e)(hok:Ke ls)(hle:R5 e)(hn:ls.length≤1000000000)(hno:outs.length≤1000000000)
 (hT:Tab w) (hov:∀ l∈ls,l.op=13→OvC ov) (O:R8 S) (hS:∀ l∈ls,6≤l.op→l.op≤12→S l.op) :
 Calls Tryz.prog 112 #[vt,ve,.int .i64 p] w (Kf (Yl ov ls outs e p) w):=by
 have LC:=hid (fun w1 (k:Kept w w1)=>Afu (p:=p) (hv.kept k) (he.kept k) hok hle hn hno (hT.kept k) hov O hS);clear O hS;obtain ⟨s,o,rfl,hls,hou⟩:=hv;obtain ⟨x0,x1,x2,x3,x4,x5,sx,su,sp,rfl,ht,hx,hu,hp⟩:=he;have HO:=hid hou;obtain ⟨A,c,rfl,hc,-⟩:=hls;obtain ⟨B,d,rfl,-,-⟩:=hou;obtain ⟨AX,cx,rfl,-,-⟩:=hx;obtain ⟨AU,cu,rfl,-,-⟩:=hu;obtain ⟨AP,cp,rfl,-,-⟩:=hp;obtain ⟨W,hW,kW,hb,hb',lW⟩:=Abf w (.slice A ls.length c) (.slice B outs.length d) x0 x1 x2 x3 x4 x5 (.slice AX e.x.length cx) (.slice AU e.u.length cu) (.slice AP e.p.length cp);have HW:=hid hW;have K:=hid kW;have HB:=hid hb;obtain ⟨c0,c1⟩:=Cj hb
 obtain ⟨d0,d1,d2,d3,d4,d5,d6,d7,d8⟩:=Cf hb';clear hok hle hW kW hb hb' hT ht hov;obtain ⟨T,hTI⟩:∃ T,Kb ov ls outs e p=T:=⟨_,rfl⟩;rw [hTI] at LC;obtain ⟨G,hGI⟩:∃ G,Yl ov ls outs e p=G:=⟨_,rfl⟩;rw [hGI];have hgood:T.k=0→outs.length≤200∧(∀ n∈outs,0≤n∧n<ls.length)∧T.v.length=ls.length:=fun hk=>by
  rw [←hTI] at hk ⊢;have h:=Xu hk;have h2:=Zv h.1.2.2.1;exact ⟨h2.1,h2.2,h.2.1⟩
 have HG:=hid hgood;have HE:Hid (G=if T.k=0 then ⟨outs.map fun n=>T.v.getD n.toNat rzI,0⟩ else ⟨[],T.k⟩):=hid (by rw [←hGI,←hTI];rfl);clear hTI hGI hgood;generalize hnl:ls.length=n at *;generalize hnO:outs.length=no at *;have HN:=hid hnl;have HNO:=hid hnO;clear hnl hnO;go_enter Tryz.func112,Tryz.ntmps112;go_upto_region 1 with fail;rw [←HW.out];go_wp2_with fail;refine (LC.out _ K.out).mono ?_;rintro e' w1 ⟨q,v,rfl,hvs⟩;have HVS:=hid hvs;obtain ⟨AV,cv,rfl,hcv,-⟩:=hvs;have K1:=hid (K.out.trans q);obtain ⟨t0,t1⟩:=Cj (Aj HB.out q);clear c0 c1 d0 d1 d2 d3 d4 d5 d6 d7 d8 q HW LC HB;simp only []
 by_cases hk:T.k=0
 ·have gk:(T.k != 0)=false:=by simp [hk]
  obtain ⟨h200,hbel,hvl⟩:=HG.out hk;have HBEL:=hid hbel;have HVL:=hid hvl;have HE2:Hid (G=⟨outs.map fun n=>T.v.getD n.toNat rzI,0⟩):=hid (by have:=HE.out;rwa [if_pos hk] at this);clear hbel hvl HE HG;rw [HVL.out] at hcv;have hkk:=hid hk;clear hk;go_upto_region 5 with fail;go_wp2_with fail
  go_loopw [10,26] (fun v t wr=>∃ (i:Nat) (xs:List Value),i≤no∧t=.int .i64 i∧OwnI wr w1.heap.size v ((outs.take i).map fun n=>T.v.getD n.toNat rzI) xs∧Kept w1 wr) (fun _ t _=>(no-intOf t).toNat)
  case atStart=>exact ⟨0,[],Nat.zero_le _,rfl,OwnI.nil _ _,Below.refl _ _⟩
  case round =>
   obtain ⟨i,xs,hi,rfl,hown,hkr⟩:=hrel;have OW:=hid hown;have KR:=hid hkr;clear hown hkr;by_cases hin:i<no
   ·obtain ⟨z,hz⟩:∃ z,outs[i]?=some z:=⟨_,List.getElem?_eq_getElem (by have:=HNO.out;omega)⟩;obtain ⟨z1,z2⟩:=HBEL.out z (List.mem_of_getElem? hz);obtain ⟨kz,rfl⟩:∃ kz:Nat,z=(kz:Int):=⟨z.toNat,by omega⟩;have hkz:kz<T.v.length:=by have:=HVL.out;omega
    obtain ⟨B',d',ed,-,hB⟩:=(HO.out.kept (K1.out.trans KR.out));injection ed with ed1 ed2 ed3
    subst ed1;obtain ⟨bo,oo',rfl,ho⟩:=hB (by have:=HNO.out;omega);have ho0:=ho i _ hz;obtain ⟨bV,oV,ea,rfl,-,hea,hata⟩:=HVS.out.at hkz;obtain ⟨p0,p1',p2',p3,p4,p5,s0,s1,s2,s3,s4,s5,hIa⟩:=hata.kept KR.out;have IA:=hid hIa;have htk:(outs.take (i+1)).map (fun n=>T.v.getD n.toNat rzI)=(outs.take i).map (fun n=>T.v.getD n.toNat rzI)++[ea]:=by
     rw [List.take_add_one,hz,List.map_append];simp only [Option.toList_some,List.map_cons,List.map_nil,Int.toNat_natCast,List.getD_eq_getElem?_getD,hea,Option.getD_some]
    have HTK:=hid htk;have lrows:((outs.take i).map fun n=>T.v.getD n.toNat rzI).length≤1000:=by rw [List.length_map,List.length_take];omega
    have lbase:=KR.out.size;clear ho hB ed2 ed3 hz z1 z2 hea hata hIa htk
    go_wp2_with (at_builtin;refine Dp rfl (.tmp 30) (.tmp 35) rfl rfl (OW.out.kept (Ad _ _)) (IA.out.kept (Ad _ _)) (Cv _ _ _ _ _ _ _) rfl lrows (Nat.le_trans lbase (by simp)) ?_;intro v' X' OX' gX')
    have K':=hid (OwnI.grown_kept (OW.out.kept (Ad _ _)) (KR.out.trans (Ad _ _)) gX');have OX:=hid OX';clear s0 s1 s2 s3 s4 s5 gX' OX' ho0;go_roundw
    case rel =>
     have h9:=OX.out;rw [←HTK.out] at h9;exact ⟨i+1,_,by omega,by go_num,h9,K'.out⟩
    case measure=>simp only [intOf];omega
   ·obtain rfl:no=i:=by omega
    go_wp2_with fail
    go_ret2
    have h2:=HE2.out;subst h2;refine ⟨K1.out.trans KR.out,_,rfl,?_⟩;have h:=OW.out.ivS;rwa [List.take_of_length_le (by have:=HNO.out;omega)] at h
 ·have gk:(T.k != 0)=true:=by simp [hk]
  have h2:G=⟨[],T.k⟩:=by have:=HE.out;rwa [if_neg hk] at this
  go_wp2_with fail
  go_ret2
  subst h2;exact ⟨K1.out,_,rfl,Hb _⟩
def RetSi (l:List RawI) (w:World) (e:Ending) (w':World):Prop:=Kept w w'∧∃ v,e=.returned v∧IvS w' v l
def CI (w:World) (b o:Nat) (x y z x' y' z':Value):Prop:=w.cell? ⟨b,o,none⟩=some x∧w.cell? ⟨b,o+1,none⟩=some y∧w.cell? ⟨b,o+2,none⟩=some z∧w.cell? ⟨b,o+3,none⟩=some x'∧w.cell? ⟨b,o+4,none⟩=some y'∧w.cell? ⟨b,o+5,none⟩=some z'
theorem CI.kept {w w':World}{b o:Nat}{x y z x' y' z':Value}(h:CI w b o x y z x' y' z')(k:Kept w w'):CI w' b o x y z x' y' z':=by
 obtain ⟨h0,h1,h2,h3,h4,h5⟩:=h;have hb:=Bg h0;exact ⟨(k.cell (p:=⟨b,o,none⟩) hb).trans h0,(k.cell (p:=⟨b,o+1,none⟩) hb).trans h1,(k.cell (p:=⟨b,o+2,none⟩) hb).trans h2,(k.cell (p:=⟨b,o+3,none⟩) hb).trans h3,(k.cell (p:=⟨b,o+4,none⟩) hb).trans h4,(k.cell (p:=⟨b,o+5,none⟩) hb).trans h5⟩
theorem IvS.one {w:World}{v:Value}{a:RawI}(h:IvS w v [a]):∃ b o c A l d A' l' d',v=.slice (some ⟨b,o,none⟩) 1 c∧1≤c∧CI w b o (.bool a.lo.neg) (.slice A l d) (.int .i64 a.lo.e) (.bool a.hi.neg) (.slice A' l' d') (.int .i64 a.hi.e) ∧
 IvR w (.agg #[.bool a.lo.neg,.slice A l d,.int .i64 a.lo.e,.bool a.hi.neg,.slice A' l' d',.int .i64 a.hi.e]) a:=by
 obtain ⟨B,c,rfl,hc,hA⟩:=h;obtain ⟨b,o,rfl,hd⟩:=hA (by simp);obtain ⟨y0,y1,y2,y3,y4,y5,g0,g1,g2,g3,g4,g5,hI⟩:=hd 0 a rfl;simp only [Nat.zero_mul,Nat.add_zero] at g0 g1 g2 g3 g4 g5;have hI2:=hI;obtain ⟨A1,l1,q1,A2,l2,q2,ei,d1,d2⟩:=Ar hI;injection ei with ei;injection ei with ei
 simp only [List.cons.injEq,and_true] at ei;obtain ⟨rfl,rfl,rfl,rfl,rfl,rfl⟩:=ei;exact ⟨b,o,c,A1,l1,q1,A2,l2,q2,rfl,hc,⟨g0,g1,g2,g3,g4,g5⟩,hI2⟩
def OneB (w:World) (v:Value) (r:RawI):Prop:=∃ b x y z x' y' z',v=.slice (some ⟨b,0,none⟩) 1 1∧BlkI w b x y z x' y' z'∧IvR w (.agg #[x,y,z,x',y',z']) r
theorem OneB.kept {w w':World}{v:Value}{r:RawI}(h:OneB w v r)(k:Kept w w'):OneB w' v r:=by
 obtain ⟨b,x,y,z,x',y',z',e,h1,h2⟩:=h;exact ⟨b,x,y,z,x',y',z',e,h1.kept k,h2.kept k⟩
theorem Adf {w:World}{r:RawI}{x y z x' y' z':Value}(h:IvR w (.agg #[x,y,z,x',y',z']) r):OneB (w.alloc (.cells #[x,y,z,x',y',z'] 51)) (.slice (some ⟨w.heap.size,0,none⟩) 1 1) r :=
 ⟨_,_,_,_,_,_,_,rfl,Cv _ _ _ _ _ _ _,h.kept (Ad _ _)⟩
theorem Ai3 (w:World)(cs:Array Value)(T:TypeId)(x y z:Value):∃ W,W=(w.alloc (.cells cs T)).alloc (.cells #[x,y,z] 30)∧Kept w W∧W.heap[w.heap.size]?=some (.cells cs T (0,0))∧Blk W (w.heap.size+1) x y z :=
 ⟨_,rfl,(Ad _ _).trans (Ad _ _),by rw [Below.heap_alloc _ _ _ (by simp)];exact heap_alloc_new _ _,C8 _ _ _ _ _⟩
theorem Ag1 (w:World)(cs:Array Value)(T:TypeId)(x y z x' y' z':Value):∃ W,W=(w.alloc (.cells cs T)).alloc (.cells #[x,y,z,x',y',z'] 51)∧Kept w W∧W.heap[w.heap.size]?=some (.cells cs T (0,0))∧BlkI W (w.heap.size+1) x y z x' y' z':=by
 refine ⟨_,rfl,(Ad _ _).trans (Ad _ _),by rw [Below.heap_alloc _ _ _ (by simp)];exact heap_alloc_new _ _,?_⟩;have:=Cv (w.alloc (.cells cs T)) x y z x' y' z';simpa using this
theorem Aes {w:World}{As Ao Ap:Option Addr}{ns cs no co np cp:Nat}{n:Int}{vx vr:Value}{x b:Iv}{r:Dy}(hx:IvS w vx [x.raw])(hr:DyR w vr r.raw)(ox:x.Ok)(or:r.Ok)(hs:Jr r.raw=1)(hT:Tab w)(hb:Rd x r=⟨b,0⟩) :
 Calls Tryz.prog 121 #[.agg #[.slice As ns cs,.slice Ao no co,.slice Ap np cp,.int .i64 n],vx,vr] w (RetSi [b.raw] w):=by
 obtain ⟨bx,o,c,A,l,d,A',l',d',rfl,hc,hC,hI⟩:=hx.one;obtain ⟨B,j,e,rfl,hr'⟩:=Bu hr;have INF:=hid (fun w1 (k:Kept w w1)=>show Calls Tryz.prog 144 _ w1 (RetIE ⟨b.raw,0⟩ w1) by have h:=Zn (a:=x) (r:=r) (IvR.kept hI k) (hr'.kept k) ox or hs (hT.kept k);rw [hb] at h;exact h);clear hI hr hr' ox or hs hT hb hx;simp only [Iv.raw,Dy.raw] at *;generalize x.lo.neg=n1 at *;generalize x.lo.e=e1 at *;generalize x.hi.neg=n2 at *;generalize x.hi.e=e2 at *;generalize r.neg=n3 at *;generalize r.e=e3 at *;generalize (⟨⟨b.lo.neg,limbs b.lo.m,b.lo.e⟩,⟨b.hi.neg,limbs b.hi.m,b.hi.e⟩⟩:RawI)=rb at *;obtain ⟨W,hW,kW,hB,hD⟩:=Ai3 w #[.slice As ns cs,.slice Ao no co,.slice Ap np cp,.int .i64 n] 83 (.bool n3) (.slice B j e) (.int .i64 e3)
 have HW:=hid hW;have K:=hid kW;have CX:=hid (hC.kept kW);have HD:=hid hD;clear hW kW hC hB hD;go_enter Tryz.func121,Tryz.ntmps121;go_upto_region 3 with fail;rw [←HW.out];refine wp_loop_rounds 3 ?_;rw [rounds_succ];obtain ⟨x0,x1,x2,x3,x4,x5⟩:=CX.out;obtain ⟨Y,hY,kY,hy,lY⟩:=N4 W (.bool n1) (.slice A l d) (.int .i64 e1) (.bool n2) (.slice A' l' d') (.int .i64 e2);have HY:=hid hY;clear hY;go_upto_region 5 with fail;rw [←HY.out];clear x0 x1 x2 x3 x4 x5;replace K:=hid (K.out.trans kY);obtain ⟨-,d0,d1,d2,-⟩:=(HD.out.kept kY).facts;obtain ⟨-,c0,c1,c2,c3,c4,c5⟩:=hy.facts;clear hy;go_wp2_with fail;refine (INF.out _ K.out).mono ?_
 rintro e w2 ⟨q,u,rfl,hu⟩;replace K:=hid (K.out.trans q);clear q d0 d1 d2 c0 c1 c2 c3 c4 c5;simp only [];go_wp2_with fail;refine (P5 hu).mono ?_;rintro e w3 ⟨q,v,rfl,hv⟩;replace K:=hid (K.out.trans q);obtain ⟨A1,l1,q1,A2,l2,q2,rfl,-,-⟩:=Ar hv;have HV:=hid hv;have lb:w.heap.size≤w3.heap.size:=K.out.size;clear q hu hv;simp only []
 go_wp2_with (at_builtin;refine Dp rfl (.tmp 16) (.tmp 23) rfl rfl (OwnI.nil _ w.heap.size) (HV.out.kept (Ad _ _)) (Cv _ _ _ _ _ _ _) rfl (by simp) (Nat.le_trans lb (by simp)) ?_;intro v' X' OX' gX')
 have K':=hid (OwnI.grown_kept (OwnI.nil _ w.heap.size) (K.out.trans (Ad _ _)) gX');have OX:=hid OX'.ivS;clear gX' OX';go_wp2_with fail;rw [rounds_succ];go_wp2_with fail;obtain ⟨A9,c9,rfl,-,-⟩:=OX.out;go_ret;exact ⟨K'.out,_,rfl,OX.out⟩
theorem Aam {S:Int→Prop}{ov:Iv→Nat→Outc Iv}{w:World}{As Ao Ap:Option Addr}{ns cs no co np cp:Nat}{n:Int}{vt vx:Value}{ls:List Ln}{outs:List Int}{t:RawI}{x q r:List RawI}
 (hv:TpR w (.agg #[.slice As ns cs,.slice Ao no co]) ls outs) (hok:Ke ls) (hn:ls.length≤1000000000) (hno:outs.length≤1000000000) (hp:IvS w (.slice Ap np cp) q) (ht:IvR w vt t) (hx:IvS w vx x)
 (hle:R5 ⟨t,x,[],q⟩) (hT:Tab w) (hov:∀ l∈ls,l.op=13→OvC ov) (O:R8 S) (hS:∀ l∈ls,6≤l.op→l.op≤12→S l.op) (hr:Yl ov ls outs ⟨t,x,[],q⟩ n=⟨r,0⟩) :
 Calls Tryz.prog 122 #[.agg #[.slice As ns cs,.slice Ao no co,.slice Ap np cp,.int .i64 n],vt,vx] w (RetSi r w):=by
 obtain ⟨A,l,c,A',l',c',rfl,ht1,ht2⟩:=Ar ht;obtain ⟨X,cx,rfl,hcx,hX⟩:=hx;have EV:=hid (fun w1 (k:Kept w w1)=>show Calls Tryz.prog 112 #[.agg #[.slice As ns cs,.slice Ao no co],.agg #[.bool t.lo.neg,.slice A l c,.int .i64 t.lo.e,.bool t.hi.neg,.slice A' l' c',.int .i64 t.hi.e,.slice X x.length cx,.slice none 0 0,.slice Ap np cp],.int .i64 n] w1 (Kf ⟨r,0⟩ w1) by
  have h:=Aht (p:=n) (hv.kept k) (show EnR w1 (.agg #[.bool t.lo.neg,.slice A l c,.int .i64 t.lo.e,.bool t.hi.neg,.slice A' l' c',.int .i64 t.hi.e,.slice X x.length cx,.slice none 0 0,.slice Ap np cp]) ⟨t,x,[],q⟩ from ⟨_,_,_,_,_,_,_,_,_,rfl,ht.kept k,(show IvS w _ x from ⟨X,cx,rfl,hcx,hX⟩).kept k,Hb _,hp.kept k⟩) hok hle hn hno (hT.kept k) hov O hS;rw [hr] at h;exact h)
 clear hv hok hn hno hp ht hle hT hov O hS hr ht1 ht2 hcx hX;generalize t.lo.neg=n1 at *;generalize t.lo.e=e1 at *;generalize t.hi.neg=n2 at *;generalize t.hi.e=e2 at *;generalize x.length=nx at *;obtain ⟨W,hW,kW,hB,hD⟩:=Ag1 w #[.slice As ns cs,.slice Ao no co,.slice Ap np cp,.int .i64 n] 83 (.bool n1) (.slice A l c) (.int .i64 e1) (.bool n2) (.slice A' l' c') (.int .i64 e2);have HW:=hid hW;have K:=hid kW;have s0:=Ag hB 0 _ rfl;have s1:=Ag hB 1 _ rfl;have s2:=Ag hB 2 _ rfl;have s3:=Ag hB 3 _ rfl;obtain ⟨-,d0,d1,d2,d3,d4,d5⟩:=hD.facts;clear hW kW hB hD
 go_enter Tryz.func122,Tryz.ntmps122;go_upto_region 1 with fail;rw [←HW.out];go_wp2_with fail;refine (EV.out _ K.out).mono ?_;rintro e w2 ⟨q,v,rfl,hv⟩;replace K:=hid (K.out.trans q);have HV:=hid hv;clear q s0 s1 s2 s3 d0 d1 d2 d3 d4 d5 hv;simp only [];go_wp2_with fail;refine rowF_c.mono ?_;rintro e w3 ⟨q,hq⟩;rcases hq with ⟨-,v',rfl,rfl⟩ | ⟨h,-⟩
 ·have hv:=HV.out.kept q;obtain ⟨A9,c9,rfl,-,-⟩:=(show IvS w3 _ r from hv);simp only [];go_wp2_with fail;go_ret;exact ⟨K.out.trans q,_,rfl,hv⟩
 ·exact absurd rfl h
theorem Px {w:World}{As Ao Ap:Option Addr}{ns cs no co np cp:Nat}{p:Nat}{vx vh vf:Value}{x h f m y:Iv}(hx:IvS w vx [x.raw])(hh:IvC w vh h)(hf:IvS w vf [f.raw])(ox:x.Ok)(oh:h.Ok)(of:f.Ok)(om:m.Ok)(hT:Tab w)(p1:1≤p)(p2:p≤2000)(hm:Fs h f p=⟨m,0⟩)(hy:Gf x m p=⟨y,0⟩) :
 Calls Tryz.prog 123 #[.agg #[.slice As ns cs,.slice Ao no co,.slice Ap np cp,.int .i64 (p:Int)],vx,vh,vf] w (RetSi [y.raw] w):=by
 obtain ⟨bx,o,c,A,l,d,A',l',d',rfl,hc,hC,hI⟩:=hx.one;obtain ⟨bf,of',cf,D,i,g,D',i',g',rfl,hcf,hCf,hIf⟩:=hf.one;obtain ⟨B,j,e,B',j',e',rfl,-,-⟩:=Cc hh;have MU:=hid (fun w1 (k:Kept w w1)=>show Calls Tryz.prog 142 _ w1 (RetIE ⟨m.raw,0⟩ w1) by have h:=Aa1 (a:=h) (b:=f) (IvR.kept hh k) (IvR.kept hIf k) oh of (hT.kept k) p1 p2;rw [hm] at h;exact h);have FU:=hid (fun w1 (k:Kept w w1) u (hu:IvR w1 u m.raw)=>Wu (a:=x) (b:=m) (IvR.kept hI k) hu ox om (hT.kept k) p1 p2 hy);clear hI hIf hh hx hf ox oh of om hT p1 p2 hm hy;simp only [Iv.raw,Dy.raw] at *;generalize x.lo.neg=n1 at *;generalize x.lo.e=e1 at *
 generalize x.hi.neg=n2 at *;generalize x.hi.e=e2 at *;generalize h.lo.neg=n3 at *;generalize h.lo.e=e3 at *;generalize h.hi.neg=n4 at *;generalize h.hi.e=e4 at *;generalize f.lo.neg=n5 at *;generalize f.lo.e=e5 at *;generalize f.hi.neg=n6 at *;generalize f.hi.e=e6 at *;generalize (⟨⟨m.lo.neg,limbs m.lo.m,m.lo.e⟩,⟨m.hi.neg,limbs m.hi.m,m.hi.e⟩⟩:RawI)=rm at *;generalize (⟨⟨y.lo.neg,limbs y.lo.m,y.lo.e⟩,⟨y.hi.neg,limbs y.hi.m,y.hi.e⟩⟩:RawI)=ry at *;obtain ⟨W,hW,kW,hB,hD⟩:=Ag1 w #[.slice As ns cs,.slice Ao no co,.slice Ap np cp,.int .i64 (p:Int)] 83 (.bool n3) (.slice B j e) (.int .i64 e3) (.bool n4) (.slice B' j' e') (.int .i64 e4)
 have HW:=hid hW;have K:=hid kW;have CX:=hid (hC.kept kW);have CF:=hid (hCf.kept kW);have HB:=hid hB;have HD:=hid hD;clear hW kW hC hCf hB hD;go_enter Tryz.func123,Tryz.ntmps123;go_upto_region 3 with fail;rw [←HW.out];refine wp_loop_rounds 3 ?_;rw [rounds_succ];obtain ⟨x0,x1,x2,x3,x4,x5⟩:=CX.out;obtain ⟨Y,hY,kY,hy,lY⟩:=N4 W (.bool n1) (.slice A l d) (.int .i64 e1) (.bool n2) (.slice A' l' d') (.int .i64 e2);have HY:=hid hY;clear hY;go_upto_region 5 with fail;rw [←HY.out];clear x0 x1 x2 x3 x4 x5;replace K:=hid (K.out.trans kY);have HB':=hid (Aj HB.out kY);have HD':=hid (HD.out.kept kY)
 have HYb:=hid hy;have CFY:=hid (CF.out.kept kY);clear hy kY
 refine Aac 17 ([(vE (.slice none 0 0)),(vE (.agg #[.bool n1,.slice A l d,.int .i64 e1,.bool n2,.slice A' l' d',.int .i64 e2])),(vE (.agg #[.bool n3,.slice B j e,.int .i64 e3,.bool n4,.slice B' j' e',.int .i64 e4])),(vE (.slice (some ⟨bf,of',none⟩) 1 cf)),(vE (.int .i64 0)),(vE (.pointer (some ⟨bf,of',none⟩))),(vE (.agg #[.bool n5,.slice D i g,.int .i64 e5,.bool n6,.slice D' i' g',.int .i64 e6])),(vP w.heap.size 3),(vE (.int .i64 (p:Int))),(fun v wv=>∃ d,v=.tuple #[d,.int .i64 (Outc.mk rm 0).k]∧IvR wv d (Outc.mk rm 0).v),(fun v wv=>IvR wv v (Outc.mk rm 0).v),(vE (.int .i64 (Outc.mk rm 0).k)),(fun v wv=>IvR wv v rm),(vP w.heap.size 3),(vE (.int .i64 (p:Int))),(fun v wv=>IvR wv v ry),(fun v wv=>OneB wv v ry)])
  (hM:=⟨⟨mE,mE,mE,mE,mE,mE,mE,mE,mE,fun v w w' k h=>by obtain ⟨d,h1,h2⟩:=h;exact ⟨d,h1,h2.kept k⟩,fun v w w' k h=>by first | exact h | exact h.kept k | exact ⟨h.1,h.2.kept k⟩,mE,fun v w w' k h=>by first | exact h | exact h.kept k | exact ⟨h.1,h.2.kept k⟩,mE,mE,fun v w w' k h=>by first | exact h | exact h.kept k | exact ⟨h.1,h.2.kept k⟩,fun v w w' k h=>h.kept k,trivial⟩⟩) ⟨
    (gq 9),(gql 11 fun _ k=>c6 HYb.out k),(gql 6 fun _ k=>c6 HD'.out k),(gq 3),(gq 10),(gvv 3 22 4 23),(fun aF wF F=>by have s24:=F.v 5 24;exact sw (by obtain ⟨g0,g1,g2,g3,g4,g5⟩:=CFY.out.kept F.kept;go_simp) rfl),(gq 4),(gvl 7 26 fun _ k=>Ai HB'.out k 3 _ rfl),(fun aF wF F=>by have s21:=F.v 2 21;have s25:=F.v 6 25;have s27:=F.v 8 27;exact sP (MU.out _ (K.out.trans F.kept)) fun _ _ h=>h),(fun aF wF F=>by have s28:=F.p 9 28;obtain ⟨dd,ee,hh⟩:=s28;exact sv hh),(fun aF wF F=>by have s28:=F.p 9 28;exact sw (by obtain ⟨dd,ee,hh⟩:=s28;go_simp) rfl),(fun aF wF F=>by have s29:=F.p 10 29;have s30:=F.v 11 30;exact sI (P5 s29) fun _ _ h=>h),(gq 4),(gvl 13 32 fun _ k=>Ai HB'.out k 3 _ rfl),(fun aF wF F=>by have s20:=F.v 1 20;have s31:=F.p 12 31;have s33:=F.v 14 33;exact sI (FU.out _ (K.out.trans F.kept) _ s31) fun _ _ h=>h),(fun aF wF F=>by have s34:=F.p 15 34;obtain ⟨A1,l1,d1,A2,l2,d2,e9,h9,g9⟩:=Ar s34;simp only [Array.getD_eq_getD_getElem?] at e9;exact sNa (Adf (r:=ry) ⟨_,_,_,_,_,_,rfl,h9,g9⟩)),
    trivial⟩ ?_
 intro u w1 k1 hu;have p28:=hp hu 9;have p29:=hp hu 10;have p31:=hp hu 12;have p34:=hp hu 15;have p35:=hp hu 16;simp only [Bl,Au,if_true,Act.put,zlA,zlB,zlC,zlD,zlE,zlF,zlG,hv hu 0,hv hu 1,hv hu 2,hv hu 3,hv hu 4,hv hu 5,hv hu 6,hv hu 7,hv hu 8,hv hu 11,hv hu 13,hv hu 14];clear hu;generalize u 9=v28,u 10=v29,u 12=v31,u 15=v34,u 16=v35 at *;obtain ⟨b1,x0,x1,x2,x3,x4,x5,e81,hb1,hI⟩:=p35;subst e81;have own1:=OwnI.nil w1 w.heap.size;have hW9:w.heap.size≤w1.heap.size:=(K.out.trans k1).size;refine ⟨?_,.inl (by kernel_rfl)⟩;refine Ni (.tmp 19) (.tmp 35) ?ho (v:=.slice none 0 0) ?hs own1 hI hb1 ?hx (by simp) hW9 ?h
 case ho=>rfl
 case hs=>first | rfl | (go_simp;done)
 case hx=>first | rfl | (go_simp;done)
 intro v' X OX gX;have KX:=hid (OwnI.grown_kept own1 (K.out.trans k1) gX);have OXX:=hid OX.ivS;clear own1 hI hb1 OX gX k1 hW9;go_simp;go_wp2_with fail;rw [rounds_succ];go_wp2_with fail;obtain ⟨A9,c9,rfl,-,-⟩:=OXX.out;go_ret;exact ⟨KX.out,_,rfl,OXX.out⟩
theorem Za {w:World}{v u:Value}{a b:Iv}(hv:IvS w v [a.raw])(hu:IvS w u [b.raw])(oa:a.Ok)(ob:b.Ok) :
 Calls Tryz.prog 124 #[v,u] w (RetK (.bool true) w):=by
 have C1:=hid (fun w1 (k:Kept w w1)=>show Calls Tryz.prog 62 #[v] w1 (RetK (.bool true) w1) by
  have h:=Ml (hv.kept k) (by simp) (by intro y hy;simp only [List.mem_singleton] at hy;subst hy;exact Ez oa);simpa [Ff oa] using h)
 have C2:=hid (fun w1 (k:Kept w w1)=>show Calls Tryz.prog 62 #[u] w1 (RetK (.bool true) w1) by
  have h:=Ml (hu.kept k) (by simp) (by intro y hy;simp only [List.mem_singleton] at hy;subst hy;exact Ez ob);simpa [Ff ob] using h)
 obtain ⟨A,c,rfl,-,-⟩:=hv;obtain ⟨B,d,rfl,-,-⟩:=hu;simp only [List.length_singleton] at C1 C2 ⊢;clear oa ob;go_enter Tryz.func124,Tryz.ntmps124;go_wp2_with fail;refine (C1.out _ (Below.refl _ _)).mono ?_;rintro e w1 ⟨rfl,q⟩;have K:=hid q;clear q;simp only [];go_wp2_with fail;refine (C2.out _ K.out).mono ?_;rintro e w2 ⟨rfl,q⟩;replace K:=hid (K.out.trans q);clear q;simp only [];go_wp2_with fail;go_ret;exact ⟨rfl,K.out⟩
theorem Abq {w:World}{v u:Value}{a b:Iv}(hv:IvS w v [a.raw])(hu:IvS w u [b.raw])(oa:a.Ok)(ob:b.Ok) :
 Calls Tryz.prog 146 #[v,u,.func (.func 147) #[] #[]] w (RetK (.bool (Fk a b)) w):=by
 obtain ⟨b1,o1,c1,A,l,c,A',l',c',rfl,-,hC,hI⟩:=hv.one;obtain ⟨b2,o2,c2,B,j,e,B',j',e',rfl,-,hD,hJ⟩:=hu.one;have INS:=hid (fun w1 (k:Kept w w1)=>Acg (a:=a) (b:=b) (IvR.kept hI k) (IvR.kept hJ k) oa ob);have CA:=hid hC;have CB:=hid hD;clear hv hu oa ob hC hD hI hJ;simp only [Iv.raw,Dy.raw] at *;generalize Fk a b=rb at *;generalize a.lo.neg=n1 at *;generalize a.lo.e=e1 at *;generalize a.hi.neg=n2 at *;generalize a.hi.e=e2 at *;generalize b.lo.neg=n3 at *;generalize b.lo.e=e3 at *;generalize b.hi.neg=n4 at *;generalize b.hi.e=e4 at *;go_enter Tryz.func146,Tryz.ntmps146;go_upto_region 4 with fail
 refine wp_loop_rounds 3 ?_;rw [rounds_succ];obtain ⟨x0,x1,x2,x3,x4,x5⟩:=CA.out;obtain ⟨Y,hY,kY,hy,lY⟩:=N4 w (.bool n1) (.slice A l c) (.int .i64 e1) (.bool n2) (.slice A' l' c') (.int .i64 e2);have HY:=hid hY;clear hY;go_upto_region 6 with fail;rw [←HY.out];clear x0 x1 x2 x3 x4 x5;obtain ⟨x0,x1,x2,x3,x4,x5⟩:=CB.out.kept kY;obtain ⟨Z,hZ,kZ,hz,lZ⟩:=N4 Y (.bool n3) (.slice B j e) (.int .i64 e3) (.bool n4) (.slice B' j' e') (.int .i64 e4);have HZ:=hid hZ;clear hZ;go_upto_region 7 with fail;rw [←HZ.out];clear x0 x1 x2 x3 x4 x5;have K:=hid (kY.trans kZ);obtain ⟨-,c0,c1,c2,c3,c4,c5⟩:=(hy.kept kZ).facts
 obtain ⟨-,d0,d1,d2,d3,d4,d5⟩:=hz.facts;clear hy hz kY kZ HY HZ;go_wp2_with fail;refine (INS.out _ K.out).mono ?_;rintro e w2 ⟨rfl,q⟩;replace K:=hid (K.out.trans q);clear q c0 c1 c2 c3 c4 c5 d0 d1 d2 d3 d4 d5;simp only [];cases rb
 ·go_wp2_with fail;go_ret;exact ⟨rfl,K.out⟩
 ·go_wp2_with fail;rw [rounds_succ];go_wp2_with fail;go_ret;exact ⟨rfl,K.out⟩
theorem Wz {w:World}{v u:Value}{a b:Iv}(hv:IvS w v [a.raw])(hu:IvS w u [b.raw])(oa:a.Ok)(ob:b.Ok) :
 Calls Tryz.prog 110 #[v,u] w (RetK (.bool (Fk a b)) w):=by
 have C1:=hid (fun w1 (k:Kept w w1)=>Za (hv.kept k) (hu.kept k) oa ob);have C2:=hid (fun w1 (k:Kept w w1)=>Abq (hv.kept k) (hu.kept k) oa ob);obtain ⟨A,c,rfl,-,-⟩:=hv;obtain ⟨B,d,rfl,-,-⟩:=hu;simp only [List.length_singleton] at C1 C2 ⊢;generalize Fk a b=rb at *;clear oa ob;go_enter Tryz.func110,Tryz.ntmps110;go_wp2_with fail;refine (C1.out _ (Below.refl _ _)).mono ?_;rintro e w1 ⟨rfl,q⟩;have K:=hid q;clear q;simp only [];go_wp2_with fail;refine (C2.out _ K.out).mono ?_;rintro e w2 ⟨rfl,q⟩;replace K:=hid (K.out.trans q);clear q;simp only [];go_wp2_with fail;go_ret;exact ⟨rfl,K.out⟩
theorem Yj {w:World}{G9:Nat}{v u:Value}{a b:Iv}{r:RawI}(hv:IvS w v [a.raw])(hu:IvS w u [b.raw])(oa:a.Ok)(ob:b.Ok)
 (hF:∀ w1,Kept w w1→∀ x y,IvR w1 x a.raw→IvR w1 y b.raw→Calls Tryz.prog G9 #[x,y] w1 (RetIE ⟨r,0⟩ w1)) (hk:∀ w x y,(callFunc G9 #[x,y]).run Tryz.prog w=.ok (.enter G9 #[x,y]) w) :
 Calls Tryz.prog 86 #[v,u,.func (.func G9) #[] #[]] w (Kf ⟨[r],0⟩ w):=by
 have C1:=hid (fun w1 (k:Kept w w1)=>Za (hv.kept k) (hu.kept k) oa ob);obtain ⟨b1,o1,c1,A,l,c,A',l',c',rfl,-,hC,hI⟩:=hv.one;obtain ⟨b2,o2,c2,B,j,e,B',j',e',rfl,-,hD,hJ⟩:=hu.one;have CF:=hid (fun w1 (k:Kept w w1)=>hF w1 k _ _ (hI.kept k) (hJ.kept k));have CA:=hid hC;have CB:=hid hD;clear hv hu oa ob hC hD hI hJ hF;simp only [Iv.raw,Dy.raw] at *;generalize a.lo.neg=n1 at *;generalize a.lo.e=e1 at *;generalize a.hi.neg=n2 at *;generalize a.hi.e=e2 at *;generalize b.lo.neg=n3 at *;generalize b.lo.e=e3 at *;generalize b.hi.neg=n4 at *;generalize b.hi.e=e4 at *;go_enter Tryz.func86,Tryz.ntmps86
 go_wp2_with fail;refine (C1.out _ (Below.refl _ _)).mono ?_;rintro e w1 ⟨rfl,q⟩;have K:=hid q;clear q;simp only [];go_upto_region 5 with fail;refine wp_loop_rounds 3 ?_;rw [rounds_succ];go_upto_region 7 with fail;have lw1:=K.out.size;have CAY:=hid (CA.out.kept K.out);have CBY:=hid (CB.out.kept K.out)
 refine Na (e:=12) (m:=14) (V:=VL [(vE (.func (.func G9) #[] #[])),(vE (.slice (some ⟨b1,o1,none⟩) 1 c1)),(vE (.int .i64 0)),(vE (.pointer (some ⟨b1,o1,none⟩))),(vE (.agg #[.bool n1,.slice A l c,.int .i64 e1,.bool n2,.slice A' l' c',.int .i64 e2])),(vE (.slice (some ⟨b2,o2,none⟩) 1 c2)),(vE (.int .i64 0)),(vE (.pointer (some ⟨b2,o2,none⟩))),(vE (.agg #[.bool n3,.slice B j e,.int .i64 e3,.bool n4,.slice B' j' e',.int .i64 e4])),(fun v wv=>∃ d,v=.tuple #[d,.int .i64 (Outc.mk r 0).k]∧IvR wv d (Outc.mk r 0).v),(fun v wv=>∃ d,v=.tuple #[d,.int .i64 (Outc.mk r 0).k]∧IvR wv d (Outc.mk r 0).v),(fun v wv=>IvR wv v (Outc.mk r 0).v),(vE (.int .i64 (Outc.mk r 0).k)),(fun v wv=>∃ b,v=.pointer (some ⟨b,0,none⟩)∧w1.heap.size≤b∧BlkI wv b (.bool false) (.slice none 0 0) (.int .i64 0) (.bool false) (.slice none 0 0) (.int .i64 0))])
  (by kernel_rfl) rfl rfl rfl rfl rfl rfl rfl (by decide) (by kernel_rfl) (by kernel_rfl) (by kernel_rfl) (by kernel_rfl) (by kernel_rfl) (by kernel_rfl) (Hc _ ⟨mE,mE,mE,mE,mE,mE,mE,mE,mE,fun v w w' k h=>by obtain ⟨d,h1,h2⟩:=h;exact ⟨d,h1,h2.kept k⟩,fun v w w' k h=>by obtain ⟨d,h1,h2⟩:=h;exact ⟨d,h1,h2.kept k⟩,fun v w w' k h=>by first | exact h | exact h.kept k | exact ⟨h.1,h.2.kept k⟩,mE,fun v w w' k h=>by obtain ⟨b,h1,h2,h3⟩:=h;exact ⟨b,h1,h2,h3.kept k⟩,trivial⟩) (Ho ⟨
    (fun aF wF F=>by have s2:=F.q 2 (.func (.func G9) #[] #[]);exact sv rfl),(fun aF wF F=>by have s0:=F.q 0 (.slice (some ⟨b1,o1,none⟩) 1 c1);exact sv rfl),(fun aF wF F=>by have s9:=F.q 9 (.int .i64 0);exact sv rfl),(fun aF wF F=>by have s23:=F.v 1 23;have s24:=F.v 2 24;exact sv rfl),(fun aF wF F=>by have s25:=F.v 3 25;exact sw (by obtain ⟨g0,g1,g2,g3,g4,g5⟩:=CAY.out.kept F.kept;go_simp) rfl),(fun aF wF F=>by have s1:=F.q 1 (.slice (some ⟨b2,o2,none⟩) 1 c2);exact sv rfl),(fun aF wF F=>by have s9:=F.q 9 (.int .i64 0);exact sv rfl),(fun aF wF F=>by have s27:=F.v 5 27;have s28:=F.v 6 28;exact sv rfl),(fun aF wF F=>by have s29:=F.v 7 29;exact sw (by obtain ⟨g0,g1,g2,g3,g4,g5⟩:=CBY.out.kept F.kept;go_simp) rfl),(fun aF wF F=>by have s22:=F.v 0 22;have s26:=F.v 4 26;have s30:=F.v 8 30;exact sP (CF.out _ (K.out.trans F.kept)) fun _ _ h=>h),(fun aF wF F=>by have s31:=F.p 9 31;exact sx s31),(fun aF wF F=>by have s21:=F.p 10 21;obtain ⟨dd,ee,hh⟩:=s21;exact sv hh),(fun aF wF F=>by have s21:=F.p 10 21;exact sw (by obtain ⟨dd,ee,hh⟩:=s21;go_simp) rfl),(fun aF wF F=>by exact sN ⟨_,rfl,F.kept.size,Dv _⟩),
    trivial⟩) ?_
 intro u w2 k2 hu;have e22:u 0=(.func (.func G9) #[] #[]):=hu 0 (by decide) (by decide);have e23:u 1=(.slice (some ⟨b1,o1,none⟩) 1 c1):=hu 1 (by decide) (by decide);have e24:u 2=(.int .i64 0):=hu 2 (by decide) (by decide);have e25:u 3=(.pointer (some ⟨b1,o1,none⟩)):=hu 3 (by decide) (by decide);have e26:u 4=(.agg #[.bool n1,.slice A l c,.int .i64 e1,.bool n2,.slice A' l' c',.int .i64 e2]):=hu 4 (by decide) (by decide);have e27:u 5=(.slice (some ⟨b2,o2,none⟩) 1 c2):=hu 5 (by decide) (by decide);have e28:u 6=(.int .i64 0):=hu 6 (by decide) (by decide);have e29:u 7=(.pointer (some ⟨b2,o2,none⟩)):=hu 7 (by decide) (by decide)
 have e30:u 8=(.agg #[.bool n3,.slice B j e,.int .i64 e3,.bool n4,.slice B' j' e',.int .i64 e4]):=hu 8 (by decide) (by decide);have p31:=hu 9 (by decide) (by decide);obtain ⟨v31,e31⟩:∃ v,u 9=v:=⟨_,rfl⟩;rw [e31] at p31
 try simp only [VL,List.getD_cons_zero,List.getD_cons_succ] at p31
 have p21:=hu 10 (by decide) (by decide);obtain ⟨v21,e21⟩:∃ v,u 10=v:=⟨_,rfl⟩;rw [e21] at p21
 try simp only [VL,List.getD_cons_zero,List.getD_cons_succ] at p21
 have p32:=hu 11 (by decide) (by decide);obtain ⟨v32,e32⟩:∃ v,u 11=v:=⟨_,rfl⟩;rw [e32] at p32
 try simp only [VL,List.getD_cons_zero,List.getD_cons_succ] at p32
 have p10:=hu 13 (by decide) (by decide);obtain ⟨v10,e10⟩:∃ v,u 13=v:=⟨_,rfl⟩;rw [e10] at p10
 try simp only [VL,List.getD_cons_zero,List.getD_cons_succ] at p10
 clear hu;obtain ⟨b10,rfl,hb10,hB10⟩:=p10;obtain ⟨A5,l5,c5,A6,l6,c6,rfl,h5,h6⟩:=Ar p32;obtain ⟨-,r0,r1,r2,r3,r4,r5⟩:=hB10.facts;obtain ⟨f0,f1,f2,f3,f4,f5⟩:=hB10.free;clear p31 p32;obtain ⟨d28,rfl,-⟩:=p21;apply dup
 ·intro G he;simp only [VL,vE,List.getD_cons_zero,List.getD_cons_succ] at he;simp only [if_true,Bl,Au,Act.put,List.setIfInBounds_toArray,List.set_cons_zero,List.set_cons_succ,List.getElem?_toArray,List.getElem?_cons_zero,List.getElem?_cons_succ,Option.bind_some,e22,e23,e24,e25,e26,e27,e28,e29,e30,e31,e21,e32,e10,he];go_simp;exact G
 ·intro G;simp only [Bl,Au,Act.put,List.setIfInBounds_toArray,List.set_cons_zero,List.set_cons_succ,List.getElem?_toArray,List.getElem?_cons_zero,List.getElem?_cons_succ,Option.bind_some,e22,e23,e24,e25,e26,e27,e28,e29,e30,e31,e21,e32,e10];go_simp;exact G
 clear e22 e23 e24 e25 e26 e27 e28 e29 e30 e31 e21 e32 e10;go_upto_region 8 with fail;change Code.wp _ _ _ _ (ivW w2 b10 _ _ _ _ _ _);have KX:=hid (B8 (x:=.bool r.lo.neg) (y:=.slice A5 l5 c5) (z:=.int .i64 r.lo.e) (x':=.bool r.hi.neg) (y':=.slice A6 l6 c6) (z':=.int .i64 r.hi.e) (K.out.trans k2) (show w.heap.size≤b10 by have:=K.out.size;omega));have E5:=hid (h5.ivW hB10 (.bool r.lo.neg) (.slice A5 l5 c5) (.int .i64 r.lo.e) (.bool r.hi.neg) (.slice A6 l6 c6) (.int .i64 r.hi.e));have E6:=hid (h6.ivW hB10 (.bool r.lo.neg) (.slice A5 l5 c5) (.int .i64 r.lo.e) (.bool r.hi.neg) (.slice A6 l6 c6) (.int .i64 r.hi.e))
 have X7:=hid (hB10.laid (.bool r.lo.neg) (.slice A5 l5 c5) (.int .i64 r.lo.e) (.bool r.hi.neg) (.slice A6 l6 c6) (.int .i64 r.hi.e));clear h5 h6 hB10 hb10 k2 r0 r1 r2 r3 r4 r5 f0 f1 f2 f3 f4 f5 K;generalize ivW w2 b10 (.bool r.lo.neg) (.slice A5 l5 c5) (.int .i64 r.lo.e) (.bool r.hi.neg) (.slice A6 l6 c6) (.int .i64 r.hi.e)=X at *;obtain ⟨-,r0,r1,r2,r3,r4,r5⟩:=X7.out.facts;have IV:=hid (show IvR X (.agg #[.bool r.lo.neg,.slice A5 l5 c5,.int .i64 r.lo.e,.bool r.hi.neg,.slice A6 l6 c6,.int .i64 r.hi.e]) r from ⟨_,_,_,_,_,_,rfl,E5.out,E6.out⟩);have lb:w.heap.size≤X.heap.size:=KX.out.size;clear E5 E6 X7
 go_wp2_with (at_builtin;refine Dp rfl (.tmp 37) (.tmp 39) rfl rfl (OwnI.nil _ w.heap.size) (IV.out.kept (Ad _ _)) (Cv _ _ _ _ _ _ _) rfl (by simp) (Nat.le_trans lb (by simp)) ?_;intro v' X' OX' gX')
 have K':=hid (OwnI.grown_kept (OwnI.nil _ w.heap.size) (KX.out.trans (Ad _ _)) gX');have OX:=hid OX'.ivS;clear gX' OX' r0 r1 r2 r3 r4 r5;go_wp2_with fail;rw [rounds_succ];go_wp2_with fail;obtain ⟨A9,c9,rfl,-,-⟩:=OX.out
 go_ret2
 exact ⟨K'.out,_,rfl,OX.out⟩
theorem Acb {w:World}{v u:Value}{a b:Iv}(hv:IvS w v [a.raw])(hu:IvS w u [b.raw])(oa:a.Ok)(ob:b.Ok) :
 Calls Tryz.prog 49 #[v,u] w (Kf ⟨[(Un a b).raw],0⟩ w):=by
 have C1:=hid (Yj (G9:=87) (r:=(Un a b).raw) hv hu oa ob (fun w1 k x y h1 h2=>Ahz h1 h2 oa ob) (fun _ _ _=>rfl));obtain ⟨A,c,rfl,-,-⟩:=hv;obtain ⟨B,d,rfl,-,-⟩:=hu;simp only [List.length_singleton] at C1 ⊢;clear oa ob;go_enter Tryz.func49,Tryz.ntmps49;go_wp2_with fail;refine C1.out.mono ?_;rintro e w1 ⟨q,v,rfl,hv⟩;have K:=hid q;have HV:=hid hv;obtain ⟨A9,c9,rfl,-,-⟩:=hv;clear q;simp only [];go_wp2_with fail
 go_ret2
 exact ⟨K.out,_,rfl,HV.out⟩
theorem Uu {w:World}{v u:Value}{a b:Iv}(hv:IvS w v [a.raw])(hu:IvS w u [b.raw])(oa:a.Ok)(ob:b.Ok)(hm:(Gs a b).Ok) :
 Calls Tryz.prog 159 #[v,u] w (Kf ⟨[(Gs a b).raw],0⟩ w):=by
 have C1:=hid (Yj (G9:=190) (r:=(Gs a b).raw) hv hu oa ob (fun w1 k x y h1 h2=>Ah6 h1 h2 oa ob hm) (fun _ _ _=>rfl));obtain ⟨A,c,rfl,-,-⟩:=hv;obtain ⟨B,d,rfl,-,-⟩:=hu;simp only [List.length_singleton] at C1 ⊢;clear oa ob hm;go_enter Tryz.func159,Tryz.ntmps159;go_wp2_with fail;refine C1.out.mono ?_;rintro e w1 ⟨q,v,rfl,hv⟩;have K:=hid q;have HV:=hid hv;obtain ⟨A9,c9,rfl,-,-⟩:=hv;clear q;simp only [];go_wp2_with fail
 go_ret2
 exact ⟨K.out,_,rfl,HV.out⟩
structure SysF (S:Int→Prop) (ov:Iv→Nat→Outc Iv) (w:World) (As:Option Addr) (ns cs:Nat) (Ao:Option Addr) (no co:Nat) (Ap:Option Addr) (np cp:Nat) (p:Nat) (ls:List Ln) (outs:List Int) (q:List RawI):Prop where
 hv:TpR w (.agg #[.slice As ns cs,.slice Ao no co]) ls outs
 hok:Ke ls
 hn:ls.length≤200
 hno:outs.length≤200
 hp:IvS w (.slice Ap np cp) q
 lq:∀ a∈q,a.lens 17592186044416
 nq:q.length≤1000000000
 hT:Tab w
 hov:∀ l∈ls,l.op=13→OvC ov
 O:R8 S
 hS:∀ l∈ls,6≤l.op→l.op≤12→S l.op
 p1:1≤p
 p2:p≤300
 nil:q=[]→Ap=none∧np=0∧cp=0
section
variable {S:Int→Prop} {ov:Iv→Nat→Outc Iv} {w:World} {As Ao Ap:Option Addr} {ns cs no co np cp p:Nat} {ls:List Ln} {outs:List Int} {q:List RawI}
theorem SysF.kept {w':World}(h:SysF S ov w As ns cs Ao no co Ap np cp p ls outs q)(k:Kept w w'):SysF S ov w' As ns cs Ao no co Ap np cp p ls outs q :=
 ⟨h.hv.kept k,h.hok,h.hn,h.hno,h.hp.kept k,h.lq,h.nq,h.hT.kept k,h.hov,h.O,h.hS,h.p1,h.p2,h.nil⟩
def SpF (ov:Iv→Nat→Outc Iv) (ls:List Ln) (outs:List Int) (q:List RawI) (p:Nat) (t x f:Iv):Prop:=Yl ov ls outs ⟨t.raw,[x.raw],[],q⟩ (p:Int)=⟨[f.raw],0⟩
theorem SysF.speeds {t x f:Iv}{vt vx:Value}(h:SysF S ov w As ns cs Ao no co Ap np cp p ls outs q)(ht:IvC w vt t)(hx:IvS w vx [x.raw])(ot:t.Ok)(ox:x.Ok)(hs:SpF ov ls outs q p t x f) :
 Calls Tryz.prog 122 #[.agg #[.slice As ns cs,.slice Ao no co,.slice Ap np cp,.int .i64 (p:Int)],vt,vx] w (RetSi [f.raw] w) :=
 Aam h.hv h.hok (Nat.le_trans h.hn (by decide)) (Nat.le_trans h.hno (by decide)) h.hp ht hx ⟨Ez ot,(by intro y hy;simp only [List.mem_singleton] at hy;subst hy;exact Ez ox),(by intro y hy;cases hy),h.lq,by simp,by simp,h.nq⟩ h.hT h.hov h.O h.hS hs
theorem Q6 (w:World)(o0 o1 o2 o3:Array Value)(T0 T1 T2 T3:TypeId):∃ W,W=(((w.alloc (.cells o0 T0)).alloc (.cells o1 T1)).alloc (.cells o2 T2)).alloc (.cells o3 T3)∧Kept w W ∧
 W.heap[w.heap.size]?=some (.cells o0 T0 (0,0))∧W.heap[w.heap.size+1]?=some (.cells o1 T1 (0,0))∧W.heap[w.heap.size+1+1]?=some (.cells o2 T2 (0,0))∧W.heap[w.heap.size+1+1+1]?=some (.cells o3 T3 (0,0))∧W.heap.size=w.heap.size+1+1+1+1:=by
 have st:∀ (v:World) (n:Nat) (c:Array Value) (T:TypeId),v.heap.size=n→(v.alloc (.cells c T)).heap[n]?=some (.cells c T (0,0))∧(v.alloc (.cells c T)).heap.size=n+1∧Kept v (v.alloc (.cells c T)):=by
  intro v n c T h;subst h;exact ⟨heap_alloc_new _ _,by simp,Ad _ _⟩
 obtain ⟨a0,z0,k0⟩:=st w _ o0 T0 rfl;obtain ⟨a1,z1,k1⟩:=st _ _ o1 T1 z0;obtain ⟨a2,z2,k2⟩:=st _ _ o2 T2 z1;obtain ⟨a3,z3,k3⟩:=st _ _ o3 T3 z2;exact ⟨_,rfl,((k0.trans k1).trans k2).trans k3,Aj a0 ((k1.trans k2).trans k3),Aj a1 (k2.trans k3),Aj a2 k3,a3,z3⟩
theorem RetSi.good {l:List RawI}{w w':World}{e:Ending}(h:RetSi l w e w'):Ex (fun u w=>IvS w u l) w e w':=by
 obtain ⟨k,v,he,hl⟩:=h;exact ⟨v,he,k,hl⟩
def RetSB (l:List RawI) (b:Bool) (w:World) (e:Ending) (w':World):Prop:=Kept w w'∧∃ v,e=.returned (.tuple #[v,.bool b])∧IvS w' v l
theorem Abc {vx vt vh vr:Value}{x t h b f m c:Iv}{r:Dy}(Y:SysF S ov w As ns cs Ao no co Ap np cp p ls outs q)(hx:IvS w vx [x.raw])(ht:IvC w vt t)(hh:IvC w vh h)(hr:DyR w vr r.raw)
 (ox:x.Ok) (ot:t.Ok) (oh:h.Ok) (or:r.Ok) (ob:b.Ok) (of:f.Ok) (om:m.Ok) (oc:c.Ok) (hs:Jr r.raw=1) (hb:Rd x r=⟨b,0⟩) (hf:SpF ov ls outs q p t b f) (hm:Fs h f p=⟨m,0⟩) (hc:Gf x m p=⟨c,0⟩) :
 Calls Tryz.prog 188 #[.agg #[.slice As ns cs,.slice Ao no co,.slice Ap np cp,.int .i64 (p:Int)],vx,vt,vh,vr] w (RetSB [c.raw] (Fk c b) w):=by
 have WI:=hid (fun w1 (k:Kept w w1)=>Aes (As:=As) (ns:=ns) (cs:=cs) (Ao:=Ao) (no:=no) (co:=co) (Ap:=Ap) (np:=np) (cp:=cp) (n:=(p:Int)) (hx.kept k) (hr.kept k) ox or hs (Y.hT.kept k) hb);have SP:=hid (fun w1 (k:Kept w w1) u (hu:IvS w1 u [b.raw])=>(Y.kept k).speeds (IvR.kept ht k) hu ot ob hf);have MO:=hid (fun w1 (k:Kept w w1) u (hu:IvS w1 u [f.raw])=>Px (As:=As) (ns:=ns) (cs:=cs) (Ao:=Ao) (no:=no) (co:=co) (Ap:=Ap) (np:=np) (cp:=cp) (p:=p) (hx.kept k) (IvR.kept hh k) hu ox oh of om (Y.hT.kept k) Y.p1 (Nat.le_trans Y.p2 (by decide)) hm hc);have INS:=hid (fun w1 u v (hu:IvS w1 u [c.raw]) (hv:IvS w1 v [b.raw])=>Wz hu hv oc ob)
 obtain ⟨X,cx,rfl,-,-⟩:=hx;obtain ⟨A,l,d,A',l',d',rfl,-,-⟩:=Cc ht;obtain ⟨B,j,e,B',j',e',rfl,-,-⟩:=Cc hh;obtain ⟨D,i,g,rfl,-⟩:=Bu hr;clear ht hh hr ox ot oh or ob of om oc hs hb hf hm hc Y;simp only [List.length_singleton] at *;generalize Fk c b=rb at *;generalize [c.raw]=lc at *;generalize [b.raw]=lb at *;generalize [f.raw]=lf at *;generalize t.lo.neg=n1 at *;generalize t.lo.e=e1 at *;generalize t.hi.neg=n2 at *;generalize t.hi.e=e2 at *;generalize h.lo.neg=n3 at *;generalize h.lo.e=e3 at *;generalize h.hi.neg=n4 at *;generalize h.hi.e=e4 at *;generalize r.neg=n5 at *
 generalize r.e=e5 at *;obtain ⟨W,hW,kW,h0,h1,h2,h3,-⟩:=Q6 w #[.slice As ns cs,.slice Ao no co,.slice Ap np cp,.int .i64 (p:Int)] #[.bool n1,.slice A l d,.int .i64 e1,.bool n2,.slice A' l' d',.int .i64 e2] #[.bool n3,.slice B j e,.int .i64 e3,.bool n4,.slice B' j' e',.int .i64 e4] #[.bool n5,.slice D i g,.int .i64 e5] 83 51 51 30;have HW:=hid hW;have K:=hid kW;have s0:=Ag h0 0 _ rfl;have s1:=Ag h0 1 _ rfl;have s2:=Ag h0 2 _ rfl;have s3:=Ag h0 3 _ rfl;have r0:=Ag h3 0 _ rfl;have r1:=Ag h3 1 _ rfl;have r2:=Ag h3 2 _ rfl
 have H0:=hid h0;have H1:=hid h1;have H2:=hid h2;clear hW kW h0 h1 h2 h3;go_enter Tryz.func188,Tryz.ntmps188;go_upto_region 1 with fail;rw [←HW.out];go_wp2_with fail;refine (WI.out _ K.out).mono ?_;rintro _ w1 ⟨k1,v1,rfl,hv1⟩;replace K:=hid (K.out.trans k1);replace H0:=hid (Aj H0.out k1);replace H1:=hid (Aj H1.out k1);replace H2:=hid (Aj H2.out k1);have HV1:=hid hv1;obtain ⟨A1,c1,rfl,-,-⟩:=(show IvS w1 v1 lb from hv1);obtain ⟨nb,hnb⟩:∃ n,lb.length=n:=⟨_,rfl⟩;rw [hnb] at HV1 ⊢;clear hnb;clear k1 s0 s1 s2 s3 r0 r1 r2 hv1 HW;simp only [];go_upto_region 2 with fail
 refine rgL 9 ([(vE (.agg #[.slice As ns cs,.slice Ao no co,.slice Ap np cp,.int .i64 (p:Int)])),(vE (.slice X 1 cx)),(vE (.agg #[.bool n3,.slice B j e,.int .i64 e3,.bool n4,.slice B' j' e',.int .i64 e4])),(vE (.agg #[.slice As ns cs,.slice Ao no co,.slice Ap np cp,.int .i64 (p:Int)])),(vE (.agg #[.bool n1,.slice A l d,.int .i64 e1,.bool n2,.slice A' l' d',.int .i64 e2])),(vE (.slice A1 nb c1)),(fun v wv=>IvS wv v lf),(fun v wv=>IvS wv v lc),(fun v wv=>IvS wv v lc)])
  ⟨
   (fun aF wF F=>by have s5:=F.q 5 (.pointer (some ⟨w.heap.size,0,none⟩));have c0:=Ai H0.out F.kept 0 _ rfl;have c1:=Ai H0.out F.kept 1 _ rfl;have c2:=Ai H0.out F.kept 2 _ rfl;have c3:=Ai H0.out F.kept 3 _ rfl;exact sv rfl),(gq 1),(gql 8 fun _ k=>c6 H2.out k),(fun aF wF F=>by have s5:=F.q 5 (.pointer (some ⟨w.heap.size,0,none⟩));have c0:=Ai H0.out F.kept 0 _ rfl;have c1:=Ai H0.out F.kept 1 _ rfl;have c2:=Ai H0.out F.kept 2 _ rfl;have c3:=Ai H0.out F.kept 3 _ rfl;exact sv rfl),(gql 7 fun _ k=>c6 H1.out k),(gq 12),(fun aF wF F=>by have s21:=F.v 3 21;have s22:=F.v 4 22;have s23:=F.v 5 23;exact Bi (by simp [Region.wanted]) (by go_simp) (SP.out _ (K.out.trans F.kept) _ (HV1.out.kept F.kept)) (fun _ _ h=>RetSi.good h) (fun _ _ h=>h)),(fun aF wF F=>by have s18:=F.v 0 18;have s19:=F.v 1 19;have s20:=F.v 2 20;have s24:=F.p 6 24;exact Bi (by simp [Region.wanted]) (by go_simp) (MO.out _ (K.out.trans F.kept) _ s24) (fun _ _ h=>RetSi.good h) (fun _ _ h=>h)),(gm 7 25),
   trivial⟩ ?_
 intro u w2 k2 hu;have p24:=hp hu 6;have p25:=hp hu 7;have p13:=hp hu 8;simp only [Bl,Au,if_true,Act.put,zlA,zlB,zlC,zlD,zlE,zlF,zlG,hv hu 0,hv hu 1,hv hu 2,hv hu 3,hv hu 4,hv hu 5];clear hu;generalize u 6=v24,u 7=v25,u 8=v13 at *;have HV2:=hid p13;obtain ⟨A2,c2,rfl,-,-⟩:=(show IvS w2 v13 lc from p13);obtain ⟨nc,hnc⟩:∃ n,lc.length=n:=⟨_,rfl⟩;rw [hnc] at HV2 ⊢;replace HV1:=hid (HV1.out.kept k2);replace K:=hid (K.out.trans k2);clear hnc p24 p25 p13 k2;go_simp;go_wp2_with fail;refine (INS.out _ _ _ HV2.out HV1.out).mono ?_;rintro _ w3 ⟨rfl,k3⟩;simp only [];go_wp2_with fail
 go_ret2
 exact ⟨K.out.trans k3,_,rfl,HV2.out.kept k3⟩
end
end Go.Proofs.YtmgaloopddiekaaGreatDoor
