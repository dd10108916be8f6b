/- Words and contracts, part 24. -/
import Derived.Test.YtinbgjcooolbiaaGreatDoorClaimPartsp23
set_option maxRecDepth 100000
set_option maxHeartbeats 0
namespace Go.Proofs.YtinbgjcooolbiaaGreatDoor
open Go.Lib (hid)
open Go.RowKit
def BlkD (w:World) (b:Nat) (d:Dy):Prop:=∃ A l c,Blk w b (.bool d.neg) (.slice A l c) (.int .i64 d.e)∧DyR w (.agg #[.bool d.neg,.slice A l c,.int .i64 d.e]) d.raw
theorem BlkD.kept {w w':World}{b:Nat}{d:Dy}(h:BlkD w b d)(k:Kept w w'):BlkD w' b d:=by
 obtain ⟨A,l,c,h1,h2⟩:=h;exact ⟨A,l,c,h1.kept k,h2.kept k⟩
theorem Zv {w:World}{s:Value}{d:Dy}(h:DyR w (.agg #[.bool d.neg,s,.int .i64 d.e]) d.raw) :
 DyS (w.alloc (.cells #[.bool d.neg,s,.int .i64 d.e] 24)) (.slice (some ⟨w.heap.size,0,none⟩) 1 1) [d]:=by
 refine ⟨_,1,rfl,Nat.le_refl _,fun _=>⟨_,_,rfl,fun i x hi=>?_⟩⟩;have:i=0:=by
  have:=(List.getElem?_eq_some_iff.1 hi).1;simp at this;exact this
 subst this;simp at hi;subst hi;obtain ⟨_,c0,c1,c2,_⟩:=(blk_new w (.bool d.neg) s (.int .i64 d.e)).facts;exact ⟨s,c0,c1,c2,h.kept (Ad _ _)⟩
theorem Qf {w:World}{s:Value}{d:Dy}{n:Nat}(hn:w.heap.size=n)(h:DyR w (.agg #[.bool d.neg,s,.int .i64 d.e]) d.raw) :
 DyS (w.alloc (.cells #[.bool d.neg,s,.int .i64 d.e] 24)) (.slice (some ⟨n,0,none⟩) 1 1) [d]:=by
 subst hn;exact Zv h
theorem Abp (w:World):∃ W,W=w.alloc (.cells #[.bool false,.slice none 0 0,.int .i64 0] 24)∧Kept w W∧Blk W w.heap.size (.bool false) (.slice none 0 0) (.int .i64 0)∧W.heap.size=w.heap.size+1 :=
 ⟨_,rfl,Ad _ _,Dc w,by simp⟩
theorem Wk (d:Dy)(p:Nat)(up:Bool):(Fc d p up).raw.k≠0→(Fc d p up).raw.v=rz:=by
 intro h
 show ((Fc d p up).v).raw=rz
 rw [(Zq d p up).2 h,Cj]
theorem Qb {w:World}{d:Dy}{p:Nat}{up:Bool}{bp bd bu:Nat}(hd:d.Ok)(hT:Tab w)(p1:1≤p)(p2:p≤2000)
 (cp:w.cell? ⟨bp,0,none⟩=some (.int .i64 p)) (cd:BlkD w bd d) (cu:w.cell? ⟨bu,0,none⟩=some (.bool up)) :
 Calls Tryz.prog 131 #[.pointer (some ⟨bp,0,none⟩),.pointer (some ⟨bd,0,none⟩),.pointer (some ⟨bu,0,none⟩)] w (Goes 98 (Fc d p up).raw w):=by
 obtain ⟨A,l,c,hb,hR⟩:=cd;have x1:=hd.lo;have x2:=hd.hi;have hl:=hd.len
 have hc:=fun w1 (k:Kept w w1)=>Wh (v:=.slice A l c) (m:=d.m) (p:=p) (e:=d.e) d.neg false up (w:=w1)
  (by
    obtain ⟨A',l',c',he,-,hlim,-,-⟩:=hR.shape;injection he with he;injection he with he
    simp only [List.cons.injEq,and_true] at he;have e1:=he.2.1;rw [←e1] at hlim;exact ⟨hlim.kept k,Nat.le_trans hl (by decide),by omega,by omega,p1,p2,hT.kept k⟩)
 have hm:=fun w1 (k:Kept w w1) v (hv:DyS w1 v [d])=>Sv hv (by intro x hx;simp at hx;subst hx;exact hd) (by simp) (by omega:(1:Int)≤(p:Int)) (by omega)
 obtain ⟨W,hW,kW,BR,sW⟩:=Abp w;have hone:=Qf sW (hR.kept kW);have lp:=Bn cp;have lu:=Bn cu;simp only at lp lu;have HC:=hid hc;have HM:=hid hm;have HO:=hid hone;have HB:=hid hb;have CP:=hid cp;have CU:=hid cu;obtain ⟨lb,b0,b1,b2,-⟩:=hb.facts;clear hc hm hone hb hR hd hT x1 x2 hl p1 p2;have ho:Id d.neg d.m d.e false p up=Fc d p up:=rfl;rw [ho] at HC;clear ho;generalize Fc d p up=o at *;have HK:=hid kW;have HR:=hid BR;have HW:=hid hW;clear hW kW BR sW;generalize d.neg=nd at *;generalize d.e=ed at *;go_enter Tryz.func131,Tryz.ntmps131
 go_wp2_with (go_at_call 73;rw [←HW.out];refine (HM.out _ (HK.out.trans (Ad _ _)) _ HO.out).mono ?_;rintro e w1 ⟨rfl,q⟩;have K:=hid (HK.out.trans ((Ad _ _).trans q));have hr:=HR.out.kept ((Ad _ _).trans q);have HR2:=hid hr;clear q hr b0 b1 b2 cp cu;have cp:=Ak K.out CP.out;have cu:=Ak K.out CU.out;obtain ⟨-,b0,b1,b2,-⟩:=(HB.out.kept K.out).facts)
 refine (HC.out _ K.out).mono ?_;rintro e w2 ⟨q,⟨h0,u,rfl,hd⟩ | ⟨h0,rfl⟩⟩
 ·obtain ⟨A',l',c',rfl,hd,g1,g2⟩:=Cw hd;have hr:=HR2.out.kept q;obtain ⟨_,r0,r1,r2,f0,f1,f2⟩:=hr.facts;have HD:=hid hd;have H0:=hid h0;have HR3:=hid hr;have Q:=hid q;clear hd h0 hr q;simp only [];go_wp2_with fail;exact B9 (HR3.out.laid _ _ _) rfl rfl rfl ⟨Al (K.out.trans Q.out) (Nat.le_refl _),.inl ⟨H0.out,_,rfl,(HD.out.dyW HR3.out (Ah _) (Ag _ _ _) (Aj _)).dyR g1 g2⟩⟩
 ·exact ⟨rfl,K.out.trans q,.inr ⟨h0,rfl⟩⟩
theorem Wb (w:World)(x y z p u:Value):∃ W,W=(((w.alloc (.cells #[x,y,z] 24)).alloc (.cells #[p] 3)).alloc (.cells #[u] 4)).alloc (.cells #[.bool false,.slice none 0 0,.int .i64 0] 24) ∧
 Kept w W∧Blk W w.heap.size x y z∧W.cell? ⟨w.heap.size+1,0,none⟩=some p∧W.cell? ⟨w.heap.size+1+1,0,none⟩=some u∧Blk W (w.heap.size+1+1+1) (.bool false) (.slice none 0 0) (.int .i64 0) :=
 ⟨_, rfl, (((Ad         _ _).trans (Ad         _ _)).trans (Ad         _ _)).trans (Ad         _ _), Ax        (Ax        (Ax        (blk_new _ _ _ _) _) _) _,
  Ak (Ad _ _) (Ak (Ad _ _) (Acc _ _ _ _)),Ak (Ad _ _) (Aad _ _ _ _ _),L6 _ _ _ _ _ _ _⟩
theorem Cr {w:World}{v:Value}{d:Dy}(h:DyR w v d.raw):∃ A l c,v=.agg #[.bool d.neg,.slice A l c,.int .i64 d.e]∧DyR w (.agg #[.bool d.neg,.slice A l c,.int .i64 d.e]) d.raw:=by
 obtain ⟨A,l,c,rfl,-,-,-,-⟩:=h.shape;exact ⟨A,l,c,rfl,h⟩
theorem Ma {w:World}{v:Value}{d:Dy}{p:Nat}{up:Bool}(hv:DyR w v d.raw)(hd:d.Ok)(hT:Tab w)(p1:1≤p)(p2:p≤2000) :
 Calls Tryz.prog 97 #[v,.int .i64 p,.bool up] w (RetE (Fc d p up).raw w):=by
 have hmf:=Ha;obtain ⟨A,l,c,rfl,hv⟩:=Cr hv;obtain ⟨W,hW,kW,B0,cp,cu,BR⟩:=Wb w (.bool d.neg) (.slice A l c) (.int .i64 d.e) (.int .i64 p) (.bool up)
 have hf:=Oy (w:=W) (K:=131) (cap:=#[.pointer (some ⟨w.heap.size+1,0,none⟩),.pointer (some ⟨w.heap.size,0,none⟩),.pointer (some ⟨w.heap.size+1+1,0,none⟩)]) (o:=(Fc d p up).raw)
  (fun w1 k=>Qb hd (hT.kept (kW.trans k)) p1 p2 (Ak k cp) ⟨A,l,c,B0.kept k,hv.kept (kW.trans k)⟩ (Ak k cu)) (Wk d p up) (fun _=>rfl)
 have HF:=hid hf;have HW:=hid hW;have HK:=hid kW;have HR:=hid BR;clear hf hW kW B0 cp cu BR hv hd hT p1 p2;generalize Fc d p up=o at *;generalize d.neg=nd at *;generalize d.e=ed at *;go_enter Tryz.func97,Tryz.ntmps97
 go_wp2_with (go_at_call 71;rw [←HW.out];refine HF.out.mono ?_;rintro e w1 ⟨q,u,rfl,hd⟩;obtain ⟨A',l',c',rfl,hd,g3,g4⟩:=Cw hd;have HD:=hid hd;have hb2:=HR.out.kept q;obtain ⟨_,c0,c1,c2,f0,f1,f2⟩:=hb2.facts;have HB2:=hid hb2;clear hd hb2)
 exact Bw (HB2.out.laid _ _ _) rfl rfl rfl ⟨Al (HK.out.trans q) (by omega),_,rfl,(HD.out.dyW HB2.out (Ah _) (Ag _ _ _) (Aj _)).dyR g3 g4⟩
theorem On (w:World)(x y z:Value):∃ W,W=(w.alloc (.cells #[x,y,z] 24)).alloc (.cells #[.bool false,.slice none 0 0,.int .i64 0] 24) ∧
 Kept w W∧Blk W w.heap.size x y z∧Blk W (w.heap.size+1) (.bool false) (.slice none 0 0) (.int .i64 0) :=
 ⟨_,rfl,(Ad _ _).trans (Ad _ _),Ax (blk_new _ _ _ _) _,Du _ _ _ _ _⟩
theorem Vr {w:World}{v:Value}{d:Dy}{p:Nat}(hv:DyR w v d.raw)(hd:d.Ok)(hT:Tab w)(p1:1≤p)(p2:p≤2000) :
 Calls Tryz.prog 48 #[v,.int .i64 p] w (RetE (Fc d p false).raw w):=by
 have hc:=fun w1 (k:Kept w w1)=>Ma (up:=false) (hv.kept k) hd (hT.kept k) p1 p2
 obtain ⟨A,l,c,rfl,hv⟩:=Cr hv;obtain ⟨W,hW,kW,B0,BR⟩:=On w (.bool d.neg) (.slice A l c) (.int .i64 d.e);have HC:=hid hc;have HW:=hid hW;have HK:=hid kW;have HR:=hid BR;clear hc hW kW B0 BR hv hd hT p1 p2;generalize Fc d p false=o at *;generalize d.neg=nd at *;generalize d.e=ed at *;go_enter Tryz.func48,Tryz.ntmps48
 go_wp2_with (go_at_call 97;rw [←HW.out];refine (HC.out _ HK.out).mono ?_;rintro e w1 ⟨q,u,rfl,hd⟩;obtain ⟨A',l',c',rfl,hd,g3,g4⟩:=Cw hd;have HD:=hid hd;have hb2:=HR.out.kept q;obtain ⟨_,c0,c1,c2,f0,f1,f2⟩:=hb2.facts;have HB2:=hid hb2;clear hd hb2)
 exact Bw (HB2.out.laid _ _ _) rfl rfl rfl ⟨Al (HK.out.trans q) (by omega),_,rfl,(HD.out.dyW HB2.out (Ah _) (Ag _ _ _) (Aj _)).dyR g3 g4⟩
theorem Ac3 {w:World}{v:Value}{d:Dy}{p:Nat}(hv:DyR w v d.raw)(hd:d.Ok)(hT:Tab w)(p1:1≤p)(p2:p≤2000) :
 Calls Tryz.prog 50 #[v,.int .i64 p] w (RetE (Fc d p true).raw w):=by
 have hc:=fun w1 (k:Kept w w1)=>Ma (up:=true) (hv.kept k) hd (hT.kept k) p1 p2
 obtain ⟨A,l,c,rfl,hv⟩:=Cr hv;obtain ⟨W,hW,kW,B0,BR⟩:=On w (.bool d.neg) (.slice A l c) (.int .i64 d.e);have HC:=hid hc;have HW:=hid hW;have HK:=hid kW;have HR:=hid BR;clear hc hW kW B0 BR hv hd hT p1 p2;generalize Fc d p true=o at *;generalize d.neg=nd at *;generalize d.e=ed at *;go_enter Tryz.func50,Tryz.ntmps50
 go_wp2_with (go_at_call 97;rw [←HW.out];refine (HC.out _ HK.out).mono ?_;rintro e w1 ⟨q,u,rfl,hd⟩;obtain ⟨A',l',c',rfl,hd,g3,g4⟩:=Cw hd;have HD:=hid hd;have hb2:=HR.out.kept q;obtain ⟨_,c0,c1,c2,f0,f1,f2⟩:=hb2.facts;have HB2:=hid hb2;clear hd hb2)
 exact Bw (HB2.out.laid _ _ _) rfl rfl rfl ⟨Al (HK.out.trans q) (by omega),_,rfl,(HD.out.dyW HB2.out (Ah _) (Ag _ _ _) (Aj _)).dyR g3 g4⟩
theorem Lp {w:World}{s s':Value}{d d':Dy}{n:Nat}(hn:w.heap.size=n)(h:DyR w (.agg #[.bool d.neg,s,.int .i64 d.e]) d.raw)(h':DyR w (.agg #[.bool d'.neg,s',.int .i64 d'.e]) d'.raw) :
 DyS (w.alloc (.cells #[.bool d.neg,s,.int .i64 d.e,.bool d'.neg,s',.int .i64 d'.e] 24)) (.slice (some ⟨n,0,none⟩) 2 2) [d,d']:=by
 subst hn;refine ⟨_,2,rfl,Nat.le_refl _,fun _=>⟨_,_,rfl,fun i x hi=>?_⟩⟩;have hb:=heap_alloc_new w (.cells #[.bool d.neg,s,.int .i64 d.e,.bool d'.neg,s',.int .i64 d'.e] 24);have hlt:i<2:=by
  have:=(List.getElem?_eq_some_iff.1 hi).1;simpa using this
 rcases i with _ | _ | i
 ·simp at hi;subst hi;exact ⟨s,Ae hb 0 _ rfl,Ae hb 1 _ rfl,Ae hb 2 _ rfl,h.kept (Ad _ _)⟩
 ·simp at hi;subst hi;exact ⟨s',Ae hb 3 _ rfl,Ae hb 4 _ rfl,Ae hb 5 _ rfl,h'.kept (Ad _ _)⟩
 ·omega
def Dm (a b:Dy) (p:Nat) (up:Bool):Outc Dy:=if b.m=0 then bad 4 else Bh a b p up
theorem Yk (a b:Dy)(p:Nat)(up:Bool):(Dm a b p up).Ok:=by
 unfold Dm;split
 ·exact Rw _
 ·exact C8 _ _ _ _
theorem Aan {w:World}{x y:Dy}{p:Nat}{up:Bool}{bp bx bY bu:Nat}(hx:x.Ok)(hy:y.Ok)(hT:Tab w)(p1:1≤p)(p2:p≤2000)
 (cp:w.cell? ⟨bp,0,none⟩=some (.int .i64 p)) (cx:BlkD w bx x) (cy:BlkD w bY y) (cu:w.cell? ⟨bu,0,none⟩=some (.bool up)) :
 Calls Tryz.prog 72 #[.pointer (some ⟨bp,0,none⟩),.pointer (some ⟨bx,0,none⟩),.pointer (some ⟨bY,0,none⟩),.pointer (some ⟨bu,0,none⟩)] w (Goes 98 (Dm x y p up).raw w):=by
 obtain ⟨A,l,c,hbx,hRx⟩:=cx;obtain ⟨A2,l2,c2,hby,hRy⟩:=cy;obtain ⟨W,hW,kW,BR,sW⟩:=Abp w;have htwo:=Lp sW (hRx.kept kW) (hRy.kept kW);have hm:=fun w1 (k:Kept w w1) v (hv:DyS w1 v [x,y])=>Sv hv (by intro z hz;simp at hz;rcases hz with rfl | rfl;exact hx;exact hy) (by simp) (by omega:(1:Int)≤(p:Int)) (by omega)
 have HM:=hid hm;have HO:=hid htwo;have HW:=hid hW;have HK:=hid kW;have HR:=hid BR;have HBX:=hid hbx;have HBY:=hid hby;have CP:=hid cp;have CU:=hid cu;have lp:=Bn cp;have lu:=Bn cu;simp only at lp lu;obtain ⟨lbx,x0,x1,x2,-⟩:=hbx.facts;obtain ⟨lby,y0,y1,y2,-⟩:=hby.facts;clear hm htwo hW kW BR sW hbx hby;by_cases h0:y.m=0
 ·unfold Dm;rw [if_pos h0];have hl2:l2=0:=by
   obtain ⟨A',l',c',he,hl',-,-,-⟩:=hRy.shape;injection he with he;injection he with he
   simp only [List.cons.injEq,and_true] at he;have e1:=he.2.1;injection e1 with _ e2 _
   rw [e2,hl'];simp only [Dy.raw];rw [h0,limbs_zero];rfl
  subst hl2;clear hRx hRy hx hy hT p1 p2 h0;generalize x.neg=n1 at *;generalize x.e=e1 at *;generalize y.neg=n2 at *;generalize y.e=e2 at *;go_enter Tryz.func72,Tryz.ntmps72
  go_wp2_with (first
   | (go_at_call 73;rw [←HW.out];refine (HM.out _ (HK.out.trans (Ad _ _)) _ HO.out).mono ?_;rintro e w1 ⟨rfl,q⟩;have K:=hid (HK.out.trans ((Ad _ _).trans q));have hr:=HR.out.kept ((Ad _ _).trans q);have HR2:=hid hr;clear q hr x0 x1 x2 y0 y1 y2 cp cu;have cp:=Ak K.out CP.out;have cu:=Ak K.out CU.out;obtain ⟨-,x0,x1,x2,-⟩:=(HBX.out.kept K.out).facts;obtain ⟨-,y0,y1,y2,-⟩:=(HBY.out.kept K.out).facts)
   | (go_at_call 74;refine (Dr _ _ _).mono ?_;rintro e w3 ⟨he,rfl⟩;obtain rfl:e=.panicked (Ck 98 _):=he))
  exact ⟨rfl,K.out,.inr ⟨by decide,rfl⟩⟩
 ·unfold Dm;rw [if_neg h0];have bx1:=Cv x.m 64 hx.len;have by1:=Cv y.m 64 hy.len;have xl:=hx.lo;have xh:=hx.hi;have yl:=hy.lo;have yh:=hy.hi;obtain ⟨kk,hK⟩:∃ kk,kk=Ce x y p:=⟨_,rfl⟩;have hKle:kk≤6200:=by rw [hK];unfold Ce;omega
  have limx:Lim w (.slice A l c) (limbs x.m):=by
   obtain ⟨A',l',c',he,-,hlim,-,-⟩:=hRx.shape;injection he with he;injection he with he
   simp only [List.cons.injEq,and_true] at he;rw [he.2.1];exact hlim
  have limy:Lim w (.slice A2 l2 c2) (limbs y.m):=by
   obtain ⟨A',l',c',he,-,hlim,-,-⟩:=hRy.shape;injection he with he;injection he with he
   simp only [List.cons.injEq,and_true] at he;rw [he.2.1];exact hlim
  have hl2:0<l2:=by
   obtain ⟨A',l',c',he,hl',-⟩:=limy.shape;injection he with e1 e2 e3
   rw [e2,hl'];exact length_limbs_pos y.m h0
  have hs1:=fun w1 (k:Kept w w1)=>Ip (limx.kept k) (by have:=hx.len;omega)
  have hs2:=fun w1 (k:Kept w w1)=>Ip (limy.kept k) (by have:=hy.len;omega)
  have hle:=fun w1 (k:Kept w w1)=>Ig (limx.kept k) kk (by have:=hx.len;omega) (by omega)
  have blX:bl (x.m*2^kk)≤10296:=by
   by_cases hz:x.m=0
   ·rw [hz,Nat.zero_mul,Ey];omega
   ·rw [Ci _ _ hz];omega
  have lenX:=Cb (x.m*2^kk) 161 (by omega);have hqr:=fun w1 u (k:Kept w w1) (hu:Lim w1 u (limbs (x.m*2^kk)))=>Qx hu (limy.kept k) (by omega) (by have:=hy.len;omega) h0
  have hcu:=fun w1 u (rb:Bool) (k:Kept w w1) (hu:Lim w1 u (limbs (x.m*2^kk/y.m)))=>Wh (v:=u) (m:=x.m*2^kk/y.m) (p:=p) (e:=x.e-y.e-kk) (x.neg != y.neg) rb up (w:=w1)
   ⟨hu,Nat.le_trans (C7 (Nat.div_le_self _ _)) (by omega),by omega,by omega,p1,p2,hT.kept k⟩
  have hout:Bh x y p up=Id (x.neg != y.neg) (x.m*2^kk/y.m) (x.e-y.e-kk) (decide (¬x.m*2^kk%y.m=0)) p up:=by unfold Bh;rw [hK]
  obtain ⟨o,ho⟩:∃ o,o=Bh x y p up:=⟨_,rfl⟩;have hoc:=ho.trans hout;have hrl:∀ (w1:World) (v:Value),Lim w1 v (limbs (x.m*2^kk%y.m))→∃ A l c,v=.slice A l c∧decide (0<l)=decide (¬x.m*2^kk%y.m=0):=by
   intro w1 v hv;obtain ⟨A,l,c,rfl,hl,-⟩:=hv.shape;refine ⟨A,l,c,rfl,?_⟩;rw [hl];by_cases hz:x.m*2^kk%y.m=0
   ·rw [hz,limbs_zero];rfl
   ·have:=length_limbs_pos _ hz;simp [hz];omega
  rw [←ho];obtain ⟨nb,hnb⟩:∃ nb,(x.neg != y.neg)=nb:=⟨_,rfl⟩;have hnb1:((!x.neg)==y.neg)=nb:=by rw [←hnb];cases x.neg<;>cases y.neg<;>rfl
  have hnb2:(!(x.neg==y.neg))=nb:=by rw [←hnb];cases x.neg<;>cases y.neg<;>rfl
  rw [hnb] at hcu hoc;obtain ⟨s1,hs1'⟩:∃ s:Int,(p:Int)+1=s:=⟨_,rfl⟩;obtain ⟨s2,hs2'⟩:∃ s:Int,s1+(bl y.m:Int)=s:=⟨_,rfl⟩;obtain ⟨s3,hs3'⟩:∃ s:Int,s2-(bl x.m:Int)=s:=⟨_,rfl⟩;have hw1:IntKind.i64.wrap ((p:Int)+1)=s1:=by simp [IntKind.wrap_i64];omega
  have hw2:IntKind.i64.wrap (s1+(bl y.m:Int))=s2:=by simp [IntKind.wrap_i64];omega
  have hw3:IntKind.i64.wrap (s2-(bl x.m:Int))=s3:=by simp [IntKind.wrap_i64];omega
  have hmx:max 0 s3=(kk:Int):=by rw [hK];unfold Ce;omega
  obtain ⟨d1,hd1⟩:∃ d:Int,x.e-y.e=d:=⟨_,rfl⟩;obtain ⟨d2,hd2⟩:∃ d:Int,d1-(kk:Int)=d:=⟨_,rfl⟩;have hw4:IntKind.i64.wrap (x.e-y.e)=d1:=by rw [hd1];simp [IntKind.wrap_i64];omega
  have hw5:IntKind.i64.wrap (d1-(kk:Int))=d2:=by rw [hd2];simp [IntKind.wrap_i64];omega
  rw [hd1,hd2] at hcu hoc;have hcu2:=fun w1 u (k:Kept w w1) (hu:Lim w1 u (limbs (x.m*2^kk/y.m)))=>hcu w1 u (decide (¬x.m*2^kk%y.m=0)) k hu
  rw [←hoc] at hcu2;have H1:=hid hs1;have H2:=hid hs2;have HL:=hid hle;have HQ:=hid hqr;have HC:=hid hcu2;have HRL:=hid hrl;have hl2d:decide (0<l2)=true:=by simp [hl2]
  clear hs1 hs2 hle hqr hcu hcu2 hrl hl2 hRx hRy hx hy hT p1 p2 h0 bx1 by1 xl xh yl yh limx limy blX lenX hout ho hoc hnb hs1' hs2' hs3' hd1 hd2 hK hKle;obtain ⟨rb,hrb⟩:∃ rb,decide (¬x.m*2^kk%y.m=0)=rb:=⟨_,rfl⟩;rw [hrb] at HC HRL;clear hrb;generalize limbs (x.m*2^kk)=xs at *;generalize bl x.m=b1 at *;generalize bl y.m=b2 at *;generalize x.neg=n1 at *;generalize x.e=e1 at *;generalize y.neg=n2 at *;generalize y.e=e2 at *;go_enter Tryz.func72,Tryz.ntmps72
  go_wp2_with (first
   | (go_at_call 73;rw [←HW.out];refine (HM.out _ (HK.out.trans (Ad _ _)) _ HO.out).mono ?_;rintro e w1 ⟨rfl,q⟩;have K:=hid (HK.out.trans ((Ad _ _).trans q));have hr:=HR.out.kept ((Ad _ _).trans q);have HR2:=hid hr;clear q hr x0 x1 x2 y0 y1 y2 cp cu;have cp:=Ak K.out CP.out;have cu:=Ak K.out CU.out;obtain ⟨-,x0,x1,x2,-⟩:=(HBX.out.kept K.out).facts;obtain ⟨-,y0,y1,y2,-⟩:=(HBY.out.kept K.out).facts)
   | (go_at_call 74;refine (Dr _ _ _).mono ?_;rintro e w3 ⟨he,rfl⟩;obtain rfl:e=.returned (.tuple #[]):=he))
  clear x0 x1 x2 y0 y1 y2 cp cu hl2d
  refine rgL 12 ([(vE (.int .i64 p)),(vE (.int .i64 s1)),(vP bY 1),(vE (.slice A2 l2 c2)),(vE (.int .i64 b2)),(vE (.int .i64 s2)),(vP bx 1),(vE (.slice A l c)),(vE (.int .i64 b1)),(vE (.int .i64 s3)),(vE (.int .i64 kk)),(vE (.int .i64 kk))])
   ⟨
    (fun aF wF F=>by have s0:=F.q 0 (.pointer (some ⟨bp,0,none⟩));exact sw (by have cq:=Ak F.kept (Ak K.out CP.out);go_simp) rfl),(gv 0 18),(gq 2),(gvl 2 20 fun _ k=>Af (HBY.out.kept K.out) k 1 _ rfl),(fun aF wF F=>by have s21:=F.v 3 21;exact sQ (H2.out _ (K.out.trans F.kept)) fun _ _ h=>h),(gvv 1 19 4 22),(gq 1),(gvl 6 24 fun _ k=>Af (HBX.out.kept K.out) k 1 _ rfl),(fun aF wF F=>by have s25:=F.v 7 25;exact sQ (H1.out _ (K.out.trans F.kept)) fun _ _ h=>h),(gvv 5 23 8 26),(gv 9 27),(gv 10 28),
    trivial⟩ ?_
  intro u w1 k1 hu;simp only [Av,Am,if_true,Act.put,zlA,zlB,zlC,zlD,zlE,zlF,zlG,hv hu 0,hv hu 1,hv hu 2,hv hu 3,hv hu 4,hv hu 5,hv hu 6,hv hu 7,hv hu 8,hv hu 9,hv hu 10,hv hu 11];clear hu;have K1:=hid (K.out.trans k1);have HK1:=hid k1;clear k1 hw1 hw2 hw3 hmx;go_wp2_with fail
  refine rgL 12 ([(vP bx 1),(vE (.slice A l c)),(vE (.int .i64 kk)),(fun v wv=>Lim wv v (xs)),(vP bY 1),(vE (.slice A2 l2 c2)),(fun v wv=>∃ q r,v=.tuple #[q,r]∧Lim wv q (limbs (x.m*2^kk/y.m))∧Lim wv r (limbs (x.m*2^kk%y.m))),(fun v wv=>∃ q r,v=.tuple #[q,r]∧Lim wv q (limbs (x.m*2^kk/y.m))∧Lim wv r (limbs (x.m*2^kk%y.m))),(fun v wv=>Lim wv v (limbs (x.m*2^kk/y.m))),(fun v wv=>Lim wv v (limbs (x.m*2^kk%y.m))),(fun v wv=>Lim wv v (limbs (x.m*2^kk/y.m))),(fun v wv=>Lim wv v (limbs (x.m*2^kk%y.m)))])
   (hM:=⟨⟨mE,mE,mE,mL,mE,mE,fun v w w' k h=>by obtain ⟨q,r,e,a,b⟩:=h;exact ⟨q,r,e,a.kept k,b.kept k⟩,fun v w w' k h=>by obtain ⟨q,r,e,a,b⟩:=h;exact ⟨q,r,e,a.kept k,b.kept k⟩,mL,mL,mL,mL,trivial⟩⟩) ⟨
     (gq 1),(gvl 0 30 fun _ k=>Af (HBX.out.kept K1.out) k 1 _ rfl),(gq 5),(fun aF wF F=>by have s31:=F.v 1 31;have s32:=F.v 2 32;exact sL (HL.out _ (K1.out.trans F.kept)) fun _ _ h=>h),(gq 2),(gvl 4 34 fun _ k=>Af (HBY.out.kept K1.out) k 1 _ rfl),(fun aF wF F=>by have s33:=F.p 3 33;have s35:=F.v 5 35;exact Ao (by simp [Region.wanted]) (by go_simp) (HQ.out _ _ (K1.out.trans F.kept) s33) (fun _ _ h=>RetQR.good h) (fun _ _ h=>h)),(gm 6 36),(fun aF wF F=>by have s29:=F.p 7 29;obtain ⟨q,r,e,a,b⟩:=s29;exact sv a),(fun aF wF F=>by have s29:=F.p 7 29;obtain ⟨q,r,e,a,b⟩:=s29;exact sv b),(gm 8 37),(gm 9 38),
     trivial⟩ ?_
  intro u w1 k1 hu;have p33:=hp hu 3;have p36:=hp hu 6;have p29:=hp hu 7;have p37:=hp hu 8;have p38:=hp hu 9;have p6:=hp hu 10;have p7:=hp hu 11;simp only [Av,Am,if_true,Act.put,zlA,zlB,zlC,zlD,zlE,zlF,zlG,hv hu 0,hv hu 1,hv hu 2,hv hu 4,hv hu 5];clear hu;generalize u 3=v33,u 6=v36,u 7=v29,u 8=v37,u 9=v38,u 10=v6,u 11=v7 at *;have K2:=hid (K1.out.trans k1);have HR3:=hid (HR2.out.kept (HK1.out.trans k1));have P37:=hid p6;obtain ⟨A3,l3,c3,rfl,hl3⟩:=HRL.out _ _ p7;clear p33 p36 p29 p37 p38 p6 p7 k1 HL HQ H1 H2;obtain ⟨-,x0,x1,x2,-⟩:=(HBX.out.kept K2.out).facts;obtain ⟨-,y0,y1,y2,-⟩:=(HBY.out.kept K2.out).facts
  have cp:=Ak K2.out CP.out;have cu:=Ak K2.out CU.out;go_wp2_with fail;refine (HC.out _ _ K2.out P37.out).mono ?_;rintro e w2 ⟨q,⟨h0,u,rfl,hd⟩ | ⟨h0,rfl⟩⟩
  ·obtain ⟨A',l',c',rfl,hd,g1,g2⟩:=Cw hd;have hr:=HR3.out.kept q;obtain ⟨_,r0,r1,r2,f0,f1,f2⟩:=hr.facts;have HD:=hid hd;have H0:=hid h0;have HR4:=hid hr;have Q:=hid q;clear hd h0 hr q;simp only [];go_wp2_with fail;exact B9 (HR4.out.laid _ _ _) rfl rfl rfl ⟨Al (K2.out.trans Q.out) (Nat.le_refl _),.inl ⟨H0.out,_,rfl,(HD.out.dyW HR4.out (Ah _) (Ag _ _ _) (Aj _)).dyR g1 g2⟩⟩
  ·exact ⟨rfl,K2.out.trans q,.inr ⟨h0,rfl⟩⟩
theorem Uz (a b:Dy)(p:Nat)(up:Bool):(Dm a b p up).raw.k≠0→(Dm a b p up).raw.v=rz:=by
 intro h
 show ((Dm a b p up).v).raw=rz
 rw [(Yk a b p up).2 h,Cj]
theorem Abs (w:World)(x y z x' y' z' p u:Value):∃ W,W=((((w.alloc (.cells #[x,y,z] 24)).alloc (.cells #[x',y',z'] 24)).alloc (.cells #[p] 3)).alloc (.cells #[u] 4)).alloc (.cells #[.bool false,.slice none 0 0,.int .i64 0] 24) ∧
 Kept w W∧Blk W w.heap.size x y z∧Blk W (w.heap.size+1) x' y' z'∧W.cell? ⟨w.heap.size+1+1,0,none⟩=some p∧W.cell? ⟨w.heap.size+1+1+1,0,none⟩=some u∧Blk W (w.heap.size+1+1+1+1) (.bool false) (.slice none 0 0) (.int .i64 0):=by
 have k1:=Ad w (.cells #[x,y,z] 24)
 refine ⟨_,rfl,(((k1.trans (Ad _ _)).trans (Ad _ _)).trans (Ad _ _)).trans (Ad _ _),Ax (Ax (Ax (Ax (blk_new _ _ _ _) _) _) _) _,Ax (Ax (Ax (Du _ _ _ _ _) _) _) _,
  Ak (Ad _ _) (Ak (Ad _ _) (Aad _ _ _ _ _)),Ak (Ad _ _) ?_,?_⟩
 ·have:=Xu (((w.alloc (.cells #[x,y,z] 24)).alloc (.cells #[x',y',z'] 24)).alloc (.cells #[p] 3)) u 4;simp only [World.size_alloc] at this;exact this
 ·have:=blk_new ((((w.alloc (.cells #[x,y,z] 24)).alloc (.cells #[x',y',z'] 24)).alloc (.cells #[p] 3)).alloc (.cells #[u] 4)) (.bool false) (.slice none 0 0) (.int .i64 0);simp only [World.size_alloc] at this;exact this
theorem Pg {w:World}{v v':Value}{x y:Dy}{p:Nat}{up:Bool}(hv:DyR w v x.raw)(hv':DyR w v' y.raw)(hx:x.Ok)(hy:y.Ok)(hT:Tab w)(p1:1≤p)(p2:p≤2000) :
 Calls Tryz.prog 33 #[v,v',.int .i64 p,.bool up] w (RetE (Dm x y p up).raw w):=by
 have hmf:=Ha;obtain ⟨A,l,c,rfl,hv⟩:=Cr hv;obtain ⟨A2,l2,c2,rfl,hv'⟩:=Cr hv';obtain ⟨W,hW,kW,B0,B1,cp,cu,BR⟩:=Abs w (.bool x.neg) (.slice A l c) (.int .i64 x.e) (.bool y.neg) (.slice A2 l2 c2) (.int .i64 y.e) (.int .i64 p) (.bool up)
 have hf:=Oy (w:=W) (K:=72) (cap:=#[.pointer (some ⟨w.heap.size+1+1,0,none⟩),.pointer (some ⟨w.heap.size,0,none⟩),.pointer (some ⟨w.heap.size+1,0,none⟩),.pointer (some ⟨w.heap.size+1+1+1,0,none⟩)]) (o:=(Dm x y p up).raw)
  (fun w1 k=>Aan hx hy (hT.kept (kW.trans k)) p1 p2 (Ak k cp) ⟨A,l,c,B0.kept k,hv.kept (kW.trans k)⟩ ⟨A2,l2,c2,B1.kept k,hv'.kept (kW.trans k)⟩ (Ak k cu)) (Uz x y p up) (fun _=>rfl)
 have HF:=hid hf;have HW:=hid hW;have HK:=hid kW;have HR:=hid BR;clear hf hW kW B0 B1 cp cu BR hv hv' hx hy hT p1 p2;generalize Dm x y p up=o at *;generalize x.neg=nx at *;generalize x.e=ex at *;generalize y.neg=ny at *;generalize y.e=ey at *;go_enter Tryz.func33,Tryz.ntmps33
 go_wp2_with (go_at_call 71;rw [←HW.out];refine HF.out.mono ?_;rintro e w1 ⟨q,u,rfl,hd⟩;obtain ⟨A',l',c',rfl,hd,g3,g4⟩:=Cw hd;have HD:=hid hd;have hb2:=HR.out.kept q;obtain ⟨_,c0,c1,c2,f0,f1,f2⟩:=hb2.facts;have HB2:=hid hb2;clear hd hb2)
 exact Bw (HB2.out.laid _ _ _) rfl rfl rfl ⟨Al (HK.out.trans q) (by omega),_,rfl,(HD.out.dyW HB2.out (Ah _) (Ag _ _ _) (Aj _)).dyR g3 g4⟩
end Go.Proofs.YtinbgjcooolbiaaGreatDoor
