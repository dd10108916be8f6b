/- Contracts of package round, sixth part: Root. -/
import Derived.Test.YtabjjdicffcolaaGreatDoorClaimTholdsp18
set_option maxRecDepth 100000
set_option maxHeartbeats 16000000
namespace Go.Proofs.YtabjjdicffcolaaGreatDoor
open Go.Lib (hid)
open Go.RowKit
def BlkD (w:World) (b:Nat) (d:Dy):Prop:=∃ A l c,Blk w b (.bool d.neg) (.slice A l c) (.int .i64 d.e)∧DyR w (.agg #[.bool d.neg,.slice A l c,.int .i64 d.e]) d.raw
theorem BlkD.kept {w w':World}{b:Nat}{d:Dy}(h:BlkD w b d)(k:Kept w w'):BlkD w' b d:=by
 obtain ⟨A,l,c,h1,h2⟩:=h
 exact ⟨A,l,c,h1.kept k,h2.kept k⟩
theorem dyS_one {w:World}{s:Value}{d:Dy}(h:DyR w (.agg #[.bool d.neg,s,.int .i64 d.e]) d.raw) :
 DyS (w.alloc (.cells #[.bool d.neg,s,.int .i64 d.e] 28)) (.slice (some ⟨w.heap.size,0,none⟩) 1 1) [d]:=by
 refine ⟨_,1,rfl,Nat.le_refl _,fun _=>⟨_,_,rfl,fun i x hi=>?_⟩⟩
 have:i=0:=by
  have:=(List.getElem?_eq_some_iff.1 hi).1
  simp at this;exact this
 subst this
 simp at hi
 subst hi
 obtain ⟨_,c0,c1,c2,_⟩:=(blk_new w (.bool d.neg) s (.int .i64 d.e)).facts
 exact ⟨s,c0,c1,c2,h.kept (kept_alloc _ _)⟩
theorem dyS_one' {w:World}{s:Value}{d:Dy}{n:Nat}(hn:w.heap.size=n)(h:DyR w (.agg #[.bool d.neg,s,.int .i64 d.e]) d.raw) :
 DyS (w.alloc (.cells #[.bool d.neg,s,.int .i64 d.e] 28)) (.slice (some ⟨n,0,none⟩) 1 1) [d]:=by
 subst hn;exact dyS_one h
theorem box1 (w:World):∃ W,W=w.alloc (.cells #[.bool false,.slice none 0 0,.int .i64 0] 28)∧Kept w W∧Blk W w.heap.size (.bool false) (.slice none 0 0) (.int .i64 0)∧W.heap.size=w.heap.size+1 :=
 ⟨_,rfl,kept_alloc _ _,blk_new0 w,by simp⟩
theorem dirD_bad (d:Dy)(p:Nat)(up:Bool):(dirD d p up).raw.k≠0→(dirD d p up).raw.v=rz:=by
 intro h
 show ((dirD d p up).v).raw=rz
 rw [(dirD_ok d p up).2 h,dz_raw]
theorem directed1_c {w:World}{d:Dy}{p:Nat}{up:Bool}{bp bd bu:Nat}(hd:d.Ok)(hT:Tab w)(p1:1≤p)(p2:p≤2000)
 (cp:w.cell? ⟨bp,0,none⟩=some (.int .i64 p)) (cd:BlkD w bd d) (cu:w.cell? ⟨bu,0,none⟩=some (.bool up)) :
 Calls Tryz.prog 169 #[.pointer (some ⟨bp,0,none⟩),.pointer (some ⟨bd,0,none⟩),.pointer (some ⟨bu,0,none⟩)] w (Goes 185 (dirD d p up).raw w):=by
 obtain ⟨A,l,c,hb,hR⟩:=cd
 have x1:=hd.lo
 have x2:=hd.hi
 have hl:=hd.len
 have hc:=fun w1 (k:Kept w w1)=>cut_c (v:=.slice A l c) (m:=d.m) (p:=p) (e:=d.e) d.neg false up (w:=w1)
  (by
    obtain ⟨A',l',c',he,-,hlim,-,-⟩:=hR.shape
    injection he with he;injection he with he
    simp only [List.cons.injEq,and_true] at he
    have e1:=he.2.1
    rw [←e1] at hlim
    exact ⟨hlim.kept k,Nat.le_trans hl (by decide),by omega,by omega,p1,p2,hT.kept k⟩)
 have hm:=fun w1 (k:Kept w w1) v (hv:DyS w1 v [d])=>rmay_c hv (by intro x hx;simp at hx;subst hx;exact hd) (by simp) (by omega:(1:Int)≤(p:Int)) (by omega)
 obtain ⟨W,hW,kW,BR,sW⟩:=box1 w
 have hone:=dyS_one' sW (hR.kept kW)
 have lp:=lt_of_cell cp
 have lu:=lt_of_cell cu
 simp only at lp lu
 have HC:=hid hc
 have HM:=hid hm
 have HO:=hid hone
 have HB:=hid hb
 have CP:=hid cp
 have CU:=hid cu
 obtain ⟨lb,b0,b1,b2,-⟩:=hb.facts
 clear hc hm hone hb hR hd hT x1 x2 hl p1 p2
 have ho:cutD d.neg d.m d.e false p up=dirD d p up:=rfl
 rw [ho] at HC
 clear ho
 generalize dirD d p up=o at *
 have HK:=hid kW
 have HR:=hid BR
 have HW:=hid hW
 clear hW kW BR sW
 generalize d.neg=nd at *
 generalize d.e=ed at *
 go_enter Tryz.func169,Tryz.ntmps169
 go_wp2_with (go_at_call 170;rw [←HW.out];refine (HM.out _ (HK.out.trans (kept_alloc _ _)) _ HO.out).mono ?_;rintro e w1 ⟨rfl,q⟩;have K:=hid (HK.out.trans ((kept_alloc _ _).trans q));have hr:=HR.out.kept ((kept_alloc _ _).trans q);have HR2:=hid hr;clear q hr b0 b1 b2 cp cu;have cp:=cell_kept K.out CP.out;have cu:=cell_kept K.out CU.out;obtain ⟨-,b0,b1,b2,-⟩:=(HB.out.kept K.out).facts)
 refine (HC.out _ K.out).mono ?_
 rintro e w2 ⟨q,⟨h0,u,rfl,hd⟩ | ⟨h0,rfl⟩⟩
 ·obtain ⟨A', l', c', rfl, hd, g1, g2⟩ := dyR_parts hd
  have hr:=HR2.out.kept q
  obtain ⟨_,r0,r1,r2,f0,f1,f2⟩:=hr.facts
  have HD:=hid hd
  have H0:=hid h0
  have HR3:=hid hr
  have Q:=hid q
  clear hd h0 hr q
  simp only []
  go_wp2_with fail
  exact ret_dy (HR3.out.laid _ _ _) rfl rfl rfl ⟨dyW_kept (K.out.trans Q.out) (Nat.le_refl _),.inl ⟨H0.out,_,rfl,(HD.out.dyW HR3.out (noLimb_bool _) (noLimb_slice _ _ _) (noLimb_i64 _)).dyR g1 g2⟩⟩
 ·exact ⟨rfl,K.out.trans q,.inr ⟨h0,rfl⟩⟩
theorem boxes4 (w:World)(x y z p u:Value):∃ W,W=(((w.alloc (.cells #[x,y,z] 28)).alloc (.cells #[p] 3)).alloc (.cells #[u] 4)).alloc (.cells #[.bool false,.slice none 0 0,.int .i64 0] 28) ∧
 Kept w W∧Blk W w.heap.size x y z∧W.cell? ⟨w.heap.size+1,0,none⟩=some p∧W.cell? ⟨w.heap.size+1+1,0,none⟩=some u∧Blk W (w.heap.size+1+1+1) (.bool false) (.slice none 0 0) (.int .i64 0) :=
 ⟨_, rfl, (((kept_alloc _ _).trans (kept_alloc _ _)).trans (kept_alloc _ _)).trans (kept_alloc _ _), blk_alloc (blk_alloc (blk_alloc (blk_new _ _ _ _) _) _) _,
  cell_kept (kept_alloc _ _) (cell_kept (kept_alloc _ _) (new1 _ _ _ _)),cell_kept (kept_alloc _ _) (new2 _ _ _ _ _),blk_new3 _ _ _ _ _ _ _⟩
theorem dyR_split {w:World}{v:Value}{d:Dy}(h:DyR w v d.raw):∃ A l c,v=.agg #[.bool d.neg,.slice A l c,.int .i64 d.e]∧DyR w (.agg #[.bool d.neg,.slice A l c,.int .i64 d.e]) d.raw:=by
 obtain ⟨A,l,c,rfl,-,-,-,-⟩:=h.shape
 exact ⟨A,l,c,rfl,h⟩
theorem directed_c {w:World}{v:Value}{d:Dy}{p:Nat}{up:Bool}(hv:DyR w v d.raw)(hd:d.Ok)(hT:Tab w)(p1:1≤p)(p2:p≤2000) :
 Calls Tryz.prog 123 #[v,.int .i64 p,.bool up] w (RetE (dirD d p up).raw w):=by
 have hmf:∀ (fn:Fn) (first cap:Array Value) (w:World),(Instr.makeFunc fn first cap).run Tryz.prog w=.ok (.func fn first cap) w:=fun _ _ _ _=>rfl
 obtain ⟨A,l,c,rfl,hv⟩:=dyR_split hv
 obtain ⟨W,hW,kW,B0,cp,cu,BR⟩:=boxes4 w (.bool d.neg) (.slice A l c) (.int .i64 d.e) (.int .i64 p) (.bool up)
 have hf:=face_cR (w:=W) (K:=169) (cap:=#[.pointer (some ⟨w.heap.size+1,0,none⟩),.pointer (some ⟨w.heap.size,0,none⟩),.pointer (some ⟨w.heap.size+1+1,0,none⟩)]) (o:=(dirD d p up).raw)
  (fun w1 k=>directed1_c hd (hT.kept (kW.trans k)) p1 p2 (cell_kept k cp) ⟨A,l,c,B0.kept k,hv.kept (kW.trans k)⟩ (cell_kept k cu)) (dirD_bad d p up) (fun _=>rfl)
 have HF:=hid hf
 have HW:=hid hW
 have HK:=hid kW
 have HR:=hid BR
 clear hf hW kW B0 cp cu BR hv hd hT p1 p2
 generalize dirD d p up=o at *
 generalize d.neg=nd at *
 generalize d.e=ed at *
 go_enter Tryz.func123,Tryz.ntmps123
 go_wp2_with (go_at_call 168;rw [←HW.out];refine HF.out.mono ?_;rintro e w1 ⟨q,u,rfl,hd⟩;obtain ⟨A',l',c',rfl,hd,g3,g4⟩:=dyR_parts hd;have HD:=hid hd;have hb2:=HR.out.kept q;obtain ⟨_,c0,c1,c2,f0,f1,f2⟩:=hb2.facts;have HB2:=hid hb2;clear hd hb2)
 exact ret_dy2 (HB2.out.laid _ _ _) rfl rfl rfl ⟨dyW_kept (HK.out.trans q) (by omega),_,rfl,(HD.out.dyW HB2.out (noLimb_bool _) (noLimb_slice _ _ _) (noLimb_i64 _)).dyR g3 g4⟩
theorem boxes1r (w:World)(x y z:Value):∃ W,W=(w.alloc (.cells #[x,y,z] 28)).alloc (.cells #[.bool false,.slice none 0 0,.int .i64 0] 28) ∧
 Kept w W∧Blk W w.heap.size x y z∧Blk W (w.heap.size+1) (.bool false) (.slice none 0 0) (.int .i64 0) :=
 ⟨_,rfl,(kept_alloc _ _).trans (kept_alloc _ _),blk_alloc (blk_new _ _ _ _) _,blk_new1 _ _ _ _ _⟩
theorem Down_c {w:World}{v:Value}{d:Dy}{p:Nat}(hv:DyR w v d.raw)(hd:d.Ok)(hT:Tab w)(p1:1≤p)(p2:p≤2000) :
 Calls Tryz.prog 91 #[v,.int .i64 p] w (RetE (dirD d p false).raw w):=by
 have hc:=fun w1 (k:Kept w w1)=>directed_c (up:=false) (hv.kept k) hd (hT.kept k) p1 p2
 obtain ⟨A,l,c,rfl,hv⟩:=dyR_split hv
 obtain ⟨W,hW,kW,B0,BR⟩:=boxes1r w (.bool d.neg) (.slice A l c) (.int .i64 d.e)
 have HC:=hid hc
 have HW:=hid hW
 have HK:=hid kW
 have HR:=hid BR
 clear hc hW kW B0 BR hv hd hT p1 p2
 generalize dirD d p false=o at *
 generalize d.neg=nd at *
 generalize d.e=ed at *
 go_enter Tryz.func91,Tryz.ntmps91
 go_wp2_with (go_at_call 123;rw [←HW.out];refine (HC.out _ HK.out).mono ?_;rintro e w1 ⟨q,u,rfl,hd⟩;obtain ⟨A',l',c',rfl,hd,g3,g4⟩:=dyR_parts hd;have HD:=hid hd;have hb2:=HR.out.kept q;obtain ⟨_,c0,c1,c2,f0,f1,f2⟩:=hb2.facts;have HB2:=hid hb2;clear hd hb2)
 exact ret_dy2 (HB2.out.laid _ _ _) rfl rfl rfl ⟨dyW_kept (HK.out.trans q) (by omega),_,rfl,(HD.out.dyW HB2.out (noLimb_bool _) (noLimb_slice _ _ _) (noLimb_i64 _)).dyR g3 g4⟩
theorem Up_c {w:World}{v:Value}{d:Dy}{p:Nat}(hv:DyR w v d.raw)(hd:d.Ok)(hT:Tab w)(p1:1≤p)(p2:p≤2000) :
 Calls Tryz.prog 92 #[v,.int .i64 p] w (RetE (dirD d p true).raw w):=by
 have hc:=fun w1 (k:Kept w w1)=>directed_c (up:=true) (hv.kept k) hd (hT.kept k) p1 p2
 obtain ⟨A,l,c,rfl,hv⟩:=dyR_split hv
 obtain ⟨W,hW,kW,B0,BR⟩:=boxes1r w (.bool d.neg) (.slice A l c) (.int .i64 d.e)
 have HC:=hid hc
 have HW:=hid hW
 have HK:=hid kW
 have HR:=hid BR
 clear hc hW kW B0 BR hv hd hT p1 p2
 generalize dirD d p true=o at *
 generalize d.neg=nd at *
 generalize d.e=ed at *
 go_enter Tryz.func92,Tryz.ntmps92
 go_wp2_with (go_at_call 123;rw [←HW.out];refine (HC.out _ HK.out).mono ?_;rintro e w1 ⟨q,u,rfl,hd⟩;obtain ⟨A',l',c',rfl,hd,g3,g4⟩:=dyR_parts hd;have HD:=hid hd;have hb2:=HR.out.kept q;obtain ⟨_,c0,c1,c2,f0,f1,f2⟩:=hb2.facts;have HB2:=hid hb2;clear hd hb2)
 exact ret_dy2 (HB2.out.laid _ _ _) rfl rfl rfl ⟨dyW_kept (HK.out.trans q) (by omega),_,rfl,(HD.out.dyW HB2.out (noLimb_bool _) (noLimb_slice _ _ _) (noLimb_i64 _)).dyR g3 g4⟩
theorem dyS_two {w:World}{s s':Value}{d d':Dy}{n:Nat}(hn:w.heap.size=n)(h:DyR w (.agg #[.bool d.neg,s,.int .i64 d.e]) d.raw)(h':DyR w (.agg #[.bool d'.neg,s',.int .i64 d'.e]) d'.raw) :
 DyS (w.alloc (.cells #[.bool d.neg,s,.int .i64 d.e,.bool d'.neg,s',.int .i64 d'.e] 28)) (.slice (some ⟨n,0,none⟩) 2 2) [d,d']:=by
 subst hn
 refine ⟨_,2,rfl,Nat.le_refl _,fun _=>⟨_,_,rfl,fun i x hi=>?_⟩⟩
 have hb:=heap_alloc_new w (.cells #[.bool d.neg,s,.int .i64 d.e,.bool d'.neg,s',.int .i64 d'.e] 28)
 have hlt:i<2:=by
  have:=(List.getElem?_eq_some_iff.1 hi).1
  simpa using this
 rcases i with _ | _ | i
 ·simp at hi; subst hi
  exact ⟨s,cell_of_block hb 0 _ rfl,cell_of_block hb 1 _ rfl,cell_of_block hb 2 _ rfl,h.kept (kept_alloc _ _)⟩
 ·simp at hi; subst hi
  exact ⟨s',cell_of_block hb 3 _ rfl,cell_of_block hb 4 _ rfl,cell_of_block hb 5 _ rfl,h'.kept (kept_alloc _ _)⟩
 ·omega
def quotZ (a b:Dy) (p:Nat) (up:Bool):Outc Dy:=if b.m=0 then bad 4 else quotD a b p up
theorem quotZ_ok (a b:Dy)(p:Nat)(up:Bool):(quotZ a b p up).Ok:=by
 unfold quotZ
 split
 ·exact bad_ok _
 ·exact quotD_ok _ _ _ _
theorem quot1_c {w:World}{x y:Dy}{p:Nat}{up:Bool}{bp bx bY bu:Nat}(hx:x.Ok)(hy:y.Ok)(hT:Tab w)(p1:1≤p)(p2:p≤2000)
 (cp:w.cell? ⟨bp,0,none⟩=some (.int .i64 p)) (cx:BlkD w bx x) (cy:BlkD w bY y) (cu:w.cell? ⟨bu,0,none⟩=some (.bool up)) :
 Calls Tryz.prog 173 #[.pointer (some ⟨bp,0,none⟩),.pointer (some ⟨bx,0,none⟩),.pointer (some ⟨bY,0,none⟩),.pointer (some ⟨bu,0,none⟩)] w (Goes 185 (quotZ x y p up).raw w):=by
 obtain ⟨A,l,c,hbx,hRx⟩:=cx
 obtain ⟨A2,l2,c2,hby,hRy⟩:=cy
 obtain ⟨W,hW,kW,BR,sW⟩:=box1 w
 have htwo:=dyS_two sW (hRx.kept kW) (hRy.kept kW)
 have hm:=fun w1 (k:Kept w w1) v (hv:DyS w1 v [x,y])=>rmay_c hv (by intro z hz;simp at hz;rcases hz with rfl | rfl;exact hx;exact hy) (by simp) (by omega:(1:Int)≤(p:Int)) (by omega)
 have HM:=hid hm
 have HO:=hid htwo
 have HW:=hid hW
 have HK:=hid kW
 have HR:=hid BR
 have HBX:=hid hbx
 have HBY:=hid hby
 have CP:=hid cp
 have CU:=hid cu
 have lp:=lt_of_cell cp
 have lu:=lt_of_cell cu
 simp only at lp lu
 obtain ⟨lbx,x0,x1,x2,-⟩:=hbx.facts
 obtain ⟨lby,y0,y1,y2,-⟩:=hby.facts
 clear hm htwo hW kW BR sW hbx hby
 by_cases h0:y.m=0
 ·unfold quotZ
  rw [if_pos h0]
  have hl2:l2=0:=by
   obtain ⟨A',l',c',he,hl',-,-,-⟩:=hRy.shape
   injection he with he;injection he with he
   simp only [List.cons.injEq,and_true] at he
   have e1:=he.2.1
   injection e1 with _ e2 _
   rw [e2,hl'];simp only [Dy.raw];rw [h0,limbs_zero];rfl
  subst hl2
  clear hRx hRy hx hy hT p1 p2 h0
  generalize x.neg=n1 at *
  generalize x.e=e1 at *
  generalize y.neg=n2 at *
  generalize y.e=e2 at *
  go_enter Tryz.func173,Tryz.ntmps173
  go_wp2_with (first
   | (go_at_call 170;rw [←HW.out];refine (HM.out _ (HK.out.trans (kept_alloc _ _)) _ HO.out).mono ?_;rintro e w1 ⟨rfl,q⟩;have K:=hid (HK.out.trans ((kept_alloc _ _).trans q));have hr:=HR.out.kept ((kept_alloc _ _).trans q);have HR2:=hid hr;clear q hr x0 x1 x2 y0 y1 y2 cp cu;have cp:=cell_kept K.out CP.out;have cu:=cell_kept K.out CU.out;obtain ⟨-,x0,x1,x2,-⟩:=(HBX.out.kept K.out).facts;obtain ⟨-,y0,y1,y2,-⟩:=(HBY.out.kept K.out).facts)
   | (go_at_call 174;refine (must_cR _ _ _).mono ?_;rintro e w3 ⟨he,rfl⟩;obtain rfl:e=.panicked (failV 185 _):=he))
  exact ⟨rfl,K.out,.inr ⟨by decide,rfl⟩⟩
 ·unfold quotZ
  rw [if_neg h0]
  have bx1:=bl_of_len x.m 64 hx.len
  have by1:=bl_of_len y.m 64 hy.len
  have xl:=hx.lo
  have xh:=hx.hi
  have yl:=hy.lo
  have yh:=hy.hi
  obtain ⟨kk,hK⟩:∃ kk,kk=quotK x y p:=⟨_,rfl⟩
  have hKle:kk≤6200:=by rw [hK];unfold quotK;omega
  have limx:Lim w (.slice A l c) (limbs x.m):=by
   obtain ⟨A',l',c',he,-,hlim,-,-⟩:=hRx.shape
   injection he with he;injection he with he
   simp only [List.cons.injEq,and_true] at he
   rw [he.2.1];exact hlim
  have limy:Lim w (.slice A2 l2 c2) (limbs y.m):=by
   obtain ⟨A',l',c',he,-,hlim,-,-⟩:=hRy.shape
   injection he with he;injection he with he
   simp only [List.cons.injEq,and_true] at he
   rw [he.2.1];exact hlim
  have hl2:0<l2:=by
   obtain ⟨A',l',c',he,hl',-⟩:=limy.shape
   injection he with e1 e2 e3
   rw [e2,hl'];exact length_limbs_pos y.m h0
  have hs1:=fun w1 (k:Kept w w1)=>size_c (limx.kept k) (by have:=hx.len;omega)
  have hs2:=fun w1 (k:Kept w w1)=>size_c (limy.kept k) (by have:=hy.len;omega)
  have hle:=fun w1 (k:Kept w w1)=>left_c (limx.kept k) kk (by have:=hx.len;omega) (by omega)
  have blX:bl (x.m*2^kk)≤10296:=by
   by_cases hz:x.m=0
   ·rw [hz,Nat.zero_mul,bl_zero];omega
   ·rw [bl_mul_pow _ _ hz];omega
  have lenX:=limbs_len_bl (x.m*2^kk) 161 (by omega)
  have hqr:=fun w1 u (k:Kept w w1) (hu:Lim w1 u (limbs (x.m*2^kk)))=>quorem_c hu (limy.kept k) (by omega) (by have:=hy.len;omega) h0
  have hcu:=fun w1 u (rb:Bool) (k:Kept w w1) (hu:Lim w1 u (limbs (x.m*2^kk/y.m)))=>cut_c (v:=u) (m:=x.m*2^kk/y.m) (p:=p) (e:=x.e-y.e-kk) (x.neg != y.neg) rb up (w:=w1)
   ⟨hu,Nat.le_trans (limbs_length_mono (Nat.div_le_self _ _)) (by omega),by omega,by omega,p1,p2,hT.kept k⟩
  have hout:quotD x y p up=cutD (x.neg != y.neg) (x.m*2^kk/y.m) (x.e-y.e-kk) (decide (¬x.m*2^kk%y.m=0)) p up:=by unfold quotD;rw [hK]
  obtain ⟨o,ho⟩:∃ o,o=quotD x y p up:=⟨_,rfl⟩
  have hoc:=ho.trans hout
  have hrl:∀ (w1:World) (v:Value),Lim w1 v (limbs (x.m*2^kk%y.m))→∃ A l c,v=.slice A l c∧decide (0<l)=decide (¬x.m*2^kk%y.m=0):=by
   intro w1 v hv
   obtain ⟨A,l,c,rfl,hl,-⟩:=hv.shape
   refine ⟨A,l,c,rfl,?_⟩
   rw [hl]
   by_cases hz:x.m*2^kk%y.m=0
   ·rw [hz,limbs_zero];rfl
   ·have := length_limbs_pos _ hz
    simp [hz];omega
  rw [←ho]
  obtain ⟨nb,hnb⟩:∃ nb,(x.neg != y.neg)=nb:=⟨_,rfl⟩
  have hnb1:((!x.neg)==y.neg)=nb:=by rw [←hnb];cases x.neg<;>cases y.neg<;>rfl
  have hnb2:(!(x.neg==y.neg))=nb:=by rw [←hnb];cases x.neg<;>cases y.neg<;>rfl
  rw [hnb] at hcu hoc
  obtain ⟨s1,hs1'⟩:∃ s:Int,(p:Int)+1=s:=⟨_,rfl⟩
  obtain ⟨s2,hs2'⟩:∃ s:Int,s1+(bl y.m:Int)=s:=⟨_,rfl⟩
  obtain ⟨s3,hs3'⟩:∃ s:Int,s2-(bl x.m:Int)=s:=⟨_,rfl⟩
  have hw1:IntKind.i64.wrap ((p:Int)+1)=s1:=by simp [IntKind.wrap_i64];omega
  have hw2:IntKind.i64.wrap (s1+(bl y.m:Int))=s2:=by simp [IntKind.wrap_i64];omega
  have hw3:IntKind.i64.wrap (s2-(bl x.m:Int))=s3:=by simp [IntKind.wrap_i64];omega
  have hmx:max 0 s3=(kk:Int):=by rw [hK];unfold quotK;omega
  obtain ⟨d1,hd1⟩:∃ d:Int,x.e-y.e=d:=⟨_,rfl⟩
  obtain ⟨d2,hd2⟩:∃ d:Int,d1-(kk:Int)=d:=⟨_,rfl⟩
  have hw4:IntKind.i64.wrap (x.e-y.e)=d1:=by rw [hd1];simp [IntKind.wrap_i64];omega
  have hw5:IntKind.i64.wrap (d1-(kk:Int))=d2:=by rw [hd2];simp [IntKind.wrap_i64];omega
  rw [hd1,hd2] at hcu hoc
  have hcu2:=fun w1 u (k:Kept w w1) (hu:Lim w1 u (limbs (x.m*2^kk/y.m)))=>hcu w1 u (decide (¬x.m*2^kk%y.m=0)) k hu
  rw [←hoc] at hcu2
  have H1:=hid hs1
  have H2:=hid hs2
  have HL:=hid hle
  have HQ:=hid hqr
  have HC:=hid hcu2
  have HRL:=hid hrl
  have hl2d:decide (0<l2)=true:=by simp [hl2]
  clear hs1 hs2 hle hqr hcu hcu2 hrl hl2 hRx hRy hx hy hT p1 p2 h0 bx1 by1 xl xh yl yh limx limy blX lenX hout ho hoc hnb hs1' hs2' hs3' hd1 hd2 hK hKle
  obtain ⟨rb,hrb⟩:∃ rb,decide (¬x.m*2^kk%y.m=0)=rb:=⟨_,rfl⟩
  rw [hrb] at HC HRL
  clear hrb
  generalize limbs (x.m*2^kk)=xs at *
  generalize bl x.m=b1 at *
  generalize bl y.m=b2 at *
  generalize x.neg=n1 at *
  generalize x.e=e1 at *
  generalize y.neg=n2 at *
  generalize y.e=e2 at *
  go_enter Tryz.func173,Tryz.ntmps173
  go_wp2_with (first
   | (go_at_call 170;rw [←HW.out];refine (HM.out _ (HK.out.trans (kept_alloc _ _)) _ HO.out).mono ?_;rintro e w1 ⟨rfl,q⟩;have K:=hid (HK.out.trans ((kept_alloc _ _).trans q));have hr:=HR.out.kept ((kept_alloc _ _).trans q);have HR2:=hid hr;clear q hr x0 x1 x2 y0 y1 y2 cp cu;have cp:=cell_kept K.out CP.out;have cu:=cell_kept K.out CU.out;obtain ⟨-,x0,x1,x2,-⟩:=(HBX.out.kept K.out).facts;obtain ⟨-,y0,y1,y2,-⟩:=(HBY.out.kept K.out).facts)
   | (go_at_call 174;refine (must_cR _ _ _).mono ?_;rintro e w3 ⟨he,rfl⟩;obtain rfl:e=.returned (.tuple #[]):=he))
  clear x0 x1 x2 y0 y1 y2 cp cu hl2d
  refine region_lin (m:=12) (V:=VL [(vE (.int .i64 p)),(vE (.int .i64 s1)),(vP bY 1),(vE (.slice A2 l2 c2)),(vE (.int .i64 b2)),(vE (.int .i64 s2)),(vP bx 1),(vE (.slice A l c)),(vE (.int .i64 b1)),(vE (.int .i64 s3)),(vE (.int .i64 kk)),(vE (.int .i64 kk))])
   (by kernel_rfl) rfl (by kernel_rfl) (by kernel_rfl) (by kernel_rfl) (mono_of _ ⟨mE,mE,mE,mE,mE,mE,mE,mE,mE,mE,mE,mE,trivial⟩) (steps_of ⟨
     (fun aF wF F=>by have s0:aF.tmps.getD 0 undef=(.pointer (some ⟨bp,0,none⟩)):=F.o 0;exact sw (by have cq:=cell_kept F.kept (cell_kept K.out CP.out);go_simp) rfl),(fun aF wF F=>by have s18:=F.v 0 18;exact sv rfl),(fun aF wF F=>by have s2:aF.tmps.getD 2 undef=(.pointer (some ⟨bY,0,none⟩)):=F.o 2;exact sv rfl),(fun aF wF F=>by have s20:=F.v 2 20;have c0:=cell_at (HBY.out.kept K.out) F.kept 1 _ rfl;exact sv rfl),(fun aF wF F=>by have s21:=F.v 3 21;exact sQ (H2.out _ (K.out.trans F.kept)) fun _ _ h=>h),(fun aF wF F=>by have s19:=F.v 1 19;have s22:=F.v 4 22;exact sv rfl),(fun aF wF F=>by have s1:aF.tmps.getD 1 undef=(.pointer (some ⟨bx,0,none⟩)):=F.o 1;exact sv rfl),(fun aF wF F=>by have s24:=F.v 6 24;have c0:=cell_at (HBX.out.kept K.out) F.kept 1 _ rfl;exact sv rfl),(fun aF wF F=>by have s25:=F.v 7 25;exact sQ (H1.out _ (K.out.trans F.kept)) fun _ _ h=>h),(fun aF wF F=>by have s23:=F.v 5 23;have s26:=F.v 8 26;exact sv rfl),(fun aF wF F=>by have s27:=F.v 9 27;exact sv rfl),(fun aF wF F=>by have s28:=F.v 10 28;exact sv rfl),
     trivial⟩) ?_
  intro u w1 k1 hu
  simp only [puts,slotOf,if_true,Act.put,z1,z2,z3,z4,z5,z6,z7,hv hu 0,hv hu 1,hv hu 2,hv hu 3,hv hu 4,hv hu 5,hv hu 6,hv hu 7,hv hu 8,hv hu 9,hv hu 10,hv hu 11]
  clear hu
  have K1:=hid (K.out.trans k1)
  have HK1:=hid k1
  clear k1 hw1 hw2 hw3 hmx
  go_wp2_with fail
  refine region_lin (m:=12) (V:=VL [(vP bx 1),(vE (.slice A l c)),(vE (.int .i64 kk)),(fun v wv=>Lim wv v (xs)),(vP bY 1),(vE (.slice A2 l2 c2)),(fun v wv=>∃ q r,v=.tuple #[q,r]∧Lim wv q (limbs (x.m*2^kk/y.m))∧Lim wv r (limbs (x.m*2^kk%y.m))),(fun v wv=>∃ q r,v=.tuple #[q,r]∧Lim wv q (limbs (x.m*2^kk/y.m))∧Lim wv r (limbs (x.m*2^kk%y.m))),(fun v wv=>Lim wv v (limbs (x.m*2^kk/y.m))),(fun v wv=>Lim wv v (limbs (x.m*2^kk%y.m))),(fun v wv=>Lim wv v (limbs (x.m*2^kk/y.m))),(fun v wv=>Lim wv v (limbs (x.m*2^kk%y.m)))])
   (by kernel_rfl) rfl (by kernel_rfl) (by kernel_rfl) (by kernel_rfl) (mono_of _ ⟨mE,mE,mE,mL,mE,mE,fun v w w' k h=>by obtain ⟨q,r,e,a,b⟩:=h;exact ⟨q,r,e,a.kept k,b.kept k⟩,fun v w w' k h=>by obtain ⟨q,r,e,a,b⟩:=h;exact ⟨q,r,e,a.kept k,b.kept k⟩,mL,mL,mL,mL,trivial⟩) (steps_of ⟨
     (fun aF wF F=>by have s1:aF.tmps.getD 1 undef=(.pointer (some ⟨bx,0,none⟩)):=F.o 1;exact sv rfl),(fun aF wF F=>by have s30:=F.v 0 30;have c0:=cell_at (HBX.out.kept K1.out) F.kept 1 _ rfl;exact sv rfl),(fun aF wF F=>by have s5:aF.tmps.getD 5 undef=(.int .i64 kk):=F.o 5;exact sv rfl),(fun aF wF F=>by have s31:=F.v 1 31;have s32:=F.v 2 32;exact sL (HL.out _ (K1.out.trans F.kept)) fun _ _ h=>h),(fun aF wF F=>by have s2:aF.tmps.getD 2 undef=(.pointer (some ⟨bY,0,none⟩)):=F.o 2;exact sv rfl),(fun aF wF F=>by have s34:=F.v 4 34;have c0:=cell_at (HBY.out.kept K1.out) F.kept 1 _ rfl;exact sv rfl),(fun aF wF F=>by have s33:=F.p 3 33;have s35:=F.v 5 35;exact step_good (by simp [Region.wanted]) (by go_simp) (HQ.out _ _ (K1.out.trans F.kept) s33) (fun _ _ h=>RetQR.good h) (fun _ _ h=>h)),(fun aF wF F=>by have s36:=F.p 6 36;exact step_val (by simp [Region.wanted]) rfl s36),(fun aF wF F=>by have s29:=F.p 7 29;obtain ⟨q,r,e,a,b⟩:=s29;exact step_val (by simp [Region.wanted]) (by go_simp) a),(fun aF wF F=>by have s29:=F.p 7 29;obtain ⟨q,r,e,a,b⟩:=s29;exact step_val (by simp [Region.wanted]) (by go_simp) b),(fun aF wF F=>by have s37:=F.p 8 37;exact step_val (by simp [Region.wanted]) rfl s37),(fun aF wF F=>by have s38:=F.p 9 38;exact step_val (by simp [Region.wanted]) rfl s38),
     trivial⟩) ?_
  intro u w1 k1 hu
  have p33:=hp hu 3
  have p36:=hp hu 6
  have p29:=hp hu 7
  have p37:=hp hu 8
  have p38:=hp hu 9
  have p6:=hp hu 10
  have p7:=hp hu 11
  simp only [puts,slotOf,if_true,Act.put,z1,z2,z3,z4,z5,z6,z7,hv hu 0,hv hu 1,hv hu 2,hv hu 4,hv hu 5]
  clear hu
  generalize u 3=v33 at *
  generalize u 6=v36 at *
  generalize u 7=v29 at *
  generalize u 8=v37 at *
  generalize u 9=v38 at *
  generalize u 10=v6 at *
  generalize u 11=v7 at *
  have K2:=hid (K1.out.trans k1)
  have HR3:=hid (HR2.out.kept (HK1.out.trans k1))
  have P37:=hid p6
  obtain ⟨A3,l3,c3,rfl,hl3⟩:=HRL.out _ _ p7
  clear p33 p36 p29 p37 p38 p6 p7 k1 HL HQ H1 H2
  obtain ⟨-,x0,x1,x2,-⟩:=(HBX.out.kept K2.out).facts
  obtain ⟨-,y0,y1,y2,-⟩:=(HBY.out.kept K2.out).facts
  have cp:=cell_kept K2.out CP.out
  have cu:=cell_kept K2.out CU.out
  go_wp2_with fail
  refine (HC.out _ _ K2.out P37.out).mono ?_
  rintro e w2 ⟨q,⟨h0,u,rfl,hd⟩ | ⟨h0,rfl⟩⟩
  ·obtain ⟨A', l', c', rfl, hd, g1, g2⟩ := dyR_parts hd
   have hr:=HR3.out.kept q
   obtain ⟨_,r0,r1,r2,f0,f1,f2⟩:=hr.facts
   have HD:=hid hd
   have H0:=hid h0
   have HR4:=hid hr
   have Q:=hid q
   clear hd h0 hr q
   simp only []
   go_wp2_with fail
   exact ret_dy (HR4.out.laid _ _ _) rfl rfl rfl ⟨dyW_kept (K2.out.trans Q.out) (Nat.le_refl _),.inl ⟨H0.out,_,rfl,(HD.out.dyW HR4.out (noLimb_bool _) (noLimb_slice _ _ _) (noLimb_i64 _)).dyR g1 g2⟩⟩
  ·exact ⟨rfl,K2.out.trans q,.inr ⟨h0,rfl⟩⟩
theorem quotZ_bad (a b:Dy)(p:Nat)(up:Bool):(quotZ a b p up).raw.k≠0→(quotZ a b p up).raw.v=rz:=by
 intro h
 show ((quotZ a b p up).v).raw=rz
 rw [(quotZ_ok a b p up).2 h,dz_raw]
theorem boxes5 (w:World)(x y z x' y' z' p u:Value):∃ W,W=((((w.alloc (.cells #[x,y,z] 28)).alloc (.cells #[x',y',z'] 28)).alloc (.cells #[p] 3)).alloc (.cells #[u] 4)).alloc (.cells #[.bool false,.slice none 0 0,.int .i64 0] 28) ∧
 Kept w W∧Blk W w.heap.size x y z∧Blk W (w.heap.size+1) x' y' z'∧W.cell? ⟨w.heap.size+1+1,0,none⟩=some p∧W.cell? ⟨w.heap.size+1+1+1,0,none⟩=some u∧Blk W (w.heap.size+1+1+1+1) (.bool false) (.slice none 0 0) (.int .i64 0):=by
 have k1:=kept_alloc w (.cells #[x,y,z] 28)
 refine ⟨_,rfl,(((k1.trans (kept_alloc _ _)).trans (kept_alloc _ _)).trans (kept_alloc _ _)).trans (kept_alloc _ _),blk_alloc (blk_alloc (blk_alloc (blk_alloc (blk_new _ _ _ _) _) _) _) _,blk_alloc (blk_alloc (blk_alloc (blk_new1 _ _ _ _ _) _) _) _,
  cell_kept (kept_alloc _ _) (cell_kept (kept_alloc _ _) (new2 _ _ _ _ _)),cell_kept (kept_alloc _ _) ?_,?_⟩
 ·have := new0 (((w.alloc (.cells #[x, y, z] 28)).alloc (.cells #[x', y', z'] 28)).alloc (.cells #[p] 3)) u 4
  simp only [World.size_alloc] at this
  exact this
 ·have := blk_new ((((w.alloc (.cells #[x, y, z] 28)).alloc (.cells #[x', y', z'] 28)).alloc (.cells #[p] 3)).alloc (.cells #[u] 4)) (.bool false) (.slice none 0 0) (.int .i64 0)
  simp only [World.size_alloc] at this
  exact this
theorem quot_c {w:World}{v v':Value}{x y:Dy}{p:Nat}{up:Bool}(hv:DyR w v x.raw)(hv':DyR w v' y.raw)(hx:x.Ok)(hy:y.Ok)(hT:Tab w)(p1:1≤p)(p2:p≤2000) :
 Calls Tryz.prog 129 #[v,v',.int .i64 p,.bool up] w (RetE (quotZ x y p up).raw w):=by
 have hmf:∀ (fn:Fn) (first cap:Array Value) (w:World),(Instr.makeFunc fn first cap).run Tryz.prog w=.ok (.func fn first cap) w:=fun _ _ _ _=>rfl
 obtain ⟨A,l,c,rfl,hv⟩:=dyR_split hv
 obtain ⟨A2,l2,c2,rfl,hv'⟩:=dyR_split hv'
 obtain ⟨W,hW,kW,B0,B1,cp,cu,BR⟩:=boxes5 w (.bool x.neg) (.slice A l c) (.int .i64 x.e) (.bool y.neg) (.slice A2 l2 c2) (.int .i64 y.e) (.int .i64 p) (.bool up)
 have hf:=face_cR (w:=W) (K:=173) (cap:=#[.pointer (some ⟨w.heap.size+1+1,0,none⟩),.pointer (some ⟨w.heap.size,0,none⟩),.pointer (some ⟨w.heap.size+1,0,none⟩),.pointer (some ⟨w.heap.size+1+1+1,0,none⟩)]) (o:=(quotZ x y p up).raw)
  (fun w1 k=>quot1_c hx hy (hT.kept (kW.trans k)) p1 p2 (cell_kept k cp) ⟨A,l,c,B0.kept k,hv.kept (kW.trans k)⟩ ⟨A2,l2,c2,B1.kept k,hv'.kept (kW.trans k)⟩ (cell_kept k cu)) (quotZ_bad x y p up) (fun _=>rfl)
 have HF:=hid hf
 have HW:=hid hW
 have HK:=hid kW
 have HR:=hid BR
 clear hf hW kW B0 B1 cp cu BR hv hv' hx hy hT p1 p2
 generalize quotZ x y p up=o at *
 generalize x.neg=nx at *
 generalize x.e=ex at *
 generalize y.neg=ny at *
 generalize y.e=ey at *
 go_enter Tryz.func129,Tryz.ntmps129
 go_wp2_with (go_at_call 168;rw [←HW.out];refine HF.out.mono ?_;rintro e w1 ⟨q,u,rfl,hd⟩;obtain ⟨A',l',c',rfl,hd,g3,g4⟩:=dyR_parts hd;have HD:=hid hd;have hb2:=HR.out.kept q;obtain ⟨_,c0,c1,c2,f0,f1,f2⟩:=hb2.facts;have HB2:=hid hb2;clear hd hb2)
 exact ret_dy2 (HB2.out.laid _ _ _) rfl rfl rfl ⟨dyW_kept (HK.out.trans q) (by omega),_,rfl,(HD.out.dyW HB2.out (noLimb_bool _) (noLimb_slice _ _ _) (noLimb_i64 _)).dyR g3 g4⟩
def rootZ (d:Dy) (p:Nat) (up:Bool):Outc Dy:=if d.neg then bad 4 else rootD d p up
theorem rootZ_ok (d:Dy)(p:Nat)(up:Bool):(rootZ d p up).Ok:=by
 unfold rootZ
 split
 ·exact bad_ok _
 ·exact rootD_ok _ _ _
theorem rootZ_bad (d:Dy)(p:Nat)(up:Bool):(rootZ d p up).raw.k≠0→(rootZ d p up).raw.v=rz:=by
 intro h
 show ((rootZ d p up).v).raw=rz
 rw [(rootZ_ok d p up).2 h,dz_raw]
theorem bl_isq (n:Nat):bl (isq n)≤bl n:=by
 refine bl_mono ?_
 have h:=(isq_spec n).1
 by_cases h0:isq n=0
 ·omega
 ·have := Nat.mul_le_mul_left (isq n) (Nat.pos_of_ne_zero h0)
  omega
theorem root1_c {w:World}{x:Dy}{p:Nat}{up:Bool}{bp bx bu:Nat}(hx:x.Ok)(hT:Tab w)(p1:1≤p)(p2:p≤2000)
 (cp:w.cell? ⟨bp,0,none⟩=some (.int .i64 p)) (cx:BlkD w bx x) (cu:w.cell? ⟨bu,0,none⟩=some (.bool up)) :
 Calls Tryz.prog 182 #[.pointer (some ⟨bp,0,none⟩),.pointer (some ⟨bx,0,none⟩),.pointer (some ⟨bu,0,none⟩)] w (Goes 185 (rootZ x p up).raw w):=by
 obtain ⟨A,l,c,hbx,hRx⟩:=cx
 obtain ⟨W,hW,kW,BR,sW⟩:=box1 w
 have hone:=dyS_one' sW (hRx.kept kW)
 have hm:=fun w1 (k:Kept w w1) v (hv:DyS w1 v [x])=>rmay_c hv (by intro z hz;simp at hz;subst hz;exact hx) (by simp) (by omega:(1:Int)≤(p:Int)) (by omega)
 have HM:=hid hm
 have HO:=hid hone
 have HW:=hid hW
 have HK:=hid kW
 have HR:=hid BR
 have HBX:=hid hbx
 have CP:=hid cp
 have CU:=hid cu
 have lp:=lt_of_cell cp
 have lu:=lt_of_cell cu
 simp only at lp lu
 obtain ⟨lbx,x0,x1,x2,-⟩:=hbx.facts
 clear hm hone hW kW BR sW hbx
 cases hn:x.neg
 ·have hz : rootZ x p up = rootD x p up := by unfold rootZ; rw [hn]; rfl
  rw [hz]
  rw [hn] at x0 HBX HO
  have bx1:=bl_of_len x.m 64 hx.len
  have xl:=hx.lo
  have xh:=hx.hi
  have limx:Lim w (.slice A l c) (limbs x.m):=by
   obtain ⟨A',l',c',he,-,hlim,-,-⟩:=hRx.shape
   injection he with he;injection he with he
   simp only [List.cons.injEq,and_true] at he
   rw [he.2.1];exact hlim
  obtain ⟨k0,hk0⟩:∃ k,k=rootK0 x p:=⟨_,rfl⟩
  obtain ⟨kk,hkk⟩:∃ k,k=rootK x p:=⟨_,rfl⟩
  have hk0le:k0≤4002:=by rw [hk0];unfold rootK0;omega
  have hkk':kk=if (x.e-k0)%2=0 then k0 else k0+1:=by rw [hkk,hk0];rfl
  have hev:(x.e-kk)%2=0:=by rw [hkk];exact rootK_even x p
  have hkle:kk≤4003:=by rw [hkk'];split<;>omega
  have hs1:=fun w1 (k:Kept w w1)=>size_c (limx.kept k) (by have:=hx.len;omega)
  have hle:=fun w1 (k:Kept w w1)=>left_c (limx.kept k) kk (by have:=hx.len;omega) (by omega)
  have blX:bl (x.m*2^kk)≤8100:=by
   by_cases hz:x.m=0
   ·rw [hz,Nat.zero_mul,bl_zero];omega
   ·rw [bl_mul_pow _ _ hz];omega
  have lenX:=limbs_len_bl (x.m*2^kk) 127 (by omega)
  have lenI:=limbs_len_bl (isq (x.m*2^kk)) 127 (by have:=bl_isq (x.m*2^kk);omega)
  have hsq:=fun w1 u (hu:Lim w1 u (limbs (x.m*2^kk)))=>square_c hu (by omega)
  have hti:=fun w1 u (hu:Lim w1 u (limbs (isq (x.m*2^kk))))=>times_c hu hu (by omega) (by omega)
  have lenS:(limbs (isq (x.m*2^kk)*isq (x.m*2^kk))).length≤127:=Nat.le_trans (limbs_length_mono (isq_spec (x.m*2^kk)).1) lenX
  have hor:=fun w1 u v (hu:Lim w1 u (limbs (isq (x.m*2^kk)*isq (x.m*2^kk)))) (hv:Lim w1 v (limbs (x.m*2^kk)))=>order_c hu hv (by omega) (by omega)
  obtain ⟨hh,hhh⟩:∃ h:Int,(x.e-kk)/2=h:=⟨_,rfl⟩
  obtain ⟨rb,hrb⟩:∃ rb,decide (¬isq (x.m*2^kk)*isq (x.m*2^kk)=x.m*2^kk)=rb:=⟨_,rfl⟩
  have hcm:(cmpN (isq (x.m*2^kk)*isq (x.m*2^kk)) (x.m*2^kk) != 0)=rb:=by
   rw [←hrb]
   unfold cmpN
   have:=(isq_spec (x.m*2^kk)).1
   by_cases h1:isq (x.m*2^kk)*isq (x.m*2^kk)<x.m*2^kk
   ·rw [if_pos h1];simp;omega
   ·rw [if_neg h1,if_pos (by omega)];simp;omega
  have hcu:=fun w1 u (k:Kept w w1) (hu:Lim w1 u (limbs (isq (x.m*2^kk))))=>cut_c (v:=u) (m:=isq (x.m*2^kk)) (p:=p) (e:=hh) false rb up (w:=w1)
   ⟨hu,by omega,by omega,by omega,p1,p2,hT.kept k⟩
  have hout:rootD x p up=cutD false (isq (x.m*2^kk)) hh rb p up:=by unfold rootD;rw [←hkk,hhh,hrb]
  obtain ⟨o,ho⟩:∃ o,o=rootD x p up:=⟨_,rfl⟩
  rw [←ho]
  rw [←ho.trans hout] at hcu
  obtain ⟨s1,hs1'⟩:∃ s:Int,2*(p:Int)=s:=⟨_,rfl⟩
  obtain ⟨s2,hs2'⟩:∃ s:Int,s1+2=s:=⟨_,rfl⟩
  obtain ⟨s3,hs3'⟩:∃ s:Int,s2-(bl x.m:Int)=s:=⟨_,rfl⟩
  have hw1:IntKind.i64.wrap (2*(p:Int))=s1:=by simp [IntKind.wrap_i64];omega
  have hw2:IntKind.i64.wrap (s1+2)=s2:=by simp [IntKind.wrap_i64];omega
  have hw3:IntKind.i64.wrap (s2-(bl x.m:Int))=s3:=by simp [IntKind.wrap_i64];omega
  have hmx:max 0 s3=(k0:Int):=by rw [hk0];unfold rootK0;omega
  obtain ⟨d0,hd0⟩:∃ d:Int,x.e-(k0:Int)=d:=⟨_,rfl⟩
  obtain ⟨d1,hd1⟩:∃ d:Int,x.e-(kk:Int)=d:=⟨_,rfl⟩
  have hw4:IntKind.i64.wrap (x.e-(k0:Int))=d0:=by rw [hd0];simp [IntKind.wrap_i64];omega
  have hw5:IntKind.i64.wrap (x.e-(kk:Int))=d1:=by rw [hd1];simp [IntKind.wrap_i64];omega
  have hw6:IntKind.i64.wrap (d1.tdiv 2)=hh:=by
   have:d1.tdiv 2=hh:=by
    rw [←hhh,hd1]
    rw [hd1] at hev
    rw [Int.tdiv_eq_ediv]
    split<;>omega
   rw [this];simp [IntKind.wrap_i64];omega
  have H1:=hid hs1
  have HL:=hid hle
  have HSQ:=hid hsq
  have HTI:=hid hti
  have HOR:=hid hor
  have HC:=hid hcu
  have HW5:=hid hw5
  have HW6:=hid hw6
  have HCM:=hid hcm
  have hq1:IntKind.i64.wrap ((k0:Int)+1)=((k0+1:Nat):Int):=by simp [IntKind.wrap_i64];omega
  have hpar:d0.tmod 2=0↔(x.e-k0)%2=0:=by rw [hd0,←Int.dvd_iff_tmod_eq_zero,Int.dvd_iff_emod_eq_zero]
  have HP:=hid hpar
  have HKK:=hid hkk'
  clear hs1 hle hsq hti hor hcu hw5 hw6 hcm hpar hkk' hRx hx hT p1 p2 hz hn bx1 xl xh limx hk0 hkk hk0le hev hkle blX lenX lenI lenS hhh hrb hout ho hs1' hs2' hs3' hd0 hd1
  generalize bl x.m=b1 at *
  by_cases hpp:d0.tmod 2=0
  ·have hk := HKK.out
   rw [if_pos (HP.out.1 hpp)] at hk
   subst hk
   have hpb:(d0.tmod 2 != 0)=false:=by simp [hpp]
   have hpc:(d0.tmod 2==0)=true:=by simp [hpp]
   clear hpp HKK HP hq1
   generalize x.e=e1 at *
   go_enter Tryz.func182,Tryz.ntmps182
   go_wp2_with (first
    | (go_at_call 170;rw [←HW.out];refine (HM.out _ (HK.out.trans (kept_alloc _ _)) _ HO.out).mono ?_;rintro e w1 ⟨rfl,q⟩;have K:=hid (HK.out.trans ((kept_alloc _ _).trans q));have hr:=HR.out.kept ((kept_alloc _ _).trans q);have HR2:=hid hr;clear q hr x0 x1 x2 cp cu;have cp:=cell_kept K.out CP.out;have cu:=cell_kept K.out CU.out;obtain ⟨-,x0,x1,x2,-⟩:=(HBX.out.kept K.out).facts)
    | (go_at_call 174;refine (must_cR _ _ _).mono ?_;rintro e w3 ⟨he,rfl⟩;obtain rfl:e=.returned (.tuple #[]):=he))
   clear x0 x1 x2 cp cu
   refine region_lin (m:=9) (V:=VL [(vE (.int .i64 p)),(vE (.int .i64 s1)),(vE (.int .i64 s2)),(vP bx 1),(vE (.slice A l c)),(vE (.int .i64 b1)),(vE (.int .i64 s3)),(vE (.int .i64 kk)),(vE (.int .i64 kk))])
    (by kernel_rfl) rfl (by kernel_rfl) (by kernel_rfl) (by kernel_rfl) (mono_of _ ⟨mE,mE,mE,mE,mE,mE,mE,mE,mE,trivial⟩) (steps_of ⟨
      (fun aF wF F=>by have s0:aF.tmps.getD 0 undef=(.pointer (some ⟨bp,0,none⟩)):=F.o 0;exact sw (by have cq:=cell_kept F.kept (cell_kept K.out CP.out);go_simp) rfl),(fun aF wF F=>by have s15:=F.v 0 15;exact sv rfl),(fun aF wF F=>by have s16:=F.v 1 16;exact sv rfl),(fun aF wF F=>by have s1:aF.tmps.getD 1 undef=(.pointer (some ⟨bx,0,none⟩)):=F.o 1;exact sv rfl),(fun aF wF F=>by have s18:=F.v 3 18;have c0:=cell_at (HBX.out.kept K.out) F.kept 1 _ rfl;exact sv rfl),(fun aF wF F=>by have s19:=F.v 4 19;exact sQ (H1.out _ (K.out.trans F.kept)) fun _ _ h=>h),(fun aF wF F=>by have s17:=F.v 2 17;have s20:=F.v 5 20;exact sv rfl),(fun aF wF F=>by have s21:=F.v 6 21;exact sv rfl),(fun aF wF F=>by have s22:=F.v 7 22;exact sv rfl),
      trivial⟩) ?_
   intro u w1 k1 hu
   simp only [puts,slotOf,if_true,Act.put,z1,z2,z3,z4,z5,z6,z7,hv hu 0,hv hu 1,hv hu 2,hv hu 3,hv hu 4,hv hu 5,hv hu 6,hv hu 7,hv hu 8]
   clear hu
   have K1:=hid (K.out.trans k1)
   have HR3:=hid (HR2.out.kept k1)
   clear k1 u hw1 hw2 hw3 hmx
   obtain ⟨-,x0,x1,x2,-⟩:=(HBX.out.kept K1.out).facts
   go_wp2_with fail
   clear hpb hpc
   refine (HL.out _ K1.out).mono ?_
   rintro e w2 ⟨M,rfl,hM,q⟩
   have K2:=hid (K1.out.trans q)
   have HR4:=hid (HR3.out.kept q)
   have LM:=hid hM
   clear hM q x0 x1 x2
   simp only []
   go_wp2_with fail
   refine (HSQ.out _ _ LM.out).mono ?_
   rintro e w3 ⟨X,rfl,hX,q⟩
   have K3:=hid (K2.out.trans q)
   have HR5:=hid (HR4.out.kept q)
   have LX:=hid hX
   replace LM:=hid (LM.out.kept q)
   clear hX q hw4
   have hw5:=HW5.out
   have hw6:=HW6.out
   have hcm:=HCM.out
   simp only []
   go_wp2_with fail
   refine region_lin1 (m:=15) (V:=VL [(vE X),(vP bx 2),(vE (.int .i64 e1)),(vE (.int .i64 ((kk:Nat):Int))),(vE (.int .i64 d1)),(vE (.int .i64 hh)),(vE X),(vE X),(fun v wv=>Lim wv v (limbs (isq (x.m*2^kk)*isq (x.m*2^kk)))),(vE M),(vE (.int .i64 (cmpN (isq (x.m*2^kk)*isq (x.m*2^kk)) (x.m*2^kk)))),(vE (.bool rb)),(vE (.int .i64 p)),(vE (.bool up)),(fun v wv=>o.raw.k=0∧DyR wv v o.raw.v)])
    (by kernel_rfl) rfl rfl rfl (by kernel_rfl) (by kernel_rfl) (by kernel_rfl) (by kernel_rfl) (mono_of _ ⟨mE,mE,mE,mE,mE,mE,mE,mE,mL,mE,mE,mE,mE,mE,fun v w w' k h=>by first | exact h | exact h.kept k | exact ⟨h.1,h.2.kept k⟩,trivial⟩) (steps_of ⟨
      (fun aF wF F=>by have s6:aF.tmps.getD 6 undef=X:=F.o 6;exact sv rfl),(fun aF wF F=>by have s1:aF.tmps.getD 1 undef=(.pointer (some ⟨bx,0,none⟩)):=F.o 1;exact sv rfl),(fun aF wF F=>by have s38:=F.v 1 38;have c0:=cell_at (HBX.out.kept K3.out) F.kept 2 _ rfl;exact sv rfl),(fun aF wF F=>by have s4:aF.tmps.getD 4 undef=(.int .i64 ((kk:Nat):Int)):=F.o 4;exact sv rfl),(fun aF wF F=>by have s39:=F.v 2 39;have s40:=F.v 3 40;exact sw (by have hx:=HW5.out;push_cast at hx;go_simp) rfl),(fun aF wF F=>by have s41:=F.v 4 41;exact sv rfl),(fun aF wF F=>by have s6:aF.tmps.getD 6 undef=X:=F.o 6;exact sv rfl),(fun aF wF F=>by have s6:aF.tmps.getD 6 undef=X:=F.o 6;exact sv rfl),(fun aF wF F=>by have s43:=F.v 6 43;have s44:=F.v 7 44;exact sL (HTI.out _ _ (LX.out.kept F.kept)) fun _ _ h=>h),(fun aF wF F=>by have s5:aF.tmps.getD 5 undef=M:=F.o 5;exact sv rfl),(fun aF wF F=>by have s45:=F.p 8 45;have s46:=F.v 9 46;exact sQ (HOR.out _ _ _ s45 (LM.out.kept F.kept)) fun _ _ h=>h),(fun aF wF F=>by have s47:=F.v 10 47;exact sv rfl),(fun aF wF F=>by have s0:aF.tmps.getD 0 undef=(.pointer (some ⟨bp,0,none⟩)):=F.o 0;exact sw (by have cq:=cell_kept F.kept (cell_kept K3.out CP.out);go_simp) rfl),(fun aF wF F=>by have s2:aF.tmps.getD 2 undef=(.pointer (some ⟨bu,0,none⟩)):=F.o 2;exact sw (by have cq:=cell_kept F.kept (cell_kept K3.out CU.out);go_simp) rfl),(fun aF wF F=>by have s37:=F.v 0 37;have s42:=F.v 5 42;have s48:=F.v 11 48;have s49:=F.v 12 49;have s50:=F.v 13 50;exact sG (HC.out _ _ (K3.out.trans F.kept) (LX.out.kept F.kept)) (fun _ _ _ h0 h=>⟨h0,h⟩) (fun w2 k2 h0=>⟨F.defers,⟨K3.out.trans (F.kept.trans k2),.inr ⟨h0,rfl⟩⟩⟩)),
      trivial⟩) ?_
   intro u w1 k1 hu
   have p45:=hp hu 8
   have p51:=hp hu 14
   simp only [puts,slotOf,if_true,Act.put,z1,z2,z3,z4,z5,z6,z7,hv hu 0,hv hu 1,hv hu 2,hv hu 3,hv hu 4,hv hu 5,hv hu 6,hv hu 7,hv hu 9,hv hu 10,hv hu 11,hv hu 12,hv hu 13]
   clear hu
   generalize u 8=v45 at *
   generalize u 14=v51 at *
   obtain ⟨h0,hd⟩:=p51
   obtain ⟨A',l',c',rfl,hd,g1,g2⟩:=dyR_parts hd
   have hb:=HR5.out.kept k1
   obtain ⟨_,c0,c1,c2,f0,f1,f2⟩:=hb.facts
   have HD:=hid hd
   have H0:=hid h0
   have HB:=hid hb
   have K4:=hid (K3.out.trans k1)
   clear hd h0 hb k1 p45
   go_simp
   go_wp2_with fail
   exact ret_dy (HB.out.laid _ _ _) rfl rfl rfl ⟨dyW_kept K4.out (Nat.le_refl _),.inl ⟨H0.out,_,rfl,(HD.out.dyW HB.out (noLimb_bool _) (noLimb_slice _ _ _) (noLimb_i64 _)).dyR g1 g2⟩⟩
  ·have hk := HKK.out
   rw [if_neg (fun h=>hpp (HP.out.2 h))] at hk
   subst hk
   have hpb:(d0.tmod 2 != 0)=true:=by simp [hpp]
   have hpc:(d0.tmod 2==0)=false:=by simp [hpp]
   clear hpp HKK HP
   generalize x.e=e1 at *
   go_enter Tryz.func182,Tryz.ntmps182
   go_wp2_with (first
    | (go_at_call 170;rw [←HW.out];refine (HM.out _ (HK.out.trans (kept_alloc _ _)) _ HO.out).mono ?_;rintro e w1 ⟨rfl,q⟩;have K:=hid (HK.out.trans ((kept_alloc _ _).trans q));have hr:=HR.out.kept ((kept_alloc _ _).trans q);have HR2:=hid hr;clear q hr x0 x1 x2 cp cu;have cp:=cell_kept K.out CP.out;have cu:=cell_kept K.out CU.out;obtain ⟨-,x0,x1,x2,-⟩:=(HBX.out.kept K.out).facts)
    | (go_at_call 174;refine (must_cR _ _ _).mono ?_;rintro e w3 ⟨he,rfl⟩;obtain rfl:e=.returned (.tuple #[]):=he))
   clear x0 x1 x2 cp cu
   refine region_lin (m:=9) (V:=VL [(vE (.int .i64 p)),(vE (.int .i64 s1)),(vE (.int .i64 s2)),(vP bx 1),(vE (.slice A l c)),(vE (.int .i64 b1)),(vE (.int .i64 s3)),(vE (.int .i64 k0)),(vE (.int .i64 k0))])
    (by kernel_rfl) rfl (by kernel_rfl) (by kernel_rfl) (by kernel_rfl) (mono_of _ ⟨mE,mE,mE,mE,mE,mE,mE,mE,mE,trivial⟩) (steps_of ⟨
      (fun aF wF F=>by have s0:aF.tmps.getD 0 undef=(.pointer (some ⟨bp,0,none⟩)):=F.o 0;exact sw (by have cq:=cell_kept F.kept (cell_kept K.out CP.out);go_simp) rfl),(fun aF wF F=>by have s15:=F.v 0 15;exact sv rfl),(fun aF wF F=>by have s16:=F.v 1 16;exact sv rfl),(fun aF wF F=>by have s1:aF.tmps.getD 1 undef=(.pointer (some ⟨bx,0,none⟩)):=F.o 1;exact sv rfl),(fun aF wF F=>by have s18:=F.v 3 18;have c0:=cell_at (HBX.out.kept K.out) F.kept 1 _ rfl;exact sv rfl),(fun aF wF F=>by have s19:=F.v 4 19;exact sQ (H1.out _ (K.out.trans F.kept)) fun _ _ h=>h),(fun aF wF F=>by have s17:=F.v 2 17;have s20:=F.v 5 20;exact sv rfl),(fun aF wF F=>by have s21:=F.v 6 21;exact sv rfl),(fun aF wF F=>by have s22:=F.v 7 22;exact sv rfl),
      trivial⟩) ?_
   intro u w1 k1 hu
   simp only [puts,slotOf,if_true,Act.put,z1,z2,z3,z4,z5,z6,z7,hv hu 0,hv hu 1,hv hu 2,hv hu 3,hv hu 4,hv hu 5,hv hu 6,hv hu 7,hv hu 8]
   clear hu
   have K1:=hid (K.out.trans k1)
   have HR3:=hid (HR2.out.kept k1)
   clear k1 u hw1 hw2 hw3 hmx
   obtain ⟨-,x0,x1,x2,-⟩:=(HBX.out.kept K1.out).facts
   go_wp2_with fail
   clear hpb hpc hq1
   refine (HL.out _ K1.out).mono ?_
   rintro e w2 ⟨M,rfl,hM,q⟩
   have K2:=hid (K1.out.trans q)
   have HR4:=hid (HR3.out.kept q)
   have LM:=hid hM
   clear hM q x0 x1 x2
   simp only []
   go_wp2_with fail
   refine (HSQ.out _ _ LM.out).mono ?_
   rintro e w3 ⟨X,rfl,hX,q⟩
   have K3:=hid (K2.out.trans q)
   have HR5:=hid (HR4.out.kept q)
   have LX:=hid hX
   replace LM:=hid (LM.out.kept q)
   clear hX q hw4
   have hw5:=HW5.out
   have hw6:=HW6.out
   have hcm:=HCM.out
   simp only []
   go_wp2_with fail
   refine region_lin1 (m:=15) (V:=VL [(vE X),(vP bx 2),(vE (.int .i64 e1)),(vE (.int .i64 (((k0+1):Nat):Int))),(vE (.int .i64 d1)),(vE (.int .i64 hh)),(vE X),(vE X),(fun v wv=>Lim wv v (limbs (isq (x.m*2^(k0+1))*isq (x.m*2^(k0+1))))),(vE M),(vE (.int .i64 (cmpN (isq (x.m*2^(k0+1))*isq (x.m*2^(k0+1))) (x.m*2^(k0+1))))),(vE (.bool rb)),(vE (.int .i64 p)),(vE (.bool up)),(fun v wv=>o.raw.k=0∧DyR wv v o.raw.v)])
    (by kernel_rfl) rfl rfl rfl (by kernel_rfl) (by kernel_rfl) (by kernel_rfl) (by kernel_rfl) (mono_of _ ⟨mE,mE,mE,mE,mE,mE,mE,mE,mL,mE,mE,mE,mE,mE,fun v w w' k h=>by first | exact h | exact h.kept k | exact ⟨h.1,h.2.kept k⟩,trivial⟩) (steps_of ⟨
      (fun aF wF F=>by have s6:aF.tmps.getD 6 undef=X:=F.o 6;exact sv rfl),(fun aF wF F=>by have s1:aF.tmps.getD 1 undef=(.pointer (some ⟨bx,0,none⟩)):=F.o 1;exact sv rfl),(fun aF wF F=>by have s38:=F.v 1 38;have c0:=cell_at (HBX.out.kept K3.out) F.kept 2 _ rfl;exact sv rfl),(fun aF wF F=>by have s4:aF.tmps.getD 4 undef=(.int .i64 (((k0+1):Nat):Int)):=F.o 4;exact sv rfl),(fun aF wF F=>by have s39:=F.v 2 39;have s40:=F.v 3 40;exact sw (by have hx:=HW5.out;push_cast at hx;go_simp) rfl),(fun aF wF F=>by have s41:=F.v 4 41;exact sv rfl),(fun aF wF F=>by have s6:aF.tmps.getD 6 undef=X:=F.o 6;exact sv rfl),(fun aF wF F=>by have s6:aF.tmps.getD 6 undef=X:=F.o 6;exact sv rfl),(fun aF wF F=>by have s43:=F.v 6 43;have s44:=F.v 7 44;exact sL (HTI.out _ _ (LX.out.kept F.kept)) fun _ _ h=>h),(fun aF wF F=>by have s5:aF.tmps.getD 5 undef=M:=F.o 5;exact sv rfl),(fun aF wF F=>by have s45:=F.p 8 45;have s46:=F.v 9 46;exact sQ (HOR.out _ _ _ s45 (LM.out.kept F.kept)) fun _ _ h=>h),(fun aF wF F=>by have s47:=F.v 10 47;exact sv rfl),(fun aF wF F=>by have s0:aF.tmps.getD 0 undef=(.pointer (some ⟨bp,0,none⟩)):=F.o 0;exact sw (by have cq:=cell_kept F.kept (cell_kept K3.out CP.out);go_simp) rfl),(fun aF wF F=>by have s2:aF.tmps.getD 2 undef=(.pointer (some ⟨bu,0,none⟩)):=F.o 2;exact sw (by have cq:=cell_kept F.kept (cell_kept K3.out CU.out);go_simp) rfl),(fun aF wF F=>by have s37:=F.v 0 37;have s42:=F.v 5 42;have s48:=F.v 11 48;have s49:=F.v 12 49;have s50:=F.v 13 50;exact sG (HC.out _ _ (K3.out.trans F.kept) (LX.out.kept F.kept)) (fun _ _ _ h0 h=>⟨h0,h⟩) (fun w2 k2 h0=>⟨F.defers,⟨K3.out.trans (F.kept.trans k2),.inr ⟨h0,rfl⟩⟩⟩)),
      trivial⟩) ?_
   intro u w1 k1 hu
   have p45:=hp hu 8
   have p51:=hp hu 14
   simp only [puts,slotOf,if_true,Act.put,z1,z2,z3,z4,z5,z6,z7,hv hu 0,hv hu 1,hv hu 2,hv hu 3,hv hu 4,hv hu 5,hv hu 6,hv hu 7,hv hu 9,hv hu 10,hv hu 11,hv hu 12,hv hu 13]
   clear hu
   generalize u 8=v45 at *
   generalize u 14=v51 at *
   obtain ⟨h0,hd⟩:=p51
   obtain ⟨A',l',c',rfl,hd,g1,g2⟩:=dyR_parts hd
   have hb:=HR5.out.kept k1
   obtain ⟨_,c0,c1,c2,f0,f1,f2⟩:=hb.facts
   have HD:=hid hd
   have H0:=hid h0
   have HB:=hid hb
   have K4:=hid (K3.out.trans k1)
   clear hd h0 hb k1 p45
   go_simp
   go_wp2_with fail
   exact ret_dy (HB.out.laid _ _ _) rfl rfl rfl ⟨dyW_kept K4.out (Nat.le_refl _),.inl ⟨H0.out,_,rfl,(HD.out.dyW HB.out (noLimb_bool _) (noLimb_slice _ _ _) (noLimb_i64 _)).dyR g1 g2⟩⟩
 ·have hz : rootZ x p up = bad 4 := by unfold rootZ; rw [hn]; rfl
  rw [hz]
  rw [hn] at x0 HBX HO
  clear hRx hx hT p1 p2 hz hn
  generalize x.e=e1 at *
  go_enter Tryz.func182,Tryz.ntmps182
  go_wp2_with (first
   | (go_at_call 170;rw [←HW.out];refine (HM.out _ (HK.out.trans (kept_alloc _ _)) _ HO.out).mono ?_;rintro e w1 ⟨rfl,q⟩;have K:=hid (HK.out.trans ((kept_alloc _ _).trans q));have hr:=HR.out.kept ((kept_alloc _ _).trans q);have HR2:=hid hr;clear q hr x0 x1 x2 cp cu;have cp:=cell_kept K.out CP.out;have cu:=cell_kept K.out CU.out;obtain ⟨-,x0,x1,x2,-⟩:=(HBX.out.kept K.out).facts)
   | (go_at_call 174;refine (must_cR _ _ _).mono ?_;rintro e w3 ⟨he,rfl⟩;obtain rfl:e=.panicked (failV 185 _):=he))
  exact ⟨rfl,K.out,.inr ⟨by decide,rfl⟩⟩
theorem root_c {w:World}{v:Value}{d:Dy}{p:Nat}{up:Bool}(hv:DyR w v d.raw)(hd:d.Ok)(hT:Tab w)(p1:1≤p)(p2:p≤2000) :
 Calls Tryz.prog 142 #[v,.int .i64 p,.bool up] w (RetE (rootZ d p up).raw w):=by
 have hmf:∀ (fn:Fn) (first cap:Array Value) (w:World),(Instr.makeFunc fn first cap).run Tryz.prog w=.ok (.func fn first cap) w:=fun _ _ _ _=>rfl
 obtain ⟨A,l,c,rfl,hv⟩:=dyR_split hv
 obtain ⟨W,hW,kW,B0,cp,cu,BR⟩:=boxes4 w (.bool d.neg) (.slice A l c) (.int .i64 d.e) (.int .i64 p) (.bool up)
 have hf:=face_cR (w:=W) (K:=182) (cap:=#[.pointer (some ⟨w.heap.size+1,0,none⟩),.pointer (some ⟨w.heap.size,0,none⟩),.pointer (some ⟨w.heap.size+1+1,0,none⟩)]) (o:=(rootZ d p up).raw)
  (fun w1 k=>root1_c hd (hT.kept (kW.trans k)) p1 p2 (cell_kept k cp) ⟨A,l,c,B0.kept k,hv.kept (kW.trans k)⟩ (cell_kept k cu)) (rootZ_bad d p up) (fun _=>rfl)
 have HF:=hid hf
 have HW:=hid hW
 have HK:=hid kW
 have HR:=hid BR
 clear hf hW kW B0 cp cu BR hv hd hT p1 p2
 generalize rootZ d p up=o at *
 generalize d.neg=nd at *
 generalize d.e=ed at *
 go_enter Tryz.func142,Tryz.ntmps142
 go_wp2_with (go_at_call 168;rw [←HW.out];refine HF.out.mono ?_;rintro e w1 ⟨q,u,rfl,hd⟩;obtain ⟨A',l',c',rfl,hd,g3,g4⟩:=dyR_parts hd;have HD:=hid hd;have hb2:=HR.out.kept q;obtain ⟨_,c0,c1,c2,f0,f1,f2⟩:=hb2.facts;have HB2:=hid hb2;clear hd hb2)
 exact ret_dy2 (HB2.out.laid _ _ _) rfl rfl rfl ⟨dyW_kept (HK.out.trans q) (by omega),_,rfl,(HD.out.dyW HB2.out (noLimb_bool _) (noLimb_slice _ _ _) (noLimb_i64 _)).dyR g3 g4⟩
end Go.Proofs.YtabjjdicffcolaaGreatDoor
