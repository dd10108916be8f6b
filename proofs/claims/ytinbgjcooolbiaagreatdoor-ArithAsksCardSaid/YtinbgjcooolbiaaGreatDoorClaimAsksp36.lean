/- Words and contracts, part 36. -/
import Derived.Test.YtinbgjcooolbiaaGreatDoorClaimAsksp35
set_option maxRecDepth 100000
set_option maxHeartbeats 0
namespace Go.Proofs.YtinbgjcooolbiaaGreatDoor
open Go.Lib (hid)
open Go.RowKit
def El:List Int→Int
 | []=>0
 | k::l=>if k≠0 then k else El l
def Ry (res:Int):List Int→Prop
 | []=>res=0
 | k::l=>(k≠0→res=k)∧(k=0→Ry res l)
theorem Yd:∀ l:List Int,Ry (El l) l
 | []=>rfl
 | k :: l => by
   refine ⟨fun h=>?_,fun h=>?_⟩
   ·unfold El;rw [if_pos h]
   ·unfold El;rw [if_neg (by simpa using h)];exact Yd l
def Vr (T:TypeId) (res:Int) (l:List Dy) (w:World):Ending→World→Prop:=fun e w'=>Kept w w'∧((res=0∧∃ v,e=.returned v∧DyS w' v l)∨(res≠0∧e=.panicked (Cd T res)))
theorem Wh {w:World}{a b:Iv}{p ba bb bp:Nat}{up:Bool}(ha:a.Ok)(hb:b.Ok)(hT:Tab w)(p1:1≤p)(p2:p≤2000)(ca:BlkIv w ba a)(cb:BlkIv w bb b)(cp:w.cell? ⟨bp,0,none⟩=some (.int .i64 p)) :
 Calls Tryz.prog 31 #[.bool up,.pointer (some ⟨ba,0,none⟩),.pointer (some ⟨bb,0,none⟩),.pointer (some ⟨bp,0,none⟩)] w
  (Vr 66 (El [(Du a.lo b.lo p up).k,(Du a.lo b.hi p up).k,(Du a.hi b.lo p up).k,(Du a.hi b.hi p up).k])
    [(Du a.lo b.lo p up).v,(Du a.lo b.hi p up).v,(Du a.hi b.lo p up).v,(Du a.hi b.hi p up).v] w):=by
 obtain ⟨A,l,c,A',l',c',hba,x1,x2⟩:=ca;obtain ⟨B,j,e,B',j',e',hbb,y1,y2⟩:=cb;have C1:=hid (fun w1 (k:Kept w w1)=>Ps (up:=up) (x1.kept k) (y1.kept k) ha.lo hb.lo (hT.kept k) p1 p2);have C2:=hid (fun w1 (k:Kept w w1)=>Ps (up:=up) (x1.kept k) (y2.kept k) ha.lo hb.hi (hT.kept k) p1 p2);have C3:=hid (fun w1 (k:Kept w w1)=>Ps (up:=up) (x2.kept k) (y1.kept k) ha.hi hb.lo (hT.kept k) p1 p2);have C4:=hid (fun w1 (k:Kept w w1)=>Ps (up:=up) (x2.kept k) (y2.kept k) ha.hi hb.hi (hT.kept k) p1 p2);generalize Du a.lo b.lo p up=o1 at *;generalize Du a.lo b.hi p up=o2 at *;generalize Du a.hi b.lo p up=o3 at *
 generalize Du a.hi b.hi p up=o4 at *;have K:=hid (show Kept w w from Below.refl _ _);have HA:=hid hba;have HB:=hid hbb;have CP:=hid cp;have lp:=Bh cp;obtain ⟨la,-⟩:=hba.facts;obtain ⟨lb,-⟩:=hbb.facts;simp only at lp;have hst:=Yd [o1.raw.k,o2.raw.k,o3.raw.k,o4.raw.k];obtain ⟨res,hres'⟩:∃ r,r=El [o1.k,o2.k,o3.k,o4.k]:=⟨_,rfl⟩;have ST:=hid (show Ry res [o1.raw.k,o2.raw.k,o3.raw.k,o4.raw.k] by rw [hres'];exact hst);rw [←hres'];have BAD:Hid (∀ (k:Int) (w1:World),Kept w w1→k≠0→res=k→Vr 66 res [o1.v,o2.v,o3.v,o4.v] w (.panicked (Cd 66 k)) w1):=fun k w1 kk hk he=>by subst he;exact ⟨kk,.inr ⟨hk,rfl⟩⟩
 clear hba hbb cp x1 x2 y1 y2 ha hb hT p1 p2 hres' hst;generalize a.lo.neg=n1 at *;generalize a.lo.e=e1 at *;generalize a.hi.neg=n2 at *;generalize a.hi.e=e2 at *;generalize b.lo.neg=n3 at *;generalize b.lo.e=e3 at *;generalize b.hi.neg=n4 at *;generalize b.hi.e=e4 at *;go_enter Tryz.func31,Tryz.ntmps31;go_upto_region 2 with fail;obtain ⟨-,a0,a1,a2,a3,a4,a5⟩:=(HA.out.kept K.out).facts;obtain ⟨X,hX,kX,hx15,lX⟩:=Ui w (.bool n1) (.slice A l c) (.int .i64 e1) (.bool n2) (.slice A' l' c') (.int .i64 e2);have HX:=hid hX;clear hX;go_upto_region 3 with fail;rw [←HX.out];refine wp_loop_rounds 3 ?_;rw [rounds_succ]
 have x0:=Ae hx15 0 _ rfl;have x1:=Ae hx15 1 _ rfl;have x2:=Ae hx15 2 _ rfl;have KX:=hid (K.out.trans kX);have HXb:=hid hx15;clear a0 a1 a2 a3 a4 a5 hx15;obtain ⟨Y,hY,kY,hy7,lY⟩:=Ka X (.bool n1) (.slice A l c) (.int .i64 e1);have HY:=hid hY;clear hY;go_upto_region 5 with fail;rw [←HY.out];replace K:=hid (KX.out.trans kY);have O5:=hid (OwnS.nil Y w.heap.size);have B15:=hid (show Y.heap[w.heap.size]?=some (.cells #[.bool n1,.slice A l c,.int .i64 e1,.bool n2,.slice A' l' c',.int .i64 e2] 24 (0,0)) from (kY.block _ lX).trans HXb.out);have hy:=hy7;have lY':=lY;clear x0 x1 x2
 obtain ⟨-,b0,b1,b2,b3,b4,b5⟩:=(HB.out.kept K.out).facts;obtain ⟨U,hU,kU,hu25,lU⟩:=Ui Y (.bool n3) (.slice B j e) (.int .i64 e3) (.bool n4) (.slice B' j' e') (.int .i64 e4);have HU:=hid hU;clear hU;go_upto_region 6 with fail;rw [←HU.out];refine wp_loop_rounds 3 ?_;rw [rounds_succ];have x0:=Ae hu25 0 _ rfl;have x1:=Ae hu25 1 _ rfl;have x2:=Ae hu25 2 _ rfl;have x3:=Ae hu25 3 _ rfl;have x4:=Ae hu25 4 _ rfl;have x5:=Ae hu25 5 _ rfl;have KU:=hid (K.out.trans kU);have HUb:=hid hu25;have hy7':=hy.kept kU;clear b0 b1 b2 b3 b4 b5 hu25;obtain ⟨Z,hZ,kZ,hz9,lZ⟩:=Ka U (.bool n3) (.slice B j e) (.int .i64 e3)
 have HZ:=hid hZ;clear hZ;go_upto_region 8 with fail;rw [←HZ.out];have KZ:=hid (KU.out.trans kZ);have hz7:=hy7'.kept kZ;clear x0 x1 x2 x3 x4 x5
 refine rS2 10 ([(vE (.slice none 0 0)),(vE (.agg #[.bool n1,.slice A l c,.int .i64 e1])),(vE (.agg #[.bool n3,.slice B j e,.int .i64 e3])),(vE (.int .i64 p)),(vE (.bool up)),(fun v wv=>(∃ d,v=.tuple #[d,.int .i64 o1.raw.k]∧DyR wv d o1.raw.v)∧(True)),(fun v wv=>DyR wv v o1.raw.v∧(True)),(vE (.int .i64 o1.raw.k)),(fun v wv=>(o1.raw.k=0∧(True))∧DyR wv v o1.raw.v),(fun v wv=>One wv v o1.raw.v)])
  (hM:=⟨⟨mE,mE,mE,mE,mE,fun v w w' k h=>by obtain ⟨⟨d,h1,h2⟩,h3⟩:=h;exact ⟨⟨d,h1,h2.kept k⟩,h3⟩,fun v w w' k h=>⟨h.1.kept k,h.2⟩,mE,fun v w w' k h=>by first | exact h | exact h.kept k | exact ⟨h.1,h.2.kept k⟩,fun v w w' k h=>h.kept k,trivial⟩⟩) ⟨
    (gq 6),(gql 8 fun _ k=>c3 hz7 k),(gql 10 fun _ k=>c3 hz9 k),(fun aF wF F=>by have s3:=F.q 3 (.pointer (some ⟨bp,0,none⟩));exact sw (by have cq:=Ak (KZ.out.trans F.kept) CP.out;go_simp) rfl),(gq 0),(fun aF wF F=>by have s32:=F.v 1 32;have s33:=F.v 2 33;have s34:=F.v 3 34;have s35:=F.v 4 35;have hC:True:=trivial;exact Am (by simp [Region.wanted]) (by go_simp) (C1.out _ (KZ.out.trans F.kept)) (fun _ _ h=>RetE.good h) (fun _ _ h=>⟨h,hC⟩)),(fun aF wF F=>by have s36:=F.p 5 36;obtain ⟨⟨dd,ee,hh⟩,hC⟩:=s36;exact sv ⟨hh,hC⟩),(fun aF wF F=>by have s36:=F.p 5 36;exact sw (by obtain ⟨⟨dd,ee,hh⟩,-⟩:=s36;go_simp) rfl),(fun aF wF F=>by have s37:=F.p 6 37;have s38:=F.v 7 38;have hC:=s37.2;exact sG (Cl (d:=o1.v) (k:=o1.raw.k) s37.1) (fun _ _ _ h0 h=>⟨⟨h0,hC⟩,h⟩) (fun w2 k2 h0=>⟨F.defers,BAD.out _ _ (KZ.out.trans (F.kept.trans k2)) h0 (ST.out.1 h0)⟩)),(fun aF wF F=>by have s39:=F.p 8 39;obtain ⟨A9,l9,c9,e9,hd9⟩:=Ax s39.2;simp only [Array.getD_eq_getD_getElem?] at e9;exact sNa (Gt rfl hd9)),
    trivial⟩ ?_
 intro u w1 k1 hu;have p36:=hp hu 5;have p37:=hp hu 6;have p39:=hp hu 8;have p40:=hp hu 9;simp only [Au,An,if_true,Act.put,zlA,zlB,zlC,zlD,zlE,zlF,zlG,hv hu 0,hv hu 1,hv hu 2,hv hu 3,hv hu 4,hv hu 7];clear hu;generalize u 5=v36,u 6=v37,u 8=v39,u 9=v40 at *;obtain ⟨A9,l9,c9,b9,u9,hb9,hd9⟩:=p40;obtain ⟨⟨z1,-⟩,-⟩:=p39;replace K:=hid (KZ.out.trans k1);have B15':=hid ((((kU.trans kZ).trans k1).block _ (Nat.lt_trans lX lY')).trans B15.out);subst u9;refine Df (.tmp 31) (.tmp 40) ?ho (v:=.slice none 0 0) ?hs (OwnS.nil w1 w1.heap.size) (d:=o1.v) hd9 hb9 ?hx (by simp) (Nat.le_refl _) ?h
 case ho=>rfl
 case hs=>first | rfl | (go_simp;done)
 case hx=>first | rfl | (go_simp;done)
 intro v1 S1 O1 hg1;have KS:=hid (show Kept w1 S1 from Below.grown (Below.refl _ _) hg1 (Nat.le_refl _) (by intro k hk;simp [Value.ownBlock] at hk));have Z1:=hid z1;have OW1:=hid O1;clear z1 hd9 hb9 p36 p37 hg1 O1;have lw1:w.heap.size≤w1.heap.size:=K.out.size;replace K:=hid (K.out.trans KS.out);have b25:=((kZ.trans k1).trans KS.out).block _ (Nat.lt_of_lt_of_le (Array.getElem?_eq_some_iff.1 HUb.out).1 (Nat.le_refl _)) |>.trans HUb.out
 have b7:=(hz7.kept k1).kept KS.out;have B25:=hid b25;go_simp;go_wp2_with fail;rw [rounds_succ];have x3:=Ae b25 3 _ rfl;have x4:=Ae b25 4 _ rfl;have x5:=Ae b25 5 _ rfl;obtain ⟨Z2,hZ2,kZ2,hz92,lZ2⟩:=Ka S1 (.bool n4) (.slice B' j' e') (.int .i64 e4);have HZ2:=hid hZ2;clear hZ2;go_upto_region 8 with fail;rw [←HZ2.out];generalize w1=T at *;replace K:=hid (K.out.trans kZ2);have c7:=b7.kept kZ2;clear x3 x4 x5
 refine rS2 10 ([(vE v1),(vE (.agg #[.bool n1,.slice A l c,.int .i64 e1])),(vE (.agg #[.bool n4,.slice B' j' e',.int .i64 e4])),(vE (.int .i64 p)),(vE (.bool up)),(fun v wv=>(∃ d,v=.tuple #[d,.int .i64 o2.raw.k]∧DyR wv d o2.raw.v)∧(True)),(fun v wv=>DyR wv v o2.raw.v∧(True)),(vE (.int .i64 o2.raw.k)),(fun v wv=>(o2.raw.k=0∧(True))∧DyR wv v o2.raw.v),(fun v wv=>One wv v o2.raw.v)])
  (hM:=⟨⟨mE,mE,mE,mE,mE,fun v w w' k h=>by obtain ⟨⟨d,h1,h2⟩,h3⟩:=h;exact ⟨⟨d,h1,h2.kept k⟩,h3⟩,fun v w w' k h=>⟨h.1.kept k,h.2⟩,mE,fun v w w' k h=>by first | exact h | exact h.kept k | exact ⟨h.1,h.2.kept k⟩,fun v w w' k h=>h.kept k,trivial⟩⟩) ⟨
    (gq 6),(gql 8 fun _ k=>c3 c7 k),(gql 10 fun _ k=>c3 hz92 k),(fun aF wF F=>by have s3:=F.q 3 (.pointer (some ⟨bp,0,none⟩));exact sw (by have cq:=Ak (K.out.trans F.kept) CP.out;go_simp) rfl),(gq 0),(fun aF wF F=>by have s32:=F.v 1 32;have s33:=F.v 2 33;have s34:=F.v 3 34;have s35:=F.v 4 35;have hC:True:=trivial;exact Am (by simp [Region.wanted]) (by go_simp) (C2.out _ (K.out.trans F.kept)) (fun _ _ h=>RetE.good h) (fun _ _ h=>⟨h,hC⟩)),(fun aF wF F=>by have s36:=F.p 5 36;obtain ⟨⟨dd,ee,hh⟩,hC⟩:=s36;exact sv ⟨hh,hC⟩),(fun aF wF F=>by have s36:=F.p 5 36;exact sw (by obtain ⟨⟨dd,ee,hh⟩,-⟩:=s36;go_simp) rfl),(fun aF wF F=>by have s37:=F.p 6 37;have s38:=F.v 7 38;have hC:=s37.2;exact sG (Cl (d:=o2.v) (k:=o2.raw.k) s37.1) (fun _ _ _ h0 h=>⟨⟨h0,hC⟩,h⟩) (fun w2 k2 h0=>⟨F.defers,BAD.out _ _ (K.out.trans (F.kept.trans k2)) h0 ((ST.out.2 Z1.out).1 h0)⟩)),(fun aF wF F=>by have s39:=F.p 8 39;obtain ⟨A9,l9,c9,e9,hd9⟩:=Ax s39.2;simp only [Array.getD_eq_getD_getElem?] at e9;exact sNa (Gt rfl hd9)),
    trivial⟩ ?_
 intro u w1 k1 hu;have p36:=hp hu 5;have p37:=hp hu 6;have p39:=hp hu 8;have p40:=hp hu 9;simp only [Au,An,if_true,Act.put,zlA,zlB,zlC,zlD,zlE,zlF,zlG,hv hu 0,hv hu 1,hv hu 2,hv hu 3,hv hu 4,hv hu 7];clear hu;generalize u 5=v36,u 6=v37,u 8=v39,u 9=v40 at *;obtain ⟨A8,l8,c8,b8,u9,hb9,hd9⟩:=p40;obtain ⟨⟨z2,-⟩,-⟩:=p39;subst u9;have O2:=(OW1.out.kept kZ2).kept k1;have lT:T.heap.size≤w1.heap.size:=Nat.le_trans KS.out.size (Nat.le_trans kZ2.size k1.size);refine Df (.tmp 31) (.tmp 40) ?ho (v:=v1) ?hs O2 (d:=o2.v) hd9 hb9 ?hx (by simp) lT ?h
 case ho=>rfl
 case hs=>first | rfl | (go_simp;done)
 case hx=>first | rfl | (go_simp;done)
 intro v2 S2 O2' hg2;have KT:=hid (show Kept T S2 from Below.grown ((KS.out.trans kZ2).trans k1) hg2 lT (fun k hk=>(O2.row.lt k hk).1));have lw2:w.heap.size≤w1.heap.size:=Nat.le_trans lw1 lT;replace K:=hid (show Kept w S2 from Below.grown (K.out.trans k1) hg2 lw2 (fun k hk=>Nat.le_trans lw1 (O2.row.lt k hk).1));have Z2':=hid z2;have OW2:=hid O2';have d15:=(KT.out.block _ (Nat.lt_of_lt_of_le (Array.getElem?_eq_some_iff.1 B15'.out).1 (Nat.le_refl _))).trans B15'.out;have D15:=hid d15;clear z2 hd9 hb9 p36 p37 hg2 O2 O2' c7 b7 b25 hz92 k1 kZ2 hz7;go_simp;go_wp2_with fail;rw [rounds_succ];go_wp2_with fail
 rw [rounds_succ];have x3:=Ae d15 3 _ rfl;have x4:=Ae d15 4 _ rfl;have x5:=Ae d15 5 _ rfl;obtain ⟨Y3,hY3,kY3,hb3,lY3⟩:=Ka S2 (.bool n2) (.slice A' l' c') (.int .i64 e2);have HY3:=hid hY3;clear hY3;go_upto_region 5 with fail;rw [←HY3.out];clear x3 x4 x5 d15;replace K:=hid (K.out.trans kY3);obtain ⟨-,b0,b1,b2,b3,b4,b5⟩:=(HB.out.kept K.out).facts;obtain ⟨U3,hU3,kU3,hu25,lU3⟩:=Ui Y3 (.bool n3) (.slice B j e) (.int .i64 e3) (.bool n4) (.slice B' j' e') (.int .i64 e4);have HU3:=hid hU3;clear hU3;go_upto_region 6 with fail;rw [←HU3.out];refine wp_loop_rounds 3 ?_;rw [rounds_succ]
 have x0:=Ae hu25 0 _ rfl;have x1:=Ae hu25 1 _ rfl;have x2:=Ae hu25 2 _ rfl;replace K:=hid (K.out.trans kU3);have HU3b:=hid hu25;clear b0 b1 b2 b3 b4 b5 hu25;obtain ⟨Z3,hZ3,kZ3,hz9,lZ3⟩:=Ka U3 (.bool n3) (.slice B j e) (.int .i64 e3);have HZ3:=hid hZ3;clear hZ3;go_upto_region 8 with fail;rw [←HZ3.out];replace K:=hid (K.out.trans kZ3);have hz7:=(hb3.kept kU3).kept kZ3;generalize w1=T2 at *;clear x0 x1 x2
 refine rS2 10 ([(vE v2),(vE (.agg #[.bool n2,.slice A' l' c',.int .i64 e2])),(vE (.agg #[.bool n3,.slice B j e,.int .i64 e3])),(vE (.int .i64 p)),(vE (.bool up)),(fun v wv=>(∃ d,v=.tuple #[d,.int .i64 o3.raw.k]∧DyR wv d o3.raw.v)∧(True)),(fun v wv=>DyR wv v o3.raw.v∧(True)),(vE (.int .i64 o3.raw.k)),(fun v wv=>(o3.raw.k=0∧(True))∧DyR wv v o3.raw.v),(fun v wv=>One wv v o3.raw.v)])
  (hM:=⟨⟨mE,mE,mE,mE,mE,fun v w w' k h=>by obtain ⟨⟨d,h1,h2⟩,h3⟩:=h;exact ⟨⟨d,h1,h2.kept k⟩,h3⟩,fun v w w' k h=>⟨h.1.kept k,h.2⟩,mE,fun v w w' k h=>by first | exact h | exact h.kept k | exact ⟨h.1,h.2.kept k⟩,fun v w w' k h=>h.kept k,trivial⟩⟩) ⟨
    (gq 6),(gql 8 fun _ k=>c3 hz7 k),(gql 10 fun _ k=>c3 hz9 k),(fun aF wF F=>by have s3:=F.q 3 (.pointer (some ⟨bp,0,none⟩));exact sw (by have cq:=Ak (K.out.trans F.kept) CP.out;go_simp) rfl),(gq 0),(fun aF wF F=>by have s32:=F.v 1 32;have s33:=F.v 2 33;have s34:=F.v 3 34;have s35:=F.v 4 35;have hC:True:=trivial;exact Am (by simp [Region.wanted]) (by go_simp) (C3.out _ (K.out.trans F.kept)) (fun _ _ h=>RetE.good h) (fun _ _ h=>⟨h,hC⟩)),(fun aF wF F=>by have s36:=F.p 5 36;obtain ⟨⟨dd,ee,hh⟩,hC⟩:=s36;exact sv ⟨hh,hC⟩),(fun aF wF F=>by have s36:=F.p 5 36;exact sw (by obtain ⟨⟨dd,ee,hh⟩,-⟩:=s36;go_simp) rfl),(fun aF wF F=>by have s37:=F.p 6 37;have s38:=F.v 7 38;have hC:=s37.2;exact sG (Cl (d:=o3.v) (k:=o3.raw.k) s37.1) (fun _ _ _ h0 h=>⟨⟨h0,hC⟩,h⟩) (fun w2 k2 h0=>⟨F.defers,BAD.out _ _ (K.out.trans (F.kept.trans k2)) h0 (((ST.out.2 Z1.out).2 Z2'.out).1 h0)⟩)),(fun aF wF F=>by have s39:=F.p 8 39;obtain ⟨A9,l9,c9,e9,hd9⟩:=Ax s39.2;simp only [Array.getD_eq_getD_getElem?] at e9;exact sNa (Gt rfl hd9)),
    trivial⟩ ?_
 intro u w1 k1 hu;have p36:=hp hu 5;have p37:=hp hu 6;have p39:=hp hu 8;have p40:=hp hu 9;simp only [Au,An,if_true,Act.put,zlA,zlB,zlC,zlD,zlE,zlF,zlG,hv hu 0,hv hu 1,hv hu 2,hv hu 3,hv hu 4,hv hu 7];clear hu;generalize u 5=v36,u 6=v37,u 8=v39,u 9=v40 at *;obtain ⟨A7,l7,c7,b7,u9,hb9,hd9⟩:=p40;obtain ⟨⟨z3,-⟩,-⟩:=p39;subst u9;have O3:=(((OW2.out.kept kY3).kept kU3).kept kZ3).kept k1;have lT3:T.heap.size≤w1.heap.size:=Nat.le_trans KT.out.size (Nat.le_trans kY3.size (Nat.le_trans kU3.size (Nat.le_trans kZ3.size k1.size)));refine Df (.tmp 31) (.tmp 40) ?ho (v:=v2) ?hs O3 (d:=o3.v) hd9 hb9 ?hx (by simp) lT3 ?h
 case ho=>rfl
 case hs=>first | rfl | (go_simp;done)
 case hx=>first | rfl | (go_simp;done)
 intro v3 S3 O3' hg3;have l7:S2.heap.size<w1.heap.size:=Nat.lt_of_lt_of_le lY3 (Nat.le_trans kU3.size (Nat.le_trans kZ3.size k1.size));have l25:Y3.heap.size<w1.heap.size:=Nat.lt_of_lt_of_le lU3 (Nat.le_trans kZ3.size k1.size)
 have q7:Blk S3 S2.heap.size (.bool n2) (.slice A' l' c') (.int .i64 e2) :=
  (hg3.block _ l7 (fun e=>by have:=(OW2.out.row.lt _ e.symm).2;omega)).trans (hz7.kept k1)
 have q25:=(hg3.block _ l25 (fun e=>by have:=(OW2.out.row.lt _ e.symm).2;have:=kY3.size;omega)).trans (((kZ3.trans k1).block _ (Array.getElem?_eq_some_iff.1 HU3b.out).1).trans HU3b.out);replace KT:=hid (show Kept T S3 from Below.grown (((((KT.out.trans kY3).trans kU3).trans kZ3).trans k1)) hg3 lT3 (fun k hk=>(O3.row.lt k hk).1));replace K:=hid (show Kept w S3 from Below.grown (K.out.trans k1) hg3 (Nat.le_trans lw1 lT3) (fun k hk=>Nat.le_trans lw1 (O3.row.lt k hk).1));have Z3':=hid z3;have OW3:=hid O3';clear z3 hd9 hb9 p36 p37 hg3 O3 O3' k1 kZ3 hz7 hz9 l7 l25 kY3 kU3 OW1;go_simp;go_wp2_with fail
 rw [rounds_succ];have x3:=Ae q25 3 _ rfl;have x4:=Ae q25 4 _ rfl;have x5:=Ae q25 5 _ rfl;obtain ⟨Z4,hZ4,kZ4,hz94,lZ4⟩:=Ka S3 (.bool n4) (.slice B' j' e') (.int .i64 e4);have HZ4:=hid hZ4;clear hZ4;go_upto_region 8 with fail;rw [←HZ4.out];replace K:=hid (K.out.trans kZ4);have hz7:=q7.kept kZ4;generalize w1=T3 at *;clear x3 x4 x5
 refine rS2 10 ([(vE v3),(vE (.agg #[.bool n2,.slice A' l' c',.int .i64 e2])),(vE (.agg #[.bool n4,.slice B' j' e',.int .i64 e4])),(vE (.int .i64 p)),(vE (.bool up)),(fun v wv=>(∃ d,v=.tuple #[d,.int .i64 o4.raw.k]∧DyR wv d o4.raw.v)∧(True)),(fun v wv=>DyR wv v o4.raw.v∧(True)),(vE (.int .i64 o4.raw.k)),(fun v wv=>(o4.raw.k=0∧(True))∧DyR wv v o4.raw.v),(fun v wv=>One wv v o4.raw.v)])
  (hM:=⟨⟨mE,mE,mE,mE,mE,fun v w w' k h=>by obtain ⟨⟨d,h1,h2⟩,h3⟩:=h;exact ⟨⟨d,h1,h2.kept k⟩,h3⟩,fun v w w' k h=>⟨h.1.kept k,h.2⟩,mE,fun v w w' k h=>by first | exact h | exact h.kept k | exact ⟨h.1,h.2.kept k⟩,fun v w w' k h=>h.kept k,trivial⟩⟩) ⟨
    (gq 6),(gql 8 fun _ k=>c3 hz7 k),(gql 10 fun _ k=>c3 hz94 k),(fun aF wF F=>by have s3:=F.q 3 (.pointer (some ⟨bp,0,none⟩));exact sw (by have cq:=Ak (K.out.trans F.kept) CP.out;go_simp) rfl),(gq 0),(fun aF wF F=>by have s32:=F.v 1 32;have s33:=F.v 2 33;have s34:=F.v 3 34;have s35:=F.v 4 35;have hC:True:=trivial;exact Am (by simp [Region.wanted]) (by go_simp) (C4.out _ (K.out.trans F.kept)) (fun _ _ h=>RetE.good h) (fun _ _ h=>⟨h,hC⟩)),(fun aF wF F=>by have s36:=F.p 5 36;obtain ⟨⟨dd,ee,hh⟩,hC⟩:=s36;exact sv ⟨hh,hC⟩),(fun aF wF F=>by have s36:=F.p 5 36;exact sw (by obtain ⟨⟨dd,ee,hh⟩,-⟩:=s36;go_simp) rfl),(fun aF wF F=>by have s37:=F.p 6 37;have s38:=F.v 7 38;have hC:=s37.2;exact sG (Cl (d:=o4.v) (k:=o4.raw.k) s37.1) (fun _ _ _ h0 h=>⟨⟨h0,hC⟩,h⟩) (fun w2 k2 h0=>⟨F.defers,BAD.out _ _ (K.out.trans (F.kept.trans k2)) h0 ((((ST.out.2 Z1.out).2 Z2'.out).2 Z3'.out).1 h0)⟩)),(fun aF wF F=>by have s39:=F.p 8 39;obtain ⟨A9,l9,c9,e9,hd9⟩:=Ax s39.2;simp only [Array.getD_eq_getD_getElem?] at e9;exact sNa (Gt rfl hd9)),
    trivial⟩ ?_
 intro u w1 k1 hu;have p36:=hp hu 5;have p37:=hp hu 6;have p39:=hp hu 8;have p40:=hp hu 9;simp only [Au,An,if_true,Act.put,zlA,zlB,zlC,zlD,zlE,zlF,zlG,hv hu 0,hv hu 1,hv hu 2,hv hu 3,hv hu 4,hv hu 7];clear hu;generalize u 5=v36,u 6=v37,u 8=v39,u 9=v40 at *;obtain ⟨A6,l6,c6,b6,u9,hb9,hd9⟩:=p40;obtain ⟨⟨z4,-⟩,-⟩:=p39;subst u9;have O4:=(OW3.out.kept kZ4).kept k1;have lT4:T.heap.size≤w1.heap.size:=Nat.le_trans KT.out.size (Nat.le_trans kZ4.size k1.size);refine Df (.tmp 31) (.tmp 40) ?ho (v:=v3) ?hs O4 (d:=o4.v) hd9 hb9 ?hx (by simp) lT4 ?h
 case ho=>rfl
 case hs=>first | rfl | (go_simp;done)
 case hx=>first | rfl | (go_simp;done)
 intro v4 S4 O4' hg4;replace KT:=hid (show Kept T S4 from Below.grown ((KT.out.trans kZ4).trans k1) hg4 lT4 (fun k hk=>(O4.row.lt k hk).1));replace K:=hid (show Kept w S4 from Below.grown (K.out.trans k1) hg4 (Nat.le_trans lw1 lT4) (fun k hk=>Nat.le_trans lw1 (O4.row.lt k hk).1));have Z4':=hid z4;have OD:=hid (show DyS S4 v4 [o1.v,o2.v,o3.v,o4.v] from O4'.dyS);clear z4 hd9 hb9 p36 p37 hg4 O4 O4' k1 kZ4 hz7 hz94 OW3 OW2 q7 q25;go_simp;go_wp2_with fail;rw [rounds_succ];go_wp2_with fail;rw [rounds_succ];have hz:=(((ST.out.2 Z1.out).2 Z2'.out).2 Z3'.out).2 Z4'.out;go_wp2_with fail;go_ret;exact ⟨K.out,.inl ⟨hz,_,rfl,OD.out⟩⟩
theorem Ms (a b c d:Outc Dy)(f:Dy→Dy→Dy→Dy→Outc Iv) :
 four a b c d f=if El [a.k,b.k,c.k,d.k]≠0 then ⟨iz,El [a.k,b.k,c.k,d.k]⟩ else f a.v b.v c.v d.v:=by
 unfold four Outc.bind;simp only [El];by_cases h1:a.k=0
 ·by_cases h2:b.k=0
  ·by_cases h3:c.k=0
   ·by_cases h4:d.k=0
    ·simp [h1,h2,h3,h4]
    ·simp [h1,h2,h3,h4]
   ·simp [h1,h2,h3]
  ·simp [h1,h2]
 ·simp [h1]
theorem Sc (a b:Iv)(p:Nat)(hz:Cm b=false) :
 Jc a b p=Cc ⟨Bp (B8 a.lo b.lo p false).v [(B8 a.lo b.lo p false).v,(B8 a.lo b.hi p false).v,(B8 a.hi b.lo p false).v,(B8 a.hi b.hi p false).v],
  Av (B8 a.lo b.lo p true).v [(B8 a.lo b.lo p true).v,(B8 a.lo b.hi p true).v,(B8 a.hi b.lo p true).v,(B8 a.hi b.hi p true).v]⟩
  [El [(B8 a.lo b.lo p false).k,(B8 a.lo b.hi p false).k,(B8 a.hi b.lo p false).k,(B8 a.hi b.hi p false).k],
   El [(B8 a.lo b.lo p true).k,(B8 a.lo b.hi p true).k,(B8 a.hi b.lo p true).k,(B8 a.hi b.hi p true).k]]:=by
 unfold Jc;rw [hz,Ms];simp only [Bool.false_eq_true,if_false,Cc];by_cases h1:El [(B8 a.lo b.lo p false).k,(B8 a.lo b.hi p false).k,(B8 a.hi b.lo p false).k,(B8 a.hi b.hi p false).k]=0
 ·rw [Ms]
 ·simp [h1]
theorem Q9 {x y:Dy}{p:Nat}{up:Bool}(h:¬y.m=0):Du x y p up=B8 x y p up:=by
 unfold Du;rw [if_neg h]
theorem Rz {w:World}{a b:Iv}{p ba bb bp:Nat}(hb:b.Ok)(cb:BlkIv w bb b)(hz:Cm b=true) :
 Calls Tryz.prog 28 #[.pointer (some ⟨bb,0,none⟩),.pointer (some ⟨ba,0,none⟩),.pointer (some ⟨bp,0,none⟩)] w (Fi 66 (Bj (Jc a b p)) w):=by
 obtain ⟨B,j,e,B',j',e',hbb,y1,y2⟩:=cb;have hres:Bj (Jc a b p)=⟨rzI,4⟩:=by unfold Jc;rw [if_pos hz];unfold Bj;rw [Gb]
 rw [hres];have CH:=hid (fun w1 (k:Kept w w1)=>Wv (v:=.agg #[.bool b.lo.neg,.slice B j e,.int .i64 b.lo.e,.bool b.hi.neg,.slice B' j' e',.int .i64 b.hi.e]) (u:=.agg #[.bool false,.slice none 0 0,.int .i64 0]) (a:=b) ⟨_,_,_,_,_,_,rfl,y1.kept k,y2.kept k⟩ (by rw [Cp];exact Eo _) hb dz_ok);have hhas:Qp b dz=true:=by rw [←hz];unfold Qp Cm;rw [Ul]
 rw [hhas] at CH;obtain ⟨W,hW,kW,-,-⟩:=J9 w;have HW:=hid hW;have K:=hid kW;obtain ⟨lb,c0,c1,c2,c3,c4,c5⟩:=hbb.facts;clear hW kW hbb y1 y2 hres hz hhas;go_enter Tryz.func28,Tryz.ntmps28
 go_wp2_with (first
  | (go_at_call 30;rw [←HW.out];refine (CH.out _ K.out).mono ?_;rintro e w1 ⟨rfl,q⟩;replace K:=hid (K.out.trans q))
  | (go_at_call 29;refine (H5 _ _ _).mono ?_;rintro e w3 ⟨he,rfl⟩;obtain rfl:e=.panicked (Cd 66 _):=he))
 exact ⟨rfl,K.out,.inr ⟨by decide,rfl⟩⟩
section
variable {P:Program} {ops:Array Oper} {Q:Exit→Act→World→Prop}
theorem Nh {V:Nat→Value→World→Prop}{i:Nat}{o:Oper}{a:Act}{w:World}{f:FuncId}{args:Array Value}{T:TypeId}{r:Int}{l:List Dy}(hw:Region.wanted o (yielded ops a.tmps)=true)
 (h:(execOp a.eval o).run P w=.ok (.enter f args) w) (hc:Calls P f args w (Vr T r l w))
 (hp:∀ v w',Kept w w'→r=0→DyS w' v l→V i v w') (hq:∀ w',Kept w w'→r≠0→Q (.panic (Cd T r)) a w'):Bc P ops Q V i o a w :=
 Jb hw h hc fun e w' he=>by
  obtain ⟨k,⟨h0,v,he,hd⟩ | ⟨h0,he⟩⟩:=he
  ·exact .inl ⟨v,he,k,hp v w' k h0 hd⟩
  ·exact .inr ⟨_,he,hq w' k h0⟩
end
theorem Y4 {w:World}{a b:Iv}{p ba bb bp:Nat}(ha:a.Ok)(hb:b.Ok)(hT:Tab w)(p1:1≤p)(p2:p≤2000)(ca:BlkIv w ba a)(cb:BlkIv w bb b)(cp:w.cell? ⟨bp,0,none⟩=some (.int .i64 p)) :
 Calls Tryz.prog 28 #[.pointer (some ⟨bb,0,none⟩),.pointer (some ⟨ba,0,none⟩),.pointer (some ⟨bp,0,none⟩)] w (Fi 66 (Bj (Jc a b p)) w):=by
 by_cases hz:Cm b=true
 ·exact Rz hb cb hz
 have hmf:=Fw;obtain ⟨n1,n2⟩:=Sl hb hz;have hz:Cm b=false:=by simpa using hz
 obtain ⟨o1,ho1⟩:∃ o,o=B8 a.lo b.lo p false:=⟨_,rfl⟩;obtain ⟨o2,ho2⟩:∃ o,o=B8 a.lo b.hi p false:=⟨_,rfl⟩;obtain ⟨o3,ho3⟩:∃ o,o=B8 a.hi b.lo p false:=⟨_,rfl⟩;obtain ⟨o4,ho4⟩:∃ o,o=B8 a.hi b.hi p false:=⟨_,rfl⟩;obtain ⟨u1,hu1⟩:∃ o,o=B8 a.lo b.lo p true:=⟨_,rfl⟩;obtain ⟨u2,hu2⟩:∃ o,o=B8 a.lo b.hi p true:=⟨_,rfl⟩;obtain ⟨u3,hu3⟩:∃ o,o=B8 a.hi b.lo p true:=⟨_,rfl⟩;obtain ⟨u4,hu4⟩:∃ o,o=B8 a.hi b.hi p true:=⟨_,rfl⟩;obtain ⟨o5,ho5⟩:∃ o:Outc Dy,o=⟨Bp o1.v [o1.v,o2.v,o3.v,o4.v],0⟩:=⟨_,rfl⟩;obtain ⟨o6,ho6⟩:∃ o:Outc Dy,o=⟨Av u1.v [u1.v,u2.v,u3.v,u4.v],0⟩:=⟨_,rfl⟩;have hm:Bp o1.v [o1.v,o2.v,o3.v,o4.v]=o5.v:=by rw [ho5]
 have hg:Av u1.v [u1.v,u2.v,u3.v,u4.v]=o6.v:=by rw [ho6]
 have D1:=fun w1 (k:Kept w w1)=>Wh (up:=false) ha hb (hT.kept k) p1 p2 (ca.kept k) (cb.kept k) (Ak k cp)
 have D2:=fun w1 (k:Kept w w1)=>Wh (up:=true) ha hb (hT.kept k) p1 p2 (ca.kept k) (cb.kept k) (Ak k cp)
 simp only [Q9 n1,Q9 n2,←ho1,←ho2,←ho3,←ho4,←hu1,←hu2,←hu3,←hu4] at D1 D2;have hres:Jc a b p=Cc ⟨o5.v,o6.v⟩ [El [o1.k,o2.k,o3.k,o4.k],El [u1.k,u2.k,u3.k,u4.k]]:=by
  rw [Sc a b p hz,←ho1,←ho2,←ho3,←ho4,←hu1,←hu2,←hu3,←hu4,hm,hg]
 rw [hres];generalize El [o1.k,o2.k,o3.k,o4.k]=r1 at *;generalize El [u1.k,u2.k,u3.k,u4.k]=r2 at *;have ok1:o1.Ok:=by rw [ho1];exact E4 _ _ _ _
 have ok2:o2.Ok:=by rw [ho2];exact E4 _ _ _ _
 have ok3:o3.Ok:=by rw [ho3];exact E4 _ _ _ _
 have ok4:o4.Ok:=by rw [ho4];exact E4 _ _ _ _
 have ok5:u1.Ok:=by rw [hu1];exact E4 _ _ _ _
 have ok6:u2.Ok:=by rw [hu2];exact E4 _ _ _ _
 have ok7:u3.Ok:=by rw [hu3];exact E4 _ _ _ _
 have ok8:u4.Ok:=by rw [hu4];exact E4 _ _ _ _
 have okL4:okL [o1.v,o2.v,o3.v,o4.v]:=by intro d hd;simp at hd;rcases hd with rfl | rfl | rfl | rfl;exact ok1.1;exact ok2.1;exact ok3.1;exact ok4.1
 have okU4:okL [u1.v,u2.v,u3.v,u4.v]:=by intro d hd;simp at hd;rcases hd with rfl | rfl | rfl | rfl;exact ok5.1;exact ok6.1;exact ok7.1;exact ok8.1
 have cl:=fun w1 v (hv:DyS w1 v [o1.v,o2.v,o3.v,o4.v])=>Pj hv okL4 (by simp)
 have cg:=fun w1 v (hv:DyS w1 v [u1.v,u2.v,u3.v,u4.v])=>Jt hv okU4 (by simp)
 rw [hm] at cl;rw [hg] at cg;generalize hl1:[o1.v,o2.v,o3.v,o4.v]=ls at *;generalize hl2:[u1.v,u2.v,u3.v,u4.v]=us at *;have C1:=hid D1;have C2:=hid D2;have CL:=hid cl;have CG:=hid cg;obtain ⟨B,j,e,B',j',e',hbb,y1,y2⟩:=cb;have CH:=hid (fun w1 (k:Kept w w1)=>Wv (v:=.agg #[.bool b.lo.neg,.slice B j e,.int .i64 b.lo.e,.bool b.hi.neg,.slice B' j' e',.int .i64 b.hi.e]) (u:=.agg #[.bool false,.slice none 0 0,.int .i64 0]) (a:=b) ⟨_,_,_,_,_,_,rfl,y1.kept k,y2.kept k⟩ (by rw [Cp];exact Eo _) hb dz_ok);have hhas:Qp b dz=false:=by rw [←hz];unfold Qp Cm;rw [Ul]
 rw [hhas] at CH;obtain ⟨W,hW,kW,B3,B4⟩:=J9 w;have HW:=hid hW;have K:=hid kW;have R3:=hid B3;have R4:=hid B4;obtain ⟨lb,c0,c1,c2,c3,c4,c5⟩:=hbb.facts;have hst:=Dp ⟨o5.v,o6.v⟩ [r1,r2];obtain ⟨res,hres'⟩:∃ r,r=Bj (Cc ⟨o5.v,o6.v⟩ [r1,r2]):=⟨_,rfl⟩;have ST:=hid (show Hm res ⟨o5.raw.v,o6.raw.v⟩ [r1,r2] by rw [hres'];exact hst);rw [←hres'];have BAD:Hid (∀ (k:Int) (w1:World),Kept w w1→k≠0→res=⟨rzI,k⟩→Fi 66 res w (.panicked (Cd 66 k)) w1):=fun k w1 kk hk he=>by subst he;exact ⟨kk,.inr ⟨hk,rfl⟩⟩
 obtain ⟨la,-⟩:=(show ∃ x,w.heap[ba]?=some x from ca.elim (fun _ h=>by obtain ⟨_,_,_,_,_,h,_⟩:=h;exact ⟨_,h⟩));clear hW kW B3 B4 hbb cp ca y1 y2 ha hb hT p1 p2 ho1 ho2 ho3 ho4 ho5 ho6 hu1 hu2 hu3 hu4 hres hres' hst hm hg okL4 okU4 ok1 ok2 ok3 ok4 ok5 ok6 ok7 ok8 D1 D2 cl cg hz hhas n1 n2 hl1 hl2 la;generalize b.lo.neg=n3 at *;generalize b.lo.e=e3 at *;generalize b.hi.neg=n4 at *;generalize b.hi.e=e4 at *;go_enter Tryz.func28,Tryz.ntmps28;go_wp2_with fail;rw [←HW.out];refine (CH.out _ K.out).mono ?_;rintro e w5 ⟨rfl,q⟩;simp only [];go_wp2_with fail;refine (Ge 4 _).mono ?_;rintro e w6 ⟨rfl,q6⟩
 have kk:=q.trans q6;replace K:=hid (K.out.trans kk);have hsW0:w.heap.size+1<w6.heap.size:=Nat.lt_of_lt_of_le (Array.getElem?_eq_some_iff.1 R4.out).1 kk.size;replace R3:=hid (R3.out.kept kk);replace R4:=hid (R4.out.kept kk);clear kk q q6 c0 c1 c2 c3 c4 c5 HW;simp only [];go_upto_region 3 with fail
 refine rS1 4 ([(vE (.func (.func 31) #[] #[.pointer (some ⟨ba,0,none⟩),.pointer (some ⟨bb,0,none⟩),.pointer (some ⟨bp,0,none⟩)])),(fun v wv=>r1=0∧DyS wv v ls),(fun v wv=>(r1=0)∧DyR wv v o5.raw.v),(fun v wv=>∃ b,v=.pointer (some ⟨b,0,none⟩)∧w6.heap.size≤b∧Blk wv b (.bool false) (.slice none 0 0) (.int .i64 0))])
  (hM:=⟨⟨mE,fun v w w' k h=>by first | exact h | exact h.kept k | exact ⟨h.1,h.2.kept k⟩,fun v w w' k h=>by first | exact h | exact h.kept k | exact ⟨h.1,h.2.kept k⟩,fun v w w' k h=>by obtain ⟨b,h1,h2,h3⟩:=h;exact ⟨b,h1,h2,h3.kept k⟩,trivial⟩⟩) ⟨
    (gq 5),(fun aF wF F=>by have s13:=F.v 0 13;exact Nh (by simp [Region.wanted]) (by go_simp) (C1.out _ (K.out.trans F.kept)) (fun _ _ _ h0 h=>⟨h0,h⟩) (fun w2 k2 h0=>⟨F.defers,BAD.out _ _ (K.out.trans (F.kept.trans k2)) h0 (ST.out.1 h0)⟩)),(fun aF wF F=>by have s14:=F.p 1 14;have hC:=s14.1;exact Am (by simp [Region.wanted]) (by go_simp) (CL.out _ _ s14.2) (fun _ _ h=>RetD.good h) (fun _ _ h=>⟨hC,h⟩)),(fun aF wF F=>by exact sN ⟨_,rfl,F.kept.size,C0 _⟩),
    trivial⟩ ?_
 intro u w1 k1 hu;have p14:=hp hu 1;have p15:=hp hu 2;have p6:=hp hu 3;simp only [Au,An,if_true,Act.put,zlA,zlB,zlC,zlD,zlE,zlF,zlG,hv hu 0];clear hu;generalize u 1=v14,u 2=v15,u 3=v6 at *;obtain ⟨bl,rfl,hbl,hB5⟩:=p6;obtain ⟨z1,hd2⟩:=p15;obtain ⟨A5,l5,c5,rfl,hd2⟩:=Ax hd2;obtain ⟨lb5,c0,c1,c2,f0,f1,f2⟩:=hB5.facts;have hsW:=(Array.getElem?_eq_some_iff.1 R4.out).1;have Z:=hid z1;have KX:=hid (Al (x:=.bool o5.raw.v.neg) (y:=.slice A5 l5 c5) (z:=.int .i64 o5.raw.v.e) (K.out.trans k1) (show w.heap.size≤bl by omega));have R3X:=hid ((R3.out.kept k1).laid_other (b':=bl) (by omega) (.bool o5.raw.v.neg) (.slice A5 l5 c5) (.int .i64 o5.raw.v.e))
 have R4X:=hid ((R4.out.kept k1).laid_other (b':=bl) (by omega) (.bool o5.raw.v.neg) (.slice A5 l5 c5) (.int .i64 o5.raw.v.e));have B5X:=hid (hB5.laid (.bool o5.raw.v.neg) (.slice A5 l5 c5) (.int .i64 o5.raw.v.e));have D5X:=hid (hd2.dyW hB5 (Ah _) (Af _ _ _) (Ai _) (.bool o5.raw.v.neg) (.slice A5 l5 c5) (.int .i64 o5.raw.v.e));clear z1 hd2 hB5 hsW p14 k1;go_simp;go_wp2_with fail;change Code.wp _ _ _ _ (dyW w1 bl _ _ _);generalize dyW w1 bl (.bool o5.raw.v.neg) (.slice A5 l5 c5) (.int .i64 o5.raw.v.e)=X at *;clear c0 c1 c2 f0 f1 f2 lb5
 refine Im 4 ([(vE (.agg #[.bool o5.raw.v.neg,.slice A5 l5 c5,.int .i64 o5.raw.v.e])),(vE (.func (.func 31) #[] #[.pointer (some ⟨ba,0,none⟩),.pointer (some ⟨bb,0,none⟩),.pointer (some ⟨bp,0,none⟩)])),(fun v wv=>r2=0∧DyS wv v us),(fun v wv=>((r2=0)∧True)∧DyR wv v o6.raw.v)])
  (hM:=⟨⟨mE,mE,fun v w w' k h=>by first | exact h | exact h.kept k | exact ⟨h.1,h.2.kept k⟩,fun v w w' k h=>by first | exact h | exact h.kept k | exact ⟨h.1,h.2.kept k⟩,trivial⟩⟩) ⟨
    (gql 6 fun _ k=>Go.Proofs.YtinbgjcooolbiaaGreatDoor.c3 B5X.out k),(gq 5),(fun aF wF F=>by have s17:=F.v 1 17;exact Nh (by simp [Region.wanted]) (by go_simp) (C2.out _ (KX.out.trans F.kept)) (fun _ _ _ h0 h=>⟨h0,h⟩) (fun w2 k2 h0=>⟨F.defers,BAD.out _ _ (KX.out.trans (F.kept.trans k2)) h0 ((ST.out.2 Z.out).1 h0)⟩)),(fun aF wF F=>by have s18:=F.p 2 18;have hC:=s18.1;exact Am (by simp [Region.wanted]) (by go_simp) (CG.out _ _ s18.2) (fun _ _ h=>RetD.good h) (fun _ _ h=>⟨⟨hC,trivial⟩,h⟩)),
    trivial⟩ ?_
 intro u w1 k1 hu;have p18:=hp hu 2;have p19:=hp hu 3;simp only [Au,An,if_true,Act.put,zlA,zlB,zlC,zlD,zlE,zlF,zlG,hv hu 0,hv hu 1];clear hu;generalize u 2=v18,u 3=v19 at *;obtain ⟨⟨z4,-⟩,hd4⟩:=p19;obtain ⟨A6,l6,c6,rfl,hd4⟩:=Ax hd4;have hres:=(ST.out.2 Z.out).2 z4;have r3:=R3X.out.kept k1;have r4:=R4X.out.kept k1;have hk:=KX.out.trans k1;have hd5:=D5X.out.kept k1;obtain ⟨-,c0,c1,c2,f0,f1,f2⟩:=r3.facts;obtain ⟨-,d0,d1,d2,g0,g1,g2⟩:=r4.facts;obtain ⟨t1,t2,t3⟩:=Fs (T:=66) hk (Nat.le_refl _) (Nat.le_succ _) (by omega) r3 r4 hd5 hd4 hres;have T1:=hid t1;have T2:=hid t2;have T3:=hid t3
 clear t1 t2 t3 r3 r4 hk hd5 hd4 hres z4 p18 k1;refine ⟨?_,?_⟩
 ·go_simp;go_wp2_with fail;exact Cw T1.out T2.out rfl rfl rfl rfl T3.out
 ·first
   | exact .inl (by kernel_rfl)
   | (right
      rw [Fj _ (by omega)] at T1 T2 T3;go_simp;go_wp2_with fail;exact Cw T1.out T2.out rfl rfl rfl rfl T3.out)
end Go.Proofs.YtinbgjcooolbiaaGreatDoor
