/- Words and contracts, part 28. -/
import Derived.Test.YtmgaloopddiekaaGreatDoorClaimFargsp27
set_option maxRecDepth 100000
set_option maxHeartbeats 0
namespace Go.Proofs.YtmgaloopddiekaaGreatDoor
open Go.Lib (hid)
open Go.RowKit
def Fq:List Int→Int
 | []=>0
 | k::l=>if k≠0 then k else Fq l
def Vy (res:Int):List Int→Prop
 | []=>res=0
 | k::l=>(k≠0→res=k)∧(k=0→Vy res l)
theorem Aec:∀ l:List Int,Vy (Fq l) l
 | []=>rfl
 | k :: l => by
   refine ⟨fun h=>?_,fun h=>?_⟩
   ·unfold Fq;rw [if_pos h]
   ·unfold Fq;rw [if_neg (by simpa using h)];exact Aec l
def Aaz (T:TypeId) (res:Int) (l:List Dy) (w:World):Ending→World→Prop:=fun e w'=>Kept w w'∧((res=0∧∃ v,e=.returned v∧DyS w' v l)∨(res≠0∧e=.panicked (Ch T res)))
theorem Abo {w:World}{a b:Iv}{p ba bb bp:Nat}{up:Bool}(ha:a.Ok)(hb:b.Ok)(hT:Tab w)(p1:1≤p)(p2:p≤2000)(ca:BlkIv w ba a)(cb:BlkIv w bb b)(cp:w.cell? ⟨bp,0,none⟩=some (.int .i64 p)) :
 Calls Tryz.prog 224 #[.bool up,.pointer (some ⟨ba,0,none⟩),.pointer (some ⟨bb,0,none⟩),.pointer (some ⟨bp,0,none⟩)] w
  (Aaz 189 (Fq [(Et a.lo b.lo p up).k,(Et a.lo b.hi p up).k,(Et a.hi b.lo p up).k,(Et a.hi b.hi p up).k])
    [(Et a.lo b.lo p up).v,(Et a.lo b.hi p up).v,(Et a.hi b.lo p up).v,(Et a.hi b.hi p up).v] w):=by
 obtain ⟨A,l,c,A',l',c',hba,x1,x2⟩:=ca;obtain ⟨B,j,e,B',j',e',hbb,y1,y2⟩:=cb;have C1:=hid (fun w1 (k:Kept w w1)=>Sz (up:=up) (x1.kept k) (y1.kept k) ha.lo hb.lo (hT.kept k) p1 p2);have C2:=hid (fun w1 (k:Kept w w1)=>Sz (up:=up) (x1.kept k) (y2.kept k) ha.lo hb.hi (hT.kept k) p1 p2);have C3:=hid (fun w1 (k:Kept w w1)=>Sz (up:=up) (x2.kept k) (y1.kept k) ha.hi hb.lo (hT.kept k) p1 p2);have C4:=hid (fun w1 (k:Kept w w1)=>Sz (up:=up) (x2.kept k) (y2.kept k) ha.hi hb.hi (hT.kept k) p1 p2);generalize Et a.lo b.lo p up=o1 at *;generalize Et a.lo b.hi p up=o2 at *;generalize Et a.hi b.lo p up=o3 at *
 generalize Et a.hi b.hi p up=o4 at *;have K:=hid (show Kept w w from Below.refl _ _);have HA:=hid hba;have HB:=hid hbb;have CP:=hid cp;have lp:=Bg cp;obtain ⟨la,-⟩:=hba.facts;obtain ⟨lb,-⟩:=hbb.facts;simp only at lp;have hst:=Aec [o1.raw.k,o2.raw.k,o3.raw.k,o4.raw.k];obtain ⟨res,hres'⟩:∃ r,r=Fq [o1.k,o2.k,o3.k,o4.k]:=⟨_,rfl⟩;have ST:=hid (show Vy res [o1.raw.k,o2.raw.k,o3.raw.k,o4.raw.k] by rw [hres'];exact hst);rw [←hres'];have BAD:Hid (∀ (k:Int) (w1:World),Kept w w1→k≠0→res=k→Aaz 189 res [o1.v,o2.v,o3.v,o4.v] w (.panicked (Ch 189 k)) w1):=fun k w1 kk hk he=>by subst he;exact ⟨kk,.inr ⟨hk,rfl⟩⟩
 clear hba hbb cp x1 x2 y1 y2 ha hb hT p1 p2 hres' hst;generalize a.lo.neg=n1 at *;generalize a.lo.e=e1 at *;generalize a.hi.neg=n2 at *;generalize a.hi.e=e2 at *;generalize b.lo.neg=n3 at *;generalize b.lo.e=e3 at *;generalize b.hi.neg=n4 at *;generalize b.hi.e=e4 at *;go_enter Tryz.func224,Tryz.ntmps224;go_upto_region 2 with fail;obtain ⟨-,a0,a1,a2,a3,a4,a5⟩:=(HA.out.kept K.out).facts;obtain ⟨X,hX,kX,hx15,lX⟩:=V0 w (.bool n1) (.slice A l c) (.int .i64 e1) (.bool n2) (.slice A' l' c') (.int .i64 e2);have HX:=hid hX;clear hX;go_upto_region 3 with fail;rw [←HX.out];refine wp_loop_rounds 3 ?_;rw [rounds_succ]
 have x0:=Ag hx15 0 _ rfl;have x1:=Ag hx15 1 _ rfl;have x2:=Ag hx15 2 _ rfl;have KX:=hid (K.out.trans kX);have HXb:=hid hx15;clear a0 a1 a2 a3 a4 a5 hx15;obtain ⟨Y,hY,kY,hy7,lY⟩:=Kg X (.bool n1) (.slice A l c) (.int .i64 e1);have HY:=hid hY;clear hY;go_upto_region 5 with fail;rw [←HY.out];replace K:=hid (KX.out.trans kY);have O5:=hid (OwnS.nil Y w.heap.size);have B15:=hid (show Y.heap[w.heap.size]?=some (.cells #[.bool n1,.slice A l c,.int .i64 e1,.bool n2,.slice A' l' c',.int .i64 e2] 30 (0,0)) from (kY.block _ lX).trans HXb.out);have hy:=hy7;have lY':=lY;clear x0 x1 x2
 obtain ⟨-,b0,b1,b2,b3,b4,b5⟩:=(HB.out.kept K.out).facts;obtain ⟨U,hU,kU,hu25,lU⟩:=V0 Y (.bool n3) (.slice B j e) (.int .i64 e3) (.bool n4) (.slice B' j' e') (.int .i64 e4);have HU:=hid hU;clear hU;go_upto_region 6 with fail;rw [←HU.out];refine wp_loop_rounds 3 ?_;rw [rounds_succ];have x0:=Ag hu25 0 _ rfl;have x1:=Ag hu25 1 _ rfl;have x2:=Ag hu25 2 _ rfl;have x3:=Ag hu25 3 _ rfl;have x4:=Ag hu25 4 _ rfl;have x5:=Ag hu25 5 _ rfl;have KU:=hid (K.out.trans kU);have HUb:=hid hu25;have hy7':=hy.kept kU;clear b0 b1 b2 b3 b4 b5 hu25;obtain ⟨Z,hZ,kZ,hz9,lZ⟩:=Kg U (.bool n3) (.slice B j e) (.int .i64 e3)
 have HZ:=hid hZ;clear hZ;go_upto_region 8 with fail;rw [←HZ.out];have KZ:=hid (KU.out.trans kZ);have hz7:=hy7'.kept kZ;clear x0 x1 x2 x3 x4 x5
 refine rS2 10 ([(vE (.slice none 0 0)),(vE (.agg #[.bool n1,.slice A l c,.int .i64 e1])),(vE (.agg #[.bool n3,.slice B j e,.int .i64 e3])),(vE (.int .i64 p)),(vE (.bool up)),(fun v wv=>(∃ d,v=.tuple #[d,.int .i64 o1.raw.k]∧DyR wv d o1.raw.v)∧(True)),(fun v wv=>DyR wv v o1.raw.v∧(True)),(vE (.int .i64 o1.raw.k)),(fun v wv=>(o1.raw.k=0∧(True))∧DyR wv v o1.raw.v),(fun v wv=>One wv v o1.raw.v)])
  (hM:=⟨⟨mE,mE,mE,mE,mE,fun v w w' k h=>by obtain ⟨⟨d,h1,h2⟩,h3⟩:=h;exact ⟨⟨d,h1,h2.kept k⟩,h3⟩,fun v w w' k h=>⟨h.1.kept k,h.2⟩,mE,fun v w w' k h=>by first | exact h | exact h.kept k | exact ⟨h.1,h.2.kept k⟩,fun v w w' k h=>h.kept k,trivial⟩⟩) ⟨
    (gq 6),(gql 8 fun _ k=>c3 hz7 k),(gql 10 fun _ k=>c3 hz9 k),(fun aF wF F=>by have s3:=F.q 3 (.pointer (some ⟨bp,0,none⟩));exact sw (by have cq:=Bc (KZ.out.trans F.kept) CP.out;go_simp) rfl),(gq 0),(fun aF wF F=>by have s32:=F.v 1 32;have s33:=F.v 2 33;have s34:=F.v 3 34;have s35:=F.v 4 35;have hC:True:=trivial;exact Bi (by simp [Region.wanted]) (by go_simp) (C1.out _ (KZ.out.trans F.kept)) (fun _ _ h=>RetE.good h) (fun _ _ h=>⟨h,hC⟩)),(fun aF wF F=>by have s36:=F.p 5 36;obtain ⟨⟨dd,ee,hh⟩,hC⟩:=s36;exact sv ⟨hh,hC⟩),(fun aF wF F=>by have s36:=F.p 5 36;exact sw (by obtain ⟨⟨dd,ee,hh⟩,-⟩:=s36;go_simp) rfl),(fun aF wF F=>by have s37:=F.p 6 37;have s38:=F.v 7 38;have hC:=s37.2;exact sG (Gk (d:=o1.v) (k:=o1.raw.k) s37.1) (fun _ _ _ h0 h=>⟨⟨h0,hC⟩,h⟩) (fun w2 k2 h0=>⟨F.defers,BAD.out _ _ (KZ.out.trans (F.kept.trans k2)) h0 (ST.out.1 h0)⟩)),(fun aF wF F=>by have s39:=F.p 8 39;obtain ⟨A9,l9,c9,e9,hd9⟩:=By s39.2;simp only [Array.getD_eq_getD_getElem?] at e9;exact sNa (I3 rfl hd9)),
    trivial⟩ ?_
 intro u w1 k1 hu;have p36:=hp hu 5;have p37:=hp hu 6;have p39:=hp hu 8;have p40:=hp hu 9;simp only [Bl,Au,if_true,Act.put,zlA,zlB,zlC,zlD,zlE,zlF,zlG,hv hu 0,hv hu 1,hv hu 2,hv hu 3,hv hu 4,hv hu 7];clear hu;generalize u 5=v36,u 6=v37,u 8=v39,u 9=v40 at *;obtain ⟨A9,l9,c9,b9,u9,hb9,hd9⟩:=p40;obtain ⟨⟨z1,-⟩,-⟩:=p39;replace K:=hid (KZ.out.trans k1);have B15':=hid ((((kU.trans kZ).trans k1).block _ (Nat.lt_trans lX lY')).trans B15.out);subst u9;refine D6 (.tmp 31) (.tmp 40) ?ho (v:=.slice none 0 0) ?hs (OwnS.nil w1 w1.heap.size) (d:=o1.v) hd9 hb9 ?hx (by simp) (Nat.le_refl _) ?h
 case ho=>rfl
 case hs=>first | rfl | (go_simp;done)
 case hx=>first | rfl | (go_simp;done)
 intro v1 S1 O1 hg1;have KS:=hid (show Kept w1 S1 from Below.grown (Below.refl _ _) hg1 (Nat.le_refl _) (by intro k hk;simp [Value.ownBlock] at hk));have Z1:=hid z1;have OW1:=hid O1;clear z1 hd9 hb9 p36 p37 hg1 O1;have lw1:w.heap.size≤w1.heap.size:=K.out.size;replace K:=hid (K.out.trans KS.out);have b25:=((kZ.trans k1).trans KS.out).block _ (Nat.lt_of_lt_of_le (Array.getElem?_eq_some_iff.1 HUb.out).1 (Nat.le_refl _)) |>.trans HUb.out
 have b7:=(hz7.kept k1).kept KS.out;have B25:=hid b25;go_simp;go_wp2_with fail;rw [rounds_succ];have x3:=Ag b25 3 _ rfl;have x4:=Ag b25 4 _ rfl;have x5:=Ag b25 5 _ rfl;obtain ⟨Z2,hZ2,kZ2,hz92,lZ2⟩:=Kg S1 (.bool n4) (.slice B' j' e') (.int .i64 e4);have HZ2:=hid hZ2;clear hZ2;go_upto_region 8 with fail;rw [←HZ2.out];generalize w1=T at *;replace K:=hid (K.out.trans kZ2);have c7:=b7.kept kZ2;clear x3 x4 x5
 refine rS2 10 ([(vE v1),(vE (.agg #[.bool n1,.slice A l c,.int .i64 e1])),(vE (.agg #[.bool n4,.slice B' j' e',.int .i64 e4])),(vE (.int .i64 p)),(vE (.bool up)),(fun v wv=>(∃ d,v=.tuple #[d,.int .i64 o2.raw.k]∧DyR wv d o2.raw.v)∧(True)),(fun v wv=>DyR wv v o2.raw.v∧(True)),(vE (.int .i64 o2.raw.k)),(fun v wv=>(o2.raw.k=0∧(True))∧DyR wv v o2.raw.v),(fun v wv=>One wv v o2.raw.v)])
  (hM:=⟨⟨mE,mE,mE,mE,mE,fun v w w' k h=>by obtain ⟨⟨d,h1,h2⟩,h3⟩:=h;exact ⟨⟨d,h1,h2.kept k⟩,h3⟩,fun v w w' k h=>⟨h.1.kept k,h.2⟩,mE,fun v w w' k h=>by first | exact h | exact h.kept k | exact ⟨h.1,h.2.kept k⟩,fun v w w' k h=>h.kept k,trivial⟩⟩) ⟨
    (gq 6),(gql 8 fun _ k=>c3 c7 k),(gql 10 fun _ k=>c3 hz92 k),(fun aF wF F=>by have s3:=F.q 3 (.pointer (some ⟨bp,0,none⟩));exact sw (by have cq:=Bc (K.out.trans F.kept) CP.out;go_simp) rfl),(gq 0),(fun aF wF F=>by have s32:=F.v 1 32;have s33:=F.v 2 33;have s34:=F.v 3 34;have s35:=F.v 4 35;have hC:True:=trivial;exact Bi (by simp [Region.wanted]) (by go_simp) (C2.out _ (K.out.trans F.kept)) (fun _ _ h=>RetE.good h) (fun _ _ h=>⟨h,hC⟩)),(fun aF wF F=>by have s36:=F.p 5 36;obtain ⟨⟨dd,ee,hh⟩,hC⟩:=s36;exact sv ⟨hh,hC⟩),(fun aF wF F=>by have s36:=F.p 5 36;exact sw (by obtain ⟨⟨dd,ee,hh⟩,-⟩:=s36;go_simp) rfl),(fun aF wF F=>by have s37:=F.p 6 37;have s38:=F.v 7 38;have hC:=s37.2;exact sG (Gk (d:=o2.v) (k:=o2.raw.k) s37.1) (fun _ _ _ h0 h=>⟨⟨h0,hC⟩,h⟩) (fun w2 k2 h0=>⟨F.defers,BAD.out _ _ (K.out.trans (F.kept.trans k2)) h0 ((ST.out.2 Z1.out).1 h0)⟩)),(fun aF wF F=>by have s39:=F.p 8 39;obtain ⟨A9,l9,c9,e9,hd9⟩:=By s39.2;simp only [Array.getD_eq_getD_getElem?] at e9;exact sNa (I3 rfl hd9)),
    trivial⟩ ?_
 intro u w1 k1 hu;have p36:=hp hu 5;have p37:=hp hu 6;have p39:=hp hu 8;have p40:=hp hu 9;simp only [Bl,Au,if_true,Act.put,zlA,zlB,zlC,zlD,zlE,zlF,zlG,hv hu 0,hv hu 1,hv hu 2,hv hu 3,hv hu 4,hv hu 7];clear hu;generalize u 5=v36,u 6=v37,u 8=v39,u 9=v40 at *;obtain ⟨A8,l8,c8,b8,u9,hb9,hd9⟩:=p40;obtain ⟨⟨z2,-⟩,-⟩:=p39;subst u9;have O2:=(OW1.out.kept kZ2).kept k1;have lT:T.heap.size≤w1.heap.size:=Nat.le_trans KS.out.size (Nat.le_trans kZ2.size k1.size);refine D6 (.tmp 31) (.tmp 40) ?ho (v:=v1) ?hs O2 (d:=o2.v) hd9 hb9 ?hx (by simp) lT ?h
 case ho=>rfl
 case hs=>first | rfl | (go_simp;done)
 case hx=>first | rfl | (go_simp;done)
 intro v2 S2 O2' hg2;have KT:=hid (show Kept T S2 from Below.grown ((KS.out.trans kZ2).trans k1) hg2 lT (fun k hk=>(O2.row.lt k hk).1));have lw2:w.heap.size≤w1.heap.size:=Nat.le_trans lw1 lT;replace K:=hid (show Kept w S2 from Below.grown (K.out.trans k1) hg2 lw2 (fun k hk=>Nat.le_trans lw1 (O2.row.lt k hk).1));have Z2':=hid z2;have OW2:=hid O2';have d15:=(KT.out.block _ (Nat.lt_of_lt_of_le (Array.getElem?_eq_some_iff.1 B15'.out).1 (Nat.le_refl _))).trans B15'.out;have D15:=hid d15;clear z2 hd9 hb9 p36 p37 hg2 O2 O2' c7 b7 b25 hz92 k1 kZ2 hz7;go_simp;go_wp2_with fail;rw [rounds_succ];go_wp2_with fail
 rw [rounds_succ];have x3:=Ag d15 3 _ rfl;have x4:=Ag d15 4 _ rfl;have x5:=Ag d15 5 _ rfl;obtain ⟨Y3,hY3,kY3,hb3,lY3⟩:=Kg S2 (.bool n2) (.slice A' l' c') (.int .i64 e2);have HY3:=hid hY3;clear hY3;go_upto_region 5 with fail;rw [←HY3.out];clear x3 x4 x5 d15;replace K:=hid (K.out.trans kY3);obtain ⟨-,b0,b1,b2,b3,b4,b5⟩:=(HB.out.kept K.out).facts;obtain ⟨U3,hU3,kU3,hu25,lU3⟩:=V0 Y3 (.bool n3) (.slice B j e) (.int .i64 e3) (.bool n4) (.slice B' j' e') (.int .i64 e4);have HU3:=hid hU3;clear hU3;go_upto_region 6 with fail;rw [←HU3.out];refine wp_loop_rounds 3 ?_;rw [rounds_succ]
 have x0:=Ag hu25 0 _ rfl;have x1:=Ag hu25 1 _ rfl;have x2:=Ag hu25 2 _ rfl;replace K:=hid (K.out.trans kU3);have HU3b:=hid hu25;clear b0 b1 b2 b3 b4 b5 hu25;obtain ⟨Z3,hZ3,kZ3,hz9,lZ3⟩:=Kg U3 (.bool n3) (.slice B j e) (.int .i64 e3);have HZ3:=hid hZ3;clear hZ3;go_upto_region 8 with fail;rw [←HZ3.out];replace K:=hid (K.out.trans kZ3);have hz7:=(hb3.kept kU3).kept kZ3;generalize w1=T2 at *;clear x0 x1 x2
 refine rS2 10 ([(vE v2),(vE (.agg #[.bool n2,.slice A' l' c',.int .i64 e2])),(vE (.agg #[.bool n3,.slice B j e,.int .i64 e3])),(vE (.int .i64 p)),(vE (.bool up)),(fun v wv=>(∃ d,v=.tuple #[d,.int .i64 o3.raw.k]∧DyR wv d o3.raw.v)∧(True)),(fun v wv=>DyR wv v o3.raw.v∧(True)),(vE (.int .i64 o3.raw.k)),(fun v wv=>(o3.raw.k=0∧(True))∧DyR wv v o3.raw.v),(fun v wv=>One wv v o3.raw.v)])
  (hM:=⟨⟨mE,mE,mE,mE,mE,fun v w w' k h=>by obtain ⟨⟨d,h1,h2⟩,h3⟩:=h;exact ⟨⟨d,h1,h2.kept k⟩,h3⟩,fun v w w' k h=>⟨h.1.kept k,h.2⟩,mE,fun v w w' k h=>by first | exact h | exact h.kept k | exact ⟨h.1,h.2.kept k⟩,fun v w w' k h=>h.kept k,trivial⟩⟩) ⟨
    (gq 6),(gql 8 fun _ k=>c3 hz7 k),(gql 10 fun _ k=>c3 hz9 k),(fun aF wF F=>by have s3:=F.q 3 (.pointer (some ⟨bp,0,none⟩));exact sw (by have cq:=Bc (K.out.trans F.kept) CP.out;go_simp) rfl),(gq 0),(fun aF wF F=>by have s32:=F.v 1 32;have s33:=F.v 2 33;have s34:=F.v 3 34;have s35:=F.v 4 35;have hC:True:=trivial;exact Bi (by simp [Region.wanted]) (by go_simp) (C3.out _ (K.out.trans F.kept)) (fun _ _ h=>RetE.good h) (fun _ _ h=>⟨h,hC⟩)),(fun aF wF F=>by have s36:=F.p 5 36;obtain ⟨⟨dd,ee,hh⟩,hC⟩:=s36;exact sv ⟨hh,hC⟩),(fun aF wF F=>by have s36:=F.p 5 36;exact sw (by obtain ⟨⟨dd,ee,hh⟩,-⟩:=s36;go_simp) rfl),(fun aF wF F=>by have s37:=F.p 6 37;have s38:=F.v 7 38;have hC:=s37.2;exact sG (Gk (d:=o3.v) (k:=o3.raw.k) s37.1) (fun _ _ _ h0 h=>⟨⟨h0,hC⟩,h⟩) (fun w2 k2 h0=>⟨F.defers,BAD.out _ _ (K.out.trans (F.kept.trans k2)) h0 (((ST.out.2 Z1.out).2 Z2'.out).1 h0)⟩)),(fun aF wF F=>by have s39:=F.p 8 39;obtain ⟨A9,l9,c9,e9,hd9⟩:=By s39.2;simp only [Array.getD_eq_getD_getElem?] at e9;exact sNa (I3 rfl hd9)),
    trivial⟩ ?_
 intro u w1 k1 hu;have p36:=hp hu 5;have p37:=hp hu 6;have p39:=hp hu 8;have p40:=hp hu 9;simp only [Bl,Au,if_true,Act.put,zlA,zlB,zlC,zlD,zlE,zlF,zlG,hv hu 0,hv hu 1,hv hu 2,hv hu 3,hv hu 4,hv hu 7];clear hu;generalize u 5=v36,u 6=v37,u 8=v39,u 9=v40 at *;obtain ⟨A7,l7,c7,b7,u9,hb9,hd9⟩:=p40;obtain ⟨⟨z3,-⟩,-⟩:=p39;subst u9;have O3:=(((OW2.out.kept kY3).kept kU3).kept kZ3).kept k1;have lT3:T.heap.size≤w1.heap.size:=Nat.le_trans KT.out.size (Nat.le_trans kY3.size (Nat.le_trans kU3.size (Nat.le_trans kZ3.size k1.size)));refine D6 (.tmp 31) (.tmp 40) ?ho (v:=v2) ?hs O3 (d:=o3.v) hd9 hb9 ?hx (by simp) lT3 ?h
 case ho=>rfl
 case hs=>first | rfl | (go_simp;done)
 case hx=>first | rfl | (go_simp;done)
 intro v3 S3 O3' hg3;have l7:S2.heap.size<w1.heap.size:=Nat.lt_of_lt_of_le lY3 (Nat.le_trans kU3.size (Nat.le_trans kZ3.size k1.size));have l25:Y3.heap.size<w1.heap.size:=Nat.lt_of_lt_of_le lU3 (Nat.le_trans kZ3.size k1.size)
 have q7:Blk S3 S2.heap.size (.bool n2) (.slice A' l' c') (.int .i64 e2) :=
  (hg3.block _ l7 (fun e=>by have:=(OW2.out.row.lt _ e.symm).2;omega)).trans (hz7.kept k1)
 have q25:=(hg3.block _ l25 (fun e=>by have:=(OW2.out.row.lt _ e.symm).2;have:=kY3.size;omega)).trans (((kZ3.trans k1).block _ (Array.getElem?_eq_some_iff.1 HU3b.out).1).trans HU3b.out);replace KT:=hid (show Kept T S3 from Below.grown (((((KT.out.trans kY3).trans kU3).trans kZ3).trans k1)) hg3 lT3 (fun k hk=>(O3.row.lt k hk).1));replace K:=hid (show Kept w S3 from Below.grown (K.out.trans k1) hg3 (Nat.le_trans lw1 lT3) (fun k hk=>Nat.le_trans lw1 (O3.row.lt k hk).1));have Z3':=hid z3;have OW3:=hid O3';clear z3 hd9 hb9 p36 p37 hg3 O3 O3' k1 kZ3 hz7 hz9 l7 l25 kY3 kU3 OW1;go_simp;go_wp2_with fail
 rw [rounds_succ];have x3:=Ag q25 3 _ rfl;have x4:=Ag q25 4 _ rfl;have x5:=Ag q25 5 _ rfl;obtain ⟨Z4,hZ4,kZ4,hz94,lZ4⟩:=Kg S3 (.bool n4) (.slice B' j' e') (.int .i64 e4);have HZ4:=hid hZ4;clear hZ4;go_upto_region 8 with fail;rw [←HZ4.out];replace K:=hid (K.out.trans kZ4);have hz7:=q7.kept kZ4;generalize w1=T3 at *;clear x3 x4 x5
 refine rS2 10 ([(vE v3),(vE (.agg #[.bool n2,.slice A' l' c',.int .i64 e2])),(vE (.agg #[.bool n4,.slice B' j' e',.int .i64 e4])),(vE (.int .i64 p)),(vE (.bool up)),(fun v wv=>(∃ d,v=.tuple #[d,.int .i64 o4.raw.k]∧DyR wv d o4.raw.v)∧(True)),(fun v wv=>DyR wv v o4.raw.v∧(True)),(vE (.int .i64 o4.raw.k)),(fun v wv=>(o4.raw.k=0∧(True))∧DyR wv v o4.raw.v),(fun v wv=>One wv v o4.raw.v)])
  (hM:=⟨⟨mE,mE,mE,mE,mE,fun v w w' k h=>by obtain ⟨⟨d,h1,h2⟩,h3⟩:=h;exact ⟨⟨d,h1,h2.kept k⟩,h3⟩,fun v w w' k h=>⟨h.1.kept k,h.2⟩,mE,fun v w w' k h=>by first | exact h | exact h.kept k | exact ⟨h.1,h.2.kept k⟩,fun v w w' k h=>h.kept k,trivial⟩⟩) ⟨
    (gq 6),(gql 8 fun _ k=>c3 hz7 k),(gql 10 fun _ k=>c3 hz94 k),(fun aF wF F=>by have s3:=F.q 3 (.pointer (some ⟨bp,0,none⟩));exact sw (by have cq:=Bc (K.out.trans F.kept) CP.out;go_simp) rfl),(gq 0),(fun aF wF F=>by have s32:=F.v 1 32;have s33:=F.v 2 33;have s34:=F.v 3 34;have s35:=F.v 4 35;have hC:True:=trivial;exact Bi (by simp [Region.wanted]) (by go_simp) (C4.out _ (K.out.trans F.kept)) (fun _ _ h=>RetE.good h) (fun _ _ h=>⟨h,hC⟩)),(fun aF wF F=>by have s36:=F.p 5 36;obtain ⟨⟨dd,ee,hh⟩,hC⟩:=s36;exact sv ⟨hh,hC⟩),(fun aF wF F=>by have s36:=F.p 5 36;exact sw (by obtain ⟨⟨dd,ee,hh⟩,-⟩:=s36;go_simp) rfl),(fun aF wF F=>by have s37:=F.p 6 37;have s38:=F.v 7 38;have hC:=s37.2;exact sG (Gk (d:=o4.v) (k:=o4.raw.k) s37.1) (fun _ _ _ h0 h=>⟨⟨h0,hC⟩,h⟩) (fun w2 k2 h0=>⟨F.defers,BAD.out _ _ (K.out.trans (F.kept.trans k2)) h0 ((((ST.out.2 Z1.out).2 Z2'.out).2 Z3'.out).1 h0)⟩)),(fun aF wF F=>by have s39:=F.p 8 39;obtain ⟨A9,l9,c9,e9,hd9⟩:=By s39.2;simp only [Array.getD_eq_getD_getElem?] at e9;exact sNa (I3 rfl hd9)),
    trivial⟩ ?_
 intro u w1 k1 hu;have p36:=hp hu 5;have p37:=hp hu 6;have p39:=hp hu 8;have p40:=hp hu 9;simp only [Bl,Au,if_true,Act.put,zlA,zlB,zlC,zlD,zlE,zlF,zlG,hv hu 0,hv hu 1,hv hu 2,hv hu 3,hv hu 4,hv hu 7];clear hu;generalize u 5=v36,u 6=v37,u 8=v39,u 9=v40 at *;obtain ⟨A6,l6,c6,b6,u9,hb9,hd9⟩:=p40;obtain ⟨⟨z4,-⟩,-⟩:=p39;subst u9;have O4:=(OW3.out.kept kZ4).kept k1;have lT4:T.heap.size≤w1.heap.size:=Nat.le_trans KT.out.size (Nat.le_trans kZ4.size k1.size);refine D6 (.tmp 31) (.tmp 40) ?ho (v:=v3) ?hs O4 (d:=o4.v) hd9 hb9 ?hx (by simp) lT4 ?h
 case ho=>rfl
 case hs=>first | rfl | (go_simp;done)
 case hx=>first | rfl | (go_simp;done)
 intro v4 S4 O4' hg4;replace KT:=hid (show Kept T S4 from Below.grown ((KT.out.trans kZ4).trans k1) hg4 lT4 (fun k hk=>(O4.row.lt k hk).1));replace K:=hid (show Kept w S4 from Below.grown (K.out.trans k1) hg4 (Nat.le_trans lw1 lT4) (fun k hk=>Nat.le_trans lw1 (O4.row.lt k hk).1));have Z4':=hid z4;have OD:=hid (show DyS S4 v4 [o1.v,o2.v,o3.v,o4.v] from O4'.dyS);clear z4 hd9 hb9 p36 p37 hg4 O4 O4' k1 kZ4 hz7 hz94 OW3 OW2 q7 q25;go_simp;go_wp2_with fail;rw [rounds_succ];go_wp2_with fail;rw [rounds_succ];have hz:=(((ST.out.2 Z1.out).2 Z2'.out).2 Z3'.out).2 Z4'.out;go_wp2_with fail;go_ret;exact ⟨K.out,.inl ⟨hz,_,rfl,OD.out⟩⟩
theorem Pn (a b c d:Outc Dy)(f:Dy→Dy→Dy→Dy→Outc Iv) :
 Ge a b c d f=if Fq [a.k,b.k,c.k,d.k]≠0 then ⟨iz,Fq [a.k,b.k,c.k,d.k]⟩ else f a.v b.v c.v d.v:=by
 unfold Ge Outc.bind;simp only [Fq];by_cases h1:a.k=0
 ·by_cases h2:b.k=0
  ·by_cases h3:c.k=0
   ·by_cases h4:d.k=0
    ·simp [h1,h2,h3,h4]
    ·simp [h1,h2,h3,h4]
   ·simp [h1,h2,h3]
  ·simp [h1,h2]
 ·simp [h1]
theorem Wl (a b:Iv)(p:Nat)(hz:Ey b=false) :
 Fp a b p=Ek ⟨Cs (Cg a.lo b.lo p false).v [(Cg a.lo b.lo p false).v,(Cg a.lo b.hi p false).v,(Cg a.hi b.lo p false).v,(Cg a.hi b.hi p false).v],
  Bw (Cg a.lo b.lo p true).v [(Cg a.lo b.lo p true).v,(Cg a.lo b.hi p true).v,(Cg a.hi b.lo p true).v,(Cg a.hi b.hi p true).v]⟩
  [Fq [(Cg a.lo b.lo p false).k,(Cg a.lo b.hi p false).k,(Cg a.hi b.lo p false).k,(Cg a.hi b.hi p false).k],
   Fq [(Cg a.lo b.lo p true).k,(Cg a.lo b.hi p true).k,(Cg a.hi b.lo p true).k,(Cg a.hi b.hi p true).k]]:=by
 unfold Fp;rw [hz,Pn];simp only [Bool.false_eq_true,if_false,Ek];by_cases h1:Fq [(Cg a.lo b.lo p false).k,(Cg a.lo b.hi p false).k,(Cg a.hi b.lo p false).k,(Cg a.hi b.hi p false).k]=0
 ·rw [Pn]
 ·simp [h1]
theorem Va {x y:Dy}{p:Nat}{up:Bool}(h:¬y.m=0):Et x y p up=Cg x y p up:=by
 unfold Et;rw [if_neg h]
theorem Vz {w:World}{a b:Iv}{p ba bb bp:Nat}(hb:b.Ok)(cb:BlkIv w bb b)(hz:Ey b=true) :
 Calls Tryz.prog 223 #[.pointer (some ⟨bb,0,none⟩),.pointer (some ⟨ba,0,none⟩),.pointer (some ⟨bp,0,none⟩)] w (Mf 189 (Cu (Fp a b p)) w):=by
 obtain ⟨B,j,e,B',j',e',hbb,y1,y2⟩:=cb;have hres:Cu (Fp a b p)=⟨rzI,4⟩:=by unfold Fp;rw [if_pos hz];unfold Cu;rw [W4]
 rw [hres];have CH:=hid (fun w1 (k:Kept w w1)=>Ab8 (v:=.agg #[.bool b.lo.neg,.slice B j e,.int .i64 b.lo.e,.bool b.hi.neg,.slice B' j' e',.int .i64 b.hi.e]) (u:=.agg #[.bool false,.slice none 0 0,.int .i64 0]) (a:=b) ⟨_,_,_,_,_,_,rfl,y1.kept k,y2.kept k⟩ (by rw [Hq];exact Hg _) hb Mq);have hhas:Wy b dz=true:=by rw [←hz];unfold Wy Ey;rw [Afc]
 rw [hhas] at CH;obtain ⟨W,hW,kW,-,-⟩:=Ya w;have HW:=hid hW;have K:=hid kW;obtain ⟨lb,c0,c1,c2,c3,c4,c5⟩:=hbb.facts;clear hW kW hbb y1 y2 hres hz hhas;go_enter Tryz.func223,Tryz.ntmps223
 go_wp2_with (first
  | (go_at_call 20;rw [←HW.out];refine (CH.out _ K.out).mono ?_;rintro e w1 ⟨rfl,q⟩;replace K:=hid (K.out.trans q))
  | (go_at_call 196;refine (Lg _ _ _).mono ?_;rintro e w3 ⟨he,rfl⟩;obtain rfl:e=.panicked (Ch 189 _):=he))
 exact ⟨rfl,K.out,.inr ⟨by decide,rfl⟩⟩
section
variable {P:Program} {ops:Array Oper} {Q:Exit→Act→World→Prop}
theorem Qi {V:Nat→Value→World→Prop}{i:Nat}{o:Oper}{a:Act}{w:World}{f:FuncId}{args:Array Value}{T:TypeId}{r:Int}{l:List Dy}(hw:Region.wanted o (yielded ops a.tmps)=true)
 (h:(execOp a.eval o).run P w=.ok (.enter f args) w) (hc:Calls P f args w (Aaz T r l w))
 (hp:∀ v w',Kept w w'→r=0→DyS w' v l→V i v w') (hq:∀ w',Kept w w'→r≠0→Q (.panic (Ch T r)) a w'):Bp P ops Q V i o a w :=
 Ia hw h hc fun e w' he=>by
  obtain ⟨k,⟨h0,v,he,hd⟩ | ⟨h0,he⟩⟩:=he
  ·exact .inl ⟨v,he,k,hp v w' k h0 hd⟩
  ·exact .inr ⟨_,he,hq w' k h0⟩
end
theorem Aex {w:World}{a b:Iv}{p ba bb bp:Nat}(ha:a.Ok)(hb:b.Ok)(hT:Tab w)(p1:1≤p)(p2:p≤2000)(ca:BlkIv w ba a)(cb:BlkIv w bb b)(cp:w.cell? ⟨bp,0,none⟩=some (.int .i64 p)) :
 Calls Tryz.prog 223 #[.pointer (some ⟨bb,0,none⟩),.pointer (some ⟨ba,0,none⟩),.pointer (some ⟨bp,0,none⟩)] w (Mf 189 (Cu (Fp a b p)) w):=by
 by_cases hz:Ey b=true
 ·exact Vz hb cb hz
 have hmf:=Es;obtain ⟨n1,n2⟩:=Pr hb hz;have hz:Ey b=false:=by simpa using hz
 obtain ⟨o1,ho1⟩:∃ o,o=Cg a.lo b.lo p false:=⟨_,rfl⟩;obtain ⟨o2,ho2⟩:∃ o,o=Cg a.lo b.hi p false:=⟨_,rfl⟩;obtain ⟨o3,ho3⟩:∃ o,o=Cg a.hi b.lo p false:=⟨_,rfl⟩;obtain ⟨o4,ho4⟩:∃ o,o=Cg a.hi b.hi p false:=⟨_,rfl⟩;obtain ⟨u1,hu1⟩:∃ o,o=Cg a.lo b.lo p true:=⟨_,rfl⟩;obtain ⟨u2,hu2⟩:∃ o,o=Cg a.lo b.hi p true:=⟨_,rfl⟩;obtain ⟨u3,hu3⟩:∃ o,o=Cg a.hi b.lo p true:=⟨_,rfl⟩;obtain ⟨u4,hu4⟩:∃ o,o=Cg a.hi b.hi p true:=⟨_,rfl⟩;obtain ⟨o5,ho5⟩:∃ o:Outc Dy,o=⟨Cs o1.v [o1.v,o2.v,o3.v,o4.v],0⟩:=⟨_,rfl⟩;obtain ⟨o6,ho6⟩:∃ o:Outc Dy,o=⟨Bw u1.v [u1.v,u2.v,u3.v,u4.v],0⟩:=⟨_,rfl⟩;have hm:Cs o1.v [o1.v,o2.v,o3.v,o4.v]=o5.v:=by rw [ho5]
 have hg:Bw u1.v [u1.v,u2.v,u3.v,u4.v]=o6.v:=by rw [ho6]
 have D1:=fun w1 (k:Kept w w1)=>Abo (up:=false) ha hb (hT.kept k) p1 p2 (ca.kept k) (cb.kept k) (Bc k cp)
 have D2:=fun w1 (k:Kept w w1)=>Abo (up:=true) ha hb (hT.kept k) p1 p2 (ca.kept k) (cb.kept k) (Bc k cp)
 simp only [Va n1,Va n2,←ho1,←ho2,←ho3,←ho4,←hu1,←hu2,←hu3,←hu4] at D1 D2;have hres:Fp a b p=Ek ⟨o5.v,o6.v⟩ [Fq [o1.k,o2.k,o3.k,o4.k],Fq [u1.k,u2.k,u3.k,u4.k]]:=by
  rw [Wl a b p hz,←ho1,←ho2,←ho3,←ho4,←hu1,←hu2,←hu3,←hu4,hm,hg]
 rw [hres];generalize Fq [o1.k,o2.k,o3.k,o4.k]=r1 at *;generalize Fq [u1.k,u2.k,u3.k,u4.k]=r2 at *;have ok1:o1.Ok:=by rw [ho1];exact Ed _ _ _ _
 have ok2:o2.Ok:=by rw [ho2];exact Ed _ _ _ _
 have ok3:o3.Ok:=by rw [ho3];exact Ed _ _ _ _
 have ok4:o4.Ok:=by rw [ho4];exact Ed _ _ _ _
 have ok5:u1.Ok:=by rw [hu1];exact Ed _ _ _ _
 have ok6:u2.Ok:=by rw [hu2];exact Ed _ _ _ _
 have ok7:u3.Ok:=by rw [hu3];exact Ed _ _ _ _
 have ok8:u4.Ok:=by rw [hu4];exact Ed _ _ _ _
 have okL4:okL [o1.v,o2.v,o3.v,o4.v]:=by intro d hd;simp at hd;rcases hd with rfl | rfl | rfl | rfl;exact ok1.1;exact ok2.1;exact ok3.1;exact ok4.1
 have okU4:okL [u1.v,u2.v,u3.v,u4.v]:=by intro d hd;simp at hd;rcases hd with rfl | rfl | rfl | rfl;exact ok5.1;exact ok6.1;exact ok7.1;exact ok8.1
 have cl:=fun w1 v (hv:DyS w1 v [o1.v,o2.v,o3.v,o4.v])=>Yr hv okL4 (by simp)
 have cg:=fun w1 v (hv:DyS w1 v [u1.v,u2.v,u3.v,u4.v])=>Pq hv okU4 (by simp)
 rw [hm] at cl;rw [hg] at cg;generalize hl1:[o1.v,o2.v,o3.v,o4.v]=ls at *;generalize hl2:[u1.v,u2.v,u3.v,u4.v]=us at *;have C1:=hid D1;have C2:=hid D2;have CL:=hid cl;have CG:=hid cg;obtain ⟨B,j,e,B',j',e',hbb,y1,y2⟩:=cb;have CH:=hid (fun w1 (k:Kept w w1)=>Ab8 (v:=.agg #[.bool b.lo.neg,.slice B j e,.int .i64 b.lo.e,.bool b.hi.neg,.slice B' j' e',.int .i64 b.hi.e]) (u:=.agg #[.bool false,.slice none 0 0,.int .i64 0]) (a:=b) ⟨_,_,_,_,_,_,rfl,y1.kept k,y2.kept k⟩ (by rw [Hq];exact Hg _) hb Mq);have hhas:Wy b dz=false:=by rw [←hz];unfold Wy Ey;rw [Afc]
 rw [hhas] at CH;obtain ⟨W,hW,kW,B3,B4⟩:=Ya w;have HW:=hid hW;have K:=hid kW;have R3:=hid B3;have R4:=hid B4;obtain ⟨lb,c0,c1,c2,c3,c4,c5⟩:=hbb.facts;have hst:=I4 ⟨o5.v,o6.v⟩ [r1,r2];obtain ⟨res,hres'⟩:∃ r,r=Cu (Ek ⟨o5.v,o6.v⟩ [r1,r2]):=⟨_,rfl⟩;have ST:=hid (show O7 res ⟨o5.raw.v,o6.raw.v⟩ [r1,r2] by rw [hres'];exact hst);rw [←hres'];have BAD:Hid (∀ (k:Int) (w1:World),Kept w w1→k≠0→res=⟨rzI,k⟩→Mf 189 res w (.panicked (Ch 189 k)) w1):=fun k w1 kk hk he=>by subst he;exact ⟨kk,.inr ⟨hk,rfl⟩⟩
 obtain ⟨la,-⟩:=(show ∃ x,w.heap[ba]?=some x from ca.elim (fun _ h=>by obtain ⟨_,_,_,_,_,h,_⟩:=h;exact ⟨_,h⟩));clear hW kW B3 B4 hbb cp ca y1 y2 ha hb hT p1 p2 ho1 ho2 ho3 ho4 ho5 ho6 hu1 hu2 hu3 hu4 hres hres' hst hm hg okL4 okU4 ok1 ok2 ok3 ok4 ok5 ok6 ok7 ok8 D1 D2 cl cg hz hhas n1 n2 hl1 hl2 la;generalize b.lo.neg=n3 at *;generalize b.lo.e=e3 at *;generalize b.hi.neg=n4 at *;generalize b.hi.e=e4 at *;go_enter Tryz.func223,Tryz.ntmps223;go_wp2_with fail;rw [←HW.out];refine (CH.out _ K.out).mono ?_;rintro e w5 ⟨rfl,q⟩;simp only [];go_wp2_with fail;refine (J3 4 _).mono ?_;rintro e w6 ⟨rfl,q6⟩
 have kk:=q.trans q6;replace K:=hid (K.out.trans kk);have hsW0:w.heap.size+1<w6.heap.size:=Nat.lt_of_lt_of_le (Array.getElem?_eq_some_iff.1 R4.out).1 kk.size;replace R3:=hid (R3.out.kept kk);replace R4:=hid (R4.out.kept kk);clear kk q q6 c0 c1 c2 c3 c4 c5 HW;simp only [];go_upto_region 3 with fail
 refine rS1 4 ([(vE (.func (.func 224) #[] #[.pointer (some ⟨ba,0,none⟩),.pointer (some ⟨bb,0,none⟩),.pointer (some ⟨bp,0,none⟩)])),(fun v wv=>r1=0∧DyS wv v ls),(fun v wv=>(r1=0)∧DyR wv v o5.raw.v),(fun v wv=>∃ b,v=.pointer (some ⟨b,0,none⟩)∧w6.heap.size≤b∧Blk wv b (.bool false) (.slice none 0 0) (.int .i64 0))])
  (hM:=⟨⟨mE,fun v w w' k h=>by first | exact h | exact h.kept k | exact ⟨h.1,h.2.kept k⟩,fun v w w' k h=>by first | exact h | exact h.kept k | exact ⟨h.1,h.2.kept k⟩,fun v w w' k h=>by obtain ⟨b,h1,h2,h3⟩:=h;exact ⟨b,h1,h2,h3.kept k⟩,trivial⟩⟩) ⟨
    (gq 5),(fun aF wF F=>by have s13:=F.v 0 13;exact Qi (by simp [Region.wanted]) (by go_simp) (C1.out _ (K.out.trans F.kept)) (fun _ _ _ h0 h=>⟨h0,h⟩) (fun w2 k2 h0=>⟨F.defers,BAD.out _ _ (K.out.trans (F.kept.trans k2)) h0 (ST.out.1 h0)⟩)),(fun aF wF F=>by have s14:=F.p 1 14;have hC:=s14.1;exact Bi (by simp [Region.wanted]) (by go_simp) (CL.out _ _ s14.2) (fun _ _ h=>RetD.good h) (fun _ _ h=>⟨hC,h⟩)),(fun aF wF F=>by exact sN ⟨_,rfl,F.kept.size,Gg _⟩),
    trivial⟩ ?_
 intro u w1 k1 hu;have p14:=hp hu 1;have p15:=hp hu 2;have p6:=hp hu 3;simp only [Bl,Au,if_true,Act.put,zlA,zlB,zlC,zlD,zlE,zlF,zlG,hv hu 0];clear hu;generalize u 1=v14,u 2=v15,u 3=v6 at *;obtain ⟨bl,rfl,hbl,hB5⟩:=p6;obtain ⟨z1,hd2⟩:=p15;obtain ⟨A5,l5,c5,rfl,hd2⟩:=By hd2;obtain ⟨lb5,c0,c1,c2,f0,f1,f2⟩:=hB5.facts;have hsW:=(Array.getElem?_eq_some_iff.1 R4.out).1;have Z:=hid z1;have KX:=hid (Bj (x:=.bool o5.raw.v.neg) (y:=.slice A5 l5 c5) (z:=.int .i64 o5.raw.v.e) (K.out.trans k1) (show w.heap.size≤bl by omega));have R3X:=hid ((R3.out.kept k1).laid_other (b':=bl) (by omega) (.bool o5.raw.v.neg) (.slice A5 l5 c5) (.int .i64 o5.raw.v.e))
 have R4X:=hid ((R4.out.kept k1).laid_other (b':=bl) (by omega) (.bool o5.raw.v.neg) (.slice A5 l5 c5) (.int .i64 o5.raw.v.e));have B5X:=hid (hB5.laid (.bool o5.raw.v.neg) (.slice A5 l5 c5) (.int .i64 o5.raw.v.e));have D5X:=hid (hd2.dyW hB5 (An _) (Ak _ _ _) (Aq _) (.bool o5.raw.v.neg) (.slice A5 l5 c5) (.int .i64 o5.raw.v.e));clear z1 hd2 hB5 hsW p14 k1;go_simp;go_wp2_with fail;change Code.wp _ _ _ _ (dyW w1 bl _ _ _);generalize dyW w1 bl (.bool o5.raw.v.neg) (.slice A5 l5 c5) (.int .i64 o5.raw.v.e)=X at *;clear c0 c1 c2 f0 f1 f2 lb5
 refine Aac 4 ([(vE (.agg #[.bool o5.raw.v.neg,.slice A5 l5 c5,.int .i64 o5.raw.v.e])),(vE (.func (.func 224) #[] #[.pointer (some ⟨ba,0,none⟩),.pointer (some ⟨bb,0,none⟩),.pointer (some ⟨bp,0,none⟩)])),(fun v wv=>r2=0∧DyS wv v us),(fun v wv=>((r2=0)∧True)∧DyR wv v o6.raw.v)])
  (hM:=⟨⟨mE,mE,fun v w w' k h=>by first | exact h | exact h.kept k | exact ⟨h.1,h.2.kept k⟩,fun v w w' k h=>by first | exact h | exact h.kept k | exact ⟨h.1,h.2.kept k⟩,trivial⟩⟩) ⟨
    (gql 6 fun _ k=>Go.Proofs.YtmgaloopddiekaaGreatDoor.c3 B5X.out k),(gq 5),(fun aF wF F=>by have s17:=F.v 1 17;exact Qi (by simp [Region.wanted]) (by go_simp) (C2.out _ (KX.out.trans F.kept)) (fun _ _ _ h0 h=>⟨h0,h⟩) (fun w2 k2 h0=>⟨F.defers,BAD.out _ _ (KX.out.trans (F.kept.trans k2)) h0 ((ST.out.2 Z.out).1 h0)⟩)),(fun aF wF F=>by have s18:=F.p 2 18;have hC:=s18.1;exact Bi (by simp [Region.wanted]) (by go_simp) (CG.out _ _ s18.2) (fun _ _ h=>RetD.good h) (fun _ _ h=>⟨⟨hC,trivial⟩,h⟩)),
    trivial⟩ ?_
 intro u w1 k1 hu;have p18:=hp hu 2;have p19:=hp hu 3;simp only [Bl,Au,if_true,Act.put,zlA,zlB,zlC,zlD,zlE,zlF,zlG,hv hu 0,hv hu 1];clear hu;generalize u 2=v18,u 3=v19 at *;obtain ⟨⟨z4,-⟩,hd4⟩:=p19;obtain ⟨A6,l6,c6,rfl,hd4⟩:=By hd4;have hres:=(ST.out.2 Z.out).2 z4;have r3:=R3X.out.kept k1;have r4:=R4X.out.kept k1;have hk:=KX.out.trans k1;have hd5:=D5X.out.kept k1;obtain ⟨-,c0,c1,c2,f0,f1,f2⟩:=r3.facts;obtain ⟨-,d0,d1,d2,g0,g1,g2⟩:=r4.facts;obtain ⟨t1,t2,t3⟩:=Ql (T:=189) hk (Nat.le_refl _) (Nat.le_succ _) (by omega) r3 r4 hd5 hd4 hres;have T1:=hid t1;have T2:=hid t2;have T3:=hid t3
 clear t1 t2 t3 r3 r4 hk hd5 hd4 hres z4 p18 k1;refine ⟨?_,?_⟩
 ·go_simp;go_wp2_with fail;exact Jq T1.out T2.out rfl rfl rfl rfl T3.out
 ·first
   | exact .inl (by kernel_rfl)
   | (right
      rw [Pk _ (by omega)] at T1 T2 T3;go_simp;go_wp2_with fail;exact Jq T1.out T2.out rfl rfl rfl rfl T3.out)
def RawI.iv (a:RawI):Iv:=⟨a.lo.dy,a.hi.dy⟩
theorem Gi {a:RawI}(h1:Small a.lo.m)(h2:Small a.hi.m)(h:Ck a=true):a.iv.Ok∧a.iv.raw=a:=by
 unfold Ck at h;simp only [Bool.and_eq_true,decide_eq_true_eq] at h;obtain ⟨⟨m1,m2⟩,m3⟩:=h;obtain ⟨c1,d1⟩:=Dq h1 m1;obtain ⟨c2,d2⟩:=Dq h2 m2;exact ⟨⟨d1,d2,K8.1 m3⟩,by unfold RawI.iv Iv.raw;simp only [c1,c2]⟩
theorem Iv.raw_iv (a:Iv):a.raw.iv=a:=by unfold Iv.raw RawI.iv;simp only [Dy.raw_dy]
theorem Yk {lo hi:Outc Dy}(h:(Gp lo hi).k≠0):(Gp lo hi).v=iz:=by
 unfold Gp Outc.bind at *;by_cases h1:lo.k=0
 ·simp only [if_pos h1] at h ⊢;by_cases h2:hi.k=0
  ·simp only [if_pos h2] at h;exact absurd rfl h
  ·simp only [if_neg h2]
 ·simp only [if_neg h1]
theorem Om {α:Type}{o:Outc α}{f:α→Outc Iv}(hf:∀ x,(f x).k≠0→(f x).v=iz)(h:(o.bind iz f).k≠0):(o.bind iz f).v=iz:=by
 unfold Outc.bind at *;by_cases h1:o.k=0
 ·rw [if_pos h1] at h ⊢;exact hf _ h
 ·rw [if_neg h1]
theorem Sp {a b c d:Outc Dy}{f:Dy→Dy→Dy→Dy→Outc Iv}(hf:∀ x y z u,(f x y z u).k≠0→(f x y z u).v=iz)(h:(Ge a b c d f).k≠0):(Ge a b c d f).v=iz:=by
 unfold Ge at *;exact Om (fun x=>Om fun y=>Om fun z=>Om fun u=>hf x y z u) h
theorem Aew {a b:Iv}{p:Nat}(h:(Gf a b p).k≠0):(Gf a b p).v=iz:=Yk h
theorem Af0 {a b:Iv}{p:Nat}(h:(Fs a b p).k≠0):(Fs a b p).v=iz:=Sp (fun _ _ _ _ h=>Yk h) h
theorem Ae8 {a b:Iv}{p:Nat}(h:(Fp a b p).k≠0):(Fp a b p).v=iz:=by
 unfold Fp at *;by_cases hs:Ey b=true
 ·rw [if_pos hs]
 ·rw [if_neg hs] at h ⊢;exact Sp (fun _ _ _ _ h=>Sp (fun _ _ _ _ h=>absurd rfl h) h) h
theorem S0 {o:Outc Iv}(h:o.k≠0→o.v=iz):(Cu o).k≠0→(Cu o).v=rzI:=fun hk=>by
 show o.v.raw=rzI
 rw [h hk,W4]
theorem W9 (w:World)(o:Obj)(n:Nat)(h:w.heap.size=n):(w.alloc o).heap[n]?=some o:=by subst h;exact heap_alloc_new _ _
theorem Se (w:World)(n:Nat)(x y z x' y' z':Value)(h:w.heap.size=n):BlkI (w.alloc (.cells #[x,y,z,x',y',z'] 51)) n x y z x' y' z':=W9 w _ n h
theorem Sg (w:World)(x0 x1 x2 x3 x4 x5 y0 y1 y2 y3 y4 y5 p:Value):∃ W,W=((((w.alloc (.cells #[x0,x1,x2,x3,x4,x5] 51)).alloc (.cells #[y0,y1,y2,y3,y4,y5] 51)).alloc (.cells #[p] 3)).alloc (.cells #[.bool false,.slice none 0 0,.int .i64 0,.bool false,.slice none 0 0,.int .i64 0] 51)).alloc (.cells #[x0,x1,x2,x3,x4,x5,y0,y1,y2,y3,y4,y5] 51) ∧
 Kept w W∧BlkI W w.heap.size x0 x1 x2 x3 x4 x5∧BlkI W (w.heap.size+1) y0 y1 y2 y3 y4 y5∧W.cell? ⟨w.heap.size+1+1,0,none⟩=some p∧BlkI W (w.heap.size+1+1+1) (.bool false) (.slice none 0 0) (.int .i64 0) (.bool false) (.slice none 0 0) (.int .i64 0) ∧
 W.heap[w.heap.size+1+1+1+1]?=some (.cells #[x0,x1,x2,x3,x4,x5,y0,y1,y2,y3,y4,y5] 51 (0,0)):=by
 refine ⟨_,rfl,((((Ad _ _).trans (Ad _ _)).trans (Ad _ _)).trans (Ad _ _)).trans (Ad _ _),?_,?_,?_,?_,W9 _ _ _ (by simp)⟩
 ·exact ((((Se w _ _ _ _ _ _ _ rfl).kept (Ad _ _)).kept (Ad _ _)).kept (Ad _ _)).kept (Ad _ _)
 ·exact (((Se _ _ _ _ _ _ _ _ (by simp)).kept (Ad _ _)).kept (Ad _ _)).kept (Ad _ _)
 ·exact Bc (Ad _ _) (Bc (Ad _ _) (Ag (W9 _ _ _ (by simp)) 0 _ rfl))
 ·exact (Se _ _ _ _ _ _ _ _ (by simp)).kept (Ad _ _)
theorem Aj1 {w:World}{b:Nat}{a:RawI}{T:TypeId}{x0 x1 x2 x3 x4 x5:Value}(h:w.heap[b]?=some (.cells #[x0,x1,x2,x3,x4,x5] T (0,0)))(h1:IvR w (.agg #[x0,x1,x2,x3,x4,x5]) a) :
 IvS w (.slice (some ⟨b,0,none⟩) 1 1) [a]:=by
 refine ⟨_,_,rfl,Nat.le_refl _,fun _=>⟨b,0,rfl,fun i d hi=>?_⟩⟩;rcases i with _ | i
 ·simp at hi;subst hi;exact ⟨_,_,_,_,_,_,Ag h 0 _ rfl,Ag h 1 _ rfl,Ag h 2 _ rfl,Ag h 3 _ rfl,Ag h 4 _ rfl,Ag h 5 _ rfl,h1⟩
 ·simp at hi
theorem Ah0 {w:World}{b:Nat}{a a':RawI}{T:TypeId}{x0 x1 x2 x3 x4 x5 y0 y1 y2 y3 y4 y5:Value}(h:w.heap[b]?=some (.cells #[x0,x1,x2,x3,x4,x5,y0,y1,y2,y3,y4,y5] T (0,0)))(h1:IvR w (.agg #[x0,x1,x2,x3,x4,x5]) a)(h2:IvR w (.agg #[y0,y1,y2,y3,y4,y5]) a') :
 IvS w (.slice (some ⟨b,0,none⟩) 2 2) [a,a']:=by
 refine ⟨_,_,rfl,Nat.le_refl _,fun _=>⟨b,0,rfl,fun i d hi=>?_⟩⟩;rcases i with _ | _ | i
 ·simp at hi;subst hi;exact ⟨_,_,_,_,_,_,Ag h 0 _ rfl,Ag h 1 _ rfl,Ag h 2 _ rfl,Ag h 3 _ rfl,Ag h 4 _ rfl,Ag h 5 _ rfl,h1⟩
 ·simp at hi;subst hi;exact ⟨_,_,_,_,_,_,Ag h 6 _ rfl,Ag h 7 _ rfl,Ag h 8 _ rfl,Ag h 9 _ rfl,Ag h 10 _ rfl,Ag h 11 _ rfl,h2⟩
 ·simp at hi
theorem Jf {w:World}{b:Nat}{a:RawI}{A A':Option Addr}{l c l' c':Nat}(hr:a.iv.raw=a)(h:BlkI w b (.bool a.lo.neg) (.slice A l c) (.int .i64 a.lo.e) (.bool a.hi.neg) (.slice A' l' c') (.int .i64 a.hi.e))
 (h1:DyR w (.agg #[.bool a.lo.neg,.slice A l c,.int .i64 a.lo.e]) a.lo) (h2:DyR w (.agg #[.bool a.hi.neg,.slice A' l' c',.int .i64 a.hi.e]) a.hi):BlkIv w b a.iv:=by
 have e1:a.iv.lo.raw=a.lo:=congrArg RawI.lo hr;have e2:a.iv.hi.raw=a.hi:=congrArg RawI.hi hr;exact ⟨A,l,c,A',l',c',h,by rw [e1];exact h1,by rw [e2];exact h2⟩
theorem DyR.small {w:World}{v:Value}{r:Raw}(h:DyR w v r):Small r.m:=by
 obtain ⟨s,_,hs,_⟩:=h;exact hs.1
theorem Ais {w:World}{v u:Value}{a b:RawI}{p:Int}(hv:IvR w v a)(hu:IvR w u b)(la:a.lens 17592186044416)(lb:b.lens 17592186044416)(hT:Tab w) :
 Calls Tryz.prog 178 #[v,u,.int .i64 p] w (RetIE (Gr p [a,b] (Cu (Gf a.iv b.iv p.toNat))) w):=by
 have hmf:=Es;obtain ⟨A,l,c,A',l',c',rfl,h1,h2⟩:=Ar hv;obtain ⟨B,j,e,B',j',e',rfl,g1,g2⟩:=Ar hu;obtain ⟨W,hW,kW,BA,BB,cp,BR,BL⟩:=Sg w (.bool a.lo.neg) (.slice A l c) (.int .i64 a.lo.e) (.bool a.hi.neg) (.slice A' l' c') (.int .i64 a.hi.e) (.bool b.lo.neg) (.slice B j e) (.int .i64 b.lo.e) (.bool b.hi.neg) (.slice B' j' e') (.int .i64 b.hi.e) (.int .i64 p)
 have hf:=Sn (w:=W) (K:=198) (cap:=#[.pointer (some ⟨w.heap.size,0,none⟩),.pointer (some ⟨w.heap.size+1,0,none⟩),.pointer (some ⟨w.heap.size+1+1,0,none⟩)]) (p:=p) (l:=[a,b]) (o:=Cu (Gf a.iv b.iv p.toNat))
  (Ah0 BL ⟨_,_,_,_,_,_,rfl,h1.kept kW,h2.kept kW⟩ ⟨_,_,_,_,_,_,rfl,g1.kept kW,g2.kept kW⟩)
  (by intro x hx;simp only [List.mem_cons,List.not_mem_nil,or_false] at hx;rcases hx with rfl | rfl;exact la;exact lb) (by simp)
  (fun p1 p2 hall w1 k=>by
    simp only [List.all_cons,List.all_nil,Bool.and_true,Bool.and_eq_true] at hall;obtain ⟨oa,ra⟩:=Gi h1.small h2.small hall.1;obtain ⟨ob,rb⟩:=Gi g1.small g2.small hall.2;have hp:((p.toNat:Nat):Int)=p:=Int.toNat_of_nonneg (by omega);exact Ahg (p:=p.toNat) oa ob (hT.kept (kW.trans k)) (by omega) (by omega) (Jf ra (BA.kept k) (h1.kept (kW.trans k)) (h2.kept (kW.trans k))) (Jf rb (BB.kept k) (g1.kept (kW.trans k)) (g2.kept (kW.trans k))) (by rw [hp];exact Bc k cp))
  (S0 Aew) (fun _=>rfl)
 generalize Gr p [a,b] (Cu (Gf a.iv b.iv p.toNat))=o at *;have HF:=hid hf;have HW:=hid hW;have HK:=hid kW;have HR:=hid BR;clear hf hW kW BA BB BR BL cp h1 h2 g1 g2 hv hu la lb hT;generalize a.lo.neg=n1 at *;generalize a.lo.e=e1 at *;generalize a.hi.neg=n2 at *;generalize a.hi.e=e2 at *;generalize b.lo.neg=n3 at *;generalize b.lo.e=e3 at *;generalize b.hi.neg=n4 at *;generalize b.hi.e=e4 at *;go_enter Tryz.func178,Tryz.ntmps178
 go_wp2_with (go_at_call 169;rw [←HW.out];refine HF.out.mono ?_;rintro e w1 ⟨q,u,rfl,hd⟩;obtain ⟨A1,j1,k1',A2,j2,k2',rfl,z1,z2⟩:=Ar hd;have Z1:=hid z1;have Z2:=hid z2;have hb2:=HR.out.kept q;obtain ⟨hsz,c0,c1,c2,c3,c4,c5⟩:=hb2.facts;obtain ⟨f0,f1,f2,f3,f4,f5⟩:=hb2.free;have HRR:=hid hb2;clear hd hb2 z1 z2)
 exact Dm (HRR.out.laid _ _ _ _ _ _) rfl rfl rfl ⟨B8 (HK.out.trans q) (by omega),_,rfl,_,_,_,_,_,_,rfl,Z1.out.ivW HRR.out _ _ _ _ _ _,Z2.out.ivW HRR.out _ _ _ _ _ _⟩
theorem Aiw {w:World}{v u:Value}{a b:RawI}{p:Int}(hv:IvR w v a)(hu:IvR w u b)(la:a.lens 17592186044416)(lb:b.lens 17592186044416)(hT:Tab w) :
 Calls Tryz.prog 142 #[v,u,.int .i64 p] w (RetIE (Gr p [a,b] (Cu (Fs a.iv b.iv p.toNat))) w):=by
 have hmf:=Es;obtain ⟨A,l,c,A',l',c',rfl,h1,h2⟩:=Ar hv;obtain ⟨B,j,e,B',j',e',rfl,g1,g2⟩:=Ar hu;obtain ⟨W,hW,kW,BA,BB,cp,BR,BL⟩:=Sg w (.bool a.lo.neg) (.slice A l c) (.int .i64 a.lo.e) (.bool a.hi.neg) (.slice A' l' c') (.int .i64 a.hi.e) (.bool b.lo.neg) (.slice B j e) (.int .i64 b.lo.e) (.bool b.hi.neg) (.slice B' j' e') (.int .i64 b.hi.e) (.int .i64 p)
 have hf:=Sn (w:=W) (K:=170) (cap:=#[.pointer (some ⟨w.heap.size,0,none⟩),.pointer (some ⟨w.heap.size+1,0,none⟩),.pointer (some ⟨w.heap.size+1+1,0,none⟩)]) (p:=p) (l:=[a,b]) (o:=Cu (Fs a.iv b.iv p.toNat))
  (Ah0 BL ⟨_,_,_,_,_,_,rfl,h1.kept kW,h2.kept kW⟩ ⟨_,_,_,_,_,_,rfl,g1.kept kW,g2.kept kW⟩)
  (by intro x hx;simp only [List.mem_cons,List.not_mem_nil,or_false] at hx;rcases hx with rfl | rfl;exact la;exact lb) (by simp)
  (fun p1 p2 hall w1 k=>by
    simp only [List.all_cons,List.all_nil,Bool.and_true,Bool.and_eq_true] at hall;obtain ⟨oa,ra⟩:=Gi h1.small h2.small hall.1;obtain ⟨ob,rb⟩:=Gi g1.small g2.small hall.2;have hp:((p.toNat:Nat):Int)=p:=Int.toNat_of_nonneg (by omega);exact Aey (p:=p.toNat) oa ob (hT.kept (kW.trans k)) (by omega) (by omega) (Jf ra (BA.kept k) (h1.kept (kW.trans k)) (h2.kept (kW.trans k))) (Jf rb (BB.kept k) (g1.kept (kW.trans k)) (g2.kept (kW.trans k))) (by rw [hp];exact Bc k cp))
  (S0 Af0) (fun _=>rfl)
 generalize Gr p [a,b] (Cu (Fs a.iv b.iv p.toNat))=o at *;have HF:=hid hf;have HW:=hid hW;have HK:=hid kW;have HR:=hid BR;clear hf hW kW BA BB BR BL cp h1 h2 g1 g2 hv hu la lb hT;generalize a.lo.neg=n1 at *;generalize a.lo.e=e1 at *;generalize a.hi.neg=n2 at *;generalize a.hi.e=e2 at *;generalize b.lo.neg=n3 at *;generalize b.lo.e=e3 at *;generalize b.hi.neg=n4 at *;generalize b.hi.e=e4 at *;go_enter Tryz.func142,Tryz.ntmps142
 go_wp2_with (go_at_call 169;rw [←HW.out];refine HF.out.mono ?_;rintro e w1 ⟨q,u,rfl,hd⟩;obtain ⟨A1,j1,k1',A2,j2,k2',rfl,z1,z2⟩:=Ar hd;have Z1:=hid z1;have Z2:=hid z2;have hb2:=HR.out.kept q;obtain ⟨hsz,c0,c1,c2,c3,c4,c5⟩:=hb2.facts;obtain ⟨f0,f1,f2,f3,f4,f5⟩:=hb2.free;have HRR:=hid hb2;clear hd hb2 z1 z2)
 exact Dm (HRR.out.laid _ _ _ _ _ _) rfl rfl rfl ⟨B8 (HK.out.trans q) (by omega),_,rfl,_,_,_,_,_,_,rfl,Z1.out.ivW HRR.out _ _ _ _ _ _,Z2.out.ivW HRR.out _ _ _ _ _ _⟩
theorem Ait {w:World}{v u:Value}{a b:RawI}{p:Int}(hv:IvR w v a)(hu:IvR w u b)(la:a.lens 17592186044416)(lb:b.lens 17592186044416)(hT:Tab w) :
 Calls Tryz.prog 201 #[v,u,.int .i64 p] w (RetIE (Gr p [a,b] (Cu (Fp a.iv b.iv p.toNat))) w):=by
 have hmf:=Es;obtain ⟨A,l,c,A',l',c',rfl,h1,h2⟩:=Ar hv;obtain ⟨B,j,e,B',j',e',rfl,g1,g2⟩:=Ar hu;obtain ⟨W,hW,kW,BA,BB,cp,BR,BL⟩:=Sg w (.bool a.lo.neg) (.slice A l c) (.int .i64 a.lo.e) (.bool a.hi.neg) (.slice A' l' c') (.int .i64 a.hi.e) (.bool b.lo.neg) (.slice B j e) (.int .i64 b.lo.e) (.bool b.hi.neg) (.slice B' j' e') (.int .i64 b.hi.e) (.int .i64 p)
 have hf:=Sn (w:=W) (K:=223) (cap:=#[.pointer (some ⟨w.heap.size+1,0,none⟩),.pointer (some ⟨w.heap.size,0,none⟩),.pointer (some ⟨w.heap.size+1+1,0,none⟩)]) (p:=p) (l:=[a,b]) (o:=Cu (Fp a.iv b.iv p.toNat))
  (Ah0 BL ⟨_,_,_,_,_,_,rfl,h1.kept kW,h2.kept kW⟩ ⟨_,_,_,_,_,_,rfl,g1.kept kW,g2.kept kW⟩)
  (by intro x hx;simp only [List.mem_cons,List.not_mem_nil,or_false] at hx;rcases hx with rfl | rfl;exact la;exact lb) (by simp)
  (fun p1 p2 hall w1 k=>by
    simp only [List.all_cons,List.all_nil,Bool.and_true,Bool.and_eq_true] at hall;obtain ⟨oa,ra⟩:=Gi h1.small h2.small hall.1;obtain ⟨ob,rb⟩:=Gi g1.small g2.small hall.2;have hp:((p.toNat:Nat):Int)=p:=Int.toNat_of_nonneg (by omega);exact Aex (p:=p.toNat) oa ob (hT.kept (kW.trans k)) (by omega) (by omega) (Jf ra (BA.kept k) (h1.kept (kW.trans k)) (h2.kept (kW.trans k))) (Jf rb (BB.kept k) (g1.kept (kW.trans k)) (g2.kept (kW.trans k))) (by rw [hp];exact Bc k cp))
  (S0 Ae8) (fun _=>rfl)
 generalize Gr p [a,b] (Cu (Fp a.iv b.iv p.toNat))=o at *;have HF:=hid hf;have HW:=hid hW;have HK:=hid kW;have HR:=hid BR;clear hf hW kW BA BB BR BL cp h1 h2 g1 g2 hv hu la lb hT;generalize a.lo.neg=n1 at *;generalize a.lo.e=e1 at *;generalize a.hi.neg=n2 at *;generalize a.hi.e=e2 at *;generalize b.lo.neg=n3 at *;generalize b.lo.e=e3 at *;generalize b.hi.neg=n4 at *;generalize b.hi.e=e4 at *;go_enter Tryz.func201,Tryz.ntmps201
 go_wp2_with (go_at_call 169;rw [←HW.out];refine HF.out.mono ?_;rintro e w1 ⟨q,u,rfl,hd⟩;obtain ⟨A1,j1,k1',A2,j2,k2',rfl,z1,z2⟩:=Ar hd;have Z1:=hid z1;have Z2:=hid z2;have hb2:=HR.out.kept q;obtain ⟨hsz,c0,c1,c2,c3,c4,c5⟩:=hb2.facts;obtain ⟨f0,f1,f2,f3,f4,f5⟩:=hb2.free;have HRR:=hid hb2;clear hd hb2 z1 z2)
 exact Dm (HRR.out.laid _ _ _ _ _ _) rfl rfl rfl ⟨B8 (HK.out.trans q) (by omega),_,rfl,_,_,_,_,_,_,rfl,Z1.out.ivW HRR.out _ _ _ _ _ _,Z2.out.ivW HRR.out _ _ _ _ _ _⟩
end Go.Proofs.YtmgaloopddiekaaGreatDoor
