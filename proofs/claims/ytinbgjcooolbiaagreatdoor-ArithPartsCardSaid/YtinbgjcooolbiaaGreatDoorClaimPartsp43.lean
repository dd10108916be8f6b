/- Words and contracts, part 43. -/
import Derived.Test.YtinbgjcooolbiaaGreatDoorClaimPartsp42
set_option maxRecDepth 100000
set_option maxHeartbeats 0
namespace Go.Proofs.YtinbgjcooolbiaaGreatDoor
open Go.Lib (hid)
open Go.RowKit
theorem Kj {z:Nat→Outc Dy}{f:Dy→Dy→Dy→Dy→Outc Iv}(h:∀ j,j<4→(z j).k=0):four (z 0) (z 1) (z 2) (z 3) f=f (z 0).v (z 1).v (z 2).v (z 3).v:=by
 unfold four;rw [Outc.bind_of _ _ (h 0 (by omega)),Outc.bind_of _ _ (h 1 (by omega)),Outc.bind_of _ _ (h 2 (by omega)),Outc.bind_of _ _ (h 3 (by omega))]
theorem Qg {z:Nat→Outc Dy}{f:Dy→Dy→Dy→Dy→Outc Iv}{k:Nat}(hk:k<4)(h:∀ j,j<k→(z j).k=0)(hb:(z k).k≠0):four (z 0) (z 1) (z 2) (z 3) f=⟨iz,(z k).k⟩:=by
 unfold four;rcases k with _ | _ | _ | _ | k
 ·exact Jx hb
 ·rw [Outc.bind_of _ _ (h 0 (by omega))];exact Jx hb
 ·rw [Outc.bind_of _ _ (h 0 (by omega)),Outc.bind_of _ _ (h 1 (by omega))];exact Jx hb
 ·rw [Outc.bind_of _ _ (h 0 (by omega)),Outc.bind_of _ _ (h 1 (by omega)),Outc.bind_of _ _ (h 2 (by omega))];exact Jx hb
 ·omega
def quz (a b:Iv) (p:Nat) (up:Bool) (k:Nat):Outc Dy:=Bh (xs4 a k) (ys4 b k) p up
theorem Ach (a b:Iv)(p:Nat)(up:Bool)(k:Nat):(quz a b p up k).v.Ok:=(C8 _ _ _ _).1
theorem Ot (a b:Iv)(p:Nat):Fa a b p=if Br b then ⟨iz,4⟩ else four (quz a b p false 0) (quz a b p false 1) (quz a b p false 2) (quz a b p false 3) fun x y z u =>
 four (quz a b p true 0) (quz a b p true 1) (quz a b p true 2) (quz a b p true 3) fun x' y' z' u'=>⟨⟨By x [x,y,z,u],Ay x' [x',y',z',u']⟩,0⟩:=rfl
theorem Wp {a b:Iv}{p:Nat}(h:Br b=true):Bv (Fa a b p)=⟨rzI,4⟩:=by rw [Ot,if_pos h,Bv,Fx]
theorem Wl {a b:Iv}{p k:Nat}(h0:Br b=false)(hk:k<4)(h:∀ j,j<k→(quz a b p false j).k=0)(hb:(quz a b p false k).k≠0):Bv (Fa a b p)=⟨rzI,(quz a b p false k).k⟩:=by
 rw [Ot,h0,if_neg (by decide),Qg hk h hb,Bv,Fx]
theorem Wm {a b:Iv}{p k:Nat}(h0:Br b=false)(g:∀ j,j<4→(quz a b p false j).k=0)(hk:k<4)(h:∀ j,j<k→(quz a b p true j).k=0)(hb:(quz a b p true k).k≠0):Bv (Fa a b p)=⟨rzI,(quz a b p true k).k⟩:=by
 rw [Ot,h0,if_neg (by decide),Kj g,Qg hk h hb,Bv,Fx]
theorem Wn {a b:Iv}{p:Nat}(h0:Br b=false)(g:∀ j,j<4→(quz a b p false j).k=0)(h:∀ j,j<4→(quz a b p true j).k=0) :
 Bv (Fa a b p)=⟨⟨(loS (quz a b p false) 4).raw,(hiS (quz a b p true) 4).raw⟩,0⟩:=by
 rw [Ot,h0,if_neg (by decide),Kj g,Kj h,Z7,Zy];rfl
theorem Acv {b:Iv}(hb:b.Ok)(h:Br b=false)(k:Nat):(ys4 b k).m≠0:=by
 have hz:¬(b.lo.q≤0∧0≤b.hi.q):=by
  intro hh;have:Br b=true:=by unfold Br;rw [decide_eq_true (Fk.2 hh.1),decide_eq_true (Fk.2 hh.2)];rfl
  rw [h] at this;exact absurd this (by decide)
 have hle:=hb.le;unfold ys4;split
 ·intro hm;have hq:b.lo.q=0:=Nb hm;rw [hq] at hz hle;exact hz ⟨Rat.le_refl,hle⟩
 ·intro hm;have hq:b.hi.q=0:=Nb hm;rw [hq] at hz hle;exact hz ⟨hle,Rat.le_refl⟩
def BlkA (w:World) (b:Nat) (x y z x' y' z':Value):Prop:=w.heap[b]?=some (.cells #[x,y,z,x',y',z'] 51 (0,0))
theorem BlkA.facts {w:World}{b:Nat}{x y z x' y' z':Value}(h:BlkA w b x y z x' y' z'):b<w.heap.size∧w.cell? ⟨b,0,none⟩=some x∧w.cell? ⟨b,1,none⟩=some y∧w.cell? ⟨b,2,none⟩=some z ∧
 w.cell? ⟨b,3,none⟩=some x'∧w.cell? ⟨b,4,none⟩=some y'∧w.cell? ⟨b,5,none⟩=some z' :=
 ⟨(Array.getElem?_eq_some_iff.1 h).1,Ae h 0 _ rfl,Ae h 1 _ rfl,Ae h 2 _ rfl,Ae h 3 _ rfl,Ae h 4 _ rfl,Ae h 5 _ rfl⟩
theorem BlkA.free {w:World}{b:Nat}{x y z x' y' z':Value}(h:BlkA w b x y z x' y' z'):w.frozen? ⟨b,0,none⟩=false∧w.frozen? ⟨b,1,none⟩=false∧w.frozen? ⟨b,2,none⟩=false∧w.frozen? ⟨b,3,none⟩=false∧w.frozen? ⟨b,4,none⟩=false∧w.frozen? ⟨b,5,none⟩=false :=
 ⟨An h 0,An h 1,An h 2,An h 3,An h 4,An h 5⟩
theorem BlkA.kept {w w1:World}{b:Nat}{x y z x' y' z':Value}(h:BlkA w b x y z x' y' z')(k:Kept w w1):BlkA w1 b x y z x' y' z' :=
 (k.block b (Array.getElem?_eq_some_iff.1 h).1).trans h
def BoxA (w:World) (b:Nat) (d d':Dy):Prop:=∃ s s',BlkA w b (.bool d.neg) s (.int .i64 d.e) (.bool d'.neg) s' (.int .i64 d'.e)∧DyR w (.agg #[.bool d.neg,s,.int .i64 d.e]) d.raw∧DyR w (.agg #[.bool d'.neg,s',.int .i64 d'.e]) d'.raw
theorem BoxA.kept {w w':World}{b:Nat}{d d':Dy}(h:BoxA w b d d')(k:Kept w w'):BoxA w' b d d':=by
 obtain ⟨s,s',h1,h2,h3⟩:=h;exact ⟨s,s',h1.kept k,h2.kept k,h3.kept k⟩
theorem Ac5 (w:World):∃ V,V=w.alloc (.cells #[.bool false,.slice none 0 0,.int .i64 0,.bool false,.slice none 0 0,.int .i64 0] 51)∧Kept w V∧BlkA V w.heap.size (.bool false) (.slice none 0 0) (.int .i64 0) (.bool false) (.slice none 0 0) (.int .i64 0) :=
 ⟨_,rfl,Ad _ _,heap_alloc_new _ _⟩
def Ow (w:World) (b:Nat) (x y z:Value):World:=((w.setCell ⟨b,3,none⟩ x).setCell ⟨b,4,none⟩ y).setCell ⟨b,5,none⟩ z
theorem BlkA.laid {w:World}{b:Nat}{x y z x' y' z':Value}(h:BlkA w b x y z x' y' z')(p q r:Value):BlkA (dyW w b p q r) b p q r x' y' z' :=
 Aw (Aw (Aw h _) _) _
theorem BlkA.laid3 {w:World}{b:Nat}{x y z x' y' z':Value}(h:BlkA w b x y z x' y' z')(p q r:Value):BlkA (Ow w b p q r) b x y z p q r :=
 Aw (Aw (Aw h _) _) _
theorem Ns {w0 w:World}{b:Nat}{x y z:Value}(h:Kept w0 w)(h2:w0.heap.size≤b):Kept w0 (Ow w b x y z) :=
 ((h.setCell (p:=⟨b,3,none⟩) h2 x).setCell (p:=⟨b,4,none⟩) h2 y).setCell (p:=⟨b,5,none⟩) h2 z
theorem Mi {n n':Bool}{s s':Value}{e e':Int}(hs:Bl s)(hs':Bl s'):∀ (i:Nat) (v:Value),(#[Value.bool n,s,.int .i64 e,.bool n',s',.int .i64 e']:Array Value)[i]?=some v→Bl v:=by
 intro i v hv;rcases i with _ | _ | _ | _ | _ | _ | i
 ·simp at hv;subst hv;exact Ah _
 ·simp at hv;subst hv;exact hs
 ·simp at hv;subst hv;exact Aj _
 ·simp at hv;subst hv;exact Ah _
 ·simp at hv;subst hv;exact hs'
 ·simp at hv;subst hv;exact Aj _
 ·simp at hv
theorem Hn {w:World}{n:Bool}{s:Value}{e:Int}{r:Raw}(h:DyR w (.agg #[.bool n,s,.int .i64 e]) r):Bl s:=by
 obtain ⟨A,l,c,e1,-,-,-,-⟩:=h.shape;injection e1 with e1;injection e1 with e1
 simp only [List.cons.injEq,and_true] at e1;obtain ⟨-,rfl,-⟩:=e1;exact Ag _ _ _
theorem Nt (w:World)(b k:Nat)(x y z:Value)(h:k≠b):(dyW w b x y z).heap[k]?=w.heap[k]?:=by
 unfold dyW;rw [Below.heap_setCell _ _ _ _ h,Below.heap_setCell _ _ _ _ h,Below.heap_setCell _ _ _ _ h]
theorem Sa (w:World)(b k:Nat)(x y z:Value)(h:k≠b):(Ow w b x y z).heap[k]?=w.heap[k]?:=by
 unfold Ow;rw [Below.heap_setCell _ _ _ _ h,Below.heap_setCell _ _ _ _ h,Below.heap_setCell _ _ _ _ h]
theorem Nq {w:World}{b:Nat}{d d' z:Dy}{s:Value}(h:BoxA w b d d')(hz:DyR w (.agg #[.bool z.neg,s,.int .i64 z.e]) z.raw) :
 BoxA (dyW w b (.bool z.neg) s (.int .i64 z.e)) b z d':=by
 obtain ⟨t,t',h1,h2,h3⟩:=h;have key:∀ v r,DyR w v r→DyR (dyW w b (.bool z.neg) s (.int .i64 z.e)) v r:=fun v r hv=>by
  obtain ⟨q,rfl,hs,g1,g2⟩:=hv;exact ⟨q,rfl,hs.setBlock h1 (Mi (Hn h2) (Hn h3)) (by simp [dyW,World.setCell]) (fun k _ hne=>Nt _ _ _ _ _ _ hne),g1,g2⟩
 exact ⟨s,t',h1.laid _ _ _,key _ _ hz,key _ _ h3⟩
theorem Nr {w:World}{b:Nat}{d d' z:Dy}{s:Value}(h:BoxA w b d d')(hz:DyR w (.agg #[.bool z.neg,s,.int .i64 z.e]) z.raw) :
 BoxA (Ow w b (.bool z.neg) s (.int .i64 z.e)) b d z:=by
 obtain ⟨t,t',h1,h2,h3⟩:=h;have key:∀ v r,DyR w v r→DyR (Ow w b (.bool z.neg) s (.int .i64 z.e)) v r:=fun v r hv=>by
  obtain ⟨q,rfl,hs,g1,g2⟩:=hv;exact ⟨q,rfl,hs.setBlock h1 (Mi (Hn h2) (Hn h3)) (by simp [Ow,World.setCell]) (fun k _ hne=>Sa _ _ _ _ _ _ hne),g1,g2⟩
 exact ⟨t,s,h1.laid3 _ _ _,key _ _ h2,key _ _ hz⟩
theorem BoxA.other {w:World}{b b':Nat}{d d':Dy}{x y z:Value}(h:BoxA w b d d')(hne:¬b=b')(h0:Blk w b' x y z)(p:Bool)(q:Value)(r:Int)(hx:Bl x:=by first | exact Ah _ | assumption)(hy:Bl y:=by first | exact Ag _ _ _ | assumption)(hz:Bl z:=by first | exact Aj _ | assumption) :
 BoxA (dyW w b' (.bool p) q (.int .i64 r)) b d d':=by
 obtain ⟨s,s',h1,h2,h3⟩:=h;refine ⟨s,s',?_,h2.dyW h0 hx hy hz _ _ _,h3.dyW h0 hx hy hz _ _ _⟩;unfold BlkA at *;rw [Nt _ _ _ _ _ _ hne];exact h1
theorem BoxA.at0 {w:World}{b:Nat}{d d':Dy}(h:BoxA w b d d'):DyAt w b 0 d:=by
 obtain ⟨s,s',h1,h2,h3⟩:=h;obtain ⟨-,c0,c1,c2,-⟩:=h1.facts;exact ⟨s,c0,c1,c2,h2⟩
theorem BoxA.at1 {w:World}{b:Nat}{d d':Dy}(h:BoxA w b d d'):DyAt w b 3 d':=by
 obtain ⟨s,s',h1,h2,h3⟩:=h;obtain ⟨-,-,-,-,c0,c1,c2⟩:=h1.facts;exact ⟨s',c0,c1,c2,h3⟩
theorem BoxA.frees {w:World}{b:Nat}{d d':Dy}(h:BoxA w b d d'):b<w.heap.size∧w.frozen? ⟨b,0,none⟩=false∧w.frozen? ⟨b,1,none⟩=false∧w.frozen? ⟨b,2,none⟩=false∧w.frozen? ⟨b,3,none⟩=false∧w.frozen? ⟨b,4,none⟩=false∧w.frozen? ⟨b,5,none⟩=false ∧
 ∃ s s',w.cell? ⟨b,0,none⟩=some (.bool d.neg)∧w.cell? ⟨b,1,none⟩=some s∧w.cell? ⟨b,2,none⟩=some (.int .i64 d.e)∧w.cell? ⟨b,3,none⟩=some (.bool d'.neg)∧w.cell? ⟨b,4,none⟩=some s'∧w.cell? ⟨b,5,none⟩=some (.int .i64 d'.e):=by
 obtain ⟨s,s',h1,h2,h3⟩:=h;obtain ⟨g,c0,c1,c2,c3,c4,c5⟩:=h1.facts;obtain ⟨f0,f1,f2,f3,f4,f5⟩:=h1.free;exact ⟨g,f0,f1,f2,f3,f4,f5,s,s',c0,c1,c2,c3,c4,c5⟩
theorem Ab5 (z:Nat→Outc Dy):loS z 1=(z 0).v:=by simp only [loS,if_true,ite_self]
theorem Ab3 (z:Nat→Outc Dy):hiS z 1=(z 0).v:=by simp only [hiS,if_true,ite_self]
theorem Aai {w:World}{v u:Value}{a b:RawI}{p:Int}(ha:IvR w v a)(hb:IvR w u b)(la:a.lens 17592186044416)(lb:b.lens 17592186044416)(hp:p≤1000∨2000<p) :
 Calls Tryz.prog 7 #[v,u,.int .i64 p] w (RetIE (Cs p [a,b] (Bv (Fa a.iv b.iv p.toNat))) w):=by
 rw [Abz];have RI:=hid hb;have HPP:=hid hp;clear hp;have MA:=hid (fun w1 (k:Kept w w1)=>Lu (ha.kept k) la);have MB:=hid (fun w1 (k:Kept w w1)=>Lu (hb.kept k) lb);have P1:=hid (fun w1=>Yb (w:=w1) (p:=p));obtain ⟨A,l,c,A',l',c',rfl,h1,h2⟩:=Be ha;obtain ⟨B,m,d,B',m',d',rfl,g1,g2⟩:=Be hb;have CA:=hid (fun (h:Ex a=true)=>D7 h1.small h2.small h);have CB:=hid (fun (h:Ex b=true)=>D7 g1.small g2.small h);have RA:=hid h1;have RA':=hid h2;have RB:=hid g1;have RB':=hid g2;clear ha hb h1 h2 g1 g2 la lb;obtain ⟨ma,hma⟩:∃ x,Ex a=x:=⟨_,rfl⟩;obtain ⟨mb,hmb⟩:∃ x,Ex b=x:=⟨_,rfl⟩
 obtain ⟨mp,hmp⟩:∃ x,(decide (1≤p)&&decide (p≤2000))=x:=⟨_,rfl⟩;have HP:=hid (fun (h:mp=true)=>show 1≤p∧p≤2000 by rw [←hmp] at h;simpa using h);rw [hma,hmb,hmp];rw [hma] at MA CA;rw [hmb] at MB CB;rw [hmp] at P1;clear hma hmb hmp;obtain ⟨T,hT⟩:∃ T,(if ma&&mb&&mp then Bv (Fa a.iv b.iv p.toNat) else ⟨rzI,1⟩)=T:=⟨_,rfl⟩;rw [hT];have HT:=hid hT;clear hT;have CE:=hid (fun (h:(ma&&mb&&mp)=true)=>show (∃ n:Nat,p=n∧1≤n∧n≤1000)∧a.iv.Ok∧b.iv.Ok∧a=a.iv.raw∧b=b.iv.raw∧T=Bv (Fa a.iv b.iv p.toNat) by
  have ht:=HT.out;rw [if_pos h] at ht;simp only [Bool.and_eq_true] at h;obtain ⟨⟨e1,e2⟩,e3⟩:=h;have:=HP.out e3;have:=HPP.out;exact ⟨⟨p.toNat,by omega,by omega,by omega⟩,(CA.out e1).1,(CB.out e2).1,(CA.out e1).2.symm,(CB.out e2).2.symm,ht.symm⟩)
 have CN:=hid (fun (h:(ma&&mb&&mp)=false)=>show T=⟨rzI,1⟩ by rw [←HT.out,h];rfl);clear HT HP CA CB HPP;obtain ⟨ai,hai⟩:∃ x,a.iv=x:=⟨_,rfl⟩;obtain ⟨bi,hbi⟩:∃ x,b.iv=x:=⟨_,rfl⟩;rw [hai,hbi] at CE;clear hai hbi;generalize hx1:a.lo.neg=n1 at *;generalize hx2:a.lo.e=e1 at *;generalize hx3:a.hi.neg=n2 at *;generalize hx4:a.hi.e=e2 at *;generalize hy1:b.lo.neg=n3 at *;generalize hy2:b.lo.e=e3 at *;generalize hy3:b.hi.neg=n4 at *;generalize hy4:b.hi.e=e4 at *;have HN:=hid (And.intro (And.intro (And.intro hx1 hx2) (And.intro hx3 hx4)) (And.intro (And.intro hy1 hy2) (And.intro hy3 hy4)));clear hx1 hx2 hx3 hx4 hy1 hy2 hy3 hy4
 obtain ⟨W,hW,kW,BA,BB,BR⟩:=Abt w (.bool n1) (.slice A l c) (.int .i64 e1) (.bool n2) (.slice A' l' c') (.int .i64 e2) (.bool n3) (.slice B m d) (.int .i64 e3) (.bool n4) (.slice B' m' d') (.int .i64 e4);have HW:=hid hW;have K:=hid kW;have HA:=hid BA;have HB:=hid BB;have HR:=hid BR;clear hW kW BA BB BR;go_enter Tryz.func7,Tryz.ntmps7;go_upto_region 1 with fail;rw [←HW.out]
 refine rS 13 ([(vE (.agg #[.bool n1,.slice A l c,.int .i64 e1,.bool n2,.slice A' l' c',.int .i64 e2])),(vE (.bool ma)),(vE (.bool (!ma))),(vE (.bool (!ma))),(fun v wv=>(ma=true→(fun v _=>v=(.agg #[.bool n3,.slice B m d,.int .i64 e3,.bool n4,.slice B' m' d',.int .i64 e4])) v wv)∧(ma=false→v=undef)),(fun v wv=>(ma=true→(fun v _=>v=(.bool mb)) v wv)∧(ma=false→v=undef)),(fun v wv=>(ma=true→(fun v _=>v=(.bool (!mb))) v wv)∧(ma=false→v=undef)),(vE (.bool (!(ma&&mb)))),(vE (.bool (!(ma&&mb)))),(fun v wv=>((ma&&mb)=true→(fun v _=>v=(.int .i64 p)) v wv)∧((ma&&mb)=false→v=undef)),(fun v wv=>((ma&&mb)=true→(fun v _=>v=(.bool mp)) v wv)∧((ma&&mb)=false→v=undef)),(fun v wv=>((ma&&mb)=true→(fun v _=>v=(.bool (!mp))) v wv)∧((ma&&mb)=false→v=undef)),(vE (.bool (!(ma&&mb&&mp))))])
  ⟨
   (gql 3 fun _ k=>c6 HA.out k),(fun aF wF F=>by have s15:=F.v 0 15;exact sK (MA.out _ (K.out.trans F.kept)) fun _ _ h=>h),(gv 1 16),(gv 2 17),
   (fun aF wF F=>by
  have sg:=F.v 3 18;have s4:=F.q 4 (.pointer (some ⟨w.heap.size+1,0,none⟩));obtain ⟨c0,c1,c2,c3,c4,c5⟩:=c6 HB.out F.kept;rcases Ca ma with hC | hC
  ·refine sIm hC (vE (.agg #[.bool n3,.slice B m d,.int .i64 e3,.bool n4,.slice B' m' d',.int .i64 e4])) ?_;exact sVc rfl rfl sg (by first | rfl | simp [hC])
  ·exact sOc rfl rfl sg (by first | rfl | simp [hC]) (nW hC)),
   (fun aF wF F=>by
  have sg:=F.v 3 18;have s19:(ma=true→aF.tmps.getD 19 undef=(.agg #[.bool n3,.slice B m d,.int .i64 e3,.bool n4,.slice B' m' d',.int .i64 e4]))∧(ma=false→aF.tmps.getD 19 undef=undef):=F.done 4 19 (by kernel_rfl) rfl;rcases Ca ma with hC | hC
  ·refine sIm hC (vE (.bool mb)) ?_;replace s19:=s19.1 hC;exact Ao ((Ai rfl rfl sg).trans (by first | rfl | simp [hC])) (by go_simp) (MB.out _ (K.out.trans F.kept)) (fun _ _ h=>RetK.good h) (fun _ _ h=>h)
  ·exact sOc rfl rfl sg (by first | rfl | simp [hC]) (nW hC)),
   (fun aF wF F=>by
  have sg:=F.v 3 18;have s20:(ma=true→aF.tmps.getD 20 undef=(.bool mb))∧(ma=false→aF.tmps.getD 20 undef=undef):=F.done 5 20 (by kernel_rfl) rfl;rcases Ca ma with hC | hC
  ·refine sIm hC (vE (.bool (!mb))) ?_;replace s20:=s20.1 hC;exact sVc rfl rfl sg (by first | rfl | simp [hC])
  ·exact sOc rfl rfl sg (by first | rfl | simp [hC]) (nW hC)),
   (fun aF wF F=>by
  have s18:=F.v 3 18;have s21:(ma=true→aF.tmps.getD 21 undef=(.bool (!mb)))∧(ma=false→aF.tmps.getD 21 undef=undef):=F.done 6 21 (by kernel_rfl) rfl;rcases Ca ma with hE | hE
  ·replace s21:=s21.1 hE;exact sw (by first | (go_simp;done) | (go_simp;simp_all;done) | (simp_all;done)) rfl
  ·exact sw (by first | (go_simp;done) | (go_simp;simp_all;done) | (simp_all;done)) rfl),(gv 7 22),
   (fun aF wF F=>by
  have sg:=F.v 8 23;have s2:=F.q 2 (.int .i64 p);rcases Ca (ma&&mb) with hC | hC
  ·refine sIm hC (vE (.int .i64 p)) ?_;exact sVc rfl rfl sg (by first | rfl | simp [hC])
  ·exact sOc rfl rfl sg (by first | rfl | simp [hC]) (nW hC)),
   (fun aF wF F=>by
  have sg:=F.v 8 23;have s24:((ma&&mb)=true→aF.tmps.getD 24 undef=(.int .i64 p))∧((ma&&mb)=false→aF.tmps.getD 24 undef=undef):=F.done 9 24 (by kernel_rfl) rfl;rcases Ca (ma&&mb) with hC | hC
  ·refine sIm hC (vE (.bool mp)) ?_;replace s24:=s24.1 hC;exact Ao ((Ai rfl rfl sg).trans (by first | rfl | simp [hC])) (by go_simp) (P1.out _) (fun _ _ h=>RetK.good h) (fun _ _ h=>h)
  ·exact sOc rfl rfl sg (by first | rfl | simp [hC]) (nW hC)),
   (fun aF wF F=>by
  have sg:=F.v 8 23;have s25:((ma&&mb)=true→aF.tmps.getD 25 undef=(.bool mp))∧((ma&&mb)=false→aF.tmps.getD 25 undef=undef):=F.done 10 25 (by kernel_rfl) rfl;rcases Ca (ma&&mb) with hC | hC
  ·refine sIm hC (vE (.bool (!mp))) ?_;replace s25:=s25.1 hC;exact sVc rfl rfl sg (by first | rfl | simp [hC])
  ·exact sOc rfl rfl sg (by first | rfl | simp [hC]) (nW hC)),
   (fun aF wF F=>by
  have s23:=F.v 8 23;have s26:((ma&&mb)=true→aF.tmps.getD 26 undef=(.bool (!mp)))∧((ma&&mb)=false→aF.tmps.getD 26 undef=undef):=F.done 11 26 (by kernel_rfl) rfl;rcases Ca (ma&&mb) with hE | hE
  ·replace s26:=s26.1 hE;exact sw (by first | (go_simp;done) | (go_simp;simp_all;done) | (simp_all;done)) rfl
  ·exact sw (by first | (go_simp;done) | (go_simp;simp_all;done) | (simp_all;done)) rfl),
   trivial⟩ ?_
 intro u w1 k1 hu;have p19:=hp hu 4;have p20:=hp hu 5;have p21:=hp hu 6;have p24:=hp hu 9;have p25:=hp hu 10;have p26:=hp hu 11;simp only [Av,Am,if_true,Act.put,zlA,zlB,zlC,zlD,zlE,zlF,zlG,hv hu 0,hv hu 1,hv hu 2,hv hu 3,hv hu 7,hv hu 8,hv hu 12];clear hu;generalize u 4=v19,u 5=v20,u 6=v21,u 9=v24,u 10=v25,u 11=v26 at *;clear p19 p20 p21 p24 p25 p26 MA MB P1;replace K:=hid (K.out.trans k1);replace HA:=hid (HA.out.kept k1);replace HB:=hid (HB.out.kept k1);replace HR:=hid (HR.out.kept k1);clear k1;rcases (Ca (ma&&mb&&mp)).symm with hg | hg
 ·have r0:=CN.out hg;subst r0;rw [hg];clear hg CN CE HA HB RA RA' RB RB';obtain ⟨-,r0,r1,r2,r3,r4,r5⟩:=HR.out.facts;obtain ⟨f0,f1,f2,f3,f4,f5⟩:=HR.out.free;go_wp2_with fail;exact Ei (HR.out.laid _ _ _ _ _ _) rfl rfl rfl ⟨Cq K.out (by omega),_,rfl,D0 _⟩
 obtain ⟨⟨n,rfl,p1,p2⟩,oa,ob,ra,rb,rT⟩:=CE.out hg;rw [hg];subst ra;subst rb;clear hg CE CN;obtain ⟨⟨⟨hx1,hx2⟩,⟨hx3,hx4⟩⟩,⟨⟨hy1,hy2⟩,⟨hy3,hy4⟩⟩⟩:=HN.out;subst hx1 hx2 hx3 hx4 hy1 hy2 hy3 hy4;have hT:T=Bv (Fa ai bi n):=rT;have G1:=hid (fun w1 (k:Kept w w1)=>show DyR w1 (.agg #[.bool ai.lo.neg,.slice A l c,.int .i64 ai.lo.e]) ai.lo.raw from RA.out.kept k);have G2:=hid (fun w1 (k:Kept w w1)=>show DyR w1 (.agg #[.bool ai.hi.neg,.slice A' l' c',.int .i64 ai.hi.e]) ai.hi.raw from RA'.out.kept k);have G3:=hid (fun w1 (k:Kept w w1)=>show DyR w1 (.agg #[.bool bi.lo.neg,.slice B m d,.int .i64 bi.lo.e]) bi.lo.raw from RB.out.kept k)
 have G4:=hid (fun w1 (k:Kept w w1)=>show DyR w1 (.agg #[.bool bi.hi.neg,.slice B' m' d',.int .i64 bi.hi.e]) bi.hi.raw from RB'.out.kept k);have H0:=hid (fun w1 (k:Kept w w1)=>Aaj (RI.out.kept k) ob);have hz:=fun up k=>Ach ai bi n up k
 have CQ:=hid (fun (h0:Br bi=false) up k w1 v1 v2 (h1:DyR w1 v1 (xs4 ai k).raw) (h2:DyR w1 v2 (ys4 bi k).raw)=>show Calls Tryz.prog 39 #[v1,v2,.int .i64 n,.bool up] w1 (RetE (quz ai bi n up k).raw w1) from Aal h1 h2 (Acu oa k) (Acw ob k) (Acv ob h0 k) p1 p2);have t0:=@Wp ai bi n;have t1:=fun k=>@Wl ai bi n k
 have t2:=fun k=>@Wm ai bi n k
 have t3:=@Wn ai bi n;rw [←hT] at t0 t3;simp only [←hT] at t1 t2;have OZ:=hid hz;have T0:=hid t0;have T1:=hid t1;have T2:=hid t2;have T3:=hid t3;clear hT rT RA RA' RB RB' RI HN t0 t1 t2 t3 p1 p2 hz oa ob;simp only [Iv.raw,Dy.raw] at HA HB H0 ⊢;simp only [Bool.not_true];have lt0:w.heap.size+1+1<w1.heap.size:=HR.out.facts.1;obtain ⟨-,b0,b1,b2,b3,b4,b5⟩:=HB.out.facts;go_wp2_with fail;refine (H0.out _ K.out).mono ?_;rintro _ w2 ⟨rfl,q1⟩;replace K:=hid (K.out.trans q1);replace HA:=hid (HA.out.kept q1);replace HB:=hid (HB.out.kept q1);replace HR:=hid (HR.out.kept q1);clear b0 b1 b2 b3 b4 b5 q1 H0
 simp only [];rcases Ca (Br bi) with hg | hg
 ·have r0:=T0.out hg;subst r0;rw [hg];clear hg T0 T1 T2 T3 HA HB CQ G1 G2 G3 G4 OZ;obtain ⟨-,r0,r1,r2,r3,r4,r5⟩:=HR.out.facts;obtain ⟨f0,f1,f2,f3,f4,f5⟩:=HR.out.free;go_wp2_with fail;exact Ei (HR.out.laid _ _ _ _ _ _) rfl rfl rfl ⟨Cq K.out (by omega),_,rfl,D0 _⟩
 rw [hg];replace CQ:=hid (CQ.out hg);replace T1:=hid (fun k=>T1.out k hg);replace T2:=hid (fun g k=>T2.out k hg g);replace T3:=hid (T3.out hg);clear T0 hg;go_upto_region 5 with fail
 refine rgL 20 ([(vP w.heap.size 0),(vE (.agg #[.bool ai.lo.neg,.slice A l c,.int .i64 ai.lo.e])),(vP w.heap.size 0),(vE (.agg #[.bool ai.lo.neg,.slice A l c,.int .i64 ai.lo.e])),(vP w.heap.size 3),(vE (.agg #[.bool ai.hi.neg,.slice A' l' c',.int .i64 ai.hi.e])),(vP w.heap.size 3),(vE (.agg #[.bool ai.hi.neg,.slice A' l' c',.int .i64 ai.hi.e])),(fun v wv=>DyS wv v [ai.lo,ai.lo,ai.hi,ai.hi]),(vP (w.heap.size+1) 0),(vE (.agg #[.bool bi.lo.neg,.slice B m d,.int .i64 bi.lo.e])),(vP (w.heap.size+1) 3),(vE (.agg #[.bool bi.hi.neg,.slice B' m' d',.int .i64 bi.hi.e])),(vP (w.heap.size+1) 0),(vE (.agg #[.bool bi.lo.neg,.slice B m d,.int .i64 bi.lo.e])),(vP (w.heap.size+1) 3),(vE (.agg #[.bool bi.hi.neg,.slice B' m' d',.int .i64 bi.hi.e])),(fun v wv=>DyS wv v [bi.lo,bi.hi,bi.lo,bi.hi]),(fun v wv=>DyS wv v [ai.lo,ai.lo,ai.hi,ai.hi]),(fun v wv=>DyS wv v [bi.lo,bi.hi,bi.lo,bi.hi])])
  (hM:=⟨⟨mE,mE,mE,mE,mE,mE,mE,mE,fun v w w' k h=>h.kept k,mE,mE,mE,mE,mE,mE,mE,mE,fun v w w' k h=>h.kept k,fun v w w' k h=>by first | exact h | exact h.kept k | exact ⟨h.1,h.2.kept k⟩,fun v w w' k h=>by first | exact h | exact h.kept k | exact ⟨h.1,h.2.kept k⟩,trivial⟩⟩) ⟨
    (gq 3),(fun aF wF F=>by have s33:=F.v 0 33;have c0:=Af HA.out F.kept 0 _ rfl;have c1:=Af HA.out F.kept 1 _ rfl;have c2:=Af HA.out F.kept 2 _ rfl;exact sv rfl),(gq 3),(fun aF wF F=>by have s35:=F.v 2 35;have c0:=Af HA.out F.kept 0 _ rfl;have c1:=Af HA.out F.kept 1 _ rfl;have c2:=Af HA.out F.kept 2 _ rfl;exact sv rfl),(gq 3),(fun aF wF F=>by have s37:=F.v 4 37;have c0:=Af HA.out F.kept 3 _ rfl;have c1:=Af HA.out F.kept 4 _ rfl;have c2:=Af HA.out F.kept 5 _ rfl;exact sv rfl),(gq 3),(fun aF wF F=>by have s39:=F.v 6 39;have c0:=Af HA.out F.kept 3 _ rfl;have c1:=Af HA.out F.kept 4 _ rfl;have c2:=Af HA.out F.kept 5 _ rfl;exact sv rfl),(fun aF wF F=>by have s34:=F.v 1 34;have s36:=F.v 3 36;have s38:=F.v 5 38;have s40:=F.v 7 40;simp only [Array.getD_eq_getD_getElem?] at s34;simp only [Array.getD_eq_getD_getElem?] at s36;simp only [Array.getD_eq_getD_getElem?] at s38;simp only [Array.getD_eq_getD_getElem?] at s40;exact sNa (Qe rfl (G1.out _ (K.out.trans F.kept)) (G1.out _ (K.out.trans F.kept)) (G2.out _ (K.out.trans F.kept)) (G2.out _ (K.out.trans F.kept)))),(gq 4),(fun aF wF F=>by have s42:=F.v 9 42;have c0:=Af HB.out F.kept 0 _ rfl;have c1:=Af HB.out F.kept 1 _ rfl;have c2:=Af HB.out F.kept 2 _ rfl;exact sv rfl),(gq 4),(fun aF wF F=>by have s44:=F.v 11 44;have c0:=Af HB.out F.kept 3 _ rfl;have c1:=Af HB.out F.kept 4 _ rfl;have c2:=Af HB.out F.kept 5 _ rfl;exact sv rfl),(gq 4),(fun aF wF F=>by have s46:=F.v 13 46;have c0:=Af HB.out F.kept 0 _ rfl;have c1:=Af HB.out F.kept 1 _ rfl;have c2:=Af HB.out F.kept 2 _ rfl;exact sv rfl),(gq 4),(fun aF wF F=>by have s48:=F.v 15 48;have c0:=Af HB.out F.kept 3 _ rfl;have c1:=Af HB.out F.kept 4 _ rfl;have c2:=Af HB.out F.kept 5 _ rfl;exact sv rfl),(fun aF wF F=>by have s43:=F.v 10 43;have s45:=F.v 12 45;have s47:=F.v 14 47;have s49:=F.v 16 49;simp only [Array.getD_eq_getD_getElem?] at s43;simp only [Array.getD_eq_getD_getElem?] at s45;simp only [Array.getD_eq_getD_getElem?] at s47;simp only [Array.getD_eq_getD_getElem?] at s49;exact sNa (Qe rfl (G3.out _ (K.out.trans F.kept)) (G4.out _ (K.out.trans F.kept)) (G3.out _ (K.out.trans F.kept)) (G4.out _ (K.out.trans F.kept)))),(gm 8 41),(gm 17 50),
    trivial⟩ ?_
 intro u w3 k3 hu;have p41:=hp hu 8;have p50:=hp hu 17;have p8:=hp hu 18;have p9:=hp hu 19;simp only [Av,Am,if_true,Act.put,zlA,zlB,zlC,zlD,zlE,zlF,zlG,hv hu 0,hv hu 1,hv hu 2,hv hu 3,hv hu 4,hv hu 5,hv hu 6,hv hu 7,hv hu 9,hv hu 10,hv hu 11,hv hu 12,hv hu 13,hv hu 14,hv hu 15,hv hu 16];clear hu;generalize u 8=v41,u 17=v50,u 18=v8,u 19=v9 at *;obtain ⟨b8,o8,c8,rfl,X8⟩:=p8.four (xs4 ai) rfl rfl rfl rfl;obtain ⟨b9,o9,c9,rfl,X9⟩:=p9.four (ys4 bi) rfl rfl rfl rfl;have D8:=hid X8;have D9:=hid X9;replace K:=hid (K.out.trans k3);replace HR:=hid (HR.out.kept k3);replace lt0:w.heap.size+1+1<w3.heap.size:=HR.out.facts.1
 clear p8 p9 p41 p50 X8 X9 HA HB k3 G1 G2 G3 G4;obtain ⟨V,hV,kV,hb⟩:=Ac5 w3;have HV:=hid hV;have KV:=hid kV;have IA:=hid (show BoxA V w3.heap.size dz dz from ⟨.slice none 0 0,.slice none 0 0,hb,by rw [Cj];exact E4 V,by rw [Cj];exact E4 V⟩);clear hV kV hb;go_upto_region 7 with fail;rw [←HV.out];clear HV;generalize (!(ma&&mb))=g22 at *;generalize (!ma)=g17 at *;go_wp2_with fail
 go_loopw [11] (fun s wr=>∃ κ:Int,s=.int .i64 κ∧Kept w3 wr∧((κ=0∧BoxA wr w3.heap.size dz dz)∨(κ=1∧BoxA wr w3.heap.size (loS (quz ai bi n false) 4) dz∧Hid (∀ j,j<4→(quz ai bi n false j).k=0))∨(κ=2∧BoxA wr w3.heap.size (loS (quz ai bi n false) 4) (hiS (quz ai bi n true) 4)∧Hid (∀ j,j<4→(quz ai bi n false j).k=0)∧Hid (∀ j,j<4→(quz ai bi n true j).k=0)))) (fun s _=>(2-intOf s).toNat)
 case atStart=>exact ⟨0,rfl,KV.out,.inl ⟨rfl,IA.out⟩⟩
 case round =>
  obtain ⟨κ,rfl,kr,⟨rfl,ia⟩ | ⟨rfl,ia,a0⟩ | ⟨rfl,ia,a0,a1⟩⟩:=hrel
  ·have KR := hid kr;clear kr IA KV;have JA:=hid ia;clear ia T2 T3;replace T1:=hid (fun k=>T1.out k);go_wp2_with fail
   go_loopw [12] (fun s wx=>∃ i:Nat,i≤4∧s=.int .i64 i∧Kept w3 wx∧BoxA wx w3.heap.size (loS (quz ai bi n false) i) dz∧Hid (∀ j,j<i→(quz ai bi n false j).k=0)) (fun s _=>4-(intOf s).toNat)
   case atStart=>exact ⟨0,by omega,rfl,KR.out,JA.out,hid (fun j h=>absurd h (by omega))⟩
   case round =>
    obtain ⟨i,hi,rfl,kx,ja,AL⟩:=hrel;by_cases hi4:i<4
    ·have d4:decide (i<4)=true:=decide_eq_true hi4;replace K:=hid (K.out.trans kx);replace HR:=hid (HR.out.kept kx);replace KR:=hid kx;replace JA:=hid ja;clear kx ja;go_wp2_with fail
     refine F4 (e:=14) (m:=16) (V:=VL [(vE (.slice (some ⟨b8,o8,none⟩) 4 c8)),(vE (.int .i64 (i:Int))),(vE (.pointer (some ⟨b8,o8+i*3,none⟩))),(fun v wv=>DyR wv v ((xs4 ai i).raw)),(vE (.slice (some ⟨b9,o9,none⟩) 4 c9)),(vE (.int .i64 (i:Int))),(vE (.pointer (some ⟨b9,o9+i*3,none⟩))),(fun v wv=>DyR wv v ((ys4 bi i).raw)),(vE (.int .i64 n)),(vE (.int .i64 0)),(vE (.bool false)),(fun v wv=>∃ d,v=.tuple #[d,.int .i64 ((quz ai bi n false i).raw).k]∧DyR wv d ((quz ai bi n false i).raw).v),(fun v wv=>∃ d,v=.tuple #[d,.int .i64 ((quz ai bi n false i).raw).k]∧DyR wv d ((quz ai bi n false i).raw).v),(fun v wv=>DyR wv v ((quz ai bi n false i).raw).v),(vE (.int .i64 ((quz ai bi n false i).raw).k)),(fun v wv=>∃ b,v=.pointer (some ⟨b,0,none⟩)∧wr.heap.size≤b∧Blk wv b (.bool false) (.slice none 0 0) (.int .i64 0))])
      (by kernel_rfl) rfl rfl rfl rfl rfl rfl rfl (by decide) (by kernel_rfl) (by kernel_rfl) (by kernel_rfl) (by kernel_rfl) (by kernel_rfl) (by kernel_rfl) (E7 _ ⟨mE,mE,mE,mD,mE,mE,mE,mD,mE,mE,mE,fun v w w' k h=>by obtain ⟨d,h1,h2⟩:=h;exact ⟨d,h1,h2.kept k⟩,fun v w w' k h=>by obtain ⟨d,h1,h2⟩:=h;exact ⟨d,h1,h2.kept k⟩,mD,mE,fun v w w' k h=>by obtain ⟨b,h1,h2,h3⟩:=h;exact ⟨b,h1,h2,h3.kept k⟩,trivial⟩) (Ep ⟨
        (fun aF wF F=>by have s8:=F.q 8 (.slice (some ⟨b8,o8,none⟩) 4 c8);exact sv rfl),(fun aF wF F=>by have s12:=F.q 12 (.int .i64 (i:Int));exact sv rfl),(fun aF wF F=>by have s60:=F.v 0 60;have s61:=F.v 1 61;exact sv rfl),(fun aF wF F=>by have s62:=F.v 2 62;obtain ⟨ss,h0,h1,h2,hI⟩:=((D8.out i hi4).kept (KR.out.trans F.kept));exact sv hI),(fun aF wF F=>by have s9:=F.q 9 (.slice (some ⟨b9,o9,none⟩) 4 c9);exact sv rfl),(fun aF wF F=>by have s12:=F.q 12 (.int .i64 (i:Int));exact sv rfl),(fun aF wF F=>by have s64:=F.v 4 64;have s65:=F.v 5 65;exact sv rfl),(fun aF wF F=>by have s66:=F.v 6 66;obtain ⟨ss,h0,h1,h2,hI⟩:=((D9.out i hi4).kept (KR.out.trans F.kept));exact sv hI),(fun aF wF F=>by have s2:=F.q 2 (.int .i64 n);exact sv rfl),(fun aF wF F=>by have s11:=F.q 11 (.int .i64 0);exact sv rfl),(fun aF wF F=>by have s69:=F.v 9 69;exact sv rfl),(fun aF wF F=>by have s63:=F.p 3 63;have s67:=F.p 7 67;have s68:=F.v 8 68;have s70:=F.v 10 70;exact sE (CQ.out false i _ _ _ s63 s67) fun _ _ h=>h),(fun aF wF F=>by have s71:=F.p 11 71;exact sx s71),(fun aF wF F=>by have s59:=F.p 12 59;obtain ⟨dd,ee,hh⟩:=s59;exact sv hh),(fun aF wF F=>by have s59:=F.p 12 59;exact sw (by obtain ⟨dd,ee,hh⟩:=s59;go_simp) rfl),(fun aF wF F=>by exact sN ⟨_,rfl,F.kept.size,Dc _⟩),
        trivial⟩) ?_
     intro u w5 k5 hu;have e60:u 0=(.slice (some ⟨b8,o8,none⟩) 4 c8):=hu 0 (by decide) (by decide);have e61:u 1=(.int .i64 (i:Int)):=hu 1 (by decide) (by decide);have e62:u 2=(.pointer (some ⟨b8,o8+i*3,none⟩)):=hu 2 (by decide) (by decide);have p63:=hu 3 (by decide) (by decide);obtain ⟨v63,e63⟩:∃ v,u 3=v:=⟨_,rfl⟩;rw [e63] at p63
     try simp only [VL,List.getD_cons_zero,List.getD_cons_succ] at p63
     have e64:u 4=(.slice (some ⟨b9,o9,none⟩) 4 c9):=hu 4 (by decide) (by decide);have e65:u 5=(.int .i64 (i:Int)):=hu 5 (by decide) (by decide);have e66:u 6=(.pointer (some ⟨b9,o9+i*3,none⟩)):=hu 6 (by decide) (by decide);have p67:=hu 7 (by decide) (by decide);obtain ⟨v67,e67⟩:∃ v,u 7=v:=⟨_,rfl⟩;rw [e67] at p67
     try simp only [VL,List.getD_cons_zero,List.getD_cons_succ] at p67
     have e68:u 8=(.int .i64 n):=hu 8 (by decide) (by decide);have e69:u 9=(.int .i64 0):=hu 9 (by decide) (by decide);have e70:u 10=(.bool false):=hu 10 (by decide) (by decide);have p71:=hu 11 (by decide) (by decide);obtain ⟨v71,e71⟩:∃ v,u 11=v:=⟨_,rfl⟩;rw [e71] at p71
     try simp only [VL,List.getD_cons_zero,List.getD_cons_succ] at p71
     have p59:=hu 12 (by decide) (by decide);obtain ⟨v59,e59⟩:∃ v,u 12=v:=⟨_,rfl⟩;rw [e59] at p59
     try simp only [VL,List.getD_cons_zero,List.getD_cons_succ] at p59
     have p72:=hu 13 (by decide) (by decide);obtain ⟨v72,e72⟩:∃ v,u 13=v:=⟨_,rfl⟩;rw [e72] at p72
     try simp only [VL,List.getD_cons_zero,List.getD_cons_succ] at p72
     have p13:=hu 15 (by decide) (by decide);obtain ⟨v13,e13⟩:∃ v,u 15=v:=⟨_,rfl⟩;rw [e13] at p13
     try simp only [VL,List.getD_cons_zero,List.getD_cons_succ] at p13
     clear hu;obtain ⟨b13,rfl,hb13,hx13⟩:=p13;obtain ⟨Pz,pz,qz,rfl,hz⟩:=Cr p72;obtain ⟨-,u0,u1,u2,f0,f1,f2⟩:=hx13.facts;have H13:=hid hx13;have Z13:=hid hz;clear p63 p67 p71 hz hx13;obtain ⟨dd,rfl,-⟩:=p59;replace K:=hid (K.out.trans k5);have szx:=KR.out.size;have ltA:w3.heap.size<b13:=by
      have hA:w3.heap.size<wr.heap.size:=by obtain ⟨_,_,h1,_,_⟩:=JA.out;exact h1.facts.1
      omega
     replace KR:=hid (KR.out.trans k5);replace HR:=hid (HR.out.kept k5);replace JA:=hid (JA.out.kept k5);apply dup
     ·intro G he;simp only [VL,vE,List.getD_cons_zero,List.getD_cons_succ] at he;simp only [if_true,Av,Am,Act.put,List.setIfInBounds_toArray,List.set_cons_zero,List.set_cons_succ,List.getElem?_toArray,List.getElem?_cons_zero,List.getElem?_cons_succ,Option.bind_some,e60,e61,e62,e63,e64,e65,e66,e67,e68,e69,e70,e71,e59,e72,e13,he];go_simp;exact G
     ·intro G;simp only [Av,Am,Act.put,List.setIfInBounds_toArray,List.set_cons_zero,List.set_cons_succ,List.getElem?_toArray,List.getElem?_cons_zero,List.getElem?_cons_succ,Option.bind_some,e60,e61,e62,e63,e64,e65,e66,e67,e68,e69,e70,e71,e59,e72,e13];go_simp;exact G
     clear e60 e61 e62 e63 e64 e65 e66 e67 e68 e69 e70 e71 e59 e72 e13;simp only [Outc.raw] at *;go_upto_region 14 with fail;change Code.wp _ _ _ _ (dyW w5 b13 _ _ _);replace K:=hid (Al (x:=.bool (quz ai bi n false i).v.neg) (y:=.slice Pz pz qz) (z:=.int .i64 (quz ai bi n false i).v.e) K.out (show w.heap.size≤b13 by omega));replace KR:=hid (Al (x:=.bool (quz ai bi n false i).v.neg) (y:=.slice Pz pz qz) (z:=.int .i64 (quz ai bi n false i).v.e) KR.out (show w3.heap.size≤b13 by omega));replace HR:=hid (Py HR.out (show ¬w.heap.size+1+1=b13 by omega) (.bool (quz ai bi n false i).v.neg) (.slice Pz pz qz) (.int .i64 (quz ai bi n false i).v.e))
     replace JA:=hid (JA.out.other (show ¬w3.heap.size=b13 by omega) H13.out (quz ai bi n false i).v.neg (.slice Pz pz qz) (quz ai bi n false i).v.e);replace Z13:=hid (Z13.out.dyW H13.out (Ah _) (Ag _ _ _) (Aj _) (.bool (quz ai bi n false i).v.neg) (.slice Pz pz qz) (.int .i64 (quz ai bi n false i).v.e));replace H13:=hid (H13.out.laid (.bool (quz ai bi n false i).v.neg) (.slice Pz pz qz) (.int .i64 (quz ai bi n false i).v.e));clear u0 u1 u2 f0 f1 f2 k5 hb13 szx;generalize dyW w5 b13 (.bool (quz ai bi n false i).v.neg) (.slice Pz pz qz) (.int .i64 (quz ai bi n false i).v.e)=V9 at *
     by_cases h1:(quz ai bi n false i).k=0
     ·rw [h1];have AL':=hid (show ∀ j,j<i+1→(quz ai bi n false j).k=0 from fun j hj=>if hh:j=i then hh▸h1 else AL.out j (by omega));clear h1 AL T1;by_cases i0:i=0
      ·subst i0;have e1:=Nq JA.out Z13.out;have k1:=Al (x:=.bool (quz ai bi n false 0).v.neg) (y:=.slice Pz pz qz) (z:=.int .i64 (quz ai bi n false 0).v.e) KR.out (show w3.heap.size≤w3.heap.size by omega);unfold dyW at e1 k1;have E1:=hid e1;have K1:=hid k1;obtain ⟨-,g0,g1,g2,g3,g4,g5,s0,s1,x0,x1,x2,x3,x4,x5⟩:=JA.out.frees;obtain ⟨-,y0,y1,y2,-⟩:=H13.out.facts;clear e1 k1 JA KR HR H13 Z13 CQ D8 D9;go_wp2_with fail;go_roundw
       case rel =>
        refine ⟨1,by omega,by go_num,?_,?_,AL'⟩
        ·with_reducible exact K1.out
        ·rw [Ab5]
         with_reducible exact E1.out
       case measure=>simp [intOf]
      ·have d0:((i:Int)==0)=false:=by simp;omega
       have el:loS (quz ai bi n false) (i+1)=if Bq (quz ai bi n false i).v.q (loS (quz ai bi n false) i).q<0 then (quz ai bi n false i).v else loS (quz ai bi n false) i:=by
        show (if _<0 then _ else _)=_
        simp only [if_neg i0]
       have CL:=hid (fun w1 v1 v2 (h1:DyR w1 v1 (loS (quz ai bi n false) i).raw) (h2:DyR w1 v2 (quz ai bi n false i).v.raw)=>Xa h1 h2 (Xe (fun k=>OZ.out false k) i) (OZ.out false i));rw [←el] at CL;clear el;go_upto_region 20 with fail
       refine Pk 7 ([(vE (.int .i64 0)),(vE (.int .i64 0)),(vP w3.heap.size 0),(fun v wv=>DyR wv v ((loS (quz ai bi n false) i).raw)),(vE (.agg #[.bool (quz ai bi n false i).v.neg,.slice Pz pz qz,.int .i64 (quz ai bi n false i).v.e])),(fun v wv=>DyR wv v ((loS (quz ai bi n false) (i+1)).raw)),(vP w3.heap.size 0)])
        ⟨
         (gq 11),(gq 11),(gvq 1 95 10),(fun aF wF F=>by have s96:=F.v 2 96;obtain ⟨ss,h0,h1,h2,hI⟩:=((JA.out.at0).kept F.kept);exact sv hI),(gql 13 fun _ k=>Go.Proofs.YtinbgjcooolbiaaGreatDoor.c3 H13.out k),(fun aF wF F=>by have s97:=F.p 3 97;have s98:=F.v 4 98;exact sD (CL.out _ _ _ s97 (Z13.out.kept F.kept)) fun _ _ h=>h),(gvq 0 94 10),
         trivial⟩ ?_
       intro u w6 k6 hu;have p97:=hp hu 3;have p99:=hp hu 5;simp only [Av,Am,if_true,Act.put,zlA,zlB,zlC,zlD,zlE,zlF,zlG,hv hu 0,hv hu 1,hv hu 2,hv hu 4,hv hu 6];clear hu;generalize u 3=v97,u 5=v99 at *;obtain ⟨Pw,pw,qw,rfl,z6⟩:=Cr p99;have e1:=Nq (JA.out.kept k6) z6;have k1:=Al (x:=.bool (loS (quz ai bi n false) (i+1)).neg) (y:=.slice Pw pw qw) (z:=.int .i64 (loS (quz ai bi n false) (i+1)).e) (KR.out.trans k6) (show w3.heap.size≤w3.heap.size by omega);unfold dyW at e1 k1;have E1:=hid e1;have K1:=hid k1;obtain ⟨-,g0,g1,g2,g3,g4,g5,s0,s1,x0,x1,x2,x3,x4,x5⟩:=(JA.out.kept k6).frees
       clear e1 k1 JA KR HR H13 Z13 CQ D8 D9 CL p97 p99 z6 k6;go_simp;go_wp2_with fail;go_roundw
       case rel =>
        refine ⟨i+1,by omega,by go_num,?_,?_,AL'⟩
        ·with_reducible exact K1.out
        ·with_reducible exact E1.out
       case measure=>simp [intOf];omega
     ·have e2:((quz ai bi n false i).k==0)=false:=by simpa using h1
      have e2':((quz ai bi n false i).k != 0)=true:=by simpa using h1
      have r0:=T1.out i hi4 AL.out h1;subst r0;clear h1 T1 JA H13 Z13 CQ D8 D9;obtain ⟨-,r0,r1,r2,r3,r4,r5⟩:=HR.out.facts;obtain ⟨f0,f1,f2,f3,f4,f5⟩:=HR.out.free;go_wp2_with fail;exact Ei (HR.out.laid _ _ _ _ _ _) rfl rfl rfl ⟨Cq K.out (by omega),_,rfl,D0 _⟩
    ·obtain rfl:i=4:=by omega
     clear T1 CQ D8 D9 OZ JA KR;go_wp2_with fail;go_roundw
     case rel=>exact ⟨1,by go_num,kx,.inr (.inl ⟨rfl,ja,AL⟩)⟩
     case measure=>simp [intOf]
  ·have KR := hid kr;clear kr IA KV;have JA:=hid ia;clear ia T1 T3;go_wp2_with fail
   go_loopw [12] (fun s wx=>∃ i:Nat,i≤4∧s=.int .i64 i∧Kept w3 wx∧BoxA wx w3.heap.size (loS (quz ai bi n false) 4) (hiS (quz ai bi n true) i)∧Hid (∀ j,j<i→(quz ai bi n true j).k=0)) (fun s _=>4-(intOf s).toNat)
   case atStart=>exact ⟨0,by omega,rfl,KR.out,JA.out,hid (fun j h=>absurd h (by omega))⟩
   case round =>
    obtain ⟨i,hi,rfl,kx,ja,AL⟩:=hrel;by_cases hi4:i<4
    ·have d4:decide (i<4)=true:=decide_eq_true hi4;replace K:=hid (K.out.trans kx);replace HR:=hid (HR.out.kept kx);replace KR:=hid kx;replace JA:=hid ja;clear kx ja;go_wp2_with fail
     refine F4 (e:=14) (m:=16) (V:=VL [(vE (.slice (some ⟨b8,o8,none⟩) 4 c8)),(vE (.int .i64 (i:Int))),(vE (.pointer (some ⟨b8,o8+i*3,none⟩))),(fun v wv=>DyR wv v ((xs4 ai i).raw)),(vE (.slice (some ⟨b9,o9,none⟩) 4 c9)),(vE (.int .i64 (i:Int))),(vE (.pointer (some ⟨b9,o9+i*3,none⟩))),(fun v wv=>DyR wv v ((ys4 bi i).raw)),(vE (.int .i64 n)),(vE (.int .i64 1)),(vE (.bool true)),(fun v wv=>∃ d,v=.tuple #[d,.int .i64 ((quz ai bi n true i).raw).k]∧DyR wv d ((quz ai bi n true i).raw).v),(fun v wv=>∃ d,v=.tuple #[d,.int .i64 ((quz ai bi n true i).raw).k]∧DyR wv d ((quz ai bi n true i).raw).v),(fun v wv=>DyR wv v ((quz ai bi n true i).raw).v),(vE (.int .i64 ((quz ai bi n true i).raw).k)),(fun v wv=>∃ b,v=.pointer (some ⟨b,0,none⟩)∧wr.heap.size≤b∧Blk wv b (.bool false) (.slice none 0 0) (.int .i64 0))])
      (by kernel_rfl) rfl rfl rfl rfl rfl rfl rfl (by decide) (by kernel_rfl) (by kernel_rfl) (by kernel_rfl) (by kernel_rfl) (by kernel_rfl) (by kernel_rfl) (E7 _ ⟨mE,mE,mE,mD,mE,mE,mE,mD,mE,mE,mE,fun v w w' k h=>by obtain ⟨d,h1,h2⟩:=h;exact ⟨d,h1,h2.kept k⟩,fun v w w' k h=>by obtain ⟨d,h1,h2⟩:=h;exact ⟨d,h1,h2.kept k⟩,mD,mE,fun v w w' k h=>by obtain ⟨b,h1,h2,h3⟩:=h;exact ⟨b,h1,h2,h3.kept k⟩,trivial⟩) (Ep ⟨
        (fun aF wF F=>by have s8:=F.q 8 (.slice (some ⟨b8,o8,none⟩) 4 c8);exact sv rfl),(fun aF wF F=>by have s12:=F.q 12 (.int .i64 (i:Int));exact sv rfl),(fun aF wF F=>by have s60:=F.v 0 60;have s61:=F.v 1 61;exact sv rfl),(fun aF wF F=>by have s62:=F.v 2 62;obtain ⟨ss,h0,h1,h2,hI⟩:=((D8.out i hi4).kept (KR.out.trans F.kept));exact sv hI),(fun aF wF F=>by have s9:=F.q 9 (.slice (some ⟨b9,o9,none⟩) 4 c9);exact sv rfl),(fun aF wF F=>by have s12:=F.q 12 (.int .i64 (i:Int));exact sv rfl),(fun aF wF F=>by have s64:=F.v 4 64;have s65:=F.v 5 65;exact sv rfl),(fun aF wF F=>by have s66:=F.v 6 66;obtain ⟨ss,h0,h1,h2,hI⟩:=((D9.out i hi4).kept (KR.out.trans F.kept));exact sv hI),(fun aF wF F=>by have s2:=F.q 2 (.int .i64 n);exact sv rfl),(fun aF wF F=>by have s11:=F.q 11 (.int .i64 1);exact sv rfl),(fun aF wF F=>by have s69:=F.v 9 69;exact sv rfl),(fun aF wF F=>by have s63:=F.p 3 63;have s67:=F.p 7 67;have s68:=F.v 8 68;have s70:=F.v 10 70;exact sE (CQ.out true i _ _ _ s63 s67) fun _ _ h=>h),(fun aF wF F=>by have s71:=F.p 11 71;exact sx s71),(fun aF wF F=>by have s59:=F.p 12 59;obtain ⟨dd,ee,hh⟩:=s59;exact sv hh),(fun aF wF F=>by have s59:=F.p 12 59;exact sw (by obtain ⟨dd,ee,hh⟩:=s59;go_simp) rfl),(fun aF wF F=>by exact sN ⟨_,rfl,F.kept.size,Dc _⟩),
        trivial⟩) ?_
     intro u w5 k5 hu;have e60:u 0=(.slice (some ⟨b8,o8,none⟩) 4 c8):=hu 0 (by decide) (by decide);have e61:u 1=(.int .i64 (i:Int)):=hu 1 (by decide) (by decide);have e62:u 2=(.pointer (some ⟨b8,o8+i*3,none⟩)):=hu 2 (by decide) (by decide);have p63:=hu 3 (by decide) (by decide);obtain ⟨v63,e63⟩:∃ v,u 3=v:=⟨_,rfl⟩;rw [e63] at p63
     try simp only [VL,List.getD_cons_zero,List.getD_cons_succ] at p63
     have e64:u 4=(.slice (some ⟨b9,o9,none⟩) 4 c9):=hu 4 (by decide) (by decide);have e65:u 5=(.int .i64 (i:Int)):=hu 5 (by decide) (by decide);have e66:u 6=(.pointer (some ⟨b9,o9+i*3,none⟩)):=hu 6 (by decide) (by decide);have p67:=hu 7 (by decide) (by decide);obtain ⟨v67,e67⟩:∃ v,u 7=v:=⟨_,rfl⟩;rw [e67] at p67
     try simp only [VL,List.getD_cons_zero,List.getD_cons_succ] at p67
     have e68:u 8=(.int .i64 n):=hu 8 (by decide) (by decide);have e69:u 9=(.int .i64 1):=hu 9 (by decide) (by decide);have e70:u 10=(.bool true):=hu 10 (by decide) (by decide);have p71:=hu 11 (by decide) (by decide);obtain ⟨v71,e71⟩:∃ v,u 11=v:=⟨_,rfl⟩;rw [e71] at p71
     try simp only [VL,List.getD_cons_zero,List.getD_cons_succ] at p71
     have p59:=hu 12 (by decide) (by decide);obtain ⟨v59,e59⟩:∃ v,u 12=v:=⟨_,rfl⟩;rw [e59] at p59
     try simp only [VL,List.getD_cons_zero,List.getD_cons_succ] at p59
     have p72:=hu 13 (by decide) (by decide);obtain ⟨v72,e72⟩:∃ v,u 13=v:=⟨_,rfl⟩;rw [e72] at p72
     try simp only [VL,List.getD_cons_zero,List.getD_cons_succ] at p72
     have p13:=hu 15 (by decide) (by decide);obtain ⟨v13,e13⟩:∃ v,u 15=v:=⟨_,rfl⟩;rw [e13] at p13
     try simp only [VL,List.getD_cons_zero,List.getD_cons_succ] at p13
     clear hu;obtain ⟨b13,rfl,hb13,hx13⟩:=p13;obtain ⟨Pz,pz,qz,rfl,hz⟩:=Cr p72;obtain ⟨-,u0,u1,u2,f0,f1,f2⟩:=hx13.facts;have H13:=hid hx13;have Z13:=hid hz;clear p63 p67 p71 hz hx13;obtain ⟨dd,rfl,-⟩:=p59;replace K:=hid (K.out.trans k5);have szx:=KR.out.size;have ltA:w3.heap.size<b13:=by
      have hA:w3.heap.size<wr.heap.size:=by obtain ⟨_,_,h1,_,_⟩:=JA.out;exact h1.facts.1
      omega
     replace KR:=hid (KR.out.trans k5);replace HR:=hid (HR.out.kept k5);replace JA:=hid (JA.out.kept k5);apply dup
     ·intro G he;simp only [VL,vE,List.getD_cons_zero,List.getD_cons_succ] at he;simp only [if_true,Av,Am,Act.put,List.setIfInBounds_toArray,List.set_cons_zero,List.set_cons_succ,List.getElem?_toArray,List.getElem?_cons_zero,List.getElem?_cons_succ,Option.bind_some,e60,e61,e62,e63,e64,e65,e66,e67,e68,e69,e70,e71,e59,e72,e13,he];go_simp;exact G
     ·intro G;simp only [Av,Am,Act.put,List.setIfInBounds_toArray,List.set_cons_zero,List.set_cons_succ,List.getElem?_toArray,List.getElem?_cons_zero,List.getElem?_cons_succ,Option.bind_some,e60,e61,e62,e63,e64,e65,e66,e67,e68,e69,e70,e71,e59,e72,e13];go_simp;exact G
     clear e60 e61 e62 e63 e64 e65 e66 e67 e68 e69 e70 e71 e59 e72 e13;simp only [Outc.raw] at *;go_upto_region 14 with fail;change Code.wp _ _ _ _ (dyW w5 b13 _ _ _);replace K:=hid (Al (x:=.bool (quz ai bi n true i).v.neg) (y:=.slice Pz pz qz) (z:=.int .i64 (quz ai bi n true i).v.e) K.out (show w.heap.size≤b13 by omega));replace KR:=hid (Al (x:=.bool (quz ai bi n true i).v.neg) (y:=.slice Pz pz qz) (z:=.int .i64 (quz ai bi n true i).v.e) KR.out (show w3.heap.size≤b13 by omega));replace HR:=hid (Py HR.out (show ¬w.heap.size+1+1=b13 by omega) (.bool (quz ai bi n true i).v.neg) (.slice Pz pz qz) (.int .i64 (quz ai bi n true i).v.e))
     replace JA:=hid (JA.out.other (show ¬w3.heap.size=b13 by omega) H13.out (quz ai bi n true i).v.neg (.slice Pz pz qz) (quz ai bi n true i).v.e);replace Z13:=hid (Z13.out.dyW H13.out (Ah _) (Ag _ _ _) (Aj _) (.bool (quz ai bi n true i).v.neg) (.slice Pz pz qz) (.int .i64 (quz ai bi n true i).v.e));replace H13:=hid (H13.out.laid (.bool (quz ai bi n true i).v.neg) (.slice Pz pz qz) (.int .i64 (quz ai bi n true i).v.e));clear u0 u1 u2 f0 f1 f2 k5 hb13 szx;generalize dyW w5 b13 (.bool (quz ai bi n true i).v.neg) (.slice Pz pz qz) (.int .i64 (quz ai bi n true i).v.e)=V9 at *
     by_cases h1:(quz ai bi n true i).k=0
     ·rw [h1];have AL':=hid (show ∀ j,j<i+1→(quz ai bi n true j).k=0 from fun j hj=>if hh:j=i then hh▸h1 else AL.out j (by omega));clear h1 AL T2;by_cases i0:i=0
      ·subst i0;have e1:=Nr JA.out Z13.out;have k1:=Ns (x:=.bool (quz ai bi n true 0).v.neg) (y:=.slice Pz pz qz) (z:=.int .i64 (quz ai bi n true 0).v.e) KR.out (show w3.heap.size≤w3.heap.size by omega);unfold Ow at e1 k1;have E1:=hid e1;have K1:=hid k1;obtain ⟨-,g0,g1,g2,g3,g4,g5,s0,s1,x0,x1,x2,x3,x4,x5⟩:=JA.out.frees;obtain ⟨-,y0,y1,y2,-⟩:=H13.out.facts;clear e1 k1 JA KR HR H13 Z13 CQ D8 D9;go_wp2_with fail;go_roundw
       case rel =>
        refine ⟨1,by omega,by go_num,?_,?_,AL'⟩
        ·with_reducible exact K1.out
        ·rw [Ab3]
         with_reducible exact E1.out
       case measure=>simp [intOf]
      ·have d0:((i:Int)==0)=false:=by simp;omega
       have el:hiS (quz ai bi n true) (i+1)=if Bq (hiS (quz ai bi n true) i).q (quz ai bi n true i).v.q<0 then (quz ai bi n true i).v else hiS (quz ai bi n true) i:=by
        show (if _<0 then _ else _)=_
        simp only [if_neg i0]
       have CL:=hid (fun w1 v1 v2 (h1:DyR w1 v1 (hiS (quz ai bi n true) i).raw) (h2:DyR w1 v2 (quz ai bi n true i).v.raw)=>Qj h1 h2 (W7 (fun k=>OZ.out true k) i) (OZ.out true i));rw [←el] at CL;clear el;go_upto_region 16 with fail
       refine Pk 7 ([(vE (.int .i64 1)),(vE (.int .i64 1)),(vP w3.heap.size 3),(fun v wv=>DyR wv v ((hiS (quz ai bi n true) i).raw)),(vE (.agg #[.bool (quz ai bi n true i).v.neg,.slice Pz pz qz,.int .i64 (quz ai bi n true i).v.e])),(fun v wv=>DyR wv v ((hiS (quz ai bi n true) (i+1)).raw)),(vP w3.heap.size 3)])
        ⟨
         (gq 11),(gq 11),(gvq 1 79 10),(fun aF wF F=>by have s80:=F.v 2 80;obtain ⟨ss,h0,h1,h2,hI⟩:=((JA.out.at1).kept F.kept);exact sv hI),(gql 13 fun _ k=>Go.Proofs.YtinbgjcooolbiaaGreatDoor.c3 H13.out k),(fun aF wF F=>by have s81:=F.p 3 81;have s82:=F.v 4 82;exact sD (CL.out _ _ _ s81 (Z13.out.kept F.kept)) fun _ _ h=>h),(gvq 0 78 10),
         trivial⟩ ?_
       intro u w6 k6 hu;have p81:=hp hu 3;have p83:=hp hu 5;simp only [Av,Am,if_true,Act.put,zlA,zlB,zlC,zlD,zlE,zlF,zlG,hv hu 0,hv hu 1,hv hu 2,hv hu 4,hv hu 6];clear hu;generalize u 3=v81,u 5=v83 at *;obtain ⟨Pw,pw,qw,rfl,z6⟩:=Cr p83;have e1:=Nr (JA.out.kept k6) z6;have k1:=Ns (x:=.bool (hiS (quz ai bi n true) (i+1)).neg) (y:=.slice Pw pw qw) (z:=.int .i64 (hiS (quz ai bi n true) (i+1)).e) (KR.out.trans k6) (show w3.heap.size≤w3.heap.size by omega);unfold Ow at e1 k1;have E1:=hid e1;have K1:=hid k1;obtain ⟨-,g0,g1,g2,g3,g4,g5,s0,s1,x0,x1,x2,x3,x4,x5⟩:=(JA.out.kept k6).frees
       clear e1 k1 JA KR HR H13 Z13 CQ D8 D9 CL p81 p83 z6 k6;go_simp;go_wp2_with fail;go_roundw
       case rel =>
        refine ⟨i+1,by omega,by go_num,?_,?_,AL'⟩
        ·with_reducible exact K1.out
        ·with_reducible exact E1.out
       case measure=>simp [intOf];omega
     ·have e2:((quz ai bi n true i).k==0)=false:=by simpa using h1
      have e2':((quz ai bi n true i).k != 0)=true:=by simpa using h1
      have r0:=T2.out a0.out i hi4 AL.out h1;subst r0;clear h1 T2 JA H13 Z13 CQ D8 D9;obtain ⟨-,r0,r1,r2,r3,r4,r5⟩:=HR.out.facts;obtain ⟨f0,f1,f2,f3,f4,f5⟩:=HR.out.free;go_wp2_with fail;exact Ei (HR.out.laid _ _ _ _ _ _) rfl rfl rfl ⟨Cq K.out (by omega),_,rfl,D0 _⟩
    ·obtain rfl:i=4:=by omega
     clear T2 CQ D8 D9 OZ JA KR;go_wp2_with fail;go_roundw
     case rel=>exact ⟨2,by go_num,kx,.inr (.inr ⟨rfl,ja,a0,AL⟩)⟩
     case measure=>simp [intOf]
  ·have r0:=T3.out a0.out a1.out;subst r0;replace K:=hid (K.out.trans kr);replace HR:=hid (HR.out.kept kr);obtain ⟨s0,s1,hA,z1,z2⟩:=ia;obtain ⟨-,x0,x1,x2,x3,x4,x5⟩:=hA.facts;have Z1:=hid z1;have Z2:=hid z2;clear IA KV T1 T2 T3 CQ D8 D9 OZ a0 a1 z1 z2 hA kr;simp only [Dy.raw] at *;obtain ⟨-,r0,r1,r2,r3,r4,r5⟩:=HR.out.facts;obtain ⟨f0,f1,f2,f3,f4,f5⟩:=HR.out.free;obtain ⟨As,ls,cs,es,-,-,-,-⟩:=Z1.out.shape;obtain ⟨At,lt,ct,et,-,-,-,-⟩:=Z2.out.shape;simp only [Value.agg.injEq,Array.mk.injEq,List.cons.injEq,and_true,true_and] at es et;subst es et;go_wp2_with fail;exact Ei (HR.out.laid _ _ _ _ _ _) rfl rfl rfl ⟨Cq K.out (by omega),_,rfl,_,_,_,_,_,_,rfl,Z1.out.ivW HR.out _ _ _ _ _ _,Z2.out.ivW HR.out _ _ _ _ _ _⟩
end Go.Proofs.YtinbgjcooolbiaaGreatDoor
