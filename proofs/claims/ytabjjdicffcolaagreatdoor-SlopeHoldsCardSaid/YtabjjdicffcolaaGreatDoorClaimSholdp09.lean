/- Words and contracts, part 9. -/
import Derived.Test.YtabjjdicffcolaaGreatDoorClaimSholdp08
import Derived.Deep.RegionHeld2
import Derived.OwnWalk
set_option maxRecDepth 100000
set_option maxHeartbeats 0
namespace Go.Proofs.YtabjjdicffcolaaGreatDoor
open Go.Lib (hid)
open Go.RowKit
variable {a:Act} {neg:Bool} {R:Ending→World→Prop} {Q:Exit→Act→World→Prop} {e:Int} {xs:List Nat} {b b' b0 b1 b2 c g k n t:Nat} {o:Oper} {A:Option Addr} {P:Program} {r:Raw} {s u v va vb x x' y y' z z':Value} {W w w' w1:World}
def Blk (w:World) (b:Nat) (x y z:Value):Prop:=w.heap[b]?=some (.cells #[x,y,z] 28 (0,0))
theorem Blk.facts (h:Blk w b x y z):b<w.heap.size∧w.cell? ⟨b,0,none⟩=some x∧w.cell? ⟨b,1,none⟩=some y∧w.cell? ⟨b,2,none⟩=some z ∧
 w.frozen? ⟨b,0,none⟩=false∧w.frozen? ⟨b,1,none⟩=false∧w.frozen? ⟨b,2,none⟩=false :=
 ⟨(Array.getElem?_eq_some_iff.1 h).1,Ae h 0 _ rfl,Ae h 1 _ rfl,Ae h 2 _ rfl,Ap h 0,Ap h 1,Ap h 2⟩
theorem Blk.kept (h:Blk w b x y z)(k:Kept w w1):Blk w1 b x y z :=
 (k.block b (Array.getElem?_eq_some_iff.1 h).1).trans h
theorem blk_new (w:World)(x y z:Value):Blk (w.alloc (.cells #[x,y,z] 28)) w.heap.size x y z:=heap_alloc_new _ _
theorem Bb (h:Blk w b x y z)(o:Obj):Blk (w.alloc o) b x y z :=
 h.kept ((Below.refl _ _).alloc (Nat.le_refl _) _)
theorem Ad (w:World)(o:Obj):Kept w (w.alloc o):=(Below.refl _ _).alloc (Nat.le_refl _) _
def dyW (w:World) (b:Nat) (x y z:Value):World:=((w.setCell ⟨b,0,none⟩ x).setCell ⟨b,1,none⟩ y).setCell ⟨b,2,none⟩ z
theorem Blk.laid (h:Blk w b x y z)(x' y' z':Value):Blk (dyW w b x' y' z') b x' y' z' :=
 Aw (Aw (Aw h _) _) _
theorem Blk.laid_other (h:Blk w b x y z)(hne:¬b=b')(x' y' z':Value):Blk (dyW w b' x' y' z') b x y z :=
 Bh (Bh (Bh h hne _) hne _) hne _
theorem An {w0:World}(h:Kept w0 w)(h2:w0.heap.size≤b):Kept w0 (dyW w b x y z) :=
 ((h.setCell (p:=⟨b,0,none⟩) h2 x).setCell (p:=⟨b,1,none⟩) h2 y).setCell (p:=⟨b,2,none⟩) h2 z
def Be (x:Value):Prop:=∀ n,¬x=.int .u64 n
theorem Ah (b:Bool):Be (.bool b):=fun _ h=>by cases h
theorem Ag (a:Option Addr)(n c:Nat):Be (.slice a n c):=fun _ h=>by cases h
theorem Af (n:Int):Be (.int .i64 n):=fun _ h=>by cases h
theorem Lim.noLimb (h:Lim w s xs):Be s:=by
 obtain ⟨_,A,c,rfl,_⟩:=h;exact Ag _ _ _
theorem Lim.dyW (h:Lim w s xs)(h0:Blk w b2 x y z)(hx:Be x)(hy:Be y)(hz:Be z) :
 Lim (dyW w b2 x' y' z') s xs:=by
 obtain ⟨hsm,A,c,rfl,hc,hA⟩:=h;refine ⟨hsm,A,c,rfl,hc,fun hp=>?_⟩;obtain ⟨b,off,rfl,hb,hcell⟩:=hA hp;have n2:¬b=b2:=by
  rintro rfl;have h5:=hcell 0 hp;simp only [World.cell?,show w.heap[b]?=_ from h0] at h5;rcases off with _ | _ | _ | off
  ·simp at h5;exact hx _ h5
  ·simp at h5;exact hy _ h5
  ·simp at h5;exact hz _ h5
  ·simp at h5
 have e:(Go.Proofs.YtabjjdicffcolaaGreatDoor.dyW w b2 x' y' z').heap[b]?=w.heap[b]?:=by
  unfold Go.Proofs.YtabjjdicffcolaaGreatDoor.dyW;rw [Below.heap_setCell _ _ _ _ n2,Below.heap_setCell _ _ _ _ n2,Below.heap_setCell _ _ _ _ n2]
 refine ⟨b,off,rfl,?_,fun i hi=>?_⟩
 ·unfold Go.Proofs.YtabjjdicffcolaaGreatDoor.dyW;simpa [World.setCell] using hb
 ·rw [←hcell i hi];simp only [World.cell?,e]
theorem Lim.setCell {i:Nat}(h:Lim w s xs)(hc:w.cell? ⟨b,i,none⟩=some x)(hx:Be x)(y:Value) :
 Lim (w.setCell ⟨b,i,none⟩ y) s xs:=by
 obtain ⟨hsm,A,c,rfl,hc',hA⟩:=h;refine ⟨hsm,A,c,rfl,hc',fun hp=>?_⟩;obtain ⟨b0,off,rfl,hb,hcell⟩:=hA hp;refine ⟨b0,off,rfl,by simpa [World.setCell] using hb,fun k hk=>?_⟩;rw [World.cell?_setCell_other]
 ·exact hcell k hk
 ·intro he;injection he with he1 he2
  subst he1 he2;rw [hcell k hk] at hc;injection hc with hc
  exact hx _ hc.symm
theorem D8 (w:World)(o:Obj)(x y z:Value):Blk ((w.alloc o).alloc (.cells #[x,y,z] 28)) (w.heap.size+1) x y z:=by
 have:=blk_new (w.alloc o) x y z;simpa using this
theorem Ae3 (w:World)(o o':Obj)(x y z:Value):Blk (((w.alloc o).alloc o').alloc (.cells #[x,y,z] 28)) (w.heap.size+2) x y z:=by
 have:=blk_new ((w.alloc o).alloc o') x y z;simpa using this
theorem Cc {fn:Func}(h:Blk w b x y z)
 (hres:fn.results=#[.cell t 28]) (ht:a.tmps.getD t undef=.pointer (some ⟨b,0,none⟩)) (hd:a.defers=[]) (hR:R (.returned (.agg #[x,y,z])) w) :
 bodyPost Tryz.prog fn R .ret a w:=by
 obtain ⟨_,c0,c1,c2,_⟩:=h.facts;refine bodyPost_ret (v:=.agg #[x,y,z]) ?_ hd hR;have ht2:a.tmps[t]?.getD undef=.pointer (some ⟨b,0,none⟩):=by simpa using ht
 simp [results,hres,ht2,go_sem,c0,c1,c2]
theorem Ed {fn:Func}{u:Nat}(h:Blk w b x y z)
 (hres:fn.results=#[.cell t 28,.tmp u]) (ht:a.tmps.getD t undef=.pointer (some ⟨b,0,none⟩)) (hd:a.defers=[])
 (hR:R (.returned (.tuple #[.agg #[x,y,z],a.tmps.getD u undef])) w) :
 bodyPost Tryz.prog fn R .ret a w:=by
 obtain ⟨_,c0,c1,c2,_⟩:=h.facts;refine bodyPost_ret (v:=.tuple #[.agg #[x,y,z],a.tmps.getD u undef]) ?_ hd hR;have ht2:a.tmps[t]?.getD undef=.pointer (some ⟨b,0,none⟩):=by simpa using ht
 simp [results,hres,ht2,go_sem,c0,c1,c2]
def Aed (r:Raw):Int:=if Ew r=false∨r.m.length=0 then 0 else if r.neg then -1 else 1
theorem Vx (hv:DyR w v r)(hl:r.m.length≤17592186044416) :
 Calls Tryz.prog 76 #[v] w (RetK (.int .i64 (Aed r)) w):=by
 have hm:=fun w1 (k:Kept w w1)=>Ms (hv.kept k) hl
 obtain ⟨neg,m,e⟩:=r;obtain ⟨s,rfl,hs,h1,h2⟩:=hv;obtain ⟨_,A,c,rfl,hc,_⟩:=hs;simp only at hc h1 h2 hl ⊢;unfold Aed;simp only;have HM:=hid hm;clear hm;generalize hb:Ew ⟨neg,m,e⟩=bm at *;cases bm
 ·rw [if_pos (Or.inl rfl)];go_enter Tryz.func76,Tryz.ntmps76
  go_wp2_with (go_at_call 53;refine (HM.out _ (Ad _ _)).mono ?_;rintro e w1 ⟨rfl,q⟩)
  go_ret;exact ⟨rfl,(Ad _ _).trans q⟩
 ·clear hb;generalize m.length=l at *;by_cases h0:l=0
  ·rw [if_pos (Or.inr h0)];subst h0;clear hl hc;go_enter Tryz.func76,Tryz.ntmps76
   go_wp2_with (go_at_call 53;refine (HM.out _ (Ad _ _)).mono ?_;rintro e w1 ⟨rfl,q⟩;obtain ⟨_,c0,c1,c2,_⟩:=((blk_new _ _ _ _).kept q).facts)
   go_ret;exact ⟨rfl,(Ad _ _).trans q⟩
  ·rw [if_neg (by rintro (h | h);exact absurd h (by decide);exact h0 h)];have e0:(((l:Nat):Int)==0)=false:=by rw [beq_eq_false_iff_ne];omega
   have HL:=hid h0;clear h0
   cases neg<;>(
    go_enter Tryz.func76,Tryz.ntmps76
    go_wp2_with (go_at_call 53;refine (HM.out _ (Ad _ _)).mono ?_;rintro e w1 ⟨rfl,q⟩;obtain ⟨_,c0,c1,c2,_⟩:=((blk_new _ _ _ _).kept q).facts)
    go_ret;exact ⟨rfl,(Ad _ _).trans q⟩)
def RetD (r:Raw) (w:World) (e:Ending) (w':World):Prop:=Kept w w'∧∃ v,e=.returned v∧DyR w' v r
theorem R9 (hv:DyR w v r)(hl:r.m.length≤1000000) :
 Calls Tryz.prog 181 #[v] w (RetD r w):=by
 obtain ⟨neg,m,e⟩:=r;obtain ⟨s,rfl,hs,h1,h2⟩:=hv;simp only at hs h1 h2 hl ⊢;have hm:=fun w1 (k:Kept w w1)=>Vu (hs.kept k) hl
 obtain ⟨_,A,c,rfl,hc,_⟩:=hs;have HM:=hid hm;clear hm hl hc;go_enter Tryz.func181,Tryz.ntmps181
 go_wp2_with (go_at_call 81;refine (HM.out _ ((Ad _ _).trans (Ad _ _))).mono ?_;rintro e w1 ⟨u,rfl,hu,q⟩;obtain ⟨_,A',c',rfl,_⟩:=id hu;have HU:=hid hu;clear hu;have b0:=(Bb (blk_new _ _ _ _) _).kept q;have b1:=(D8 _ _ _ _ _).kept q;obtain ⟨_,c0,c1,c2,f0,f1,f2⟩:=b0.facts;obtain ⟨_,d0,d1,d2,g0,g1,g2⟩:=b1.facts)
 have hd:=HU.out.setCell c1 (Ag _ _ _) (.slice A' m.length c');have b3:Blk (w1.setCell ⟨w.heap.size,1,none⟩ (.slice A' m.length c')) (w.heap.size+1) (.bool false) (.slice none 0 0) (.int .i64 0):=Bh (b:=w.heap.size+1) (b':=w.heap.size) b1 (by omega) _;refine Cc (Blk.laid (b:=w.heap.size+1) b3 _ _ _) rfl rfl rfl ⟨?_,_,rfl,_,rfl,hd.dyW b3 (Ah _) (Ag _ _ _) (Af _),h1,h2⟩;exact An ((((Ad _ _).trans (Ad _ _)).trans q).setCell (Nat.le_refl _) _) (Nat.le_succ _)
def Ajg (r:Raw):Raw:=if Ew r=true∧0<r.m.length then ⟨!r.neg,r.m,r.e⟩ else r
theorem Vw (hv:DyR w v r)(hl:r.m.length≤1000000) :
 Calls Tryz.prog 139 #[v] w (RetD (Ajg r) w):=by
 have hm:=fun w1 (k:Kept w w1)=>R9 (hv.kept k) hl
 have hmay:=fun w1 v1 (h:DyR w1 v1 r)=>Ms h (by omega)
 obtain ⟨neg,m,e⟩:=r;obtain ⟨s,rfl,hs,h1,h2⟩:=hv;simp only at hs h1 h2 hl ⊢;obtain ⟨_,A,c,rfl,hc,_⟩:=hs;have HM:=hid hm;have HY:=hid hmay;clear hm hmay hl hc;unfold Ajg;simp only;generalize hb:Ew ⟨neg,m,e⟩=bm at *;have hnot:∀ (x:Bool) (w:World),(Op.unary .not (.bool x)).run Tryz.prog w=.ok (.bool (!x)) w:=fun _ _=>rfl
 cases bm
 ·rw [if_neg (by rintro ⟨h,_⟩;cases h)];clear hb;go_enter Tryz.func139,Tryz.ntmps139
  go_wp2_with (first
   | (go_at_call 181;refine (HM.out _ ((Ad _ _).trans (Ad _ _))).mono ?_;rintro e w1 ⟨q,u,rfl,⟨s',rfl,hu,h3,h4⟩⟩;simp only at hu h3 h4;obtain ⟨_,A',c',rfl,_⟩:=id hu;have HU:=hid hu;clear hu;have b0:=(Bb (blk_new _ _ _ _) _).kept q;have b1:=(D8 _ _ _ _ _).kept q;obtain ⟨_,c0,c1,c2,f0,f1,f2⟩:=b0.facts;obtain ⟨_,d0,d1,d2,g0,g1,g2⟩:=b1.facts)
   | (go_at_call 53;have HB:=hid b0;have HD:=hid b1;have HQ:=hid q;clear c0 c1 c2 f0 f1 f2 d0 d1 d2 g0 g1 g2 b0 b1 q;refine (HY.out (dyW w1 w.heap.size (.bool neg) (.slice A' m.length c') (.int .i64 e)) _ ⟨_,rfl,HU.out.dyW HB.out (Ah _) (Ag _ _ _) (Af _),h3,h4⟩).mono ?_;rintro e w2 ⟨rfl,q2⟩;have b2:=(Blk.laid HB.out (.bool neg) (.slice A' m.length c') (.int .i64 e)).kept q2;have b3:=(Blk.laid_other (b':=w.heap.size) HD.out (by omega) (.bool neg) (.slice A' m.length c') (.int .i64 e)).kept q2;obtain ⟨_,c0,c1,c2,f0,f1,f2⟩:=b2.facts;obtain ⟨_,d0,d1,d2,g0,g1,g2⟩:=b3.facts))
  refine Cc (Blk.laid (b:=w.heap.size+1) b3 _ _ _) rfl rfl rfl ⟨?_,_,rfl,_,rfl,((HU.out.dyW HB.out (Ah _) (Ag _ _ _) (Af _)).kept q2).dyW b3 (Ah _) (Ag _ _ _) (Af _),h1,h2⟩;exact An ((An (((Ad _ _).trans (Ad _ _)).trans HQ.out) (Nat.le_refl _)).trans q2) (Nat.le_succ _)
 ·by_cases h0:m.length=0
  ·rw [if_neg (by rintro ⟨_,h⟩;omega)];obtain rfl:=List.eq_nil_of_length_eq_zero h0;clear h0 hb;go_enter Tryz.func139,Tryz.ntmps139
   go_wp2_with (first
    | (go_at_call 181;refine (HM.out _ ((Ad _ _).trans (Ad _ _))).mono ?_;rintro e w1 ⟨q,u,rfl,⟨s',rfl,hu,h3,h4⟩⟩;simp only at hu h3 h4;obtain ⟨_,A',c',rfl,_⟩:=id hu;replace hu:Lim w1 (.slice A' 0 c') []:=hu;have HU:=hid hu;clear hu;have b0:=(Bb (blk_new _ _ _ _) _).kept q;have b1:=(D8 _ _ _ _ _).kept q;obtain ⟨_,c0,c1,c2,f0,f1,f2⟩:=b0.facts;obtain ⟨_,d0,d1,d2,g0,g1,g2⟩:=b1.facts)
    | (go_at_call 53;have HB:=hid b0;have HD:=hid b1;have HQ:=hid q;clear c0 c1 c2 f0 f1 f2 d0 d1 d2 g0 g1 g2 b0 b1 q;refine (HY.out (dyW w1 w.heap.size (.bool neg) (.slice A' 0 c') (.int .i64 e)) _ ⟨_,rfl,HU.out.dyW HB.out (Ah _) (Ag _ _ _) (Af _),h3,h4⟩).mono ?_;rintro e w2 ⟨rfl,q2⟩;have b2:=(Blk.laid HB.out (.bool neg) (.slice A' 0 c') (.int .i64 e)).kept q2;have b3:=(Blk.laid_other (b':=w.heap.size) HD.out (by omega) (.bool neg) (.slice A' 0 c') (.int .i64 e)).kept q2;obtain ⟨_,c0,c1,c2,f0,f1,f2⟩:=b2.facts;obtain ⟨_,d0,d1,d2,g0,g1,g2⟩:=b3.facts))
   refine Cc (Blk.laid (b:=w.heap.size+1) b3 _ _ _) rfl rfl rfl ⟨?_,_,rfl,_,rfl,((HU.out.dyW HB.out (Ah _) (Ag _ _ _) (Af _)).kept q2).dyW b3 (Ah _) (Ag _ _ _) (Af _),h1,h2⟩;exact An ((An (((Ad _ _).trans (Ad _ _)).trans HQ.out) (Nat.le_refl _)).trans q2) (Nat.le_succ _)
  ·rw [if_pos ⟨rfl,by omega⟩];obtain ⟨l,hml⟩:∃ l,m.length=l:=⟨_,rfl⟩;rw [hml] at h0 HM;have hl0:0<l:=by omega
   clear h0 hb;go_enter Tryz.func139,Tryz.ntmps139
   go_wp2_with (first
   | (go_at_call 181;refine (HM.out _ ((Ad _ _).trans (Ad _ _))).mono ?_;rintro e w1 ⟨q,u,rfl,⟨s',rfl,hu,h3,h4⟩⟩;simp only at hu h3 h4;obtain ⟨_,A',c',rfl,_⟩:=id hu;rw [hml] at hu;have HU:=hid hu;clear hu;have b0:=(Bb (blk_new _ _ _ _) _).kept q;have b1:=(D8 _ _ _ _ _).kept q;obtain ⟨_,c0,c1,c2,f0,f1,f2⟩:=b0.facts;obtain ⟨_,d0,d1,d2,g0,g1,g2⟩:=b1.facts)
   | (go_at_call 53;have HB:=hid b0;have HD:=hid b1;have HQ:=hid q;clear c0 c1 c2 f0 f1 f2 d0 d1 d2 g0 g1 g2 b0 b1 q;refine (HY.out (dyW w1 w.heap.size (.bool neg) (.slice A' l c') (.int .i64 e)) _ ⟨_,rfl,HU.out.dyW HB.out (Ah _) (Ag _ _ _) (Af _),h3,h4⟩).mono ?_;rintro e w2 ⟨rfl,q2⟩;have b2:=(Blk.laid HB.out (.bool neg) (.slice A' l c') (.int .i64 e)).kept q2;have b3:=(Blk.laid_other (b':=w.heap.size) HD.out (by omega) (.bool neg) (.slice A' l c') (.int .i64 e)).kept q2;obtain ⟨_,c0,c1,c2,f0,f1,f2⟩:=b2.facts;obtain ⟨_,d0,d1,d2,g0,g1,g2⟩:=b3.facts))
   have b4:Blk (w2.setCell ⟨w.heap.size,0,none⟩ (.bool !neg)) (w.heap.size+1) (.bool false) (.slice none 0 0) (.int .i64 0):=Bh (b:=w.heap.size+1) (b':=w.heap.size) b3 (by omega) _;have hd:=((HU.out.dyW HB.out (Ah _) (Ag _ _ _) (Af _)).kept q2).setCell c0 (Ah _) (.bool !neg);refine Cc (Blk.laid (b:=w.heap.size+1) b4 _ _ _) rfl rfl rfl ⟨?_,_,rfl,_,rfl,hd.dyW b4 (Ah _) (Ag _ _ _) (Af _),h1,h2⟩;exact An (((An (((Ad _ _).trans (Ad _ _)).trans HQ.out) (Nat.le_refl _)).trans q2).setCell (Nat.le_refl _) _) (Nat.le_succ _)
def Acf (T:TypeId) (b:Bool) (k:Int):Ending:=match b with | true=>.returned (.tuple #[]) | false=>.panicked (Dc T k)
theorem Hv (b:Bool)(k:Int)(w:World):Calls Tryz.prog 118 #[.bool b,.int .i64 k] w fun e w'=>e=Acf 129 b k∧w=w':=by
 cases b
 ·exact Agh k w
 ·exact Aje k w
theorem Blk.drewN (h:Blk w b x y z)(n:Nat):Blk (w.drewN n) b x y z:=h
theorem DyR.shape (h:DyR w v r) :
 ∃ A l c,v=.agg #[.bool r.neg,.slice A l c,.int .i64 r.e]∧l=r.m.length∧Lim w (.slice A l c) r.m∧-9223372036854775808≤r.e∧r.e≤9223372036854775807:=by
 obtain ⟨s,rfl,hs,h1,h2⟩:=h;obtain ⟨_,A,c,rfl,_⟩:=id hs;exact ⟨A,_,c,rfl,rfl,hs,h1,h2⟩
theorem Lim.shape (h:Lim w v xs):∃ A l c,v=.slice A l c∧l=xs.length∧Lim w (.slice A l c) xs:=by
 obtain ⟨_,A,c,rfl,_⟩:=id h;exact ⟨A,_,c,rfl,rfl,h⟩
theorem Lim.dyR {l:Nat}(h:Lim w (.slice A l c) r.m)(h1:-9223372036854775808≤r.e)(h2:r.e≤9223372036854775807) :
 DyR w (.agg #[.bool r.neg,.slice A l c,.int .i64 r.e]) r:=⟨_,rfl,h,h1,h2⟩
def Outc.raw (o:Outc Dy):Outc Raw:=⟨o.v.raw,o.k⟩
theorem Fg:dz.raw=rz:=by simp [dz,Dy.raw,rz,Au]
theorem Zq (n:Nat)(h:n≠0):tz n<64*(limbs n).length:=by
 refine M8 n _ h ?_;have:=Ce n;rw [Nat.pow_mul];exact this
theorem Afn :
 Calls Tryz.prog 80 #[.bool neg,.slice A 0 c,.int .i64 e] w (Goes 129 ⟨rz,0⟩ w):=by
 obtain ⟨_,c0,c1,c2,f0,f1,f2⟩:=(blk_new w (.bool false) (.slice none 0 0) (.int .i64 0)).facts;go_enter Tryz.func80,Tryz.ntmps80;go_wp2_with fail;refine Cc (blk_new _ _ _ _) rfl rfl rfl ⟨Ad _ _,.inl ⟨rfl,_,rfl,_,rfl,Lim.nil _ _ _,by decide,by decide⟩⟩
theorem Ab9 (hv:Lim w v (limbs n))(hl:(limbs n).length≤90000)(e1:-9223372036854775808≤e)(e2:e≤9223372036854775807)(hT:Tab w) :
 Calls Tryz.prog 80 #[.bool neg,v,.int .i64 e] w (Goes 129 (Bu neg n e).raw w):=by
 obtain ⟨A,l,c,rfl,hll,hv⟩:=hv.shape;by_cases h0:n=0
 ·subst h0;rw [Au] at hll;simp only [List.length_nil] at hll;subst hll;have:(Bu neg 0 e).raw=⟨rz,0⟩:=by simp [Bu,Outc.raw,good,Fg]
  rw [this];exact Afn
 ·have hz:=fun w1 (k:Kept w w1)=>Ac6     (hv.kept k) (by omega) h0 (hT.kept k)
  have hzb:=Zq n h0;have hr:=fun w1 (k:Kept w w1)=>Rp (hv.kept k) (tz n) (by omega) (by omega)
  have hl0:=Bc n h0;have hzb2:tz n≤6400000:=by omega
  rw [←hll] at hl0;have HZ:=hid hz;have HR:=hid hr;unfold Bu;rw [if_neg h0];clear hz hr hv hzb hll hl hT h0;have hraw:(good (⟨neg,n/2^tz n,e+tz n⟩:Dy)).raw=⟨⟨neg,limbs (n/2^tz n),e+tz n⟩,0⟩:=rfl;have hb2:(bad 2).raw=⟨rz,2⟩:=by rw [bad,Outc.raw,Fg]
  have hb3:(bad 3).raw=⟨rz,3⟩:=by rw [bad,Outc.raw,Fg]
  have HW:=hid hraw;have HB2:=hid hb2;have HB3:=hid hb3;clear hraw hb2 hb3;generalize limbs (n/2^tz n)=xs at *;generalize n/2^tz n=n' at *;generalize tz n=z at *;obtain ⟨q,hq⟩:∃ q,xs.length=q:=⟨_,rfl⟩;rw [hq];by_cases h1:64<q
  ·rw [if_pos h1,HB2.out];have h1':decide ((q:Int)≤64)=false:=by simp;omega
   clear h1;go_enter Tryz.func80,Tryz.ntmps80
   go_wp2_with (first
    | (go_at_call 116;refine (HZ.out _ (Ad _ _)).mono ?_;rintro e w1 ⟨rfl,qz,rfl⟩)
    | (go_at_call 117;refine (HR.out _ (Kept.drewN (Ad _ _) _)).mono ?_;rintro e w1 ⟨u,rfl,hu,qk⟩;obtain ⟨A',l',c',rfl,hl',hu⟩:=hu.shape;rw [hq] at hl';cases hl';have HU:=hid hu;clear hu;have b0:=((blk_new _ _ _ _).drewN _).kept qk;obtain ⟨_,c0,c1,c2,f0,f1,f2⟩:=b0.facts)
    | (go_at_call 118;refine (Hv _ _ _).mono ?_;rintro e w1 ⟨he,rfl⟩;first | (obtain rfl:e=.returned (.tuple #[]):=he) | (obtain rfl:e=.panicked (Dc 129 _):=he)))
   exact ⟨rfl,(Kept.drewN (Ad _ _) _).trans qk,.inr ⟨by decide,rfl⟩⟩
  ·rw [if_neg h1];have h1':decide ((q:Int)≤64)=true:=by simp;omega
   clear h1;by_cases h2:1048576<e
   ·rw [if_pos (Or.inl h2),HB3.out];have h2':decide (e≤1048576)=false:=by simp;omega
    clear h2;go_enter Tryz.func80,Tryz.ntmps80
    go_wp2_with (first
     | (go_at_call 116;refine (HZ.out _ (Ad _ _)).mono ?_;rintro e w1 ⟨rfl,qz,rfl⟩)
     | (go_at_call 117;refine (HR.out _ (Kept.drewN (Ad _ _) _)).mono ?_;rintro e w1 ⟨u,rfl,hu,qk⟩;obtain ⟨A',l',c',rfl,hl',hu⟩:=hu.shape;rw [hq] at hl';cases hl';have HU:=hid hu;clear hu;have b0:=((blk_new _ _ _ _).drewN _).kept qk;obtain ⟨_,c0,c1,c2,f0,f1,f2⟩:=b0.facts)
     | (go_at_call 118;refine (Hv _ _ _).mono ?_;rintro e w1 ⟨he,rfl⟩;first | (obtain rfl:e=.returned (.tuple #[]):=he) | (obtain rfl:e=.panicked (Dc 129 _):=he)))
    exact ⟨rfl,(Kept.drewN (Ad _ _) _).trans qk,.inr ⟨by decide,rfl⟩⟩
   ·have h2':decide (e≤1048576)=true:=by simp;omega
    by_cases h3:e < -1048576-(z:Int)
    ·rw [if_pos (Or.inr h3),HB3.out];have h3':decide (-1048576-(z:Int)≤e)=false:=by simp;omega
     clear h2 h3;go_enter Tryz.func80,Tryz.ntmps80
     go_wp2_with (first
      | (go_at_call 116;refine (HZ.out _ (Ad _ _)).mono ?_;rintro e w1 ⟨rfl,qz,rfl⟩)
      | (go_at_call 117;refine (HR.out _ (Kept.drewN (Ad _ _) _)).mono ?_;rintro e w1 ⟨u,rfl,hu,qk⟩;obtain ⟨A',l',c',rfl,hl',hu⟩:=hu.shape;rw [hq] at hl';cases hl';have HU:=hid hu;clear hu;have b0:=((blk_new _ _ _ _).drewN _).kept qk;obtain ⟨_,c0,c1,c2,f0,f1,f2⟩:=b0.facts)
      | (go_at_call 118;refine (Hv _ _ _).mono ?_;rintro e w1 ⟨he,rfl⟩;first | (obtain rfl:e=.returned (.tuple #[]):=he) | (obtain rfl:e=.panicked (Dc 129 _):=he)))
     exact ⟨rfl,(Kept.drewN (Ad _ _) _).trans qk,.inr ⟨by decide,rfl⟩⟩
    ·have h3':decide (-1048576-(z:Int)≤e)=true:=by simp;omega
     rw [if_neg (by omega)];have hez1:-9223372036854775808≤e+(z:Int):=by omega
     have hez2:e+(z:Int)≤9223372036854775807:=by omega
     by_cases h4:1048576<e+(z:Int)
     ·rw [if_pos h4,HB3.out];have h4':decide (e+(z:Int)≤1048576)=false:=by simp;omega
      clear h4;go_enter Tryz.func80,Tryz.ntmps80
      go_wp2_with (first
       | (go_at_call 116;refine (HZ.out _ (Ad _ _)).mono ?_;rintro e w1 ⟨rfl,qz,rfl⟩)
       | (go_at_call 117;refine (HR.out _ (Kept.drewN (Ad _ _) _)).mono ?_;rintro e w1 ⟨u,rfl,hu,qk⟩;obtain ⟨A',l',c',rfl,hl',hu⟩:=hu.shape;rw [hq] at hl';cases hl';have HU:=hid hu;clear hu;have b0:=((blk_new _ _ _ _).drewN _).kept qk;obtain ⟨_,c0,c1,c2,f0,f1,f2⟩:=b0.facts)
       | (go_at_call 118;refine (Hv _ _ _).mono ?_;rintro e w1 ⟨he,rfl⟩;first | (obtain rfl:e=.returned (.tuple #[]):=he) | (obtain rfl:e=.panicked (Dc 129 _):=he)))
      exact ⟨rfl,(Kept.drewN (Ad _ _) _).trans qk,.inr ⟨by decide,rfl⟩⟩
     ·rw [if_neg h4,HW.out];have h4':decide (e+(z:Int)≤1048576)=true:=by simp;omega
      clear h4;go_enter Tryz.func80,Tryz.ntmps80
      go_wp2_with (first
       | (go_at_call 116;refine (HZ.out _ (Ad _ _)).mono ?_;rintro e w1 ⟨rfl,qz,rfl⟩)
       | (go_at_call 117;refine (HR.out _ (Kept.drewN (Ad _ _) _)).mono ?_;rintro e w1 ⟨u,rfl,hu,qk⟩;obtain ⟨A',l',c',rfl,hl',hu⟩:=hu.shape;rw [hq] at hl';cases hl';have HU:=hid hu;clear hu;have b0:=((blk_new _ _ _ _).drewN _).kept qk;obtain ⟨_,c0,c1,c2,f0,f1,f2⟩:=b0.facts)
       | (go_at_call 118;refine (Hv _ _ _).mono ?_;rintro e w1 ⟨he,rfl⟩;first | (obtain rfl:e=.returned (.tuple #[]):=he) | (obtain rfl:e=.panicked (Dc 129 _):=he)))
      refine Cc (Blk.laid b0 _ _ _) rfl rfl rfl ⟨An ((Kept.drewN (Ad _ _) _).trans qk) (Nat.le_refl _),.inl ⟨rfl,_,rfl,(HU.out.dyW b0 (Ah _) (Ag _ _ _) (Af _)).dyR (r:=⟨neg,xs,e+z⟩) hez1 hez2⟩⟩
theorem Goes.of {T:TypeId}{o:Outc Raw}{e:Ending}(h:Goes T o w1 e w')(k:Kept w w1):Goes T o w e w':=⟨k.trans h.1,h.2⟩
theorem Alk (hv:Lim w v (limbs n))(hl:(limbs n).length≤90000)(e1:-9223372036854775808≤e)(e2:e≤9223372036854775807)(hT:Tab w)
 (c0:w.cell? ⟨b0,0,none⟩=some (.bool neg)) (c1:w.cell? ⟨b1,0,none⟩=some v) (c2:w.cell? ⟨b2,0,none⟩=some (.int .i64 e)) :
 Calls Tryz.prog 79 #[.pointer (some ⟨b0,0,none⟩),.pointer (some ⟨b1,0,none⟩),.pointer (some ⟨b2,0,none⟩)] w (Goes 129 (Bu neg n e).raw w):=by
 have hf:=fun w1 (k:Kept w w1)=>Ab9 (neg:=neg) (hv.kept k) hl e1 e2 (hT.kept k)
 have l0:=Am c0;have l1:=Am c1;have l2:=Am c2;simp only at l0 l1 l2;have HF:=hid hf;obtain ⟨A,l,c,rfl,hll,hv⟩:=hv.shape;clear hf hv hll hl hT;generalize Bu neg n e=o at *;go_enter Tryz.func79,Tryz.ntmps79;go_wp2_with fail;refine (HF.out _ (Ad _ _)).mono ?_;rintro e w1 ⟨qk,⟨h0,u,rfl,hd⟩ | ⟨h0,rfl⟩⟩
 ·obtain ⟨A',l',c',rfl,-,hd,g1,g2⟩:=hd.shape;have b0:=(blk_new _ _ _ _).kept qk;obtain ⟨_,c0,c1,c2,f0,f1,f2⟩:=b0.facts;have HD:=hid hd;clear hd;simp only [];go_wp2_with fail;exact Cc (Blk.laid b0 _ _ _) rfl rfl rfl ⟨An ((Ad _ _).trans qk) (Nat.le_refl _),.inl ⟨h0,_,rfl,(HD.out.dyW b0 (Ah _) (Ag _ _ _) (Af _)).dyR g1 g2⟩⟩
 ·exact ⟨rfl,(Ad _ _).trans qk,.inr ⟨h0,rfl⟩⟩
theorem Agn (w:World)(x:Value)(T:TypeId):(w.alloc (.cells #[x] T)).cell? ⟨w.heap.size,0,none⟩=some x:=Ae (heap_alloc_new _ _) 0 _ rfl
theorem Ajh (w:World)(o:Obj)(x:Value)(T:TypeId):((w.alloc o).alloc (.cells #[x] T)).cell? ⟨w.heap.size+1,0,none⟩=some x:=by
 have:=Agn (w.alloc o) x T;simp only [World.size_alloc] at this;exact this
theorem Aji (w:World)(o o':Obj)(x:Value)(T:TypeId):(((w.alloc o).alloc o').alloc (.cells #[x] T)).cell? ⟨w.heap.size+1+1,0,none⟩=some x:=by
 have:=Agn ((w.alloc o).alloc o') x T;simp only [World.size_alloc] at this;exact this
theorem Ry (w:World)(o o' o'':Obj)(x y z:Value):Blk ((((w.alloc o).alloc o').alloc o'').alloc (.cells #[x,y,z] 28)) (w.heap.size+1+1+1) x y z:=by
 have:=blk_new (((w.alloc o).alloc o').alloc o'') x y z;simp only [World.size_alloc] at this;exact this
theorem Ak (k:Kept w w1)(h:w.cell? ⟨b,0,none⟩=some x):w1.cell? ⟨b,0,none⟩=some x:=(k.cell (p:=⟨b,0,none⟩) (Am h)).trans h
theorem Afm (neg:Bool)(n:Nat)(e:Int):(Bu neg n e).raw.k≠0→(Bu neg n e).raw.v=rz:=by
 intro h;rw [Outc.raw] at h ⊢;rw [(Ih neg n e).2 h,Fg]
theorem Aet (hv:Lim w v (limbs n))(hl:(limbs n).length≤90000)(e1:-9223372036854775808≤e)(e2:e≤9223372036854775807)(hT:Tab w) :
 Calls Tryz.prog 41 #[.bool neg,v,.int .i64 e] w (RetE (Bu neg n e).raw w):=by
 have hmf:=Ho;have hf:=fun (W:World) (k:Kept w W) (H:Nat) (c0:W.cell? ⟨H,0,none⟩=some (.bool neg)) (c1:W.cell? ⟨H+1,0,none⟩=some v) (c2:W.cell? ⟨H+1+1,0,none⟩=some (.int .i64 e)) =>
  Aak (w:=W) (K:=79) (cap:=#[.pointer (some ⟨H,0,none⟩),.pointer (some ⟨H+1,0,none⟩),.pointer (some ⟨H+1+1,0,none⟩)])
   (fun W1 k1=>Alk (neg:=neg) (hv.kept (k.trans k1)) hl e1 e2 (hT.kept (k.trans k1)) (Ak k1 c0) (Ak k1 c1) (Ak k1 c2)) (Afm neg n e) (fun _=>rfl)
 have HF:=hid hf;obtain ⟨A,l,c,rfl,hll,hv⟩:=hv.shape;clear hf hv hll hl hT;generalize Bu neg n e=o at *;go_enter Tryz.func41,Tryz.ntmps41;go_wp2_with fail;refine (HF.out _ ?k _ ?c0 ?c1 ?c2).mono ?m
 case k=>exact (((Ad _ _).trans (Ad _ _)).trans (Ad _ _)).trans (Ad _ _)
 case c0=>exact Ak (Ad _ _) (Ak (Ad _ _) (Ak (Ad _ _) (Agn _ _ _)))
 case c1=>exact Ak (Ad _ _) (Ak (Ad _ _) (Ajh _ _ _ _))
 case c2=>exact Ak (Ad _ _) (Aji _ _ _ _ _)
 case m =>
  rintro e w1 ⟨qk,u,rfl,hd⟩;obtain ⟨A',l',c',rfl,-,hd,g1,g2⟩:=hd.shape;have b0:=(Ry _ _ _ _ _ _ _).kept qk;obtain ⟨_,c0,c1,c2,f0,f1,f2⟩:=b0.facts;have HD:=hid hd;clear hd;simp only [];go_wp2_with fail;exact Ed (Blk.laid b0 _ _ _) rfl rfl rfl ⟨An (((((Ad _ _).trans (Ad _ _)).trans (Ad _ _)).trans (Ad _ _)).trans qk) (by omega),_,rfl,(HD.out.dyW b0 (Ah _) (Ag _ _ _) (Af _)).dyR g1 g2⟩
theorem Ai3 (w:World)(o:Obj)(k:Nat)(hk:k<18446744073709551616):Lim ((w.alloc o).alloc (.cells #[.int .u64 k] 55)) (.slice (some ⟨w.heap.size+1,0,none⟩) 1 1) [k]:=by
 refine ⟨fun x hx=>by simp at hx;omega,_,1,rfl,Nat.le_refl _,fun _=>⟨_,_,rfl,by simp,fun i hi=>?_⟩⟩;have:i=0:=by simp at hi;exact hi
 subst this;exact Ajh w o (.int .u64 k) 55
theorem Yh {o:Obj}(hk:k<18446744073709551616) :
 Calls Tryz.prog 42 #[.slice (some ⟨w.heap.size+1,0,none⟩) 1 1] ((w.alloc o).alloc (.cells #[.int .u64 k] 55)) (RetLim (limbs k) ((w.alloc o).alloc (.cells #[.int .u64 k] 55))):=by
 have h:=Ajj (Ai3 w o k hk) (by simp);have e:val [k]=k:=by simp [val]
 rwa [e] at h
theorem Q5 (k:Nat)(hk:k<18446744073709551616):(limbs k).length≤90000:=by
 have:=Cv k 1 (by simpa using hk);omega
theorem Oc (hk:k<9223372036854775808)(e1:-9223372036854775808≤e)(e2:e≤9223372036854775807)(hT:Tab w) :
 Calls Tryz.prog 20 #[.int .i64 k,.int .i64 e] w (RetE (Bu false k e).raw w):=by
 have hw:IntKind.u64.wrap (k:Int)=k:=by simp [IntKind.wrap_u64];omega
 have hf:=fun W v (k1:Kept w W) (hv:Lim W v (limbs k))=>Aet (neg:=false) hv (Q5 k (by omega)) e1 e2 (hT.kept k1)
 have hlt:decide ((k:Int)<0)=false:=by simp
 have HK:=hid hk;have HF:=hid hf;clear hk hf hT e1 e2;generalize Bu false k e=o at *;go_enter Tryz.func20,Tryz.ntmps20
 go_wp2_with (first
  | (go_at_call 42;refine (Yh (by have:=HK.out;omega)).mono ?_;rintro e w1 ⟨u,rfl,hu,qk⟩;have HU:=hid hu;clear hu)
  | (go_at_call 41;refine (HF.out _ _ (((Ad _ _).trans (Ad _ _)).trans qk) HU.out).mono ?_;rintro e w2 ⟨qk2,u,rfl,hd⟩;obtain ⟨A',l',c',rfl,-,hd,g1,g2⟩:=hd.shape;have b0:=((Bb (blk_new _ _ _ _) _).kept qk).kept qk2;obtain ⟨_,c0,c1,c2,f0,f1,f2⟩:=b0.facts;have HD:=hid hd;clear hd))
 exact Ed (Blk.laid b0 _ _ _) rfl rfl rfl ⟨An ((((Ad _ _).trans (Ad _ _)).trans qk).trans qk2) (Nat.le_refl _),_,rfl,(HD.out.dyW b0 (Ah _) (Ag _ _ _) (Af _)).dyR g1 g2⟩
theorem Akv (hk:k<9223372036854775808)(h0:0<k)(e1:-9223372036854775808≤e)(e2:e≤9223372036854775807)(hT:Tab w) :
 Calls Tryz.prog 20 #[.int .i64 (-k),.int .i64 e] w (RetE (Bu true k e).raw w):=by
 obtain ⟨c,hc⟩:∃ c:Nat,c=18446744073709551616-k:=⟨_,rfl⟩;have hw:IntKind.u64.wrap (-(k:Int))=c:=by simp [IntKind.wrap_u64];omega
 have hw2:IntKind.u64.wrap (-(c:Int))=k:=by simp [IntKind.wrap_u64];omega
 have hf:=fun W v (k1:Kept w W) (hv:Lim W v (limbs k))=>Aet (neg:=true) hv (Q5 k (by omega)) e1 e2 (hT.kept k1)
 have hlt:decide (-(k:Int)<0)=true:=by simp;omega
 have hlt2:decide (0<k)=true:=by simp;omega
 have HK:=hid hk;have HF:=hid hf;clear hk hf hT e1 e2 hc;generalize Bu true k e=o at *;go_enter Tryz.func20,Tryz.ntmps20
 go_wp2_with (first
  | (go_at_call 42;refine (Yh (by have:=HK.out;omega)).mono ?_;rintro e w1 ⟨u,rfl,hu,qk⟩;have HU:=hid hu;clear hu)
  | (go_at_call 41;refine (HF.out _ _ (((Ad _ _).trans (Ad _ _)).trans qk) HU.out).mono ?_;rintro e w2 ⟨qk2,u,rfl,hd⟩;obtain ⟨A',l',c',rfl,-,hd,g1,g2⟩:=hd.shape;have b0:=((Bb (blk_new _ _ _ _) _).kept qk).kept qk2;obtain ⟨_,c0,c1,c2,f0,f1,f2⟩:=b0.facts;have HD:=hid hd;clear hd))
 exact Ed (Blk.laid b0 _ _ _) rfl rfl rfl ⟨An ((((Ad _ _).trans (Ad _ _)).trans qk).trans qk2) (Nat.le_refl _),_,rfl,(HD.out.dyW b0 (Ah _) (Ag _ _ _) (Af _)).dyR g1 g2⟩
def Qu (a b:Raw) (o:Outc Raw):Outc Raw:=if Ew a&&Ew b then o else ⟨rz,1⟩
theorem Amj {a b:Raw}{o:Outc Raw}{K:Nat}(ha:DyR w va a)(hb:DyR w vb b)(la:a.m.length≤17592186044416)(lb:b.m.length≤17592186044416)
 (h:∀ W,Kept w W→Ew a=true→Ew b=true→Calls Tryz.prog K #[va,vb] W (Goes 129 o W))
 (hk:∀ w,(callFunc K #[va,vb]).run Tryz.prog w=.ok (.enter K #[va,vb]) w)
 (h0:∃ x y z,va=.agg #[x,y,z]∧Blk w b0 x y z) (h1:∃ x y z,vb=.agg #[x,y,z]∧Blk w b1 x y z) (h2:w.cell? ⟨b2,0,none⟩=some (.func (.func K) #[] #[])) :
 Calls Tryz.prog 198 #[.pointer (some ⟨b0,0,none⟩),.pointer (some ⟨b1,0,none⟩),.pointer (some ⟨b2,0,none⟩)] w (Goes 129 (Qu a b o) w):=by
 have hma:=fun w1 (k:Kept w w1)=>Ms (ha.kept k) la
 have hmb:=fun w1 (k:Kept w w1)=>Ms (hb.kept k) lb
 obtain ⟨x,y,z,rfl,h0⟩:=h0;obtain ⟨x',y',z',rfl,h1⟩:=h1;unfold Qu;clear ha hb la lb;have HA:=hid hma;have HB:=hid hmb;have HH:=hid h;have HK:=hid hk;have H0:=hid h0;have H1:=hid h1;have H2:=hid h2;obtain ⟨l0,c0,c1,c2,-⟩:=h0.facts;obtain ⟨l1,d0,d1,d2,-⟩:=h1.facts;have l2:=Am h2;simp only at l2;clear hma hmb h hk h0 h1;cases hba:Ew a
 ·rw [if_neg (by simp)];rw [hba] at HA;go_enter Tryz.func198,Tryz.ntmps198
  go_wp2_with (first
   | (go_at_call 53;refine (HA.out _ (Ad _ _)).mono ?_;rintro e w1 ⟨rfl,qk⟩)
   | (go_at_call 118;refine (Hv _ _ _).mono ?_;rintro e w1 ⟨he,rfl⟩;first | (obtain rfl:e=.returned (.tuple #[]):=he) | (obtain rfl:e=.panicked (Dc 129 _):=he)))
  exact ⟨rfl,(Ad _ _).trans qk,.inr ⟨by decide,rfl⟩⟩
 ·rw [hba] at HA;cases hbb:Ew b
  ·rw [if_neg (by simp)];rw [hbb] at HB;go_enter Tryz.func198,Tryz.ntmps198;go_wp2_with fail;refine (HA.out _ (Ad _ _)).mono ?_;rintro e w1 ⟨rfl,qk⟩;obtain ⟨-,d0,d1,d2,-⟩:=(H1.out.kept ((Ad _ _).trans qk)).facts;simp only [];go_wp2_with fail;refine (HB.out _ ((Ad _ _).trans qk)).mono ?_;rintro e w2 ⟨rfl,qk2⟩;simp only [];go_wp2_with fail;refine (Hv _ _ _).mono ?_;rintro e w3 ⟨he,rfl⟩;obtain rfl:e=.panicked (Dc 129 _):=he;exact ⟨rfl,((Ad _ _).trans qk).trans qk2,.inr ⟨by decide,rfl⟩⟩
  ·rw [if_pos (by simp)];rw [hbb] at HB;go_enter Tryz.func198,Tryz.ntmps198;go_wp2_with fail;refine (HA.out _ (Ad _ _)).mono ?_;rintro e w1 ⟨rfl,qk⟩;obtain ⟨-,d0,d1,d2,-⟩:=(H1.out.kept ((Ad _ _).trans qk)).facts;simp only [];go_wp2_with fail;refine (HB.out _ ((Ad _ _).trans qk)).mono ?_;rintro e w2 ⟨rfl,qk2⟩;clear d0 d1 d2 c0 c1 c2;have k2:=((Ad w _).trans qk).trans qk2;obtain ⟨-,d0,d1,d2,-⟩:=(H1.out.kept k2).facts;obtain ⟨-,c0,c1,c2,-⟩:=(H0.out.kept k2).facts;have cf:=Ak k2 H2.out;simp only []
   go_wp2_with (go_at_call 118;refine (Hv _ _ _).mono ?_;rintro e w3 ⟨he,rfl⟩;obtain rfl:e=.returned (.tuple #[]):=he;have hk:=HK.out)
   refine (HH.out _ k2 hba hbb).mono ?_;rintro e w3 ⟨q3,⟨g0,u,rfl,hd⟩ | ⟨g0,rfl⟩⟩
   ·obtain ⟨A',l',c',rfl,-,hd,g1,g2⟩:=hd.shape;have r0:=(((blk_new _ _ _ _).kept qk).kept qk2).kept q3;clear d0 d1 d2 c0 c1 c2;obtain ⟨_,c0,c1,c2,f0,f1,f2⟩:=r0.facts;have HD:=hid hd;clear hd;simp only [];go_wp2_with fail;exact Cc (Blk.laid r0 _ _ _) rfl rfl rfl ⟨An (k2.trans q3) (Nat.le_refl _),.inl ⟨g0,_,rfl,(HD.out.dyW r0 (Ah _) (Ag _ _ _) (Af _)).dyR g1 g2⟩⟩
   ·exact ⟨rfl,k2.trans q3,.inr ⟨g0,rfl⟩⟩
theorem Ahs {a b:Raw}{o:Outc Raw}(hz:o.k≠0→o.v=rz):(Qu a b o).k≠0→(Qu a b o).v=rz:=by
 unfold Qu;split
 ·exact hz
 ·intro _;rfl
theorem Aht {a b:Raw}{o:Outc Raw}{K:Nat}(ha:DyR w va a)(hb:DyR w vb b)(la:a.m.length≤17592186044416)(lb:b.m.length≤17592186044416)
 (h:∀ W,Kept w W→Ew a=true→Ew b=true→Calls Tryz.prog K #[va,vb] W (Goes 129 o W)) (hz:o.k≠0→o.v=rz)
 (hk:∀ w,(callFunc K #[va,vb]).run Tryz.prog w=.ok (.enter K #[va,vb]) w) :
 Calls Tryz.prog 176 #[va,vb,.func (.func K) #[] #[]] w (RetE (Qu a b o) w):=by
 have hmf:=Ho;have hf:=fun (W:World) (k:Kept w W) (H:Nat) (c0:∃ x y z,va=.agg #[x,y,z]∧Blk W H x y z) (c1:∃ x y z,vb=.agg #[x,y,z]∧Blk W (H+1) x y z) (c2:W.cell? ⟨H+1+1,0,none⟩=some (.func (.func K) #[] #[])) =>
  Aak (w:=W) (K:=198) (cap:=#[.pointer (some ⟨H,0,none⟩),.pointer (some ⟨H+1,0,none⟩),.pointer (some ⟨H+1+1,0,none⟩)])
   (fun W1 k1=>Amj (ha.kept (k.trans k1)) (hb.kept (k.trans k1)) la lb (fun W2 k2=>h W2 ((k.trans k1).trans k2)) hk (by obtain ⟨x,y,z,e,h⟩:=c0;exact ⟨x,y,z,e,h.kept k1⟩) (by obtain ⟨x,y,z,e,h⟩:=c1;exact ⟨x,y,z,e,h.kept k1⟩) (Ak k1 c2))
   (Ahs hz) (fun _=>rfl)
 have HF:=hid hf;clear hf h hk hz la lb;generalize Qu a b o=o' at *;obtain ⟨A,l,c,rfl,-,-,-,-⟩:=ha.shape;obtain ⟨A2,l2,c2,rfl,-,-,-,-⟩:=hb.shape;clear ha hb;generalize a.neg=n1,a.e=e1,b.neg=n2,b.e=e2 at *;go_enter Tryz.func176,Tryz.ntmps176;go_wp2_with fail;refine (HF.out _ ?k _ ?c0 ?c1 ?c2).mono ?m
 case k=>exact (((Ad _ _).trans (Ad _ _)).trans (Ad _ _)).trans (Ad _ _)
 case c0=>exact ⟨_,_,_,rfl,Bb (Bb (Bb (blk_new _ _ _ _) _) _) _⟩
 case c1=>exact ⟨_,_,_,rfl,Bb (Bb (D8 _ _ _ _ _) _) _⟩
 case c2=>exact Ak (Ad _ _) (Aji _ _ _ _ _)
 case m =>
  rintro e w1 ⟨qk,u,rfl,hd⟩;obtain ⟨A',l',c',rfl,-,hd,g1,g2⟩:=hd.shape;have b0:=(Ry _ _ _ _ _ _ _).kept qk;obtain ⟨_,c0,c1,c2,f0,f1,f2⟩:=b0.facts;have HD:=hid hd;clear hd;simp only [];go_wp2_with fail;exact Ed (Blk.laid b0 _ _ _) rfl rfl rfl ⟨An (((((Ad _ _).trans (Ad _ _)).trans (Ad _ _)).trans (Ad _ _)).trans qk) (by omega),_,rfl,(HD.out.dyW b0 (Ah _) (Ag _ _ _) (Af _)).dyR g1 g2⟩
structure KX (W:World) (b:Nat) (w':World):Prop where
 os:w'.os=W.os
 tape:w'.tape=W.tape
 output:w'.output=W.output
 size:W.heap.size≤w'.heap.size
 block:∀ k,k<W.heap.size→k≠b→w'.heap[k]?=W.heap[k]?
 blk:∃ x y z,Blk w' b x y z∧Be x∧Be y∧Be z
theorem KX.start (h:Blk W b x y z)(hx:Be x)(hy:Be y)(hz:Be z):KX W b W.drew :=
 ⟨rfl,rfl,rfl,Nat.le_refl _,fun _ _ _=>rfl,x,y,z,h,hx,hy,hz⟩
theorem KX.step (h:KX W b w')(k:Kept w' w1):KX W b w1:=by
 refine ⟨k.os.trans h.os,k.tape.trans h.tape,k.output.trans h.output,Nat.le_trans h.size k.size,fun i hi hb=>(k.block i (Nat.lt_of_lt_of_le hi h.size)).trans (h.block i hi hb),?_⟩;obtain ⟨x,y,z,hb,h1,h2,h3⟩:=h.blk;exact ⟨x,y,z,hb.kept k,h1,h2,h3⟩
theorem KX.store (h:KX W b w')(hx:Be x)(hy:Be y)(hz:Be z):KX W b (dyW w' b x y z):=by
 refine ⟨h.os,h.tape,h.output,by simpa [dyW,World.setCell] using h.size,fun i hi hb=>?_,?_⟩
 ·unfold dyW;rw [Below.heap_setCell _ _ _ _ hb,Below.heap_setCell _ _ _ _ hb,Below.heap_setCell _ _ _ _ hb];exact h.block i hi hb
 ·obtain ⟨x',y',z',hb,_⟩:=h.blk;exact ⟨x,y,z,hb.laid _ _ _,hx,hy,hz⟩
theorem KX.other (k:KX W b w')(h:Blk W b' x y z)(hne:¬b'=b):Blk w' b' x y z :=
 (k.block b' (Array.getElem?_eq_some_iff.1 h).1 hne).trans h
theorem KX.lim (k:KX W b w')(h0:Blk W b x y z)(hx:Be x)(hy:Be y)(hz:Be z)(h:Lim W s xs):Lim w' s xs:=by
 obtain ⟨hsm,A,c,rfl,hc,hA⟩:=h;refine ⟨hsm,A,c,rfl,hc,fun hp=>?_⟩;obtain ⟨b1,off,rfl,hb,hcell⟩:=hA hp;have n2:¬b1=b:=by
  rintro rfl;have h5:=hcell 0 hp;simp only [World.cell?,show W.heap[b1]?=_ from h0] at h5;rcases off with _ | _ | _ | off
  ·simp at h5;exact hx _ h5
  ·simp at h5;exact hy _ h5
  ·simp at h5;exact hz _ h5
  ·simp at h5
 refine ⟨b1,off,rfl,Nat.lt_of_lt_of_le hb k.size,fun i hi=>?_⟩;rw [←hcell i hi];exact World.cell?_of_block (k.block b1 hb n2)
theorem KX.kept (k:KX W b w')(h:Kept w W)(hb:w.heap.size≤b):Kept w w' :=
 ⟨k.os.trans h.os,k.tape.trans h.tape,k.output.trans h.output,Nat.le_trans h.size k.size,fun i hi=>(k.block i (Nat.lt_of_lt_of_le hi h.size) (by omega)).trans (h.block i hi)⟩
theorem Kf (w:World)(x y z x' y' z':Value):∃ W,W=((w.alloc (.cells #[x,y,z] 28)).alloc (.cells #[x',y',z'] 28)).alloc (.cells #[.bool false,.slice none 0 0,.int .i64 0] 28) ∧
 Kept w W∧Blk W w.heap.size x y z∧Blk W (w.heap.size+1) x' y' z'∧Blk W (w.heap.size+1+1) (.bool false) (.slice none 0 0) (.int .i64 0) :=
 ⟨_,rfl,((Ad _ _).trans (Ad _ _)).trans (Ad _ _),Bb (Bb (blk_new _ _ _ _) _) _,Bb (D8 _ _ _ _ _) _,Ae3 _ _ _ _ _ _⟩
theorem Am8 (k:KX W b w')(h0:Blk W b0 x y z)(h1:Blk W b1 x' y' z')(n0:¬b0=b)(n1:¬b1=b) :
 KX W b w'∧w'.cell? ⟨b0,0,none⟩=some x∧w'.cell? ⟨b0,1,none⟩=some y∧w'.cell? ⟨b0,2,none⟩=some z∧w'.cell? ⟨b1,0,none⟩=some x'∧w'.cell? ⟨b1,1,none⟩=some y'∧w'.cell? ⟨b1,2,none⟩=some z':=by
 obtain ⟨_,a0,a1,a2,_⟩:=(k.other h0 n0).facts;obtain ⟨_,c0,c1,c2,_⟩:=(k.other h1 n1).facts;exact ⟨k,a0,a1,a2,c0,c1,c2⟩
theorem T8 (n m k l:Nat)(hn:(limbs n).length≤k)(hm:(limbs m).length≤l):(limbs (n*m)).length≤k+l:=by
 refine Cv _ _ ?_;have h1:=Ce n;have h2:=Ce m;have h3:n<18446744073709551616^k:=Nat.lt_of_lt_of_le h1 (Nat.pow_le_pow_right (by decide) hn);have h4:m<18446744073709551616^l:=Nat.lt_of_lt_of_le h2 (Nat.pow_le_pow_right (by decide) hm);rw [Nat.pow_add];exact Nat.mul_lt_mul'' h3 h4
theorem Alv {x y:Dy}(ha:DyR w va x.raw)(hb:DyR w vb y.raw)(hx:x.Ok)(hy:y.Ok)(hT:Tab w) :
 Calls Tryz.prog 179 #[va,vb] w (Goes 129 (Bt x y).raw w):=by
 obtain ⟨A,l,c,rfl,hl,ha,-,-⟩:=ha.shape;obtain ⟨A2,l2,c2,rfl,hl2,hb,-,-⟩:=hb.shape;have lx:=hx.len;have ly:=hy.len;have hm:=fun W (ha:Lim W (.slice A l c) (limbs x.m)) (hb:Lim W (.slice A2 l2 c2) (limbs y.m))=>Acz ha hb (by omega) (by omega)
 have hlen:=T8 x.m y.m 64 64 lx ly;have x1:=hx.lo;have x2:=hx.hi;have y1:=hy.lo;have y2:=hy.hi;have hf:=fun W v (k:Kept w W) (hv:Lim W v (limbs (x.m*y.m)))=>Ab9 (neg:=(x.neg != y.neg)) (e:=x.e+y.e) hv (by omega) (by omega) (by omega) (hT.kept k)
 unfold Bt;have HM:=hid hm;have HF:=hid hf;have LA:=hid ha;have LB:=hid hb;clear hm hf hT ha hb lx ly hlen hx hy hl hl2;generalize Bu (x.neg != y.neg) (x.m*y.m) (x.e+y.e)=o at *;obtain ⟨nb,hnb⟩:∃ nb,(x.neg != y.neg)=nb:=⟨_,rfl⟩;rw [hnb] at HF;have hnb1:((!x.neg)==y.neg)=nb:=by rw [←hnb];cases x.neg<;>cases y.neg<;>rfl
 have hnb2:(!(x.neg==y.neg))=nb:=by rw [←hnb];cases x.neg<;>cases y.neg<;>rfl
 obtain ⟨es,hes⟩:∃ es,x.e+y.e=es:=⟨_,rfl⟩;rw [hes] at HF;have hws:IntKind.i64.wrap (x.e+y.e)=es:=by rw [←hes];simp [IntKind.wrap_i64];omega
 clear hnb hes x1 x2 y1 y2;generalize limbs (x.m*y.m)=xs at *;simp only [Dy.raw] at *;generalize x.neg=n1,x.e=e1,y.neg=n2,y.e=e2 at *;obtain ⟨W,hW,kW,B0,B1,B2⟩:=Kf w (.bool n1) (.slice A l c) (.int .i64 e1) (.bool n2) (.slice A2 l2 c2) (.int .i64 e2);have hS:=fun w' (k:KX W (w.heap.size+1+1) w')=>Am8 k B0 B1 (by omega) (by omega)
 have HS:=hid hS;have HW:=hid hW;have HK:=hid kW;have HB:=hid B2;clear hS hW kW B0 B1 B2;have hla:=fun w' (k:KX W (w.heap.size+1+1) w')=>k.lim HB.out (Ah _) (Ag _ _ _) (Af _) (LA.out.kept HK.out)
 have hlb:=fun w' (k:KX W (w.heap.size+1+1) w')=>k.lim HB.out (Ah _) (Ag _ _ _) (Af _) (LB.out.kept HK.out)
 have hkk:=fun w' (k:KX W (w.heap.size+1+1) w')=>k.kept HK.out (by omega)
 have HLA:=hid hla;have HLB:=hid hlb;have HKK:=hid hkk;clear hla hlb hkk;go_enter Tryz.func179,Tryz.ntmps179;go_wp2_with fail;rw [←HW.out]
 go_region_held2 (fun w'=>KX W (w.heap.size+1+1) w'∧w'.cell? ⟨w.heap.size,0,none⟩=some (.bool n1)∧w'.cell? ⟨w.heap.size,1,none⟩=some (.slice A l c)∧w'.cell? ⟨w.heap.size,2,none⟩=some (.int .i64 e1) ∧
  w'.cell? ⟨w.heap.size+1,0,none⟩=some (.bool n2)∧w'.cell? ⟨w.heap.size+1,1,none⟩=some (.slice A2 l2 c2)∧w'.cell? ⟨w.heap.size+1,2,none⟩=some (.int .i64 e2))
  (first | exact HS.out _ (KX.start HB.out (Ah _) (Ag _ _ _) (Af _)) | exact HS.out _ (KX.step ‹KX _ _ _∧_›.1 qk) | exact HS.out _ (KX.store ‹KX _ _ _∧_›.1 (Ah _) (Ag _ _ _) (Af _)))
  (first
  | (go_at_call 180;go_must (refine (HM.out _ (HLA.out _ ‹KX _ _ _∧_›.1) (HLB.out _ ‹KX _ _ _∧_›.1)).mono ?_;rintro e w1 ⟨u,rfl,hu,qk⟩;have HU:=hid hu;clear hu))
  | (go_at_call 80;go_must (refine (HF.out _ _ (HKK.out _ ‹KX _ _ _∧_›.1) HU.out).mono ?_;clear qk;rintro e w2 ⟨qk,⟨ho,u,rfl,hd⟩ | ⟨ho,rfl⟩⟩;rotate_left;exact ⟨rfl,HKK.out _ (KX.step ‹KX _ _ _∧_›.1 qk),.inr ⟨ho,rfl⟩⟩;have HO:=hid ho;clear ho;obtain ⟨_,_,_,hb2,j0,j1,j2⟩:=(KX.step ‹KX _ _ _∧_›.1 qk).blk;obtain ⟨_,c0,c1,c2,f0,f1,f2⟩:=hb2.facts;have HB2:=hid hb2;clear hb2;obtain ⟨A',l',c',rfl,-,hd,g1,g2⟩:=hd.shape;have HD:=hid hd;clear hd)))
 go_wp2_with fail;exact Cc (Blk.laid HB2.out _ _ _) rfl rfl rfl ⟨HKK.out _ ‹KX _ _ _∧_›.1,.inl ⟨HO.out,_,rfl,(HD.out.dyW HB2.out j0 j1 j2).dyR g1 g2⟩⟩
def NoL (w:World) (g:Nat):Prop:=∃ cur e,w.heap[g]?=some (.cells cur e (0,0))∧∀ u∈cur.toList,Be u
theorem NoL.of_block (h:NoL w g)(he:w'.heap[g]?=w.heap[g]?):NoL w' g:=by
 obtain ⟨cur,e,h1,h2⟩:=h;exact ⟨cur,e,he.trans h1,h2⟩
theorem Im {z:Array Value}(h:u∈(Builtin.zeroCells z n).toList):u∈z.toList:=by
 simp [Builtin.zeroCells] at h;obtain ⟨a,ha,rfl⟩:=h;have h0:0<z.size:=by
  rcases Nat.eq_zero_or_pos z.size with h | h
  ·rw [h] at ha;omega
  ·exact h
 have hlt:=Nat.mod_lt a h0;rw [getElem!_pos z _ hlt];simp
theorem Hl (w:World)(base:Nat)(t ty e:TypeId)(i:TypeInfo)(z:Value)(size bytes:Nat)(ht:P.underlying t=some (.slice e))(hi:P.info? e=some i)(hz:i.zero=some z)
 (hsize:i.size=size) (hby:i.bytes=bytes) (hzs:z.cells.size=size) (hsz:0<size)
 (v:Value) (n:Nat) (xs:List Value) (hown:w.ownsRow base e size v n xs)
 (a:Addr) (m c:Nat) (news:List Value) (hl:news.length=m*size) (hnews:∀ j u,news[j]?=some u→w.cell? (a.add j)=some u) (h1:∀ u∈news,u.oneCell'=true)
 (h63:n+m≤maxLen) (hbytes:(n+m)*bytes≤140737488355328) (hbase:base≤w.heap.size)
 (hm:0<m) (hxs:∀ u∈xs,Be u) (hnl:∀ u∈news,Be u) (hzl:∀ u∈z.cells.toList,Be u) (hN:∀ g,v.ownBlock=some g→NoL w g) :
 ∃ v' w' g', (Builtin.append_ #[t, t] ty #[v, .slice (some a) m c]).run P w = .ok v' w' ∧ w'.ownsRow base e size v' (n + m) (xs ++ news) ∧ w.grownBy w' v.ownBlock ∧
   v'.ownBlock=some g'∧NoL w' g':=by
 obtain ⟨v',w',hr,h2,h3,h4⟩:=run_append_own (P:=P) w base t ty e i z size bytes ht hi hz hsize hby hzs hsz v n xs hown a m c news hl hnews h1 h63 hbytes hbase;have hown':=hown;subst hsize;subst hby;rcases hown.2 with ⟨rfl,rfl⟩ | ⟨g,cap,cur,rfl,hbg,hg,hnc,hcm,hcs,htake⟩
 ·have hx:xs=[]:=List.eq_nil_of_length_eq_zero (by simpa using hown.1);subst hx;have hr2:=run_append_nil (P:=P) w t ty e i z ht hi hz a m c news hl hnews (by omega) (by simp only [maxLen] at h63;omega) (by have hb:=hbytes;simp only [Nat.zero_add] at hb;omega);rw [hr2] at hr;injection hr with e1 e2
  subst e1;subst e2;refine ⟨_,_,w.heap.size,hr2,h2,h3,rfl,_,e,heap_alloc_new w.drew _,?_⟩;intro u hu;simp only [Array.toList_append,List.mem_append] at hu;rcases hu with hu | hu
  ·exact hnl u (by simpa using hu)
  ·exact hzl u (Im hu)
 ·obtain ⟨cur',e',hg',hcl⟩:=hN g rfl;rw [hg] at hg';obtain ⟨rfl,rfl⟩:cur=cur'∧e=e':=by
   injection hg' with q;injection q with q1 q2;exact ⟨q1,q2⟩
  by_cases hroom:n+m≤cap
  ·have hfit:n*i.size+news.length≤cur.size:=by rw [hl,hcs,←Nat.add_mul];exact Nat.mul_le_mul_right _ hroom
   have hr2:=run_append_room (P:=P) w t ty e i ht hi g n cap cur hg a m c news hl hnews h1 hroom hfit;rw [hr2] at hr;injection hr with e1 e2
   subst e1;subst e2;refine ⟨_,_,g,hr2,h2,h3,rfl,_,e,setRow_heap w g cur _ e _ hg,?_⟩;intro u hu;simp only [List.mem_append] at hu;rcases hu with (hu | hu) | hu
   ·exact hcl u (List.mem_of_mem_take hu)
   ·exact hnl u hu
   ·exact hcl u (List.mem_of_mem_drop hu)
  ·have holds:∀ j u,xs[j]?=some u→w.cell? ((⟨g,0,none⟩:Addr).add j)=some u:=hown.cells (g:=g) rfl;have hr2:=run_append_grow (P:=P) w t ty e i z ht hi hz ⟨g,0,none⟩ n cap xs hown.1 holds a m c news hl hnews (by omega) (by simp only [maxLen] at h63;omega) (growslice_fits (by omega) hbytes);rw [hr2] at hr;injection hr with e1 e2
   subst e1;subst e2;refine ⟨_,_,w.heap.size,hr2,h2,h3,rfl,_,e,heap_alloc_new w.drew _,?_⟩;intro u hu;simp only [Array.toList_append,List.mem_append] at hu;rcases hu with (hu | hu) | hu
   ·exact hxs u (by simpa using hu)
   ·exact hnl u (by simpa using hu)
   ·exact hzl u (Im hu)
theorem P0 {ops:Array Oper}{rest:List Oper}(hgd:o.guard=none)(s x:Operand)(t:TypeId)
 (ho:o.op=.call { callee:=.builtin .append,args:=#[s,x],argTypes:=#[t,t] })
 (base:Nat) (e:TypeId) (i:TypeInfo) (z:Value) (size bytes:Nat) (ht:P.underlying t=some (.slice e)) (hi:P.info? e=some i) (hz:i.zero=some z)
 (hsize:i.size=size) (hby:i.bytes=bytes) (hzs:z.cells.size=size) (hsz:0<size)
 (v:Value) (n:Nat) (xs:List Value) (hs:a.eval s=v) (hown:w.ownsRow base e size v n xs)
 (ad:Addr) (m c:Nat) (news:List Value) (hx:a.eval x=.slice (some ad) m c) (hl:news.length=m*size) (hnews:∀ j u,news[j]?=some u→w.cell? (ad.add j)=some u) (h1:∀ u∈news,u.oneCell'=true)
 (h63:n+m≤maxLen) (hbytes:(n+m)*bytes≤140737488355328) (hbase:base≤w.heap.size)
 (hm:0<m) (hxs:∀ u∈xs,Be u) (hnl:∀ u∈news,Be u) (hzl:∀ u∈z.cells.toList,Be u) (hN:∀ g,v.ownBlock=some g→NoL w g)
 (h:∀ v' w' g',w'.ownsRow base e size v' (n+m) (xs++news)→w.grownBy w' v.ownBlock→v'.ownBlock=some g'→NoL w' g'→wpList P ops Q rest (a.put o.dst v') w'):wpList P ops Q (o::rest) a w:=by
 refine wpList_plain hgd fun K hK=>?_
 obtain ⟨v',w',g',hr,h2,h3,h4,h5⟩:=Hl (P:=P) w base t o.type e i z size bytes ht hi hz hsize hby hzs hsz v n xs hown ad m c news hl hnews h1 h63 hbytes hbase hm hxs hnl hzl hN;unfold Oper.wp execOp;simp only [ho,resolve,invoke,builtin,Sem.run_bind,Sem.run_pure,Result.andThen_ok,List.map_toArray,List.map_cons,List.map_nil,hs,hx,hr];exact hK _ _ (h v' w' g' h2 h3 h4 h5)
theorem Ud {K:Act→World→Prop}(s x:Operand)(t:TypeId)
 (ho:o.op=.call { callee:=.builtin .append,args:=#[s,x],argTypes:=#[t,t] })
 (base:Nat) (e:TypeId) (i:TypeInfo) (z:Value) (size bytes:Nat) (ht:P.underlying t=some (.slice e)) (hi:P.info? e=some i) (hz:i.zero=some z)
 (hsize:i.size=size) (hby:i.bytes=bytes) (hzs:z.cells.size=size) (hsz:0<size)
 (v:Value) (n:Nat) (xs:List Value) (hs:a.eval s=v) (hown:w.ownsRow base e size v n xs)
 (ad:Addr) (m c:Nat) (news:List Value) (hx:a.eval x=.slice (some ad) m c) (hl:news.length=m*size) (hnews:∀ j u,news[j]?=some u→w.cell? (ad.add j)=some u) (h1:∀ u∈news,u.oneCell'=true)
 (h63:n+m≤maxLen) (hbytes:(n+m)*bytes≤140737488355328) (hbase:base≤w.heap.size)
 (hm:0<m) (hxs:∀ u∈xs,Be u) (hnl:∀ u∈news,Be u) (hzl:∀ u∈z.cells.toList,Be u) (hN:∀ g,v.ownBlock=some g→NoL w g)
 (h:∀ v' w' g',w'.ownsRow base e size v' (n+m) (xs++news)→w.grownBy w' v.ownBlock→v'.ownBlock=some g'→NoL w' g'→K (a.put o.dst v') w'):o.wp P a w K Q:=by
 obtain ⟨v',w',g',hr,h2,h3,h4,h5⟩:=Hl (P:=P) w base t o.type e i z size bytes ht hi hz hsize hby hzs hsz v n xs hown ad m c news hl hnews h1 h63 hbytes hbase hm hxs hnl hzl hN;unfold Oper.wp execOp;simp only [ho,resolve,invoke,builtin,Sem.run_bind,Sem.run_pure,Result.andThen_ok,List.map_toArray,List.map_cons,List.map_nil,hs,hx,hr];exact h v' w' g' h2 h3 h4 h5
def AllC (p:Value→Prop) (w:World) (g:Nat):Prop:=∃ cur e,w.heap[g]?=some (.cells cur e (0,0))∧∀ u∈cur.toList,p u
theorem Tg {p:Value→Prop}(w:World)(base:Nat)(t ty e:TypeId)(i:TypeInfo)(z:Value)(size bytes:Nat)(ht:P.underlying t=some (.slice e))(hi:P.info? e=some i)(hz:i.zero=some z)
 (hsize:i.size=size) (hby:i.bytes=bytes) (hzs:z.cells.size=size) (hsz:0<size)
 (v:Value) (n:Nat) (xs:List Value) (hown:w.ownsRow base e size v n xs)
 (a:Addr) (m c:Nat) (news:List Value) (hl:news.length=m*size) (hnews:∀ j u,news[j]?=some u→w.cell? (a.add j)=some u) (h1:∀ u∈news,u.oneCell'=true)
 (h63:n+m≤maxLen) (hbytes:(n+m)*bytes≤140737488355328) (hbase:base≤w.heap.size)
 (hm:0<m) (hxs:∀ u∈xs,p u) (hnl:∀ u∈news,p u) (hzl:∀ u∈z.cells.toList,p u) (hN:∀ g,v.ownBlock=some g→AllC p w g) :
 ∃ v' w' g', (Builtin.append_ #[t, t] ty #[v, .slice (some a) m c]).run P w = .ok v' w' ∧ w'.ownsRow base e size v' (n + m) (xs ++ news) ∧ w.grownBy w' v.ownBlock ∧
   v'.ownBlock=some g'∧AllC p w' g':=by
 obtain ⟨v',w',hr,h2,h3,h4⟩:=run_append_own (P:=P) w base t ty e i z size bytes ht hi hz hsize hby hzs hsz v n xs hown a m c news hl hnews h1 h63 hbytes hbase;have hown':=hown;subst hsize;subst hby;rcases hown.2 with ⟨rfl,rfl⟩ | ⟨g,cap,cur,rfl,hbg,hg,hnc,hcm,hcs,htake⟩
 ·have hx:xs=[]:=List.eq_nil_of_length_eq_zero (by simpa using hown.1);subst hx;have hr2:=run_append_nil (P:=P) w t ty e i z ht hi hz a m c news hl hnews (by omega) (by simp only [maxLen] at h63;omega) (by have hb:=hbytes;simp only [Nat.zero_add] at hb;omega);rw [hr2] at hr;injection hr with e1 e2
  subst e1;subst e2;refine ⟨_,_,w.heap.size,hr2,h2,h3,rfl,_,e,heap_alloc_new w.drew _,?_⟩;intro u hu;simp only [Array.toList_append,List.mem_append] at hu;rcases hu with hu | hu
  ·exact hnl u (by simpa using hu)
  ·exact hzl u (Im hu)
 ·obtain ⟨cur',e',hg',hcl⟩:=hN g rfl;rw [hg] at hg';obtain ⟨rfl,rfl⟩:cur=cur'∧e=e':=by
   injection hg' with q;injection q with q1 q2;exact ⟨q1,q2⟩
  by_cases hroom:n+m≤cap
  ·have hfit:n*i.size+news.length≤cur.size:=by rw [hl,hcs,←Nat.add_mul];exact Nat.mul_le_mul_right _ hroom
   have hr2:=run_append_room (P:=P) w t ty e i ht hi g n cap cur hg a m c news hl hnews h1 hroom hfit;rw [hr2] at hr;injection hr with e1 e2
   subst e1;subst e2;refine ⟨_,_,g,hr2,h2,h3,rfl,_,e,setRow_heap w g cur _ e _ hg,?_⟩;intro u hu;simp only [List.mem_append] at hu;rcases hu with (hu | hu) | hu
   ·exact hcl u (List.mem_of_mem_take hu)
   ·exact hnl u hu
   ·exact hcl u (List.mem_of_mem_drop hu)
  ·have holds:∀ j u,xs[j]?=some u→w.cell? ((⟨g,0,none⟩:Addr).add j)=some u:=hown.cells (g:=g) rfl;have hr2:=run_append_grow (P:=P) w t ty e i z ht hi hz ⟨g,0,none⟩ n cap xs hown.1 holds a m c news hl hnews (by omega) (by simp only [maxLen] at h63;omega) (growslice_fits (by omega) hbytes);rw [hr2] at hr;injection hr with e1 e2
   subst e1;subst e2;refine ⟨_,_,w.heap.size,hr2,h2,h3,rfl,_,e,heap_alloc_new w.drew _,?_⟩;intro u hu;simp only [Array.toList_append,List.mem_append] at hu;rcases hu with (hu | hu) | hu
   ·exact hxs u (by simpa using hu)
   ·exact hnl u (by simpa using hu)
   ·exact hzl u (Im hu)
end Go.Proofs.YtabjjdicffcolaaGreatDoor
