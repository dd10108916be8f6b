/- Words and contracts, part 8. -/
import Derived.Test.YtabjjdicffcolaaGreatDoorClaimJfrontp07
import Derived.Deep.RegionHeld2
import Derived.OwnWalk
set_option maxRecDepth 100000
set_option maxHeartbeats 0
namespace Go.Proofs.YtabjjdicffcolaaGreatDoor
open Go.RowKit
variable {a:Act} {ops:Array Oper} {neg:Bool} {R:Ending->World->Prop} {Q:Exit->Act->World->Prop} {e:Int} {xs:List Nat} {rest:List Oper} {b b' b0 b1 b2 c k n t:Nat} {o:Oper} {A:Option Addr} {P:Program} {r:Raw} {s u v va vb x x' y y' z z':Value} {p:Value->Prop} {W w w' w1:World}
def Blk (w:World) (b:Nat) (x y z:Value):Prop:=w.heap[b]?=some (.cells #[x,y,z] 28 (0,0))
theorem Blk.facts (h:Blk w b x y z):b<w.heap.size/\w.cell? ⟨b,0,none⟩=some x/\w.cell? ⟨b,1,none⟩=some y/\w.cell? ⟨b,2,none⟩=some z /\
 w.frozen? ⟨b,0,none⟩=false/\w.frozen? ⟨b,1,none⟩=false/\w.frozen? ⟨b,2,none⟩=false :=
 ⟨(Bi h).1,Ae h 0 _ rfl,Ae h 1 _ rfl,Ae h 2 _ rfl,Aw h 0,Aw h 1,Aw h 2⟩
theorem Blk.kept (h:Blk w b x y z)(k:Kept w w1):Blk w1 b x y z :=
 (k.block b (Bi h).1).trans h
theorem Bz (w:World)(x y z:Value):Blk (w.alloc (.cells #[x,y,z] 28)) w.heap.size x y z:=heap_alloc_new _ _
theorem Bl (h:Blk w b x y z)(o:Obj):Blk (w.alloc o) b x y z :=
 h.kept ((Below.refl _ _).alloc (Aq _) _)
theorem Ab (w:World)(o:Obj):Kept w (w.alloc o):=(Below.refl _ _).alloc (Aq _) _
def dyW (w:World) (b:Nat) (x y z:Value):World:=((w.setCell ⟨b,0,none⟩ x).setCell ⟨b,1,none⟩ y).setCell ⟨b,2,none⟩ z
theorem Blk.laid (h:Blk w b x y z)(x' y' z':Value):Blk (dyW w b x' y' z') b x' y' z' :=
 Bw (Bw (Bw h _) _) _
theorem Blk.laid_other (h:Blk w b x y z)(hne:¬b=b')(x' y' z':Value):Blk (dyW w b' x' y' z') b x y z :=
 Bh (Bh (Bh h hne _) hne _) hne _
theorem Au {w0:World}(h:Kept w0 w)(h2:w0.heap.size<=b):Kept w0 (dyW w b x y z) :=
 ((h.setCell (p:=⟨b,0,none⟩) h2 x).setCell (p:=⟨b,1,none⟩) h2 y).setCell (p:=⟨b,2,none⟩) h2 z
def Bv (x:Value):Prop:=∀ n,¬x=.int .u64 n
theorem Ah (b:Bool):Bv (.bool b):=λ_ h=>by cases h
theorem Ag (a:Option Addr)(n c:Nat):Bv (.slice a n c):=λ_ h=>by cases h
theorem Aj (n:Int):Bv (.int .i64 n):=λ_ h=>by cases h
theorem Lim.dyW (h:Lim w s xs)(h0:Blk w b2 x y z)(hx:Bv x)(hy:Bv y)(hz:Bv z) :
 Lim (dyW w b2 x' y' z') s xs:=by
 obtain ⟨hsm,A,c,rfl,hc,hA⟩:=h;refine ⟨hsm,A,c,rfl,hc,λhp=>?_⟩;obtain ⟨b,off,rfl,hb,hcell⟩:=hA hp;have n2:¬b=b2:=by
  rintro rfl;have h5:=hcell 0 hp;simp only [World.cell?,show w.heap[b]?=_ from h0] at h5;rcases off with _ | _ | _ | off
  ·simp at h5;exact hx _ h5
  ·simp at h5;exact hy _ h5
  ·simp at h5;exact hz _ h5
  ·simp at h5
 have e:(Go.Proofs.YtabjjdicffcolaaGreatDoor.dyW w b2 x' y' z').heap[b]?=w.heap[b]?:=by
  unfold Go.Proofs.YtabjjdicffcolaaGreatDoor.dyW;rw [Below.heap_setCell _ _ _ _ n2,Below.heap_setCell _ _ _ _ n2,Below.heap_setCell _ _ _ _ n2]
 refine ⟨b,off,rfl,?_,λi hi=>?_⟩
 ·unfold Go.Proofs.YtabjjdicffcolaaGreatDoor.dyW;simpa [World.setCell] using hb
 ·rw [<-hcell i hi];simp only [World.cell?,e]
theorem Lim.setCell {i:Nat}(h:Lim w s xs)(hc:w.cell? ⟨b,i,none⟩=some x)(hx:Bv x)(y:Value) :
 Lim (w.setCell ⟨b,i,none⟩ y) s xs:=by
 obtain ⟨hsm,A,c,rfl,hc',hA⟩:=h;refine ⟨hsm,A,c,rfl,hc',λhp=>?_⟩;obtain ⟨b0,off,rfl,hb,hcell⟩:=hA hp;refine ⟨b0,off,rfl,by simpa [World.setCell] using hb,λk hk=>?_⟩;rw [World.cell?_setCell_other]
 ·exact hcell k hk
 ·intro he;injection he with he1 he2
  subst he1 he2;rw [hcell k hk] at hc;injection hc with hc
  exact hx _ hc.symm
theorem Em (w:World)(o:Obj)(x y z:Value):Blk ((w.alloc o).alloc (.cells #[x,y,z] 28)) (w.heap.size+1) x y z:=by
 have:=Bz (w.alloc o) x y z;simpa using this
theorem iF (w:World)(o o':Obj)(x y z:Value):Blk (((w.alloc o).alloc o').alloc (.cells #[x,y,z] 28)) (w.heap.size+2) x y z:=by
 have:=Bz ((w.alloc o).alloc o') x y z;simpa using this
theorem Ct {fn:Func}(h:Blk w b x y z)
 (hres:fn.results=#[.cell t 28]) (ht:a.tmps.getD t undef=.pointer (some ⟨b,0,none⟩)) (hd:a.defers=[]) (hR:R (.returned (.agg #[x,y,z])) w) :
 bodyPost Tryz.prog fn R .ret a w:=by
 obtain ⟨_,c0,c1,c2,_⟩:=h.facts;refine bodyPost_ret (v:=.agg #[x,y,z]) ?_ hd hR;have ht2:a.tmps[t]?.getD undef=.pointer (some ⟨b,0,none⟩):=by simpa using ht
 simp [results,hres,ht2,go_sem,c0,c1,c2]
theorem Fa {fn:Func}{u:Nat}(h:Blk w b x y z)
 (hres:fn.results=#[.cell t 28,.tmp u]) (ht:a.tmps.getD t undef=.pointer (some ⟨b,0,none⟩)) (hd:a.defers=[])
 (hR:R (.returned (.tuple #[.agg #[x,y,z],a.tmps.getD u undef])) w) :
 bodyPost Tryz.prog fn R .ret a w:=by
 obtain ⟨_,c0,c1,c2,_⟩:=h.facts;refine bodyPost_ret (v:=.tuple #[.agg #[x,y,z],a.tmps.getD u undef]) ?_ hd hR;have ht2:a.tmps[t]?.getD undef=.pointer (some ⟨b,0,none⟩):=by simpa using ht
 simp [results,hres,ht2,go_sem,c0,c1,c2]
def nQ (r:Raw):Int:=if Io r=false\/r.m.length=0 then 0 else if r.neg then -1 else 1
theorem Yh (hv:DyR w v r)(hl:r.m.length<=17592186044416) :
 Calls Tryz.prog 76 #[v] w (RetK (.int .i64 (nQ r)) w):=by
 have hm:=λw1 (k:Kept w w1)=>Od (hv.kept k) hl
 obtain ⟨neg,m,e⟩:=r;obtain ⟨s,rfl,hs,h1,h2⟩:=hv;obtain ⟨_,A,c,rfl,hc,_⟩:=hs;simp only at hc h1 h2 hl ⊢;unfold nQ;simp only;have HM:=Ad hm;clear hm;generalize hb:Io ⟨neg,m,e⟩=bm at *;cases bm
 ·rw [Ak (Or.inl rfl)];go_enter Tryz.func76,Tryz.ntmps76
  go_wp2_with (go_at_call 53;refine (HM.o _ (Ab _ _)).mono ?_;rintro e w1 ⟨rfl,q⟩)
  go_ret;exact ⟨rfl,(Ab _ _).trans q⟩
 ·clear hb;generalize m.length=l at *;by_cases h0:l=0
  ·rw [Ak (Or.inr h0)];subst h0;clear hl hc;go_enter Tryz.func76,Tryz.ntmps76
   go_wp2_with (go_at_call 53;refine (HM.o _ (Ab _ _)).mono ?_;rintro e w1 ⟨rfl,q⟩;obtain ⟨_,c0,c1,c2,_⟩:=((Bz _ _ _ _).kept q).facts)
   go_ret;exact ⟨rfl,(Ab _ _).trans q⟩
  ·rw [Af (by rintro (h | h);exact absurd h (by decide);exact h0 h)];have e0:(((l:Nat):Int)==0)=false:=by rw [Ek];omega
   have HL:=Ad h0;clear h0
   cases neg<;>(
    go_enter Tryz.func76,Tryz.ntmps76
    go_wp2_with (go_at_call 53;refine (HM.o _ (Ab _ _)).mono ?_;rintro e w1 ⟨rfl,q⟩;obtain ⟨_,c0,c1,c2,_⟩:=((Bz _ _ _ _).kept q).facts)
    go_ret;exact ⟨rfl,(Ab _ _).trans q⟩)
def RetD (r:Raw) (w:World) (e:Ending) (w':World):Prop:=Kept w w'/\∃ v,e=.returned v/\DyR w' v r
theorem Ud (hv:DyR w v r)(hl:r.m.length<=1000000) :
 Calls Tryz.prog 181 #[v] w (RetD r w):=by
 obtain ⟨neg,m,e⟩:=r;obtain ⟨s,rfl,hs,h1,h2⟩:=hv;simp only at hs h1 h2 hl ⊢;have hm:=λw1 (k:Kept w w1)=>Yb (hs.kept k) hl
 obtain ⟨_,A,c,rfl,hc,_⟩:=hs;have HM:=Ad hm;clear hm hl hc;go_enter Tryz.func181,Tryz.ntmps181
 go_wp2_with (go_at_call 81;refine (HM.o _ ((Ab _ _).trans (Ab _ _))).mono ?_;rintro e w1 ⟨u,rfl,hu,q⟩;obtain ⟨_,A',c',rfl,_⟩:=id hu;have HU:=Ad hu;clear hu;have b0:=(Bl (Bz _ _ _ _) _).kept q;have b1:=(Em _ _ _ _ _).kept q;obtain ⟨_,c0,c1,c2,f0,f1,f2⟩:=b0.facts;obtain ⟨_,d0,d1,d2,g0,g1,g2⟩:=b1.facts)
 have hd:=HU.o.setCell c1 (Ag _ _ _) (.slice A' m.length c');have b3:Blk (w1.setCell ⟨w.heap.size,1,none⟩ (.slice A' m.length c')) (w.heap.size+1) (.bool false) (.slice none 0 0) (.int .i64 0):=Bh (b:=w.heap.size+1) (b':=w.heap.size) b1 (by omega) _;refine Ct (Blk.laid (b:=w.heap.size+1) b3 _ _ _) rfl rfl rfl ⟨?_,_,rfl,_,rfl,hd.dyW b3 (Ah _) (Ag _ _ _) (Aj _),h1,h2⟩;exact Au ((((Ab _ _).trans (Ab _ _)).trans q).setCell (Aq _) _) (Nat.le_succ _)
def ni (r:Raw):Raw:=if Io r=true/\0<r.m.length then ⟨!r.neg,r.m,r.e⟩ else r
theorem Yf (hv:DyR w v r)(hl:r.m.length<=1000000) :
 Calls Tryz.prog 139 #[v] w (RetD (ni r) w):=by
 have hm:=λw1 (k:Kept w w1)=>Ud (hv.kept k) hl
 have hmay:=λw1 v1 (h:DyR w1 v1 r)=>Od h (by omega)
 obtain ⟨neg,m,e⟩:=r;obtain ⟨s,rfl,hs,h1,h2⟩:=hv;simp only at hs h1 h2 hl ⊢;obtain ⟨_,A,c,rfl,hc,_⟩:=hs;have HM:=Ad hm;have HY:=Ad hmay;clear hm hmay hl hc;unfold ni;simp only;generalize hb:Io ⟨neg,m,e⟩=bm at *;have hnot:∀ (x:Bool) (w:World),(Op.unary .not (.bool x)).run Tryz.prog w=.ok (.bool (!x)) w:=λ_ _=>rfl
 cases bm
 ·rw [Af (by rintro ⟨h,_⟩;cases h)];clear hb;go_enter Tryz.func139,Tryz.ntmps139
  go_wp2_with (first
   | (go_at_call 181;refine (HM.o _ ((Ab _ _).trans (Ab _ _))).mono ?_;rintro e w1 ⟨q,u,rfl,⟨s',rfl,hu,h3,h4⟩⟩;simp only at hu h3 h4;obtain ⟨_,A',c',rfl,_⟩:=id hu;have HU:=Ad hu;clear hu;have b0:=(Bl (Bz _ _ _ _) _).kept q;have b1:=(Em _ _ _ _ _).kept q;obtain ⟨_,c0,c1,c2,f0,f1,f2⟩:=b0.facts;obtain ⟨_,d0,d1,d2,g0,g1,g2⟩:=b1.facts)
   | (go_at_call 53;have HB:=Ad b0;have HD:=Ad b1;have HQ:=Ad q;clear c0 c1 c2 f0 f1 f2 d0 d1 d2 g0 g1 g2 b0 b1 q;refine (HY.o (dyW w1 w.heap.size (.bool neg) (.slice A' m.length c') (.int .i64 e)) _ ⟨_,rfl,HU.o.dyW HB.o (Ah _) (Ag _ _ _) (Aj _),h3,h4⟩).mono ?_;rintro e w2 ⟨rfl,q2⟩;have b2:=(Blk.laid HB.o (.bool neg) (.slice A' m.length c') (.int .i64 e)).kept q2;have b3:=(Blk.laid_other (b':=w.heap.size) HD.o (by omega) (.bool neg) (.slice A' m.length c') (.int .i64 e)).kept q2;obtain ⟨_,c0,c1,c2,f0,f1,f2⟩:=b2.facts;obtain ⟨_,d0,d1,d2,g0,g1,g2⟩:=b3.facts))
  refine Ct (Blk.laid (b:=w.heap.size+1) b3 _ _ _) rfl rfl rfl ⟨?_,_,rfl,_,rfl,((HU.o.dyW HB.o (Ah _) (Ag _ _ _) (Aj _)).kept q2).dyW b3 (Ah _) (Ag _ _ _) (Aj _),h1,h2⟩;exact Au ((Au (((Ab _ _).trans (Ab _ _)).trans HQ.o) (Aq _)).trans q2) (Nat.le_succ _)
 ·by_cases h0:m.length=0
  ·rw [Af (by rintro ⟨_,h⟩;omega)];obtain rfl:=G9 h0;clear h0 hb;go_enter Tryz.func139,Tryz.ntmps139
   go_wp2_with (first
    | (go_at_call 181;refine (HM.o _ ((Ab _ _).trans (Ab _ _))).mono ?_;rintro e w1 ⟨q,u,rfl,⟨s',rfl,hu,h3,h4⟩⟩;simp only at hu h3 h4;obtain ⟨_,A',c',rfl,_⟩:=id hu;replace hu:Lim w1 (.slice A' 0 c') []:=hu;have HU:=Ad hu;clear hu;have b0:=(Bl (Bz _ _ _ _) _).kept q;have b1:=(Em _ _ _ _ _).kept q;obtain ⟨_,c0,c1,c2,f0,f1,f2⟩:=b0.facts;obtain ⟨_,d0,d1,d2,g0,g1,g2⟩:=b1.facts)
    | (go_at_call 53;have HB:=Ad b0;have HD:=Ad b1;have HQ:=Ad q;clear c0 c1 c2 f0 f1 f2 d0 d1 d2 g0 g1 g2 b0 b1 q;refine (HY.o (dyW w1 w.heap.size (.bool neg) (.slice A' 0 c') (.int .i64 e)) _ ⟨_,rfl,HU.o.dyW HB.o (Ah _) (Ag _ _ _) (Aj _),h3,h4⟩).mono ?_;rintro e w2 ⟨rfl,q2⟩;have b2:=(Blk.laid HB.o (.bool neg) (.slice A' 0 c') (.int .i64 e)).kept q2;have b3:=(Blk.laid_other (b':=w.heap.size) HD.o (by omega) (.bool neg) (.slice A' 0 c') (.int .i64 e)).kept q2;obtain ⟨_,c0,c1,c2,f0,f1,f2⟩:=b2.facts;obtain ⟨_,d0,d1,d2,g0,g1,g2⟩:=b3.facts))
   refine Ct (Blk.laid (b:=w.heap.size+1) b3 _ _ _) rfl rfl rfl ⟨?_,_,rfl,_,rfl,((HU.o.dyW HB.o (Ah _) (Ag _ _ _) (Aj _)).kept q2).dyW b3 (Ah _) (Ag _ _ _) (Aj _),h1,h2⟩;exact Au ((Au (((Ab _ _).trans (Ab _ _)).trans HQ.o) (Aq _)).trans q2) (Nat.le_succ _)
  ·rw [Ak ⟨rfl,by omega⟩];obtain ⟨l,hml⟩:∃ l,m.length=l:=⟨_,rfl⟩;rw [hml] at h0 HM;have hl0:0<l:=by omega
   clear h0 hb;go_enter Tryz.func139,Tryz.ntmps139
   go_wp2_with (first
   | (go_at_call 181;refine (HM.o _ ((Ab _ _).trans (Ab _ _))).mono ?_;rintro e w1 ⟨q,u,rfl,⟨s',rfl,hu,h3,h4⟩⟩;simp only at hu h3 h4;obtain ⟨_,A',c',rfl,_⟩:=id hu;rw [hml] at hu;have HU:=Ad hu;clear hu;have b0:=(Bl (Bz _ _ _ _) _).kept q;have b1:=(Em _ _ _ _ _).kept q;obtain ⟨_,c0,c1,c2,f0,f1,f2⟩:=b0.facts;obtain ⟨_,d0,d1,d2,g0,g1,g2⟩:=b1.facts)
   | (go_at_call 53;have HB:=Ad b0;have HD:=Ad b1;have HQ:=Ad q;clear c0 c1 c2 f0 f1 f2 d0 d1 d2 g0 g1 g2 b0 b1 q;refine (HY.o (dyW w1 w.heap.size (.bool neg) (.slice A' l c') (.int .i64 e)) _ ⟨_,rfl,HU.o.dyW HB.o (Ah _) (Ag _ _ _) (Aj _),h3,h4⟩).mono ?_;rintro e w2 ⟨rfl,q2⟩;have b2:=(Blk.laid HB.o (.bool neg) (.slice A' l c') (.int .i64 e)).kept q2;have b3:=(Blk.laid_other (b':=w.heap.size) HD.o (by omega) (.bool neg) (.slice A' l c') (.int .i64 e)).kept q2;obtain ⟨_,c0,c1,c2,f0,f1,f2⟩:=b2.facts;obtain ⟨_,d0,d1,d2,g0,g1,g2⟩:=b3.facts))
   have b4:Blk (w2.setCell ⟨w.heap.size,0,none⟩ (.bool !neg)) (w.heap.size+1) (.bool false) (.slice none 0 0) (.int .i64 0):=Bh (b:=w.heap.size+1) (b':=w.heap.size) b3 (by omega) _;have hd:=((HU.o.dyW HB.o (Ah _) (Ag _ _ _) (Aj _)).kept q2).setCell c0 (Ah _) (.bool !neg);refine Ct (Blk.laid (b:=w.heap.size+1) b4 _ _ _) rfl rfl rfl ⟨?_,_,rfl,_,rfl,hd.dyW b4 (Ah _) (Ag _ _ _) (Aj _),h1,h2⟩;exact Au (((Au (((Ab _ _).trans (Ab _ _)).trans HQ.o) (Aq _)).trans q2).setCell (Aq _) _) (Nat.le_succ _)
def aB (T:TypeId) (b:Bool) (k:Int):Ending:=match b with | true=>.returned (.tuple #[]) | false=>.panicked (By T k)
theorem I3 (b:Bool)(k:Int)(w:World):Calls Tryz.prog 118 #[.bool b,.int .i64 k] w λe w'=>e=aB 129 b k/\w=w':=by
 cases b
 ·exact jQ k w
 ·exact nf k w
theorem Blk.drewN (h:Blk w b x y z)(n:Nat):Blk (w.drewN n) b x y z:=h
theorem DyR.shape (h:DyR w v r) :
 ∃ A l c,v=.agg #[.bool r.neg,.slice A l c,.int .i64 r.e]/\l=r.m.length/\Lim w (.slice A l c) r.m/\-9223372036854775808<=r.e/\r.e<=9223372036854775807:=by
 obtain ⟨s,rfl,hs,h1,h2⟩:=h;obtain ⟨_,A,c,rfl,_⟩:=id hs;exact ⟨A,_,c,rfl,rfl,hs,h1,h2⟩
theorem Lim.shape (h:Lim w v xs):∃ A l c,v=.slice A l c/\l=xs.length/\Lim w (.slice A l c) xs:=by
 obtain ⟨_,A,c,rfl,_⟩:=id h;exact ⟨A,_,c,rfl,rfl,h⟩
theorem Lim.dyR {l:Nat}(h:Lim w (.slice A l c) r.m)(h1:-9223372036854775808<=r.e)(h2:r.e<=9223372036854775807) :
 DyR w (.agg #[.bool r.neg,.slice A l c,.int .i64 r.e]) r:=⟨_,rfl,h,h1,h2⟩
def Outc.raw (o:Outc Dy):Outc Raw:=⟨o.v.raw,o.k⟩
theorem Ge:dz.raw=rz:=by simp [dz,Dy.raw,rz,Be]
theorem bU (n:Nat)(h:n≠0):tz n<64*(Al n).length:=by
 refine O0 n _ h ?_;have:=Di n;rw [Nat.pow_mul];exact this
theorem jg :
 Calls Tryz.prog 80 #[.bool neg,.slice A 0 c,.int .i64 e] w (J6 129 ⟨rz,0⟩ w):=by
 obtain ⟨_,c0,c1,c2,f0,f1,f2⟩:=(Bz w (.bool false) (.slice none 0 0) (.int .i64 0)).facts;go_enter Tryz.func80,Tryz.ntmps80;go_wp2_with fail;refine Ct (Bz _ _ _ _) rfl rfl rfl ⟨Ab _ _,.inl ⟨rfl,_,rfl,_,rfl,Lim.nil _ _ _,by decide,by decide⟩⟩
theorem fi (hv:Lim w v (Al n))(hl:(Al n).length<=90000)(e1:-9223372036854775808<=e)(e2:e<=9223372036854775807)(hT:Tab w) :
 Calls Tryz.prog 80 #[.bool neg,v,.int .i64 e] w (J6 129 (Ck neg n e).raw w):=by
 obtain ⟨A,l,c,rfl,hll,hv⟩:=hv.shape;by_cases h0:n=0
 ·subst h0;rw [Be] at hll;simp only [List.length_nil] at hll;subst hll;have:(Ck neg 0 e).raw=⟨rz,0⟩:=by simp [Ck,Outc.raw,good,Ge]
  rw [this];exact jg
 ·have hz:=fun w1 (k:Kept w w1)=>fL      (hv.kept k) (by omega) h0 (hT.kept k)
  have hzb:=bU n h0;have hr:=λw1 (k:Kept w w1)=>Ts (hv.kept k) (tz n) (by omega) (by omega)
  have hl0:=Br n h0;have hzb2:tz n<=6400000:=by omega
  rw [<-hll] at hl0;have HZ:=Ad hz;have HR:=Ad hr;unfold Ck;rw [Af h0];clear hz hr hv hzb hll hl hT h0;have hraw:(good (⟨neg,n/2^tz n,e+tz n⟩:Dy)).raw=⟨⟨neg,Al (n/2^tz n),e+tz n⟩,0⟩:=rfl;have hb2:(Wv 2).raw=⟨rz,2⟩:=by rw [Wv,Outc.raw,Ge]
  have hb3:(Wv 3).raw=⟨rz,3⟩:=by rw [Wv,Outc.raw,Ge]
  have HW:=Ad hraw;have HB2:=Ad hb2;have HB3:=Ad hb3;clear hraw hb2 hb3;generalize Al (n/2^tz n)=xs at *;generalize n/2^tz n=n' at *;generalize tz n=z at *;obtain ⟨q,hq⟩:∃ q,xs.length=q:=⟨_,rfl⟩;rw [hq];by_cases h1:64<q
  ·rw [Ak h1,HB2.out];have h1':decide ((q:Int)≤64)=false:=by simp;omega
   clear h1;go_enter Tryz.func80,Tryz.ntmps80
   go_wp2_with (first
    | (go_at_call 116;refine (HZ.o _ (Ab _ _)).mono ?_;rintro e w1 ⟨rfl,qz,rfl⟩)
    | (go_at_call 117;refine (HR.o _ (Kept.drewN (Ab _ _) _)).mono ?_;rintro e w1 ⟨u,rfl,hu,qk⟩;obtain ⟨A',l',c',rfl,hl',hu⟩:=hu.shape;rw [hq] at hl';cases hl';have HU:=Ad hu;clear hu;have b0:=((Bz _ _ _ _).drewN _).kept qk;obtain ⟨_,c0,c1,c2,f0,f1,f2⟩:=b0.facts)
    | (go_at_call 118;refine (I3 _ _ _).mono ?_;rintro e w1 ⟨he,rfl⟩;first | (obtain rfl:e=.returned (.tuple #[]):=he) | (obtain rfl:e=.panicked (By 129 _):=he)))
   exact ⟨rfl,(Kept.drewN (Ab _ _) _).trans qk,.inr ⟨by decide,rfl⟩⟩
  ·rw [Af    h1];have h1':decide ((q:Int)≤64)=true:=by simp;omega
   clear h1;by_cases h2:1048576<e
   ·rw [Ak (Or.inl h2),HB3.out];have h2':decide (e≤1048576)=false:=by simp;omega
    clear h2;go_enter Tryz.func80,Tryz.ntmps80
    go_wp2_with (first
     | (go_at_call 116;refine (HZ.o _ (Ab _ _)).mono ?_;rintro e w1 ⟨rfl,qz,rfl⟩)
     | (go_at_call 117;refine (HR.o _ (Kept.drewN (Ab _ _) _)).mono ?_;rintro e w1 ⟨u,rfl,hu,qk⟩;obtain ⟨A',l',c',rfl,hl',hu⟩:=hu.shape;rw [hq] at hl';cases hl';have HU:=Ad hu;clear hu;have b0:=((Bz _ _ _ _).drewN _).kept qk;obtain ⟨_,c0,c1,c2,f0,f1,f2⟩:=b0.facts)
     | (go_at_call 118;refine (I3 _ _ _).mono ?_;rintro e w1 ⟨he,rfl⟩;first | (obtain rfl:e=.returned (.tuple #[]):=he) | (obtain rfl:e=.panicked (By 129 _):=he)))
    exact ⟨rfl,(Kept.drewN (Ab _ _) _).trans qk,.inr ⟨by decide,rfl⟩⟩
   ·have h2':decide (e≤1048576)=true:=by simp;omega
    by_cases h3:e < -1048576-(z:Int)
    ·rw [Ak (Or.inr h3),HB3.out];have h3':decide (-1048576-(z:Int)≤e)=false:=by simp;omega
     clear h2 h3;go_enter Tryz.func80,Tryz.ntmps80
     go_wp2_with (first
      | (go_at_call 116;refine (HZ.o _ (Ab _ _)).mono ?_;rintro e w1 ⟨rfl,qz,rfl⟩)
      | (go_at_call 117;refine (HR.o _ (Kept.drewN (Ab _ _) _)).mono ?_;rintro e w1 ⟨u,rfl,hu,qk⟩;obtain ⟨A',l',c',rfl,hl',hu⟩:=hu.shape;rw [hq] at hl';cases hl';have HU:=Ad hu;clear hu;have b0:=((Bz _ _ _ _).drewN _).kept qk;obtain ⟨_,c0,c1,c2,f0,f1,f2⟩:=b0.facts)
      | (go_at_call 118;refine (I3 _ _ _).mono ?_;rintro e w1 ⟨he,rfl⟩;first | (obtain rfl:e=.returned (.tuple #[]):=he) | (obtain rfl:e=.panicked (By 129 _):=he)))
     exact ⟨rfl,(Kept.drewN (Ab _ _) _).trans qk,.inr ⟨by decide,rfl⟩⟩
    ·have h3':decide (-1048576-(z:Int)≤e)=true:=by simp;omega
     rw [Af (by omega)];have hez1:-9223372036854775808<=e+(z:Int):=by omega
     have hez2:e+(z:Int)<=9223372036854775807:=by omega
     by_cases h4:1048576<e+(z:Int)
     ·rw [Ak h4,HB3.out];have h4':decide (e+(z:Int)≤1048576)=false:=by simp;omega
      clear h4;go_enter Tryz.func80,Tryz.ntmps80
      go_wp2_with (first
       | (go_at_call 116;refine (HZ.o _ (Ab _ _)).mono ?_;rintro e w1 ⟨rfl,qz,rfl⟩)
       | (go_at_call 117;refine (HR.o _ (Kept.drewN (Ab _ _) _)).mono ?_;rintro e w1 ⟨u,rfl,hu,qk⟩;obtain ⟨A',l',c',rfl,hl',hu⟩:=hu.shape;rw [hq] at hl';cases hl';have HU:=Ad hu;clear hu;have b0:=((Bz _ _ _ _).drewN _).kept qk;obtain ⟨_,c0,c1,c2,f0,f1,f2⟩:=b0.facts)
       | (go_at_call 118;refine (I3 _ _ _).mono ?_;rintro e w1 ⟨he,rfl⟩;first | (obtain rfl:e=.returned (.tuple #[]):=he) | (obtain rfl:e=.panicked (By 129 _):=he)))
      exact ⟨rfl,(Kept.drewN (Ab _ _) _).trans qk,.inr ⟨by decide,rfl⟩⟩
     ·rw [Af h4,HW.out];have h4':decide (e+(z:Int)≤1048576)=true:=by simp;omega
      clear h4;go_enter Tryz.func80,Tryz.ntmps80
      go_wp2_with (first
       | (go_at_call 116;refine (HZ.o _ (Ab _ _)).mono ?_;rintro e w1 ⟨rfl,qz,rfl⟩)
       | (go_at_call 117;refine (HR.o _ (Kept.drewN (Ab _ _) _)).mono ?_;rintro e w1 ⟨u,rfl,hu,qk⟩;obtain ⟨A',l',c',rfl,hl',hu⟩:=hu.shape;rw [hq] at hl';cases hl';have HU:=Ad hu;clear hu;have b0:=((Bz _ _ _ _).drewN _).kept qk;obtain ⟨_,c0,c1,c2,f0,f1,f2⟩:=b0.facts)
       | (go_at_call 118;refine (I3 _ _ _).mono ?_;rintro e w1 ⟨he,rfl⟩;first | (obtain rfl:e=.returned (.tuple #[]):=he) | (obtain rfl:e=.panicked (By 129 _):=he)))
      refine Ct (Blk.laid b0 _ _ _) rfl rfl rfl ⟨Au ((Kept.drewN (Ab _ _) _).trans qk) (Aq _),.inl ⟨rfl,_,rfl,(HU.o.dyW b0 (Ah _) (Ag _ _ _) (Aj _)).dyR (r:=⟨neg,xs,e+z⟩) hez1 hez2⟩⟩
theorem pM (hv:Lim w v (Al n))(hl:(Al n).length<=90000)(e1:-9223372036854775808<=e)(e2:e<=9223372036854775807)(hT:Tab w)
 (c0:w.cell? ⟨b0,0,none⟩=some (.bool neg)) (c1:w.cell? ⟨b1,0,none⟩=some v) (c2:w.cell? ⟨b2,0,none⟩=some (.int .i64 e)) :
 Calls Tryz.prog 79 #[.pointer (some ⟨b0,0,none⟩),.pointer (some ⟨b1,0,none⟩),.pointer (some ⟨b2,0,none⟩)] w (J6 129 (Ck neg n e).raw w):=by
 have hf:=λw1 (k:Kept w w1)=>fi (neg:=neg) (hv.kept k) hl e1 e2 (hT.kept k)
 have l0:=Av c0;have l1:=Av c1;have l2:=Av c2;simp only at l0 l1 l2;have HF:=Ad hf;obtain ⟨A,l,c,rfl,hll,hv⟩:=hv.shape;clear hf hv hll hl hT;generalize Ck neg n e=o at *;go_enter Tryz.func79,Tryz.ntmps79;go_wp2_with fail;refine (HF.o _ (Ab _ _)).mono ?_;rintro e w1 ⟨qk,⟨h0,u,rfl,hd⟩ | ⟨h0,rfl⟩⟩
 ·obtain ⟨A',l',c',rfl,-,hd,g1,g2⟩:=hd.shape;have b0:=(Bz _ _ _ _).kept qk;obtain ⟨_,c0,c1,c2,f0,f1,f2⟩:=b0.facts;have HD:=Ad hd;clear hd;simp only [];go_wp2_with fail;exact Ct (Blk.laid b0 _ _ _) rfl rfl rfl ⟨Au ((Ab _ _).trans qk) (Aq _),.inl ⟨h0,_,rfl,(HD.o.dyW b0 (Ah _) (Ag _ _ _) (Aj _)).dyR g1 g2⟩⟩
 ·exact ⟨rfl,(Ab _ _).trans qk,.inr ⟨h0,rfl⟩⟩
theorem jX (w:World)(x:Value)(T:TypeId):(w.alloc (.cells #[x] T)).cell? ⟨w.heap.size,0,none⟩=some x:=Ae (heap_alloc_new _ _) 0 _ rfl
theorem nj (w:World)(o:Obj)(x:Value)(T:TypeId):((w.alloc o).alloc (.cells #[x] T)).cell? ⟨w.heap.size+1,0,none⟩=some x:=by
 have:=jX (w.alloc o) x T;simp only [World.size_alloc] at this;exact this
theorem nk (w:World)(o o':Obj)(x:Value)(T:TypeId):(((w.alloc o).alloc o').alloc (.cells #[x] T)).cell? ⟨w.heap.size+1+1,0,none⟩=some x:=by
 have:=jX ((w.alloc o).alloc o') x T;simp only [World.size_alloc] at this;exact this
theorem T6 (w:World)(o o' o'':Obj)(x y z:Value):Blk ((((w.alloc o).alloc o').alloc o'').alloc (.cells #[x,y,z] 28)) (w.heap.size+1+1+1) x y z:=by
 have:=Bz (((w.alloc o).alloc o').alloc o'') x y z;simp only [World.size_alloc] at this;exact this
theorem An (k:Kept w w1)(h:w.cell? ⟨b,0,none⟩=some x):w1.cell? ⟨b,0,none⟩=some x:=(k.cell (p:=⟨b,0,none⟩) (Av h)).trans h
theorem je (neg:Bool)(n:Nat)(e:Int):(Ck neg n e).raw.k≠0->(Ck neg n e).raw.v=rz:=by
 intro h;rw [Outc.raw] at h ⊢;rw [(E6 neg n e).2 h,Ge]
theorem ou (hv:Lim w v (Al n))(hl:(Al n).length<=90000)(e1:-9223372036854775808<=e)(e2:e<=9223372036854775807)(hT:Tab w) :
 Calls Tryz.prog 41 #[.bool neg,v,.int .i64 e] w (RetE (Ck neg n e).raw w):=by
 have hmf:=Hf;have hf:=λ(W:World) (k:Kept w W) (H:Nat) (c0:W.cell? ⟨H,0,none⟩=some (.bool neg)) (c1:W.cell? ⟨H+1,0,none⟩=some v) (c2:W.cell? ⟨H+1+1,0,none⟩=some (.int .i64 e)) =>
  cS (w:=W) (K:=79) (cap:=#[.pointer (some ⟨H,0,none⟩),.pointer (some ⟨H+1,0,none⟩),.pointer (some ⟨H+1+1,0,none⟩)])
   (λW1 k1=>pM (neg:=neg) (hv.kept (k.trans k1)) hl e1 e2 (hT.kept (k.trans k1)) (An k1 c0) (An k1 c1) (An k1 c2)) (je neg n e) (λ_=>rfl)
 have HF:=Ad hf;obtain ⟨A,l,c,rfl,hll,hv⟩:=hv.shape;clear hf hv hll hl hT;generalize Ck neg n e=o at *;go_enter Tryz.func41,Tryz.ntmps41;go_wp2_with fail;refine (HF.o _ ?k _ ?c0 ?c1 ?c2).mono ?m
 case k=>exact (((Ab _ _).trans (Ab _ _)).trans (Ab _ _)).trans (Ab _ _)
 case c0=>exact An (Ab _ _) (An (Ab _ _) (An (Ab _ _) (jX _ _ _)))
 case c1=>exact An (Ab _ _) (An (Ab _ _) (nj _ _ _ _))
 case c2=>exact An (Ab _ _) (nk _ _ _ _ _)
 case m =>
  rintro e w1 ⟨qk,u,rfl,hd⟩;obtain ⟨A',l',c',rfl,-,hd,g1,g2⟩:=hd.shape;have b0:=(T6 _ _ _ _ _ _ _).kept qk;obtain ⟨_,c0,c1,c2,f0,f1,f2⟩:=b0.facts;have HD:=Ad hd;clear hd;simp only [];go_wp2_with fail;exact Fa (Blk.laid b0 _ _ _) rfl rfl rfl ⟨Au (((((Ab _ _).trans (Ab _ _)).trans (Ab _ _)).trans (Ab _ _)).trans qk) (by omega),_,rfl,(HD.o.dyW b0 (Ah _) (Ag _ _ _) (Aj _)).dyR g1 g2⟩
theorem mJ (w:World)(o:Obj)(k:Nat)(hk:k<18446744073709551616):Lim ((w.alloc o).alloc (.cells #[.int .u64 k] 55)) (.slice (some ⟨w.heap.size+1,0,none⟩) 1 1) [k]:=by
 refine ⟨λx hx=>by simp at hx;omega,_,1,rfl,Aq _,λ_=>⟨_,_,rfl,by simp,λi hi=>?_⟩⟩;have:i=0:=by simp at hi;exact hi
 subst this;exact nj w o (.int .u64 k) 55
theorem jY {o:Obj}(hk:k<18446744073709551616) :
 Calls Tryz.prog 42 #[.slice (some ⟨w.heap.size+1,0,none⟩) 1 1] ((w.alloc o).alloc (.cells #[.int .u64 k] 55)) (RetLim (Al k) ((w.alloc o).alloc (.cells #[.int .u64 k] 55))):=by
 have h:=nu (mJ w o k hk) (by simp);have e:Bq [k]=k:=by simp [Bq]
 rwa [e] at h
theorem av (k:Nat)(hk:k<18446744073709551616):(Al k).length<=90000:=by
 have:=Dk k 1 (by simpa using hk);omega
theorem Rv (hk:k<9223372036854775808)(e1:-9223372036854775808<=e)(e2:e<=9223372036854775807)(hT:Tab w) :
 Calls Tryz.prog 20 #[.int .i64 k,.int .i64 e] w (RetE (Ck false k e).raw w):=by
 have hw:IntKind.u64.wrap (k:Int)=k:=by simp [IntKind.wrap_u64];omega
 have hf:=λW v (k1:Kept w W) (hv:Lim W v (Al k))=>ou (neg:=false) hv (av k (by omega)) e1 e2 (hT.kept k1)
 have hlt:decide ((k:Int)<0)=false:=by simp
 have HK:=Ad hk;have HF:=Ad hf;clear hk hf hT e1 e2;generalize Ck false k e=o at *;go_enter Tryz.func20,Tryz.ntmps20
 go_wp2_with (first
  | (go_at_call 42;refine (jY (by have:=HK.o;omega)).mono ?_;rintro e w1 ⟨u,rfl,hu,qk⟩;have HU:=Ad hu;clear hu)
  | (go_at_call 41;refine (HF.o _ _ (((Ab _ _).trans (Ab _ _)).trans qk) HU.o).mono ?_;rintro e w2 ⟨qk2,u,rfl,hd⟩;obtain ⟨A',l',c',rfl,-,hd,g1,g2⟩:=hd.shape;have b0:=((Bl (Bz _ _ _ _) _).kept qk).kept qk2;obtain ⟨_,c0,c1,c2,f0,f1,f2⟩:=b0.facts;have HD:=Ad hd;clear hd))
 exact Fa (Blk.laid b0 _ _ _) rfl rfl rfl ⟨Au ((((Ab _ _).trans (Ab _ _)).trans qk).trans qk2) (Aq _),_,rfl,(HD.o.dyW b0 (Ah _) (Ag _ _ _) (Aj _)).dyR g1 g2⟩
def So (a b:Raw) (o:Outc Raw):Outc Raw:=if Io a&&Io b then o else ⟨rz,1⟩
theorem qF {a b:Raw}{o:Outc Raw}{K:Nat}(ha:DyR w va a)(hb:DyR w vb b)(la:a.m.length<=17592186044416)(lb:b.m.length<=17592186044416)
 (h:∀ W,Kept w W->Io a=true->Io b=true->Calls Tryz.prog K #[va,vb] W (J6 129 o W))
 (hk:∀ w,(callFunc K #[va,vb]).run Tryz.prog w=.ok (.enter K #[va,vb]) w)
 (h0:∃ x y z,va=.agg #[x,y,z]/\Blk w b0 x y z) (h1:∃ x y z,vb=.agg #[x,y,z]/\Blk w b1 x y z) (h2:w.cell? ⟨b2,0,none⟩=some (.func (.func K) #[] #[])) :
 Calls Tryz.prog 198 #[.pointer (some ⟨b0,0,none⟩),.pointer (some ⟨b1,0,none⟩),.pointer (some ⟨b2,0,none⟩)] w (J6 129 (So a b o) w):=by
 have hma:=λw1 (k:Kept w w1)=>Od (ha.kept k) la
 have hmb:=λw1 (k:Kept w w1)=>Od (hb.kept k) lb
 obtain ⟨x,y,z,rfl,h0⟩:=h0;obtain ⟨x',y',z',rfl,h1⟩:=h1;unfold So;clear ha hb la lb;have HA:=Ad hma;have HB:=Ad hmb;have HH:=Ad h;have HK:=Ad hk;have H0:=Ad h0;have H1:=Ad h1;have H2:=Ad h2;obtain ⟨l0,c0,c1,c2,-⟩:=h0.facts;obtain ⟨l1,d0,d1,d2,-⟩:=h1.facts;have l2:=Av h2;simp only at l2;clear hma hmb h hk h0 h1;cases hba:Io a
 ·rw [Af (by simp)];rw [hba] at HA;go_enter Tryz.func198,Tryz.ntmps198
  go_wp2_with (first
   | (go_at_call 53;refine (HA.o _ (Ab _ _)).mono ?_;rintro e w1 ⟨rfl,qk⟩)
   | (go_at_call 118;refine (I3 _ _ _).mono ?_;rintro e w1 ⟨he,rfl⟩;first | (obtain rfl:e=.returned (.tuple #[]):=he) | (obtain rfl:e=.panicked (By 129 _):=he)))
  exact ⟨rfl,(Ab _ _).trans qk,.inr ⟨by decide,rfl⟩⟩
 ·rw [hba] at HA;cases hbb:Io b
  ·rw [Af (by simp)];rw [hbb] at HB;go_enter Tryz.func198,Tryz.ntmps198;go_wp2_with fail;refine (HA.o _ (Ab _ _)).mono ?_;rintro e w1 ⟨rfl,qk⟩;obtain ⟨-,d0,d1,d2,-⟩:=(H1.o.kept ((Ab _ _).trans qk)).facts;simp only [];go_wp2_with fail;refine (HB.o _ ((Ab _ _).trans qk)).mono ?_;rintro e w2 ⟨rfl,qk2⟩;simp only [];go_wp2_with fail;refine (I3 _ _ _).mono ?_;rintro e w3 ⟨he,rfl⟩;obtain rfl:e=.panicked (By 129 _):=he;exact ⟨rfl,((Ab _ _).trans qk).trans qk2,.inr ⟨by decide,rfl⟩⟩
  ·rw [Ak (by simp)];rw [hbb] at HB;go_enter Tryz.func198,Tryz.ntmps198;go_wp2_with fail;refine (HA.out _ (Ab _ _)).mono ?_;rintro e w1 ⟨rfl,qk⟩;obtain ⟨-,d0,d1,d2,-⟩:=(H1.out.kept ((Ab _ _).trans qk)).facts;simp only [];go_wp2_with fail;refine (HB.out _ ((Ab _ _).trans qk)).mono ?_;rintro e w2 ⟨rfl,qk2⟩;clear d0 d1 d2 c0 c1 c2;have k2:=((Ab w _).trans qk).trans qk2;obtain ⟨-,d0,d1,d2,-⟩:=(H1.out.kept k2).facts;obtain ⟨-,c0,c1,c2,-⟩:=(H0.out.kept k2).facts;have cf:=An k2 H2.out;simp only []
   go_wp2_with (go_at_call 118;refine (I3 _ _ _).mono ?_;rintro e w3 ⟨he,rfl⟩;obtain rfl:e=.returned (.tuple #[]):=he;have hk:=HK.o)
   refine (HH.o _ k2 hba hbb).mono ?_;rintro e w3 ⟨q3,⟨g0,u,rfl,hd⟩ | ⟨g0,rfl⟩⟩
   ·obtain ⟨A',l',c',rfl,-,hd,g1,g2⟩:=hd.shape;have r0:=(((Bz _ _ _ _).kept qk).kept qk2).kept q3;clear d0 d1 d2 c0 c1 c2;obtain ⟨_,c0,c1,c2,f0,f1,f2⟩:=r0.facts;have HD:=Ad hd;clear hd;simp only [];go_wp2_with fail;exact Ct (Blk.laid r0 _ _ _) rfl rfl rfl ⟨Au (k2.trans q3) (Aq _),.inl ⟨g0,_,rfl,(HD.o.dyW r0 (Ah _) (Ag _ _ _) (Aj _)).dyR g1 g2⟩⟩
   ·exact ⟨rfl,k2.trans q3,.inr ⟨g0,rfl⟩⟩
theorem lk {a b:Raw}{o:Outc Raw}(hz:o.k≠0->o.v=rz):(So a b o).k≠0->(So a b o).v=rz:=by
 unfold So;split
 ·exact hz
 ·intro _;rfl
theorem ll {a b:Raw}{o:Outc Raw}{K:Nat}(ha:DyR w va a)(hb:DyR w vb b)(la:a.m.length<=17592186044416)(lb:b.m.length<=17592186044416)
 (h:∀ W,Kept w W->Io a=true->Io b=true->Calls Tryz.prog K #[va,vb] W (J6 129 o W)) (hz:o.k≠0->o.v=rz)
 (hk:∀ w,(callFunc K #[va,vb]).run Tryz.prog w=.ok (.enter K #[va,vb]) w) :
 Calls Tryz.prog 176 #[va,vb,.func (.func K) #[] #[]] w (RetE (So a b o) w):=by
 have hmf:=Hf;have hf:=λ(W:World) (k:Kept w W) (H:Nat) (c0:∃ x y z,va=.agg #[x,y,z]/\Blk W H x y z) (c1:∃ x y z,vb=.agg #[x,y,z]/\Blk W (H+1) x y z) (c2:W.cell? ⟨H+1+1,0,none⟩=some (.func (.func K) #[] #[])) =>
  cS (w:=W) (K:=198) (cap:=#[.pointer (some ⟨H,0,none⟩),.pointer (some ⟨H+1,0,none⟩),.pointer (some ⟨H+1+1,0,none⟩)])
   (λW1 k1=>qF (ha.kept (k.trans k1)) (hb.kept (k.trans k1)) la lb (λW2 k2=>h W2 ((k.trans k1).trans k2)) hk (by obtain ⟨x,y,z,e,h⟩:=c0;exact ⟨x,y,z,e,h.kept k1⟩) (by obtain ⟨x,y,z,e,h⟩:=c1;exact ⟨x,y,z,e,h.kept k1⟩) (An k1 c2))
   (lk hz) (λ_=>rfl)
 have HF:=Ad hf;clear hf h hk hz la lb;generalize So a b o=o' at *;obtain ⟨A,l,c,rfl,-,-,-,-⟩:=ha.shape;obtain ⟨A2,l2,c2,rfl,-,-,-,-⟩:=hb.shape;clear ha hb;generalize a.neg=n1,a.e=e1,b.neg=n2,b.e=e2 at *;go_enter Tryz.func176,Tryz.ntmps176;go_wp2_with fail;refine (HF.o _ ?k _ ?c0 ?c1 ?c2).mono ?m
 case k=>exact (((Ab _ _).trans (Ab _ _)).trans (Ab _ _)).trans (Ab _ _)
 case c0=>exact ⟨_,_,_,rfl,Bl (Bl (Bl (Bz _ _ _ _) _) _) _⟩
 case c1=>exact ⟨_,_,_,rfl,Bl (Bl (Em _ _ _ _ _) _) _⟩
 case c2=>exact An (Ab _ _) (nk _ _ _ _ _)
 case m =>
  rintro e w1 ⟨qk,u,rfl,hd⟩;obtain ⟨A',l',c',rfl,-,hd,g1,g2⟩:=hd.shape;have b0:=(T6 _ _ _ _ _ _ _).kept qk;obtain ⟨_,c0,c1,c2,f0,f1,f2⟩:=b0.facts;have HD:=Ad hd;clear hd;simp only [];go_wp2_with fail;exact Fa (Blk.laid b0 _ _ _) rfl rfl rfl ⟨Au (((((Ab _ _).trans (Ab _ _)).trans (Ab _ _)).trans (Ab _ _)).trans qk) (by omega),_,rfl,(HD.o.dyW b0 (Ah _) (Ag _ _ _) (Aj _)).dyR g1 g2⟩
structure KX (W:World) (b:Nat) (w':World):Prop where
 os:w'.os=W.os
 tape:w'.tape=W.tape
 output:w'.output=W.output
 size:W.heap.size<=w'.heap.size
 block:∀ k,k<W.heap.size->k≠b->w'.heap[k]?=W.heap[k]?
 blk:∃ x y z,Blk w' b x y z/\Bv x/\Bv y/\Bv z
theorem KX.start (h:Blk W b x y z)(hx:Bv x)(hy:Bv y)(hz:Bv z):KX W b W.drew :=
 ⟨rfl,rfl,rfl,Aq _,λ_ _ _=>rfl,x,y,z,h,hx,hy,hz⟩
theorem KX.step (h:KX W b w')(k:Kept w' w1):KX W b w1:=by
 refine ⟨k.os.trans h.os,k.tape.trans h.tape,k.output.trans h.output,Bp h.size k.size,λi hi hb=>(k.block i (Dn hi h.size)).trans (h.block i hi hb),?_⟩;obtain ⟨x,y,z,hb,h1,h2,h3⟩:=h.blk;exact ⟨x,y,z,hb.kept k,h1,h2,h3⟩
theorem KX.store (h:KX W b w')(hx:Bv x)(hy:Bv y)(hz:Bv z):KX W b (dyW w' b x y z):=by
 refine ⟨h.os,h.tape,h.output,by simpa [dyW,World.setCell] using h.size,λi hi hb=>?_,?_⟩
 ·unfold dyW;rw [Below.heap_setCell _ _ _ _ hb,Below.heap_setCell _ _ _ _ hb,Below.heap_setCell _ _ _ _ hb];exact h.block i hi hb
 ·obtain ⟨x',y',z',hb,_⟩:=h.blk;exact ⟨x,y,z,hb.laid _ _ _,hx,hy,hz⟩
theorem KX.other (k:KX W b w')(h:Blk W b' x y z)(hne:¬b'=b):Blk w' b' x y z :=
 (k.block b' (Bi h).1 hne).trans h
theorem KX.lim (k:KX W b w')(h0:Blk W b x y z)(hx:Bv x)(hy:Bv y)(hz:Bv z)(h:Lim W s xs):Lim w' s xs:=by
 obtain ⟨hsm,A,c,rfl,hc,hA⟩:=h;refine ⟨hsm,A,c,rfl,hc,λhp=>?_⟩;obtain ⟨b1,off,rfl,hb,hcell⟩:=hA hp;have n2:¬b1=b:=by
  rintro rfl;have h5:=hcell 0 hp;simp only [World.cell?,show W.heap[b1]?=_ from h0] at h5;rcases off with _ | _ | _ | off
  ·simp at h5;exact hx _ h5
  ·simp at h5;exact hy _ h5
  ·simp at h5;exact hz _ h5
  ·simp at h5
 refine ⟨b1,off,rfl,Dn hb k.size,λi hi=>?_⟩;rw [<-hcell i hi];exact World.cell?_of_block (k.block b1 hb n2)
theorem KX.kept (k:KX W b w')(h:Kept w W)(hb:w.heap.size<=b):Kept w w' :=
 ⟨k.os.trans h.os,k.tape.trans h.tape,k.output.trans h.output,Bp h.size k.size,λi hi=>(k.block i (Dn hi h.size) (by omega)).trans (h.block i hi)⟩
theorem Lw (w:World)(x y z x' y' z':Value):∃ W,W=((w.alloc (.cells #[x,y,z] 28)).alloc (.cells #[x',y',z'] 28)).alloc (.cells #[.bool false,.slice none 0 0,.int .i64 0] 28) /\
 Kept w W/\Blk W w.heap.size x y z/\Blk W (w.heap.size+1) x' y' z'/\Blk W (w.heap.size+1+1) (.bool false) (.slice none 0 0) (.int .i64 0) :=
 ⟨_,rfl,((Ab _ _).trans (Ab _ _)).trans (Ab _ _),Bl (Bl (Bz _ _ _ _) _) _,Bl (Em _ _ _ _ _) _,iF _ _ _ _ _ _⟩
theorem rE (k:KX W b w')(h0:Blk W b0 x y z)(h1:Blk W b1 x' y' z')(n0:¬b0=b)(n1:¬b1=b) :
 KX W b w'/\w'.cell? ⟨b0,0,none⟩=some x/\w'.cell? ⟨b0,1,none⟩=some y/\w'.cell? ⟨b0,2,none⟩=some z/\w'.cell? ⟨b1,0,none⟩=some x'/\w'.cell? ⟨b1,1,none⟩=some y'/\w'.cell? ⟨b1,2,none⟩=some z':=by
 obtain ⟨_,a0,a1,a2,_⟩:=(k.other h0 n0).facts;obtain ⟨_,c0,c1,c2,_⟩:=(k.other h1 n1).facts;exact ⟨k,a0,a1,a2,c0,c1,c2⟩
theorem Wi (n m k l:Nat)(hn:(Al n).length<=k)(hm:(Al m).length<=l):(Al (n*m)).length<=k+l:=by
 refine Dk _ _ ?_;have h1:=Di n;have h2:=Di m;have h3:n<18446744073709551616^k:=Dn h1 (Ee (by decide) hn);have h4:m<18446744073709551616^l:=Dn h2 (Ee (by decide) hm);rw [Nat.pow_add];exact Nat.mul_lt_mul'' h3 h4
theorem pT {x y:Dy}(ha:DyR w va x.raw)(hb:DyR w vb y.raw)(hx:x.Ok)(hy:y.Ok)(hT:Tab w) :
 Calls Tryz.prog 179 #[va,vb] w (J6 129 (Ch x y).raw w):=by
 obtain ⟨A,l,c,rfl,hl,ha,-,-⟩:=ha.shape;obtain ⟨A2,l2,c2,rfl,hl2,hb,-,-⟩:=hb.shape;have lx:=hx.len;have ly:=hy.len;have hm:=λW (ha:Lim W (.slice A l c) (Al x.m)) (hb:Lim W (.slice A2 l2 c2) (Al y.m))=>fE ha hb (by omega) (by omega)
 have hlen:=Wi x.m y.m 64 64 lx ly;have x1:=hx.lo;have x2:=hx.hi;have y1:=hy.lo;have y2:=hy.hi;have hf:=λW v (k:Kept w W) (hv:Lim W v (Al (x.m*y.m)))=>fi (neg:=(x.neg != y.neg)) (e:=x.e+y.e) hv (by omega) (by omega) (by omega) (hT.kept k)
 unfold Ch;have HM:=Ad hm;have HF:=Ad hf;have LA:=Ad ha;have LB:=Ad hb;clear hm hf hT ha hb lx ly hlen hx hy hl hl2;generalize Ck (x.neg != y.neg) (x.m*y.m) (x.e+y.e)=o at *;obtain ⟨nb,hnb⟩:∃ nb,(x.neg != y.neg)=nb:=⟨_,rfl⟩;rw [hnb] at HF;have hnb1:((!x.neg)==y.neg)=nb:=by rw [<-hnb];cases x.neg<;>cases y.neg<;>rfl
 have hnb2:(!(x.neg==y.neg))=nb:=by rw [<-hnb];cases x.neg<;>cases y.neg<;>rfl
 obtain ⟨es,hes⟩:∃ es,x.e+y.e=es:=⟨_,rfl⟩;rw [hes] at HF;have hws:IntKind.i64.wrap (x.e+y.e)=es:=by rw [<-hes];simp [IntKind.wrap_i64];omega
 clear hnb hes x1 x2 y1 y2;generalize Al (x.m*y.m)=xs at *;simp only [Dy.raw] at *;generalize x.neg=n1,x.e=e1,y.neg=n2,y.e=e2 at *;obtain ⟨W,hW,kW,B0,B1,B2⟩:=Lw w (.bool n1) (.slice A l c) (.int .i64 e1) (.bool n2) (.slice A2 l2 c2) (.int .i64 e2);have hS:=λw' (k:KX W (w.heap.size+1+1) w')=>rE k B0 B1 (by omega) (by omega)
 have HS:=Ad hS;have HW:=Ad hW;have HK:=Ad kW;have HB:=Ad B2;clear hS hW kW B0 B1 B2;have hla:=λw' (k:KX W (w.heap.size+1+1) w')=>k.lim HB.o (Ah _) (Ag _ _ _) (Aj _) (LA.o.kept HK.o)
 have hlb:=λw' (k:KX W (w.heap.size+1+1) w')=>k.lim HB.o (Ah _) (Ag _ _ _) (Aj _) (LB.o.kept HK.o)
 have hkk:=λw' (k:KX W (w.heap.size+1+1) w')=>k.kept HK.o (by omega)
 have HLA:=Ad hla;have HLB:=Ad hlb;have HKK:=Ad hkk;clear hla hlb hkk;go_enter Tryz.func179,Tryz.ntmps179;go_wp2_with fail;rw [<-HW.o]
 go_region_held2 (λw'=>KX W (w.heap.size+1+1) w'/\w'.cell? ⟨w.heap.size,0,none⟩=some (.bool n1)/\w'.cell? ⟨w.heap.size,1,none⟩=some (.slice A l c)/\w'.cell? ⟨w.heap.size,2,none⟩=some (.int .i64 e1) /\
  w'.cell? ⟨w.heap.size+1,0,none⟩=some (.bool n2)/\w'.cell? ⟨w.heap.size+1,1,none⟩=some (.slice A2 l2 c2)/\w'.cell? ⟨w.heap.size+1,2,none⟩=some (.int .i64 e2))
  (first | exact HS.o _ (KX.start HB.o (Ah _) (Ag _ _ _) (Aj _)) | exact HS.o _ (KX.step ‹KX _ _ _/\_›.1 qk) | exact HS.o _ (KX.store ‹KX _ _ _/\_›.1 (Ah _) (Ag _ _ _) (Aj _)))
  (first
  | (go_at_call 180;go_must (refine (HM.o _ (HLA.o _ ‹KX _ _ _/\_›.1) (HLB.o _ ‹KX _ _ _/\_›.1)).mono ?_;rintro e w1 ⟨u,rfl,hu,qk⟩;have HU:=Ad hu;clear hu))
  | (go_at_call 80;go_must (refine (HF.o _ _ (HKK.o _ ‹KX _ _ _/\_›.1) HU.o).mono ?_;clear qk;rintro e w2 ⟨qk,⟨ho,u,rfl,hd⟩ | ⟨ho,rfl⟩⟩;rotate_left;exact ⟨rfl,HKK.o _ (KX.step ‹KX _ _ _/\_›.1 qk),.inr ⟨ho,rfl⟩⟩;have HO:=Ad ho;clear ho;obtain ⟨_,_,_,hb2,j0,j1,j2⟩:=(KX.step ‹KX _ _ _/\_›.1 qk).blk;obtain ⟨_,c0,c1,c2,f0,f1,f2⟩:=hb2.facts;have HB2:=Ad hb2;clear hb2;obtain ⟨A',l',c',rfl,-,hd,g1,g2⟩:=hd.shape;have HD:=Ad hd;clear hd)))
 go_wp2_with fail;exact Ct (Blk.laid HB2.o _ _ _) rfl rfl rfl ⟨HKK.o _ ‹KX _ _ _/\_›.1,.inl ⟨HO.o,_,rfl,(HD.o.dyW HB2.o j0 j1 j2).dyR g1 g2⟩⟩
def Ws (w:World) (g:Nat):Prop:=∃ cur e,w.heap[g]?=some (.cells cur e (0,0))/\∀ u∈cur.toList,Bv u
theorem He {z:Array Value}(h:u∈(Builtin.zeroCells z n).toList):u∈z.toList:=by
 simp [Builtin.zeroCells] at h;obtain ⟨a,ha,rfl⟩:=h;have h0:0<z.size:=by
  rcases Nat.eq_zero_or_pos z.size with h | h
  ·rw [h] at ha;omega
  ·exact h
 have hlt:=Nat.mod_lt a h0;rw [getElem!_pos z _ hlt];simp
theorem Kz (w:World)(base:Nat)(t ty e:TypeId)(i:TypeInfo)(z:Value)(size bytes:Nat)(ht:P.underlying t=some (.slice e))(hi:P.info? e=some i)(hz:i.zero=some z)
 (hsize:i.size=size) (hby:i.bytes=bytes) (hzs:z.cells.size=size) (hsz:0<size)
 (v:Value) (n:Nat) (xs:List Value) (hown:w.ownsRow base e size v n xs)
 (a:Addr) (m c:Nat) (news:List Value) (hl:news.length=m*size) (hnews:∀ j u,news[j]?=some u->w.cell? (a.add j)=some u) (h1:∀ u∈news,u.oneCell'=true)
 (h63:n+m<=maxLen) (hbytes:(n+m)*bytes<=140737488355328) (hbase:base<=w.heap.size)
 (hm:0<m) (hxs:∀ u∈xs,Bv u) (hnl:∀ u∈news,Bv u) (hzl:∀ u∈z.cells.toList,Bv u) (hN:∀ g,v.ownBlock=some g->Ws w g) :
 ∃ v' w' g', (Builtin.append_ #[t, t] ty #[v, .slice (some a) m c]).run P w = .ok v' w' ∧ w'.ownsRow base e size v' (n + m) (xs ++ news) ∧ w.grownBy w' v.ownBlock ∧
   v'.ownBlock=some g'/\Ws w' g':=by
 obtain ⟨v',w',hr,h2,h3,h4⟩:=run_append_own (P:=P) w base t ty e i z size bytes ht hi hz hsize hby hzs hsz v n xs hown a m c news hl hnews h1 h63 hbytes hbase;have hown':=hown;subst hsize;subst hby;rcases hown.2 with ⟨rfl,rfl⟩ | ⟨g,cap,cur,rfl,hbg,hg,hnc,hcm,hcs,htake⟩
 ·have hx:xs=[]:=G9 (by simpa using hown.1);subst hx;have hr2:=run_append_nil (P:=P) w t ty e i z ht hi hz a m c news hl hnews (by omega) (by simp only [maxLen] at h63;omega) (by have hb:=hbytes;simp only [Nat.zero_add] at hb;omega);rw [hr2] at hr;injection hr with e1 e2
  subst e1;subst e2;refine ⟨_,_,w.heap.size,hr2,h2,h3,rfl,_,e,heap_alloc_new w.drew _,?_⟩;intro u hu;simp only [Array.toList_append,List.mem_append] at hu;rcases hu with hu | hu
  ·exact hnl u (by simpa using hu)
  ·exact hzl u (He hu)
 ·obtain ⟨cur',e',hg',hcl⟩:=hN g rfl;rw [hg] at hg';obtain ⟨rfl,rfl⟩:cur=cur'∧e=e':=by
   injection hg' with q;injection q with q1 q2;exact ⟨q1,q2⟩
  by_cases hroom:n+m<=cap
  ·have hfit:n*i.size+news.length≤cur.size:=by rw [hl,hcs,←Nat.add_mul];exact Fh _ hroom
   have hr2:=run_append_room (P:=P) w t ty e i ht hi g n cap cur hg a m c news hl hnews h1 hroom hfit;rw [hr2] at hr;injection hr with e1 e2
   subst e1;subst e2;refine ⟨_,_,g,hr2,h2,h3,rfl,_,e,setRow_heap w g cur _ e _ hg,?_⟩;intro u hu;simp only [List.mem_append] at hu;rcases hu with (hu | hu) | hu
   ·exact hcl u (List.mem_of_mem_take hu)
   ·exact hnl u hu
   ·exact hcl u (List.mem_of_mem_drop hu)
  ·have holds:∀ j u,xs[j]?=some u→w.cell? ((⟨g,0,none⟩:Addr).add j)=some u:=hown.cells (g:=g) rfl;have hr2:=run_append_grow (P:=P) w t ty e i z ht hi hz ⟨g,0,none⟩ n cap xs hown.1 holds a m c news hl hnews (by omega) (by simp only [maxLen] at h63;omega) (growslice_fits (by omega) hbytes);rw [hr2] at hr;injection hr with e1 e2
   subst e1;subst e2;refine ⟨_,_,w.heap.size,hr2,h2,h3,rfl,_,e,heap_alloc_new w.drew _,?_⟩;intro u hu;simp only [Array.toList_append,List.mem_append] at hu;rcases hu with (hu | hu) | hu
   ·exact hxs u (by simpa using hu)
   ·exact hnl u (by simpa using hu)
   ·exact hzl u (He hu)
theorem Il (hgd:o.guard=none)(s x:Operand)(t:TypeId)
 (ho:o.op=.call { callee:=.builtin .append,args:=#[s,x],argTypes:=#[t,t] })
 (base:Nat) (e:TypeId) (i:TypeInfo) (z:Value) (size bytes:Nat) (ht:P.underlying t=some (.slice e)) (hi:P.info? e=some i) (hz:i.zero=some z)
 (hsize:i.size=size) (hby:i.bytes=bytes) (hzs:z.cells.size=size) (hsz:0<size)
 (v:Value) (n:Nat) (xs:List Value) (hs:a.eval s=v) (hown:w.ownsRow base e size v n xs)
 (ad:Addr) (m c:Nat) (news:List Value) (hx:a.eval x=.slice (some ad) m c) (hl:news.length=m*size) (hnews:∀ j u,news[j]?=some u->w.cell? (ad.add j)=some u) (h1:∀ u∈news,u.oneCell'=true)
 (h63:n+m<=maxLen) (hbytes:(n+m)*bytes<=140737488355328) (hbase:base<=w.heap.size)
 (hm:0<m) (hxs:∀ u∈xs,Bv u) (hnl:∀ u∈news,Bv u) (hzl:∀ u∈z.cells.toList,Bv u) (hN:∀ g,v.ownBlock=some g->Ws w g)
 (h:∀ v' w' g',w'.ownsRow base e size v' (n+m) (xs++news)->w.grownBy w' v.ownBlock->v'.ownBlock=some g'->Ws w' g'->wpList P ops Q rest (a.put o.dst v') w'):wpList P ops Q (o::rest) a w:=by
 refine wpList_plain hgd λK hK=>?_
 obtain ⟨v',w',g',hr,h2,h3,h4,h5⟩:=Kz (P:=P) w base t o.type e i z size bytes ht hi hz hsize hby hzs hsz v n xs hown ad m c news hl hnews h1 h63 hbytes hbase hm hxs hnl hzl hN;unfold Oper.wp execOp;simp only [ho,resolve,invoke,builtin,Sem.run_bind,Sem.run_pure,Result.andThen_ok,List.map_toArray,List.map_cons,List.map_nil,hs,hx,hr];exact hK _ _ (h v' w' g' h2 h3 h4 h5)
theorem Qa {K:Act->World->Prop}(s x:Operand)(t:TypeId)
 (ho:o.op=.call { callee:=.builtin .append,args:=#[s,x],argTypes:=#[t,t] })
 (base:Nat) (e:TypeId) (i:TypeInfo) (z:Value) (size bytes:Nat) (ht:P.underlying t=some (.slice e)) (hi:P.info? e=some i) (hz:i.zero=some z)
 (hsize:i.size=size) (hby:i.bytes=bytes) (hzs:z.cells.size=size) (hsz:0<size)
 (v:Value) (n:Nat) (xs:List Value) (hs:a.eval s=v) (hown:w.ownsRow base e size v n xs)
 (ad:Addr) (m c:Nat) (news:List Value) (hx:a.eval x=.slice (some ad) m c) (hl:news.length=m*size) (hnews:∀ j u,news[j]?=some u->w.cell? (ad.add j)=some u) (h1:∀ u∈news,u.oneCell'=true)
 (h63:n+m<=maxLen) (hbytes:(n+m)*bytes<=140737488355328) (hbase:base<=w.heap.size)
 (hm:0<m) (hxs:∀ u∈xs,Bv u) (hnl:∀ u∈news,Bv u) (hzl:∀ u∈z.cells.toList,Bv u) (hN:∀ g,v.ownBlock=some g->Ws w g)
 (h:∀ v' w' g',w'.ownsRow base e size v' (n+m) (xs++news)->w.grownBy w' v.ownBlock->v'.ownBlock=some g'->Ws w' g'->K (a.put o.dst v') w'):o.wp P a w K Q:=by
 obtain ⟨v',w',g',hr,h2,h3,h4,h5⟩:=Kz (P:=P) w base t o.type e i z size bytes ht hi hz hsize hby hzs hsz v n xs hown ad m c news hl hnews h1 h63 hbytes hbase hm hxs hnl hzl hN;unfold Oper.wp execOp;simp only [ho,resolve,invoke,builtin,Sem.run_bind,Sem.run_pure,Result.andThen_ok,List.map_toArray,List.map_cons,List.map_nil,hs,hx,hr];exact h v' w' g' h2 h3 h4 h5
def AllC (p:Value->Prop) (w:World) (g:Nat):Prop:=∃ cur e,w.heap[g]?=some (.cells cur e (0,0))/\∀ u∈cur.toList,p u
theorem Ve (w:World)(base:Nat)(t ty e:TypeId)(i:TypeInfo)(z:Value)(size bytes:Nat)(ht:P.underlying t=some (.slice e))(hi:P.info? e=some i)(hz:i.zero=some z)
 (hsize:i.size=size) (hby:i.bytes=bytes) (hzs:z.cells.size=size) (hsz:0<size)
 (v:Value) (n:Nat) (xs:List Value) (hown:w.ownsRow base e size v n xs)
 (a:Addr) (m c:Nat) (news:List Value) (hl:news.length=m*size) (hnews:∀ j u,news[j]?=some u->w.cell? (a.add j)=some u) (h1:∀ u∈news,u.oneCell'=true)
 (h63:n+m<=maxLen) (hbytes:(n+m)*bytes<=140737488355328) (hbase:base<=w.heap.size)
 (hm:0<m) (hxs:∀ u∈xs,p u) (hnl:∀ u∈news,p u) (hzl:∀ u∈z.cells.toList,p u) (hN:∀ g,v.ownBlock=some g->AllC p w g) :
 ∃ v' w' g', (Builtin.append_ #[t, t] ty #[v, .slice (some a) m c]).run P w = .ok v' w' ∧ w'.ownsRow base e size v' (n + m) (xs ++ news) ∧ w.grownBy w' v.ownBlock ∧
   v'.ownBlock=some g'/\AllC p w' g':=by
 obtain ⟨v',w',hr,h2,h3,h4⟩:=run_append_own (P:=P) w base t ty e i z size bytes ht hi hz hsize hby hzs hsz v n xs hown a m c news hl hnews h1 h63 hbytes hbase;have hown':=hown;subst hsize;subst hby;rcases hown.2 with ⟨rfl,rfl⟩ | ⟨g,cap,cur,rfl,hbg,hg,hnc,hcm,hcs,htake⟩
 ·have hx:xs=[]:=G9 (by simpa using hown.1);subst hx;have hr2:=run_append_nil (P:=P) w t ty e i z ht hi hz a m c news hl hnews (by omega) (by simp only [maxLen] at h63;omega) (by have hb:=hbytes;simp only [Nat.zero_add] at hb;omega);rw [hr2] at hr;injection hr with e1 e2
  subst e1;subst e2;refine ⟨_,_,w.heap.size,hr2,h2,h3,rfl,_,e,heap_alloc_new w.drew _,?_⟩;intro u hu;simp only [Array.toList_append,List.mem_append] at hu;rcases hu with hu | hu
  ·exact hnl u (by simpa using hu)
  ·exact hzl u (He hu)
 ·obtain ⟨cur',e',hg',hcl⟩:=hN g rfl;rw [hg] at hg';obtain ⟨rfl,rfl⟩:cur=cur'∧e=e':=by
   injection hg' with q;injection q with q1 q2;exact ⟨q1,q2⟩
  by_cases hroom:n+m<=cap
  ·have hfit:n*i.size+news.length≤cur.size:=by rw [hl,hcs,←Nat.add_mul];exact Fh _ hroom
   have hr2:=run_append_room (P:=P) w t ty e i ht hi g n cap cur hg a m c news hl hnews h1 hroom hfit;rw [hr2] at hr;injection hr with e1 e2
   subst e1;subst e2;refine ⟨_,_,g,hr2,h2,h3,rfl,_,e,setRow_heap w g cur _ e _ hg,?_⟩;intro u hu;simp only [List.mem_append] at hu;rcases hu with (hu | hu) | hu
   ·exact hcl u (List.mem_of_mem_take hu)
   ·exact hnl u hu
   ·exact hcl u (List.mem_of_mem_drop hu)
  ·have holds:∀ j u,xs[j]?=some u→w.cell? ((⟨g,0,none⟩:Addr).add j)=some u:=hown.cells (g:=g) rfl;have hr2:=run_append_grow (P:=P) w t ty e i z ht hi hz ⟨g,0,none⟩ n cap xs hown.1 holds a m c news hl hnews (by omega) (by simp only [maxLen] at h63;omega) (growslice_fits (by omega) hbytes);rw [hr2] at hr;injection hr with e1 e2
   subst e1;subst e2;refine ⟨_,_,w.heap.size,hr2,h2,h3,rfl,_,e,heap_alloc_new w.drew _,?_⟩;intro u hu;simp only [Array.toList_append,List.mem_append] at hu;rcases hu with (hu | hu) | hu
   ·exact hxs u (by simpa using hu)
   ·exact hnl u (by simpa using hu)
   ·exact hzl u (He hu)
theorem Rq (hgd:o.guard=none)(s x:Operand)(t:TypeId)
 (ho:o.op=.call { callee:=.builtin .append,args:=#[s,x],argTypes:=#[t,t] })
 (base:Nat) (e:TypeId) (i:TypeInfo) (z:Value) (size bytes:Nat) (ht:P.underlying t=some (.slice e)) (hi:P.info? e=some i) (hz:i.zero=some z)
 (hsize:i.size=size) (hby:i.bytes=bytes) (hzs:z.cells.size=size) (hsz:0<size)
 (v:Value) (n:Nat) (xs:List Value) (hs:a.eval s=v) (hown:w.ownsRow base e size v n xs)
 (ad:Addr) (m c:Nat) (news:List Value) (hx:a.eval x=.slice (some ad) m c) (hl:news.length=m*size) (hnews:∀ j u,news[j]?=some u->w.cell? (ad.add j)=some u) (h1:∀ u∈news,u.oneCell'=true)
 (h63:n+m<=maxLen) (hbytes:(n+m)*bytes<=140737488355328) (hbase:base<=w.heap.size)
 (hm:0<m) (hxs:∀ u∈xs,p u) (hnl:∀ u∈news,p u) (hzl:∀ u∈z.cells.toList,p u) (hN:∀ g,v.ownBlock=some g->AllC p w g)
 (h:∀ v' w' g',w'.ownsRow base e size v' (n+m) (xs++news)->w.grownBy w' v.ownBlock->v'.ownBlock=some g'->AllC p w' g'->wpList P ops Q rest (a.put o.dst v') w'):wpList P ops Q (o::rest) a w:=by
 refine wpList_plain hgd λK hK=>?_
 obtain ⟨v',w',g',hr,h2,h3,h4,h5⟩:=Ve (P:=P) w base t o.type e i z size bytes ht hi hz hsize hby hzs hsz v n xs hown ad m c news hl hnews h1 h63 hbytes hbase hm hxs hnl hzl hN;unfold Oper.wp execOp;simp only [ho,resolve,invoke,builtin,Sem.run_bind,Sem.run_pure,Result.andThen_ok,List.map_toArray,List.map_cons,List.map_nil,hs,hx,hr];exact hK _ _ (h v' w' g' h2 h3 h4 h5)
end Go.Proofs.YtabjjdicffcolaaGreatDoor
