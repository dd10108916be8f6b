/- Contracts of package expo: side.round, near. -/
import Derived.Test.YtabjjdicffcolaaGreatDoorClaimTbitsp06
import Derived.Test.YtabjjdicffcolaaGreatDoorClaimTbitsp07
import Derived.Test.YtabjjdicffcolaaGreatDoorClaimTbitsp17
import Derived.Test.YtabjjdicffcolaaGreatDoorClaimTbitsp18
import Derived.Test.YtabjjdicffcolaaGreatDoorClaimTbitsp19
import Derived.Deep.CutBlock
set_option maxRecDepth 100000
set_option maxHeartbeats 16000000
namespace Go.Proofs.YtabjjdicffcolaaGreatDoor
open Go.Lib (hid)
open Go.RowKit
def IvR (w:World) (v:Value) (a:RawI):Prop:=∃ x y z x' y' z',v=.agg #[x,y,z,x',y',z']∧DyR w (.agg #[x,y,z]) a.lo∧DyR w (.agg #[x',y',z']) a.hi
theorem IvR.kept {w w':World}{v:Value}{a:RawI}(h:IvR w v a)(k:Kept w w'):IvR w' v a:=by
 obtain ⟨x,y,z,x',y',z',rfl,h1,h2⟩:=h;exact ⟨x,y,z,x',y',z',rfl,h1.kept k,h2.kept k⟩
theorem rawR_split {w:World}{v:Value}{r:Raw}(h:DyR w v r):∃ A l c,v=.agg #[.bool r.neg,.slice A l c,.int .i64 r.e]∧DyR w (.agg #[.bool r.neg,.slice A l c,.int .i64 r.e]) r:=by
 obtain ⟨A,l,c,rfl,-,-,-,-⟩:=h.shape;exact ⟨A,l,c,rfl,h⟩
theorem ivR_split {w:World}{v:Value}{a:RawI}(h:IvR w v a):∃ A l c A' l' c',v=.agg #[.bool a.lo.neg,.slice A l c,.int .i64 a.lo.e,.bool a.hi.neg,.slice A' l' c',.int .i64 a.hi.e] ∧
 DyR w (.agg #[.bool a.lo.neg,.slice A l c,.int .i64 a.lo.e]) a.lo∧DyR w (.agg #[.bool a.hi.neg,.slice A' l' c',.int .i64 a.hi.e]) a.hi:=by
 obtain ⟨x,y,z,x',y',z',rfl,h1,h2⟩:=h;obtain ⟨A,l,c,e1,h1⟩:=rawR_split h1;obtain ⟨A',l',c',e2,h2⟩:=rawR_split h2;injection e1 with e1;injection e1 with e1
 injection e2 with e2;injection e2 with e2
 simp only [List.cons.injEq,and_true] at e1 e2;obtain ⟨rfl,rfl,rfl⟩:=e1;obtain ⟨rfl,rfl,rfl⟩:=e2;exact ⟨A,l,c,A',l',c',rfl,h1,h2⟩
def BlkI (w:World) (b:Nat) (x y z x' y' z':Value):Prop:=w.heap[b]?=some (.cells #[x,y,z,x',y',z'] 30 (0,0))
theorem BlkI.facts {w:World}{b:Nat}{x y z x' y' z':Value}(h:BlkI w b x y z x' y' z'):b<w.heap.size∧w.cell? ⟨b,0,none⟩=some x∧w.cell? ⟨b,1,none⟩=some y∧w.cell? ⟨b,2,none⟩=some z ∧
 w.cell? ⟨b,3,none⟩=some x'∧w.cell? ⟨b,4,none⟩=some y'∧w.cell? ⟨b,5,none⟩=some z' :=
 ⟨(Array.getElem?_eq_some_iff.1 h).1,cell_of_block h 0 _ rfl,cell_of_block h 1 _ rfl,cell_of_block h 2 _ rfl,cell_of_block h 3 _ rfl,cell_of_block h 4 _ rfl,cell_of_block h 5 _ rfl⟩
theorem BlkI.kept {w w1:World}{b:Nat}{x y z x' y' z':Value}(h:BlkI w b x y z x' y' z')(k:Kept w w1):BlkI w1 b x y z x' y' z' :=
 (k.block b (Array.getElem?_eq_some_iff.1 h).1).trans h
theorem blkI_new (w:World)(x y z x' y' z':Value):BlkI (w.alloc (.cells #[x,y,z,x',y',z'] 30)) w.heap.size x y z x' y' z':=heap_alloc_new _ _
def RawI.lens (a:RawI) (k:Nat):Prop:=a.lo.m.length≤k∧a.hi.m.length≤k
theorem box1i (w:World)(x y z x' y' z':Value):∃ W,W=w.alloc (.cells #[x,y,z,x',y',z'] 30)∧Kept w W∧BlkI W w.heap.size x y z x' y' z' :=
 ⟨_,rfl,kept_alloc _ _,blkI_new _ _ _ _ _ _ _⟩
theorem raw_small {w:World}{v:Value}{r:Raw}(h:DyR w v r):Small r.m:=by
 obtain ⟨s,-,hs,-,-⟩:=h;exact hs.1
theorem imay_c {w:World}{v:Value}{a:RawI}(hv:IvR w v a)(hl:a.lens 17592186044416) :
 Calls Tryz.prog 50 #[v] w (RetK (.bool (mayI a)) w):=by
 obtain ⟨A,l,c,A',l',c',rfl,h1,h2⟩:=ivR_split hv;have m1:=fun w1 (k:Kept w w1)=>may_c (h1.kept k) hl.1
 have m2:=fun w1 (k:Kept w w1)=>may_c (h2.kept k) hl.2
 have hc:mayD a.lo=true→mayD a.hi=true→∀ w1,Kept w w1→Calls Tryz.prog 40 #[.agg #[.bool a.lo.neg,.slice A l c,.int .i64 a.lo.e],.agg #[.bool a.hi.neg,.slice A' l' c',.int .i64 a.hi.e]] w1 (RetK (.int .i64 (cmpQ a.lo.dy.q a.hi.dy.q)) w1):=by
  intro d1 d2 w1 k;obtain ⟨e1,o1⟩:=mayD_clean (raw_small h1) d1;obtain ⟨e2,o2⟩:=mayD_clean (raw_small h2) d2;have g1:=h1.kept k;have g2:=h2.kept k;exact dcmp_c (x:=a.lo.dy) (y:=a.hi.dy) (by rw [e1];exact g1) (by rw [e2];exact g2) o1 o2
 unfold mayI;have M1:=hid m1;have M2:=hid m2;have HC:=hid hc;clear m1 m2 hc h1 h2 hv hl;generalize a.lo.neg=n1 at *;generalize a.lo.e=e1 at *;generalize a.hi.neg=n2 at *;generalize a.hi.e=e2 at *;generalize cmpQ a.lo.dy.q a.hi.dy.q=cc at *;generalize mayD a.lo=b1 at *;generalize mayD a.hi=b2 at *;obtain ⟨W,hW,kW,BI⟩:=box1i w (.bool n1) (.slice A l c) (.int .i64 e1) (.bool n2) (.slice A' l' c') (.int .i64 e2);have HW:=hid hW;have HK:=hid kW;have HB:=hid BI;clear hW kW BI;cases b1
 ·rw [Bool.false_and, Bool.false_and]
  go_enter Tryz.func50,Tryz.ntmps50
  go_wp2_with (go_at_call 53;rw [←HW.out];refine (M1.out _ HK.out).mono ?_;rintro e w1 ⟨rfl,q⟩)
  go_ret;exact ⟨rfl,HK.out.trans q⟩
 ·cases b2
  ·rw [Bool.and_false, Bool.false_and]
   go_enter Tryz.func50,Tryz.ntmps50
   go_wp2_with fail;rw [←HW.out];refine (M1.out _ HK.out).mono ?_;rintro e w1 ⟨rfl,q⟩;have K:=hid (HK.out.trans q);obtain ⟨-,c0,c1,c2,c3,c4,c5⟩:=(HB.out.kept q).facts;have HB2:=hid (HB.out.kept q);clear q;simp only [];go_wp2_with fail;refine (M2.out _ K.out).mono ?_;rintro e w2 ⟨rfl,q⟩;replace K:=hid (K.out.trans q);clear c0 c1 c2 c3 c4 c5;obtain ⟨-,c0,c1,c2,c3,c4,c5⟩:=(HB2.out.kept q).facts;clear q;simp only [];go_wp2_with fail;go_ret;exact ⟨rfl,K.out⟩
  ·rw [Bool.and_true, Bool.true_and];have hc:=HC.out rfl rfl;clear HC;have HC:=hid hc;clear hc;obtain ⟨rb,hrb⟩:∃ rb,decide (cc≤0)=rb:=⟨_,rfl⟩;rw [hrb]
   go_enter Tryz.func50,Tryz.ntmps50
   go_wp2_with fail;rw [←HW.out];refine (M1.out _ HK.out).mono ?_;rintro e w1 ⟨rfl,q⟩;have K:=hid (HK.out.trans q);obtain ⟨-,c0,c1,c2,c3,c4,c5⟩:=(HB.out.kept q).facts;have HB2:=hid (HB.out.kept q);clear q;simp only [];go_wp2_with fail;refine (M2.out _ K.out).mono ?_;rintro e w2 ⟨rfl,q⟩;replace K:=hid (K.out.trans q);clear c0 c1 c2 c3 c4 c5;obtain ⟨-,c0,c1,c2,c3,c4,c5⟩:=(HB2.out.kept q).facts;clear q;simp only [];go_wp2_with fail;refine (HC.out _ K.out).mono ?_;rintro e w3 ⟨rfl,q⟩;replace K:=hid (K.out.trans q);clear q;simp only [];go_wp2_with fail;go_ret;exact ⟨rfl,K.out⟩
def IvC (w:World) (v:Value) (a:Iv):Prop:=IvR w v a.raw
theorem IvC.kept {w w':World}{v:Value}{a:Iv}(h:IvC w v a)(k:Kept w w'):IvC w' v a:=IvR.kept h k
theorem ivC_split {w:World}{v:Value}{a:Iv}(h:IvC w v a):∃ A l c A' l' c',v=.agg #[.bool a.lo.neg,.slice A l c,.int .i64 a.lo.e,.bool a.hi.neg,.slice A' l' c',.int .i64 a.hi.e] ∧
 DyR w (.agg #[.bool a.lo.neg,.slice A l c,.int .i64 a.lo.e]) a.lo.raw∧DyR w (.agg #[.bool a.hi.neg,.slice A' l' c',.int .i64 a.hi.e]) a.hi.raw:=ivR_split h
theorem iv_lens {a:Iv}(h:a.Ok):a.raw.lens 17592186044416:=⟨by have:=dy_len h.lo;show a.lo.raw.m.length≤_;omega,by have:=dy_len h.hi;show a.hi.raw.m.length≤_;omega⟩
theorem imayT_c {w:World}{v:Value}{a:Iv}(hv:IvC w v a)(h:a.Ok):Calls Tryz.prog 50 #[v] w (RetK (.bool true) w):=by
 have:=imay_c hv (iv_lens h)
 rwa [mayI_raw h] at this
theorem mayT_c {w:World}{v:Value}{d:Dy}(hv:DyR w v d.raw)(h:d.Ok):Calls Tryz.prog 53 #[v] w (RetK (.bool true) w):=by
 have:=may_c hv (by have:=dy_len h;omega)
 rwa [h.may] at this
def hasI (a:Iv) (d:Dy):Bool:=decide (cmpQ a.lo.q d.q≤0)&&decide (cmpQ d.q a.hi.q≤0)
theorem box2id (w:World)(x y z x' y' z' p q r:Value):∃ W,W=(w.alloc (.cells #[x,y,z,x',y',z'] 30)).alloc (.cells #[p,q,r] 28)∧Kept w W∧BlkI W w.heap.size x y z x' y' z'∧Blk W (w.heap.size+1) p q r :=
 ⟨_,rfl,(kept_alloc _ _).trans (kept_alloc _ _),(blkI_new _ _ _ _ _ _ _).kept (kept_alloc _ _),blk_new1 _ _ _ _ _⟩
theorem has_c {w:World}{v u:Value}{a:Iv}{d:Dy}(hv:IvC w v a)(hu:DyR w u d.raw)(ha:a.Ok)(hd:d.Ok) :
 Calls Tryz.prog 24 #[v,u] w (RetK (.bool (hasI a d)) w):=by
 have m1:=fun w1 (k:Kept w w1)=>imayT_c (hv.kept k) ha
 have m2:=fun w1 (k:Kept w w1)=>mayT_c (hu.kept k) hd
 obtain ⟨A,l,c,A',l',c',rfl,h1,h2⟩:=ivC_split hv;obtain ⟨A3,l3,c3,rfl,hu⟩:=dyR_split hu;have q1:=fun w1 (k:Kept w w1)=>dcmp_c (h1.kept k) (hu.kept k) ha.lo hd
 have q2:=fun w1 (k:Kept w w1)=>dcmp_c (hu.kept k) (h2.kept k) hd ha.hi
 unfold hasI;have M1:=hid m1;have M2:=hid m2;have Q1:=hid q1;have Q2:=hid q2;clear m1 m2 q1 q2 h1 h2 hv hu ha hd;generalize cmpQ a.lo.q d.q=r1 at *;generalize cmpQ d.q a.hi.q=r2 at *;generalize a.lo.neg=n1 at *;generalize a.lo.e=e1 at *;generalize a.hi.neg=n2 at *;generalize a.hi.e=e2 at *;generalize d.neg=n3 at *;generalize d.e=e3 at *;obtain ⟨W,hW,kW,BI,BD⟩:=box2id w (.bool n1) (.slice A l c) (.int .i64 e1) (.bool n2) (.slice A' l' c') (.int .i64 e2) (.bool n3) (.slice A3 l3 c3) (.int .i64 e3);have HW:=hid hW;have K:=hid kW;have HB:=hid BI;have HD:=hid BD;clear hW kW BI BD;have hr1:decide (r1≤0)=true∨decide (r1≤0)=false:=bools _
 rcases hr1 with hr1 | hr1
 ·rw [hr1, Bool.true_and];obtain ⟨rb,hrb⟩:∃ rb,decide (r2≤0)=rb:=⟨_,rfl⟩;rw [hrb]
  go_enter Tryz.func24,Tryz.ntmps24
  go_wp2_with fail;rw [←HW.out];refine (M1.out _ K.out).mono ?_;rintro e w1 ⟨rfl,q⟩;replace K:=hid (K.out.trans q);replace HB:=hid (HB.out.kept q);replace HD:=hid (HD.out.kept q);clear q;obtain ⟨-,c0,c1,c2,c3,c4,c5⟩:=HB.out.facts;obtain ⟨-,d0,d1,d2,-⟩:=HD.out.facts;simp only [];go_wp2_with fail;refine (M2.out _ K.out).mono ?_;clear c0 c1 c2 c3 c4 c5 d0 d1 d2;rintro e w1 ⟨rfl,q⟩;replace K:=hid (K.out.trans q);replace HB:=hid (HB.out.kept q);replace HD:=hid (HD.out.kept q);clear q;obtain ⟨-,c0,c1,c2,c3,c4,c5⟩:=HB.out.facts;obtain ⟨-,d0,d1,d2,-⟩:=HD.out.facts;simp only [];go_wp2_with fail;refine (Q1.out _ K.out).mono ?_
  clear c0 c1 c2 c3 c4 c5 d0 d1 d2;rintro e w1 ⟨rfl,q⟩;replace K:=hid (K.out.trans q);replace HB:=hid (HB.out.kept q);replace HD:=hid (HD.out.kept q);clear q;obtain ⟨-,c0,c1,c2,c3,c4,c5⟩:=HB.out.facts;obtain ⟨-,d0,d1,d2,-⟩:=HD.out.facts;simp only [];go_wp2_with fail;refine (Q2.out _ K.out).mono ?_;rintro e w4 ⟨rfl,q⟩;replace K:=hid (K.out.trans q);clear q;simp only [];go_wp2_with fail;go_ret;exact ⟨rfl,K.out⟩
 ·rw [hr1, Bool.false_and]
  go_enter Tryz.func24,Tryz.ntmps24
  go_wp2_with fail;rw [←HW.out];refine (M1.out _ K.out).mono ?_;rintro e w1 ⟨rfl,q⟩;replace K:=hid (K.out.trans q);replace HB:=hid (HB.out.kept q);replace HD:=hid (HD.out.kept q);clear q;obtain ⟨-,c0,c1,c2,c3,c4,c5⟩:=HB.out.facts;obtain ⟨-,d0,d1,d2,-⟩:=HD.out.facts;simp only [];go_wp2_with fail;refine (M2.out _ K.out).mono ?_;clear c0 c1 c2 c3 c4 c5 d0 d1 d2;rintro e w1 ⟨rfl,q⟩;replace K:=hid (K.out.trans q);replace HB:=hid (HB.out.kept q);replace HD:=hid (HD.out.kept q);clear q;obtain ⟨-,c0,c1,c2,c3,c4,c5⟩:=HB.out.facts;obtain ⟨-,d0,d1,d2,-⟩:=HD.out.facts;simp only [];go_wp2_with fail;refine (Q1.out _ K.out).mono ?_
  clear c0 c1 c2 c3 c4 c5 d0 d1 d2;rintro e w1 ⟨rfl,q⟩;replace K:=hid (K.out.trans q);replace HB:=hid (HB.out.kept q);replace HD:=hid (HD.out.kept q);clear q;obtain ⟨-,c0,c1,c2,c3,c4,c5⟩:=HB.out.facts;obtain ⟨-,d0,d1,d2,-⟩:=HD.out.facts;simp only [];go_wp2_with fail;go_ret;exact ⟨rfl,K.out⟩
theorem box2ii (w:World)(x y z x' y' z' p q r p' q' r':Value):∃ W,W=(w.alloc (.cells #[x,y,z,x',y',z'] 30)).alloc (.cells #[p,q,r,p',q',r'] 30)∧Kept w W∧BlkI W w.heap.size x y z x' y' z'∧BlkI W (w.heap.size+1) p q r p' q' r':=by
 refine ⟨_,rfl,(kept_alloc _ _).trans (kept_alloc _ _),(blkI_new _ _ _ _ _ _ _).kept (kept_alloc _ _),?_⟩;have:=blkI_new (w.alloc (.cells #[x,y,z,x',y',z'] 30)) p q r p' q' r'
 simpa using this
theorem cell_of_block' {w:World}{b:Nat}{cs:Array Value}{t:TypeId}(h:w.heap[b]?=some (.cells cs t (0,0)))(i:Nat):w.cell? ⟨b,i,none⟩=cs[i]?:=by
 simp [World.cell?,h]
theorem Lim.setBlock {w w':World}{s:Value}{xs:List Nat}{b:Nat}{cs:Array Value}{t:TypeId}(h:Lim w s xs)(hb:w.heap[b]?=some (.cells cs t (0,0)))(hn:∀ (i:Nat) (v:Value),cs[i]?=some v→NoLimb v)
 (hs:w.heap.size≤w'.heap.size) (ho:∀ k,k<w.heap.size→k≠b→w'.heap[k]?=w.heap[k]?):Lim w' s xs:=by
 obtain ⟨hsm,A,c,rfl,hc,hA⟩:=h;refine ⟨hsm,A,c,rfl,hc,fun hp=>?_⟩;obtain ⟨b1,off,rfl,hb1,hcell⟩:=hA hp;have hne:b1≠b:=by
  rintro rfl;have h5:=hcell 0 hp;rw [cell_of_block' hb] at h5;exact hn _ _ h5 _ rfl
 refine ⟨b1,off,rfl,Nat.lt_of_lt_of_le hb1 hs,fun i hi=>?_⟩;rw [←hcell i hi];exact World.cell?_of_block (ho b1 hb1 hne)
def ivW (w:World) (b:Nat) (x y z x' y' z':Value):World :=
 (((((w.setCell ⟨b,0,none⟩ x).setCell ⟨b,1,none⟩ y).setCell ⟨b,2,none⟩ z).setCell ⟨b,3,none⟩ x').setCell ⟨b,4,none⟩ y').setCell ⟨b,5,none⟩ z'
theorem BlkI.laid {w:World}{b:Nat}{p q r p' q' r':Value}(h:BlkI w b p q r p' q' r')(x y z x' y' z':Value):BlkI (ivW w b x y z x' y' z') b x y z x' y' z' :=
 block_setCell (block_setCell (block_setCell (block_setCell (block_setCell (block_setCell h _) _) _) _) _) _
theorem ivW_kept {w0 w:World}{b:Nat}{x y z x' y' z':Value}(h:Kept w0 w)(h2:w0.heap.size≤b):Kept w0 (ivW w b x y z x' y' z') :=
 (((((h.setCell (p:=⟨b,0,none⟩) h2 x).setCell (p:=⟨b,1,none⟩) h2 y).setCell (p:=⟨b,2,none⟩) h2 z).setCell (p:=⟨b,3,none⟩) h2 x').setCell (p:=⟨b,4,none⟩) h2 y').setCell (p:=⟨b,5,none⟩) h2 z'
theorem ivW_other (w:World)(b k:Nat)(x y z x' y' z':Value)(h:k≠b):(ivW w b x y z x' y' z').heap[k]?=w.heap[k]?:=by
 unfold ivW;rw [Below.heap_setCell _ _ _ _ h,Below.heap_setCell _ _ _ _ h,Below.heap_setCell _ _ _ _ h,Below.heap_setCell _ _ _ _ h,Below.heap_setCell _ _ _ _ h,Below.heap_setCell _ _ _ _ h]
theorem BlkI.noLimb {w:World}{b:Nat}{n n':Bool}{A A':Option Addr}{l c l' c':Nat}{e e':Int}(_h:BlkI w b (.bool n) (.slice A l c) (.int .i64 e) (.bool n') (.slice A' l' c') (.int .i64 e')) :
 ∀ (i:Nat) (v:Value),(#[Value.bool n,.slice A l c,.int .i64 e,.bool n',.slice A' l' c',.int .i64 e']:Array Value)[i]?=some v→NoLimb v:=by
 intro i v hv
 rcases i with _ | _ | _ | _ | _ | _ | i
 ·simp at hv;subst hv;exact noLimb_bool _
 ·simp at hv;subst hv;exact noLimb_slice _ _ _
 ·simp at hv;subst hv;exact noLimb_i64 _
 ·simp at hv;subst hv;exact noLimb_bool _
 ·simp at hv;subst hv;exact noLimb_slice _ _ _
 ·simp at hv;subst hv;exact noLimb_i64 _
 ·simp at hv
theorem Lim.ivW {w:World}{s:Value}{xs:List Nat}{b:Nat}{n n':Bool}{A A':Option Addr}{l c l' c':Nat}{e e':Int}(h:Lim w s xs)(hb:BlkI w b (.bool n) (.slice A l c) (.int .i64 e) (.bool n') (.slice A' l' c') (.int .i64 e'))(x y z x' y' z':Value) :
 Lim (Go.Proofs.YtabjjdicffcolaaGreatDoor.ivW w b x y z x' y' z') s xs :=
 h.setBlock hb hb.noLimb (by simp [Go.Proofs.YtabjjdicffcolaaGreatDoor.ivW,World.setCell]) (fun k _ hne=>ivW_other _ _ _ _ _ _ _ _ _ hne)
theorem DyR.ivW {w:World}{v:Value}{r:Raw}{b:Nat}{n n':Bool}{A A':Option Addr}{l c l' c':Nat}{e e':Int}(h:DyR w v r)(hb:BlkI w b (.bool n) (.slice A l c) (.int .i64 e) (.bool n') (.slice A' l' c') (.int .i64 e'))(x y z x' y' z':Value) :
 DyR (Go.Proofs.YtabjjdicffcolaaGreatDoor.ivW w b x y z x' y' z') v r:=by
 obtain ⟨s,rfl,hs,h1,h2⟩:=h;exact ⟨s,rfl,hs.ivW hb _ _ _ _ _ _,h1,h2⟩
theorem BlkI.free {w:World}{b:Nat}{x y z x' y' z':Value}(h:BlkI w b x y z x' y' z'):w.frozen? ⟨b,0,none⟩=false∧w.frozen? ⟨b,1,none⟩=false∧w.frozen? ⟨b,2,none⟩=false∧w.frozen? ⟨b,3,none⟩=false∧w.frozen? ⟨b,4,none⟩=false∧w.frozen? ⟨b,5,none⟩=false :=
 ⟨free_of_block h 0,free_of_block h 1,free_of_block h 2,free_of_block h 3,free_of_block h 4,free_of_block h 5⟩
theorem ret_iv {fn:Func}{R:Ending→World→Prop}{a:Act}{w:World}{b t:Nat}{x y z x' y' z':Value}(h:BlkI w b x y z x' y' z')
 (hres:fn.results=#[.cell t 30]) (ht:a.tmps.getD t undef=.pointer (some ⟨b,0,none⟩)) (hd:a.defers=[]) (hR:R (.returned (.agg #[x,y,z,x',y',z'])) w) :
 bodyPost Tryz.prog fn R .ret a w:=by
 obtain ⟨_,c0,c1,c2,c3,c4,c5⟩:=h.facts;refine bodyPost_ret (v:=.agg #[x,y,z,x',y',z']) ?_ hd hR;have ht2:a.tmps[t]?.getD undef=.pointer (some ⟨b,0,none⟩):=by simpa using ht
 simp [results,hres,ht2,go_sem,c0,c1,c2,c3,c4,c5]
theorem ret_iv2 {fn:Func}{R:Ending→World→Prop}{a:Act}{w:World}{b t u:Nat}{x y z x' y' z':Value}(h:BlkI w b x y z x' y' z')
 (hres:fn.results=#[.cell t 30,.tmp u]) (ht:a.tmps.getD t undef=.pointer (some ⟨b,0,none⟩)) (hd:a.defers=[])
 (hR:R (.returned (.tuple #[.agg #[x,y,z,x',y',z'],a.tmps.getD u undef])) w):bodyPost Tryz.prog fn R .ret a w:=by
 obtain ⟨_,c0,c1,c2,c3,c4,c5⟩:=h.facts;refine bodyPost_ret (v:=.tuple #[.agg #[x,y,z,x',y',z'],a.tmps.getD u undef]) ?_ hd hR;have ht2:a.tmps[t]?.getD undef=.pointer (some ⟨b,0,none⟩):=by simpa using ht
 simp [results,hres,ht2,go_sem,c0,c1,c2,c3,c4,c5]
def RetI (a:RawI) (w:World) (e:Ending) (w':World):Prop:=Kept w w'∧∃ v,e=.returned v∧IvR w' v a
def RetIE (o:Outc RawI) (w:World) (e:Ending) (w':World):Prop:=Kept w w'∧∃ v,e=.returned (.tuple #[v,.int .i64 o.k])∧IvR w' v o.v
theorem blkI_zero (w:World):BlkI (w.alloc (.cells #[.bool false,.slice none 0 0,.int .i64 0,.bool false,.slice none 0 0,.int .i64 0] 30)) w.heap.size (.bool false) (.slice none 0 0) (.int .i64 0) (.bool false) (.slice none 0 0) (.int .i64 0):=heap_alloc_new _ _
theorem iof_c {w:World}{v:Value}{r:Raw}(hv:DyR w v r):Calls Tryz.prog 21 #[v] w (RetI ⟨r,r⟩ w):=by
 have hv':=hv;obtain ⟨A,l,c,rfl,hv⟩:=rawR_split hv;have HV:=hid hv;clear hv hv';have hb1:=blkI_new (w.alloc (.cells #[.bool r.neg,.slice A l c,.int .i64 r.e] 28)) (.bool r.neg) (.slice A l c) (.int .i64 r.e) (.bool r.neg) (.slice A l c) (.int .i64 r.e);simp only [World.size_alloc] at hb1;have HB:=hid hb1;clear hb1
 go_enter Tryz.func21,Tryz.ntmps21
 go_wp2_with fail;exact ret_iv HB.out rfl rfl rfl ⟨(kept_alloc _ _).trans (kept_alloc _ _),_,rfl,_,_,_,_,_,_,rfl,HV.out.kept ((kept_alloc _ _).trans (kept_alloc _ _)),HV.out.kept ((kept_alloc _ _).trans (kept_alloc _ _))⟩
theorem beq_take {xs ys:List Nat}(hl:xs.length=ys.length)(h:∀ i,i<xs.length→nth xs i=nth ys i):xs=ys:=by
 apply List.ext_getElem hl
 intro i h1 h2;have:=h i h1;unfold nth at this;rw [List.getD_eq_getElem?_getD,List.getD_eq_getElem?_getD,List.getElem?_eq_getElem h1,List.getElem?_eq_getElem h2] at this;exact this
theorem equal_c {w:World}{v u:Value}{xs ys:List Nat}(hv:Lim w v xs)(hu:Lim w u ys)(hl:xs.length≤17592186044416) :
 Calls Tryz.prog 72 #[v,u] w (RetK (.bool (xs==ys)) w):=by
 obtain ⟨hs,A,c,rfl,hc,hA⟩:=hv;obtain ⟨hs',A',c',rfl,hc',hA'⟩:=hu
 by_cases hne:xs.length=ys.length
 ·have hlb : ((xs.length : Int) == (ys.length : Int)) = true := by rw [beq_iff_eq]; omega
  have HE:=hid hne;obtain ⟨n,hn⟩:∃ n,n=xs.length:=⟨_,rfl⟩;have hn2:n=ys.length:=by omega
  rw [←hn] at hl hc hA ⊢;rw [←hn2] at hc' hA' ⊢;rw [←hn,←hn2] at hlb;have HA:=hid hA;have HA':=hid hA';have HS:=hid hs;have HS':=hid hs';have HN:=hid hn;clear hA hA' hs hs' hn hn2 hne hlb;have hlb:((n:Int)==(n:Int))=true:=by rw [beq_iff_eq]
  go_enter Tryz.func72,Tryz.ntmps72
  go_wp2_with fail
  go_loopw [13] (fun t wr=>∃ k:Nat,k≤n∧t=.int .i64 k∧(∀ i,i<k→nth xs i=nth ys i)∧Kept w wr) (fun t _=>(n-intOf t).toNat)
  case atStart=>exact ⟨0,Nat.zero_le _,rfl,fun i hi=>absurd hi (Nat.not_lt_zero _),Below.refl _ _⟩
  case round =>
   obtain ⟨k,hk,rfl,heq,hK⟩:=hrel;have K:=hid hK;clear hK;have HQ:=hid heq;clear heq
   by_cases hlt:k<n
   ·obtain ⟨b, off, rfl, hb, hcell⟩ := HA.out (by omega);obtain ⟨b',off',rfl,hb',hcell'⟩:=HA'.out (by omega);have h1:=fun w1 (q:Kept wr w1)=>((K.out.trans q).cell (p:=⟨b,off+k,none⟩) hb).trans (hcell k hlt)
    have h2:=fun w1 (q:Kept wr w1)=>((K.out.trans q).cell (p:=⟨b',off'+k,none⟩) hb').trans (hcell' k hlt)
    have H1:=hid h1;have H2:=hid h2;have hx0:(0:Int)≤(k:Int):=by omega
    have hx1:(k:Int)<(n:Int):=by omega
    clear hcell hcell' h1 h2
    by_cases hxy:nth xs k=nth ys k
    ·have hb1 : (((nth xs k : Nat) : Int) != ((nth ys k : Nat) : Int)) = false := by simp [hxy]
     have HXY:=hid hxy;clear hxy;generalize hgx:nth xs k=x at *;generalize hgy:nth ys k=y at *;have GX:=hid hgx;have GY:=hid hgy;clear hgx hgy;go_wp2_with fail
     refine region_lin (m:=9) (V:=VL [(vE (.slice (some ⟨b,off,none⟩) n c)),(vE (.int .i64 k)),(vE (.pointer (some ⟨b,off+k,none⟩))),(vE (.int .u64 x)),(vE (.slice (some ⟨b',off',none⟩) n c')),(vE (.int .i64 k)),(vE (.pointer (some ⟨b',off'+k,none⟩))),(vE (.int .u64 y)),(vE (.bool false))])
      (by kernel_rfl) rfl (by kernel_rfl) (by kernel_rfl) (by kernel_rfl) (mono_of _ ⟨mE,mE,mE,mE,mE,mE,mE,mE,mE,trivial⟩) (steps_of ⟨
        (fun aF wF F=>by have s0:aF.tmps.getD 0 undef=(.slice (some ⟨b,off,none⟩) n c):=F.o 0;exact sv rfl),(fun aF wF F=>by have s5:aF.tmps.getD 5 undef=(.int .i64 k):=F.o 5;exact sv rfl),(fun aF wF F=>by have s16:=F.v 0 16;have s17:=F.v 1 17;exact sv rfl),(fun aF wF F=>by have s18:=F.v 2 18;exact sw (by have h:=H1.out _ F.kept;go_simp) rfl),(fun aF wF F=>by have s1:aF.tmps.getD 1 undef=(.slice (some ⟨b',off',none⟩) n c'):=F.o 1;exact sv rfl),(fun aF wF F=>by have s5:aF.tmps.getD 5 undef=(.int .i64 k):=F.o 5;exact sv rfl),(fun aF wF F=>by have s20:=F.v 4 20;have s21:=F.v 5 21;exact sv rfl),(fun aF wF F=>by have s22:=F.v 6 22;exact sw (by have h:=H2.out _ F.kept;go_simp) rfl),(fun aF wF F=>by have s19:=F.v 3 19;have s23:=F.v 7 23;exact sv rfl),
        trivial⟩) ?_
     intro u w1 k1 hu;simp only [puts,slotOf,if_true,Act.put,z1,z2,z3,z4,z5,z6,z7,hv hu 0,hv hu 1,hv hu 2,hv hu 3,hv hu 4,hv hu 5,hv hu 6,hv hu 7,hv hu 8];clear hu;go_wp2_with fail
     go_roundw
     case rel =>
      refine ⟨k+1,by omega,by go_num,fun i hi=>?_,K.out.trans k1⟩
      by_cases hik:i=k
      ·rw [hik,GX.out,GY.out];exact HXY.out
      ·exact HQ.out i (by omega)
     case measure=>simp [intOf];omega
    ·have hb1 : (((nth xs k : Nat) : Int) != ((nth ys k : Nat) : Int)) = true := by simp; omega
     have hres:(xs==ys)=false:=by
      rw [beq_eq_false_iff_ne];intro h;exact hxy (by rw [h])
     rw [hres];clear hres;have HXY:=hid hxy;clear hxy;generalize hgx:nth xs k=x at *;generalize hgy:nth ys k=y at *;have GX:=hid hgx;have GY:=hid hgy;clear hgx hgy;go_wp2_with fail
     refine region_lin (m:=9) (V:=VL [(vE (.slice (some ⟨b,off,none⟩) n c)),(vE (.int .i64 k)),(vE (.pointer (some ⟨b,off+k,none⟩))),(vE (.int .u64 x)),(vE (.slice (some ⟨b',off',none⟩) n c')),(vE (.int .i64 k)),(vE (.pointer (some ⟨b',off'+k,none⟩))),(vE (.int .u64 y)),(vE (.bool true))])
      (by kernel_rfl) rfl (by kernel_rfl) (by kernel_rfl) (by kernel_rfl) (mono_of _ ⟨mE,mE,mE,mE,mE,mE,mE,mE,mE,trivial⟩) (steps_of ⟨
        (fun aF wF F=>by have s0:aF.tmps.getD 0 undef=(.slice (some ⟨b,off,none⟩) n c):=F.o 0;exact sv rfl),(fun aF wF F=>by have s5:aF.tmps.getD 5 undef=(.int .i64 k):=F.o 5;exact sv rfl),(fun aF wF F=>by have s16:=F.v 0 16;have s17:=F.v 1 17;exact sv rfl),(fun aF wF F=>by have s18:=F.v 2 18;exact sw (by have h:=H1.out _ F.kept;go_simp) rfl),(fun aF wF F=>by have s1:aF.tmps.getD 1 undef=(.slice (some ⟨b',off',none⟩) n c'):=F.o 1;exact sv rfl),(fun aF wF F=>by have s5:aF.tmps.getD 5 undef=(.int .i64 k):=F.o 5;exact sv rfl),(fun aF wF F=>by have s20:=F.v 4 20;have s21:=F.v 5 21;exact sv rfl),(fun aF wF F=>by have s22:=F.v 6 22;exact sw (by have h:=H2.out _ F.kept;go_simp) rfl),(fun aF wF F=>by have s19:=F.v 3 19;have s23:=F.v 7 23;exact sv rfl),
        trivial⟩) ?_
     intro u w1 k1 hu;simp only [puts,slotOf,if_true,Act.put,z1,z2,z3,z4,z5,z6,z7,hv hu 0,hv hu 1,hv hu 2,hv hu 3,hv hu 4,hv hu 5,hv hu 6,hv hu 7,hv hu 8];clear hu;go_wp2_with fail;go_ret;exact ⟨rfl,K.out.trans k1⟩
   ·obtain rfl : k = n := by omega
    have hres:(xs==ys)=true:=by
     rw [beq_iff_eq];exact beq_take HE.out (fun i hi=>HQ.out i (by have:=HN.out;omega))
    go_wp2_with fail;go_ret;exact ⟨by rw [hres];rfl,K.out⟩
 ·have hres : (xs == ys) = false := by
   rw [beq_eq_false_iff_ne];intro h;exact hne (by rw [h])
  rw [hres];have hlb:((xs.length:Int)==(ys.length:Int))=false:=by rw [beq_eq_false_iff_ne];omega
  clear hA hA' hs hs' hne hres;generalize xs.length=n at *;generalize ys.length=n' at *
  go_enter Tryz.func72,Tryz.ntmps72
  go_wp2_with fail;go_ret;exact ⟨rfl,Below.refl _ _⟩
def sameR (a b:Raw):Bool:=(a.neg==b.neg)&&(a.e==b.e)&&(a.m==b.m)
theorem dsame_c {w:World}{v u:Value}{a b:Raw}(ha:DyR w v a)(hb:DyR w u b)(hl:a.m.length≤17592186044416) :
 Calls Tryz.prog 35 #[v,u] w (RetK (.bool (sameR a b)) w):=by
 obtain ⟨A,l,c,rfl,-,la,-,-⟩:=ha.shape;obtain ⟨A2,l2,c2,rfl,-,lb,-,-⟩:=hb.shape;have he:=fun w1 (k:Kept w w1)=>equal_c (la.kept k) (lb.kept k) hl
 unfold sameR;have HE:=hid he;clear he la lb ha hb hl;generalize (a.m==b.m)=r3 at *;generalize a.neg=n1 at *;generalize a.e=e1 at *;generalize b.neg=n2 at *;generalize b.e=e2 at *;obtain ⟨W,hW,kW,B0,B1⟩:=boxes2 w (.bool n1) (.slice A l c) (.int .i64 e1) (.bool n2) (.slice A2 l2 c2) (.int .i64 e2);have HW:=hid hW;have K:=hid kW;clear hW kW B0 B1;have hr1:(n1==n2)=true∨(n1==n2)=false:=bools _;have hr2:(e1==e2)=true∨(e1==e2)=false:=bools _
 rcases hr1 with hr1 | hr1
 ·rw [hr1, Bool.true_and]
  rcases hr2 with hr2 | hr2
  ·rw [hr2, Bool.true_and]
   go_enter Tryz.func35,Tryz.ntmps35
   go_wp2_with fail;rw [←HW.out];refine (HE.out _ K.out).mono ?_;rintro e w1 ⟨rfl,q⟩;simp only [];go_wp2_with fail;go_ret;exact ⟨rfl,K.out.trans q⟩
  ·rw [hr2, Bool.false_and]
   go_enter Tryz.func35,Tryz.ntmps35
   go_wp2_with fail;go_ret;exact ⟨rfl,by have:=K.out;rwa [HW.out] at this⟩
 ·rw [hr1, Bool.false_and, Bool.false_and];clear hr2
  go_enter Tryz.func35,Tryz.ntmps35
  go_wp2_with fail;go_ret;exact ⟨rfl,by have:=K.out;rwa [HW.out] at this⟩
theorem isame_c {w:World}{v u:Value}{a b:RawI}(hv:IvR w v a)(hu:IvR w u b)(hl:a.lens 17592186044416) :
 Calls Tryz.prog 119 #[v,u] w (RetK (.bool (sameR a.lo b.lo&&sameR a.hi b.hi)) w):=by
 obtain ⟨A,l,c,A',l',c',rfl,h1,h2⟩:=ivR_split hv;obtain ⟨B,j,e,B',j',e',rfl,g1,g2⟩:=ivR_split hu;have q1:=fun w1 (k:Kept w w1)=>dsame_c (h1.kept k) (g1.kept k) hl.1
 have q2:=fun w1 (k:Kept w w1)=>dsame_c (h2.kept k) (g2.kept k) hl.2
 have Q1:=hid q1;have Q2:=hid q2;clear q1 q2 h1 h2 g1 g2 hv hu hl;generalize sameR a.lo b.lo=r1 at *;generalize sameR a.hi b.hi=r2 at *;generalize a.lo.neg=n1 at *;generalize a.lo.e=e1 at *;generalize a.hi.neg=n2 at *;generalize a.hi.e=e2 at *;generalize b.lo.neg=n3 at *;generalize b.lo.e=e3 at *;generalize b.hi.neg=n4 at *;generalize b.hi.e=e4 at *;obtain ⟨W,hW,kW,BI,BJ⟩:=box2ii w (.bool n1) (.slice A l c) (.int .i64 e1) (.bool n2) (.slice A' l' c') (.int .i64 e2) (.bool n3) (.slice B j e) (.int .i64 e3) (.bool n4) (.slice B' j' e') (.int .i64 e4);have HW:=hid hW;have K:=hid kW;have HB:=hid BI
 have HD:=hid BJ;clear hW kW BI BJ;cases r1
 ·rw [Bool.false_and]
  go_enter Tryz.func119,Tryz.ntmps119
  go_wp2_with fail;rw [←HW.out];refine (Q1.out _ K.out).mono ?_;rintro e w1 ⟨rfl,q⟩;replace K:=hid (K.out.trans q);replace HB:=hid (HB.out.kept q);replace HD:=hid (HD.out.kept q);clear q;obtain ⟨-,c0,c1,c2,c3,c4,c5⟩:=HB.out.facts;obtain ⟨-,d0,d1,d2,d3,d4,d5⟩:=HD.out.facts;simp only [];go_wp2_with fail;go_ret;exact ⟨rfl,K.out⟩
 ·rw [Bool.true_and]
  go_enter Tryz.func119,Tryz.ntmps119
  go_wp2_with fail;rw [←HW.out];refine (Q1.out _ K.out).mono ?_;rintro e w1 ⟨rfl,q⟩;replace K:=hid (K.out.trans q);replace HB:=hid (HB.out.kept q);replace HD:=hid (HD.out.kept q);clear q;obtain ⟨-,c0,c1,c2,c3,c4,c5⟩:=HB.out.facts;obtain ⟨-,d0,d1,d2,d3,d4,d5⟩:=HD.out.facts;simp only [];go_wp2_with fail;refine (Q2.out _ K.out).mono ?_;clear c0 c1 c2 c3 c4 c5 d0 d1 d2 d3 d4 d5;rintro e w1 ⟨rfl,q⟩;replace K:=hid (K.out.trans q);replace HB:=hid (HB.out.kept q);replace HD:=hid (HD.out.kept q);clear q;obtain ⟨-,c0,c1,c2,c3,c4,c5⟩:=HB.out.facts;obtain ⟨-,d0,d1,d2,d3,d4,d5⟩:=HD.out.facts;simp only [];go_wp2_with fail
  go_ret;exact ⟨rfl,K.out⟩
theorem must_okA (k:Int)(w:World):Calls Tryz.prog 126 #[.bool true,.int .i64 k] w fun e w'=>e=.returned (.tuple #[])∧w=w':=by
 go_enter Tryz.func126,Tryz.ntmps126
 go_wp2
 go_end0
 exact ⟨rfl,rfl⟩
theorem must_badA (k:Int)(w:World):Calls Tryz.prog 126 #[.bool false,.int .i64 k] w fun e w'=>e=.panicked (failV 166 k)∧w=w':=by
 go_enter Tryz.func126,Tryz.ntmps126
 go_wp2
 exact ⟨rfl,rfl,rfl⟩
theorem must_cA (b:Bool)(k:Int)(w:World):Calls Tryz.prog 126 #[.bool b,.int .i64 k] w fun e w'=>e=mustE 166 b k∧w=w':=by
 cases b
 ·exact must_badA k w
 ·exact must_okA k w
theorem must_trueA (k:Int)(w:World):Calls Tryz.prog 126 #[.bool true,.int .i64 k] w (RetK (.tuple #[]) w):=(must_cA true k w).mono fun _ _ ⟨he,hw⟩=>⟨he,hw▸Below.refl _ _⟩
theorem run_assert_failA (k:Int)(w:World):(Instr.typeAssert (.iface 166 (.agg #[.int .i64 k])) 20 166 true).run Tryz.prog w=.ok (.tuple #[.agg #[.int .i64 k],.bool true]) w:=by
 kernel_rfl
theorem run_assert_nilA (w:World):(Instr.typeAssert .nilIface 20 166 true).run Tryz.prog w=.ok (.tuple #[.agg #[.int .i64 0],.bool false]) w:=by
 kernel_rfl
section
variable {P:Program} {ops:Array Oper} {Q:Exit→Act→World→Prop}
theorem seq_steps {m:Nat}{V:Nat→Value→World→Prop}{a0:Act}{W:World}
 (hsz:m≤ops.size) (hap:apartSlots ops m=true) (hin:slotsIn ops m a0.tmps.size=true) (hbk:backOk .any ops=true)
 (hmono:∀ i v w w',Kept w w'→V i v w→V i v w')
 (hstep:∀ i o,i<m→ops[i]?=some o→∀ a w,Finds .any ops m V a0 W i a w→StepOK P ops Q V i o a w)
 (hend:∀ u w,Kept W w→(∀ i,i<m→V i (u i) w)→wpOps P ops Q (List.range' m (ops.size-m)) (puts ops (fun _=>true) u m a0) w) :
 ∀ (k i:Nat) (u:Nat→Value) (w:World),i+k=m→Kept W w→(∀ j,j<i→V j (u j) w)→wpOps P ops Q (List.range' i (ops.size-i)) (puts ops (fun j=>decide (j<i)) u m a0) w:=by
 intro k
 induction k with
 | zero =>
   intro i u w hi hk hu;obtain rfl:i=m:=by omega
   have e:puts ops (fun j=>decide (j<i)) u i a0=puts ops (fun _=>true) u i a0:=puts_congr i (fun j hj=>⟨by simp [hj],rfl⟩);rw [e];exact hend u w hk hu
 | succ k ih =>
   intro i u w hi hk hu;have him:i<m:=by omega
   have his:i<ops.size:=by omega
   obtain ⟨r,hr⟩:∃ r,ops.size-i=r+1:=⟨ops.size-i-1,by omega⟩;have hr':ops.size-(i+1)=r:=by omega
   rw [hr,List.range'_succ];have hoi:=Array.getElem?_eq_getElem his;have hback:∀ x y,waitsFor .any ops x y=true→y<x:=by
    intro x y hxy;unfold waitsFor at hxy
    by_cases hx:x<ops.size
    ·have h1 := all_range hbk x hx;rw [Array.getElem?_eq_getElem hx] at h1 hxy;simp only [Option.map_some,Option.getD_some,Array.all_eq_true',Array.any_eq_true'] at h1 hxy;obtain ⟨e,he,hb⟩:=hxy;simp only [Bool.and_eq_true,beq_iff_eq] at hb;have:=h1 e he;rw [hb.1,hb.2] at this
     simpa using this
    ·rw [Array.getElem?_eq_none (by omega)] at hxy;simp at hxy
   have hF:Finds .any ops m V a0 W i (puts ops (fun j=>decide (j<i)) u m a0) w:=by
    refine ⟨hk,puts_defers m,fun j t hw hs=>?_,fun t hu0=>?_⟩
    ·have hji := hback i j hw;have hjm:j<m:=by omega
     have htn:t<a0.tmps.size:=by
      have:=all_range hin j hjm;rw [hs] at this
      simpa using this
     rw [getD_puts_some (i:=j) htn (by simp [hji]) hs m hjm (fun j' hj' hne=>?_)]
     ·exact hu j hji
     ·have h1 := all_range (all_range hap j hjm) j' hj';rw [hs] at h1;simp only [Bool.or_eq_true,beq_iff_eq,bne_iff_ne] at h1
      rcases h1 with (h1 | h1) | h1
      ·exact absurd h1.symm hne
      ·cases h1
      ·exact fun h=>h1 h.symm
    ·refine getD_puts_none m (fun j hj hjl hs => ?_);have h1:=all_range hu0 j hj;rw [hs] at h1;simp only [bne_self_eq_false,Bool.false_or,Bool.or_eq_true,beq_iff_eq] at h1;simp only [decide_eq_true_eq] at hjl
     rcases h1 with h1 | h1
     ·omega
     ·have:=hback j i h1;omega
   have hs:=hstep i ops[i] him hoi _ w hF;unfold StepOK at hs;have hso:(ops[i]).dst=slotOf ops i:=by unfold slotOf;rw [hoi];rfl
   have hput:∀ v,(puts ops (fun j=>decide (j<i)) u m a0).put (ops[i]).dst v=puts ops (fun j=>decide (j<i+1)) (upd u i v) m a0:=by
    intro v;rw [hso,puts_add (S:=fun j=>decide (j<i)) (by simp) m him (fun j hj hne=>?_)]
    ·refine puts_congr m (fun j _ => ⟨?_, rfl⟩);unfold upd
     by_cases hj:j=i
     ·rw [if_pos hj];simp;omega
     ·rw [if_neg hj]
      by_cases h2:j<i
      ·simp [h2];omega
      ·simp [h2];omega
    ·have h1 := all_range (all_range hap i him) j hj;simp only [Bool.or_eq_true,beq_iff_eq,bne_iff_ne] at h1
     rcases h1 with (h1 | h1) | h1
     ·exact absurd h1.symm hne
     ·exact .inl h1
     ·exact .inr h1
   have hnext:∀ v w',Kept w w'→V i v w'→wpOps P ops Q (List.range' (i+1) r) ((puts ops (fun j=>decide (j<i)) u m a0).put (ops[i]).dst v) w':=by
    intro v w' hk' hv;rw [hput];have:=ih (i+1) (upd u i v) w' (by omega) (hk.trans hk') (fun j hj=>by
     unfold upd
     by_cases hji:j=i
     ·subst hji;rw [if_pos rfl];exact hv
     ·rw [if_neg hji];exact hmono j _ _ _ hk' (hu j (by omega)))
    rw [hr'] at this;exact this
   unfold wpOps;simp only [hoi]
   by_cases hw:Region.wanted ops[i] (yielded ops (puts ops (fun j=>decide (j<i)) u m a0).tmps)=true
   ·rw [if_pos hw] at hs ⊢;refine .inl (Oper.wp_mono (fun a' w' h=>?_) hs);obtain ⟨v,rfl,hk',hv⟩:=h;exact hnext v w' hk' hv
   ·rw [if_neg hw] at hs ⊢;exact hnext undef w (Below.refl _ _) hs
theorem seq_start {id m:Nat}{V:Nat→Value→World→Prop}{a0:Act}{W:World}
 (hsz:m≤ops.size) (hap:apartSlots ops m=true) (hin:slotsIn ops m a0.tmps.size=true) (hbk:backOk .any ops=true)
 (hmono:∀ i v w w',Kept w w'→V i v w→V i v w')
 (hstep:∀ i o,i<m→ops[i]?=some o→∀ a w,Finds .any ops m V a0 W i a w→StepOK P ops Q V i o a w)
 (hend:∀ u w,Kept W w→(∀ i,i<m→V i (u i) w)→wpOps P ops Q (List.range' m (ops.size-m)) (puts ops (fun _=>true) u m a0) w) :
 (Code.region id ops false).wp P Q a0 W:=by
 refine wp_region ?_;rw [List.range_eq_range'];have h:=seq_steps hsz hap hin hbk hmono hstep hend m 0 (fun _=>undef) W (by omega) (Below.refl _ _) (fun j hj=>absurd hj (Nat.not_lt_zero _));have e:∀ n,puts ops (fun j=>decide (j<0)) (fun _=>undef) n a0=a0:=by
  intro n
  induction n with
  | zero=>rfl
  | succ n ih=>unfold puts;rw [if_neg (by simp),ih]
 rw [e m,Nat.sub_zero] at h;exact h
theorem region_seq {id m:Nat}{V:Nat→Value→World→Prop}{a0:Act}{W:World}
 (hsz:m=ops.size) (hap:apartSlots ops m=true) (hin:slotsIn ops m a0.tmps.size=true) (hbk:backOk .any ops=true)
 (hmono:∀ i v w w',Kept w w'→V i v w→V i v w')
 (hstep:∀ i o,i<m→ops[i]?=some o→∀ a w,Finds .any ops m V a0 W i a w→StepOK P ops Q V i o a w)
 (hend:∀ u w,Kept W w→(∀ i,i<m→V i (u i) w)→Q .normal (puts ops (fun _=>true) u m a0) w) :
 (Code.region id ops false).wp P Q a0 W:=by
 refine seq_start (by omega) hap hin hbk hmono hstep (fun u w k hu=>?_);have:ops.size-m=0:=by omega
 rw [this];exact hend u w k hu
theorem wpOps_one {i:Nat}{o:Oper}{a:Act}{w:World}{rest:List Nat}(ho:ops[i]?=some o)(hg:o.guard=none)(h:o.wp P a w (fun a w=>wpOps P ops Q rest a w) Q):wpOps P ops Q (i::rest) a w:=by
 unfold wpOps;simp only [ho];have:Region.wanted o (yielded ops a.tmps)=true:=by simp [Region.wanted,hg]
 rw [if_pos this];exact .inl h
theorem region_seq1 {id m:Nat}{V:Nat→Value→World→Prop}{a0:Act}{W:World}{o:Oper}
 (hsz:m+1=ops.size) (ho:ops[m]?=some o) (hg:o.guard=none) (hap:apartSlots ops m=true) (hin:slotsIn ops m a0.tmps.size=true) (hbk:backOk .any ops=true)
 (hmono:∀ i v w w',Kept w w'→V i v w→V i v w')
 (hstep:∀ i o,i<m→ops[i]?=some o→∀ a w,Finds .any ops m V a0 W i a w→StepOK P ops Q V i o a w)
 (hend:∀ u w,Kept W w→(∀ i,i<m→V i (u i) w)→o.wp P (puts ops (fun _=>true) u m a0) w (Q .normal) Q) :
 (Code.region id ops false).wp P Q a0 W:=by
 refine seq_start (by omega) hap hin hbk hmono hstep (fun u w k hu=>?_);have:ops.size-m=0+1:=by omega
 rw [this,List.range'_succ];exact wpOps_one ho hg (hend u w k hu)
theorem region_seq2 {id m:Nat}{V:Nat→Value→World→Prop}{a0:Act}{W:World}{o o':Oper}
 (hsz:m+2=ops.size) (ho:ops[m]?=some o) (hg:o.guard=none) (ho':ops[m+1]?=some o') (hg':o'.guard=none) (hap:apartSlots ops m=true) (hin:slotsIn ops m a0.tmps.size=true) (hbk:backOk .any ops=true)
 (hmono:∀ i v w w',Kept w w'→V i v w→V i v w')
 (hstep:∀ i o,i<m→ops[i]?=some o→∀ a w,Finds .any ops m V a0 W i a w→StepOK P ops Q V i o a w)
 (hend:∀ u w,Kept W w→(∀ i,i<m→V i (u i) w)→o.wp P (puts ops (fun _=>true) u m a0) w (fun a w=>o'.wp P a w (Q .normal) Q) Q) :
 (Code.region id ops false).wp P Q a0 W:=by
 refine seq_start (by omega) hap hin hbk hmono hstep (fun u w k hu=>?_);have:ops.size-m=1+1:=by omega
 rw [this,List.range'_succ];refine wpOps_one ho hg (Oper.wp_mono (fun a w h=>?_) (hend u w k hu));rw [List.range'_succ];exact wpOps_one ho' hg' h
end
theorem RetIE.good {o:Outc RawI}{w w':World}{e:Ending}(h:RetIE o w e w'):GoodEnd (fun u w=>∃ d,u=.tuple #[d,.int .i64 o.k]∧IvR w d o.v) w e w':=by
 obtain ⟨k,v,he,hl⟩:=h;exact ⟨_,he,k,v,rfl,hl⟩
theorem RetI.good {a:RawI}{w w':World}{e:Ending}(h:RetI a w e w'):GoodEnd (fun u w=>IvR w u a) w e w':=by
 obtain ⟨k,v,he,hl⟩:=h;exact ⟨v,he,k,hl⟩
section
variable {P:Program} {ops:Array Oper} {Q:Exit→Act→World→Prop} {i:Nat} {a:Act} {w:World} {V:Nat→Value→World→Prop} {o:Oper} {f:FuncId} {args:Array Value}
theorem sP {x:Outc RawI}(hc:Calls P f args w (RetIE x w))(hp:∀ v w',(∃ d,v=.tuple #[d,.int .i64 x.k]∧IvR w' d x.v)→V i v w')(hw:Region.wanted o (yielded ops a.tmps)=true:=by simp [Region.wanted])(h:(execOp a.eval o).run P w=.ok (.enter f args) w:=by go_simp):StepOK P ops Q V i o a w :=
 step_good hw h hc (fun _ _ h=>RetIE.good h) hp
end
section
variable {P:Program} {ops:Array Oper} {Q:Exit→Act→World→Prop}
theorem step_imp {V V1:Nat→Value→World→Prop}{i:Nat}{o:Oper}{a:Act}{w:World}(h:StepOK P ops Q V1 i o a w)(hi:∀ v w',V1 i v w'→V i v w'):StepOK P ops Q V i o a w:=by
 unfold StepOK at *
 by_cases hw:Region.wanted o (yielded ops a.tmps)=true
 ·rw [if_pos hw] at h ⊢;exact Oper.wp_mono (fun a' w' ⟨v,h1,h2,h3⟩=>⟨v,h1,h2,hi v w' h3⟩) h
 ·rw [if_neg hw] at h ⊢;exact hi _ _ h
end
theorem dyR_zero (w:World):DyR w (.agg #[.bool false,.slice none 0 0,.int .i64 0]) rz:=⟨_,rfl,Lim.nil _ _ _,by decide,by decide⟩
theorem DyR.dyW {w:World}{v:Value}{r:Raw}{b:Nat}{x y z:Value}(h:DyR w v r)(h0:Blk w b x y z)(hx:NoLimb x)(hy:NoLimb y)(hz:NoLimb z)(x' y' z':Value):DyR (Go.Proofs.YtabjjdicffcolaaGreatDoor.dyW w b x' y' z') v r:=by
 obtain ⟨s,rfl,hs,h1,h2⟩:=h;exact ⟨s,rfl,hs.dyW h0 hx hy hz,h1,h2⟩
theorem boxF (w:World)(x y z:Value):∃ V,V=w.alloc (.cells #[x,y,z] 28)∧Kept w V∧Blk V w.heap.size x y z∧w.heap.size<V.heap.size :=
 ⟨_,rfl,kept_alloc _ _,blk_new _ _ _ _,by simp⟩
theorem limbs1:limbs 1=[1]:=by rw [limbs_pos 1 (by decide)];simp [limbs_zero]
def d1:Dy:=⟨false,1,0⟩
theorem one_ok (n:Bool)(e:Int)(h1:-1048576≤e)(h2:e≤1048576):(Dy.mk n 1 e).Ok:=⟨by simp [limbs1],fun h=>absurd h (by simp),fun _=>rfl,h1,h2⟩
theorem d1_ok:d1.Ok:=one_ok _ _ (by decide) (by decide)
theorem fit_1:fitD false 1 0=⟨d1,0⟩:=fitD_self d1_ok
theorem shift1_c {w:World}{b0 b1:Nat}{d:Dy}{n:Int}{A:Option Addr}{l c:Nat}(hb:Blk w b0 (.bool d.neg) (.slice A l c) (.int .i64 d.e))(hd:Lim w (.slice A l c) (limbs d.m))(c1:w.cell? ⟨b1,0,none⟩=some (.int .i64 n))
 (ok:d.Ok) (n1:-2097152≤n) (n2:n≤2097152) (hT:Tab w) :
 Calls Tryz.prog 210 #[.pointer (some ⟨b0,0,none⟩),.pointer (some ⟨b1,0,none⟩)] w (Goes 129 (shiftD d n).raw w):=by
 have hlen:=hd.len;have hdy:DyR w (.agg #[.bool d.neg,.slice A l c,.int .i64 d.e]) d.raw:=hd.dyR (r:=d.raw) (by show (-9223372036854775808:Int)≤d.e;have:=ok.lo;omega) (by show d.e≤9223372036854775807;have:=ok.hi;omega);have hm:=fun w1 (k:Kept w w1)=>mayT_c (hdy.kept k) ok
 have M:=hid hm;have HB:=hid hb;have HC:=hid c1;have hl1:=lt_of_cell c1;simp only at hl1;have e1:=ok.lo;have e2:=ok.hi;have hf:=fun w1 (k:Kept w w1)=>fit_c (neg:=d.neg) (n:=d.m) (e:=d.e+n) (hd.kept k) (by have:=dy_len ok;show (limbs d.m).length≤_;have h2:(limbs d.m).length≤64:=ok.len;omega) (by omega) (by omega) (hT.kept k)
 have F:=hid hf;have hwr:IntKind.i64.wrap (d.e+n)=d.e+n:=by simp [IntKind.wrap_i64];omega
 unfold shiftD
 by_cases h0:d.m=0
 ·rw [if_pos h0];have hl0:l=0:=by rw [hlen,h0,limbs_zero];rfl
  subst hl0;have HD:=hid hd;clear hf hm hdy hb hd c1 hlen hT F hwr
  show Calls _ _ _ _ (Goes _ ⟨d.raw,0⟩ w)
  have RR:Hid (d.raw=⟨d.neg,limbs d.m,d.e⟩):=rfl;rw [RR.out];clear RR ok h0;generalize d.neg=n1 at *;generalize d.e=e at *;generalize limbs d.m=xs at *;obtain ⟨hlt0,a0,a1,a2,-⟩:=HB.out.facts
  go_enter Tryz.func210,Tryz.ntmps210
  go_wp2_with fail;refine (M.out _ (kept_alloc _ _)).mono ?_;rintro _ w1 ⟨rfl,q⟩;simp only [];have KK:=hid ((kept_alloc _ _).trans q);have B2:=hid ((blk_new _ _ _ _).kept q);clear q a0 a1 a2;obtain ⟨-,a0,a1,a2,-⟩:=(HB.out.kept KK.out).facts;go_wp2_with fail;refine (must_c _ _ _).mono ?_;rintro ee w2 ⟨he,rfl⟩;obtain rfl:ee=.returned (.tuple #[]):=he;simp only [];obtain ⟨-,x0,x1,x2,f0,f1,f2⟩:=B2.out.facts;go_wp2_with fail;exact ret_dy (B2.out.laid _ _ _) rfl rfl rfl ⟨dyW_kept KK.out (Nat.le_refl _),.inl ⟨rfl,_,rfl,((HD.out.kept KK.out).dyW B2.out (noLimb_bool _) (noLimb_slice _ _ _) (noLimb_i64 _)).dyR (r:=⟨n1,xs,e⟩) (by show (-9223372036854775808:Int)≤e;omega) (by show e≤9223372036854775807;omega)⟩⟩
 ·rw [if_neg h0, if_neg (by omega)];have hl0:((l:Int)==0)=false:=by
   have:=length_limbs_pos d.m h0;rw [beq_eq_false_iff_ne,hlen];omega
  have d1:decide (n≤2097152)=true:=by simp;omega
  have d2:decide (-2097152≤n)=true:=by simp;omega
  clear hf hm hdy hb hd c1 hlen hT ok h0;generalize fitD d.neg d.m (d.e+n)=o at *;generalize d.neg=n1 at *;generalize d.e=e at *;obtain ⟨hlt0,a0,a1,a2,-⟩:=HB.out.facts;have hc1:=HC.out
  go_enter Tryz.func210,Tryz.ntmps210
  go_wp2_with fail;refine (M.out _ (kept_alloc _ _)).mono ?_;rintro _ w1 ⟨rfl,q⟩;simp only [];have KK:=hid ((kept_alloc _ _).trans q);have B2:=hid ((blk_new _ _ _ _).kept q);clear q a0 a1 a2 hc1;obtain ⟨-,a0,a1,a2,-⟩:=(HB.out.kept KK.out).facts;have hc1:=cell_kept KK.out HC.out;go_wp2_with fail;refine (must_c _ _ _).mono ?_;rintro ee w2 ⟨he,rfl⟩;obtain rfl:ee=.returned (.tuple #[]):=he;simp only [];go_wp2_with fail;refine (must_c _ _ _).mono ?_;rintro ee w2 ⟨he,rfl⟩;obtain rfl:ee=.returned (.tuple #[]):=he;simp only [];go_wp2_with fail;refine (F.out _ KK.out).mono ?_;rintro ee w3 ⟨qk,⟨h0,u,rfl,hd⟩ | ⟨h0,rfl⟩⟩
  ·obtain ⟨A', l', c', rfl, -, hd, g1, g2⟩ := hd.shape;have b2:=B2.out.kept qk;obtain ⟨-,x0,x1,x2,f0,f1,f2⟩:=b2.facts;have HD:=hid hd;have HB2:=hid b2;clear hd b2 a0 a1 a2 hc1;simp only [];go_wp2_with fail;exact ret_dy (HB2.out.laid _ _ _) rfl rfl rfl ⟨dyW_kept (KK.out.trans qk) (Nat.le_refl _),.inl ⟨h0,_,rfl,(HD.out.dyW HB2.out (noLimb_bool _) (noLimb_slice _ _ _) (noLimb_i64 _)).dyR g1 g2⟩⟩
  ·exact ⟨rfl,KK.out.trans qk,.inr ⟨h0,rfl⟩⟩
theorem blk_new2' (w:World)(o o':Obj)(x y z:Value):Blk (((w.alloc o).alloc o').alloc (.cells #[x,y,z] 28)) (w.heap.size+1+1) x y z:=by
 have:=blk_new ((w.alloc o).alloc o') x y z;simp only [World.size_alloc] at this;exact this
theorem Shift_c {w:World}{v:Value}{d:Dy}{n:Int}(hv:DyR w v d.raw)(ok:d.Ok)(n1:-2097152≤n)(n2:n≤2097152)(hT:Tab w) :
 Calls Tryz.prog 209 #[v,.int .i64 n] w (RetE (shiftD d n).raw w):=by
 have hmf:∀ (fn:Fn) (first cap:Array Value) (w:World),(Instr.makeFunc fn first cap).run Tryz.prog w=.ok (.func fn first cap) w:=fun _ _ _ _=>rfl
 obtain ⟨A,l,c,rfl,-,hs,-,-⟩:=hv.shape;have hf:=fun (W:World) (k:Kept w W) (H:Nat) (c0:Blk W H (.bool d.neg) (.slice A l c) (.int .i64 d.e)) (c1:W.cell? ⟨H+1,0,none⟩=some (.int .i64 n)) =>
  face_c (w:=W) (K:=210) (cap:=#[.pointer (some ⟨H,0,none⟩),.pointer (some ⟨H+1,0,none⟩)])
   (fun W1 k1=>shift1_c (c0.kept k1) (hs.kept (k.trans k1)) (cell_kept k1 c1) ok n1 n2 (hT.kept (k.trans k1))) (fun h=>by have:=(shiftD_ok ok n).2 h;show ((shiftD d n).v).raw=rz;rw [this,dz_raw]) (fun _=>rfl)
 have HF:=hid hf;clear hf hv hs hT n1 n2
 show Calls _ _ #[.agg #[.bool d.neg,.slice A l c,.int .i64 d.e],_] _ _
 generalize (shiftD d n).raw=o at *;generalize d.neg=n1 at *;generalize d.e=e at *
 go_enter Tryz.func209,Tryz.ntmps209
 go_wp2_with fail;refine (HF.out _ ?k _ ?c0 ?c1).mono ?m
 case k=>exact ((kept_alloc _ _).trans (kept_alloc _ _)).trans (kept_alloc _ _)
 case c0=>exact ((blk_new _ _ _ _).kept (kept_alloc _ _)).kept (kept_alloc _ _)
 case c1=>exact cell_kept (kept_alloc _ _) (new1 _ _ _ _)
 case m =>
  rintro e w1 ⟨qk,u,rfl,hd⟩;obtain ⟨A',l',c',rfl,-,hd,g1,g2⟩:=hd.shape;have b0:=(blk_new2' _ _ _ _ _ _).kept qk;obtain ⟨_,c0,c1,c2,f0,f1,f2⟩:=b0.facts;have HD:=hid hd;clear hd;simp only [];go_wp2_with fail;exact ret_dy2 (Blk.laid b0 _ _ _) rfl rfl rfl ⟨dyW_kept ((((kept_alloc _ _).trans (kept_alloc _ _)).trans (kept_alloc _ _)).trans qk) (by omega),_,rfl,(HD.out.dyW b0 (noLimb_bool _) (noLimb_slice _ _ _) (noLimb_i64 _)).dyR g1 g2⟩
theorem xsure_c {w:World}{v:Value}{r:Raw}{k:Int}(hv:DyR w v r):Calls Tryz.prog 203 #[v,.int .i64 k] w (RetD r w):=by
 obtain ⟨A,l,c,rfl,-,hs,g1,g2⟩:=hv.shape;obtain ⟨W,hW,kW,B0,BR⟩:=boxes1r w (.bool r.neg) (.slice A l c) (.int .i64 r.e);have HW:=hid hW;have K:=hid kW;have HS:=hid hs;have HB:=hid BR;obtain ⟨-,a0,a1,a2,-⟩:=B0.facts;obtain ⟨-,x0,x1,x2,f0,f1,f2⟩:=BR.facts;clear hW kW hs hv B0 BR
 go_enter Tryz.func203,Tryz.ntmps203
 go_upto_region 1 with fail
 rw [←HW.out];go_wp2_with fail;exact ret_dy (HB.out.laid _ _ _) rfl rfl rfl ⟨dyW_kept K.out (by omega),_,rfl,((HS.out.kept K.out).dyW HB.out (noLimb_bool _) (noLimb_slice _ _ _) (noLimb_i64 _)).dyR g1 g2⟩
def topD (d:Dy):Int:=bl d.m+d.e
def rndS (p:Nat) (up:Bool) (d:Dy):Dy:=(dirD d p up).v
theorem rndS_ok (p:Nat)(up:Bool)(d:Dy):(rndS p up d).Ok:=(dirD_ok d p up).1
theorem xtop_c {w:World}{v:Value}{d:Dy}(hv:DyR w v d.raw)(ok:d.Ok):Calls Tryz.prog 207 #[v] w (RetK (.int .i64 (topD d)) w):=by
 obtain ⟨A,l,c,rfl,-,hs,-,-⟩:=hv.shape;have hc:=fun w1 (k:Kept w w1)=>size_c (hs.kept k) (by have:=ok.len;omega)
 have hb:=bl_of_len d.m 64 ok.len;have e1:=ok.lo;have e2:=ok.hi;have hw:IntKind.i64.wrap ((bl d.m:Int)+d.e)=topD d:=by unfold topD;simp [IntKind.wrap_i64];omega
 have C:=hid hc;have HX:=hid hw;clear hc hs hv hw hb e1 e2
 show Calls _ _ #[.agg #[.bool d.neg,.slice A l c,.int .i64 d.e]] _ _
 generalize topD d=t at *;generalize bl d.m=m at *;generalize d.neg=n1 at *;generalize d.e=e at *
 go_enter Tryz.func207,Tryz.ntmps207
 go_wp2_with fail
 refine region_lin (m:=7) (V:=VL [(vP w.heap.size 1),(vE (.slice A l c)),(vE (.int .i64 m)),(vP w.heap.size 2),(vE (.int .i64 e)),(vE (.int .i64 t)),(vE (.int .i64 t))])
  (by kernel_rfl) rfl (by kernel_rfl) (by kernel_rfl) (by kernel_rfl) (mono_of _ ⟨mE,mE,mE,mE,mE,mE,mE,trivial⟩) (steps_of ⟨
    (fun aF wF F=>by have s1:aF.tmps.getD 1 undef=(.pointer (some ⟨w.heap.size,0,none⟩)):=F.o 1;exact sv rfl),(fun aF wF F=>by have s3:=F.v 0 3;have c0:=cell_at (blk_new w _ _ _) F.kept 1 _ rfl;exact sv rfl),(fun aF wF F=>by have s4:=F.v 1 4;exact sQ (C.out _ ((kept_alloc _ _).trans F.kept)) fun _ _ h=>h),(fun aF wF F=>by have s1:aF.tmps.getD 1 undef=(.pointer (some ⟨w.heap.size,0,none⟩)):=F.o 1;exact sv rfl),(fun aF wF F=>by have s6:=F.v 3 6;have c0:=cell_at (blk_new w _ _ _) F.kept 2 _ rfl;exact sv rfl),(fun aF wF F=>by have s5:=F.v 2 5;have s7:=F.v 4 7;exact sw (by (go_simp;exact HX.out)) rfl),(fun aF wF F=>by have s8:=F.v 5 8;exact sv rfl),
    trivial⟩) ?_
 intro u w1 k1 hu;simp only [puts,slotOf,if_true,Act.put,z1,z2,z3,z4,z5,z6,z7,hv hu 0,hv hu 1,hv hu 2,hv hu 3,hv hu 4,hv hu 5,hv hu 6];clear hu;go_wp2_with fail;go_ret;exact ⟨rfl,(kept_alloc _ _).trans k1⟩
def SBlk (w:World) (b:Nat) (p:Nat) (up:Bool):Prop:=w.heap[b]?=some (.cells #[.int .i64 (p:Int),.bool up] 175 (0,0))
theorem SBlk.kept {w w1:World}{b p:Nat}{up:Bool}(h:SBlk w b p up)(k:Kept w w1):SBlk w1 b p up:=(k.block b (Array.getElem?_eq_some_iff.1 h).1).trans h
theorem SBlk.facts {w:World}{b p:Nat}{up:Bool}(h:SBlk w b p up):b<w.heap.size∧w.cell? ⟨b,0,none⟩=some (.int .i64 (p:Int))∧w.cell? ⟨b,1,none⟩=some (.bool up) :=
 ⟨(Array.getElem?_eq_some_iff.1 h).1,cell_of_block h 0 _ rfl,cell_of_block h 1 _ rfl⟩
theorem SBlk.dyW {w:World}{b c p:Nat}{up:Bool}(h:SBlk w b p up)(hne:¬b=c)(x y z:Value):SBlk (dyW w c x y z) b p up:=by
 show (((w.setCell _ _).setCell _ _).setCell _ _).heap[b]?=_
 rw [Below.heap_setCell _ _ _ _ hne,Below.heap_setCell _ _ _ _ hne,Below.heap_setCell _ _ _ _ hne];exact h
theorem box_s (w:World)(p:Nat)(up:Bool)(x y z:Value):∃ W,W=((w.alloc (.cells #[.int .i64 (p:Int),.bool up] 175)).alloc (.cells #[x,y,z] 28)).alloc (.cells #[.bool false,.slice none 0 0,.int .i64 0] 28) ∧
 Kept w W∧SBlk W w.heap.size p up∧Blk W (w.heap.size+1) x y z∧Blk W (w.heap.size+1+1) (.bool false) (.slice none 0 0) (.int .i64 0):=by
 refine ⟨_,rfl,((kept_alloc _ _).trans (kept_alloc _ _)).trans (kept_alloc _ _),?_,?_,blk_new2' _ _ _ _ _ _⟩
 ·exact SBlk.kept (SBlk.kept (show SBlk (w.alloc _) _ _ _ from heap_alloc_new _ _) (kept_alloc _ _)) (kept_alloc _ _)
 ·exact (blk_new1 _ _ _ _ _).kept (kept_alloc _ _)
theorem xroundU {w:World}{v:Value}{p:Nat}{d:Dy}(hv:DyR w v d.raw)(ok:d.Ok)(p1:1≤p)(p2:p≤2000)(hT:Tab w) :
 Calls Tryz.prog 185 #[.agg #[.int .i64 (p:Int),.bool true],v] w (RetD (rndS p true d).raw w):=by
 have C:=hid (fun w1 v1 (k:Kept w w1) (h:DyR w1 v1 d.raw)=>Up_c h ok (hT.kept k) p1 p2);obtain ⟨A,l,c,rfl,hs⟩:=dyR_split hv;have HS:=hid hs;clear hv hs hT ok p1 p2;have hd:rndS p true d=(dirD d p true).v:=rfl;rw [hd];obtain ⟨o,ho⟩:∃ o,o=(dirD d p true).raw:=⟨_,rfl⟩;rw [←ho] at C;have hr:(dirD d p true).v.raw=o.v:=by rw [ho];rfl
 rw [hr];clear hr ho hd;generalize d.raw=r at *;generalize d.neg=n1 at *;generalize d.e=e at *;obtain ⟨W,hW,kW,BS,BA,BR⟩:=box_s w p true (.bool n1) (.slice A l c) (.int .i64 e);have HW:=hid hW;have K:=hid kW;have HB:=hid BR;obtain ⟨-,s0,s1⟩:=BS.facts;obtain ⟨-,a0,a1,a2,-⟩:=BA.facts;clear hW kW BR
 go_enter Tryz.func185,Tryz.ntmps185
 go_upto_region 1 with fail
 rw [←HW.out];go_wp2_with fail;refine (C.out _ _ K.out (HS.out.kept K.out)).mono ?_;rintro ee w1 ⟨q,u,rfl,hd⟩;simp only [];have KK:=hid (K.out.trans q);have HD:=hid hd;replace HB:=hid (HB.out.kept q);clear q hd a0 a1 a2 s0 s1;go_wp2_with fail;refine (xsure_c HD.out).mono ?_;rintro ee w2 ⟨q,v2,rfl,hd2⟩;obtain ⟨A',l',c',rfl,-,hd,g1,g2⟩:=hd2.shape;replace KK:=hid (KK.out.trans q);replace HB:=hid (HB.out.kept q);replace HD:=hid hd;clear q hd hd2;obtain ⟨-,x0,x1,x2,f0,f1,f2⟩:=HB.out.facts;simp only [];go_wp2_with fail;exact ret_dy (HB.out.laid _ _ _) rfl rfl rfl ⟨dyW_kept KK.out (by omega),_,rfl,(HD.out.dyW HB.out (noLimb_bool _) (noLimb_slice _ _ _) (noLimb_i64 _)).dyR g1 g2⟩
theorem xroundD {w:World}{v:Value}{p:Nat}{d:Dy}(hv:DyR w v d.raw)(ok:d.Ok)(p1:1≤p)(p2:p≤2000)(hT:Tab w) :
 Calls Tryz.prog 185 #[.agg #[.int .i64 (p:Int),.bool false],v] w (RetD (rndS p false d).raw w):=by
 have C:=hid (fun w1 v1 (k:Kept w w1) (h:DyR w1 v1 d.raw)=>Down_c h ok (hT.kept k) p1 p2);obtain ⟨A,l,c,rfl,hs⟩:=dyR_split hv;have HS:=hid hs;clear hv hs hT ok p1 p2;have hd:rndS p false d=(dirD d p false).v:=rfl;rw [hd];obtain ⟨o,ho⟩:∃ o,o=(dirD d p false).raw:=⟨_,rfl⟩;rw [←ho] at C;have hr:(dirD d p false).v.raw=o.v:=by rw [ho];rfl
 rw [hr];clear hr ho hd;generalize d.raw=r at *;generalize d.neg=n1 at *;generalize d.e=e at *;obtain ⟨W,hW,kW,BS,BA,BR⟩:=box_s w p false (.bool n1) (.slice A l c) (.int .i64 e);have HW:=hid hW;have K:=hid kW;have HB:=hid BR;obtain ⟨-,s0,s1⟩:=BS.facts;obtain ⟨-,a0,a1,a2,-⟩:=BA.facts;clear hW kW BR
 go_enter Tryz.func185,Tryz.ntmps185
 go_upto_region 1 with fail
 rw [←HW.out];go_wp2_with fail;refine (C.out _ _ K.out (HS.out.kept K.out)).mono ?_;rintro ee w1 ⟨q,u,rfl,hd⟩;simp only [];have KK:=hid (K.out.trans q);have HD:=hid hd;replace HB:=hid (HB.out.kept q);clear q hd a0 a1 a2 s0 s1;go_wp2_with fail;refine (xsure_c HD.out).mono ?_;rintro ee w2 ⟨q,v2,rfl,hd2⟩;obtain ⟨A',l',c',rfl,-,hd,g1,g2⟩:=hd2.shape;replace KK:=hid (KK.out.trans q);replace HB:=hid (HB.out.kept q);replace HD:=hid hd;clear q hd hd2;obtain ⟨-,x0,x1,x2,f0,f1,f2⟩:=HB.out.facts;simp only [];go_wp2_with fail;exact ret_dy (HB.out.laid _ _ _) rfl rfl rfl ⟨dyW_kept KK.out (by omega),_,rfl,(HD.out.dyW HB.out (noLimb_bool _) (noLimb_slice _ _ _) (noLimb_i64 _)).dyR g1 g2⟩
theorem xround_c {w:World}{v:Value}{p:Nat}{up:Bool}{d:Dy}(hv:DyR w v d.raw)(ok:d.Ok)(p1:1≤p)(p2:p≤2000)(hT:Tab w) :
 Calls Tryz.prog 185 #[.agg #[.int .i64 (p:Int),.bool up],v] w (RetD (rndS p up d).raw w):=by
 cases up
 ·exact xroundD hv ok p1 p2 hT
 ·exact xroundU hv ok p1 p2 hT
end Go.Proofs.YtabjjdicffcolaaGreatDoor
