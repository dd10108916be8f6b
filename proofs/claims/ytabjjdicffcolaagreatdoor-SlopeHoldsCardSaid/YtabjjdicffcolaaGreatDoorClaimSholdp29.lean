/- Words and contracts, part 29. -/
import Derived.Test.YtabjjdicffcolaaGreatDoorClaimSholdp28
import Derived.Shelf.Sort.Plain
import Derived.Shelf.Slices.In.CompactI
import Derived.Shelf.Slices.In.SortNone
import Derived.Sort.OwnSortedInts
import Derived.Lib.OwnBridge
set_option maxRecDepth 100000
set_option maxHeartbeats 0
namespace Go.Proofs.YtabjjdicffcolaaGreatDoor
open Go.RowKit Go.Shelf
variable {l:List Bool} {ns:List Int} {b base i:Nat} {v:Value} {w w':World}
def BRow (w:World) (b:Nat) (l:List Bool):Prop:=w.heap[b]?=some (.cells ((l.map Value.bool).toArray) 4 (0,0))
theorem BRow.lt (h:BRow w b l):b<w.heap.size:=(Array.getElem?_eq_some_iff.1 h).1
theorem BRow.cell (h:BRow w b l)(hi:i<l.length):w.cell? ⟨b,i,none⟩=some (.bool (l.getD i false)) :=
 Ae h i _ (by simp [List.getD,hi])
theorem BRow.free (h:BRow w b l)(i:Nat):w.frozen? ⟨b,i,none⟩=false:=Ap h i
theorem BRow.kept (h:BRow w b l)(k:Kept w w'):BRow w' b l:=(k.block b h.lt).trans h
theorem BRow.grown {row:Option Nat}(h:BRow w b l)(k:w.grownBy w' row)(hne:some b≠row):BRow w' b l:=(k.block b h.lt hne).trans h
theorem BRow.set (h:BRow w b l)(i:Nat)(x:Bool):BRow (w.setCell ⟨b,i,none⟩ (.bool x)) b (l.set i x):=by
 have:=Aw (i:=i) h (.bool x);unfold BRow;rw [this,List.map_set,List.setIfInBounds_toArray]
def OwnN (w:World) (base:Nat) (v:Value) (ns:List Int):Prop:=w.ownsRow base 3 1 v ns.length (ns.map (Value.int .i64))
theorem OwnN.nil (w:World)(base:Nat):OwnN w base (.slice none 0 0) []:=World.ownsRow_nil _ _ _ _
theorem OwnN.block (h:OwnN w base v ns)(k:∀ g,v.ownBlock=some g→w'.heap[g]?=w.heap[g]?):OwnN w' base v ns:=by
 obtain ⟨h1,h2⟩:=h;refine ⟨h1,?_⟩;rcases h2 with hn | ⟨g,cap,cur,rfl,hb,hg,rest⟩
 ·exact .inl hn
 ·exact .inr ⟨g,cap,cur,rfl,hb,(k g rfl).trans hg,rest⟩
theorem OwnN.kept (h:OwnN w base v ns)(k:Kept w w'):OwnN w' base v ns:=h.block fun g hg=>k.block g (h.lt g hg).2
theorem OwnN.set {x:Value}(h:OwnN w base v ns)(hb:b<base):OwnN (w.setCell ⟨b,i,none⟩ x) base v ns :=
 h.block fun g hg=>Below.heap_setCell _ _ _ _ (by have:=(h.lt g hg).1;show g≠b;omega)
def RetN (ns:List Int) (w:World) (e:Ending) (w':World):Prop:=Kept w w'∧∃ v,e=.returned v∧InS w' v ns
end Go.Proofs.YtabjjdicffcolaaGreatDoor
namespace Go.Proofs.YtabjjdicffcolaaGreatDoor
open Go.Lib (hid)
open Go.RowKit
variable {e:En} {p:Int} {ov:Iv→Nat→Outc Iv} {ns outs:List Int} {ls:List Ln} {l r:List RawI} {S c i k n:Nat} {A:Option Addr} {a:RawI} {v ve vt:Value} {w w':World}
theorem RetN.good {e:Ending}(h:RetN ns w e w'):Fk (fun v w=>InS w v ns) w e w':=by
 obtain ⟨k,v,e,h⟩:=h;exact ⟨v,e,k,h⟩
theorem Alx (p:Int)(c m:Nat)(hm:0<m)(hs:c+m≤1000):∃ n:Nat,wrap64 ((c:Int)+wrap64 ((IntKind.u64.wrap p).tmod (m:Int)))=(n:Int)∧c≤n∧n<c+m:=by
 rw [IntKind.wrap_u64];have h0:0≤p%18446744073709551616:=Int.emod_nonneg _ (by decide);rw [Int.tmod_eq_emod_of_nonneg h0];have h1:0≤p%18446744073709551616%(m:Int):=Int.emod_nonneg _ (by omega);have h2:p%18446744073709551616%(m:Int)<m:=Int.emod_lt_of_pos _ (by omega);generalize p%18446744073709551616%(m:Int)=x at *;refine ⟨(c+x).toNat,?_,by omega,by omega⟩;unfold wrap64;omega
theorem Kt {m:Nat}(h:a.lens k)(hk:k≤m):a.lens m:=⟨Nat.le_trans h.1 hk,Nat.le_trans h.2 hk⟩
theorem Ade (h:Afj e=true):Mh e∧e.x.length≤8∧e.u.length≤8∧e.p.length≤8∧e.t.lens 6∧(∀ a∈e.x,a.lens 6)∧(∀ a∈e.u,a.lens 6)∧∀ a∈e.p,a.lens 6:=by
 unfold Afj at h;simp only [Bool.and_eq_true] at h;obtain ⟨⟨⟨h1,h2⟩,h3⟩,h4⟩:=h;obtain ⟨-,a1⟩:=Lp h1;obtain ⟨l2,a2⟩:=Lp h2;obtain ⟨l3,a3⟩:=Lp h3;obtain ⟨l4,a4⟩:=Lp h4;have at':=a1 e.t (by simp);exact ⟨⟨Kt at' (by decide),fun a ha=>Kt (a2 a ha) (by decide),fun a ha=>Kt (a3 a ha) (by decide),fun a ha=>Kt (a4 a ha) (by decide),by omega,by omega,by omega⟩,l2,l3,l4,at',a2,a3,a4⟩
def SA (_:Int):Prop:=True
theorem Anh:Zt SA:=⟨fun _ _ _ _ _ _ _=>Ake,fun _ _ _ _ _ _ _=>Aki,fun _ _ _ _ _ _ _=>Akf,fun _ _ _ _ _ _ _=>Amm,fun _ _ _ _ _=>Amq,fun _ _ _ _ _=>Amt,fun _ _ _ _ _=>Akx⟩
theorem LnS.take (h:LnS w (.slice A ls.length c) ls)(hk:k≤ls.length):LnS w (.slice A k c) (ls.take k):=by
 obtain ⟨A',c',e,hc,hA⟩:=h;injection e with e1 e2 e3
 subst e1 e3;have hl:(ls.take k).length=k:=by rw [List.length_take];omega
 refine ⟨A,c,by rw [hl],by omega,fun h0=>?_⟩;obtain ⟨b,off,rfl,hd⟩:=hA (by omega);refine ⟨b,off,rfl,fun i l hi=>hd i l ?_⟩;have:=(List.getElem?_eq_some_iff.1 hi).1;rwa [List.getElem?_take_of_lt (by omega)] at hi
theorem IvS.take (h:IvS w (.slice A n c) l)(hk:k≤l.length):IvS w (.slice A k c) (l.take k):=by
 obtain ⟨A',c',e,hc,hA⟩:=h;injection e with e1 e2 e3
 subst e1 e3;have hl:(l.take k).length=k:=by rw [List.length_take];omega
 refine ⟨A,c,by rw [hl],by omega,fun h0=>?_⟩;obtain ⟨b,off,rfl,hd⟩:=hA (by omega);refine ⟨b,off,rfl,fun i a hi=>hd i a ?_⟩;have:=(List.getElem?_eq_some_iff.1 hi).1;rwa [List.getElem?_take_of_lt (by omega)] at hi
theorem Yb {e:En}{p:Nat}(he:e.Cl)(p1:1≤p)(p2:p≤300):∀ (ls:List Ln) (out:List RawI),(∀ l∈ls,l.op=1→l.k.iv.Ok)→Cl out→Cl (Ca ovI e p out ls).v
 | [],out,_,ho=>ho
 | l :: ls, out, hk, ho => by
   rw [Ca];split
   ·exact Yb he p1 p2 ls _ (fun l hl=>hk l (List.mem_cons_of_mem _ hl)) (Wg he ho (hk l (List.mem_cons_self ..)) p1 p2)
   ·intro a ha;cases ha
theorem Alj (he:EnR w ve e)(h:Mr e=true):e.Cl:=by
 obtain ⟨x0,x1,x2,x3,x4,x5,sx,su,sp,rfl,ht,hx,hu,hp⟩:=he;unfold Mr at h;simp only [Bool.and_eq_true] at h;exact ⟨ht.clean h.1.1.1,hx.cl h.1.1.2,hu.cl h.1.2,hp.cl h.2⟩
theorem Afa {x u:Int}(hv:TpR w vt ls outs)(h:Jt ls outs x u p=true):∀ l∈ls,l.op=1→l.k.iv.Ok∧l.k.iv.raw=l.k:=by
 obtain ⟨s,o,rfl,⟨A,c,rfl,hc,hA⟩,-⟩:=hv;intro l hl h1;obtain ⟨i,hi⟩:=List.getElem?_of_mem hl;obtain ⟨b,off,rfl,hd⟩:=hA (by have:=(List.getElem?_eq_some_iff.1 hi).1;omega);obtain ⟨-,-,-,y0,y1,y2,y3,y4,y5,-,-,-,-,-,-,hI⟩:=hd i l hi;exact hI.clean (Aay h l hl h1)
theorem Aj6 (hv:TpR w vt ls outs)(he:EnR w ve e)(h:(Cm ovI ls outs e n).k=0):e.Cl∧(∀ l∈ls,l.op=1→l.k.iv.Ok)∧Cl (Cm ovI ls outs e n).v:=by
 obtain ⟨h1,h2,h3⟩:=Ic h;have c1:=Alj he h1.2.2.2;have c2:=fun l hl h0=>(Afa hv h1.2.2.1 l hl h0).1
 refine ⟨c1,c2,?_⟩;rw [h3];exact Yb c1 (by omega) (by omega) ls [] c2 (fun a ha=>by cases ha)
theorem Am0 (op:Int):Ahz SA op:=fun _ _=>trivial
theorem Uo (h:(Cm ov ls outs e p).k≠0):Gc ov ls outs e p=⟨([],[]),(Cm ov ls outs e p).k⟩:=by
 unfold Gc;rw [if_pos h]
theorem Q0 {p:Nat}(h:(Cm ov ls outs e p).k=0):((Gc ov ls outs e p).k≠0∧(Gc ov ls outs e p).v=([],[])) ∨
 ((Gc ov ls outs e p).k=0∧(Da p e.x.length (Cm ov ls outs e p).v [] ls).k=0∧(Gc ov ls outs e p).v=(outs.map fun n=>(Cm ov ls outs e p).v.getD n.toNat rzI,outs.map fun n=>(Da p e.x.length (Cm ov ls outs e p).v [] ls).v.getD n.toNat [])):=by
 unfold Gc;rw [if_neg (by rw [h];decide),Int.toNat_natCast];by_cases hk:(Da p e.x.length (Cm ov ls outs e p).v [] ls).k=0
 ·rw [if_neg (by rw [hk];decide)];exact .inr ⟨rfl,hk,rfl⟩
 ·rw [if_pos hk];exact .inl ⟨hk,rfl⟩
theorem Afq {p:Nat}(h:(Cm ov ls outs e p).k=0)(hk:(Da p e.x.length (Cm ov ls outs e p).v [] ls).k=0) :
 ∀ r∈outs.map fun n=>(Da p e.x.length (Cm ov ls outs e p).v [] ls).v.getD n.toNat [],r.length=e.x.length:=by
 obtain ⟨⟨h1,h2,h3,-⟩,-,-⟩:=Ic h;have ho:=(Uy h3).2;unfold Jt at h3;simp only [Bool.and_eq_true] at h3;obtain ⟨q1,q2⟩:=Uq ls [] (fun j l hj=>by simpa using (Hs _ _ _ ls 0).1 h3.1.2 j l hj) (fun r hr=>by cases hr) hk;intro r hr;obtain ⟨n,hn,rfl⟩:=List.mem_map.1 hr;obtain ⟨n0,n1⟩:=ho n hn;rw [List.getD_eq_getElem?_getD,List.getElem?_eq_getElem (by rw [q1];simp;omega),Option.getD_some];exact q2 _ (List.getElem_mem _)
def Ru (l r:List RawI):Prop:=r.length=l.length∧∀ (i:Nat) a,l[i]?=some a→r[i]?=some ⟨a.lo,a.lo⟩∨r[i]?=some ⟨a.hi,a.hi⟩
theorem Sz {b:RawI}(h:Ru (l.take i) r)(ha:l[i]?=some a)(hb:b=⟨a.lo,a.lo⟩∨b=⟨a.hi,a.hi⟩):Ru (l.take (i+1)) (r++[b]):=by
 have hi:=(List.getElem?_eq_some_iff.1 ha).1;have hl:(l.take i).length=i:=by rw [List.length_take];omega
 obtain ⟨h1,h2⟩:=h;refine ⟨by rw [List.length_append,List.length_take,h1,hl];simp;omega,fun j x hj=>?_⟩;by_cases e:j<i
 ·rw [List.getElem?_append_left (by omega)];refine h2 j x ?_;rw [List.getElem?_take_of_lt e];rwa [List.getElem?_take_of_lt (by omega)] at hj
 ·have hj2:=(List.getElem?_eq_some_iff.1 hj).1;rw [List.length_take] at hj2;obtain rfl:j=i:=by omega
  rw [List.getElem?_take_of_lt (by omega),ha] at hj;cases hj;rw [List.getElem?_append_right (by omega),h1,hl,Nat.sub_self];rcases hb with rfl | rfl
  ·exact .inl rfl
  ·exact .inr rfl
def PkV (l:List RawI) (S:Nat) (v:Value) (w:World):Prop:=∃ r,IvS w v r∧Ru l r∧∀ g,v.ownBlock=some g→S≤g
def RetPk (l:List RawI) (w:World) (e:Ending) (w':World):Prop:=Kept w w'∧∃ v,e=.returned v∧PkV l w.heap.size v w'
theorem IvS.kbF {X:List Nat}(h:IvS w v l)(k:KB w X w')(hf:∀ g,v.ownBlock=some g→g∉X):IvS w' v l:=by
 obtain ⟨A,c,rfl,hc,hA⟩:=h;refine ⟨A,c,rfl,hc,fun h0=>?_⟩;obtain ⟨b,off,rfl,hd⟩:=hA h0;exact ⟨b,off,rfl,fun i a hi=>(hd i a hi).kb k (hf b rfl)⟩
theorem PkV.kb {b:Nat}(h:PkV l S v w)(k:KB w [b] w')(hb:b<S):PkV l S v w':=by
 obtain ⟨r,h1,h2,h3⟩:=h;exact ⟨r,h1.kbF k (fun g hg=>by have:=h3 g hg;simp;omega),h2,h3⟩
theorem PkV.kept (h:PkV l S v w)(k:Kept w w'):PkV l S v w':=by
 obtain ⟨r,h1,h2,h3⟩:=h;exact ⟨r,h1.kept k,h2,h3⟩
theorem RetPk.good {e:Ending}(h:RetPk l w e w')(hS:S≤w.heap.size):Fk (fun u w=>PkV l S u w) w e w':=by
 obtain ⟨k,v,e,r,h1,h2,h3⟩:=h;exact ⟨v,e,k,r,h1,h2,fun g hg=>Nat.le_trans hS (h3 g hg)⟩
def PkJ (b S:Nat) (y0 y1 y2 y3 y4 y5:Value) (lx lu lp:List RawI) (a6 a7 a8:Bool) (w:World):Prop:=∃ s6 s7 s8,w.heap[b]?=some (.cells #[y0,y1,y2,y3,y4,y5,s6,s7,s8] 33 (0,0)) ∧
 (Be s6∧Be s7∧Be s8)∧(a6=true→PkV lx S s6 w)∧(a7=true→PkV lu S s7 w)∧(a8=true→PkV lp S s8 w)
section
variable {b S:Nat} {y0 y1 y2 y3 y4 y5:Value} {lx lu lp:List RawI} {a6 a7 a8:Bool} {w w':World}
theorem PkJ.kept (q:Kept w w')(h:PkJ b S y0 y1 y2 y3 y4 y5 lx lu lp a6 a7 a8 w):PkJ b S y0 y1 y2 y3 y4 y5 lx lu lp a6 a7 a8 w':=by
 obtain ⟨s6,s7,s8,h0,hn,h6,h7,h8⟩:=h;exact ⟨s6,s7,s8,Bk h0 q,hn,fun h=>(h6 h).kept q,fun h=>(h7 h).kept q,fun h=>(h8 h).kept q⟩
theorem PkV.nl {l:List RawI}{v:Value}(h:PkV l S v w):Be v:=by
 obtain ⟨r,⟨A,c,rfl,-⟩,-⟩:=h;exact Ag _ _ _
theorem PkJ.cells (h:PkJ b S y0 y1 y2 y3 y4 y5 lx lu lp a6 a7 a8 w):∃ s6 s7 s8,w.cell? ⟨b,6,none⟩=some s6∧w.cell? ⟨b,7,none⟩=some s7∧w.cell? ⟨b,8,none⟩=some s8∧w.frozen? ⟨b,6,none⟩=false∧w.frozen? ⟨b,7,none⟩=false∧w.frozen? ⟨b,8,none⟩=false:=by
 obtain ⟨s6,s7,s8,h0,-⟩:=h;exact ⟨s6,s7,s8,Ae h0 6 _ rfl,Ae h0 7 _ rfl,Ae h0 8 _ rfl,Ap h0 6,Ap h0 7,Ap h0 8⟩
end
theorem Al6 {k:Int}(hv:IvS w v l)(hn:l.length≤8):Calls Tryz.prog 15 #[v,.int .u64 k] w (RetPk l w):=by
 obtain ⟨A,c,rfl,hc,hA⟩:=hv;have HA:=hid hA;clear hA;obtain ⟨n,hn'⟩:∃ n,n=l.length:=⟨_,rfl⟩;rw [←hn'] at hn hc HA ⊢;have HN:=hid hn';clear hn';go_enter Tryz.func15,Tryz.ntmps15;go_wp2_with fail
 go_loopw [5,6] (fun u t wr=>∃ (i:Nat) (r:List RawI) (xs:List Value),i≤n∧t=.int .i64 i∧OwnI wr w.heap.size u r xs∧Ru (l.take i) r∧Kept w wr) (fun _ t _=>(n-intOf t).toNat)
 case atStart=>exact ⟨0,[],[],Nat.zero_le _,rfl,OwnI.nil _ _,⟨rfl,fun i a h=>by simp at h⟩,Below.refl _ _⟩
 case round =>
  obtain ⟨i,r,xs,hi,rfl,hown,hpk,hKr⟩:=hrel;have KR:=hid hKr;have OW:=hid hown;have PK:=hid hpk;clear hKr hown hpk;by_cases hlt:i<n
  ·obtain ⟨b,off,rfl,hd⟩:=HA.out (by omega);obtain ⟨a,ha⟩:∃ a,l[i]?=some a:=⟨_,List.getElem?_eq_getElem (by have:=HN.out;omega)⟩;obtain ⟨y0,y1,y2,y3,y4,y5,g0,g1,g2,g3,g4,g5,hI⟩:=(hd i a ha).kept KR.out;obtain ⟨A1,l1,q1,A2,l2,q2,ei,d1,d2⟩:=Aq hI;injection ei with ei;injection ei with ei
   simp only [List.cons.injEq,and_true] at ei;obtain ⟨rfl,rfl,rfl,rfl,rfl,rfl⟩:=ei;clear hI hd;have HX:=hid ha;have lrow:r.length≤1000:=by have:=PK.out.1;rw [this,List.length_take];omega
   have CE:Hid (Cells6 wr b (off+i*6) (.bool a.lo.neg) (.slice A1 l1 q1) (.int .i64 a.lo.e) (.bool a.hi.neg) (.slice A2 l2 q2) (.int .i64 a.hi.e)):=hid ⟨g0,g1,g2,g3,g4,g5⟩;obtain ⟨Y,hY,kY,hy,lY⟩:=Lg wr (.bool a.lo.neg) (.slice A1 l1 q1) (.int .i64 a.lo.e);have HY:=hid hY;have D1:=hid d1;have D2:=hid d2;clear ha hY d1 d2;go_upto_region 6 with fail;rw [←HY.out];obtain ⟨f0,f1,f2,f3,f4,f5⟩:=CE.out.kept kY;clear g0 g1 g2 g3 g4 g5;obtain ⟨-,h0,h1,h2,-⟩:=hy.facts;have HYb:=hid hy;obtain ⟨tb,htb⟩:∃ b,(bits BinOp.and IntKind.u64 (k/2^min (IntKind.u64.wrap (bits BinOp.and IntKind.i64 (i:Int) 7)).toNat 64) 1==1)=b:=⟨_,rfl⟩
   cases tb
   ·have KZ:=hid kY;have IA:Hid (IvR Y (.agg #[.bool a.lo.neg,.slice A1 l1 q1,.int .i64 a.lo.e,.bool a.lo.neg,.slice A1 l1 q1,.int .i64 a.lo.e]) ⟨a.lo,a.lo⟩):=hid ⟨_,_,_,_,_,_,rfl,D1.out.kept kY,D1.out.kept kY⟩;have lbase:w.heap.size≤Y.heap.size:=Nat.le_trans KR.out.size kY.size;clear hy kY
    go_wp2_with (at_builtin;refine F9 rfl (.tmp 31) (.tmp 35) rfl rfl (OW.out.kept (KZ.out.trans (Ad _ _))) (IA.out.kept (Ad _ _)) (Eo _ _ _ _ _ _ _) rfl lrow (Nat.le_trans lbase (by simp)) ?_;intro v' X' OX' gX')
    have K':=hid (OwnI.grown_kept (OW.out.kept (KZ.out.trans (Ad _ _))) (KR.out.trans (KZ.out.trans (Ad _ _))) gX');have OX:=hid OX';clear h0 h1 h2 f0 f1 f2 f3 f4 f5 gX' OX';go_roundw
    case rel=>exact ⟨i+1,_,_,by omega,by go_num,OX.out,Sz PK.out HX.out (.inl rfl),K'.out⟩
    case measure=>simp only [intOf];omega
   ·go_upto_region 7 with fail;obtain ⟨-,-,-,-,e0,e1,e2⟩:=hy.facts;go_upto_region 8 with fail;change Code.wp _ _ _ _ (dyW Y wr.heap.size _ _ _);have KZ:=hid (An (x:=.bool a.hi.neg) (y:=.slice A2 l2 q2) (z:=.int .i64 a.hi.e) kY (Nat.le_refl _));have HZ:=hid (hy.laid (.bool a.hi.neg) (.slice A2 l2 q2) (.int .i64 a.hi.e));clear h0 h1 h2 f0 f1 f2 f3 f4 f5 e0 e1 e2 htb hy kY HYb HY;generalize dyW Y wr.heap.size (.bool a.hi.neg) (.slice A2 l2 q2) (.int .i64 a.hi.e)=Z at *;obtain ⟨-,h0,h1,h2,-⟩:=HZ.out.facts;have IA:Hid (IvR Z (.agg #[.bool a.hi.neg,.slice A2 l2 q2,.int .i64 a.hi.e,.bool a.hi.neg,.slice A2 l2 q2,.int .i64 a.hi.e]) ⟨a.hi,a.hi⟩):=hid ⟨_,_,_,_,_,_,rfl,D2.out.kept KZ.out,D2.out.kept KZ.out⟩
    have lbase:w.heap.size≤Z.heap.size:=Nat.le_trans KR.out.size KZ.out.size
    go_wp2_with (at_builtin;refine F9 rfl (.tmp 31) (.tmp 35) rfl rfl (OW.out.kept (KZ.out.trans (Ad _ _))) (IA.out.kept (Ad _ _)) (Eo _ _ _ _ _ _ _) rfl lrow (Nat.le_trans lbase (by simp)) ?_;intro v' X' OX' gX')
    have K':=hid (OwnI.grown_kept (OW.out.kept (KZ.out.trans (Ad _ _))) (KR.out.trans (KZ.out.trans (Ad _ _))) gX');have OX:=hid OX';clear h0 h1 h2 gX' OX';go_roundw
    case rel=>exact ⟨i+1,_,_,by omega,by go_num,OX.out,Sz PK.out HX.out (.inr rfl),K'.out⟩
    case measure=>simp only [intOf];omega
  ·obtain rfl:n=i:=by omega
   go_wp2_with fail;have h:=OW.out.ivS;obtain ⟨A9,c9,rfl,-,-⟩:=OW.out.ivS;go_ret;have hp:=PK.out;rw [List.take_of_length_le (by have:=HN.out;omega)] at hp;exact ⟨KR.out,_,rfl,r,h,hp,OW.out.base⟩
theorem Aa3 (h:Ru l r)(hc:Cl l):LW r l∧Cl r∧r.all Fh=true:=by
 obtain ⟨h1,h2⟩:=h;have key:∀ (i:Nat) b,r[i]?=some b→∃ a,l[i]?=some a∧(b=⟨a.lo,a.lo⟩∨b=⟨a.hi,a.hi⟩):=fun i b hb=>by
  have hi:=(List.getElem?_eq_some_iff.1 hb).1;obtain ⟨a,ha⟩:∃ a,l[i]?=some a:=⟨_,List.getElem?_eq_getElem (by omega)⟩;refine ⟨a,ha,?_⟩;rcases h2 i a ha with h | h<;>rw [hb] at h<;>cases h
  ·exact .inl rfl
  ·exact .inr rfl
 have cl1:∀ a∈l,∀ b,(b=(⟨a.lo,a.lo⟩:RawI)∨b=⟨a.hi,a.hi⟩)→b.iv.Ok∧b.iv.raw=b∧Wth b.iv a.iv:=fun a ha b hb=>by
  obtain ⟨⟨o1,o2,o3⟩,o4⟩:=hc a ha;have e1:a.lo.dy.raw=a.lo:=congrArg RawI.lo o4;have e2:a.hi.dy.raw=a.hi:=congrArg RawI.hi o4;rcases hb with rfl | rfl
  ·exact ⟨⟨o1,o1,Rat.le_refl⟩,by show RawI.mk a.lo.dy.raw a.lo.dy.raw=_;rw [e1],Rat.le_refl,o3⟩
  ·exact ⟨⟨o2,o2,Rat.le_refl⟩,by show RawI.mk a.hi.dy.raw a.hi.dy.raw=_;rw [e2],o3,Rat.le_refl⟩
 have hcl:Cl r:=fun b hb=>by
  obtain ⟨i,hi⟩:=List.getElem?_of_mem hb;obtain ⟨a,ha,hab⟩:=key i b hi;obtain ⟨c1,c2,-⟩:=cl1 a (List.mem_of_getElem? ha) b hab;exact ⟨c1,c2⟩
 refine ⟨⟨h1,fun n=>?_⟩,hcl,List.all_eq_true.2 fun b hb=>?_⟩
 ·unfold atI;rw [List.getD_eq_getElem?_getD,List.getD_eq_getElem?_getD];cases hr:r[n.toNat]? with
  | none =>
    rw [List.getElem?_eq_none (by have:=List.getElem?_eq_none_iff.1 hr;omega)];exact Wth.refl _
  | some b =>
    obtain ⟨a,ha,hab⟩:=key _ b hr;rw [ha];exact (cl1 a (List.mem_of_getElem? ha) b hab).2.2
 ·obtain ⟨c1,c2⟩:=hcl b hb;rw [←c2];exact Dt c1
theorem Aab {e':En}(h:(Cm ovI ls outs e n).k=0)(he:e.Cl)(he':e'.Cl)(hm:Mr e'=true)(hw:EnW e' e)(hk:∀ l∈ls,l.op=1→l.k.iv.Ok) :
 Lmb (Cm ovI ls outs e' n).k∧((Cm ovI ls outs e' n).k=0→LW (Cm ovI ls outs e' n).v (Cm ovI ls outs e n).v∧Cl (Cm ovI ls outs e' n).v):=by
 obtain ⟨h1,h2,h3⟩:=Ic h;have e1:Cm ovI ls outs e' n=Ca ovI e' n [] ls:=by
  unfold Cm;rw [if_pos ⟨h1.1,h1.2.1,by rw [hw.x.1,hw.u.1,hw.p.1];exact h1.2.2.1,hm⟩];rfl
 rw [e1,h3];rw [h3] at h;obtain ⟨a,b⟩:=Ux he' he hw (n:=n) (m:=n) (by omega) (Nat.le_refl _) (by omega) ls [] [] hk (fun a ha=>by cases ha) (fun a ha=>by cases ha) (LW.refl _) h;exact ⟨a,fun h0=>⟨(b h0).1,(b h0).2.1⟩⟩
theorem Ad0 (h:Ru l r)(hl:∀ a∈l,a.lens k):∀ a∈r,a.lens k:=by
 obtain ⟨h1,h2⟩:=h;intro b hb;obtain ⟨i,hi⟩:=List.getElem?_of_mem hb;have hlt:=(List.getElem?_eq_some_iff.1 hi).1;obtain ⟨a,ha⟩:∃ a,l[i]?=some a:=⟨_,List.getElem?_eq_getElem (by omega)⟩;have hla:=hl a (List.mem_of_getElem? ha);rcases h2 i a ha with h | h<;>rw [hi] at h<;>cases h
 ·exact ⟨hla.1,hla.1⟩
 ·exact ⟨hla.2,hla.2⟩
theorem Abe (hv:TpR w vt ls outs)(he:EnR w ve e)(hp:Ru e.x r)(h1:(Gc ovI ls outs e n).k=0)(h2:(Gc ovI ls outs ⟨e.t,r,e.u,e.p⟩ n).k=0) :
 ∃ ga gb,(Gc ovI ls outs e n).v.2=(outs.map fun m=>ga.getD m.toNat [])∧(Gc ovI ls outs ⟨e.t,r,e.u,e.p⟩ n).v.2=(outs.map fun m=>gb.getD m.toNat [])∧(∀ x∈outs.map fun m=>ga.getD m.toNat [],x.length=e.x.length)∧RW gb ga∧∀ z∈outs,0≤z∧z<ls.length:=by
 have t1:(Cm ovI ls outs e n).k=0:=by
  by_cases h:(Cm ovI ls outs e n).k=0
  ·exact h
  ·rw [Uo h] at h1;exact absurd h1 h
 have t2:(Cm ovI ls outs ⟨e.t,r,e.u,e.p⟩ n).k=0:=by
  by_cases h:(Cm ovI ls outs ⟨e.t,r,e.u,e.p⟩ n).k=0
  ·exact h
  ·rw [Uo h] at h2;exact absurd h2 h
 obtain ⟨ec,kc,gc⟩:=Aj6 hv he t1;obtain ⟨wx,cx,mx⟩:=Aa3 hp ec.x;obtain ⟨⟨n1,n2,-,hme⟩,-,-⟩:=Ic t1;have hme2:Mr ⟨e.t,r,e.u,e.p⟩=true:=(Ic t2).1.2.2.2;obtain ⟨-,law⟩:=Aab (n:=n) t1 ec (e':=⟨e.t,r,e.u,e.p⟩) ⟨ec.t,cx,ec.u,ec.p⟩ hme2 ⟨Wth.refl _,wx,LW.refl _,LW.refl _⟩ kc;obtain ⟨lw,cl⟩:=law t2;rcases Q0 t1 with ⟨a1,-⟩ | ⟨-,a2,a3⟩
 ·exact absurd h1 a1
 rcases Q0 t2 with ⟨b1,-⟩ | ⟨-,b2,b3⟩
 ·exact absurd h2 b1
 have hx:r.length=e.x.length:=hp.1;simp only [hx] at b2 b3;exact ⟨_,_,congrArg Prod.snd a3,congrArg Prod.snd b3,Afq t1 a2,Ur (by omega) cl gc lw ls [] [] RW.nil b2 a2,(Uy (Ic t1).1.2.2.1).2⟩
theorem Ag7 {corner:Int}(hv:TpR w vt ls outs)(he:EnR w ve e)(hok:W5 ls)(hn:ls.length≤1000000000000000)(hno:outs.length≤1000000000000000)(hle:Aer e)(hT:Tab w) :
 Calls Tryz.prog 3 #[vt,ve,.int .i64 corner,.int .i64 p] w (RetK (.bool true) w):=by
 have T:=hid hT;have HTP:=hid hv;have HEN:=hid he;have OK:=hid hok;have FC:=hid (fun w1 (k:Kept w w1)=>Am5 (hv.kept k) hn hno hok);have EC:=hid (fun w1 (k:Kept w w1)=>Ali (he.kept k) hle);obtain ⟨s,o,rfl,hls,hou⟩:=hv;obtain ⟨x0,x1,x2,x3,x4,x5,sx,su,sp,rfl,ht,hx,hu,hp⟩:=he;have HX:=hid hx;have HU:=hid hu;have HP:=hid hp;have HTT:=hid ht;obtain ⟨TA,Tl,Tc,TA',Tl',Tc',ei,-,-⟩:=Aq ht;injection ei with ei;injection ei with ei
 simp only [List.cons.injEq,and_true] at ei;obtain ⟨rfl,rfl,rfl,rfl,rfl,rfl⟩:=ei;obtain ⟨A,c,rfl,hc,-⟩:=hls;obtain ⟨B,d,rfl,hd,-⟩:=hou;obtain ⟨AX,cx,rfl,-,-⟩:=hx;obtain ⟨AU,cu,rfl,-,-⟩:=hu;obtain ⟨AP,cp,rfl,-,-⟩:=hp;obtain ⟨W,hW,kW,hb,hb',lW⟩:=Zz w (.slice A ls.length c) (.slice B outs.length d) (.bool e.t.lo.neg) (.slice TA Tl Tc) (.int .i64 e.t.lo.e) (.bool e.t.hi.neg) (.slice TA' Tl' Tc') (.int .i64 e.t.hi.e) (.slice AX e.x.length cx) (.slice AU e.u.length cu) (.slice AP e.p.length cp);have HW:=hid hW;have K:=hid kW;have HB:=hid hb;have HB':=hid hb';obtain ⟨c0,c1⟩:=E4 hb;obtain ⟨bf,hbf⟩:∃ b,Sf ls outs=b:=⟨_,rfl⟩
 rw [hbf] at FC;obtain ⟨be,hbe⟩:∃ b,Afj e=b:=⟨_,rfl⟩;rw [hbe] at EC;have HBF:=hid hbf;have HBE:=hid hbe;clear hT hok hn hno hle ht hW kW hb hb' hbf hbe;go_enter Tryz.func3,Tryz.ntmps3;go_upto_region 1 with fail;rw [←HW.out];go_wp2_with fail;refine (FC.out _ K.out).mono ?_;rintro ee w1 ⟨rfl,q⟩;simp only [];replace K:=hid (K.out.trans q);replace HB:=hid (Bk HB.out q);replace HB':=hid (Bk HB'.out q);clear q c0 c1 HW FC;obtain ⟨d0,d1,d2,d3,d4,d5,d6,d7,d8⟩:=Bo HB'.out;cases bf
 ·go_wp2_with fail;refine (Lb (T.out.kept K.out)).mono ?_;rintro ee w2 ⟨rfl,q⟩;simp only [];go_wp2_with fail;go_ret;exact ⟨rfl,K.out.trans q⟩
 obtain ⟨c0,c1⟩:=E4 HB.out;by_cases h25:ls.length≤25
 case neg =>
  have g25:decide ((25:Int)<(ls.length:Int))=true:=by simp;omega
  go_wp2_with fail;refine (Lb (T.out.kept K.out)).mono ?_;rintro ee w2 ⟨rfl,q⟩;simp only [];go_wp2_with fail;go_ret;exact ⟨rfl,K.out.trans q⟩
 have g25:decide ((25:Int)<(ls.length:Int))=false:=by simp;omega
 go_wp2_with fail;refine (EC.out _ K.out).mono ?_;rintro ee w2 ⟨rfl,q⟩;simp only [];replace K:=hid (K.out.trans q);replace HB:=hid (Bk HB.out q);replace HB':=hid (Bk HB'.out q);clear q d0 d1 d2 d3 d4 d5 d6 d7 d8 c0 c1 g25 EC;cases be
 ·go_wp2_with fail;refine (Lb (T.out.kept K.out)).mono ?_;rintro ee w3 ⟨rfl,q⟩;simp only [];go_wp2_with fail;go_ret;exact ⟨rfl,K.out.trans q⟩
 obtain ⟨l40,o12,lk⟩:=Aal HBF.out;obtain ⟨le,lx8,lu8,lp8,lt6,lx6,lu6,lp6⟩:=Ade HBE.out;have LE:=hid le;have LX6:=hid lx6;obtain ⟨n,hnb,n1,n2⟩:=Alx p 8 53 (by decide) (by decide);have hnb':wrap64 (8+wrap64 ((IntKind.u64.wrap p).tmod 53))=(n:Int):=hnb;have GC:=hid (fun w1 (k:Kept w w1)=>V8 (ov:=ovI) (p:=(n:Int)) (HTP.out.kept k) (HEN.out.kept k) OK.out LE.out (by omega) (T.out.kept k) (fun _ _ _=>Acm) Anh (fun _ _ _ _=>trivial) (fun l _=>Am0 l.op) (by omega));obtain ⟨G,hG⟩:∃ G,Gc ovI ls outs e n=G:=⟨_,rfl⟩;have HG:=hid hG;rw [hG] at GC;clear hnb hG le lt6 lx6 lu6 lp6 lk
 obtain ⟨c0,c1⟩:=E4 HB.out;obtain ⟨d0,d1,d2,d3,d4,d5,d6,d7,d8⟩:=Bo HB'.out;go_upto_region 4 with fail;simp only [hnb'];clear hnb';go_wp2_with fail;refine (GC.out _ K.out).mono ?_;rintro ee w3 ⟨q,v3,v4,rfl,-,h4⟩;simp only [];replace K:=hid (K.out.trans q);replace HB:=hid (Bk HB.out q);replace HB':=hid (Bk HB'.out q);have H4:=hid h4;obtain ⟨A4,c4,rfl,hc4,-⟩:=h4;clear q c0 c1 d0 d1 d2 d3 d4 d5 d6 d7 d8 GC;obtain ⟨d0,d1,d2,d3,d4,d5,d6,d7,d8⟩:=Bo HB'.out;obtain ⟨Y,hY,kY,hy,lY⟩:=Akk w3 (.bool e.t.lo.neg) (.slice TA Tl Tc) (.int .i64 e.t.lo.e) (.bool e.t.hi.neg) (.slice TA' Tl' Tc') (.int .i64 e.t.hi.e) (.slice AX e.x.length cx) (.slice AU e.u.length cu) (.slice AP e.p.length cp)
 have HY:=hid hY;have KY:=hid kY;have HYB:=hid hy;clear hY kY hy;go_upto_region 6 with fail;rw [←HY.out];clear d0 d1 d2 d3 d4 d5 d6 d7 d8 HY;have NB:w.heap.size+1≠w3.heap.size:=by have h1:=(Array.getElem?_eq_some_iff.1 HB'.out).1;omega
 have NBT:w.heap.size≠w3.heap.size:=by have h1:=(Array.getElem?_eq_some_iff.1 HB.out).1;omega
 have lbw:w.heap.size≤w3.heap.size:=K.out.size;have LS3:=hid (show w3.heap.size<Y.heap.size by omega);replace HB:=hid (Bk HB.out KY.out);replace HB':=hid (Bk HB'.out KY.out);replace K:=hid (K.out.trans KY.out);have PC:=hid (Al6 (k:=IntKind.u64.wrap corner) (HX.out.kept K.out) lx8);have H4Y:=hid (fun w1 (k:KB Y [w3.heap.size] w1)=>show RowsS w1 _ _ from H4.out.kept (KB.kept KY.out k (by simp)));clear H4 KY lY;generalize w3.heap.size=by' at *
 obtain ⟨d0,d1,d2,d3,d4,d5,d6,d7,d8⟩:=Bo HB'.out;have f6:=Ap HYB.out 6;go_wp2_with fail;refine PC.out.mono ?_;rintro ee w5 ⟨q,v5,rfl,r,hr,hpk,hfr⟩;simp only [];have HYB5:=hid (Bk HYB.out q);have HR:=hid hr;obtain ⟨A5,c5,rfl,-,-⟩:=hr;clear d0 d1 d2 d3 d4 d5 d6 d7 d8 f6 PC;obtain ⟨d0,d1,d2,d3,d4,d5,d6,d7,d8⟩:=Bo HYB5.out;have f6:=Ap HYB5.out 6;go_upto_region 7 with fail;have hbX:=Aw (i:=6) HYB5.out (.slice A5 r.length c5);simp only [List.setIfInBounds_toArray,List.set_cons_zero,List.set_cons_succ] at hbX;have kbX:KB w5 [by'] (w5.setCell ⟨by',6,none⟩ (.slice A5 r.length c5)):=(KB.refl w5 [by']).setCell (by simp) d6 (Ag _ _ _) _
 clear d0 d1 d2 d3 d4 d5 d6 d7 d8 f6;generalize w5.setCell ⟨by',6,none⟩ (.slice A5 r.length c5)=X at *;have HRX:=hid (HR.out.kbF kbX (fun g hg hm=>by have:=hfr g hg;have:=LS3.out;simp at hm;omega));have H4X:=hid (H4Y.out _ ((q.kb [by']).trans kbX (by simp)));have KX:=hid (KB.kept (K.out.trans q) kbX (by simp;omega));have HBX:=hid (kbX.blk (Bk HB.out q) (by simpa using NBT));have HYX:=hid hbX;have HPK:=hid hpk;have hEN:EnR X (.agg #[.bool e.t.lo.neg,.slice TA Tl Tc,.int .i64 e.t.lo.e,.bool e.t.hi.neg,.slice TA' Tl' Tc',.int .i64 e.t.hi.e,.slice A5 r.length c5,.slice AU e.u.length cu,.slice AP e.p.length cp]) ⟨e.t,r,e.u,e.p⟩:=⟨_,_,_,_,_,_,_,_,_,rfl,HTT.out.kept KX.out,HRX.out,HU.out.kept KX.out,HP.out.kept KX.out⟩
 have hle2:Mh ⟨e.t,r,e.u,e.p⟩:=by
  obtain ⟨a1,a2,a3,a4,a5,a6,a7⟩:=LE.out;refine ⟨a1,fun a ha=>Kt (Ad0 hpk LX6.out a ha) (by decide),a3,a4,?_,a6,a7⟩
  show r.length≤_
  rw [hpk.1];exact a5
 have GC:=hid (V8 (ov:=ovI) (p:=(n:Int)) (HTP.out.kept KX.out) hEN OK.out hle2 (by omega) (T.out.kept KX.out) (fun _ _ _=>Acm) Anh (fun _ _ _ _=>trivial) (fun l _=>Am0 l.op) (by omega));obtain ⟨G',hG'⟩:∃ G',Gc ovI ls outs ⟨e.t,r,e.u,e.p⟩ n=G':=⟨_,rfl⟩;have HG':=hid hG';rw [hG'] at GC;clear hG' hEN hle2 hbX kbX hpk hfr q K HB HB' HYB HYB5 H4Y NB NBT lbw HR HRX;obtain ⟨c0,c1⟩:=E4 HBX.out;obtain ⟨d0,d1,d2,d3,d4,d5,d6,d7,d8⟩:=Bo HYX.out;go_wp2_with fail;refine GC.out.mono ?_;rintro ee w8 ⟨q,v8,v9,rfl,-,h9⟩;simp only [];replace KX:=hid (KX.out.trans q);replace H4X:=hid (H4X.out.kept q)
 have H9:=hid h9;obtain ⟨A9,c9,rfl,-,-⟩:=h9;clear q c0 c1 d0 d1 d2 d3 d4 d5 d6 d7 d8 GC HBX HYX;by_cases hk:G.k=0∧G'.k=0
 case neg =>
  have gk:(G.k != 0)=true∨((G.k != 0)=false∧(G'.k != 0)=true):=by
   by_cases h1:G.k=0
   ·exact .inr ⟨by simp [h1],by simp;exact fun h2=>hk ⟨h1,h2⟩⟩
   ·exact .inl (by simp [h1])
  clear hk H4X H9;rcases gk with g1 | ⟨g1,g2⟩
  ·go_wp2_with fail;refine (Lb (T.out.kept KX.out)).mono ?_;rintro ee w9 ⟨rfl,q⟩;simp only [];go_wp2_with fail;go_ret;exact ⟨rfl,KX.out.trans q⟩
  ·go_wp2_with fail;refine (Lb (T.out.kept KX.out)).mono ?_;rintro ee w9 ⟨rfl,q⟩;simp only [];go_wp2_with fail;go_ret;exact ⟨rfl,KX.out.trans q⟩
 obtain ⟨ga,gb,g1,g2,gl,gw,ls1⟩:=Abe (w:=w) HTP.out HEN.out HPK.out (by rw [HG.out];exact hk.1) (by rw [HG'.out];exact hk.2);rw [HG.out] at g1;rw [HG'.out] at g2;have gk1:(G.k != 0)=false:=by simp [hk.1]
 have gk2:(G'.k != 0)=false:=by simp [hk.2]
 have q4:=H4X.out;have q9:=H9.out;have l1:(outs.map fun m=>ga.getD m.toNat []).length=outs.length:=List.length_map _;have l2:(outs.map fun m=>gb.getD m.toNat []).length=outs.length:=List.length_map _;rw [g1] at q4 ⊢;rw [g2] at q9 ⊢;rw [l1] at q4 ⊢;rw [l2] at q9 ⊢;have RA:=hid q4;have RB:=hid q9;have GW:=hid gw;have GL:=hid gl;have LS1:=hid ls1;have LO:=hid o12;clear g1 g2 gl gw l1 l2 q4 q9 hk H4X H9 hc4 ls1;go_wp2_with fail;clear gk1 gk2
 go_loopw [17] (fun t wr=>∃ i:Nat,i≤outs.length∧t=.int .i64 i∧Kept w8 wr) (fun t _=>(outs.length-intOf t).toNat)
 case atStart=>exact ⟨0,Nat.zero_le _,rfl,Below.refl _ _⟩
 case round =>
  obtain ⟨i,hi,rfl,hkr⟩:=hrel;have KR:=hid hkr;clear hkr;by_cases hin:i<outs.length
  ·obtain ⟨z,hz⟩:∃ z,outs[i]?=some z:=⟨_,List.getElem?_eq_getElem hin⟩;obtain ⟨z0,z1⟩:=LS1.out z (List.mem_of_getElem? hz);have hra:(outs.map fun m=>ga.getD m.toNat [])[i]?=some (ga.getD z.toNat []):=by rw [List.getElem?_map,hz];rfl
   have hrb:(outs.map fun m=>gb.getD m.toNat [])[i]?=some (gb.getD z.toNat []):=by rw [List.getElem?_map,hz];rfl
   have hlw:=GW.out.2.1 z.toNat;have hca:=Ij GW.out.2.2.2 z.toNat;have hcb:=Ij GW.out.2.2.1 z.toNat;have hl1:=GL.out (ga.getD z.toNat []) (List.mem_of_getElem? hra);generalize ga.getD z.toNat []=ra at *;generalize gb.getD z.toNat []=rb at *;have hl2:rb.length=e.x.length:=hlw.1.trans hl1;obtain ⟨A7,c7,e7,-,hd7⟩:=RA.out;injection e7 with e7 e7b e7c
   subst e7;clear e7b e7c;obtain ⟨b7,o7,rfl,hat7⟩:=hd7 (by rw [List.length_map];omega);obtain ⟨s7,hc7,hs7⟩:=hat7 i ra hra;obtain ⟨A6,c6,e6,-,hd6⟩:=RB.out;injection e6 with e6 e6b e6c
   subst e6;clear e6b e6c;obtain ⟨b6,o6,rfl,hat6⟩:=hd6 (by rw [List.length_map];omega);obtain ⟨s6,hc6,hs6⟩:=hat6 i rb hrb;have SA:=hid (hs7.kept KR.out);have SB:=hid (hs6.kept KR.out);obtain ⟨A3,c3,rfl,-,-⟩:=hs7;obtain ⟨A2,c2,rfl,-,-⟩:=hs6;rw [hl1] at hc7 SA;rw [hl2] at hc6 SB;have CA:=hid ((KR.out.cell (p:=⟨b7,o7+i,none⟩) (Am hc7)).trans hc7);have CB:=hid ((KR.out.cell (p:=⟨b6,o6+i,none⟩) (Am hc6)).trans hc6);have HLW:=hid hlw;have HCA:=hid hca;have HCB:=hid hcb;have HLA:=hid hl1;have HLB:=hid hl2;have HI:=hid hin;clear hra hrb hlw hca hcb hl1 hl2 hd7 hd6 hat7 hat6 hc7 hc6 hz z0 z1
   go_wp2_with fail;clear hin
   go_loopw [18] (fun t wz=>∃ k:Nat,k≤e.x.length∧t=.int .i64 k∧Kept wr wz) (fun t _=>(e.x.length-intOf t).toNat)
   case atStart=>exact ⟨0,Nat.zero_le _,rfl,Below.refl _ _⟩
   case round =>
    obtain ⟨k,hk,rfl,hkz⟩:=hrel;have KZ:=hid hkz;clear hkz;have a0:=(KZ.out.cell (p:=⟨b7,o7+i,none⟩) (Am CA.out)).trans CA.out;have b0:=(KZ.out.cell (p:=⟨b6,o6+i,none⟩) (Am CB.out)).trans CB.out;have hil:=HI.out;by_cases hkn:k<e.x.length
    ·obtain ⟨b3,o3,xa,hA3,-,hxa,hat3⟩:=(SA.out.kept KZ.out).at (i:=k) (by rw [HLA.out];exact hkn);obtain ⟨b2,o2,xb,hA2,-,hxb,hat2⟩:=(SB.out.kept KZ.out).at (i:=k) (by rw [HLB.out];exact hkn);subst hA3 hA2;have hw1:Wth xb.iv xa.iv:=by
      have:=HLW.out.nat k;rwa [List.getD_eq_getElem?_getD,List.getD_eq_getElem?_getD,hxa,hxb] at this
     have ca:=HCA.out xa (List.mem_of_getElem? hxa);have cb:=HCB.out xb (List.mem_of_getElem? hxb);have I3:=hid (fun w1 (q:Kept wr w1)=>hat3.kept q);have I2:=hid (fun w1 (q:Kept wr w1)=>hat2.kept q);have WC:=hid (fun w1 v u (hv:IvR w1 v xb) (hu:IvR w1 u xa)=>Ad3 (hv.ivC cb.2) (hu.ivC ca.2) cb.1 ca.1 hw1.1 hw1.2);have CAZ:=hid a0;have CBZ:=hid b0;have HKN:=hid hkn;clear hat3 hat2 hxa hxb hw1 ca cb;go_upto_region 16 with fail;clear a0 b0 hkn
     refine rgL 16 ([(vE (.slice (some ⟨b6,o6,none⟩) outs.length c9)),(vE (.int .i64 (i:Int))),(vE (.pointer (some ⟨b6,o6+i,none⟩))),(vE (.slice (some ⟨b2,o2,none⟩) e.x.length c2)),(vE (.int .i64 (k:Int))),(vE (.pointer (some ⟨b2,o2+k*6,none⟩))),(fun v wv=>IvR wv v xb),(vE (.slice (some ⟨b7,o7,none⟩) outs.length c4)),(vE (.int .i64 (i:Int))),(vE (.pointer (some ⟨b7,o7+i,none⟩))),(vE (.slice (some ⟨b3,o3,none⟩) e.x.length c3)),(vE (.int .i64 (k:Int))),(vE (.pointer (some ⟨b3,o3+k*6,none⟩))),(fun v wv=>IvR wv v xa),(vE (.bool true)),(vE (.bool false))])
      ⟨
       (gq 15),(gq 17),(fun aF wF F=>by have s99:=F.v 0 99;have s100:=F.v 1 100;exact sw (by (have hi9:=HI.out;first | (go_simp;done) | (go_simp;omega))) rfl),(fun aF wF F=>by have s101:=F.v 2 101;exact sw (by (have n0:=(F.kept.cell (p:=⟨b6,o6+i,none⟩) (Am CBZ.out)).trans CBZ.out;go_simp)) rfl),(gq 18),(fun aF wF F=>by have s102:=F.v 3 102;have s103:=F.v 4 103;exact sw (by (have hi9:=HKN.out;first | (go_simp;done) | (go_simp;omega))) rfl),(fun aF wF F=>by have s104:=F.v 5 104;obtain ⟨xx,yy,zz,xx',yy',zz',h0,h1,h2,h3,h4,h5,hI⟩:=(I2.out _ F.kept);exact sv hI),(gq 11),(gq 17),(fun aF wF F=>by have s106:=F.v 7 106;have s107:=F.v 8 107;exact sw (by (have hi9:=HI.out;first | (go_simp;done) | (go_simp;omega))) rfl),(fun aF wF F=>by have s108:=F.v 9 108;exact sw (by (have n0:=(F.kept.cell (p:=⟨b7,o7+i,none⟩) (Am CAZ.out)).trans CAZ.out;go_simp)) rfl),(gq 18),(fun aF wF F=>by have s109:=F.v 10 109;have s110:=F.v 11 110;exact sw (by (have hi9:=HKN.out;first | (go_simp;done) | (go_simp;omega))) rfl),(fun aF wF F=>by have s111:=F.v 12 111;obtain ⟨xx,yy,zz,xx',yy',zz',h0,h1,h2,h3,h4,h5,hI⟩:=(I3.out _ F.kept);exact sv hI),(fun aF wF F=>by have s105:=F.p 6 105;have s112:=F.p 13 112;exact sK (WC.out _ _ _ s105 s112) fun _ _ h=>h),(gv 14 113),
       trivial⟩ ?_
     intro u w9 q hu;have p105:=hp hu 6;have p112:=hp hu 13;simp only [Ax,Al,if_true,Act.put,zlA,zlB,zlC,zlD,zlE,zlF,zlG,hv hu 0,hv hu 1,hv hu 2,hv hu 3,hv hu 4,hv hu 5,hv hu 7,hv hu 8,hv hu 9,hv hu 10,hv hu 11,hv hu 12,hv hu 14,hv hu 15];clear hu;generalize u 6=v105,u 13=v112 at *;clear p105 p112;have K7:=hid (KZ.out.trans q);clear q;go_wp2_with fail;go_roundw
     case rel=>exact ⟨k+1,by have:=HKN.out;omega,by have:=LE.out.2.2.2.2.1;have:=HKN.out;go_num,K7.out⟩
     case measure=>simp only [intOf];have:=HKN.out;omega
    ·obtain rfl:e.x.length=k:=by omega
     have K7:=hid (KR.out.trans KZ.out);go_wp2_with fail;go_roundw
     case rel=>exact ⟨i+1,by have:=HI.out;omega,by have:=LO.out;have:=HI.out;go_num,K7.out⟩
     case measure=>simp only [intOf];have:=HI.out;omega
  ·obtain rfl:outs.length=i:=by omega
   go_wp2_with fail;refine (Lb (T.out.kept (KX.out.trans KR.out))).mono ?_;rintro ee w7 ⟨rfl,q⟩;simp only [];go_wp2_with fail;go_ret;exact ⟨rfl,(KX.out.trans KR.out).trans q⟩
end Go.Proofs.YtabjjdicffcolaaGreatDoor
