/- Words and contracts, part 40. -/
import Derived.Test.YtabjjdicffcolaaGreatDoorClaimJrootp39
set_option maxRecDepth 100000
set_option maxHeartbeats 0
namespace Go.Proofs.YtabjjdicffcolaaGreatDoor
open Go.Lib (hid)
open Go.RowKit
def Cf (f:Nat→Rat) (A B:Nat→Int) (l:List RawI):Prop:=∀ i,i<l.length→((gI l i).Ok∧l[i]?=some (gI l i).raw)∧RgI (gI l i) (A i) (B i)∧In (f i) (gI l i)
theorem Cf.gd {f:Nat→Rat}{A B:Nat→Int}{l:List RawI}(h:Cf f A B l):Gd l:=by
 intro a ha;obtain ⟨i,hi,rfl⟩:=List.getElem_of_mem ha;obtain ⟨⟨h1,h2⟩,-⟩:=h i hi;rw [List.getElem?_eq_getElem hi] at h2;injection h2 with h2
 rw [h2,Iv.raw_iv];exact ⟨h1,rfl⟩
theorem Cf.nil (f:Nat→Rat)(A B:Nat→Int):Cf f A B []:=fun i h=>absurd h (by simp)
theorem Tc {l:List RawI}{v:Iv}{i:Nat}(e:i<l.length):gI (l++[v.raw]) i=gI l i:=by
 unfold gI;rw [List.getD_eq_getElem?_getD,List.getD_eq_getElem?_getD,List.getElem?_append_left e]
theorem Tb (l:List RawI)(v:Iv):gI (l++[v.raw]) l.length=v:=by
 unfold gI;rw [List.getD_eq_getElem?_getD,List.getElem?_append_right (Nat.le_refl _),Nat.sub_self];exact Iv.raw_iv v
theorem Cf.snoc {f:Nat→Rat}{A B:Nat→Int}{l:List RawI}(h:Cf f A B l){v:Iv}(ok:v.Ok)(r:RgI v (A l.length) (B l.length))(m:In (f l.length) v):Cf f A B (l++[v.raw]):=by
 intro i hi;by_cases e:i<l.length
 ·rw [Tc e,List.getElem?_append_left e];exact h i e
 ·have e2:i=l.length:=by simp at hi;omega
  subst e2;rw [Tb];refine ⟨⟨ok,?_⟩,r,m⟩;rw [List.getElem?_append_right (Nat.le_refl _),Nat.sub_self];rfl
theorem Yi {f:Nat→Rat}{A B:Nat→Int}{p:Nat}{g:List RawI}(p1:1≤p)(p2:p≤300)(h:Cf f A B g)(hA:∀ i,i<g.length→A i≤100000∧B i≤99990):∀ (m:Nat) (c:List RawI),c.length+m≤g.length→Cf f A (fun i=>B i+1) c →
 (Eg p g c (List.range' c.length m)).k=0∧Cf f A (fun i=>B i+1) (Eg p g c (List.range' c.length m)).v∧(Eg p g c (List.range' c.length m)).v.length=c.length+m
 | 0,c,_,hc=>⟨rfl,hc,rfl⟩
 | m + 1, c, hl, hc => by
   have hj:c.length<g.length:=by omega
   obtain ⟨⟨ok,-⟩,rg,i0⟩:=h c.length hj;have gr:=Vz (p:=p) rg (by omega) (hA _ hj).1 (hA _ hj).2;have ho:=Nx ok p1;rw [Oo _ _ _ _ _ (Nat.succ_pos m),if_pos gr.1];have s:=hc.snoc ho.1 gr.2 (Vy p1 gr.1 i0);have ih:=Yi p1 p2 h hA m _ (by simp;omega) s;simp only [List.length_append,List.length_cons,List.length_nil,Nat.zero_add] at ih ⊢;rw [show m.succ-1=m from rfl];exact ⟨ih.1,ih.2.1,by rw [ih.2.2];omega⟩
theorem Pi {ov:Iv→Nat→Outc Iv}{p:Nat}{op:Int}{a b:List RawI}{f:Nat→Rat}{A B:Nat→Int}{L:Nat}(h:∀ c n,n<L→Cf f A B c→c.length=n→(Cb ov p op a b c n).v.Ok∧GoodI (Cb ov p op a b c n) (A n) (B n)∧In (f n) (Cb ov p op a b c n).v):∀ (m:Nat) (c:List RawI),c.length+m≤L→Cf f A B c →
 (Ei ov p op a b c (List.range' c.length m)).k=0∧Cf f A B (Ei ov p op a b c (List.range' c.length m)).v∧(Ei ov p op a b c (List.range' c.length m)).v.length=c.length+m
 | 0,c,_,hc=>⟨rfl,hc,rfl⟩
 | m + 1, c, hl, hc => by
   obtain ⟨ok,g,i⟩:=h c c.length (by omega) hc rfl;rw [Jj _ _ _ _ _ _ _ _ (Nat.succ_pos m),if_pos g.1];have ih:=Pi h m _ (by simp;omega) (hc.snoc ok g.2 i);simp only [List.length_append,List.length_cons,List.length_nil,Nat.zero_add] at ih ⊢;rw [show m.succ-1=m from rfl];exact ⟨ih.1,ih.2.1,by rw [ih.2.2];omega⟩
theorem Pu (n:Nat):ptN n=pt (dyz n 0):=by
 unfold ptN dyz;rw [decide_eq_false (by omega),Int.natAbs_natCast]
theorem Abn (n:Nat):(ptN n).Ok:=by rw [Pu];exact Mb (He _ _)
theorem zN {n:Nat}(h:n<2^30):SmZ (n:Int) 0:=⟨Nat.lt_of_lt_of_le h (Nat.pow_le_pow_right (by decide) (by decide)),by decide,by decide⟩
theorem Abm {n:Nat}(h:n<2^30):In ((n:Int):Rat) (ptN n):=by
 rw [Pu];have:=Aga (dyz n 0);rw [Vg (zN h),Fp,Rat.mul_one] at this;exact this
theorem Ahh {n:Nat}{k:Nat}(h:n<2^k)(hk:k≤30):RgI (ptN n) 0 k:=by
 rw [Pu];have h2:=Ej n k h;have h3:n<2^30:=Nat.lt_of_lt_of_le h (Nat.pow_le_pow_right (by decide) hk);have:n<1073741824:=h3;exact RgI.pt (J3 (fun _=>by omega) (fun _=>by rw [Int.natAbs_natCast];omega) (by rw [Int.natAbs_natCast];omega) (by decide) (by omega)).2
theorem Am7 {n:Nat}(h0:n≠0)(h:n<2^30):¬Di (ptN n)=true:=by
 rw [Gz];have q:=Abm h;rintro ⟨a,b⟩;have e:(ptN n).lo=(ptN n).hi:=by rw [Pu];rfl
 rw [e] at a;have e2:(ptN n).hi.q=((n:Int):Rat):=by
  rw [Pu]
  show (dyz n 0).q=_
  rw [Vg (zN h),Fp,Rat.mul_one]
 rw [e2] at a b;have:((n:Int):Rat)=((0:Int):Rat):=Rat.le_antisymm a b;rw [Rat.intCast_inj] at this;omega
theorem Yp {a:Iv}{x:Rat}{A B:Int}{p n:Nat}(p1:1≤p)(p2:p≤300)(hn:n+1<16)(r:RgI a A B)(i:In x a)(hA:A≤90000)(hB:B≤90000) :
 (Da a (ptN (n+1)) p).v.Ok∧GoodI (Da a (ptN (n+1)) p) (A+p+5) (B+2)∧In (x/(((n+1:Nat):Int):Rat)) (Da a (ptN (n+1)) p).v:=by
 have hb:n+1<2^30:=by omega
 have g:=Ace (p:=p) r (Ahh (n:=n+1) (k:=4) (by omega) (by decide)) (Abn _) (Am7 (by omega) hb) (by omega) (by omega) (by omega);exact ⟨(Ng (Abn _) p1).1,g.mono (by omega) (by omega),Aft (Abn _) p1 g.1 i (Abm hb)⟩
theorem Wg {ov:Iv→Nat→Outc Iv}{p:Nat}{ls:List Ln}{outs:List Int}{time:List RawI}{f:Nat→Rat}{A B:Nat→Int}{K:Nat}
 (hs:∀ n c,n<K→Cf f A B c→c.length=n+1→∃ r,Cy ov p ls outs (time.take (n+1)) [c] [] n=⟨[r],0⟩∧(Da (gI r n) (ptN (n+1)) p).v.Ok∧GoodI (Da (gI r n) (ptN (n+1)) p) (A (n+1)) (B (n+1))∧In (f (n+1)) (Da (gI r n) (ptN (n+1)) p).v) :
 ∀ (m n:Nat) (c:List RawI),n+m=K→Cf f A B c→c.length=n+1→∃ c',I3 ov p ls outs time [] [c] (List.range' n m)=⟨[c'],0⟩∧Cf f A B c'∧c'.length=K+1
 | 0,n,c,e,hc,hl=>⟨c,rfl,hc,by omega⟩
 | m + 1, n, c, e, hc, hl => by
   obtain ⟨r,h1,h2,h3,h4⟩:=hs n c (by omega) hc hl;have hg:Ma p n [c] [r]=⟨[c++[(Da (gI r n) (ptN (n+1)) p).v.raw]],0⟩:=by
    simp only [Ma,h3.1,if_true]
   obtain ⟨c',q1,q2⟩:=Wg hs m (n+1) (c++[(Da (gI r n) (ptN (n+1)) p).v.raw]) (by omega) (hc.snoc h2 (by rw [hl];exact h3.2) (by rw [hl];exact h4)) (by simp [hl]);refine ⟨c',?_,q2⟩;rw [List.range'_succ,I3,List.map_nil,h1];simp only [hg,ne_eq,not_true_eq_false,if_false];exact q1
theorem Afn {f:Nat→Rat}{A B:Nat→Int}{v:Iv}(ok:v.Ok)(r:RgI v (A 0) (B 0))(m:In (f 0) v):Cf f A B [v.raw]:=(Cf.nil f A B).snoc ok r m
structure E8 (m:Int) (p:Nat):Prop where
 m8:m.natAbs≤15
 p1:8≤p
 p2:p≤80
theorem An9 {m:Int}{p:Nat}(h:E8 m p):RgI (pt (dyz m (-3))) 3 1:=by
 have:=h.m8;have hb:=Ej m.natAbs 4 (by omega);exact RgI.pt (J3 (fun _=>by omega) (fun _=>by omega) (by omega) (by decide) (by decide)).2
theorem Yt {m:Int}{p:Nat}(h:E8 m p):(Cv (pt (dyz m (-3))) p).v.Ok∧GoodI (Cv (pt (dyz m (-3))) p) 3 2∧In (dyz m (-3)).q (Cv (pt (dyz m (-3))) p).v:=by
 have h1:=h.p1;have h2:=h.p2;have g:=Vz (p:=p) (An9 h) (by omega) (by decide) (by decide);exact ⟨(Nx (Mb (He _ _)) (by omega)).1,g,Vy (by omega) g.1 (Aga _)⟩
def eF (x:Rat):Nat→Rat
 | 0=>x
 | n+1=>eF x n/(((n+1:Nat):Int):Rat)
def tE:List Ln:=[⟨3,0,0,rzI⟩]
theorem Aks (ov:Iv→Nat→Outc Iv)(p:Nat)(t c r:List RawI)(n:Nat)(h:Eg p c [] (List.range' 0 (n+1))=⟨r,0⟩):Cy ov p tE [0] t [c] [] n=⟨[r],0⟩:=by
 have e:Ep ov p ⟨3,0,0,rzI⟩ [] t [c] [] n=⟨r,0⟩:=by
  rw [Xd _ _ _ _ _ _ _ _ rfl,←h];rfl
 simp only [Cy,Fk,tE,e,if_true,List.nil_append,List.map_cons,List.map_nil];rfl
theorem Aoz {ov:Iv→Nat→Outc Iv}{m:Int}{p:Nat}(h:E8 m p){K:Nat}(hK:K≤8)(time:List RawI) :
 ∃ c',I3 ov p tE [0] time [] [[(Cv (pt (dyz m (-3))) p).v.raw]] (List.range' 0 K)=⟨[c'],0⟩∧Cf (eF (dyz m (-3)).q) (fun n=>3+85*n) (fun n=>2+3*n) c'∧c'.length=K+1:=by
 have h1:=h.p1;have h2:=h.p2;obtain ⟨ok,g,i⟩:=Yt h;refine Wg (fun n c hn hc hl=>?_) K 0 _ (by omega) (Afn ok (g.2.mono (by omega) (by omega)) i) rfl;obtain ⟨k0,q,ql⟩:=Yi (p:=p) (by omega) (by omega) hc (fun i hi=>⟨by omega,by omega⟩) (n+1) [] (by simp;omega) (Cf.nil _ _ _);obtain ⟨r,hr⟩:∃ r,r=(Eg p c [] (List.range' 0 (n+1))).v:=⟨_,rfl⟩;have hk:Eg p c [] (List.range' 0 (n+1))=⟨r,0⟩:=by
  rw [hr];generalize Eg p c [] (List.range' 0 (n+1))=o at *;cases o with | mk v k=>exact congrArg (Outc.mk v) k0
 change (Cf _ _ _ (Eg p c [] (List.range' 0 (n+1))).v) at q;change ((Eg p c [] (List.range' 0 (n+1))).v.length=_) at ql;rw [←hr] at q ql;obtain ⟨-,rg,i0⟩:=q n (by simp at ql;omega);have rg':RgI (gI r n) (3+85*(n:Int)) (2+3*(n:Int)+1):=rg;obtain ⟨d1,d2,d3⟩:=Yp (p:=p) (n:=n) (by omega) (by omega) (by omega) rg' i0 (by omega) (by omega);exact ⟨r,Aks ov p _ c r n hk,d1,d2.mono (by show _≤3+85*((n+1:Nat):Int);omega) (by show _≤2+3*((n+1:Nat):Int);omega),d3⟩
def rp (x:Rat):Nat→Rat
 | 0=>x
 | n+1=>rp x n*x
theorem Acu {α:Type}{o:Outc α}{r:α}(h:o.k=0)(e:r=o.v):o=⟨r,0⟩:=by
 cases o with | mk v k=>simp only at h e;subst h;rw [e]
structure SvB (W:World) (H:Nat) (s o y0 y1 y2 y3 y4 y5 vx vp:Value) (k b:Int):Prop where
 f:W.heap[H]?=some (.cells #[s,o] 25 (0,0))
 t:BlkI W (H+1) y0 y1 y2 y3 y4 y5
 x:W.heap[H+1+1]?=some (.cells #[vx] 31 (0,0))
 p:W.heap[H+1+1+1]?=some (.cells #[vp] 31 (0,0))
 k:W.heap[H+1+1+1+1]?=some (.cells #[.int .i64 k] 3 (0,0))
 b:W.heap[H+1+1+1+1+1]?=some (.cells #[.int .i64 b] 3 (0,0))
theorem SvB.kept {W W':World}{H:Nat}{s o y0 y1 y2 y3 y4 y5 vx vp:Value}{k b:Int}(h:SvB W H s o y0 y1 y2 y3 y4 y5 vx vp k b)(q:Kept W W'):SvB W' H s o y0 y1 y2 y3 y4 y5 vx vp k b :=
 ⟨Ao h.f q,h.t.kept q,Ao h.x q,Ao h.p q,Ao h.k q,Ao h.b q⟩
theorem Alg (w:World)(o0 o1 o2 o3 o4 o5:Array Value)(T0 T1 T2 T3 T4 T5:TypeId):∃ W,W=(((((w.alloc (.cells o0 T0)).alloc (.cells o1 T1)).alloc (.cells o2 T2)).alloc (.cells o3 T3)).alloc (.cells o4 T4)).alloc (.cells o5 T5)∧Kept w W ∧
 W.heap[w.heap.size]?=some (.cells o0 T0 (0,0))∧W.heap[w.heap.size+1]?=some (.cells o1 T1 (0,0))∧W.heap[w.heap.size+1+1]?=some (.cells o2 T2 (0,0))∧W.heap[w.heap.size+1+1+1]?=some (.cells o3 T3 (0,0)) ∧
 W.heap[w.heap.size+1+1+1+1]?=some (.cells o4 T4 (0,0))∧W.heap[w.heap.size+1+1+1+1+1]?=some (.cells o5 T5 (0,0)):=by
 have st:∀ (v:World) (n:Nat) (c:Array Value) (T:TypeId),v.heap.size=n→(v.alloc (.cells c T)).heap[n]?=some (.cells c T (0,0))∧(v.alloc (.cells c T)).heap.size=n+1∧Kept v (v.alloc (.cells c T)):=by
  intro v n c T h;subst h;exact ⟨heap_alloc_new _ _,by simp,Ad _ _⟩
 obtain ⟨p1,q1,k1⟩:=st w _ o0 T0 rfl;obtain ⟨p2,q2,k2⟩:=st _ _ o1 T1 q1;obtain ⟨p3,q3,k3⟩:=st _ _ o2 T2 q2;obtain ⟨p4,q4,k4⟩:=st _ _ o3 T3 q3;obtain ⟨p5,q5,k5⟩:=st _ _ o4 T4 q4;obtain ⟨p6,q6,k6⟩:=st _ _ o5 T5 q5;exact ⟨_,rfl,((((k1.trans k2).trans k3).trans k4).trans k5).trans k6,Ao p1 ((((k2.trans k3).trans k4).trans k5).trans k6),Ao p2 (((k3.trans k4).trans k5).trans k6),Ao p3 ((k4.trans k5).trans k6),Ao p4 (k5.trans k6),Ao p5 k6,p6⟩
theorem Ud {w:World}{A B A1 A2 AX AP:Option Addr}{l c m d l1 d1 l2 d2 nx cx np cp:Nat}{n1 n2:Bool}{e1 e2 k b:Int}{O:Outc (List (List RawI))}(hz:O.k≠0→O.v=[])
 (h:∀ w1,Kept w w1→SvB w1 w.heap.size (.slice A l c) (.slice B m d) (.bool n1) (.slice A1 l1 d1) (.int .i64 e1) (.bool n2) (.slice A2 l2 d2) (.int .i64 e2) (.slice AX nx cx) (.slice AP np cp) k b →
   Calls Tryz.prog 54 #[.pointer (some ⟨w.heap.size+1+1+1+1+1,0,none⟩),.pointer (some ⟨w.heap.size+1+1+1+1,0,none⟩),.pointer (some ⟨w.heap.size,0,none⟩),.pointer (some ⟨w.heap.size+1+1,0,none⟩),.pointer (some ⟨w.heap.size+1+1+1,0,none⟩),.pointer (some ⟨w.heap.size+1,0,none⟩)] w1 (Gu O w1)) :
 Calls Tryz.prog 27 #[.agg #[.slice A l c,.slice B m d],.agg #[.bool n1,.slice A1 l1 d1,.int .i64 e1,.bool n2,.slice A2 l2 d2,.int .i64 e2],.slice AX nx cx,.slice AP np cp,.int .i64 k,.int .i64 b] w (Mf O w):=by
 have hmf:=Gn;obtain ⟨W,hW,kW,b0,b1,b2,b3,b4,b5⟩:=Alg w #[.slice A l c,.slice B m d] #[.bool n1,.slice A1 l1 d1,.int .i64 e1,.bool n2,.slice A2 l2 d2,.int .i64 e2] #[.slice AX nx cx] #[.slice AP np cp] #[.int .i64 k] #[.int .i64 b] 25 30 31 31 3 3;have hf:=Aco (w:=W) (K:=54) (o:=O) (fun w1 q=>h w1 (kW.trans q) (SvB.kept ⟨b0,b1,b2,b3,b4,b5⟩ q)) hz (fun _=>rfl);have HF:=hid hf;have HW:=hid hW;have HK:=hid kW;clear hf hW kW b0 b1 b2 b3 b4 b5 h hz;go_enter Tryz.func27,Tryz.ntmps27
 go_wp2_with (go_at_call 43;rw [←HW.out];refine HF.out.mono ?_;rintro e w1 ⟨q,u,rfl,hd⟩;have HD:=hid hd;have HQ:=hid q;clear q hd HF HW;simp only [])
 go_ret2
 exact ⟨HK.out.trans HQ.out,_,rfl,HD.out⟩
structure SeB (W:World) (H:Nat) (s o vt vx vq:Value) (k b:Int):Prop where
 f:W.heap[H]?=some (.cells #[s,o] 25 (0,0))
 t:W.heap[H+1]?=some (.cells #[vt] 31 (0,0))
 x:W.heap[H+1+1]?=some (.cells #[vx] 38 (0,0))
 p:W.heap[H+1+1+1]?=some (.cells #[vq] 38 (0,0))
 k:W.heap[H+1+1+1+1]?=some (.cells #[.int .i64 k] 3 (0,0))
 b:W.heap[H+1+1+1+1+1]?=some (.cells #[.int .i64 b] 3 (0,0))
theorem SeB.kept {W W':World}{H:Nat}{s o vt vx vq:Value}{k b:Int}(h:SeB W H s o vt vx vq k b)(q:Kept W W'):SeB W' H s o vt vx vq k b :=
 ⟨Ao h.f q,Ao h.t q,Ao h.x q,Ao h.p q,Ao h.k q,Ao h.b q⟩
theorem Rf {w:World}{A B AT AX AQ:Option Addr}{l c m d nt ct nx cx nq cq:Nat}{k b:Int}{O:Outc (List (List RawI))}(hz:O.k≠0→O.v=[])
 (h:∀ w1,Kept w w1→SeB w1 w.heap.size (.slice A l c) (.slice B m d) (.slice AT nt ct) (.slice AX nx cx) (.slice AQ nq cq) k b →
   Calls Tryz.prog 44 #[.pointer (some ⟨w.heap.size+1+1+1+1,0,none⟩),.pointer (some ⟨w.heap.size+1+1+1+1+1,0,none⟩),.pointer (some ⟨w.heap.size,0,none⟩),.pointer (some ⟨w.heap.size+1+1,0,none⟩),.pointer (some ⟨w.heap.size+1+1+1,0,none⟩),.pointer (some ⟨w.heap.size+1,0,none⟩)] w1 (Gu O w1)) :
 Calls Tryz.prog 22 #[.agg #[.slice A l c,.slice B m d],.slice AT nt ct,.slice AX nx cx,.slice AQ nq cq,.int .i64 k,.int .i64 b] w (Mf O w):=by
 have hmf:=Gn;obtain ⟨W,hW,kW,b0,b1,b2,b3,b4,b5⟩:=Alg w #[.slice A l c,.slice B m d] #[.slice AT nt ct] #[.slice AX nx cx] #[.slice AQ nq cq] #[.int .i64 k] #[.int .i64 b] 25 31 38 38 3 3;have hf:=Aco (w:=W) (K:=44) (o:=O) (fun w1 q=>h w1 (kW.trans q) (SeB.kept ⟨b0,b1,b2,b3,b4,b5⟩ q)) hz (fun _=>rfl);have HF:=hid hf;have HW:=hid hW;have HK:=hid kW;clear hf hW kW b0 b1 b2 b3 b4 b5 h hz;go_enter Tryz.func22,Tryz.ntmps22
 go_wp2_with (go_at_call 43;rw [←HW.out];refine HF.out.mono ?_;rintro e w1 ⟨q,u,rfl,hd⟩;have HD:=hid hd;have HQ:=hid q;clear q hd HF HW;simp only [])
 go_ret2
 exact ⟨HK.out.trans HQ.out,_,rfl,HD.out⟩
theorem Ahq:rzI.iv.Ok∧rzI.iv.raw=rzI:=by
 rw [←Po,Iv.raw_iv];exact ⟨Q9,rfl⟩
theorem Aeq {S:Int→Prop}{ov:Iv→Nat→Outc Iv}{w:World}{k p:Nat}{vt vx:Value}{ls:List Ln}{outs:List Int}{a:RawI}{time c9:List RawI}(O:Hm S)(h9:S 9)
 (hv:TpR w vt ls outs) (hx:OneI w vx a) (ga:a.iv.Ok∧a.iv.raw=a) (hok:Wj ls) (hn:ls.length≤200) (ho1:outs.length=1) (hor:∀ n∈outs,0≤n∧n<(ls.length:Int)) (hw:Gc k p=true) (hm:Pp ls outs 1 0 0=true)
 (hL:∀ n c,n<k→Gd c→c.length=n+1→∀ i l,ls[i]?=some l→Uu false ov p n (time.take (n+1)) [c] [] i l)
 (hT:Tab w) (hr:(Cv a.iv p).k=0) (hst:I3 ov p ls outs time [] [[(Cv a.iv p).v.raw]] (List.range' 0 k)=⟨[c9],0⟩) :
 Calls Tryz.prog 27 #[vt,.agg #[.bool false,.slice none 0 0,.int .i64 0,.bool false,.slice none 0 0,.int .i64 0],vx,.slice none 0 0,.int .i64 (k:Int),.int .i64 (p:Int)] w (Mf ⟨[c9],0⟩ w):=by
 obtain ⟨b,x0,x1,x2,x3,x4,x5,rfl,hb,hA⟩:=hx;have hv2:=hv;obtain ⟨s,o,rfl,⟨A,c,rfl,-,-⟩,⟨B,d,rfl,-,-⟩⟩:=hv2;obtain ⟨-,c0,c1,c2,c3,c4,c5⟩:=hb.facts;exact Ud (fun h=>absurd rfl h) fun w1 q B=>Ahw O h9 B.b B.k B.f B.x B.p B.t (Six.kept ⟨c0,c1,c2,c3,c4,c5⟩ q) (hA.kept q) ga (Cr _) Ahq (hv.kept q) hok hn ho1 hor hw hm hL (hT.kept q) hr hst
theorem Aep {w:World}{k p:Int}{vt:Value}{ls:List Ln}{outs:List Int}(hv:TpR w vt ls outs)(hok:Wj ls)(hn:ls.length≤200)(hno:outs.length≤200)(hw:Gc k p=true)(hm:Pp ls outs 0 0 0=false) :
 Calls Tryz.prog 27 #[vt,.agg #[.bool false,.slice none 0 0,.int .i64 0,.bool false,.slice none 0 0,.int .i64 0],.slice none 0 0,.slice none 0 0,.int .i64 k,.int .i64 p] w (Mf ⟨[],1⟩ w):=by
 have hv2:=hv;obtain ⟨s,o,rfl,⟨A,c,rfl,-,-⟩,⟨B,d,rfl,-,-⟩⟩:=hv2;exact Ud (fun _=>rfl) fun w1 q B=>Ab0 B.b B.k B.f B.x B.p (hv.kept q) hok (by omega) (by omega) (by decide) hw hm
theorem Afv {w:World}{z:Int}(hz:z.natAbs≤100000){e:Int}(e1:-40≤e)(e2:e≤0)(hT:Tab w):Calls Tryz.prog 20 #[.int .i64 z,.int .i64 e] w (RetE ⟨(dyz z e).raw,0⟩ w):=by
 have hf:=Ach (z:=z) (e:=e) ⟨Nat.lt_of_le_of_lt hz (by decide),e1,e2⟩;by_cases h:z<0
 ·obtain ⟨n,rfl⟩:∃ n:Nat,z=-(n:Int):=⟨z.natAbs,by omega⟩;have:=Alt (w:=w) (k:=n) (e:=e) (by omega) (by omega) (by omega) (by omega) hT;rw [decide_eq_true h,Int.natAbs_neg,Int.natAbs_natCast] at hf;rw [hf] at this;exact this
 ·obtain ⟨n,rfl⟩:∃ n:Nat,z=(n:Int):=⟨z.natAbs,by omega⟩;have:=Om (w:=w) (k:=n) (e:=e) (by omega) (by omega) (by omega) hT;rw [decide_eq_false h,Int.natAbs_natCast] at hf;rw [hf] at this;exact this
def kzJ (m c z:Int):Int:=(IntKind.u64.wrap z).tmod m-c
theorem Agf (z:Int){m c:Int}(hm:0<m)(hm2:m≤1000)(hc:0≤c)(hc2:c≤m):wrap64 (wrap64 ((IntKind.u64.wrap z).tmod m)-c)=kzJ m c z∧-c≤kzJ m c z∧kzJ m c z<m-c:=by
 unfold kzJ;rw [IntKind.wrap_u64];have h0:0≤z%18446744073709551616:=Int.emod_nonneg _ (by decide);rw [Int.tmod_eq_emod_of_nonneg h0];have h1:0≤z%18446744073709551616%m:=Int.emod_nonneg _ (by omega);have h2:z%18446744073709551616%m<m:=Int.emod_lt_of_pos _ hm;generalize z%18446744073709551616%m=x at *;unfold wrap64;omega
theorem Aoo (p:Int)(c m:Nat)(hm:0<m)(hs:c+m≤1000):∃ n:Nat,wrap64 ((c:Int)+wrap64 ((IntKind.u64.wrap p).tmod (m:Int)))=(n:Int)∧c≤n∧n<c+m:=by
 rw [IntKind.wrap_u64];have h0:0≤p%18446744073709551616:=Int.emod_nonneg _ (by decide);rw [Int.tmod_eq_emod_of_nonneg h0];have h1:0≤p%18446744073709551616%(m:Int):=Int.emod_nonneg _ (by omega);have h2:p%18446744073709551616%(m:Int)<m:=Int.emod_lt_of_pos _ (by omega);generalize p%18446744073709551616%(m:Int)=x at *;refine ⟨(c+x).toNat,?_,by omega,by omega⟩;unfold wrap64;omega
theorem Aol {w:World}{b:Nat}{T:TypeId}{n:Int}(h:w.heap[b]?=some (.cells #[.int .i64 n] T (0,0))):InS w (.slice (some ⟨b,0,none⟩) 1 1) [n] :=
 ⟨_, _, rfl, Nat.le_refl _, fun _ => ⟨b, 0, rfl, fun i a hi => by
  rcases i with _ | i
  ·cases hi;exact Ab h 0 _ rfl
  ·simp at hi⟩⟩
theorem Apc {w:World}{b:Nat}{T:TypeId}{op x y:Int}(h:w.heap[b]?=some (.cells #[.int .i64 op,.int .i64 x,.int .i64 y,.bool false,.slice none 0 0,.int .i64 0,.bool false,.slice none 0 0,.int .i64 0] T (0,0))):LnS w (.slice (some ⟨b,0,none⟩) 1 1) [⟨op,x,y,rzI⟩] :=
 ⟨_, _, rfl, Nat.le_refl _, fun _ => ⟨b, 0, rfl, fun i a hi => by
  rcases i with _ | i
  ·cases hi;exact ⟨Ab h 0 _ rfl,Ab h 1 _ rfl,Ab h 2 _ rfl,_,_,_,_,_,_,Ab h 3 _ rfl,Ab h 4 _ rfl,Ab h 5 _ rfl,Ab h 6 _ rfl,Ab h 7 _ rfl,Ab h 8 _ rfl,Cr _⟩
  ·simp at hi⟩⟩
theorem An4 (w:World)(cs:Array Value)(n1:Int)(m:Nat):∃ V,V=((w.alloc (.cells cs 52)).alloc (.cells #[.int .i64 n1] 3)).alloc (.cells #[.slice (some ⟨w.heap.size,0,none⟩) m m,.slice (some ⟨w.heap.size+1,0,none⟩) 1 1] 25)∧Kept w V ∧
 V.heap[w.heap.size]?=some (.cells cs 52 (0,0))∧V.heap[w.heap.size+1]?=some (.cells #[.int .i64 n1] 3 (0,0)) ∧
 V.heap[w.heap.size+1+1]?=some (.cells #[.slice (some ⟨w.heap.size,0,none⟩) m m,.slice (some ⟨w.heap.size+1,0,none⟩) 1 1] 25 (0,0)):=by
 have st:∀ (v:World) (n:Nat) (c:Array Value) (T:TypeId),v.heap.size=n→(v.alloc (.cells c T)).heap[n]?=some (.cells c T (0,0))∧(v.alloc (.cells c T)).heap.size=n+1∧Kept v (v.alloc (.cells c T)):=by
  intro v n c T h;subst h;exact ⟨heap_alloc_new _ _,by simp,Ad _ _⟩
 obtain ⟨p1,q1,k1⟩:=st w _ cs 52 rfl;obtain ⟨p2,q2,k2⟩:=st _ _ #[.int .i64 n1] 3 q1;obtain ⟨p3,q3,k3⟩:=st _ _ #[.slice (some ⟨w.heap.size,0,none⟩) m m,.slice (some ⟨w.heap.size+1,0,none⟩) 1 1] 25 q2;exact ⟨_,rfl,(k1.trans k2).trans k3,Ao p1 (k2.trans k3),Ao p2 k3,p3⟩
theorem Agk:Wj tE:=by
 intro l hl;simp only [tE,List.mem_cons,List.not_mem_nil,or_false] at hl;subst hl;exact ⟨by decide,by decide,by show (0:Nat)≤17592186044416;decide,by show (0:Nat)≤17592186044416;decide⟩
theorem Aml {ov:Iv→Nat→Outc Iv}{p n:Nat}{t c:List RawI}(gc:Gd c)(hc:c.length=n+1)(hn:n≤900)(p1:1≤p)(p2:p≤300):∀ i l,tE[i]?=some l→Uu false ov p n t [c] [] i l:=by
 intro i l hl;rcases i with _ | i
 ·cases hl;exact All rfl (j:=0) rfl (by simp) (by intro r hr;simp only [List.mem_singleton] at hr;subst hr;exact ⟨gc,hc⟩) hn p1 p2
 ·simp [tE] at hl
theorem Ab2:∃ c9,I3 (fun _ _=>⟨iz,0⟩) 30 tE [0] [] [] [[(Cv (pt (dyz 8 (-3))) 30).v.raw]] (List.range' 0 3)=⟨[c9],0⟩∧Gd c9∧c9.length=4∧(gI c9 2).lo.e=-1∧(gI c9 3).lo.q<(gI c9 3).hi.q:=by
 obtain ⟨c9,h1,h2,h3⟩:=Aoz (ov:=fun _ _=>⟨iz,0⟩) (m:=8) (p:=30) ⟨by decide,by decide,by decide⟩ (K:=3) (by decide) [];have e:c9=(I3 (fun _ _=>⟨iz,0⟩) 30 tE [0] [] [] [[(Cv (pt (dyz 8 (-3))) 30).v.raw]] (List.range' 0 3)).v.getD 0 []:=by rw [h1];rfl
 have e2:(gI c9 2).lo.e=-1:=by rw [e];decide +kernel
 have e3:(gI c9 3).lo.m≠(gI c9 3).hi.m:=by rw [e];decide +kernel
 have ok:=Hg h2.gd 3;refine ⟨c9,h1,h2.gd,h3,e2,?_⟩;have hne:(gI c9 3).lo.q≠(gI c9 3).hi.q:=fun h=>e3 (congrArg Dy.m (Alm ok.lo ok.hi h))
 have:=ok.le;grind
theorem Zz {w:World}{bB bK bF bX bP bT:Nat}{k p:Int}
 (hB:w.heap[bB]?=some (.cells #[.int .i64 p] 3 (0,0))) (hK:w.heap[bK]?=some (.cells #[.int .i64 k] 3 (0,0))) (hw:Gc k p=false) :
 Calls Tryz.prog 44 #[.pointer (some ⟨bK,0,none⟩),.pointer (some ⟨bB,0,none⟩),.pointer (some ⟨bF,0,none⟩),.pointer (some ⟨bX,0,none⟩),.pointer (some ⟨bP,0,none⟩),.pointer (some ⟨bT,0,none⟩)] w (Gu ⟨[],1⟩ w):=by
 have WI:=hid (fun w1=>show Calls Tryz.prog 46 #[.int .i64 k,.int .i64 p] w1 (RetQ (.bool false) w1) by have:=P8 w1 k p;rwa [hw] at this);have HB:=hid hB;have HK:=hid hK;have BAD:=hid (fun w1 (q:Kept w w1)=>show Gu ⟨[],1⟩ w (.panicked (Bs 106 1)) w1 from ⟨q,.inr ⟨by decide,rfl⟩⟩);clear hB hK hw;go_enter Tryz.func44,Tryz.ntmps44;go_upto_region 1 with fail
 refine rS 28 ([(vE (.int .i64 k)),(vE (.int .i64 p)),(vE (.bool false)),(vE (.bool false)),(vE undef),(vE undef),(vE undef),(vE undef),(vE undef),(vE undef),(vE (.bool false)),(vE (.bool false)),(vE undef),(vE undef),(vE undef),(vE undef),(vE (.bool false)),(vE (.bool false)),(vE undef),(vE undef),(vE undef),(vE (.bool false)),(vE (.bool false)),(vE undef),(vE undef),(vE undef),(vE (.bool false)),(fun v _=>False)])
  ⟨
   (gql 0 fun _ k=>Ai HK.out k 0 _ rfl),(gql 1 fun _ k=>Ai HB.out k 0 _ rfl),(fun aF wF F=>by have s7:=F.v 0 7;have s8:=F.v 1 8;exact sQ (WI.out _) fun _ _ h=>h),(gv 2 9),(so 3 10),(so 3 10),(so 3 10),(so 3 10),(so 3 10),(so 3 10),(gvv 3 10 9 16),(gv 10 17),(so 11 18),(so 11 18),(so 11 18),(so 11 18),(gvv 11 18 15 22),(gv 16 23),(so 17 24),(so 17 24),(so 17 24),(gvv 17 24 20 27),(gv 21 28),(so 22 29),(so 22 29),(so 22 29),(gvv 22 29 25 32),(fun aF wF F=>by have s33:=F.v 26 33;exact G7 (by simp [Region.wanted]) (by go_simp) (Za false 1 _) (fun e w2 h=>h.elim (fun ⟨v,he,hk,hb,_⟩=>absurd hb (by decide)) (fun ⟨c,he,h0,hc,hw2⟩=>.inr ⟨c,he,F.defers,by subst hc;exact BAD.out w2 (hw2▸F.kept)⟩))),
   trivial⟩ ?_
 intro u w1 k1 hu;have p34:=hp hu 27;simp only [Av,An,if_true,Act.put,zlA,zlB,zlC,zlD,zlE,zlF,zlG,hv hu 0,hv hu 1,hv hu 2,hv hu 3,hv hu 4,hv hu 5,hv hu 6,hv hu 7,hv hu 8,hv hu 9,hv hu 10,hv hu 11,hv hu 12,hv hu 13,hv hu 14,hv hu 15,hv hu 16,hv hu 17,hv hu 18,hv hu 19,hv hu 20,hv hu 21,hv hu 22,hv hu 23,hv hu 24,hv hu 25,hv hu 26];clear hu;generalize u 27=v34 at *;exact p34.elim
theorem Abx {w:World}{k p:Int}{vt:Value}{ls:List Ln}{outs:List Int}(hv:TpR w vt ls outs)(hw:Gc k p=false) :
 Calls Tryz.prog 22 #[vt,.slice none 0 0,.slice none 0 0,.slice none 0 0,.int .i64 k,.int .i64 p] w (Mf ⟨[],1⟩ w):=by
 obtain ⟨s,o,rfl,⟨A,c,rfl,-,-⟩,⟨B,d,rfl,-,-⟩⟩:=hv;exact Rf (fun _=>rfl) fun w1 q B=>Zz B.b B.k hw
theorem Y5 {w:World}{b n:Nat}{T:TypeId}(hn:n<18446744073709551616)(h:w.heap[b]?=some (.cells #[.int .u64 (n:Int)] T (0,0))):Lim w (.slice (some ⟨b,0,none⟩) 1 1) [n]:=by
 refine ⟨fun x hx=>by simp at hx;omega,some ⟨b,0,none⟩,1,rfl,Nat.le_refl _,fun _=>⟨b,0,rfl,(Array.getElem?_eq_some_iff.1 h).1,fun i hi=>?_⟩⟩;have hi:i<1:=hi;obtain rfl:i=0:=by omega
 exact Ab h 0 _ rfl
theorem Ao6:(dyz 8 (-3)).raw=⟨false,[1],0⟩:=by
 have hl:=G4 1 (by decide) (by decide);have ht:tz 8=3:=Hx 8 3 1 rfl rfl;have h:Bw false 8 (-3)=⟨⟨false,1,0⟩,0⟩:=by
  unfold Bw;rw [ht,if_neg (by decide),if_neg (by show ¬64<(Aj 1).length;rw [hl];decide),if_neg (by decide),if_neg (by decide)];rfl
 have h2:dyz 8 (-3)=⟨false,1,0⟩:=congrArg Outc.v h;rw [h2];unfold Dy.raw;rw [hl]
theorem Fu {w w':World}{b o:Nat}{v:Value}(h:w.cell? ⟨b,o,none⟩=some v)(k:Kept w w'):w'.cell? ⟨b,o,none⟩=some v:=(k.cell (p:=⟨b,o,none⟩) (Aq h)).trans h
theorem Ade {S:Int→Prop}{w:World}(O:Hm S)(h9:S 9)(hT:Tab w):Calls Tryz.prog 19 #[] w (RetK (.bool true) w):=by
 have T:=hid hT;obtain ⟨c9,hst,gc9,lc9,he9,hq9⟩:=Ab2;have hf:=Yt (m:=8) (p:=30) ⟨by decide,by decide,by decide⟩;have C1:=hid (fun w1 (k:Kept w w1) vt vx (ht:TpR w1 vt tE [0]) (hx:OneI w1 vx ⟨⟨false,[1],0⟩,⟨false,[1],0⟩⟩)=>show Calls Tryz.prog 27 #[vt,.agg #[.bool false,.slice none 0 0,.int .i64 0,.bool false,.slice none 0 0,.int .i64 0],vx,.slice none 0 0,.int .i64 3,.int .i64 30] w1 (Mf ⟨[c9],0⟩ w1) by
  have e:(⟨⟨false,[1],0⟩,⟨false,[1],0⟩⟩:RawI)=(pt (dyz 8 (-3))).raw:=by show _=RawI.mk (dyz 8 (-3)).raw (dyz 8 (-3)).raw;rw [Ao6]
  rw [e] at hx
  exact Aeq (ov:=fun _ _=>⟨iz,0⟩) (k:=3) (p:=30) (time:=[]) O h9 ht hx ⟨by rw [Iv.raw_iv];exact Mb (He _ _),by rw [Iv.raw_iv]⟩ Agk (by decide) rfl (by intro n hn;simp only [List.mem_singleton] at hn;subst hn;decide) rfl rfl
   (fun n c hn gc hc=>Aml gc hc (by omega) (by decide) (by decide)) (hT.kept k) (by rw [Iv.raw_iv];exact hf.2.1.1) (by rw [Iv.raw_iv];exact hst))
 have C2:=hid (fun w1 (_:Kept w w1) vt (ht:TpR w1 vt tE [0])=>show Calls Tryz.prog 27 #[vt,.agg #[.bool false,.slice none 0 0,.int .i64 0,.bool false,.slice none 0 0,.int .i64 0],.slice none 0 0,.slice none 0 0,.int .i64 3,.int .i64 30] w1 (Mf ⟨[],1⟩ w1) from
  Aep ht Agk (by decide) (by decide) rfl rfl)
 have C3:=hid (fun w1 (_:Kept w w1) vt (ht:TpR w1 vt tE [0])=>show Calls Tryz.prog 22 #[vt,.slice none 0 0,.slice none 0 0,.slice none 0 0,.int .i64 13,.int .i64 30] w1 (Mf ⟨[],1⟩ w1) from Abx ht rfl);obtain ⟨r2,hr2⟩:∃ r,r=gI c9 2:=⟨_,rfl⟩;obtain ⟨r3,hr3⟩:∃ r,r=gI c9 3:=⟨_,rfl⟩;have ok3:r3.Ok:=by rw [hr3];exact Hg gc9 3
 rw [←hr2] at he9;rw [←hr3] at hq9;have CC:=hid (fun w1 va vb (ha:DyR w1 va r3.lo.raw) (hb:DyR w1 vb r3.hi.raw)=>show Calls Tryz.prog 40 #[va,vb] w1 (RetK (.int .i64 (-1)) w1) by
  have:=Ka ha hb ok3.lo ok3.hi;rwa [Lc hq9] at this)
 have PL:=hid (fun w1 v (h:IvS w1 v c9)=>h.place gc9 (by omega));have LC:=hid lc9;have R2:=hid hr2;have R3:=hid hr3;have E9:=hid (show r2.raw.lo.e=-1 from he9);clear hT hst gc9 lc9 he9 hq9 hf ok3 hr2 hr3 O;go_enter Tryz.func19,Tryz.ntmps19;go_wp2_with fail;have hlim:Lim (w.alloc (.cells #[.int .u64 1] 55)) (.slice (some ⟨w.heap.size,0,none⟩) 1 1) [1]:=Y5 (n:=1) (T:=55) (by decide) (heap_alloc_new _ _);refine (Agc (r:=⟨false,[1],0⟩) ⟨_,rfl,hlim,by decide,by decide⟩).mono ?_;rintro e w1 ⟨q,v,rfl,hv⟩;obtain ⟨P1,l1,d1,P2,l2,d2,rfl,-,-⟩:=Au hv;have K1:=hid ((Ad _ _).trans q);have HV1:=hid hv
 clear hlim hv q;simp only [] at HV1 ⊢;obtain ⟨V1,hV1,kV1,bV1⟩:=Alh w1 (.bool false) (.slice P1 l1 d1) (.int .i64 0) (.bool false) (.slice P2 l2 d2) (.int .i64 0);have HB1:=hid hV1;go_upto_region 2 with fail;rw [←HB1.out];obtain ⟨V2,hV2,kV2,b0,b1,b2⟩:=An4 V1 #[.int .i64 3,.int .i64 0,.int .i64 0,.bool false,.slice none 0 0,.int .i64 0,.bool false,.slice none 0 0,.int .i64 0] 0 1;have HB2:=hid hV2;have K2:=hid (K1.out.trans (kV1.trans kV2));have BI:=hid (bV1.kept kV2);have IV:=hid (HV1.out.kept (kV1.trans kV2));have BT:=hid b2;have TP:=hid (show TpR V2 (.agg #[.slice (some ⟨V1.heap.size,0,none⟩) 1 1,.slice (some ⟨V1.heap.size+1,0,none⟩) 1 1]) tE [0] from ⟨_,_,rfl,Apc b0,Aol b1⟩)
 clear hV1 hV2 kV1 kV2 bV1 b0 b1 b2 HV1 HB1 K1;go_upto_region 3 with fail;rw [←HB2.out];clear HB2;generalize V1.heap.size+1+1=n3 at *;generalize w1.heap.size=n1 at *;generalize V1.heap.size+1=n2 at *;generalize V1.heap.size=n0 at *;obtain ⟨c0,c1⟩:=J9 BT.out;obtain ⟨-,m0,m1,m2,m3,m4,m5⟩:=BI.out.facts;go_wp2_with fail;refine (C1.out _ (K2.out.trans (Ad _ _)) _ _ (TP.out.kept (Ad _ _)) (Mx IV.out)).mono ?_;rintro e w3 ⟨q3,v3,rfl,hr3⟩;obtain ⟨b3,o3,e3,s3,rfl,-,cell3,hs3⟩:=hr3.row (i:=0) (by simp);obtain ⟨br,orr,cr,rfl,-,hRG⟩:=PL.out w3 _ (show IvS w3 s3 c9 from hs3);have i2:=hRG w3 (Below.refl _ _) 2 (by have:=LC.out;omega)
 have i3:=hRG w3 (Below.refl _ _) 3 (by have:=LC.out;omega);rw [←R2.out] at i2;rw [←R3.out] at i3;rw [LC.out,Nat.add_zero] at cell3;obtain ⟨y0,y1,y2,y3,y4,y5,-,-,s2,-,-,-,hI2⟩:=i2;obtain ⟨A1,a1,a2,A2,a3,a4,hh,-,-⟩:=Au hI2;simp only [Value.agg.injEq,List.cons.injEq,Array.mk.injEq,and_true] at hh;obtain ⟨rfl,rfl,rfl,rfl,rfl,rfl⟩:=hh;rw [E9.out] at s2;obtain ⟨x0,x1,x2,x3,x4,x5,t0,t1,t2,t3,t4,t5,hI3⟩:=i3;obtain ⟨B1,f1,f2,B2,f3,f4,hh,dlo,dhi⟩:=Au hI3;simp only [Value.agg.injEq,List.cons.injEq,Array.mk.injEq,and_true] at hh;obtain ⟨rfl,rfl,rfl,rfl,rfl,rfl⟩:=hh;have kq:=(Ad V2 (.cells #[.bool false,.slice P1 l1 d1,.int .i64 0,.bool false,.slice P2 l2 d2,.int .i64 0] 30)).trans q3
 have K3:=hid (K2.out.trans kq);have TP3:=hid (TP.out.kept kq);have BT3:=hid (Ao BT.out kq);have S2:=hid s2;have S3:=hid (And.intro t0 (And.intro t1 (And.intro t2 (And.intro t3 (And.intro t4 t5)))));have CE:=hid cell3;have DLO:=hid dlo;have DHI:=hid dhi;clear c0 c1 m0 m1 m2 m3 m4 m5 K2 TP BT IV BI hI2 hI3 dlo dhi t0 t1 t2 t3 t4 t5 s2 cell3 hs3 hRG kq q3 C1 PL;obtain ⟨c0,c1⟩:=J9 BT3.out;simp only [];go_wp2_with fail;refine (C2.out _ K3.out _ TP3.out).mono ?_;rintro e w4 ⟨q4,v4,rfl,hr4⟩;obtain ⟨A4,c4,rfl,-,-⟩:=hr4;have Q4:=hid q4;clear c0 c1 q4;obtain ⟨c0,c1⟩:=J9 (Ao BT3.out Q4.out)
 simp only [];go_wp2_with fail;refine (C3.out _ (K3.out.trans Q4.out) _ (TP3.out.kept Q4.out)).mono ?_;rintro e w5 ⟨q5,v5,rfl,hr5⟩;obtain ⟨A5,c5,rfl,-,-⟩:=hr5;have Q5:=hid (Q4.out.trans q5);clear c0 c1 q5 C2 C3;simp only [];go_wp2_with fail
 refine rgL 49 ([(vE (.int .i64 0)),(vE (.bool true)),(vE (.bool true)),(vE (.slice (some ⟨b3,o3,none⟩) 1 e3)),(vE (.int .i64 1)),(vE (.bool true)),(vE (.bool true)),(vE (.bool true)),(vE (.slice (some ⟨b3,o3,none⟩) 1 e3)),(vE (.pointer (some ⟨b3,o3,none⟩))),(vE (.slice (some ⟨br,orr,none⟩) 4 cr)),(vE (.int .i64 4)),(vE (.bool true)),(vE (.bool true)),(vE (.bool true)),(vE (.slice (some ⟨b3,o3,none⟩) 1 e3)),(vE (.pointer (some ⟨b3,o3,none⟩))),(vE (.slice (some ⟨br,orr,none⟩) 4 cr)),(vE (.pointer (some ⟨br,orr+2*6,none⟩))),(vE (.pointer (some ⟨br,orr+2*6,none⟩))),(vE (.pointer (some ⟨br,orr+2*6+2,none⟩))),(vE (.int .i64 (-1))),(vE (.bool true)),(vE (.bool true)),(vE (.bool true)),(vE (.slice (some ⟨b3,o3,none⟩) 1 e3)),(vE (.pointer (some ⟨b3,o3,none⟩))),(vE (.slice (some ⟨br,orr,none⟩) 4 cr)),(vE (.pointer (some ⟨br,orr+3*6,none⟩))),(vE (.pointer (some ⟨br,orr+3*6,none⟩))),(vE (.agg #[.bool r3.raw.lo.neg,.slice B1 f1 f2,.int .i64 r3.raw.lo.e])),(vE (.slice (some ⟨b3,o3,none⟩) 1 e3)),(vE (.pointer (some ⟨b3,o3,none⟩))),(vE (.slice (some ⟨br,orr,none⟩) 4 cr)),(vE (.pointer (some ⟨br,orr+3*6,none⟩))),(vE (.pointer (some ⟨br,orr+3*6+3,none⟩))),(vE (.agg #[.bool r3.raw.hi.neg,.slice B2 f3 f4,.int .i64 r3.raw.hi.e])),(vE (.int .i64 (-1))),(vE (.bool true)),(vE (.bool true)),(vE (.bool true)),(vE (.int .i64 1)),(vE (.bool true)),(vE (.bool true)),(vE (.bool true)),(vE (.int .i64 1)),(vE (.bool true)),(vE (.bool true)),(vE (.bool true))])
  ⟨
   (gq 4),(gv 0 35),(gv 1 36),(fun aF wF F=>by have s3:=F.q 3 (.slice (some ⟨b3,o3,none⟩) 1 e3);have sg:=F.v 2 37;exact Ak ((Af rfl rfl sg).trans rfl) (by go_simp) rfl),(fun aF wF F=>by have s38:=F.v 3 38;have sg:=F.v 2 37;exact Ak ((Af rfl rfl sg).trans rfl) (by go_simp) rfl),(fun aF wF F=>by have s39:=F.v 4 39;have sg:=F.v 2 37;exact Ak ((Af rfl rfl sg).trans rfl) (by go_simp) rfl),(gvv 2 37 5 40),(gv 6 41),(fun aF wF F=>by have s3:=F.q 3 (.slice (some ⟨b3,o3,none⟩) 1 e3);have sg:=F.v 7 42;exact Ak ((Af rfl rfl sg).trans rfl) (by go_simp) rfl),(fun aF wF F=>by have s43:=F.v 8 43;have sg:=F.v 7 42;exact Ak ((Af rfl rfl sg).trans rfl) (by go_simp) rfl),(fun aF wF F=>by have s44:=F.v 9 44;have sg:=F.v 7 42;exact Ak ((Af rfl rfl sg).trans rfl) (by (have n0:=Fu CE.out (Q5.out.trans F.kept);go_simp)) rfl),(fun aF wF F=>by have s45:=F.v 10 45;have sg:=F.v 7 42;exact Ak ((Af rfl rfl sg).trans rfl) (by go_simp) rfl),(fun aF wF F=>by have s46:=F.v 11 46;have sg:=F.v 7 42;exact Ak ((Af rfl rfl sg).trans rfl) (by go_simp) rfl),(gvv 7 42 12 47),(gv 13 48),(fun aF wF F=>by have s3:=F.q 3 (.slice (some ⟨b3,o3,none⟩) 1 e3);have sg:=F.v 14 49;exact Ak ((Af rfl rfl sg).trans rfl) (by go_simp) rfl),(fun aF wF F=>by have s50:=F.v 15 50;have sg:=F.v 14 49;exact Ak ((Af rfl rfl sg).trans rfl) (by go_simp) rfl),(fun aF wF F=>by have s51:=F.v 16 51;have sg:=F.v 14 49;exact Ak ((Af rfl rfl sg).trans rfl) (by (have n0:=Fu CE.out (Q5.out.trans F.kept);go_simp)) rfl),(fun aF wF F=>by have s52:=F.v 17 52;have sg:=F.v 14 49;exact Ak ((Af rfl rfl sg).trans rfl) (by go_simp) rfl),(fun aF wF F=>by have s53:=F.v 18 53;have sg:=F.v 14 49;exact Ak ((Af rfl rfl sg).trans rfl) (by go_simp) rfl),(fun aF wF F=>by have s54:=F.v 19 54;have sg:=F.v 14 49;exact Ak ((Af rfl rfl sg).trans rfl) (by go_simp) rfl),(fun aF wF F=>by have s55:=F.v 20 55;have sg:=F.v 14 49;exact Ak ((Af rfl rfl sg).trans rfl) (by (have n0:=Fu S2.out (Q5.out.trans F.kept);go_simp)) rfl),(fun aF wF F=>by have s56:=F.v 21 56;have sg:=F.v 14 49;exact Ak ((Af rfl rfl sg).trans rfl) (by go_simp) rfl),(gvv 14 49 22 57),(gv 23 58),(fun aF wF F=>by have s3:=F.q 3 (.slice (some ⟨b3,o3,none⟩) 1 e3);have sg:=F.v 24 59;exact Ak ((Af rfl rfl sg).trans rfl) (by go_simp) rfl),(fun aF wF F=>by have s60:=F.v 25 60;have sg:=F.v 24 59;exact Ak ((Af rfl rfl sg).trans rfl) (by go_simp) rfl),(fun aF wF F=>by have s61:=F.v 26 61;have sg:=F.v 24 59;exact Ak ((Af rfl rfl sg).trans rfl) (by (have n0:=Fu CE.out (Q5.out.trans F.kept);go_simp)) rfl),(fun aF wF F=>by have s62:=F.v 27 62;have sg:=F.v 24 59;exact Ak ((Af rfl rfl sg).trans rfl) (by go_simp) rfl),(fun aF wF F=>by have s63:=F.v 28 63;have sg:=F.v 24 59;exact Ak ((Af rfl rfl sg).trans rfl) (by go_simp) rfl),(fun aF wF F=>by have s64:=F.v 29 64;have sg:=F.v 24 59;exact Ak ((Af rfl rfl sg).trans rfl) (by (have n0:=Fu S3.out.1 (Q5.out.trans F.kept);have n1:=Fu S3.out.2.1 (Q5.out.trans F.kept);have n2:=Fu S3.out.2.2.1 (Q5.out.trans F.kept);go_simp)) rfl),(fun aF wF F=>by have s3:=F.q 3 (.slice (some ⟨b3,o3,none⟩) 1 e3);have sg:=F.v 24 59;exact Ak ((Af rfl rfl sg).trans rfl) (by go_simp) rfl),(fun aF wF F=>by have s66:=F.v 31 66;have sg:=F.v 24 59;exact Ak ((Af rfl rfl sg).trans rfl) (by go_simp) rfl),(fun aF wF F=>by have s67:=F.v 32 67;have sg:=F.v 24 59;exact Ak ((Af rfl rfl sg).trans rfl) (by (have n0:=Fu CE.out (Q5.out.trans F.kept);go_simp)) rfl),(fun aF wF F=>by have s68:=F.v 33 68;have sg:=F.v 24 59;exact Ak ((Af rfl rfl sg).trans rfl) (by go_simp) rfl),(fun aF wF F=>by have s69:=F.v 34 69;have sg:=F.v 24 59;exact Ak ((Af rfl rfl sg).trans rfl) (by go_simp) rfl),(fun aF wF F=>by have s70:=F.v 35 70;have sg:=F.v 24 59;exact Ak ((Af rfl rfl sg).trans rfl) (by (have n0:=Fu S3.out.2.2.2.1 (Q5.out.trans F.kept);have n1:=Fu S3.out.2.2.2.2.1 (Q5.out.trans F.kept);have n2:=Fu S3.out.2.2.2.2.2 (Q5.out.trans F.kept);go_simp)) rfl),(fun aF wF F=>by have s65:=F.v 30 65;have s71:=F.v 36 71;have sg:=F.v 24 59;exact Ar ((Af rfl rfl sg).trans rfl) (by go_simp) (CC.out _ _ _ (DLO.out.kept (Q5.out.trans F.kept)) (DHI.out.kept (Q5.out.trans F.kept))) (fun _ _ h=>RetK.good h) (fun _ _ h=>h)),(fun aF wF F=>by have s72:=F.v 37 72;have sg:=F.v 24 59;exact Ak ((Af rfl rfl sg).trans rfl) (by go_simp) rfl),(gvv 24 59 38 73),(gv 39 74),(fun aF wF F=>by have s6:=F.q 6 (.int .i64 1);have sg:=F.v 40 75;exact Ak ((Af rfl rfl sg).trans rfl) (by go_simp) rfl),(fun aF wF F=>by have s76:=F.v 41 76;have sg:=F.v 40 75;exact Ak ((Af rfl rfl sg).trans rfl) (by go_simp) rfl),(gvv 40 75 42 77),(gv 43 78),(fun aF wF F=>by have s8:=F.q 8 (.int .i64 1);have sg:=F.v 44 79;exact Ak ((Af rfl rfl sg).trans rfl) (by go_simp) rfl),(fun aF wF F=>by have s80:=F.v 45 80;have sg:=F.v 44 79;exact Ak ((Af rfl rfl sg).trans rfl) (by go_simp) rfl),(gvv 44 79 46 81),(gv 47 82),
   trivial⟩ ?_
 intro u w6 q6 hu;simp only [Av,An,if_true,Act.put,zlA,zlB,zlC,zlD,zlE,zlF,zlG,hv hu 0,hv hu 1,hv hu 2,hv hu 3,hv hu 4,hv hu 5,hv hu 6,hv hu 7,hv hu 8,hv hu 9,hv hu 10,hv hu 11,hv hu 12,hv hu 13,hv hu 14,hv hu 15,hv hu 16,hv hu 17,hv hu 18,hv hu 19,hv hu 20,hv hu 21,hv hu 22,hv hu 23,hv hu 24,hv hu 25,hv hu 26,hv hu 27,hv hu 28,hv hu 29,hv hu 30,hv hu 31,hv hu 32,hv hu 33,hv hu 34,hv hu 35,hv hu 36,hv hu 37,hv hu 38,hv hu 39,hv hu 40,hv hu 41,hv hu 42,hv hu 43,hv hu 44,hv hu 45,hv hu 46,hv hu 47,hv hu 48];clear hu;have KF:=hid (K3.out.trans (Q5.out.trans q6));clear q6;go_wp2_with fail;go_ret
 exact ⟨rfl,KF.out⟩
theorem Ahp {w:World}{v:Value}{t:List RawI}(h:IvS w v t):Rws (w.alloc (.cells #[v] 31)) (.slice (some ⟨w.heap.size,0,none⟩) 1 1) [t] :=
 ⟨_, _, rfl, Nat.le_refl _, fun _ => ⟨w.heap.size, 0, rfl, fun i r hi => by
  rcases i with _ | i
  ·obtain rfl:t=r:=by simpa using hi
   exact ⟨v,Ab (heap_alloc_new _ _) 0 _ rfl,h.kept (Ad _ _)⟩
  ·simp at hi⟩⟩
theorem Aem {tm:Bool}{ov:Iv→Nat→Outc Iv}{w:World}{bB bK bF bX bP bT k p:Nat}{s o:Value}{vt vx:Value}{ls:List Ln}{outs:List Int}{t:List RawI}{x:List (List RawI)}
 (hB:w.heap[bB]?=some (.cells #[.int .i64 (p:Int)] 3 (0,0))) (hK:w.heap[bK]?=some (.cells #[.int .i64 (k:Int)] 3 (0,0))) (hF:w.heap[bF]?=some (.cells #[s,o] 25 (0,0)))
 (hX:w.heap[bX]?=some (.cells #[vx] 38 (0,0))) (hP:w.heap[bP]?=some (.cells #[.slice none 0 0] 38 (0,0))) (hTm:w.heap[bT]?=some (.cells #[vt] 31 (0,0)))
 (hv:TpR w (.agg #[s,o]) ls outs) (ht:IvS w vt t) (hx:Rws w vx x) (hok:Wj ls) (hn:ls.length≤200) (hno:outs.length≤200) (hor:∀ n∈outs,0≤n∧n<(ls.length:Int)) (hw:Gc k p=true) (hm:Pp ls outs x.length 0 0=true)
 (hf1:I6 [t] k=true) (hf2:I6 x k=true) (lt:t.length≤1000∧∀ a∈t,a.lens 17592186044416) (lx:x.length≤1000∧∀ r∈x,r.length≤1000000000∧∀ a∈r,a.lens 17592186044416)
 (hL:∀ i l,ls[i]?=some l→Uu tm ov p k t x [] i l) (hT:Tab w) :
 Calls Tryz.prog 44 #[.pointer (some ⟨bK,0,none⟩),.pointer (some ⟨bB,0,none⟩),.pointer (some ⟨bF,0,none⟩),.pointer (some ⟨bX,0,none⟩),.pointer (some ⟨bP,0,none⟩),.pointer (some ⟨bT,0,none⟩)] w (Gu (Cy ov p ls outs t x [] k) w):=by
 have kp:k≤12∧1≤p∧p≤300:=by
  unfold Gc at hw;simp only [Bool.and_eq_true,decide_eq_true_eq] at hw;omega
 obtain ⟨k12,p1,p2⟩:=kp;have WI:=hid (fun w1=>show Calls Tryz.prog 46 #[.int .i64 (k:Int),.int .i64 (p:Int)] w1 (RetQ (.bool true) w1) by have:=P8 w1 k p;rwa [hw] at this);have MT:=hid (fun w1 (q:Kept w w1)=>show Calls Tryz.prog 47 #[.agg #[s,o],.int .i64 (x.length:Int),.int .i64 0,.int .i64 0] w1 (RetK (.bool true) w1) by have:=Abh (hv.kept q) hok (by omega) (by omega) (x:=x.length) (u:=0) (p:=0) (by omega) (by omega) (by omega);rwa [hm] at this);have F1:=hid (fun w1 v (h:Rws w1 v [t])=>show Calls Tryz.prog 48 #[v,.int .i64 (k:Int)] w1 (RetK (.bool true) w1) by
  have:=Ta (k:=k) h (by simp) (by
   intro r hr;simp only [List.mem_singleton] at hr;subst hr;exact ⟨by omega,lt.2⟩) (by omega) (by omega)
  rwa [hf1] at this)
 have F2:=hid (fun w1 (q:Kept w w1)=>show Calls Tryz.prog 48 #[vx,.int .i64 (k:Int)] w1 (RetK (.bool true) w1) by
  have:=Ta (k:=k) (hx.kept q) (by omega) lx.2 (by omega) (by omega);rwa [hf2] at this)
 have F3:=hid (fun w1=>show Calls Tryz.prog 48 #[.slice none 0 0,.int .i64 (k:Int)] w1 (RetK (.bool true) w1) by
  exact Ta (k:=k) (Pz w1) (by simp) (by intro r hr;cases hr) (by omega) (by omega))
 obtain ⟨U,hU⟩:∃ U,U=Cy ov p ls outs t x [] k:=⟨_,rfl⟩;have CS:=hid (fun w1 (q:Kept w w1)=>show Calls Tryz.prog 49 #[.agg #[.int .i64 (p:Int)],.agg #[s,o],vt,vx,.slice none 0 0,.int .i64 (k:Int)] w1 (Gu U w1) by
  rw [hU];exact Z0 (hv.kept q) (fun _=>ht.kept q) (hx.kept q) (Pz _) hL hor hn hno (by omega) (hT.kept q))
 rw [←hU];have HB:=hid hB;have HK:=hid hK;have HF:=hid hF;have HX:=hid hX;have HP:=hid hP;have HTM:=hid hTm;have HTS:=hid ht;obtain ⟨sA,sc,rfl,-,-⟩:∃ A c,s=.slice A ls.length c∧True∧True:=by
  obtain ⟨s',o',es,⟨A,c,e,-,-⟩,-⟩:=hv;injection es with es
  injection es with es
  simp only [List.cons.injEq,and_true] at es;obtain ⟨rfl,rfl⟩:=es;exact ⟨A,c,e,trivial,trivial⟩
 obtain ⟨oA,oc,rfl,-,-⟩:∃ A c,o=.slice A outs.length c∧True∧True:=by
  obtain ⟨s',o',es,-,⟨A,c,e,-,-⟩⟩:=hv;injection es with es
  injection es with es
  simp only [List.cons.injEq,and_true] at es;obtain ⟨-,rfl⟩:=es;exact ⟨A,c,e,trivial,trivial⟩
 have hx2:=hx;obtain ⟨xA,xc,rfl,-,-⟩:=hx2;have ht2:=ht;obtain ⟨tA,tc,rfl,-,-⟩:=ht2;clear hB hK hF hX hP hTm hv ht hx hok hn hno hor hw hm hf1 hf2 lt lx hL hT hU;go_enter Tryz.func44,Tryz.ntmps44;go_upto_region 1 with fail
 refine rS 28 ([(vE (.int .i64 (k:Int))),(vE (.int .i64 (p:Int))),(vE (.bool true)),(vE (.bool true)),(vE (.agg #[.slice sA ls.length sc,.slice oA outs.length oc])),(vE (.slice xA x.length xc)),(vE (.int .i64 (x.length:Int))),(vE (.slice none 0 0)),(vE (.int .i64 0)),(vE (.bool true)),(vE (.bool true)),(vE (.bool true)),(vE (.slice tA t.length tc)),(fun v wv=>Rws wv v [t]),(vE (.int .i64 (k:Int))),(vE (.bool true)),(vE (.bool true)),(vE (.bool true)),(vE (.slice xA x.length xc)),(vE (.int .i64 (k:Int))),(vE (.bool true)),(vE (.bool true)),(vE (.bool true)),(vE (.slice none 0 0)),(vE (.int .i64 (k:Int))),(vE (.bool true)),(vE (.bool true)),(vE (.tuple #[]))])
  (hM:=⟨⟨mE,mE,mE,mE,mE,mE,mE,mE,mE,mE,mE,mE,mE,fun v w w' k h=>by first | exact h | exact h.kept k | exact ⟨h.1,h.2.kept k⟩,mE,mE,mE,mE,mE,mE,mE,mE,mE,mE,mE,mE,mE,mE,trivial⟩⟩) ⟨
    (gql 0 fun _ k=>Ai HK.out k 0 _ rfl),(gql 1 fun _ k=>Ai HB.out k 0 _ rfl),(fun aF wF F=>by have s7:=F.v 0 7;have s8:=F.v 1 8;exact sQ (WI.out _) fun _ _ h=>h),(gv 2 9),(fun aF wF F=>by have s2:=F.q 2 (.pointer (some ⟨bF,0,none⟩));have c0:=Ai HF.out F.kept 0 _ rfl;have c1:=Ai HF.out F.kept 1 _ rfl;have sg:=F.v 3 10;exact Ak ((Af rfl rfl sg).trans rfl) (by go_simp) rfl),(fun aF wF F=>by have s3:=F.q 3 (.pointer (some ⟨bX,0,none⟩));have c0:=Ai HX.out F.kept 0 _ rfl;have sg:=F.v 3 10;exact Ak ((Af rfl rfl sg).trans rfl) (by go_simp) rfl),(fun aF wF F=>by have s12:=F.v 5 12;have sg:=F.v 3 10;exact Ak ((Af rfl rfl sg).trans rfl) (by go_simp) rfl),(fun aF wF F=>by have s4:=F.q 4 (.pointer (some ⟨bP,0,none⟩));have c0:=Ai HP.out F.kept 0 _ rfl;have sg:=F.v 3 10;exact Ak ((Af rfl rfl sg).trans rfl) (by go_simp) rfl),(fun aF wF F=>by have s14:=F.v 7 14;have sg:=F.v 3 10;exact Ak ((Af rfl rfl sg).trans rfl) (by go_simp) rfl),(fun aF wF F=>by have s11:=F.v 4 11;have s13:=F.v 6 13;have s15:=F.v 8 15;have sg:=F.v 3 10;exact Ar ((Af rfl rfl sg).trans rfl) (by go_simp) (MT.out _ F.kept) (fun _ _ h=>RetK.good h) (fun _ _ h=>h)),(gvv 3 10 9 16),(gv 10 17),(fun aF wF F=>by have s5:=F.q 5 (.pointer (some ⟨bT,0,none⟩));have c0:=Ai HTM.out F.kept 0 _ rfl;have sg:=F.v 11 18;exact Ak ((Af rfl rfl sg).trans rfl) (by go_simp) rfl),(fun aF wF F=>by have s19:=F.v 12 19;simp only [Array.getD_eq_getD_getElem?] at s19;have sg:=F.v 11 18;exact Ku ((Af rfl rfl sg).trans rfl) (by first | (go_simp;done) | (go_simp;rfl)) (Ad _ _) (Ahp (HTS.out.kept F.kept))),(fun aF wF F=>by have s0:=F.q 0 (.pointer (some ⟨bK,0,none⟩));have c0:=Ai HK.out F.kept 0 _ rfl;have sg:=F.v 11 18;exact Ak ((Af rfl rfl sg).trans rfl) (by go_simp) rfl),(fun aF wF F=>by have s20:=F.p 13 20;have s21:=F.v 14 21;have sg:=F.v 11 18;exact Ar ((Af rfl rfl sg).trans rfl) (by go_simp) (F1.out _ _ s20) (fun _ _ h=>RetK.good h) (fun _ _ h=>h)),(gvv 11 18 15 22),(gv 16 23),(fun aF wF F=>by have s3:=F.q 3 (.pointer (some ⟨bX,0,none⟩));have c0:=Ai HX.out F.kept 0 _ rfl;have sg:=F.v 17 24;exact Ak ((Af rfl rfl sg).trans rfl) (by go_simp) rfl),(fun aF wF F=>by have s0:=F.q 0 (.pointer (some ⟨bK,0,none⟩));have c0:=Ai HK.out F.kept 0 _ rfl;have sg:=F.v 17 24;exact Ak ((Af rfl rfl sg).trans rfl) (by go_simp) rfl),(fun aF wF F=>by have s25:=F.v 18 25;have s26:=F.v 19 26;have sg:=F.v 17 24;exact Ar ((Af rfl rfl sg).trans rfl) (by go_simp) (F2.out _ F.kept) (fun _ _ h=>RetK.good h) (fun _ _ h=>h)),(gvv 17 24 20 27),(gv 21 28),(fun aF wF F=>by have s4:=F.q 4 (.pointer (some ⟨bP,0,none⟩));have c0:=Ai HP.out F.kept 0 _ rfl;have sg:=F.v 22 29;exact Ak ((Af rfl rfl sg).trans rfl) (by go_simp) rfl),(fun aF wF F=>by have s0:=F.q 0 (.pointer (some ⟨bK,0,none⟩));have c0:=Ai HK.out F.kept 0 _ rfl;have sg:=F.v 22 29;exact Ak ((Af rfl rfl sg).trans rfl) (by go_simp) rfl),(fun aF wF F=>by have s30:=F.v 23 30;have s31:=F.v 24 31;have sg:=F.v 22 29;exact Ar ((Af rfl rfl sg).trans rfl) (by go_simp) (F3.out _) (fun _ _ h=>RetK.good h) (fun _ _ h=>h)),(gvv 22 29 25 32),(fun aF wF F=>by have s33:=F.v 26 33;exact sK (Ox 1 _) fun _ _ h=>h),
    trivial⟩ ?_
 intro u w2 q hu;have p20:=hp hu 13;simp only [Av,An,if_true,Act.put,zlA,zlB,zlC,zlD,zlE,zlF,zlG,hv hu 0,hv hu 1,hv hu 2,hv hu 3,hv hu 4,hv hu 5,hv hu 6,hv hu 7,hv hu 8,hv hu 9,hv hu 10,hv hu 11,hv hu 12,hv hu 14,hv hu 15,hv hu 16,hv hu 17,hv hu 18,hv hu 19,hv hu 20,hv hu 21,hv hu 22,hv hu 23,hv hu 24,hv hu 25,hv hu 26,hv hu 27];clear hu;generalize u 13=v20 at *;clear p20;have K2:=hid q;obtain ⟨c0,c1⟩:=J9 (Ao HF.out q);have d0:=Ab (Ao HB.out q) 0 _ rfl;have d1:=Ab (Ao HK.out q) 0 _ rfl;have d2:=Ab (Ao HX.out q) 0 _ rfl;have d3:=Ab (Ao HP.out q) 0 _ rfl
 have d4:=Ab (Ao HTM.out q) 0 _ rfl;clear q;go_wp2_with fail;refine (CS.out _ K2.out).mono ?_;rintro e w3 ⟨q3,hq3⟩;rcases hq3 with ⟨h0,v,rfl,hr,hf⟩ | ⟨h0,rfl⟩
 ·have FI:=hid (show Gu U w (.returned v) w3 from ⟨K2.out.trans q3,.inl ⟨h0,v,rfl,hr,fun g hg=>Nat.le_trans K2.out.size (hf g hg)⟩⟩);clear hr hf h0 q3;simp only [];go_wp2_with fail;go_ret;exact FI.out
 ·simp only [];exact ⟨rfl,K2.out.trans q3,.inr ⟨h0,rfl⟩⟩
theorem Z8 {tm:Bool}{ov:Iv→Nat→Outc Iv}{w:World}{k p:Nat}{vv vt vx:Value}{ls:List Ln}{outs:List Int}{t:List RawI}{x rows:List (List RawI)}
 (hv:TpR w vv ls outs) (ht:IvS w vt t) (hx:Rws w vx x) (hok:Wj ls) (hn:ls.length≤200) (hno:outs.length≤200) (hor:∀ n∈outs,0≤n∧n<(ls.length:Int)) (hw:Gc k p=true) (hm:Pp ls outs x.length 0 0=true)
 (hf1:I6 [t] k=true) (hf2:I6 x k=true) (lt:t.length≤1000∧∀ a∈t,a.lens 17592186044416) (lx:x.length≤1000∧∀ r∈x,r.length≤1000000000∧∀ a∈r,a.lens 17592186044416)
 (hL:∀ i l,ls[i]?=some l→Uu tm ov p k t x [] i l) (hT:Tab w) (hs:Cy ov p ls outs t x [] k=⟨rows,0⟩) :
 Calls Tryz.prog 22 #[vv,vt,vx,.slice none 0 0,.int .i64 (k:Int),.int .i64 (p:Int)] w (Mf ⟨rows,0⟩ w):=by
 have hv2:=hv;obtain ⟨s,o,rfl,⟨A,c,rfl,-,-⟩,⟨B,d,rfl,-,-⟩⟩:=hv2;have hx2:=hx;obtain ⟨xA,xc,rfl,-,-⟩:=hx2;have ht2:=ht;obtain ⟨tA,tc,rfl,-,-⟩:=ht2;rw [←hs];exact Rf (fun h=>by rw [hs] at h;exact absurd rfl h) fun w1 q B=>Aem B.b B.k B.f B.x B.p B.t (hv.kept q) (ht.kept q) (hx.kept q) hok hn hno hor hw hm hf1 hf2 lt lx hL (hT.kept q)
def Ah6 (f g:Nat→Rat) (n:Nat):Rat→List Nat→Rat
 | s,[]=>s
 | s,j::js=>Ah6 f g n (s+f j*g (n-j)) js
def Acv (f g:Nat→Rat) (n:Nat):Rat→List Nat→Rat
 | s,[]=>s
 | s,j::js=>Acv f g n (s-f j*g (n-j)) js
theorem Aai {p n:Nat}{a b:List RawI}{f g:Nat→Rat}{A B:Int}(p1:1≤p)(p2:p≤300)(hA:A≤100000)(hB:B+3*n+3≤99990)(hAB:A+B+3*n+3≤3900)
 (h:∀ j,j≤n→GoodI (Cg (gI a j) (gI b (n-j)) p) A B∧In (f j*g (n-j)) (Cg (gI a j) (gI b (n-j)) p).v):∀ (m j:Nat) (s:Iv) (v:Rat),j+m=n+1→RgI s A (B+3*j)→In v s →
   (P0 p a b n s (List.range' j m)).k=0∧RgI (P0 p a b n s (List.range' j m)).v A (B+3*n+3)∧In (Ah6 f g n v (List.range' j m)) (P0 p a b n s (List.range' j m)).v
 | 0,j,s,v,e,r,i=>⟨rfl,r.mono (Int.le_refl _) (by omega),i⟩
 | m + 1, j, s, v, e, r, i => by
   obtain ⟨g1,i1⟩:=h j (by omega);have g2:=Ru (p:=p) r (g1.2.mono (Int.le_refl _) (B':=B+3*j) (by omega)) (by omega) hA (by omega) (by omega);rw [Wh _ _ _ _ _ _ _ (Nat.succ_pos m),Outc.th_ok g1.1,Outc.th_ok g2.1];exact Aai p1 p2 hA hB hAB h m (j+1) _ _ (by omega) (g2.2.mono (Int.le_refl _) (by omega)) (Aar p1 g2.1 i i1)
theorem Aah {p n:Nat}{a b:List RawI}{f g:Nat→Rat}{A B:Int}(p1:1≤p)(p2:p≤300)(hA:A≤100000)(hB:B+3*n+3≤99990)(hAB:A+B+3*n+3≤3900)
 (h:∀ j,j≤n→GoodI (Cg (gI a j) (gI b (n-j)) p) A B∧In (f j*g (n-j)) (Cg (gI a j) (gI b (n-j)) p).v) :
   GoodI (Gb p a b n) A (B+3*n+3)∧In (Ah6 f g n (f 0*g n) (List.range' 1 n)) (Gb p a b n).v:=by
 obtain ⟨g1,i1⟩:=h 0 (Nat.zero_le _);unfold Gb;rw [Nat.sub_zero] at g1 i1;rw [Outc.th_ok g1.1];obtain ⟨h1,h2,h3⟩:=Aai p1 p2 hA hB hAB h n 1 _ _ (by omega) (g1.2.mono (Int.le_refl _) (by omega)) i1;exact ⟨⟨h1,h2⟩,h3⟩
def eR (f:Nat→Int) (i:Nat):Rat:=(f i:Rat)*pw (-3)
theorem Ac8 {z:Int}(h:z.natAbs≤16):SmZ z (-3):=⟨Nat.lt_of_le_of_lt h (by decide),by decide,by decide⟩
theorem Sr {p:Nat}{g:List RawI}(hg:∀ i,i<g.length→Cv (gI g i) p=⟨gI g i,0⟩∧g[i]?=some (gI g i).raw):∀ (m j:Nat),j+m=g.length→Eg p g (g.take j) (List.range' j m)=⟨g,0⟩
 | 0,j,h=>by rw [List.take_of_length_le (by omega)];rfl
 | m + 1, j, h => by
   obtain ⟨h1,h2⟩:=hg j (by omega);rw [Oo _ _ _ _ _ (Nat.succ_pos m),h1,if_pos rfl];have e:g.take j++[(gI g j).raw]=g.take (j+1):=by rw [List.take_add_one,h2];rfl
   show Eg p g (g.take j++[(gI g j).raw]) (List.range' (j+1) m)=_
   rw [e];exact Sr hg m (j+1) (by omega)
theorem Ss {ov:Iv→Nat→Outc Iv}{p:Nat}{op:Int}{a b g:List RawI}(hg:∀ c i,i<g.length→Cb ov p op a b c i=⟨gI g i,0⟩∧g[i]?=some (gI g i).raw):∀ (m j:Nat),j+m=g.length→Ei ov p op a b (g.take j) (List.range' j m)=⟨g,0⟩
 | 0,j,h=>by rw [List.take_of_length_le (by omega)];rfl
 | m + 1, j, h => by
   obtain ⟨h1,h2⟩:=hg (g.take j) j (by omega);rw [Jj _ _ _ _ _ _ _ _ (Nat.succ_pos m),h1,if_pos rfl];have e:g.take j++[(gI g j).raw]=g.take (j+1):=by rw [List.take_add_one,h2];rfl
   show Ei ov p op a b (g.take j++[(gI g j).raw]) (List.range' (j+1) m)=_
   rw [e];exact Ss hg m (j+1) (by omega)
def sqV (f:Nat→Rat) (n:Nat):Rat:=Ah6 f f n (f 0*f n) (List.range' 1 n)
section
variable {ov:Iv→Nat→Outc Iv} {p:Nat} {a b:Nat→Int}
theorem Pq {f g:Nat→Rat}{A B A' B':Nat→Int}{x y:List RawI}(p1:1≤p)(p2:p≤300)(hx:Cf f A B x)(hy:Cf g A' B' y){i j:Nat}(hi:i<x.length)(hj:j<y.length){C D:Int}(h1:A i+A' j≤C)(h2:B i+B' j+1≤D)(hC:C≤3000)(hD:D≤500)(h3:A i+B i+A' j+B' j≤4000) :
 GoodI (Cg (gI x i) (gI y j) p) C D∧In (f i*g j) (Cg (gI x i) (gI y j) p).v:=by
 obtain ⟨-,r1,i1⟩:=hx i hi;obtain ⟨-,r2,i2⟩:=hy j hj;have g:=Xg (p:=p) r1 r2 (by omega) (by omega) (by omega) (by omega);exact ⟨g.mono h1 h2,Abi p1 g.1 i1 i2⟩
end
theorem Ajq {a b:Iv}{x:Rat}(ha:a.Ok)(hb:b.Ok)(ia:In x a)(ib:In x b):(Gl a b).Ok:=by
 have h1:(F7 a.lo b.lo).Ok∧(F7 a.lo b.lo).q≤x:=by
  unfold F7;split
  ·exact ⟨ha.lo,ia.1⟩
  ·exact ⟨hb.lo,ib.1⟩
 have h2:(Lm a.hi b.hi).Ok∧x≤(Lm a.hi b.hi).q:=by
  unfold Lm;split
  ·exact ⟨ha.hi,ia.2⟩
  ·exact ⟨hb.hi,ib.2⟩
 exact ⟨h1.1,h2.1,by have:=h1.2;have:=h2.2;show (F7 a.lo b.lo).q≤(Lm a.hi b.hi).q;grind⟩
theorem Ait {w:World}{B:Nat}{v:Value}{l:List RawI}{d:RawI}{xs:List Value}{t0 t1 t2 t3 t4 t5:Value}{bt:Nat}(ty:TypeId)(ho:OwnI w B v l xs)(hnil:l=[]→v=.slice none 0 0)(hl:l.length≤1000)(hB:B≤w.heap.size)
 (hb:BlkI w bt t0 t1 t2 t3 t4 t5) (hd:IvR w (.agg #[t0,t1,t2,t3,t4,t5]) d) :
 ∃ v' w' g', (Builtin.append_ #[31, 31] ty #[v, .slice (some ⟨bt, 0, none⟩) 1 1]).run Tryz.prog w = .ok v' w' ∧ OwnI w' B v' (l ++ [d]) (xs ++ [t0, t1, t2, t3, t4, t5]) ∧ w.grownBy w' v.ownBlock ∧
   (∀ (b:Nat) (cs:Array Value) (T:TypeId),w.heap[b]?=some (.cells cs T (0,0))→cs.size<12→w'.heap[b]?=some (.cells cs T (0,0)))∧v'.ownBlock=some g'∧(v.ownBlock=some g'∨w.heap.size≤g')∧g'<w'.heap.size:=by
 obtain ⟨i0,hi,hz0,hz1,hz2⟩:=info_parts Vn;obtain ⟨-,c0,c1,c2,c3,c4,c5⟩:=hb.facts;have hcl:=hd.cells;have ad:∀ (b j:Nat),(⟨b,0,none⟩:Addr).add j=⟨b,j,none⟩:=by intro b j;unfold Addr.add;split<;>simp_all
 have hnews:∀ (j:Nat) (u:Value),[t0,t1,t2,t3,t4,t5][j]?=some u→w.cell? ((⟨bt,0,none⟩:Addr).add j)=some u:=by
  intro j u hu;rw [ad];rcases j with _ | _ | _ | _ | _ | _ | j
  ·cases hu;exact c0
  ·cases hu;exact c1
  ·cases hu;exact c2
  ·cases hu;exact c3
  ·cases hu;exact c4
  ·cases hu;exact c5
  ·simp at hu
 obtain ⟨v',w',g',hr,h2,h3,h4,h5⟩:=Hk (P:=Tryz.prog) w B 31 ty 30 i0 _ 6 80 Tryz.underlying31 hi hz0 hz1 hz2 rfl (by decide) v l.length xs ho.row ⟨bt,0,none⟩ 1 1 [t0,t1,t2,t3,t4,t5] rfl hnews (fun u hu=>(hcl u hu).2) (by unfold maxLen;omega) (by omega) hB (by decide) ho.nl (fun u hu=>(hcl u hu).1) Ky ho.blk;have hown':=ho.snoc hd h2 h3 h4 h5;have hlt:g'<w'.heap.size:=by
  obtain ⟨cr,e,q1,-⟩:=h5;exact (Array.getElem?_eq_some_iff.1 q1).1
 by_cases hl0:l=[]
 ·subst hl0;obtain rfl:=hnil rfl;have hx:xs=[]:=List.eq_nil_of_length_eq_zero (by simpa using ho.row.1);subst hx;have hr2:=run_append_nil (P:=Tryz.prog) w 31 ty 30 i0 _ Tryz.underlying31 hi hz0 ⟨bt,0,none⟩ 1 1 [t0,t1,t2,t3,t4,t5] (by rw [hz1];rfl) hnews (by decide) (by decide) (by rw [hz2];decide);rw [hr2] at hr;injection hr with e1 e2
  have kk:Kept w w':=by rw [←e2];exact (Below.refl _ _).drew.alloc (Nat.le_refl _) _
  have hg':w.heap.size=g':=by rw [←e1] at h4;simpa [Value.ownBlock] using h4
  rw [e1,e2] at hr2;exact ⟨v',w',g',hr2,hown',h3,fun b cs T hb2 _=>(kk.block b (Array.getElem?_eq_some_iff.1 hb2).1).trans hb2,h4,.inr (Nat.le_of_eq hg'),hlt⟩
 have hn:0<l.length:=List.length_pos_iff.2 hl0;rcases ho.row.2 with ⟨-,h0⟩ | ⟨g,cap,cur,rfl,hbg,hg,hnc,hcm,hcs,htake⟩
 ·omega
 have h3':w.grownBy w' (some g):=h3;have oth:∀ (b:Nat) (o:Obj),b≠g→w.heap[b]?=some o→w'.heap[b]?=some o:=fun b o hne hb'=>by
  rw [h3'.block b (Array.getElem?_eq_some_iff.1 hb').1 (fun e=>hne (Option.some.inj e))];exact hb'
 by_cases hroom:l.length+1≤cap
 ·have hsz:12≤cur.size:=by rw [hcs];omega
  have hr2:=run_append_room (P:=Tryz.prog) w 31 ty 30 i0 Tryz.underlying31 hi g l.length cap cur hg ⟨bt,0,none⟩ 1 1 [t0,t1,t2,t3,t4,t5] (by rw [hz1];rfl) hnews (fun u hu=>(hcl u hu).2) hroom (by rw [hz1,hcs];simp only [List.length_cons,List.length_nil];omega);rw [hz1] at hr2;rw [hr2] at hr;injection hr with e1 e2
  subst e1;subst e2;obtain rfl:g=g':=by simpa [Value.ownBlock] using h4
  refine ⟨_,_,g,hr2,hown',h3,?_,rfl,.inl rfl,hlt⟩;intro b cs T hb2 hlt;refine oth b _ ?_ hb2;rintro rfl;rw [hg] at hb2;injection hb2 with hb2
  injection hb2 with hb2
  subst hb2;omega
 ·have holds:∀ j u,xs[j]?=some u→w.cell? ((⟨g,0,none⟩:Addr).add j)=some u:=ho.row.cells (g:=g) rfl;have hr2:=run_append_grow (P:=Tryz.prog) w 31 ty 30 i0 _ Tryz.underlying31 hi hz0 ⟨g,0,none⟩ l.length cap xs (by rw [hz1];exact ho.row.1) holds ⟨bt,0,none⟩ 1 1 [t0,t1,t2,t3,t4,t5] (by rw [hz1];rfl) hnews (by omega) (by omega) (growslice_fits (by omega) (by rw [hz2];omega));rw [hr2] at hr;injection hr with e1 e2
  have kk:Kept w w':=by rw [←e2];exact (Below.refl _ _).drew.alloc (Nat.le_refl _) _
  have hg':w.heap.size=g':=by rw [←e1] at h4;simpa [Value.ownBlock] using h4
  rw [e1,e2] at hr2;exact ⟨v',w',g',hr2,hown',h3,fun b cs T hb2 _=>(kk.block b (Array.getElem?_eq_some_iff.1 hb2).1).trans hb2,h4,.inr (Nat.le_of_eq hg'),hlt⟩
theorem OwnI.apart {w w':World}{B:Nat}{v:Value}{l:List RawI}{xs:List Value}{row:Option Nat}(h:OwnI w B v l xs)(hg:w.grownBy w' row)(hN:∀ g,row=some g→NoL w g)(hne:∀ g,v.ownBlock=some g→row≠some g):OwnI w' B v l xs:=by
 obtain ⟨h1,h2,h3,h4,h5⟩:=h;refine ⟨⟨h1.1,?_⟩,h2,h3,?_,?_⟩
 ·rcases h1.2 with hn | ⟨g,cap,cr,rfl,hb2,hg2,rest⟩
  ·exact .inl hn
  ·exact .inr ⟨g,cap,cr,rfl,hb2,(hg.block g (Array.getElem?_eq_some_iff.1 hg2).1 (fun e=>hne g rfl e.symm)).trans hg2,rest⟩
 ·intro g hg2;obtain ⟨cr,e,q1,q2⟩:=h4 g hg2;exact ⟨cr,e,(hg.block g (Array.getElem?_eq_some_iff.1 q1).1 (fun e=>hne g hg2 e.symm)).trans q1,q2⟩
 ·intro i a hi;obtain ⟨p0,p1,p2,p3,p4,p5,s0,s1,s2,s3,s4,s5,hI⟩:=h5 i a hi;exact ⟨p0,p1,p2,p3,p4,p5,s0,s1,s2,s3,s4,s5,hI.grown hg hN⟩
def Oy (v:Value):List Nat:=v.ownBlock.toList
theorem Tl {v:Value}{g:Nat}:g∈Oy v↔v.ownBlock=some g:=by unfold Oy;simp [Option.mem_toList,eq_comm]
theorem OwnI.blt {w:World}{B:Nat}{v:Value}{l:List RawI}{xs:List Value}(h:OwnI w B v l xs):∀ g,v.ownBlock=some g→g<w.heap.size:=fun g hg=>by
 obtain ⟨cr,e,q1,-⟩:=h.blk g hg;exact (Array.getElem?_eq_some_iff.1 q1).1
theorem OwnR.blt {w:World}{B:Nat}{v:Value}{l:List (List RawI)}{xs:List Value}(h:OwnR w B v l xs):∀ g,v.ownBlock=some g→g<w.heap.size:=fun g hg=>by
 obtain ⟨cr,e,q1,-⟩:=h.blk g hg;exact (Array.getElem?_eq_some_iff.1 q1).1
theorem IvS.apart {w w':World}{v:Value}{l:List RawI}{row:Option Nat}(h:IvS w v l)(hg:w.grownBy w' row)(hN:∀ g,row=some g→NoL w g)(hne:∀ g,v.ownBlock=some g→row≠some g):IvS w' v l:=by
 obtain ⟨A,c,rfl,hc,h⟩:=h;refine ⟨A,c,rfl,hc,fun h0=>?_⟩;obtain ⟨b,off,rfl,hd⟩:=h h0;have hcl:∀ k v,w.cell? ⟨b,k,none⟩=some v→w'.cell? ⟨b,k,none⟩=some v:=by
  intro k v hv;have:=hg.block b (Aq hv) (fun e=>hne b rfl e.symm);simp only [World.cell?,this];simpa only [World.cell?] using hv
 refine ⟨b,off,rfl,fun i a hi=>?_⟩;obtain ⟨x,y,z,x',y',z',h0,h1,h2,h3,h4,h5,hI⟩:=hd i a hi;exact ⟨x,y,z,x',y',z',hcl _ _ h0,hcl _ _ h1,hcl _ _ h2,hcl _ _ h3,hcl _ _ h4,hcl _ _ h5,hI.grown hg hN⟩
def fB (b:List Int) (i:Nat):Int:=if i=0 then 8+(IntKind.u64.wrap (b.getD 0 0)).tmod 9 else kzJ 33 16 (b.getD i 0)
theorem r9 (z:Int):wrap64 (8+wrap64 ((IntKind.u64.wrap z).tmod 9))=8+(IntKind.u64.wrap z).tmod 9∧8≤8+(IntKind.u64.wrap z).tmod 9∧8+(IntKind.u64.wrap z).tmod 9≤16:=by
 rw [IntKind.wrap_u64];have h0:0≤z%18446744073709551616:=Int.emod_nonneg _ (by decide);rw [Int.tmod_eq_emod_of_nonneg h0];have h1:0≤z%18446744073709551616%9:=Int.emod_nonneg _ (by decide);have h2:z%18446744073709551616%9<9:=Int.emod_lt_of_pos _ (by decide);generalize z%18446744073709551616%9=x at *;unfold wrap64;omega
theorem Aoh (b:List Int)(i:Nat):(fB b i).natAbs≤16:=by
 unfold fB;split
 ·have:=(r9 (b.getD 0 0)).2;omega
 ·have h:=(Agf (b.getD i 0) (m:=33) (c:=16) (by decide) (by decide) (by decide) (by decide)).2;omega
theorem Ao9 (b:List Int):8≤fB b 0:=by
 unfold fB;rw [if_pos rfl];exact (r9 (b.getD 0 0)).2.1
def Ro (f:Nat→Int) (i:Nat):List RawI:=(List.range i).map fun i=>(pt (dyz (f i) (-3))).raw
theorem Aej (f:Nat→Int)(i:Nat):Ro f (i+1)=Ro f i++[(pt (dyz (f i) (-3))).raw]:=by
 unfold Ro;rw [List.range_succ,List.map_append];rfl
theorem Zv (f:Nat→Int)(i:Nat):(Ro f i).length=i:=by simp [Ro]
structure RuS (B bx:Nat) (w0:World) (f g:Nat→Int) (i:Nat) (w:World):Prop where
 box:∃ v0 v1 xs0 xs1,w.heap[bx]?=some (.cells #[v0,v1] 31 (0,0))∧OwnI w B v0 (Ro f i) xs0∧OwnI w B v1 (Ro g i) xs1∧(i=0→v0=.slice none 0 0∧v1=.slice none 0 0)∧(∀ b,v0.ownBlock=some b→v1.ownBlock≠some b)
 k:Kept w0 w
theorem RuS.kept {B bx:Nat}{w0:World}{f g:Nat→Int}{i:Nat}{w w':World}(h:RuS B bx w0 f g i w)(k:Kept w w'):RuS B bx w0 f g i w':=by
 obtain ⟨v0,v1,xs0,xs1,h1,h2,h3,h4,h5⟩:=h.box;exact ⟨⟨v0,v1,xs0,xs1,Ao h1 k,h2.kept k,h3.kept k,h4,h5⟩,h.k.trans k⟩
def RuJ (B bx:Nat) (v0 v1:Value) (ra rb:List RawI) (xs0 xs1:List Value) (l4 l8 l11 l15 l17 l19:Bool) (w:World):Prop :=
 (l8=false→OwnI w B v0 ra xs0)∧(l15=false→OwnI w B v1 rb xs1)∧∃ c0 c1,w.heap[bx]?=some (.cells #[c0,c1] 31 (0,0))∧SlC c0∧SlC c1∧(l17=false→c0=v0)∧(l19=false→c1=v1)∧(l17=true→l4=true∧l8=true)∧(l19=true→l11=true∧l15=true)
section
variable {B bx:Nat} {v0 v1:Value} {ra rb:List RawI} {xs0 xs1:List Value} {l4 l8 l11 l15 l17 l19:Bool} {w w':World}
theorem RuJ.kept (k:Kept w w')(h:RuJ B bx v0 v1 ra rb xs0 xs1 l4 l8 l11 l15 l17 l19 w):RuJ B bx v0 v1 ra rb xs0 xs1 l4 l8 l11 l15 l17 l19 w':=by
 obtain ⟨h1,h2,c0,c1,hb,rest⟩:=h;exact ⟨fun e=>(h1 e).kept k,fun e=>(h2 e).kept k,c0,c1,Ao hb k,rest⟩
theorem RuJ.at0 (h:RuJ B bx v0 v1 ra rb xs0 xs1 l4 l8 l11 l15 l17 l19 w)(hl:l4=false∨l8=false∨l17=false):w.cell? ⟨bx,0,none⟩=some v0:=by
 obtain ⟨-,-,c0,c1,hb,-,-,h5,-,h7,-⟩:=h;have:c0=v0:=h5 (by
  cases l17
  ·rfl
  ·obtain ⟨e1,e2⟩:=h7 rfl;rcases hl with hl | hl | hl
   ·rw [e1] at hl;cases hl
   ·rw [e2] at hl;cases hl
   ·exact hl)
 rw [←this];exact Ab hb 0 _ rfl
theorem RuJ.box (h:RuJ B bx v0 v1 ra rb xs0 xs1 l4 l8 l11 l15 l17 l19 w):∃ c0 c1,w.heap[bx]?=some (.cells #[c0,c1] 31 (0,0))∧SlC c0∧SlC c1:=by
 obtain ⟨-,-,c0,c1,hb,s0,s1,-⟩:=h;exact ⟨c0,c1,hb,s0,s1⟩
theorem OwnI.setx {v:Value}{l:List RawI}{xs:List Value}{i:Nat}{T:TypeId}{c0 c1 x u:Value}(h:OwnI w B v l xs)(hlt:bx<B)(hb:w.heap[bx]?=some (.cells #[c0,c1] T (0,0)))(hx:#[c0,c1][i]?=some x)(hn:Bl x):OwnI (w.setCell ⟨bx,i,none⟩ u) B v l xs:=by
 have k:KB w [bx] (w.setCell ⟨bx,i,none⟩ u):=(KB.refl w [bx]).setCell (by simp) (Ab hb i _ hx) hn u;obtain ⟨h1,h2,h3,h4,h5⟩:=h;have blk:∀ g o,B≤g→w.heap[g]?=some o→(w.setCell ⟨bx,i,none⟩ u).heap[g]?=some o:=fun g o hg ho=>(Below.heap_setCell _ _ _ _ (show g≠bx by omega)).trans ho
 refine ⟨⟨h1.1,?_⟩,h2,h3,?_,?_⟩
 ·rcases h1.2 with hn | ⟨g2,cap,cr,e,hb2,hg2,rest⟩
  ·exact .inl hn
  ·exact .inr ⟨g2,cap,cr,e,hb2,blk _ _ hb2 hg2,rest⟩
 ·intro g2 hg2;obtain ⟨cr,e,q1,q2⟩:=h4 g2 hg2;refine ⟨cr,e,blk _ _ ?_ q1,q2⟩;rcases h1.2 with ⟨rfl,-⟩ | ⟨g3,cap,cr',rfl,hb2,-⟩
  ·simp [Value.ownBlock] at hg2
  ·obtain rfl:g3=g2:=by simpa [Value.ownBlock] using hg2
   exact hb2
 ·intro i a hi;obtain ⟨p0,p1,p2,p3,p4,p5,s0,s1,s2,s3,s4,s5,hI⟩:=h5 i a hi;exact ⟨p0,p1,p2,p3,p4,p5,s0,s1,s2,s3,s4,s5,hI.kb k⟩
theorem RuJ.set1 {v:Value}(h:RuJ B bx v0 v1 ra rb xs0 xs1 l4 l8 l11 l15 l17 l19 w)(hlt:bx<B)(e11:l11=true)(e15:l15=true)(hv:SlC v):RuJ B bx v0 v1 ra rb xs0 xs1 l4 l8 l11 l15 l17 true (w.setCell ⟨bx,1,none⟩ v):=by
 obtain ⟨h1,h2,c0,c1,hb,s0,s1,h5,h6,h7,h8⟩:=h;refine ⟨fun e=>(h1 e).setx hlt hb (i:=1) rfl s1.nl,fun e=>(by rw [e15] at e;cases e),c0,v,?_,s0,hv,h5,fun e=>(by cases e),h7,fun _=>⟨e11,e15⟩⟩;have:=Bi (i:=1) hb v;simpa using this
end
def RuV (B hs:Nat) (v0:Value) (l:List RawI) (v:Value) (w:World):Prop:=∃ xs g,OwnI w B v l xs∧v.ownBlock=some g∧(v0.ownBlock=some g∨hs≤g)∧g<w.heap.size
theorem RuV.kept {B hs:Nat}{v0 v:Value}{l:List RawI}{w w':World}(h:RuV B hs v0 l v w)(k:Kept w w'):RuV B hs v0 l v w':=by
 obtain ⟨xs,g,h1,h2,h3,h4⟩:=h;exact ⟨xs,g,h1.kept k,h2,h3,Nat.lt_of_lt_of_le h4 k.size⟩
theorem RuV.app {B hs:Nat}{v0 v1 v:Value}{l:List RawI}{w w':World}(h:RuV B hs v1 l v w)(hg:w.grownBy w' v0.ownBlock)(hN:∀ g,v0.ownBlock=some g→NoL w g)(hap:∀ g,v0.ownBlock=some g→v1.ownBlock≠some g)(hlt:∀ g,v0.ownBlock=some g→g<hs):RuV B hs v1 l v w':=by
 obtain ⟨xs,g,h1,h2,h3,h4⟩:=h;refine ⟨xs,g,h1.apart hg hN (fun g' hg' e=>?_),h2,h3,Nat.lt_of_lt_of_le h4 hg.size⟩;rw [h2] at hg';injection hg' with hg'
 subst hg';rcases h3 with h3 | h3
 ·exact hap _ e h3
 ·have:=hlt _ e;omega
theorem RuV.setx {B hs bx:Nat}{v0 v:Value}{l:List RawI}{w:World}{i:Nat}{T:TypeId}{c0 c1 x u:Value}(h:RuV B hs v0 l v w)(hlt:bx<B)(hb:w.heap[bx]?=some (.cells #[c0,c1] T (0,0)))(hx:#[c0,c1][i]?=some x)(hn:Bl x):RuV B hs v0 l v (w.setCell ⟨bx,i,none⟩ u):=by
 obtain ⟨xs,g,h1,h2,h3,h4⟩:=h;exact ⟨xs,g,h1.setx hlt hb hx hn,h2,h3,by simpa [World.setCell] using h4⟩
theorem OneI.setx {w:World}{v:Value}{r:RawI}{bx i:Nat}{T:TypeId}{c0 c1 x u:Value}(h:OneI w v r)(hb:w.heap[bx]?=some (.cells #[c0,c1] T (0,0)))(hx:#[c0,c1][i]?=some x)(hn:Bl x):OneI (w.setCell ⟨bx,i,none⟩ u) v r:=by
 have k:KB w [bx] (w.setCell ⟨bx,i,none⟩ u):=(KB.refl w [bx]).setCell (by simp) (Ab hb i _ hx) hn u;obtain ⟨b,x',y,z,x'',y',z',e,h1,h2⟩:=h;refine ⟨b,x',y,z,x'',y',z',e,h1.kb k ?_,h2.kb k⟩;intro hm;simp only [List.mem_singleton] at hm;subst hm;unfold BlkI at h1;rw [h1] at hb;simp at hb
def RuG (bx:Nat) (L:Nat→Bool) (u:Nat→Value) (w:World):Prop :=
 (L 8=true→L 15=true→∀ g,(u 8).ownBlock=some g→(u 15).ownBlock≠some g)∧(L 17=true→w.cell? ⟨bx,0,none⟩=some (u 8))∧(L 19=true→w.cell? ⟨bx,1,none⟩=some (u 15))
theorem RuG.keep {bx i:Nat}{L:Nat→Bool}{u:Nat→Value}{v:Value}{w w':World}(hE:(i==8||i==15||i==17||i==19)=false)(k:Kept w w')(h:RuG bx L u w):RuG bx (upd L i true) (upd u i v) w':=by
 simp only [Bool.or_eq_false_iff,beq_eq_false_iff_ne,ne_eq] at hE;obtain ⟨⟨⟨h8,h15⟩,h17⟩,h19⟩:=hE;obtain ⟨g1,g2,g3⟩:=h;have e8:(8:Nat)≠i:=fun e=>h8 e.symm
 have e15:(15:Nat)≠i:=fun e=>h15 e.symm
 have e17:(17:Nat)≠i:=fun e=>h17 e.symm
 have e19:(19:Nat)≠i:=fun e=>h19 e.symm
 unfold RuG;simp only [upd,e8,e15,e17,e19,if_false];exact ⟨g1,fun e=>(k.cell (p:=⟨bx,0,none⟩) (Aq (g2 e))).trans (g2 e),fun e=>(k.cell (p:=⟨bx,1,none⟩) (Aq (g3 e))).trans (g3 e)⟩
theorem RuV.ne {B hs g':Nat}{v0 v1 v x:Value}{l:List RawI}{w:World}(h:RuV B hs v1 l x w)(hob:v.ownBlock=some g')(hwh:v0.ownBlock=some g'∨w.heap.size≤g')(hap:∀ g,v0.ownBlock=some g→v1.ownBlock≠some g)(hlt:∀ g,v0.ownBlock=some g→g<hs):∀ g,v.ownBlock=some g→x.ownBlock≠some g:=by
 intro g hg e;obtain ⟨xs,gx,-,h2,h3,h4⟩:=h;rw [hob] at hg;injection hg with hg
 subst hg;rw [h2] at e;injection e with e
 subst e;rcases hwh with hwh | hwh
 ·rcases h3 with h3 | h3
  ·exact hap _ hwh h3
  ·have:=hlt _ hwh;omega
 ·omega
theorem Aiv {w:World}{b i:Nat}{cs:Array Value}{T:TypeId}(h:w.heap[b]?=some (.cells cs T (0,0)))(hi:i<cs.size)(v:Value):(w.setCell ⟨b,i,none⟩ v).cell? ⟨b,i,none⟩=some v :=
 Ab (Bi (i:=i) h v) i v (by simp [hi])
theorem RuJ.cells {B bx:Nat}{v0 v1:Value}{ra rb:List RawI}{xs0 xs1:List Value}{l4 l8 l11 l15 l17 l19:Bool}{w w':World}(h:RuJ B bx v0 v1 ra rb xs0 xs1 l4 l8 l11 l15 l17 l19 w)
 (hs:∀ (b:Nat) (cs:Array Value) (T:TypeId),w.heap[b]?=some (.cells cs T (0,0))→cs.size<12→w'.heap[b]?=some (.cells cs T (0,0))):∀ (i:Nat) (x:Value),w.cell? ⟨bx,i,none⟩=some x→w'.cell? ⟨bx,i,none⟩=some x:=by
 obtain ⟨-,-,c0,c1,hb,-⟩:=h;intro i x hx;have hb':=hs _ _ _ hb (by simp);simp only [World.cell?,hb'] ;simpa only [World.cell?,hb] using hx
theorem RuJ.own1 {B bx:Nat}{v0 v1:Value}{ra rb:List RawI}{xs0 xs1:List Value}{l4 l8 l11 l15 l17 l19:Bool}{w:World}(h:RuJ B bx v0 v1 ra rb xs0 xs1 l4 l8 l11 l15 l17 l19 w)(e:l15=false):OwnI w B v1 rb xs1:=h.2.1 e
end Go.Proofs.YtabjjdicffcolaaGreatDoor
