/- Contracts of package expo: side.round, near. -/
import Derived.Test.YtabjjdicffcolaaGreatDoorClaimTfrontp05
import Derived.Test.YtabjjdicffcolaaGreatDoorClaimTfrontp12
import Derived.Test.YtabjjdicffcolaaGreatDoorClaimTfrontp17
import Derived.Test.YtabjjdicffcolaaGreatDoorClaimTfrontp19
set_option maxRecDepth 100000
set_option maxHeartbeats 16000000
namespace Go.Proofs.YtabjjdicffcolaaGreatDoor
open Go.Lib (hid)
open Go.RowKit
theorem beq_take {xs ys:List Nat}(hl:xs.length=ys.length)(h:∀ i,i<xs.length→nth xs i=nth ys i):xs=ys:=by
 apply List.ext_getElem hl
 intro i h1 h2
 have:=h i h1
 unfold nth at this
 rw [List.getD_eq_getElem?_getD,List.getD_eq_getElem?_getD,List.getElem?_eq_getElem h1,List.getElem?_eq_getElem h2] at this
 exact this
theorem equal_c {w:World}{v u:Value}{xs ys:List Nat}(hv:Lim w v xs)(hu:Lim w u ys)(hl:xs.length≤17592186044416) :
 Calls Tryz.prog 72 #[v,u] w (RetK (.bool (xs==ys)) w):=by
 obtain ⟨hs,A,c,rfl,hc,hA⟩:=hv
 obtain ⟨hs',A',c',rfl,hc',hA'⟩:=hu
 by_cases hne:xs.length=ys.length
 ·have hlb : ((xs.length : Int) == (ys.length : Int)) = true := by rw [beq_iff_eq]; omega
  have HE:=hid hne
  obtain ⟨n,hn⟩:∃ n,n=xs.length:=⟨_,rfl⟩
  have hn2:n=ys.length:=by omega
  rw [←hn] at hl hc hA ⊢
  rw [←hn2] at hc' hA' ⊢
  rw [←hn,←hn2] at hlb
  have HA:=hid hA
  have HA':=hid hA'
  have HS:=hid hs
  have HS':=hid hs'
  have HN:=hid hn
  clear hA hA' hs hs' hn hn2 hne hlb
  have hlb:((n:Int)==(n:Int))=true:=by rw [beq_iff_eq]
  go_enter Tryz.func72,Tryz.ntmps72
  go_wp2_with fail
  go_loopw [13] (fun t wr=>∃ k:Nat,k≤n∧t=.int .i64 k∧(∀ i,i<k→nth xs i=nth ys i)∧Kept w wr) (fun t _=>(n-intOf t).toNat)
  case atStart=>exact ⟨0,Nat.zero_le _,rfl,fun i hi=>absurd hi (Nat.not_lt_zero _),Below.refl _ _⟩
  case round =>
   obtain ⟨k,hk,rfl,heq,hK⟩:=hrel
   have K:=hid hK
   clear hK
   have HQ:=hid heq
   clear heq
   by_cases hlt:k<n
   ·obtain ⟨b, off, rfl, hb, hcell⟩ := HA.out (by omega)
    obtain ⟨b',off',rfl,hb',hcell'⟩:=HA'.out (by omega)
    have h1:=fun w1 (q:Kept wr w1)=>((K.out.trans q).cell (p:=⟨b,off+k,none⟩) hb).trans (hcell k hlt)
    have h2:=fun w1 (q:Kept wr w1)=>((K.out.trans q).cell (p:=⟨b',off'+k,none⟩) hb').trans (hcell' k hlt)
    have H1:=hid h1
    have H2:=hid h2
    have hx0:(0:Int)≤(k:Int):=by omega
    have hx1:(k:Int)<(n:Int):=by omega
    clear hcell hcell' h1 h2
    by_cases hxy:nth xs k=nth ys k
    ·have hb1 : (((nth xs k : Nat) : Int) != ((nth ys k : Nat) : Int)) = false := by simp [hxy]
     have HXY:=hid hxy
     clear hxy
     generalize hgx:nth xs k=x at *
     generalize hgy:nth ys k=y at *
     have GX:=hid hgx
     have GY:=hid hgy
     clear hgx hgy
     go_wp2_with fail
     refine region_lin (m:=9) (V:=VL [(vE (.slice (some ⟨b,off,none⟩) n c)),(vE (.int .i64 k)),(vE (.pointer (some ⟨b,off+k,none⟩))),(vE (.int .u64 x)),(vE (.slice (some ⟨b',off',none⟩) n c')),(vE (.int .i64 k)),(vE (.pointer (some ⟨b',off'+k,none⟩))),(vE (.int .u64 y)),(vE (.bool false))])
      (by kernel_rfl) rfl (by kernel_rfl) (by kernel_rfl) (by kernel_rfl) (mono_of _ ⟨mE,mE,mE,mE,mE,mE,mE,mE,mE,trivial⟩) (steps_of ⟨
        (fun aF wF F=>by have s0:aF.tmps.getD 0 undef=(.slice (some ⟨b,off,none⟩) n c):=F.o 0;exact sv rfl),(fun aF wF F=>by have s5:aF.tmps.getD 5 undef=(.int .i64 k):=F.o 5;exact sv rfl),(fun aF wF F=>by have s16:=F.v 0 16;have s17:=F.v 1 17;exact sv rfl),(fun aF wF F=>by have s18:=F.v 2 18;exact sw (by have h:=H1.out _ F.kept;go_simp) rfl),(fun aF wF F=>by have s1:aF.tmps.getD 1 undef=(.slice (some ⟨b',off',none⟩) n c'):=F.o 1;exact sv rfl),(fun aF wF F=>by have s5:aF.tmps.getD 5 undef=(.int .i64 k):=F.o 5;exact sv rfl),(fun aF wF F=>by have s20:=F.v 4 20;have s21:=F.v 5 21;exact sv rfl),(fun aF wF F=>by have s22:=F.v 6 22;exact sw (by have h:=H2.out _ F.kept;go_simp) rfl),(fun aF wF F=>by have s19:=F.v 3 19;have s23:=F.v 7 23;exact sv rfl),
        trivial⟩) ?_
     intro u w1 k1 hu
     simp only [puts,slotOf,if_true,Act.put,z1,z2,z3,z4,z5,z6,z7,hv hu 0,hv hu 1,hv hu 2,hv hu 3,hv hu 4,hv hu 5,hv hu 6,hv hu 7,hv hu 8]
     clear hu
     go_wp2_with fail
     go_roundw
     case rel =>
      refine ⟨k+1,by omega,by go_num,fun i hi=>?_,K.out.trans k1⟩
      by_cases hik:i=k
      ·rw [hik,GX.out,GY.out];exact HXY.out
      ·exact HQ.out i (by omega)
     case measure=>simp [intOf];omega
    ·have hb1 : (((nth xs k : Nat) : Int) != ((nth ys k : Nat) : Int)) = true := by simp; omega
     have hres:(xs==ys)=false:=by
      rw [beq_eq_false_iff_ne]
      intro h
      exact hxy (by rw [h])
     rw [hres]
     clear hres
     have HXY:=hid hxy
     clear hxy
     generalize hgx:nth xs k=x at *
     generalize hgy:nth ys k=y at *
     have GX:=hid hgx
     have GY:=hid hgy
     clear hgx hgy
     go_wp2_with fail
     refine region_lin (m:=9) (V:=VL [(vE (.slice (some ⟨b,off,none⟩) n c)),(vE (.int .i64 k)),(vE (.pointer (some ⟨b,off+k,none⟩))),(vE (.int .u64 x)),(vE (.slice (some ⟨b',off',none⟩) n c')),(vE (.int .i64 k)),(vE (.pointer (some ⟨b',off'+k,none⟩))),(vE (.int .u64 y)),(vE (.bool true))])
      (by kernel_rfl) rfl (by kernel_rfl) (by kernel_rfl) (by kernel_rfl) (mono_of _ ⟨mE,mE,mE,mE,mE,mE,mE,mE,mE,trivial⟩) (steps_of ⟨
        (fun aF wF F=>by have s0:aF.tmps.getD 0 undef=(.slice (some ⟨b,off,none⟩) n c):=F.o 0;exact sv rfl),(fun aF wF F=>by have s5:aF.tmps.getD 5 undef=(.int .i64 k):=F.o 5;exact sv rfl),(fun aF wF F=>by have s16:=F.v 0 16;have s17:=F.v 1 17;exact sv rfl),(fun aF wF F=>by have s18:=F.v 2 18;exact sw (by have h:=H1.out _ F.kept;go_simp) rfl),(fun aF wF F=>by have s1:aF.tmps.getD 1 undef=(.slice (some ⟨b',off',none⟩) n c'):=F.o 1;exact sv rfl),(fun aF wF F=>by have s5:aF.tmps.getD 5 undef=(.int .i64 k):=F.o 5;exact sv rfl),(fun aF wF F=>by have s20:=F.v 4 20;have s21:=F.v 5 21;exact sv rfl),(fun aF wF F=>by have s22:=F.v 6 22;exact sw (by have h:=H2.out _ F.kept;go_simp) rfl),(fun aF wF F=>by have s19:=F.v 3 19;have s23:=F.v 7 23;exact sv rfl),
        trivial⟩) ?_
     intro u w1 k1 hu
     simp only [puts,slotOf,if_true,Act.put,z1,z2,z3,z4,z5,z6,z7,hv hu 0,hv hu 1,hv hu 2,hv hu 3,hv hu 4,hv hu 5,hv hu 6,hv hu 7,hv hu 8]
     clear hu
     go_wp2_with fail
     go_ret
     exact ⟨rfl,K.out.trans k1⟩
   ·obtain rfl : k = n := by omega
    have hres:(xs==ys)=true:=by
     rw [beq_iff_eq]
     exact beq_take HE.out (fun i hi=>HQ.out i (by have:=HN.out;omega))
    go_wp2_with fail
    go_ret
    exact ⟨by rw [hres];rfl,K.out⟩
 ·have hres : (xs == ys) = false := by
   rw [beq_eq_false_iff_ne]
   intro h
   exact hne (by rw [h])
  rw [hres]
  have hlb:((xs.length:Int)==(ys.length:Int))=false:=by rw [beq_eq_false_iff_ne];omega
  clear hA hA' hs hs' hne hres
  generalize xs.length=n at *
  generalize ys.length=n' at *
  go_enter Tryz.func72,Tryz.ntmps72
  go_wp2_with fail
  go_ret
  exact ⟨rfl,Below.refl _ _⟩
def sameR (a b:Raw):Bool:=(a.neg==b.neg)&&(a.e==b.e)&&(a.m==b.m)
theorem dsame_c {w:World}{v u:Value}{a b:Raw}(ha:DyR w v a)(hb:DyR w u b)(hl:a.m.length≤17592186044416) :
 Calls Tryz.prog 35 #[v,u] w (RetK (.bool (sameR a b)) w):=by
 obtain ⟨A,l,c,rfl,-,la,-,-⟩:=ha.shape
 obtain ⟨A2,l2,c2,rfl,-,lb,-,-⟩:=hb.shape
 have he:=fun w1 (k:Kept w w1)=>equal_c (la.kept k) (lb.kept k) hl
 unfold sameR
 have HE:=hid he
 clear he la lb ha hb hl
 generalize (a.m==b.m)=r3 at *
 generalize a.neg=n1 at *
 generalize a.e=e1 at *
 generalize b.neg=n2 at *
 generalize b.e=e2 at *
 obtain ⟨W,hW,kW,B0,B1⟩:=boxes2 w (.bool n1) (.slice A l c) (.int .i64 e1) (.bool n2) (.slice A2 l2 c2) (.int .i64 e2)
 have HW:=hid hW
 have K:=hid kW
 clear hW kW B0 B1
 have hr1:(n1==n2)=true∨(n1==n2)=false:=bools _
 have hr2:(e1==e2)=true∨(e1==e2)=false:=bools _
 rcases hr1 with hr1 | hr1
 ·rw [hr1, Bool.true_and]
  rcases hr2 with hr2 | hr2
  ·rw [hr2, Bool.true_and]
   go_enter Tryz.func35,Tryz.ntmps35
   go_wp2_with fail
   rw [←HW.out]
   refine (HE.out _ K.out).mono ?_
   rintro e w1 ⟨rfl,q⟩
   simp only []
   go_wp2_with fail
   go_ret
   exact ⟨rfl,K.out.trans q⟩
  ·rw [hr2, Bool.false_and]
   go_enter Tryz.func35,Tryz.ntmps35
   go_wp2_with fail
   go_ret
   exact ⟨rfl,by have:=K.out;rwa [HW.out] at this⟩
 ·rw [hr1, Bool.false_and, Bool.false_and]
  clear hr2
  go_enter Tryz.func35,Tryz.ntmps35
  go_wp2_with fail
  go_ret
  exact ⟨rfl,by have:=K.out;rwa [HW.out] at this⟩
theorem isame_c {w:World}{v u:Value}{a b:RawI}(hv:IvR w v a)(hu:IvR w u b)(hl:a.lens 17592186044416) :
 Calls Tryz.prog 119 #[v,u] w (RetK (.bool (sameR a.lo b.lo&&sameR a.hi b.hi)) w):=by
 obtain ⟨A,l,c,A',l',c',rfl,h1,h2⟩:=ivR_split hv
 obtain ⟨B,j,e,B',j',e',rfl,g1,g2⟩:=ivR_split hu
 have q1:=fun w1 (k:Kept w w1)=>dsame_c (h1.kept k) (g1.kept k) hl.1
 have q2:=fun w1 (k:Kept w w1)=>dsame_c (h2.kept k) (g2.kept k) hl.2
 have Q1:=hid q1
 have Q2:=hid q2
 clear q1 q2 h1 h2 g1 g2 hv hu hl
 generalize sameR a.lo b.lo=r1 at *
 generalize sameR a.hi b.hi=r2 at *
 generalize a.lo.neg=n1 at *
 generalize a.lo.e=e1 at *
 generalize a.hi.neg=n2 at *
 generalize a.hi.e=e2 at *
 generalize b.lo.neg=n3 at *
 generalize b.lo.e=e3 at *
 generalize b.hi.neg=n4 at *
 generalize b.hi.e=e4 at *
 obtain ⟨W,hW,kW,BI,BJ⟩:=box2ii w (.bool n1) (.slice A l c) (.int .i64 e1) (.bool n2) (.slice A' l' c') (.int .i64 e2) (.bool n3) (.slice B j e) (.int .i64 e3) (.bool n4) (.slice B' j' e') (.int .i64 e4)
 have HW:=hid hW
 have K:=hid kW
 have HB:=hid BI
 have HD:=hid BJ
 clear hW kW BI BJ
 cases r1
 ·rw [Bool.false_and]
  go_enter Tryz.func119,Tryz.ntmps119
  go_wp2_with fail
  rw [←HW.out]
  refine (Q1.out _ K.out).mono ?_
  rintro e w1 ⟨rfl,q⟩
  replace K:=hid (K.out.trans q)
  replace HB:=hid (HB.out.kept q)
  replace HD:=hid (HD.out.kept q)
  clear q
  obtain ⟨-,c0,c1,c2,c3,c4,c5⟩:=HB.out.facts
  obtain ⟨-,d0,d1,d2,d3,d4,d5⟩:=HD.out.facts
  simp only []
  go_wp2_with fail
  go_ret
  exact ⟨rfl,K.out⟩
 ·rw [Bool.true_and]
  go_enter Tryz.func119,Tryz.ntmps119
  go_wp2_with fail
  rw [←HW.out]
  refine (Q1.out _ K.out).mono ?_
  rintro e w1 ⟨rfl,q⟩
  replace K:=hid (K.out.trans q)
  replace HB:=hid (HB.out.kept q)
  replace HD:=hid (HD.out.kept q)
  clear q
  obtain ⟨-,c0,c1,c2,c3,c4,c5⟩:=HB.out.facts
  obtain ⟨-,d0,d1,d2,d3,d4,d5⟩:=HD.out.facts
  simp only []
  go_wp2_with fail
  refine (Q2.out _ K.out).mono ?_
  clear c0 c1 c2 c3 c4 c5 d0 d1 d2 d3 d4 d5
  rintro e w1 ⟨rfl,q⟩
  replace K:=hid (K.out.trans q)
  replace HB:=hid (HB.out.kept q)
  replace HD:=hid (HD.out.kept q)
  clear q
  obtain ⟨-,c0,c1,c2,c3,c4,c5⟩:=HB.out.facts
  obtain ⟨-,d0,d1,d2,d3,d4,d5⟩:=HD.out.facts
  simp only []
  go_wp2_with fail
  go_ret
  exact ⟨rfl,K.out⟩
theorem must_okA (k:Int)(w:World):Calls Tryz.prog 126 #[.bool true,.int .i64 k] w fun e w'=>e=.returned (.tuple #[])∧w=w':=by
 go_enter Tryz.func126,Tryz.ntmps126
 go_wp2
 go_end0
 exact ⟨rfl,rfl⟩
theorem must_badA (k:Int)(w:World):Calls Tryz.prog 126 #[.bool false,.int .i64 k] w fun e w'=>e=.panicked (failV 166 k)∧w=w':=by
 go_enter Tryz.func126,Tryz.ntmps126
 go_wp2
 exact ⟨rfl,rfl,rfl⟩
theorem must_cA (b:Bool)(k:Int)(w:World):Calls Tryz.prog 126 #[.bool b,.int .i64 k] w fun e w'=>e=mustE 166 b k∧w=w':=by
 cases b
 ·exact must_badA k w
 ·exact must_okA k w
theorem must_trueA (k:Int)(w:World):Calls Tryz.prog 126 #[.bool true,.int .i64 k] w (RetK (.tuple #[]) w):=(must_cA true k w).mono fun _ _ ⟨he,hw⟩=>⟨he,hw▸Below.refl _ _⟩
theorem run_assert_failA (k:Int)(w:World):(Instr.typeAssert (.iface 166 (.agg #[.int .i64 k])) 20 166 true).run Tryz.prog w=.ok (.tuple #[.agg #[.int .i64 k],.bool true]) w:=by
 kernel_rfl
theorem run_assert_nilA (w:World):(Instr.typeAssert .nilIface 20 166 true).run Tryz.prog w=.ok (.tuple #[.agg #[.int .i64 0],.bool false]) w:=by
 kernel_rfl
theorem sure_c {w:World}{v:Value}{d:Dy}{k:Int}(hv:DyR w v d.raw) :
 Calls Tryz.prog 128 #[v,.int .i64 k] w (Goes 166 (Outc.raw ⟨d,k⟩) w):=by
 obtain ⟨A,l,c,rfl,-,la,xa,xb⟩:=hv.shape
 obtain ⟨W,hW,kW,B0,BR⟩:=boxes1r w (.bool d.neg) (.slice A l c) (.int .i64 d.e)
 have HW:=hid hW
 have K:=hid kW
 have HB:=hid B0
 have HR:=hid BR
 have LA:=hid la
 have BX:=hid (And.intro xa xb)
 clear hW kW B0 BR la xa xb hv
 simp only [Dy.raw] at *
 generalize hgn:d.neg=n1 at *
 generalize hge:d.e=e1 at *
 have GN:=hid hgn
 have GE:=hid hge
 clear hgn hge
 by_cases hk:k=0
 ·subst hk
  go_enter Tryz.func128,Tryz.ntmps128
  go_wp2_with (go_at_call 126;rw [←HW.out];refine (must_trueA 0 _).mono ?_;rintro e w1 ⟨rfl,q⟩;replace K:=hid (K.out.trans q);have hb:=HB.out.kept q;have hr:=HR.out.kept q;obtain ⟨-,a0,a1,a2,-⟩:=hb.facts;obtain ⟨_,c0,c1,c2,f0,f1,f2⟩:=hr.facts;have HR2:=hid hr;clear hb hr q)
  exact ret_dy (HR2.out.laid _ _ _) rfl rfl rfl ⟨dyW_kept K.out (by omega),.inl ⟨rfl,_,rfl,by
   have:=((LA.out.kept K.out).dyW (x':=.bool n1) (y':=.slice A l c) (z':=.int .i64 e1) HR2.out (noLimb_bool _) (noLimb_slice _ _ _) (noLimb_i64 _)).dyR (r:=⟨n1,limbs d.m,e1⟩) BX.out.1 BX.out.2
   show DyR _ _ ⟨d.neg,limbs d.m,d.e⟩
   rw [GN.out,GE.out]
   exact this⟩⟩
 ·have hkb : (k == 0) = false := by rw [beq_eq_false_iff_ne]; exact hk
  have HKK:=hid hk
  clear hk
  go_enter Tryz.func128,Tryz.ntmps128
  go_wp2_with (go_at_call 126;rw [←HW.out];refine (must_cA _ _ _).mono ?_;rintro e w3 ⟨he,rfl⟩;obtain rfl:e=.panicked (failV 166 _):=he)
  exact ⟨rfl,K.out,.inr ⟨HKK.out,rfl⟩⟩
theorem dyR_lim {w:World}{x s z:Value}{r:Raw}(h:DyR w (.agg #[x,s,z]) r):Lim w s r.m∧-9223372036854775808≤r.e∧r.e≤9223372036854775807:=by
 obtain ⟨s',he,hs,h1,h2⟩:=h
 injection he with he;injection he with he
 simp only [List.cons.injEq,and_true] at he
 rw [he.2.1]
 exact ⟨hs,h1,h2⟩
theorem leastD_snoc (l:List Dy)(x:Dy):∀ d,leastD d (l++[x])=if cmpQ x.q (leastD d l).q<0 then x else leastD d l:=by
 induction l with
 | nil=>intro d;rfl
 | cons y l ih=>intro d;simp only [List.cons_append,leastD];exact ih _
theorem greatestD_snoc (l:List Dy)(x:Dy):∀ d,greatestD d (l++[x])=if 0<cmpQ x.q (greatestD d l).q then x else greatestD d l:=by
 induction l with
 | nil=>intro d;rfl
 | cons y l ih=>intro d;simp only [List.cons_append,greatestD];exact ih _
theorem least_c {w:World}{v:Value}{d0:Dy}{l:List Dy}(hv:DyS w v (d0::l))(hl:okL (d0::l))(hn:(d0::l).length≤1000) :
 Calls Tryz.prog 130 #[v] w (RetD (leastD d0 (d0::l)).raw w):=by
 obtain ⟨A,c,rfl,hc,hA⟩:=hv
 obtain ⟨b,off,rfl,hd⟩:=hA (by simp)
 have hat:=hd 0 d0 rfl
 rw [Nat.zero_mul,Nat.add_zero] at hat
 obtain ⟨s,h0,h1,h2,hR⟩:=hat
 have hok0:=hl d0 (List.mem_cons_self ..)
 obtain ⟨L,hL⟩:∃ L,L=d0::l:=⟨_,rfl⟩
 rw [←hL] at hd hl hn hc ⊢
 obtain ⟨n,hn'⟩:∃ n,n=L.length:=⟨_,rfl⟩
 rw [←hn'] at hn hc ⊢
 have hn0:0<n:=by rw [hn',hL];simp
 have lb:=lt_of_cell h0
 simp only at lb
 obtain ⟨A1,l1,c1,es,-,-,-,-⟩:=hR.shape
 injection es with es;injection es with es
 simp only [List.cons.injEq,and_true] at es
 obtain rfl:=es.2.1
 clear es hA
 have HD:=hid hd
 have HL:=hid hl
 have HN:=hid hn'
 have HR:=hid hR
 have HO:=hid hok0
 have HLL:=hid hL
 clear hd hl hn' hR hok0 hL
 obtain ⟨n0,hg1⟩:∃ x,x=d0.neg:=⟨_,rfl⟩
 obtain ⟨e0,hg2⟩:∃ x,x=d0.e:=⟨_,rfl⟩
 rw [←hg1] at h0
 rw [←hg2] at h2
 have G1:=hid hg1
 have G2:=hid hg2
 clear hg1 hg2
 go_enter Tryz.func130,Tryz.ntmps130
 go_wp2_with fail
 go_loopw [11] (fun t wr=>∃ (k:Nat) (cur:Dy) (Ac:Option Addr) (lc cc:Nat),k≤n∧t=.int .i64 k∧cur=leastD d0 (L.take k)∧cur.Ok∧DyR w (.agg #[.bool cur.neg,.slice Ac lc cc,.int .i64 cur.e]) cur.raw ∧
  Blk wr (w.heap.size+1) (.bool cur.neg) (.slice Ac lc cc) (.int .i64 cur.e)∧Blk wr w.heap.size (.bool false) (.slice none 0 0) (.int .i64 0)∧Kept w wr) (fun t _=>(n-intOf t).toNat)
 case atStart =>
  refine ⟨0,d0,A1,l1,c1,Nat.zero_le _,rfl,rfl,HO.out,HR.out,?_,blk_alloc (blk_new0 w) _,(kept_alloc _ _).trans (kept_alloc _ _)⟩
  rw [←G1.out,←G2.out]
  exact blk_new1 _ _ _ _ _
 case round =>
  obtain ⟨k,cur,Ac,lc,cc,hk,rfl,hcur,hok,hRc,hB1,hB0,hK⟩:=hrel
  have K:=hid hK
  have HB1:=hid hB1
  have HB0:=hid hB0
  have HC:=hid hcur
  have HRC:=hid hRc
  have HOK:=hid hok
  clear hK hcur hRc hok
  by_cases hlt:k<n
  ·obtain ⟨d, hdk⟩ : ∃ d, L[k]? = some d := ⟨_, List.getElem?_eq_getElem (by have := HN.out; omega)⟩
   obtain ⟨s',p0,p1,p2,hRd⟩:=(HD.out k d hdk)
   obtain ⟨A3,l3,c3,es,-,-,-,-⟩:=hRd.shape
   injection es with es;injection es with es
   simp only [List.cons.injEq,and_true] at es
   obtain rfl:=es.2.1
   clear es
   have hokd:=HL.out d (List.mem_of_getElem? hdk)
   have hnext:leastD d0 (L.take (k+1))=if cmpQ d.q cur.q<0 then d else cur:=by
    rw [List.take_succ_eq_append_getElem (by have:=HN.out;omega)]
    have:L[k]'(by have:=HN.out;omega)=d:=by
     rw [List.getElem?_eq_getElem (by have:=HN.out;omega)] at hdk
     exact Option.some.inj hdk
    rw [this,leastD_snoc,←HC.out]
   have hcmp:=fun w1 (q:Kept w w1)=>dcmp_c (hRd.kept q) (HRC.out.kept q) hokd HOK.out
   have q0:=(K.out.cell (p:=⟨b,off+k*3,none⟩) lb).trans p0
   have q1:=(K.out.cell (p:=⟨b,off+k*3+1,none⟩) lb).trans p1
   have q2:=(K.out.cell (p:=⟨b,off+k*3+2,none⟩) lb).trans p2
   have HCM:=hid hcmp
   have HRD:=hid hRd
   have HOD:=hid hokd
   have HNX:=hid hnext
   clear hnext hcmp hRd hokd hdk p0 p1 p2 h0 h1 h2
   obtain ⟨lb1,r0,r1,r2,g0,g1,g2⟩:=hB1.facts
   clear hB1 hB0
   generalize hcc:cmpQ d.q cur.q=cmp at *
   clear hcc
   obtain ⟨nd,hnd⟩:∃ x,x=d.neg:=⟨_,rfl⟩
   obtain ⟨ed,hed⟩:∃ x,x=d.e:=⟨_,rfl⟩
   obtain ⟨nc,hnc⟩:∃ x,x=cur.neg:=⟨_,rfl⟩
   obtain ⟨ec,hec⟩:∃ x,x=cur.e:=⟨_,rfl⟩
   rw [←hnd] at q0 HCM HRD
   rw [←hed] at q2 HCM HRD
   rw [←hnc] at r0 HCM HRC HB1
   rw [←hec] at r2 HCM HRC HB1
   have X1:=hid hnd
   have X2:=hid hed
   have X3:=hid hnc
   have X4:=hid hec
   clear hnd hed hnc hec
   by_cases hc:cmp<0
   ·have hd' : decide (cmp < 0) = true := by simp [hc]
    have hnx:=HNX.out
    rw [if_pos hc] at hnx
    clear hc HNX
    have HNX:=hid hnx
    clear hnx
    go_wp2_with fail
    refine (HCM.out _ (K.out.trans (kept_alloc _ _))).mono ?_
    rintro e w2 ⟨rfl,q⟩
    have hx:=(blk_new wr (.bool nd) (.slice A3 l3 c3) (.int .i64 ed)).kept q
    have hb1:=HB1.out.kept ((kept_alloc _ _).trans q)
    have hb0:=HB0.out.kept ((kept_alloc _ _).trans q)
    replace K:=hid (K.out.trans ((kept_alloc _ _).trans q))
    clear q lb1 r0 r1 r2 g0 g1 g2
    obtain ⟨_,t0,t1,t2,-⟩:=hx.facts
    obtain ⟨lb1,r0,r1,r2,g0,g1,g2⟩:=hb1.facts
    have HX1:=hid hb1
    have HX0:=hid hb0
    clear hx hb1 hb0
    simp only []
    go_wp2_with fail
    go_roundw
    case rel =>
     refine ⟨k+1,d,A3,l3,c3,by omega,by go_num,HNX.out.symm,HOD.out,?_,?_,HX0.out.laid_other (by omega) _ _ _,dyW_kept K.out (by omega)⟩
     ·rw [←X1.out,←X2.out];exact HRD.out
     ·rw [←X1.out,←X2.out];exact HX1.out.laid _ _ _
    case measure=>simp [intOf];omega
   ·have hd' : decide (cmp < 0) = false := by simp [hc]
    have hnx:=HNX.out
    rw [if_neg hc] at hnx
    clear hc HNX
    have HNX:=hid hnx
    clear hnx
    go_wp2_with fail
    refine (HCM.out _ (K.out.trans (kept_alloc _ _))).mono ?_
    rintro e w2 ⟨rfl,q⟩
    have hx:=(blk_new wr (.bool nd) (.slice A3 l3 c3) (.int .i64 ed)).kept q
    have hb1:=HB1.out.kept ((kept_alloc _ _).trans q)
    have hb0:=HB0.out.kept ((kept_alloc _ _).trans q)
    replace K:=hid (K.out.trans ((kept_alloc _ _).trans q))
    clear q lb1 r0 r1 r2 g0 g1 g2
    obtain ⟨_,t0,t1,t2,-⟩:=hx.facts
    obtain ⟨lb1,r0,r1,r2,g0,g1,g2⟩:=hb1.facts
    have HX1:=hid hb1
    have HX0:=hid hb0
    clear hx hb1 hb0
    simp only []
    go_wp2_with fail
    go_roundw
    case rel =>
     refine ⟨k+1,cur,Ac,lc,cc,by omega,by go_num,HNX.out.symm,HOK.out,?_,?_,HX0.out,K.out⟩
     ·rw [←X3.out,←X4.out];exact HRC.out
     ·rw [←X3.out,←X4.out];exact HX1.out
    case measure=>simp [intOf];omega
  ·obtain rfl : k = n := by omega
   have hfin:leastD d0 L=cur:=by rw [HC.out,List.take_of_length_le (by have:=HN.out;omega)]
   obtain ⟨_,r0,r1,r2,-⟩:=hB1.facts
   obtain ⟨_,c0,c1',c2,f0,f1,f2⟩:=hB0.facts
   have HF:=hid hfin
   obtain ⟨lim,xa,xb⟩:=dyR_lim HRC.out
   have LIM:=hid lim
   have BX:=hid (And.intro xa xb)
   clear hfin hB1 hB0 lim xa xb
   go_wp2_with fail
   refine ret_dy (HB0.out.laid _ _ _) rfl rfl rfl ⟨dyW_kept K.out (Nat.le_refl _),_,rfl,?_⟩
   rw [HF.out]
   exact ((LIM.out.kept K.out).dyW HB0.out (noLimb_bool _) (noLimb_slice _ _ _) (noLimb_i64 _)).dyR (r:=cur.raw) BX.out.1 BX.out.2
theorem greatest_c {w:World}{v:Value}{d0:Dy}{l:List Dy}(hv:DyS w v (d0::l))(hl:okL (d0::l))(hn:(d0::l).length≤1000) :
 Calls Tryz.prog 131 #[v] w (RetD (greatestD d0 (d0::l)).raw w):=by
 obtain ⟨A,c,rfl,hc,hA⟩:=hv
 obtain ⟨b,off,rfl,hd⟩:=hA (by simp)
 have hat:=hd 0 d0 rfl
 rw [Nat.zero_mul,Nat.add_zero] at hat
 obtain ⟨s,h0,h1,h2,hR⟩:=hat
 have hok0:=hl d0 (List.mem_cons_self ..)
 obtain ⟨L,hL⟩:∃ L,L=d0::l:=⟨_,rfl⟩
 rw [←hL] at hd hl hn hc ⊢
 obtain ⟨n,hn'⟩:∃ n,n=L.length:=⟨_,rfl⟩
 rw [←hn'] at hn hc ⊢
 have hn0:0<n:=by rw [hn',hL];simp
 have lb:=lt_of_cell h0
 simp only at lb
 obtain ⟨A1,l1,c1,es,-,-,-,-⟩:=hR.shape
 injection es with es;injection es with es
 simp only [List.cons.injEq,and_true] at es
 obtain rfl:=es.2.1
 clear es hA
 have HD:=hid hd
 have HL:=hid hl
 have HN:=hid hn'
 have HR:=hid hR
 have HO:=hid hok0
 have HLL:=hid hL
 clear hd hl hn' hR hok0 hL
 obtain ⟨n0,hg1⟩:∃ x,x=d0.neg:=⟨_,rfl⟩
 obtain ⟨e0,hg2⟩:∃ x,x=d0.e:=⟨_,rfl⟩
 rw [←hg1] at h0
 rw [←hg2] at h2
 have G1:=hid hg1
 have G2:=hid hg2
 clear hg1 hg2
 go_enter Tryz.func131,Tryz.ntmps131
 go_wp2_with fail
 go_loopw [11] (fun t wr=>∃ (k:Nat) (cur:Dy) (Ac:Option Addr) (lc cc:Nat),k≤n∧t=.int .i64 k∧cur=greatestD d0 (L.take k)∧cur.Ok∧DyR w (.agg #[.bool cur.neg,.slice Ac lc cc,.int .i64 cur.e]) cur.raw ∧
  Blk wr (w.heap.size+1) (.bool cur.neg) (.slice Ac lc cc) (.int .i64 cur.e)∧Blk wr w.heap.size (.bool false) (.slice none 0 0) (.int .i64 0)∧Kept w wr) (fun t _=>(n-intOf t).toNat)
 case atStart =>
  refine ⟨0,d0,A1,l1,c1,Nat.zero_le _,rfl,rfl,HO.out,HR.out,?_,blk_alloc (blk_new0 w) _,(kept_alloc _ _).trans (kept_alloc _ _)⟩
  rw [←G1.out,←G2.out]
  exact blk_new1 _ _ _ _ _
 case round =>
  obtain ⟨k,cur,Ac,lc,cc,hk,rfl,hcur,hok,hRc,hB1,hB0,hK⟩:=hrel
  have K:=hid hK
  have HB1:=hid hB1
  have HB0:=hid hB0
  have HC:=hid hcur
  have HRC:=hid hRc
  have HOK:=hid hok
  clear hK hcur hRc hok
  by_cases hlt:k<n
  ·obtain ⟨d, hdk⟩ : ∃ d, L[k]? = some d := ⟨_, List.getElem?_eq_getElem (by have := HN.out; omega)⟩
   obtain ⟨s',p0,p1,p2,hRd⟩:=(HD.out k d hdk)
   obtain ⟨A3,l3,c3,es,-,-,-,-⟩:=hRd.shape
   injection es with es;injection es with es
   simp only [List.cons.injEq,and_true] at es
   obtain rfl:=es.2.1
   clear es
   have hokd:=HL.out d (List.mem_of_getElem? hdk)
   have hnext:greatestD d0 (L.take (k+1))=if 0<cmpQ d.q cur.q then d else cur:=by
    rw [List.take_succ_eq_append_getElem (by have:=HN.out;omega)]
    have:L[k]'(by have:=HN.out;omega)=d:=by
     rw [List.getElem?_eq_getElem (by have:=HN.out;omega)] at hdk
     exact Option.some.inj hdk
    rw [this,greatestD_snoc,←HC.out]
   have hcmp:=fun w1 (q:Kept w w1)=>dcmp_c (hRd.kept q) (HRC.out.kept q) hokd HOK.out
   have q0:=(K.out.cell (p:=⟨b,off+k*3,none⟩) lb).trans p0
   have q1:=(K.out.cell (p:=⟨b,off+k*3+1,none⟩) lb).trans p1
   have q2:=(K.out.cell (p:=⟨b,off+k*3+2,none⟩) lb).trans p2
   have HCM:=hid hcmp
   have HRD:=hid hRd
   have HOD:=hid hokd
   have HNX:=hid hnext
   clear hnext hcmp hRd hokd hdk p0 p1 p2 h0 h1 h2
   obtain ⟨lb1,r0,r1,r2,g0,g1,g2⟩:=hB1.facts
   clear hB1 hB0
   generalize hcc:cmpQ d.q cur.q=cmp at *
   clear hcc
   obtain ⟨nd,hnd⟩:∃ x,x=d.neg:=⟨_,rfl⟩
   obtain ⟨ed,hed⟩:∃ x,x=d.e:=⟨_,rfl⟩
   obtain ⟨nc,hnc⟩:∃ x,x=cur.neg:=⟨_,rfl⟩
   obtain ⟨ec,hec⟩:∃ x,x=cur.e:=⟨_,rfl⟩
   rw [←hnd] at q0 HCM HRD
   rw [←hed] at q2 HCM HRD
   rw [←hnc] at r0 HCM HRC HB1
   rw [←hec] at r2 HCM HRC HB1
   have X1:=hid hnd
   have X2:=hid hed
   have X3:=hid hnc
   have X4:=hid hec
   clear hnd hed hnc hec
   by_cases hc:0<cmp
   ·have hd' : decide (0 < cmp) = true := by simp [hc]
    have hnx:=HNX.out
    rw [if_pos hc] at hnx
    clear hc HNX
    have HNX:=hid hnx
    clear hnx
    go_wp2_with fail
    refine (HCM.out _ (K.out.trans (kept_alloc _ _))).mono ?_
    rintro e w2 ⟨rfl,q⟩
    have hx:=(blk_new wr (.bool nd) (.slice A3 l3 c3) (.int .i64 ed)).kept q
    have hb1:=HB1.out.kept ((kept_alloc _ _).trans q)
    have hb0:=HB0.out.kept ((kept_alloc _ _).trans q)
    replace K:=hid (K.out.trans ((kept_alloc _ _).trans q))
    clear q lb1 r0 r1 r2 g0 g1 g2
    obtain ⟨_,t0,t1,t2,-⟩:=hx.facts
    obtain ⟨lb1,r0,r1,r2,g0,g1,g2⟩:=hb1.facts
    have HX1:=hid hb1
    have HX0:=hid hb0
    clear hx hb1 hb0
    simp only []
    go_wp2_with fail
    go_roundw
    case rel =>
     refine ⟨k+1,d,A3,l3,c3,by omega,by go_num,HNX.out.symm,HOD.out,?_,?_,HX0.out.laid_other (by omega) _ _ _,dyW_kept K.out (by omega)⟩
     ·rw [←X1.out,←X2.out];exact HRD.out
     ·rw [←X1.out,←X2.out];exact HX1.out.laid _ _ _
    case measure=>simp [intOf];omega
   ·have hd' : decide (0 < cmp) = false := by simp [hc]
    have hnx:=HNX.out
    rw [if_neg hc] at hnx
    clear hc HNX
    have HNX:=hid hnx
    clear hnx
    go_wp2_with fail
    refine (HCM.out _ (K.out.trans (kept_alloc _ _))).mono ?_
    rintro e w2 ⟨rfl,q⟩
    have hx:=(blk_new wr (.bool nd) (.slice A3 l3 c3) (.int .i64 ed)).kept q
    have hb1:=HB1.out.kept ((kept_alloc _ _).trans q)
    have hb0:=HB0.out.kept ((kept_alloc _ _).trans q)
    replace K:=hid (K.out.trans ((kept_alloc _ _).trans q))
    clear q lb1 r0 r1 r2 g0 g1 g2
    obtain ⟨_,t0,t1,t2,-⟩:=hx.facts
    obtain ⟨lb1,r0,r1,r2,g0,g1,g2⟩:=hb1.facts
    have HX1:=hid hb1
    have HX0:=hid hb0
    clear hx hb1 hb0
    simp only []
    go_wp2_with fail
    go_roundw
    case rel =>
     refine ⟨k+1,cur,Ac,lc,cc,by omega,by go_num,HNX.out.symm,HOK.out,?_,?_,HX0.out,K.out⟩
     ·rw [←X3.out,←X4.out];exact HRC.out
     ·rw [←X3.out,←X4.out];exact HX1.out
    case measure=>simp [intOf];omega
  ·obtain rfl : k = n := by omega
   have hfin:greatestD d0 L=cur:=by rw [HC.out,List.take_of_length_le (by have:=HN.out;omega)]
   obtain ⟨_,r0,r1,r2,-⟩:=hB1.facts
   obtain ⟨_,c0,c1',c2,f0,f1,f2⟩:=hB0.facts
   have HF:=hid hfin
   obtain ⟨lim,xa,xb⟩:=dyR_lim HRC.out
   have LIM:=hid lim
   have BX:=hid (And.intro xa xb)
   clear hfin hB1 hB0 lim xa xb
   go_wp2_with fail
   refine ret_dy (HB0.out.laid _ _ _) rfl rfl rfl ⟨dyW_kept K.out (Nat.le_refl _),_,rfl,?_⟩
   rw [HF.out]
   exact ((LIM.out.kept K.out).dyW HB0.out (noLimb_bool _) (noLimb_slice _ _ _) (noLimb_i64 _)).dyR (r:=cur.raw) BX.out.1 BX.out.2
def laidI (w:World) (b2 b3:Nat) (x y z x' y' z' q:Value) (o:Obj):World:=((ivW w b2 x y z x' y' z').setCell ⟨b3,0,none⟩ q).alloc o
theorem laidI_cells {w:World}{b2 b3:Nat}{a b c a' b' c' q0 x y z x' y' z' q:Value}{T':TypeId}{o:Obj}(h0:BlkI w b2 a b c a' b' c')(h1:w.heap[b3]?=some (.cells #[q0] T' (0,0)))(hne:¬b2=b3) :
 BlkI (laidI w b2 b3 x y z x' y' z' q o) b2 x y z x' y' z'∧(laidI w b2 b3 x y z x' y' z' q o).cell? ⟨b3,0,none⟩=some q:=by
 have l2:b2<w.heap.size:=(Array.getElem?_eq_some_iff.1 h0).1
 have l3:b3<w.heap.size:=(Array.getElem?_eq_some_iff.1 h1).1
 constructor
 ·unfold BlkI laidI
  rw [Below.heap_alloc _ _ _ (by simp [World.setCell,ivW,l2])]
  exact block_setCell_other (h0.laid _ _ _ _ _ _) hne _
 ·have g1 : (laidI w b2 b3 x y z x' y' z' q o).heap[b3]? = some (.cells #[q] T' (0, 0)) := by
   unfold laidI
   rw [Below.heap_alloc _ _ _ (by simp [World.setCell,ivW,l3])]
   have h2:(ivW w b2 x y z x' y' z').heap[b3]?=some (.cells #[q0] T' (0,0)):=by rw [ivW_other _ _ _ _ _ _ _ _ _ (fun h=>hne h.symm)];exact h1
   exact block_setCell h2 _
  exact cell_of_block g1 0 _ rfl
theorem laidI_kept {w0 w:World}{b2 b3:Nat}{x y z x' y' z' q:Value}{o:Obj}(h:Kept w0 w)(h2:w0.heap.size≤b2)(h3:w0.heap.size≤b3):Kept w0 (laidI w b2 b3 x y z x' y' z' q o) :=
 ((ivW_kept h h2).setCell (p:=⟨b3,0,none⟩) h3 q).alloc (by simpa [World.setCell,ivW] using h.size) o
theorem DyR.laidI {w:World}{v:Value}{r:Raw}{b2 b3:Nat}{n n':Bool}{A A':Option Addr}{l c l' c':Nat}{e e' q0:Int}{T':TypeId}(h:DyR w v r)(hb:BlkI w b2 (.bool n) (.slice A l c) (.int .i64 e) (.bool n') (.slice A' l' c') (.int .i64 e'))
 (h1:w.heap[b3]?=some (.cells #[.int .i64 q0] T' (0,0))) (hne:¬b2=b3) (x y z x' y' z' q:Value) (o:Obj):DyR (Go.Proofs.YtabjjdicffcolaaGreatDoor.laidI w b2 b3 x y z x' y' z' q o) v r:=by
 obtain ⟨s,rfl,hs,e1,e2⟩:=h
 have hs2:=hs.ivW hb x y z x' y' z'
 have h2:(Go.Proofs.YtabjjdicffcolaaGreatDoor.ivW w b2 x y z x' y' z').cell? ⟨b3,0,none⟩=some (.int .i64 q0):=by
  have h2:(Go.Proofs.YtabjjdicffcolaaGreatDoor.ivW w b2 x y z x' y' z').heap[b3]?=some (.cells #[.int .i64 q0] T' (0,0)):=by rw [ivW_other _ _ _ _ _ _ _ _ _ (fun h=>hne h.symm)];exact h1
  exact cell_of_block h2 0 _ rfl
 have hs3:=hs2.setCell h2 (noLimb_i64 _) q
 exact ⟨s,rfl,hs3.kept (kept_alloc _ _),e1,e2⟩
theorem catchA_fail (b2 b3:Nat)(w:World)(k:Int)(x y z x' y' z' q:Value)
 (h0:BlkI w b2 x y z x' y' z') (h1:w.heap[b3]?=some (.cells #[q] 3 (0,0))) (hne:¬b2=b3) :
 CallsD Tryz.prog 172 #[.pointer (some ⟨b2,0,none⟩),.pointer (some ⟨b3,0,none⟩)] (.panicking (failV 166 k)) w fun e u' w' =>
  e = .returned (.tuple #[]) ∧ u' = .panicking [{ v := .iface 166 (.agg #[.int .i64 k]), recovered := true }] ∧
    w'=(laidI w b2 b3 (.bool false) (.slice none 0 0) (.int .i64 0) (.bool false) (.slice none 0 0) (.int .i64 0) (.int .i64 k) (.cells #[.int .i64 k] 166)).drew:=by
 have ha:=run_assert_failA k
 have l2:b2<w.heap.size:=(Array.getElem?_eq_some_iff.1 h0).1
 have l3:b3<w.heap.size:=(Array.getElem?_eq_some_iff.1 h1).1
 have n2:¬b2=w.heap.size:=by omega
 have n3:¬b3=w.heap.size:=by omega
 have n2':¬w.heap.size=b2:=by omega
 have n3':¬w.heap.size=b3:=by omega
 have hne':¬b3=b2:=fun h=>hne h.symm
 obtain ⟨-,c0,c1,c2,c3,c4,c5⟩:=h0.facts
 obtain ⟨f0,f1,f2,f3,f4,f5⟩:=h0.free
 have c30:=cell_of_block h1 0 q rfl
 have f30:=free_of_block h1 0
 refine callsD_of_wpS Tryz.func172 rfl fun c₀ cs hu=>?_
 simp only [Tryz.ntmps172,List.size_toArray,List.length_cons,List.length_nil,Nat.reduceAdd,Nat.reduceSub,Array.replicate_succ,
  Array.replicate_zero,List.push_toArray,List.append_toArray,List.nil_append,List.cons_append]
 refine wpS_recovers (v:=.iface 166 (.agg #[.int .i64 k])) (cs':={ c₀ with mode:=.panicking [{ v:=.iface 166 (.agg #[.int .i64 k]),recovered:=true }] }::cs) (w':=w) rfl ?_ ?_ ?_
 ·simp [go_sem]
 ·rw [recoverD,hu];exact ⟨rfl,rfl⟩
 go_wp2_with fail
 go_region
 all_goals exact ⟨rfl,_,rfl,_,results_none rfl _ _ _,rfl,rfl,rfl⟩
theorem catchA_idle (b2 b3:Nat)(w:World) :
 CallsD Tryz.prog 172 #[.pointer (some ⟨b2,0,none⟩),.pointer (some ⟨b3,0,none⟩)] .returning w fun e u' w' =>
  e=.returned (.tuple #[])∧u'=.returning∧w'=w.alloc (.cells #[.int .i64 0] 166):=by
 have ha:=run_assert_nilA
 refine callsD_of_wpS Tryz.func172 rfl fun c₀ cs hu=>?_
 simp only [Tryz.ntmps172,List.size_toArray,List.length_cons,List.length_nil,Nat.reduceAdd,Nat.reduceSub,Array.replicate_succ,
  Array.replicate_zero,List.push_toArray,List.append_toArray,List.nil_append,List.cons_append]
 refine wpS_recovers (v:=.nilIface) (cs':=c₀::cs) (w':=w) rfl ?_ ?_ ?_
 ·simp [go_sem]
 ·rw [recoverD,hu];exact ⟨rfl,rfl⟩
 go_wp2_with fail
 exact ⟨rfl,.returning,by rw [←hu],_,results_none rfl _ _ _,rfl,rfl,rfl⟩
section
variable {P:Program} {ops:Array Oper} {Q:Exit→Act→World→Prop}
theorem seq_steps {m:Nat}{V:Nat→Value→World→Prop}{a0:Act}{W:World}
 (hsz:m≤ops.size) (hap:apartSlots ops m=true) (hin:slotsIn ops m a0.tmps.size=true) (hbk:backOk .any ops=true)
 (hmono:∀ i v w w',Kept w w'→V i v w→V i v w')
 (hstep:∀ i o,i<m→ops[i]?=some o→∀ a w,Finds .any ops m V a0 W i a w→StepOK P ops Q V i o a w)
 (hend:∀ u w,Kept W w→(∀ i,i<m→V i (u i) w)→wpOps P ops Q (List.range' m (ops.size-m)) (puts ops (fun _=>true) u m a0) w) :
 ∀ (k i:Nat) (u:Nat→Value) (w:World),i+k=m→Kept W w→(∀ j,j<i→V j (u j) w)→wpOps P ops Q (List.range' i (ops.size-i)) (puts ops (fun j=>decide (j<i)) u m a0) w:=by
 intro k
 induction k with
 | zero =>
   intro i u w hi hk hu
   obtain rfl:i=m:=by omega
   have e:puts ops (fun j=>decide (j<i)) u i a0=puts ops (fun _=>true) u i a0:=puts_congr i (fun j hj=>⟨by simp [hj],rfl⟩)
   rw [e]
   exact hend u w hk hu
 | succ k ih =>
   intro i u w hi hk hu
   have him:i<m:=by omega
   have his:i<ops.size:=by omega
   obtain ⟨r,hr⟩:∃ r,ops.size-i=r+1:=⟨ops.size-i-1,by omega⟩
   have hr':ops.size-(i+1)=r:=by omega
   rw [hr,List.range'_succ]
   have hoi:=Array.getElem?_eq_getElem his
   have hback:∀ x y,waitsFor .any ops x y=true→y<x:=by
    intro x y hxy
    unfold waitsFor at hxy
    by_cases hx:x<ops.size
    ·have h1 := all_range hbk x hx
     rw [Array.getElem?_eq_getElem hx] at h1 hxy
     simp only [Option.map_some,Option.getD_some,Array.all_eq_true',Array.any_eq_true'] at h1 hxy
     obtain ⟨e,he,hb⟩:=hxy
     simp only [Bool.and_eq_true,beq_iff_eq] at hb
     have:=h1 e he
     rw [hb.1,hb.2] at this
     simpa using this
    ·rw [Array.getElem?_eq_none (by omega)] at hxy;simp at hxy
   have hF:Finds .any ops m V a0 W i (puts ops (fun j=>decide (j<i)) u m a0) w:=by
    refine ⟨hk,puts_defers m,fun j t hw hs=>?_,fun t hu0=>?_⟩
    ·have hji := hback i j hw
     have hjm:j<m:=by omega
     have htn:t<a0.tmps.size:=by
      have:=all_range hin j hjm
      rw [hs] at this
      simpa using this
     rw [getD_puts_some (i:=j) htn (by simp [hji]) hs m hjm (fun j' hj' hne=>?_)]
     ·exact hu j hji
     ·have h1 := all_range (all_range hap j hjm) j' hj'
      rw [hs] at h1
      simp only [Bool.or_eq_true,beq_iff_eq,bne_iff_ne] at h1
      rcases h1 with (h1 | h1) | h1
      ·exact absurd h1.symm hne
      ·cases h1
      ·exact fun h=>h1 h.symm
    ·refine getD_puts_none m (fun j hj hjl hs => ?_)
     have h1:=all_range hu0 j hj
     rw [hs] at h1
     simp only [bne_self_eq_false,Bool.false_or,Bool.or_eq_true,beq_iff_eq] at h1
     simp only [decide_eq_true_eq] at hjl
     rcases h1 with h1 | h1
     ·omega
     ·have:=hback j i h1;omega
   have hs:=hstep i ops[i] him hoi _ w hF
   unfold StepOK at hs
   have hso:(ops[i]).dst=slotOf ops i:=by unfold slotOf;rw [hoi];rfl
   have hput:∀ v,(puts ops (fun j=>decide (j<i)) u m a0).put (ops[i]).dst v=puts ops (fun j=>decide (j<i+1)) (upd u i v) m a0:=by
    intro v
    rw [hso,puts_add (S:=fun j=>decide (j<i)) (by simp) m him (fun j hj hne=>?_)]
    ·refine puts_congr m (fun j _ => ⟨?_, rfl⟩)
     unfold upd
     by_cases hj:j=i
     ·rw [if_pos hj];simp;omega
     ·rw [if_neg hj]
      by_cases h2:j<i
      ·simp [h2];omega
      ·simp [h2];omega
    ·have h1 := all_range (all_range hap i him) j hj
     simp only [Bool.or_eq_true,beq_iff_eq,bne_iff_ne] at h1
     rcases h1 with (h1 | h1) | h1
     ·exact absurd h1.symm hne
     ·exact .inl h1
     ·exact .inr h1
   have hnext:∀ v w',Kept w w'→V i v w'→wpOps P ops Q (List.range' (i+1) r) ((puts ops (fun j=>decide (j<i)) u m a0).put (ops[i]).dst v) w':=by
    intro v w' hk' hv
    rw [hput]
    have:=ih (i+1) (upd u i v) w' (by omega) (hk.trans hk') (fun j hj=>by
     unfold upd
     by_cases hji:j=i
     ·subst hji;rw [if_pos rfl];exact hv
     ·rw [if_neg hji];exact hmono j _ _ _ hk' (hu j (by omega)))
    rw [hr'] at this
    exact this
   unfold wpOps
   simp only [hoi]
   by_cases hw:Region.wanted ops[i] (yielded ops (puts ops (fun j=>decide (j<i)) u m a0).tmps)=true
   ·rw [if_pos hw] at hs ⊢
    refine .inl (Oper.wp_mono (fun a' w' h=>?_) hs)
    obtain ⟨v,rfl,hk',hv⟩:=h
    exact hnext v w' hk' hv
   ·rw [if_neg hw] at hs ⊢
    exact hnext undef w (Below.refl _ _) hs
theorem seq_start {id m:Nat}{V:Nat→Value→World→Prop}{a0:Act}{W:World}
 (hsz:m≤ops.size) (hap:apartSlots ops m=true) (hin:slotsIn ops m a0.tmps.size=true) (hbk:backOk .any ops=true)
 (hmono:∀ i v w w',Kept w w'→V i v w→V i v w')
 (hstep:∀ i o,i<m→ops[i]?=some o→∀ a w,Finds .any ops m V a0 W i a w→StepOK P ops Q V i o a w)
 (hend:∀ u w,Kept W w→(∀ i,i<m→V i (u i) w)→wpOps P ops Q (List.range' m (ops.size-m)) (puts ops (fun _=>true) u m a0) w) :
 (Code.region id ops false).wp P Q a0 W:=by
 refine wp_region ?_
 rw [List.range_eq_range']
 have h:=seq_steps hsz hap hin hbk hmono hstep hend m 0 (fun _=>undef) W (by omega) (Below.refl _ _) (fun j hj=>absurd hj (Nat.not_lt_zero _))
 have e:∀ n,puts ops (fun j=>decide (j<0)) (fun _=>undef) n a0=a0:=by
  intro n
  induction n with
  | zero=>rfl
  | succ n ih=>unfold puts;rw [if_neg (by simp),ih]
 rw [e m,Nat.sub_zero] at h
 exact h
theorem region_seq {id m:Nat}{V:Nat→Value→World→Prop}{a0:Act}{W:World}
 (hsz:m=ops.size) (hap:apartSlots ops m=true) (hin:slotsIn ops m a0.tmps.size=true) (hbk:backOk .any ops=true)
 (hmono:∀ i v w w',Kept w w'→V i v w→V i v w')
 (hstep:∀ i o,i<m→ops[i]?=some o→∀ a w,Finds .any ops m V a0 W i a w→StepOK P ops Q V i o a w)
 (hend:∀ u w,Kept W w→(∀ i,i<m→V i (u i) w)→Q .normal (puts ops (fun _=>true) u m a0) w) :
 (Code.region id ops false).wp P Q a0 W:=by
 refine seq_start (by omega) hap hin hbk hmono hstep (fun u w k hu=>?_)
 have:ops.size-m=0:=by omega
 rw [this]
 exact hend u w k hu
theorem wpOps_one {i:Nat}{o:Oper}{a:Act}{w:World}{rest:List Nat}(ho:ops[i]?=some o)(hg:o.guard=none)(h:o.wp P a w (fun a w=>wpOps P ops Q rest a w) Q):wpOps P ops Q (i::rest) a w:=by
 unfold wpOps
 simp only [ho]
 have:Region.wanted o (yielded ops a.tmps)=true:=by simp [Region.wanted,hg]
 rw [if_pos this]
 exact .inl h
theorem region_seq1 {id m:Nat}{V:Nat→Value→World→Prop}{a0:Act}{W:World}{o:Oper}
 (hsz:m+1=ops.size) (ho:ops[m]?=some o) (hg:o.guard=none) (hap:apartSlots ops m=true) (hin:slotsIn ops m a0.tmps.size=true) (hbk:backOk .any ops=true)
 (hmono:∀ i v w w',Kept w w'→V i v w→V i v w')
 (hstep:∀ i o,i<m→ops[i]?=some o→∀ a w,Finds .any ops m V a0 W i a w→StepOK P ops Q V i o a w)
 (hend:∀ u w,Kept W w→(∀ i,i<m→V i (u i) w)→o.wp P (puts ops (fun _=>true) u m a0) w (Q .normal) Q) :
 (Code.region id ops false).wp P Q a0 W:=by
 refine seq_start (by omega) hap hin hbk hmono hstep (fun u w k hu=>?_)
 have:ops.size-m=0+1:=by omega
 rw [this,List.range'_succ]
 exact wpOps_one ho hg (hend u w k hu)
theorem region_seq2 {id m:Nat}{V:Nat→Value→World→Prop}{a0:Act}{W:World}{o o':Oper}
 (hsz:m+2=ops.size) (ho:ops[m]?=some o) (hg:o.guard=none) (ho':ops[m+1]?=some o') (hg':o'.guard=none) (hap:apartSlots ops m=true) (hin:slotsIn ops m a0.tmps.size=true) (hbk:backOk .any ops=true)
 (hmono:∀ i v w w',Kept w w'→V i v w→V i v w')
 (hstep:∀ i o,i<m→ops[i]?=some o→∀ a w,Finds .any ops m V a0 W i a w→StepOK P ops Q V i o a w)
 (hend:∀ u w,Kept W w→(∀ i,i<m→V i (u i) w)→o.wp P (puts ops (fun _=>true) u m a0) w (fun a w=>o'.wp P a w (Q .normal) Q) Q) :
 (Code.region id ops false).wp P Q a0 W:=by
 refine seq_start (by omega) hap hin hbk hmono hstep (fun u w k hu=>?_)
 have:ops.size-m=1+1:=by omega
 rw [this,List.range'_succ]
 refine wpOps_one ho hg (Oper.wp_mono (fun a w h=>?_) (hend u w k hu))
 rw [List.range'_succ]
 exact wpOps_one ho' hg' h
end
section
variable {P:Program} {ops:Array Oper} {Q:Exit→Act→World→Prop}
theorem step_imp {V V1:Nat→Value→World→Prop}{i:Nat}{o:Oper}{a:Act}{w:World}(h:StepOK P ops Q V1 i o a w)(hi:∀ v w',V1 i v w'→V i v w'):StepOK P ops Q V i o a w:=by
 unfold StepOK at *
 by_cases hw:Region.wanted o (yielded ops a.tmps)=true
 ·rw [if_pos hw] at h ⊢
  exact Oper.wp_mono (fun a' w' ⟨v,h1,h2,h3⟩=>⟨v,h1,h2,hi v w' h3⟩) h
 ·rw [if_neg hw] at h ⊢
  exact hi _ _ h
end
theorem dyR_zero (w:World):DyR w (.agg #[.bool false,.slice none 0 0,.int .i64 0]) rz:=⟨_,rfl,Lim.nil _ _ _,by decide,by decide⟩
theorem DyR.dyW {w:World}{v:Value}{r:Raw}{b:Nat}{x y z:Value}(h:DyR w v r)(h0:Blk w b x y z)(hx:NoLimb x)(hy:NoLimb y)(hz:NoLimb z)(x' y' z':Value):DyR (Go.Proofs.YtabjjdicffcolaaGreatDoor.dyW w b x' y' z') v r:=by
 obtain ⟨s,rfl,hs,h1,h2⟩:=h
 exact ⟨s,rfl,hs.dyW h0 hx hy hz,h1,h2⟩
theorem boxF (w:World)(x y z:Value):∃ V,V=w.alloc (.cells #[x,y,z] 28)∧Kept w V∧Blk V w.heap.size x y z∧w.heap.size<V.heap.size :=
 ⟨_,rfl,kept_alloc _ _,blk_new _ _ _ _,by simp⟩
theorem limbs1:limbs 1=[1]:=by rw [limbs_pos 1 (by decide)];simp [limbs_zero]
def d1:Dy:=⟨false,1,0⟩
theorem one_ok (n:Bool)(e:Int)(h1:-1048576≤e)(h2:e≤1048576):(Dy.mk n 1 e).Ok:=⟨by simp [limbs1],fun h=>absurd h (by simp),fun _=>rfl,h1,h2⟩
theorem d1_ok:d1.Ok:=one_ok _ _ (by decide) (by decide)
theorem fit_1:fitD false 1 0=⟨d1,0⟩:=fitD_self d1_ok
theorem w64_s {i:Nat}(h:i<1000000):wrap64 ((i:Int)+1)=((i+1:Nat):Int):=by unfold wrap64;omega
theorem meas_l {i q:Nat}(h:i<q):((q:Int)-((i+1:Nat):Int)).toNat<((q:Int)-(i:Int)).toNat:=by omega
theorem cellKM {w w':World}{b o:Nat}{v:Value}(h:w.cell? ⟨b,o,none⟩=some v)(k:Kept w w'):w'.cell? ⟨b,o,none⟩=some v:=(k.cell (p:=⟨b,o,none⟩) (lt_of_cell h)).trans h
theorem rsame_c {w:World}{v u:Value}{r:Raw}(hv:DyR w v r)(hu:DyR w u r)(hr:r.m.length≤1000000):Calls Tryz.prog 61 #[v,u] w (RetK (.bool true) w):=by
 obtain ⟨s,rfl,hl,-,-⟩:=hv
 obtain ⟨s',rfl,hl',-,-⟩:=hu
 obtain ⟨-,A,c,rfl,-,hA⟩:=hl
 obtain ⟨-,A',c',rfl,-,hA'⟩:=hl'
 generalize r.neg=n1 at *
 generalize r.e=e1 at *
 obtain ⟨W,hW,kW,B0,B1⟩:=boxes2 w (.bool n1) (.slice A r.m.length c) (.int .i64 e1) (.bool n1) (.slice A' r.m.length c') (.int .i64 e1)
 have HA:=hid hA
 have HA':=hid hA'
 have HW:=hid hW
 have K:=hid kW
 have HB:=hid B0
 have HD:=hid B1
 have RN:=hid hr
 clear hA hA' hW kW B0 B1 hr
 obtain ⟨-,c0,c1,c2,-⟩:=HB.out.facts
 obtain ⟨-,d0,d1,d2,-⟩:=HD.out.facts
 go_enter Tryz.func61,Tryz.ntmps61
 go_upto_region 1 with fail
 rw [←HW.out]
 go_wp2_with fail
 go_loopw [5] (fun vi wr=>∃ i:Nat,i≤r.m.length∧vi=.int .i64 i∧Kept W wr) (fun vi _=>(r.m.length-intOf vi).toNat)
 case atStart=>exact ⟨0,Nat.zero_le _,rfl,Below.refl _ _⟩
 case round =>
  obtain ⟨i,hi,rfl,hkr⟩:=hrel
  have KR:=hid hkr
  clear hkr c0 c1 c2 d0 d1 d2
  obtain ⟨-,c0,c1,c2,-⟩:=(HB.out.kept KR.out).facts
  obtain ⟨-,d0,d1,d2,-⟩:=(HD.out.kept KR.out).facts
  by_cases hlt:i<r.m.length
  ·obtain ⟨b, off, rfl, -, hb⟩ := HA.out (by omega)
   obtain ⟨b',off',rfl,-,hb'⟩:=HA'.out (by omega)
   have x0:=cellKM (hb i hlt) (K.out.trans KR.out)
   have x1:=cellKM (hb' i hlt) (K.out.trans KR.out)
   obtain ⟨z,hz⟩:∃ z,z=nth r.m i:=⟨_,rfl⟩
   rw [←hz] at x0 x1
   have X0:=hid x0
   have X1:=hid x1
   have BB:=hid (HB.out.kept KR.out)
   have BD:=hid (HD.out.kept KR.out)
   have HLT:=hid hlt
   clear x0 x1 hb hb' hz hlt
   go_wp2_with fail
   refine region_lin (m:=11) (V:=VL [(vP w.heap.size 1),(vE (.slice (some ⟨b,off,none⟩) r.m.length c)),(vE (.int .i64 (i:Int))),(vE (.pointer (some ⟨b,off+i,none⟩))),(vE (.int .u64 (z:Int))),(vP (w.heap.size+1) 1),(vE (.slice (some ⟨b',off',none⟩) r.m.length c')),(vE (.int .i64 (i:Int))),(vE (.pointer (some ⟨b',off'+i,none⟩))),(vE (.int .u64 (z:Int))),(vE (.bool false))])
    (by kernel_rfl) rfl (by kernel_rfl) (by kernel_rfl) (by kernel_rfl) (mono_of _ ⟨mE,mE,mE,mE,mE,mE,mE,mE,mE,mE,mE,trivial⟩) (steps_of ⟨
      (fun aF wF F=>by have s2:aF.tmps.getD 2 undef=(.pointer (some ⟨w.heap.size,0,none⟩)):=F.o 2;exact sv rfl),(fun aF wF F=>by have s34:=F.v 0 34;have c0:=cell_at BB.out F.kept 1 _ rfl;exact sv rfl),(fun aF wF F=>by have s5:aF.tmps.getD 5 undef=(.int .i64 (i:Int)):=F.o 5;exact sv rfl),(fun aF wF F=>by have s35:=F.v 1 35;have s36:=F.v 2 36;exact sw (by (have h9:=HLT.out;go_simp)) rfl),(fun aF wF F=>by have s37:=F.v 3 37;exact sw (by (have n0:=cellKM X0.out F.kept;go_simp)) rfl),(fun aF wF F=>by have s3:aF.tmps.getD 3 undef=(.pointer (some ⟨w.heap.size+1,0,none⟩)):=F.o 3;exact sv rfl),(fun aF wF F=>by have s39:=F.v 5 39;have c0:=cell_at BD.out F.kept 1 _ rfl;exact sv rfl),(fun aF wF F=>by have s5:aF.tmps.getD 5 undef=(.int .i64 (i:Int)):=F.o 5;exact sv rfl),(fun aF wF F=>by have s40:=F.v 6 40;have s41:=F.v 7 41;exact sw (by (have h9:=HLT.out;go_simp)) rfl),(fun aF wF F=>by have s42:=F.v 8 42;exact sw (by (have n0:=cellKM X1.out F.kept;go_simp)) rfl),(fun aF wF F=>by have s38:=F.v 4 38;have s43:=F.v 9 43;exact sv rfl),
      trivial⟩) ?_
   intro u w6 q6 hu
   simp only [puts,slotOf,if_true,Act.put,z1,z2,z3,z4,z5,z6,z7,hv hu 0,hv hu 1,hv hu 2,hv hu 3,hv hu 4,hv hu 5,hv hu 6,hv hu 7,hv hu 8,hv hu 9,hv hu 10]
   clear hu
   have K6:=hid (KR.out.trans q6)
   clear q6
   go_wp2_with fail
   go_roundw
   case rel=>exact ⟨i+1,HLT.out,congrArg _ (w64_s (Nat.lt_of_lt_of_le HLT.out RN.out)),K6.out⟩
   case measure =>
    rw [w64_s (Nat.lt_of_lt_of_le HLT.out RN.out)]
    simp only [intOf]
    exact meas_l HLT.out
  ·obtain rfl : i = r.m.length := by omega
   go_wp2_with fail
   go_ret
   exact ⟨rfl,K.out.trans KR.out⟩
theorem rsameI_c {w:World}{v u:Value}{a:RawI}(hv:IvR w v a)(hu:IvR w u a)(hl:a.lens 1000000):Calls Tryz.prog 28 #[v,u] w (RetK (.bool true) w):=by
 obtain ⟨A,l,c,A',l',c',rfl,h1,h2⟩:=ivR_split hv
 obtain ⟨B,j,e,B',j',e',rfl,g1,g2⟩:=ivR_split hu
 have q1:=fun w1 (k:Kept w w1)=>rsame_c (h1.kept k) (g1.kept k) hl.1
 have q2:=fun w1 (k:Kept w w1)=>rsame_c (h2.kept k) (g2.kept k) hl.2
 have Q1:=hid q1
 have Q2:=hid q2
 clear q1 q2 h1 h2 g1 g2 hv hu hl
 generalize a.lo.neg=n1 at *
 generalize a.lo.e=e1 at *
 generalize a.hi.neg=n2 at *
 generalize a.hi.e=e2 at *
 obtain ⟨W,hW,kW,BI,BJ⟩:=box2ii w (.bool n1) (.slice A l c) (.int .i64 e1) (.bool n2) (.slice A' l' c') (.int .i64 e2) (.bool n1) (.slice B j e) (.int .i64 e1) (.bool n2) (.slice B' j' e') (.int .i64 e2)
 have HW:=hid hW
 have K:=hid kW
 have HB:=hid BI
 have HD:=hid BJ
 clear hW kW BI BJ
 go_enter Tryz.func28,Tryz.ntmps28
 go_upto_region 1 with fail
 rw [←HW.out]
 refine region_seq (m:=13) (V:=VL [(vP w.heap.size 0),(vE (.agg #[.bool n1,.slice A l c,.int .i64 e1])),(vP (w.heap.size+1) 0),(vE (.agg #[.bool n1,.slice B j e,.int .i64 e1])),(vE (.bool true)),(vE (.bool true)),(vP w.heap.size 3),(vE (.agg #[.bool n2,.slice A' l' c',.int .i64 e2])),(vP (w.heap.size+1) 3),(vE (.agg #[.bool n2,.slice B' j' e',.int .i64 e2])),(vE (.bool true)),(vE (.bool true)),(vE (.bool true))])
  rfl (by kernel_rfl) (by kernel_rfl) (by kernel_rfl) (mono_of _ ⟨mE,mE,mE,mE,mE,mE,mE,mE,mE,mE,mE,mE,mE,trivial⟩) (steps_of ⟨
   (fun aF wF F=>by have s2:aF.tmps.getD 2 undef=(.pointer (some ⟨w.heap.size,0,none⟩)):=F.o 2;exact sv rfl),(fun aF wF F=>by have s5:=F.v 0 5;have c0:=cell_at HB.out F.kept 0 _ rfl;have c1:=cell_at HB.out F.kept 1 _ rfl;have c2:=cell_at HB.out F.kept 2 _ rfl;exact sv rfl),(fun aF wF F=>by have s3:aF.tmps.getD 3 undef=(.pointer (some ⟨w.heap.size+1,0,none⟩)):=F.o 3;exact sv rfl),(fun aF wF F=>by have s7:=F.v 2 7;have c0:=cell_at HD.out F.kept 0 _ rfl;have c1:=cell_at HD.out F.kept 1 _ rfl;have c2:=cell_at HD.out F.kept 2 _ rfl;exact sv rfl),(fun aF wF F=>by have s6:=F.v 1 6;have s8:=F.v 3 8;exact sK (Q1.out _ (K.out.trans F.kept)) fun _ _ h=>h),(fun aF wF F=>by have s9:=F.v 4 9;exact sv rfl),(fun aF wF F=>by have s2:aF.tmps.getD 2 undef=(.pointer (some ⟨w.heap.size,0,none⟩)):=F.o 2;have sg:=F.v 5 10;exact step_val ((wanted_guard rfl rfl sg).trans rfl) (by go_simp) rfl),(fun aF wF F=>by have s11:=F.v 6 11;have c0:=cell_at HB.out F.kept 3 _ rfl;have c1:=cell_at HB.out F.kept 4 _ rfl;have c2:=cell_at HB.out F.kept 5 _ rfl;have sg:=F.v 5 10;exact step_val ((wanted_guard rfl rfl sg).trans rfl) (by go_simp) rfl),(fun aF wF F=>by have s3:aF.tmps.getD 3 undef=(.pointer (some ⟨w.heap.size+1,0,none⟩)):=F.o 3;have sg:=F.v 5 10;exact step_val ((wanted_guard rfl rfl sg).trans rfl) (by go_simp) rfl),(fun aF wF F=>by have s13:=F.v 8 13;have c0:=cell_at HD.out F.kept 3 _ rfl;have c1:=cell_at HD.out F.kept 4 _ rfl;have c2:=cell_at HD.out F.kept 5 _ rfl;have sg:=F.v 5 10;exact step_val ((wanted_guard rfl rfl sg).trans rfl) (by go_simp) rfl),(fun aF wF F=>by have s12:=F.v 7 12;have s14:=F.v 9 14;have sg:=F.v 5 10;exact step_good ((wanted_guard rfl rfl sg).trans rfl) (by go_simp) (Q2.out _ (K.out.trans F.kept)) (fun _ _ h=>RetK.good h) (fun _ _ h=>h)),(fun aF wF F=>by have s10:=F.v 5 10;have s15:=F.v 10 15;exact sv rfl),(fun aF wF F=>by have s16:=F.v 11 16;exact sv rfl),
   trivial⟩) ?_
 intro u w1 k1 hu
 simp only [puts,slotOf,if_true,Act.put,z1,z2,z3,z4,z5,z6,z7,hv hu 0,hv hu 1,hv hu 2,hv hu 3,hv hu 4,hv hu 5,hv hu 6,hv hu 7,hv hu 8,hv hu 9,hv hu 10,hv hu 11,hv hu 12]
 clear hu
 have KF:=hid (K.out.trans k1)
 clear k1
 go_wp2_with fail
 go_ret
 exact ⟨rfl,KF.out⟩
def SBlk (w:World) (b:Nat) (p:Nat) (up:Bool):Prop:=w.heap[b]?=some (.cells #[.int .i64 (p:Int),.bool up] 175 (0,0))
theorem SBlk.kept {w w1:World}{b p:Nat}{up:Bool}(h:SBlk w b p up)(k:Kept w w1):SBlk w1 b p up:=(k.block b (Array.getElem?_eq_some_iff.1 h).1).trans h
theorem SBlk.facts {w:World}{b p:Nat}{up:Bool}(h:SBlk w b p up):b<w.heap.size∧w.cell? ⟨b,0,none⟩=some (.int .i64 (p:Int))∧w.cell? ⟨b,1,none⟩=some (.bool up) :=
 ⟨(Array.getElem?_eq_some_iff.1 h).1,cell_of_block h 0 _ rfl,cell_of_block h 1 _ rfl⟩
theorem SBlk.dyW {w:World}{b c p:Nat}{up:Bool}(h:SBlk w b p up)(hne:¬b=c)(x y z:Value):SBlk (dyW w c x y z) b p up:=by
 show (((w.setCell _ _).setCell _ _).setCell _ _).heap[b]?=_
 rw [Below.heap_setCell _ _ _ _ hne,Below.heap_setCell _ _ _ _ hne,Below.heap_setCell _ _ _ _ hne]
 exact h
theorem box_s (w:World)(p:Nat)(up:Bool)(x y z:Value):∃ W,W=((w.alloc (.cells #[.int .i64 (p:Int),.bool up] 175)).alloc (.cells #[x,y,z] 28)).alloc (.cells #[.bool false,.slice none 0 0,.int .i64 0] 28) ∧
 Kept w W∧SBlk W w.heap.size p up∧Blk W (w.heap.size+1) x y z∧Blk W (w.heap.size+1+1) (.bool false) (.slice none 0 0) (.int .i64 0):=by
 refine ⟨_,rfl,((kept_alloc _ _).trans (kept_alloc _ _)).trans (kept_alloc _ _),?_,?_,blk_new2' _ _ _ _ _ _⟩
 ·exact SBlk.kept (SBlk.kept (show SBlk (w.alloc _) _ _ _ from heap_alloc_new _ _) (kept_alloc _ _)) (kept_alloc _ _)
 ·exact (blk_new1 _ _ _ _ _).kept (kept_alloc _ _)
theorem xroundU {w:World}{v:Value}{p:Nat}{d:Dy}(hv:DyR w v d.raw)(ok:d.Ok)(p1:1≤p)(p2:p≤2000)(hT:Tab w) :
 Calls Tryz.prog 185 #[.agg #[.int .i64 (p:Int),.bool true],v] w (RetD (rndS p true d).raw w):=by
 have C:=hid (fun w1 v1 (k:Kept w w1) (h:DyR w1 v1 d.raw)=>Up_c h ok (hT.kept k) p1 p2)
 obtain ⟨A,l,c,rfl,hs⟩:=dyR_split hv
 have HS:=hid hs
 clear hv hs hT ok p1 p2
 have hd:rndS p true d=(dirD d p true).v:=rfl
 rw [hd]
 obtain ⟨o,ho⟩:∃ o,o=(dirD d p true).raw:=⟨_,rfl⟩
 rw [←ho] at C
 have hr:(dirD d p true).v.raw=o.v:=by rw [ho];rfl
 rw [hr]
 clear hr ho hd
 generalize d.raw=r at *
 generalize d.neg=n1 at *
 generalize d.e=e at *
 obtain ⟨W,hW,kW,BS,BA,BR⟩:=box_s w p true (.bool n1) (.slice A l c) (.int .i64 e)
 have HW:=hid hW
 have K:=hid kW
 have HB:=hid BR
 obtain ⟨-,s0,s1⟩:=BS.facts
 obtain ⟨-,a0,a1,a2,-⟩:=BA.facts
 clear hW kW BR
 go_enter Tryz.func185,Tryz.ntmps185
 go_upto_region 1 with fail
 rw [←HW.out]
 go_wp2_with fail
 refine (C.out _ _ K.out (HS.out.kept K.out)).mono ?_
 rintro ee w1 ⟨q,u,rfl,hd⟩
 simp only []
 have KK:=hid (K.out.trans q)
 have HD:=hid hd
 replace HB:=hid (HB.out.kept q)
 clear q hd a0 a1 a2 s0 s1
 go_wp2_with fail
 refine (xsure_c HD.out).mono ?_
 rintro ee w2 ⟨q,v2,rfl,hd2⟩
 obtain ⟨A',l',c',rfl,-,hd,g1,g2⟩:=hd2.shape
 replace KK:=hid (KK.out.trans q)
 replace HB:=hid (HB.out.kept q)
 replace HD:=hid hd
 clear q hd hd2
 obtain ⟨-,x0,x1,x2,f0,f1,f2⟩:=HB.out.facts
 simp only []
 go_wp2_with fail
 exact ret_dy (HB.out.laid _ _ _) rfl rfl rfl ⟨dyW_kept KK.out (by omega),_,rfl,(HD.out.dyW HB.out (noLimb_bool _) (noLimb_slice _ _ _) (noLimb_i64 _)).dyR g1 g2⟩
theorem xroundD {w:World}{v:Value}{p:Nat}{d:Dy}(hv:DyR w v d.raw)(ok:d.Ok)(p1:1≤p)(p2:p≤2000)(hT:Tab w) :
 Calls Tryz.prog 185 #[.agg #[.int .i64 (p:Int),.bool false],v] w (RetD (rndS p false d).raw w):=by
 have C:=hid (fun w1 v1 (k:Kept w w1) (h:DyR w1 v1 d.raw)=>Down_c h ok (hT.kept k) p1 p2)
 obtain ⟨A,l,c,rfl,hs⟩:=dyR_split hv
 have HS:=hid hs
 clear hv hs hT ok p1 p2
 have hd:rndS p false d=(dirD d p false).v:=rfl
 rw [hd]
 obtain ⟨o,ho⟩:∃ o,o=(dirD d p false).raw:=⟨_,rfl⟩
 rw [←ho] at C
 have hr:(dirD d p false).v.raw=o.v:=by rw [ho];rfl
 rw [hr]
 clear hr ho hd
 generalize d.raw=r at *
 generalize d.neg=n1 at *
 generalize d.e=e at *
 obtain ⟨W,hW,kW,BS,BA,BR⟩:=box_s w p false (.bool n1) (.slice A l c) (.int .i64 e)
 have HW:=hid hW
 have K:=hid kW
 have HB:=hid BR
 obtain ⟨-,s0,s1⟩:=BS.facts
 obtain ⟨-,a0,a1,a2,-⟩:=BA.facts
 clear hW kW BR
 go_enter Tryz.func185,Tryz.ntmps185
 go_upto_region 1 with fail
 rw [←HW.out]
 go_wp2_with fail
 refine (C.out _ _ K.out (HS.out.kept K.out)).mono ?_
 rintro ee w1 ⟨q,u,rfl,hd⟩
 simp only []
 have KK:=hid (K.out.trans q)
 have HD:=hid hd
 replace HB:=hid (HB.out.kept q)
 clear q hd a0 a1 a2 s0 s1
 go_wp2_with fail
 refine (xsure_c HD.out).mono ?_
 rintro ee w2 ⟨q,v2,rfl,hd2⟩
 obtain ⟨A',l',c',rfl,-,hd,g1,g2⟩:=hd2.shape
 replace KK:=hid (KK.out.trans q)
 replace HB:=hid (HB.out.kept q)
 replace HD:=hid hd
 clear q hd hd2
 obtain ⟨-,x0,x1,x2,f0,f1,f2⟩:=HB.out.facts
 simp only []
 go_wp2_with fail
 exact ret_dy (HB.out.laid _ _ _) rfl rfl rfl ⟨dyW_kept KK.out (by omega),_,rfl,(HD.out.dyW HB.out (noLimb_bool _) (noLimb_slice _ _ _) (noLimb_i64 _)).dyR g1 g2⟩
theorem xround_c {w:World}{v:Value}{p:Nat}{up:Bool}{d:Dy}(hv:DyR w v d.raw)(ok:d.Ok)(p1:1≤p)(p2:p≤2000)(hT:Tab w) :
 Calls Tryz.prog 185 #[.agg #[.int .i64 (p:Int),.bool up],v] w (RetD (rndS p up d).raw w):=by
 cases up
 ·exact xroundD hv ok p1 p2 hT
 ·exact xroundU hv ok p1 p2 hT
end Go.Proofs.YtabjjdicffcolaaGreatDoor
