/- Words and contracts, part 37. -/
import Derived.Test.YtmgaloopddiekaaGreatDoorClaimFargsp34
import Derived.Test.YtmgaloopddiekaaGreatDoorClaimFargsp35
import Derived.Test.YtmgaloopddiekaaGreatDoorClaimFargsp36
set_option maxRecDepth 100000
set_option maxHeartbeats 0
namespace Go.Proofs.YtmgaloopddiekaaGreatDoor
open Go.Lib (hid)
open Go.RowKit
def Kd (a:RawI):Bool:=decide (a.lo.m.length≤6)&&decide (a.hi.m.length≤6)
def Kh (l:List RawI):Bool:=decide (l.length≤8)&&l.all Kd
def Mr (ls:List Ln) (outs:List Int):Bool:=decide (ls.length≤40)&&decide (outs.length≤12)&&ls.all fun l=>Kd l.k
theorem Yn {l:List RawI}{i:Nat}{x:RawI}(h:l[i]?=some x)(hf:Kd x=false):Kh l=false:=by
 unfold Kh;have h2:l.all Kd=false:=by
  cases h3:l.all Kd with
  | false=>rfl
  | true=>have:=List.all_eq_true.1 h3 x (List.mem_of_getElem? h);rw [hf] at this;cases this
 rw [h2,Bool.and_false]
theorem Abs {l:List RawI}(h:l.length≤8)(hf:∀ (i:Nat) x,l[i]?=some x→Kd x=true):Kh l=true:=by
 unfold Kh;rw [decide_eq_true h,Bool.true_and,List.all_eq_true];intro x hx;obtain ⟨i,hi⟩:=List.getElem?_of_mem hx;exact hf i x hi
theorem IvAt.lens {w:World}{b o:Nat}{a:RawI}(h:IvAt w b o a):∃ x A c z x' A' c' z',w.cell? ⟨b,o,none⟩=some x∧w.cell? ⟨b,o+1,none⟩=some (.slice A a.lo.m.length c)∧w.cell? ⟨b,o+2,none⟩=some z ∧
 w.cell? ⟨b,o+3,none⟩=some x'∧w.cell? ⟨b,o+4,none⟩=some (.slice A' a.hi.m.length c')∧w.cell? ⟨b,o+5,none⟩=some z':=by
 obtain ⟨y0,y1,y2,y3,y4,y5,g0,g1,g2,g3,g4,g5,hI⟩:=h;obtain ⟨x0,x1,x2,x3,x4,x5,e,⟨s,e1,hs,-,-⟩,⟨s',e2,hs',-,-⟩⟩:=hI;obtain ⟨-,A,c,rfl,-,-⟩:=hs;obtain ⟨-,A',c',rfl,-,-⟩:=hs';injection e with e;injection e with e
 injection e1 with e1;injection e1 with e1
 injection e2 with e2;injection e2 with e2
 simp only [List.cons.injEq,and_true] at e e1 e2;obtain ⟨rfl,rfl,rfl,rfl,rfl,rfl⟩:=e;obtain ⟨rfl,rfl,rfl⟩:=e1;obtain ⟨rfl,rfl,rfl⟩:=e2;exact ⟨_,A,c,_,_,A',c',_,g0,g1,g2,g3,g4,g5⟩
theorem Ag9 {w:World}{v:Value}{l:List RawI}(hv:IvS w v l)(hn:l.length≤1000000000000000)(hl:∀ a∈l,a.lens 17592186044416):Calls Tryz.prog 6 #[v] w (RetK (.bool (Kh l)) w):=by
 obtain ⟨A,c,rfl,hc,hA⟩:=hv;have HA:=hid hA;have HL:=hid hl;obtain ⟨R,hR⟩:∃ R,Kh l=R:=⟨_,rfl⟩;rw [hR];have HR:=hid hR;clear hA hR hl;obtain ⟨n,hn'⟩:∃ n,n=l.length:=⟨_,rfl⟩;rw [←hn'] at hn hc HA ⊢;have HN:=hid hn';clear hn';by_cases h8:n≤8
 ·have t1 : decide ((8 : Int) < (n : Int)) = false := by simp; omega
  go_enter Tryz.func6,Tryz.ntmps6;go_wp2_with fail;clear t1
  go_loopw [3] (fun t wr=>∃ k:Nat,k≤n∧t=.int .i64 k∧(∀ i x,i<k→l[i]?=some x→Kd x=true)∧Kept w wr) (fun t _=>(n-intOf t).toNat)
  case atStart=>exact ⟨0,Nat.zero_le _,rfl,fun i a hi=>absurd hi (Nat.not_lt_zero _),Below.refl _ _⟩
  case round =>
   obtain ⟨k,hk,rfl,hall,hKr⟩:=hrel;have KR:=hid hKr;have AL:=hid hall;clear hKr hall;by_cases hlt:k<n
   ·obtain ⟨b,off,rfl,hd⟩:=HA.out (by omega);obtain ⟨x,hx⟩:∃ x,l[k]?=some x:=⟨_,List.getElem?_eq_getElem (by have:=HN.out;omega)⟩;have hat:=(hd k x hx).kept KR.out;obtain ⟨y0,A1,q1,y2,y3,A2,q2,y5,g0,g1,g2,g3,g4,g5⟩:=hat.lens;have HX:=hid hx;obtain ⟨l1,l2⟩:=HL.out x (List.mem_of_getElem? hx);obtain ⟨fx,hfx⟩:∃ f,Kd x=f:=⟨_,rfl⟩;have HF:=hid hfx;unfold Kd at hfx;generalize x.lo.m.length=n1 at *;generalize x.hi.m.length=n2 at *;clear hd hx hat g0 g2 g3 g5;by_cases f1:n1≤6
    ·have u1:decide ((6:Int)<(n1:Int))=false:=by simp;omega
     by_cases f2:n2≤6
     ·have u2:decide ((6:Int)<(n2:Int))=false:=by simp;omega
      obtain rfl:fx=true:=by rw [←hfx];simp [f1,f2]
      clear hfx f1 f2;go_wp2_with fail;go_roundw
      case rel =>
       refine ⟨k+1,by omega,by go_num,fun i a hi ha'=>?_,KR.out⟩;by_cases h2:i=k
       ·subst h2;rw [HX.out] at ha';cases ha';exact HF.out
       ·exact AL.out i a (by omega) ha'
      case measure=>simp only [intOf];omega
     ·have u2:decide ((6:Int)<(n2:Int))=true:=by simp;omega
      obtain rfl:fx=false:=by rw [←hfx];simp [f2]
      clear hfx f1 f2;go_wp2_with fail;go_ret;exact ⟨by rw [←HR.out,Yn HX.out HF.out];rfl,KR.out⟩
    ·have u1:decide ((6:Int)<(n1:Int))=true:=by simp;omega
     obtain rfl:fx=false:=by rw [←hfx];simp [f1]
     clear hfx f1;go_wp2_with fail;go_ret;exact ⟨by rw [←HR.out,Yn HX.out HF.out];rfl,KR.out⟩
   ·obtain rfl:k=n:=by omega
    go_wp2_with fail;go_ret;exact ⟨by rw [←HR.out,Abs (by have:=HN.out;omega) (fun i x hx=>AL.out i x (by have:=(List.getElem?_eq_some_iff.1 hx).1;have:=HN.out;omega) hx)];rfl,KR.out⟩
 ·have t1:decide ((8:Int)<(n:Int))=true:=by simp;omega
  go_enter Tryz.func6,Tryz.ntmps6;go_wp2_with fail;go_ret;exact ⟨by rw [←HR.out];unfold Kh;rw [decide_eq_false (by have:=HN.out;omega)];rfl,Below.refl _ _⟩
theorem Yo {ls:List Ln}{outs:List Int}{i:Nat}{x:Ln}(h:ls[i]?=some x)(hf:Kd x.k=false):Mr ls outs=false:=by
 unfold Mr;have h2:(ls.all fun l=>Kd l.k)=false:=by
  cases h3:ls.all fun l=>Kd l.k with
  | false=>rfl
  | true=>have:=List.all_eq_true.1 h3 x (List.mem_of_getElem? h);rw [hf] at this;cases this
 rw [h2,Bool.and_false]
theorem Abt {ls:List Ln}{outs:List Int}(h:ls.length≤40)(h':outs.length≤12)(hf:∀ (i:Nat) x,ls[i]?=some x→Kd x.k=true):Mr ls outs=true:=by
 unfold Mr;rw [decide_eq_true h,decide_eq_true h',Bool.true_and,Bool.true_and,List.all_eq_true];intro x hx;obtain ⟨i,hi⟩:=List.getElem?_of_mem hx;exact hf i x hi
theorem Gw {ls:List Ln}{outs:List Int}(h:Mr ls outs=true):ls.length≤40∧outs.length≤12∧∀ l∈ls,l.k.lens 6:=by
 unfold Mr Kd at h;simp only [Bool.and_eq_true,decide_eq_true_eq,List.all_eq_true] at h;exact ⟨h.1.1,h.1.2,fun l hl=>h.2 l hl⟩
theorem Gv {l:List RawI}(h:Kh l=true):l.length≤8∧∀ a∈l,a.lens 6:=by
 unfold Kh Kd at h;simp only [Bool.and_eq_true,decide_eq_true_eq,List.all_eq_true] at h;exact ⟨h.1,fun l hl=>h.2 l hl⟩
theorem Ajd   {w:World}{v:Value}{ls:List Ln}{outs:List Int}(hv:TpR w v ls outs)(hn:ls.length≤1000000000000000)(hno:outs.length≤1000000000000000)(hl:Ke   ls) :
 Calls Tryz.prog 5 #[v] w (RetK (.bool (Mr ls outs)) w):=by
 obtain ⟨s,o,rfl,hls,hou⟩:=hv;obtain ⟨A,c,rfl,hc,hA⟩:=hls;obtain ⟨B,d,rfl,hd,-⟩:=hou;have HA:=hid hA;have HL:=hid hl;obtain ⟨W,hW,kW,hb,lW⟩:=Ahk w (.slice A ls.length c) (.slice B outs.length d);have HW:=hid hW;have K:=hid kW;have HB:=hid hb;obtain ⟨c0,c1⟩:=Cj hb;obtain ⟨R,hR⟩:∃ R,Mr ls outs=R:=⟨_,rfl⟩;rw [hR];have HR:=hid hR;clear hA hR hl hW kW hb;obtain ⟨n,hn'⟩:∃ n,n=ls.length:=⟨_,rfl⟩;obtain ⟨no,hno'⟩:∃ n,n=outs.length:=⟨_,rfl⟩;rw [←hn'] at hn hc HA HW HB ⊢;rw [←hn'] at c0;rw [←hno'] at hno hd HW HB ⊢;rw [←hno'] at c1;have HN:=hid hn';have HNO:=hid hno';clear hn' hno';by_cases h8:n≤40
 ·have t1 : decide ((40 : Int) < (n : Int)) = false := by simp; omega
  by_cases h9:no≤12
  ·have t2 : decide ((12 : Int) < (no : Int)) = false := by simp; omega
   go_enter Tryz.func5,Tryz.ntmps5;go_upto_region 1 with fail;rw [←HW.out];go_wp2_with fail;clear t1 t2 c0 c1
   go_loopw [3] (fun t wr=>∃ k:Nat,k≤n∧t=.int .i64 k∧(∀ i x,i<k→ls[i]?=some x→Kd x.k=true)∧Kept W wr) (fun t _=>(n-intOf t).toNat)
   case atStart=>exact ⟨0,Nat.zero_le _,rfl,fun i a hi=>absurd hi (Nat.not_lt_zero _),Below.refl _ _⟩
   case round =>
    obtain ⟨k,hk,rfl,hall,hKr⟩:=hrel;have KR:=hid hKr;have AL:=hid hall;obtain ⟨c0,-⟩:=Cj (Aj HB.out hKr);clear hKr hall;by_cases hlt:k<n
    ·obtain ⟨b,off,rfl,hd⟩:=HA.out (by omega);obtain ⟨x,hx⟩:∃ x,ls[k]?=some x:=⟨_,List.getElem?_eq_getElem (by have:=HN.out;omega)⟩;have hat:=(hd k x hx).kept (K.out.trans KR.out);obtain ⟨y0,A1,q1,y2,y3,A2,q2,y5,g0,g1,g2,g3,g4,g5⟩:=hat.2.2.2.lens;have HX:=hid hx;obtain ⟨-,-,l1,l2⟩:=HL.out x (List.mem_of_getElem? hx);obtain ⟨fx,hfx⟩:∃ f,Kd x.k=f:=⟨_,rfl⟩;have HF:=hid hfx;unfold Kd at hfx;generalize x.k.lo.m.length=n1 at *;generalize x.k.hi.m.length=n2 at *;clear hd hx hat g0 g2 g3 g5;by_cases f1:n1≤6
     ·have u1:decide ((6:Int)<(n1:Int))=false:=by simp;omega
      by_cases f2:n2≤6
      ·have u2:decide ((6:Int)<(n2:Int))=false:=by simp;omega
       obtain rfl:fx=true:=by rw [←hfx];simp [f1,f2]
       clear hfx f1 f2;go_wp2_with fail;go_roundw
       case rel =>
        refine ⟨k+1,by omega,by go_num,fun i a hi ha'=>?_,KR.out⟩;by_cases h2:i=k
        ·subst h2;rw [HX.out] at ha';cases ha';exact HF.out
        ·exact AL.out i a (by omega) ha'
       case measure=>simp only [intOf];omega
      ·have u2:decide ((6:Int)<(n2:Int))=true:=by simp;omega
       obtain rfl:fx=false:=by rw [←hfx];simp [f2]
       clear hfx f1 f2;go_wp2_with fail;go_ret;exact ⟨by rw [←HR.out,Yo HX.out HF.out];rfl,K.out.trans KR.out⟩
     ·have u1:decide ((6:Int)<(n1:Int))=true:=by simp;omega
      obtain rfl:fx=false:=by rw [←hfx];simp [f1]
      clear hfx f1;go_wp2_with fail;go_ret;exact ⟨by rw [←HR.out,Yo HX.out HF.out];rfl,K.out.trans KR.out⟩
    ·obtain rfl:k=n:=by omega
     go_wp2_with fail;go_ret;exact ⟨by rw [←HR.out,Abt (by have:=HN.out;omega) (by have:=HNO.out;omega) (fun i x hx=>AL.out i x (by have:=(List.getElem?_eq_some_iff.1 hx).1;have:=HN.out;omega) hx)];rfl,K.out.trans KR.out⟩
  ·have t2:decide ((12:Int)<(no:Int))=true:=by simp;omega
   go_enter Tryz.func5,Tryz.ntmps5;go_upto_region 1 with fail;rw [←HW.out];go_wp2_with fail;go_ret;exact ⟨by rw [←HR.out];unfold Mr;rw [decide_eq_false (p:=outs.length≤12) (by have:=HNO.out;omega),Bool.and_false];rfl,K.out⟩
 ·have t1:decide ((40:Int)<(n:Int))=true:=by simp;omega
  go_enter Tryz.func5,Tryz.ntmps5;go_upto_region 1 with fail;rw [←HW.out];go_wp2_with fail;go_ret;exact ⟨by rw [←HR.out];unfold Mr;rw [decide_eq_false (p:=ls.length≤40) (by have:=HN.out;omega)];rfl,K.out⟩
theorem Aiy (w:World)(s o a b c a' b' c' a2 b2 c2:Value):∃ W,W=(((w.alloc (.cells #[s,o] 25)).alloc (.cells #[a,b,c] 30)).alloc (.cells #[a',b',c'] 30)).alloc (.cells #[a2,b2,c2] 30) ∧
 Kept w W∧W.heap[w.heap.size]?=some (.cells #[s,o] 25 (0,0))∧Blk W (w.heap.size+1) a b c∧Blk W (w.heap.size+1+1) a' b' c'∧Blk W (w.heap.size+1+1+1) a2 b2 c2:=by
 obtain ⟨V1,e1,k1,s1,h1⟩:∃ V,V=w.alloc (.cells #[s,o] 25)∧Kept w V∧V.heap.size=w.heap.size+1∧V.heap[w.heap.size]?=some (.cells #[s,o] 25 (0,0)):=⟨_,rfl,Ad _ _,by simp,heap_alloc_new _ _⟩;obtain ⟨V4,e4,k4,s4,h4⟩:∃ V,V=V1.alloc (.cells #[a,b,c] 30)∧Kept V1 V∧V.heap.size=V1.heap.size+1∧Blk V V1.heap.size a b c:=⟨_,rfl,Ad _ _,by simp,blk_new _ _ _ _⟩;obtain ⟨V5,e5,k5,s5,h5⟩:∃ V,V=V4.alloc (.cells #[a',b',c'] 30)∧Kept V4 V∧V.heap.size=V4.heap.size+1∧Blk V V4.heap.size a' b' c':=⟨_,rfl,Ad _ _,by simp,blk_new _ _ _ _⟩;obtain ⟨V6,e6,k6,s6,h6⟩:∃ V,V=V5.alloc (.cells #[a2,b2,c2] 30)∧Kept V5 V∧V.heap.size=V5.heap.size+1∧Blk V V5.heap.size a2 b2 c2:=⟨_,rfl,Ad _ _,by simp,blk_new _ _ _ _⟩
 rw [s5,s4,s1] at h6;rw [s4,s1] at h5;rw [s1] at h4;exact ⟨V6,by rw [e6,e5,e4,e1],k1.trans (k4.trans (k5.trans k6)),Aj h1 (k4.trans (k5.trans k6)),h4.kept (k5.trans k6),h5.kept k6,h6⟩
theorem Wq {w:World}{vt vx vp vf vg vh:Value}{ls:List Ln}{outs:List Int}{x p:List RawI}{rf rt rh:Raw}{bits:Int}(hv:TpR w vt ls outs)(hx:IvS w vx x)(hp:IvS w vp p)(h1:DyR w vf rf)(h2:DyR w vg rt)(h3:DyR w vh rh)(hok:Ke ls)
 (hn:ls.length≤1000000000000000) (hno:outs.length≤1000000000000000) (lx:∀ a∈x,a.lens 17592186044416) (nx:x.length≤1000000000000000) (lp:∀ a∈p,a.lens 17592186044416) (np:p.length≤1000000000000000)
 (l1:rf.m.length≤17592186044416) (l2:rt.m.length≤17592186044416) (l3:rh.m.length≤17592186044416) (hT:Tab w) (TD:∀ w1,Tab w1→Calls Tryz.prog 17 #[] w1 (RetK (.bool true) w1)) :
 Calls Tryz.prog 4 #[vt,vx,vp,vf,vg,vh,.int .i64 bits] w (RetK (.bool true) w):=by
 have T:=hid hT;have TD':=hid TD;have FC:=hid (fun w1 (k:Kept w w1)=>Ajd (hv.kept k) hn hno hok);have R1:=hid (fun w1 (k:Kept w w1)=>Ag9 (hx.kept k) nx lx);have R2:=hid (fun w1 (k:Kept w w1)=>Ag9 (hp.kept k) np lp);have M8:=hid (fun (h:Mr ls outs=true) w1 (k:Kept w w1)=>Ads (x:=(x.length:Int)) (u:=0) (p:=(p.length:Int)) (hv.kept k) hok (by have:=(Gw h).1;omega) (by have:=(Gw h).2.1;omega));have MX:=hid (fun (h:Kh x=true) w1 (k:Kept w w1)=>Vb (hx.kept k) (by have:=(Gv h).1;omega) lx);have MP:=hid (fun (h:Kh p=true) w1 (k:Kept w w1)=>Vb (hp.kept k) (by have:=(Gv h).1;omega) lp)
 have DF:=hid (fun w1 (k:Kept w w1)=>Kn (h1.kept k) l1);have DT:=hid (fun w1 (k:Kept w w1)=>Kn (h2.kept k) l2);have DH:=hid (fun w1 (k:Kept w w1)=>Kn (h3.kept k) l3);have SH:=hid (fun w1 (k:Kept w w1)=>Sy (h3.kept k) l3);have CM:=hid (fun (a:Di rf=true) (b:Di rt=true) w1 (k:Kept w w1)=>show Calls Tryz.prog 15 #[vf,vg] w1 (RetK (.int .i64 (Pf rf rt)) w1) by
  obtain ⟨e1,o1⟩:=Dq h1.small a;obtain ⟨e2,o2⟩:=Dq h2.small b;unfold Pf;rw [a,b,Bool.and_self,if_pos rfl];exact Ado (by rw [e1];exact h1.kept k) (by rw [e2];exact h2.kept k) o1 o2)
 have TO:=hid (fun (a:Mr ls outs=true) (b:Kh x=true) (c:Kh p=true) (d:Nj ls outs x p rf rt rh bits=false) w1 (k:Kept w w1) s o (e:vt=.agg #[s,o])=>Y9 (bits:=bits) (show TpR w1 (.agg #[s,o]) ls outs from e▸hv.kept k) hok (by have:=(Gw a).1;omega) (by have:=(Gw a).2.1;omega) (hp.kept k) (hx.kept k) (by have:=(Gv c).1;omega) (by have:=(Gv b).1;omega) lp lx (h1.kept k) (h2.kept k) (h3.kept k) l1 l2 l3 (hT.kept k) (Ug d));have OV:=hid (fun (a:Mr ls outs=true) (b:Kh x=true) (c:Kh p=true) (d:Nj ls outs x p rf rt rh bits=false) w1 (k:Kept w w1) s o (e:vt=.agg #[s,o])=>Rn (bits:=bits) (show TpR w1 (.agg #[s,o]) ls outs from e▸hv.kept k) hok (by have:=(Gw a).1;omega) (by have:=(Gw a).2.1;omega) (hp.kept k) (hx.kept k) (by have:=(Gv c).1;omega) (by have:=(Gv b).1;omega) lp lx (h1.kept k) (h2.kept k) (h3.kept k) l1 l2 l3 (hT.kept k) (Ug d))
 obtain ⟨s,o,rfl,hls,hou⟩:=hv;obtain ⟨A,c,rfl,-,-⟩:=hls;obtain ⟨B,d,rfl,-,-⟩:=hou;obtain ⟨Af,lf,cf,rfl,-⟩:=By h1;obtain ⟨At,lt,ct,rfl,-⟩:=By h2;obtain ⟨Ah,lh,ch,rfl,-⟩:=By h3;obtain ⟨AX,cx,rfl,-,-⟩:=hx;obtain ⟨AP,cq,rfl,-,-⟩:=hp;replace TO:=hid (fun a b c d w1 k=>TO.out a b c d w1 k _ _ rfl);replace OV:=hid (fun a b c d w1 k=>OV.out a b c d w1 k _ _ rfl);obtain ⟨D,hD⟩:∃ D,Nj ls outs x p rf rt rh bits=D:=⟨_,rfl⟩;rw [hD] at TO OV;unfold Nj at hD;clear h1 h2 h3 l1 l2 l3 hT hok hn hno lx nx lp np TD;obtain ⟨b1,hb1⟩:∃ b,decide (8≤bits)=b:=⟨_,rfl⟩;obtain ⟨b2,hb2⟩:∃ b,decide (bits≤200)=b:=⟨_,rfl⟩
 obtain ⟨b3,hb3⟩:∃ b,Hk ls outs x.length 0 p.length=b:=⟨_,rfl⟩;obtain ⟨b4,hb4⟩:∃ b,decide (outs.length=x.length)=b:=⟨_,rfl⟩;obtain ⟨b5,hb5⟩:∃ b,decide (1≤x.length)=b:=⟨_,rfl⟩;obtain ⟨b6,hb6⟩:∃ b,decide (x.length≤6)=b:=⟨_,rfl⟩;obtain ⟨b7,hb7⟩:∃ b,x.all Ck=b:=⟨_,rfl⟩;obtain ⟨b8,hb8⟩:∃ b,p.all Ck=b:=⟨_,rfl⟩;obtain ⟨b9,hb9⟩:∃ b,Di rf=b:=⟨_,rfl⟩;obtain ⟨b10,hb10⟩:∃ b,Di rt=b:=⟨_,rfl⟩;obtain ⟨b11,hb11⟩:∃ b,Di rh=b:=⟨_,rfl⟩;obtain ⟨b12,hb12⟩:∃ b,decide (Pf rf rt≤0)=b:=⟨_,rfl⟩;obtain ⟨b13,hb13⟩:∃ b,decide (0<Jr rh)=b:=⟨_,rfl⟩;rw [hb1,hb2,hb3,hb4,hb5,hb6,hb7,hb8,hb9,hb10,hb11,hb12,hb13] at hD
 rw [hb3] at M8;rw [hb7] at MX;rw [hb8] at MP;rw [hb9] at DF CM;rw [hb10] at DT CM;rw [hb11] at DH;obtain ⟨ft,hft⟩:∃ b,Mr ls outs=b:=⟨_,rfl⟩;obtain ⟨fx,hfx⟩:∃ b,Kh x=b:=⟨_,rfl⟩;obtain ⟨fp,hfp⟩:∃ b,Kh p=b:=⟨_,rfl⟩;rw [hft] at FC M8 TO OV;rw [hfx] at R1 MX TO OV;rw [hfp] at R2 MP TO OV;have HD:=hid hD;have B4:=hid (show (((outs.length:Nat):Int)==((x.length:Nat):Int))=b4 by rw [←hb4];by_cases h:outs.length=x.length<;>simp [h];omega);have B5:=hid (show decide ((1:Int)≤((x.length:Nat):Int))=b5 by rw [←hb5,decide_eq_decide];omega);have B6:=hid (show decide (((x.length:Nat):Int)≤(6:Int))=b6 by rw [←hb6,decide_eq_decide];omega)
 have B1:=hid hb1;have B2:=hid hb2;have B12:=hid hb12;have B13:=hid hb13;obtain ⟨f1,hf1⟩:∃ y,decide (6<lf)=!y:=⟨!decide (6<lf),by simp⟩;obtain ⟨f2,hf2⟩:∃ y,decide (6<lt)=!y:=⟨!decide (6<lt),by simp⟩;obtain ⟨f3,hf3⟩:∃ y,decide (6<lh)=!y:=⟨!decide (6<lh),by simp⟩;have F1:=hid (show decide ((6:Int)<(lf:Int))=!f1 by rw [←hf1,decide_eq_decide];omega);have F2:=hid (show decide ((6:Int)<(lt:Int))=!f2 by rw [←hf2,decide_eq_decide];omega);have F3:=hid (show decide ((6:Int)<(lh:Int))=!f3 by rw [←hf3,decide_eq_decide];omega);clear hD hb1 hb2 hb3 hb4 hb5 hb6 hb7 hb8 hb9 hb10 hb11 hb12 hb13 hft hfx hfp hf1 hf2 hf3
 generalize Pf rf rt=cc at *;generalize Jr rh=sh at *;generalize rf.neg=n1 at *;generalize rf.e=e1 at *;generalize rt.neg=n2 at *;generalize rt.e=e2 at *;generalize rh.neg=n3 at *;generalize rh.e=e3 at *;generalize x.length=lx at *;generalize p.length=lp at *;generalize ls.length=lsn at *;generalize outs.length=lo at *;obtain ⟨W,hW,kW,B0,BA,BB,BC⟩:=Aiy w (.slice A lsn c) (.slice B lo d) (.bool n1) (.slice Af lf cf) (.int .i64 e1) (.bool n2) (.slice At lt ct) (.int .i64 e2) (.bool n3) (.slice Ah lh ch) (.int .i64 e3);have HW:=hid hW;have K:=hid kW;have H0:=hid B0;have HA:=hid BA;have HB:=hid BB
 have HC:=hid BC;clear hW kW B0 BA BB BC;go_enter Tryz.func4,Tryz.ntmps4;go_upto_region 1 with fail;rw [←HW.out];clear HW
 go_cut [50] (fun s50 wx=>s50=.bool (!(ft&&fx&&fp&&f1&&f2&&f3))∧Kept W wx)
 case first =>
  clear M8 MX MP DF DT DH SH CM TO OV HD B4 B5 B6 B1 B2 B12 B13 TD';obtain ⟨z0,z1⟩:=Cj H0.out;obtain ⟨-,a0,a1,a2,-⟩:=HA.out.facts;obtain ⟨-,c0,c1,c2,-⟩:=HB.out.facts;obtain ⟨-,d0,d1,d2,-⟩:=HC.out.facts;go_wp2_with fail;refine (FC.out _ K.out).mono ?_;rintro _ w1 ⟨rfl,q1⟩;simp only [];have K0:=hid q1;have K1:=hid (K.out.trans q1);clear q1 z0 z1 a0 a1 a2 c0 c1 c2 d0 d1 d2;obtain ⟨z0,z1⟩:=Cj (Aj H0.out K0.out);obtain ⟨-,a0,a1,a2,-⟩:=(HA.out.kept K0.out).facts;obtain ⟨-,c0,c1,c2,-⟩:=(HB.out.kept K0.out).facts;obtain ⟨-,d0,d1,d2,-⟩:=(HC.out.kept K0.out).facts;cases ft
  ·go_wp2_with fail
   go_meet
   exact ⟨by simp,K0.out⟩
  go_wp2_with fail;refine (R1.out _ K1.out).mono ?_;rintro _ w1 ⟨rfl,q1⟩;simp only [];replace K0:=hid (K0.out.trans q1);replace K1:=hid (K1.out.trans q1);clear q1 z0 z1 a0 a1 a2 c0 c1 c2 d0 d1 d2;obtain ⟨z0,z1⟩:=Cj (Aj H0.out K0.out);obtain ⟨-,a0,a1,a2,-⟩:=(HA.out.kept K0.out).facts;obtain ⟨-,c0,c1,c2,-⟩:=(HB.out.kept K0.out).facts;obtain ⟨-,d0,d1,d2,-⟩:=(HC.out.kept K0.out).facts;cases fx
  ·go_wp2_with fail
   go_meet
   exact ⟨by simp,K0.out⟩
  go_wp2_with fail;refine (R2.out _ K1.out).mono ?_;rintro _ w1 ⟨rfl,q1⟩;simp only [];replace K0:=hid (K0.out.trans q1);replace K1:=hid (K1.out.trans q1);clear q1 z0 z1 a0 a1 a2 c0 c1 c2 d0 d1 d2;obtain ⟨z0,z1⟩:=Cj (Aj H0.out K0.out);obtain ⟨-,a0,a1,a2,-⟩:=(HA.out.kept K0.out).facts;obtain ⟨-,c0,c1,c2,-⟩:=(HB.out.kept K0.out).facts;obtain ⟨-,d0,d1,d2,-⟩:=(HC.out.kept K0.out).facts;cases fp
  ·go_wp2_with fail
   go_meet
   exact ⟨by simp,K0.out⟩
  have g1:=F1.out;have g2:=F2.out;have g3:=F3.out;cases f1
  ·go_wp2_with fail
   go_meet
   exact ⟨by simp,K0.out⟩
  cases f2
  ·go_wp2_with fail
   go_meet
   exact ⟨by simp,K0.out⟩
  cases f3
  ·go_wp2_with fail
   go_meet
   exact ⟨by simp,K0.out⟩
  go_wp2_with fail
  go_meet
  exact ⟨by simp,K0.out⟩
 obtain ⟨rfl,k1⟩:=hcut;have KO:=hid K.out;have H0O:=hid H0.out;have HAO:=hid HA.out;have HBO:=hid HB.out;have HCO:=hid HC.out;have KW:=hid k1;replace K:=hid (K.out.trans k1);replace H0:=hid (Aj H0.out k1);replace HA:=hid (HA.out.kept k1);replace HB:=hid (HB.out.kept k1);replace HC:=hid (HC.out.kept k1);clear k1 FC R1 R2 F1 F2 F3;rcases (Ay (ft&&fx&&fp&&f1&&f2&&f3)).symm with hg | hg
 ·rw [hg];go_wp2_with fail;refine (TD'.out _ (T.out.kept K.out)).mono ?_;rintro e w2 ⟨rfl,q⟩;simp only [];go_wp2_with fail;go_ret;exact ⟨rfl,K.out.trans q⟩
 rw [hg];simp only [Bool.and_eq_true] at hg;obtain ⟨⟨⟨⟨⟨rfl,rfl⟩,rfl⟩,rfl⟩,rfl⟩,rfl⟩:=hg;replace M8:=hid (M8.out (by trivial));replace MX:=hid (MX.out (by trivial));replace MP:=hid (MP.out (by trivial));replace TO:=hid (TO.out (by trivial) (by trivial) (by trivial));replace OV:=hid (OV.out (by trivial) (by trivial) (by trivial));go_upto_region 3 with fail
 go_cut [15] (fun s15 wx=>s15=.bool D∧Kept W wx)
 case first =>
  clear TO OV TD';replace H0:=H0O;replace HA:=HAO;replace HB:=HBO;replace HC:=HCO;obtain ⟨z0,z1⟩:=Cj (Aj H0.out KW.out);obtain ⟨-,a0,a1,a2,-⟩:=(HA.out.kept KW.out).facts;obtain ⟨-,c0,c1,c2,-⟩:=(HB.out.kept KW.out).facts;obtain ⟨-,d0,d1,d2,-⟩:=(HC.out.kept KW.out).facts;have K0:=hid KW.out;have K1:=hid K.out;have g1:=B1.out;have g2:=B2.out;have g4:=B4.out;have g5:=B5.out;have g6:=B6.out;have g12:=B12.out;have g13:=B13.out;cases b1
  ·go_wp2_with fail
   go_meet
   exact ⟨by rw [←HD.out];simp,K0.out⟩
  cases b2
  ·go_wp2_with fail
   go_meet
   exact ⟨by rw [←HD.out];simp,K0.out⟩
  go_wp2_with fail;refine (M8.out _ K1.out).mono ?_;rintro _ w1 ⟨rfl,q1⟩;simp only [];replace K0:=hid (K0.out.trans q1);replace K1:=hid (K1.out.trans q1);clear q1 z0 z1 a0 a1 a2 c0 c1 c2 d0 d1 d2;obtain ⟨z0,z1⟩:=Cj (Aj H0.out K0.out);obtain ⟨-,a0,a1,a2,-⟩:=(HA.out.kept K0.out).facts;obtain ⟨-,c0,c1,c2,-⟩:=(HB.out.kept K0.out).facts;obtain ⟨-,d0,d1,d2,-⟩:=(HC.out.kept K0.out).facts;cases b3
  ·go_wp2_with fail
   go_meet
   exact ⟨by rw [←HD.out];simp,K0.out⟩
  cases b4
  ·go_wp2_with fail
   go_meet
   exact ⟨by rw [←HD.out];simp,K0.out⟩
  cases b5
  ·go_wp2_with fail
   go_meet
   exact ⟨by rw [←HD.out];simp,K0.out⟩
  cases b6
  ·go_wp2_with fail
   go_meet
   exact ⟨by rw [←HD.out];simp,K0.out⟩
  go_wp2_with fail;refine (MX.out _ K1.out).mono ?_;rintro _ w1 ⟨rfl,q1⟩;simp only [];replace K0:=hid (K0.out.trans q1);replace K1:=hid (K1.out.trans q1);clear q1 z0 z1 a0 a1 a2 c0 c1 c2 d0 d1 d2;obtain ⟨z0,z1⟩:=Cj (Aj H0.out K0.out);obtain ⟨-,a0,a1,a2,-⟩:=(HA.out.kept K0.out).facts;obtain ⟨-,c0,c1,c2,-⟩:=(HB.out.kept K0.out).facts;obtain ⟨-,d0,d1,d2,-⟩:=(HC.out.kept K0.out).facts;cases b7
  ·go_wp2_with fail
   go_meet
   exact ⟨by rw [←HD.out];simp,K0.out⟩
  go_wp2_with fail;refine (MP.out _ K1.out).mono ?_;rintro _ w1 ⟨rfl,q1⟩;simp only [];replace K0:=hid (K0.out.trans q1);replace K1:=hid (K1.out.trans q1);clear q1 z0 z1 a0 a1 a2 c0 c1 c2 d0 d1 d2;obtain ⟨z0,z1⟩:=Cj (Aj H0.out K0.out);obtain ⟨-,a0,a1,a2,-⟩:=(HA.out.kept K0.out).facts;obtain ⟨-,c0,c1,c2,-⟩:=(HB.out.kept K0.out).facts;obtain ⟨-,d0,d1,d2,-⟩:=(HC.out.kept K0.out).facts;cases b8
  ·go_wp2_with fail
   go_meet
   exact ⟨by rw [←HD.out];simp,K0.out⟩
  go_wp2_with fail;refine (DF.out _ K1.out).mono ?_;rintro _ w1 ⟨rfl,q1⟩;simp only [];replace K0:=hid (K0.out.trans q1);replace K1:=hid (K1.out.trans q1);clear q1 z0 z1 a0 a1 a2 c0 c1 c2 d0 d1 d2;obtain ⟨z0,z1⟩:=Cj (Aj H0.out K0.out);obtain ⟨-,a0,a1,a2,-⟩:=(HA.out.kept K0.out).facts;obtain ⟨-,c0,c1,c2,-⟩:=(HB.out.kept K0.out).facts;obtain ⟨-,d0,d1,d2,-⟩:=(HC.out.kept K0.out).facts;cases b9
  ·go_wp2_with fail
   go_meet
   exact ⟨by rw [←HD.out];simp,K0.out⟩
  go_wp2_with fail;refine (DT.out _ K1.out).mono ?_;rintro _ w1 ⟨rfl,q1⟩;simp only [];replace K0:=hid (K0.out.trans q1);replace K1:=hid (K1.out.trans q1);clear q1 z0 z1 a0 a1 a2 c0 c1 c2 d0 d1 d2;obtain ⟨z0,z1⟩:=Cj (Aj H0.out K0.out);obtain ⟨-,a0,a1,a2,-⟩:=(HA.out.kept K0.out).facts;obtain ⟨-,c0,c1,c2,-⟩:=(HB.out.kept K0.out).facts;obtain ⟨-,d0,d1,d2,-⟩:=(HC.out.kept K0.out).facts;cases b10
  ·go_wp2_with fail
   go_meet
   exact ⟨by rw [←HD.out];simp,K0.out⟩
  go_wp2_with fail;refine (DH.out _ K1.out).mono ?_;rintro _ w1 ⟨rfl,q1⟩;simp only [];replace K0:=hid (K0.out.trans q1);replace K1:=hid (K1.out.trans q1);clear q1 z0 z1 a0 a1 a2 c0 c1 c2 d0 d1 d2;obtain ⟨z0,z1⟩:=Cj (Aj H0.out K0.out);obtain ⟨-,a0,a1,a2,-⟩:=(HA.out.kept K0.out).facts;obtain ⟨-,c0,c1,c2,-⟩:=(HB.out.kept K0.out).facts;obtain ⟨-,d0,d1,d2,-⟩:=(HC.out.kept K0.out).facts;cases b11
  ·go_wp2_with fail
   go_meet
   exact ⟨by rw [←HD.out];simp,K0.out⟩
  go_wp2_with fail;refine (CM.out (by trivial) (by trivial) _ K1.out).mono ?_;rintro _ w1 ⟨rfl,q1⟩;simp only [];replace K0:=hid (K0.out.trans q1);replace K1:=hid (K1.out.trans q1);clear q1 z0 z1 a0 a1 a2 c0 c1 c2 d0 d1 d2;obtain ⟨z0,z1⟩:=Cj (Aj H0.out K0.out);obtain ⟨-,a0,a1,a2,-⟩:=(HA.out.kept K0.out).facts;obtain ⟨-,c0,c1,c2,-⟩:=(HB.out.kept K0.out).facts;obtain ⟨-,d0,d1,d2,-⟩:=(HC.out.kept K0.out).facts;cases b12
  ·go_wp2_with fail
   go_meet
   exact ⟨by rw [←HD.out];simp,K0.out⟩
  go_wp2_with fail;refine (SH.out _ K1.out).mono ?_;rintro _ w1 ⟨rfl,q1⟩;simp only [];replace K0:=hid (K0.out.trans q1);replace K1:=hid (K1.out.trans q1);clear q1 z0 z1 a0 a1 a2 c0 c1 c2 d0 d1 d2;obtain ⟨z0,z1⟩:=Cj (Aj H0.out K0.out);obtain ⟨-,a0,a1,a2,-⟩:=(HA.out.kept K0.out).facts;obtain ⟨-,c0,c1,c2,-⟩:=(HB.out.kept K0.out).facts;obtain ⟨-,d0,d1,d2,-⟩:=(HC.out.kept K0.out).facts;cases b13
  ·go_wp2_with fail
   go_meet
   exact ⟨by rw [←HD.out];simp,K0.out⟩
  go_wp2_with fail
  go_meet
  exact ⟨by rw [←HD.out];simp,K0.out⟩
 obtain ⟨rfl,k1⟩:=hcut;replace K:=hid (KO.out.trans k1);replace H0:=hid (Aj H0O.out k1);replace HA:=hid (HAO.out.kept k1);replace HB:=hid (HBO.out.kept k1);replace HC:=hid (HCO.out.kept k1);clear k1 KO H0O HAO HBO HCO KW M8 MX MP DF DT DH SH CM HD B1 B2 B4 B5 B6 B12 B13;obtain ⟨z0,z1⟩:=Cj H0.out;obtain ⟨-,a0,a1,a2,-⟩:=HA.out.facts;obtain ⟨-,c0,c1,c2,-⟩:=HB.out.facts;obtain ⟨-,d0,d1,d2,-⟩:=HC.out.facts;cases D
 ·go_wp2_with fail;refine (TO.out (by trivial) _ K.out).mono ?_;rintro _ w1 ⟨rfl,q1⟩;simp only [];replace K:=hid (K.out.trans q1);replace H0:=hid (Aj H0.out q1);replace HA:=hid (HA.out.kept q1);replace HB:=hid (HB.out.kept q1);replace HC:=hid (HC.out.kept q1);clear q1 z0 z1 a0 a1 a2 c0 c1 c2 d0 d1 d2 TO;obtain ⟨z0,z1⟩:=Cj H0.out;obtain ⟨-,a0,a1,a2,-⟩:=HA.out.facts;obtain ⟨-,c0,c1,c2,-⟩:=HB.out.facts;obtain ⟨-,d0,d1,d2,-⟩:=HC.out.facts;go_wp2_with fail;refine (OV.out (by trivial) _ K.out).mono ?_;rintro _ w1 ⟨rfl,q1⟩;simp only [];replace K:=hid (K.out.trans q1);clear q1 z0 z1 a0 a1 a2 c0 c1 c2 d0 d1 d2 OV
  go_wp2_with fail;refine (TD'.out _ (T.out.kept K.out)).mono ?_;rintro e w2 ⟨rfl,q⟩;simp only [];go_wp2_with fail;go_ret;exact ⟨rfl,K.out.trans q⟩
 ·go_wp2_with fail;refine (TD'.out _ (T.out.kept K.out)).mono ?_;rintro e w2 ⟨rfl,q⟩;simp only [];go_wp2_with fail;go_ret;exact ⟨rfl,K.out.trans q⟩
end Go.Proofs.YtmgaloopddiekaaGreatDoor
