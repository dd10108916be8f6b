/- Words and contracts, part 13. -/
import Derived.Test.YtmgaloopddiekaaGreatDoorClaimFargsp12
import Derived.Deep.DeepCutAuto
import Derived.Deep.CutBlock
set_option maxRecDepth 100000
set_option maxHeartbeats 0
namespace Go.Proofs.YtmgaloopddiekaaGreatDoor
open Go.Lib (hid)
open Go.RowKit
theorem Aga (pre wl post:List Nat)(k:Nat)(hk:k<wl.length):nth (pre++(wl++post)) (pre.length+k)=nth wl k:=by
 unfold nth;rw [List.getD_eq_getElem?_getD,List.getD_eq_getElem?_getD,List.getElem?_append_right (by omega),Nat.add_sub_cancel_left,List.getElem?_append_left hk]
theorem Agk (pre wl post:List Nat)(k y:Nat)(hk:k<wl.length):(pre++(wl++post)).set (pre.length+k) y=pre++(wl.set k y++post):=by
 rw [List.set_append_right _ _ (by omega),Nat.add_sub_cancel_left,List.set_append_left _ _ hk]
def Win (w:World) (base g N cap:Nat) (pre wl post:List Nat):Prop:=Own w base (.slice (some ⟨g,0,none⟩) N cap) (pre++(wl++post))
theorem Win.cell {w:World}{base g N cap:Nat}{pre wl post:List Nat}(h:Win w base g N cap pre wl post)(k:Nat)(hk:k<wl.length):w.cell? ⟨g,pre.length+k,none⟩=some (.int .u64 (nth wl k)):=by
 rw [←Aga pre wl post k hk];exact Own.cell h _ (by simp;omega)
theorem Win.frozen {w:World}{base g N cap:Nat}{pre wl post:List Nat}(h:Win w base g N cap pre wl post)(k:Nat):w.frozen? ⟨g,k,none⟩=false:=Own.frozen h k
theorem Win.stored {w:World}{base g N cap:Nat}{pre wl post:List Nat}(h:Win w base g N cap pre wl post)(k y:Nat)(hk:k<wl.length):Win (w.setCell ⟨g,pre.length+k,none⟩ (U y)) base g N cap pre (wl.set k y) post:=by
 unfold Win;rw [←Agk pre wl post k y hk];exact Own.stored h _ y
theorem Win.drewN {w:World}{base g N cap:Nat}{pre wl post:List Nat}(h:Win w base g N cap pre wl post)(n:Nat):Win (w.drewN n) base g N cap pre wl post:=h
structure Only (g:Nat) (w w':World):Prop where
 os:w'.os=w.os
 tape:w'.tape=w.tape
 output:w'.output=w.output
 size:w'.heap.size=w.heap.size
 block:∀ k,k≠g→w'.heap[k]?=w.heap[k]?
theorem Only.refl (g:Nat)(w:World):Only g w w:=⟨rfl,rfl,rfl,rfl,fun _ _=>rfl⟩
theorem Only.drewN {g:Nat}{a w:World}(h:Only g a w)(n:Nat):Only g a (w.drewN n):=⟨h.os,h.tape,h.output,h.size,h.block⟩
theorem Only.setCell {g:Nat}{a w:World}(h:Only g a w)(k:Nat)(u:Value):Only g a (w.setCell ⟨g,k,none⟩ u) :=
 ⟨h.os,h.tape,h.output,by rw [←h.size];simp [World.setCell],fun j hj=>(Below.heap_setCell w ⟨g,k,none⟩ u j hj).trans (h.block j hj)⟩
theorem Only.cell {g:Nat}{a w:World}(h:Only g a w){b k:Nat}(hb:b≠g):w.cell? ⟨b,k,none⟩=a.cell? ⟨b,k,none⟩:=World.cell?_of_block (h.block b hb)
theorem Only.below {g B:Nat}{a b w:World}(h:Only g b w)(k:Below B a b)(hg:B≤g):Below B a w :=
 k.trans ⟨h.os,h.tape,h.output,Nat.le_of_eq h.size.symm,fun j hj=>h.block j (by omega)⟩
def Aeu (base g N cap:Nat) (pre wl post vs:List Nat) (w:World) (e:Ending) (w':World):Prop :=
 e=.returned (.int .u64 (val wl/val vs:Nat))∧∃ wl',wl'.length=wl.length∧Small wl'∧val wl'=val wl%val vs∧Win w' base g N cap pre wl' post∧Only g w w'
def Aay (wl vs:List Nat) (n:Nat) (w:World) (x r o:Value) (wx:World):Prop :=
 ∃ X R O:Nat,x=.int .u64 X∧r=.int .u64 R∧o=.int .u64 O∧DigInv wl vs n X (O*18446744073709551616+R)∧R<18446744073709551616∧O≤1∧∃ q,wx=w.drewN q
def Ahd (wl vs:List Nat) (w:World) (x:Value) (wx:World):Prop :=
 ∃ X:Nat,x=.int .u64 X∧X<18446744073709551616∧(X=val wl/val vs∨X=val wl/val vs+1)∧∃ q,wx=w.drewN q
theorem Ae7 {w:World}{base g N cap gv cv c:Nat}{pre wl post vs:List Nat}{n:Nat}(hd:DigIn wl vs n)(hn:n≤100000)(_hj:pre.length≤200000)(hw:Win w base g N cap pre wl post)(hc:n+1≤c)(hcv:n≤cv)
 (hne:gv≠g) (hv:∀ i,i<n→w.cell? ⟨gv,i,none⟩=some (.int .u64 (nth vs i))) :
 Calls Tryz.prog 246 #[.slice (some ⟨g,pre.length,none⟩) (n+1) c,.slice (some ⟨gv,0,none⟩) n cv] w (Aeu base g N cap pre wl post vs w):=by
 have hn2:=hd.n2;have hwl:=hd.wlen;have hvn:=hv (n-1) (by omega);have hvm:=hv (n-2) (by omega);have hun:=hw.cell n (by omega);have hum:=hw.cell (n-1) (by omega);have huk:=hw.cell (n-2) (by omega);have bvn:=nth_lt hd.vsm (n-1);have bvm:=nth_lt hd.vsm (n-2);have bun:=nth_lt hd.ws n;have bum:=nth_lt hd.ws (n-1);have buk:=nth_lt hd.ws (n-2);have btop:=hd.top;have btops:=hd.tops;have HD:=hid hd;have HW:=hid hw;have HV:=hid hv;have HWL:=hid hwl;have HS1:=hid hd.start_lt;have HS2:=hid hd.start_eq;clear hd hw hv hwl;obtain ⟨m,rfl⟩:∃ m,n=m+2:=⟨n-2,by omega⟩;simp only [Nat.add_sub_cancel,show m+2-1=m+1 by omega] at *
 generalize hun':nth wl (m+2)=un at *;generalize hum':nth wl (m+1)=um at *;generalize huk':nth wl m=uk at *;generalize hvn':nth vs (m+1)=vn at *;generalize hvm':nth vs m=vm at *;generalize hj':pre.length=j at *;have HE:=hid (And.intro hun' (And.intro hum' (And.intro huk' (And.intro hvn' (And.intro hvm' hj')))));clear hun' hum' huk' hvn' hvm' hj';go_enter Tryz.func246,Tryz.ntmps246;go_wp2_with fail
 go_quiet (fail)
 iterate 2 go_step
 have e0:((0:Nat):Int)=0:=rfl
 go_cut [6,7,8] (Aay wl vs (m+2) w)
 case first =>
  by_cases hlt:un<vn
  ·have hinv:=HS1.out hlt;have bx:=Mb un um vn hlt bum;have br:(un*18446744073709551616+um)%vn<vn:=Nat.mod_lt _ (by omega);have hdiv:=fun w=>Yd un um vn bvn bum hlt w
   have HDV:=hid hdiv;clear hdiv;obtain ⟨x0,hx0⟩:∃ x0,(un*18446744073709551616+um)/vn=x0:=⟨_,rfl⟩;obtain ⟨r0,hr0⟩:∃ r0,(un*18446744073709551616+um)%vn=r0:=⟨_,rfl⟩;rw [hx0,hr0] at hinv HDV;rw [hx0] at bx;rw [hr0] at br;have HI:=hid hinv;clear hinv hx0 hr0 HS1 HS2;go_wp2_with fail
   go_quiet ((go_at_call 254;first | exact Xe (HDV.out _) | exact Aid (HDV.out _)))
   go_wp2_with fail
   go_meet
   case rel=>exact ⟨x0,r0,0,rfl,rfl,rfl,by rw [Nat.zero_mul,Nat.zero_add];exact HI.out,by omega,by omega,by simp only [World.drewN_drewN];exact ⟨_,rfl⟩⟩
  ·have hinv:=HS2.out hlt;have hadd:∀ w,(callFunc 166 #[.int .u64 um,.int .u64 vn,.int .u64 0]).run Tryz.prog w=.ok (.value (.tuple #[.int .u64 (Cz um vn 0),.int .u64 (C7 um vn 0)])) w:=fun w=>Mh um vn 0 (by omega) w
   have hsum:C7 um vn 0*18446744073709551616+Cz um vn 0=um+vn:=by unfold C7 Cz;omega
   have hs1:C7 um vn 0≤1:=by unfold C7;omega
   have hs2:Cz um vn 0<18446744073709551616:=Nat.mod_lt _ (by decide);rw [←hsum] at hinv;have HI:=hid hinv;clear hinv hsum HS1 HS2;generalize C7 um vn 0=o0 at *;generalize Cz um vn 0=r0 at *;go_wp2_with fail
   go_quiet (fail)
   go_wp2_with fail
   go_meet
   case rel=>exact ⟨18446744073709551615,r0,o0,rfl,rfl,rfl,HI.out,hs2,hs1,by simp only [World.drewN_drewN];exact ⟨_,rfl⟩⟩
 case rest =>
  obtain ⟨X,R,O,rfl,rfl,rfl,hinv,hR,hO,q0,rfl⟩:=hcut;have HI0:=hid hinv;clear hinv HS1 HS2
  go_upto_block 0 with fail
  go_cut [6] (Ahd wl vs w)
  case first =>
   go_wp2_with fail
   go_loopw [6,7,8] (fun x r o wr=>Aay wl vs (m+2) w x r o wr) (fun x _ _ _=>(intOf x).toNat)
   case atStart=>exact ⟨X,R,O,rfl,rfl,rfl,HI0.out,hR,hO,_,rfl⟩
   case round =>
    clear HI0 hR hO;obtain ⟨x,r,o,rfl,rfl,rfl,hinv,hR,hO,q1,rfl⟩:=hrel;have HI:=hid hinv;clear hinv;by_cases ho:o=0
    ·subst ho;have hdone:=fun hc=>HI.out.done HD.out (Or.inl hc)
     have hless:=fun hc=>HI.out.less HD.out hc
     have hx:=HI.out.lt;have hcmp:=Af2 (x*vm) r uk buk;have hle:=Ac1 x vm hx bvm;simp only [Nat.add_sub_cancel,show m+2-1=m+1 by omega,HE.out.2.2.1,HE.out.2.2.2.1,HE.out.2.2.2.2.1,Nat.zero_mul,Nat.zero_add] at hdone hless;rw [hcmp] at hdone;have hless':(¬(x*vm/18446744073709551616<r∨x*vm/18446744073709551616=r∧x*vm%18446744073709551616≤uk))→1≤x∧DigInv wl vs (m+2) (x-1) (r+vn):=fun h=>hless (by rw [←hcmp] at h;omega)
     have hmul:=fun w=>Acz x vm hx bvm w
     have HM:=hid hmul;have HDN:=hid hdone;have HLS:=hid hless';clear hmul hdone hless hless' hcmp hle;unfold Ls Ec at HM;generalize x*vm/18446744073709551616=h at *;generalize x*vm%18446744073709551616=l at *;by_cases h1:h<r
     ·have HFIN:=hid (HDN.out (Or.inl h1))
      go_wp2_with (go_at_call 185;refine (HM.out _).mono ?_;rintro e w' ⟨rfl,rfl⟩)
      go_meet
      case rel=>exact ⟨x,rfl,hx,HFIN.out,_,rfl⟩
     ·by_cases h2:h=r
      ·subst h2;have e1:(((h:Nat):Int)==(h:Int))=true:=by simp
       by_cases h3:l≤uk
       ·have HFIN:=hid (HDN.out (Or.inr ⟨rfl,h3⟩))
        go_wp2_with (go_at_call 185;refine (HM.out _).mono ?_;rintro e w' ⟨rfl,rfl⟩)
        go_meet
        case rel=>exact ⟨x,rfl,hx,HFIN.out,_,rfl⟩
       ·skip
        have hll:=HLS.out (by omega);obtain ⟨hx1,hI'⟩:=hll;have hadd:∀ w,(callFunc 166 #[.int .u64 h,.int .u64 vn,.int .u64 0]).run Tryz.prog w=.ok (.value (.tuple #[.int .u64 (Cz h vn 0),.int .u64 (C7 h vn 0)])) w:=fun w=>Mh h vn 0 (by omega) w
        have hsum:C7 h vn 0*18446744073709551616+Cz h vn 0=h+vn:=by unfold C7 Cz;omega
        have hs1:C7 h vn 0≤1:=by unfold C7;omega
        have hs2:Cz h vn 0<18446744073709551616:=Nat.mod_lt _ (by decide);rw [←hsum] at hI';have HI':=hid hI';clear hI' hsum HLS HDN HI;generalize C7 h vn 0=o1 at *;generalize Cz h vn 0=r1 at *;obtain ⟨xx,hxe⟩:∃ xx,x-1=xx:=⟨_,rfl⟩;rw [hxe] at HI';have hxi:(x:Int)-1=(xx:Int):=by omega
        have hxl:xx<x:=by omega
        clear hxe
        go_wp2_with (go_at_call 185;refine (HM.out _).mono ?_;rintro e w' ⟨rfl,rfl⟩)
        go_roundw
        case rel=>exact ⟨xx,r1,o1,rfl,rfl,rfl,HI'.out,hs2,hs1,_,rfl⟩
        case measure=>simp [intOf];omega
      ·have e1:(((h:Nat):Int)==(r:Int))=false:=by rw [beq_eq_false_iff_ne];omega
       have hll:=HLS.out (by omega);obtain ⟨hx1,hI'⟩:=hll;have hadd:∀ w,(callFunc 166 #[.int .u64 r,.int .u64 vn,.int .u64 0]).run Tryz.prog w=.ok (.value (.tuple #[.int .u64 (Cz r vn 0),.int .u64 (C7 r vn 0)])) w:=fun w=>Mh r vn 0 (by omega) w
       have hsum:C7 r vn 0*18446744073709551616+Cz r vn 0=r+vn:=by unfold C7 Cz;omega
       have hs1:C7 r vn 0≤1:=by unfold C7;omega
       have hs2:Cz r vn 0<18446744073709551616:=Nat.mod_lt _ (by decide);rw [←hsum] at hI';have HI':=hid hI';clear hI' hsum HLS HDN HI;generalize C7 r vn 0=o1 at *;generalize Cz r vn 0=r1 at *;obtain ⟨xx,hxe⟩:∃ xx,x-1=xx:=⟨_,rfl⟩;rw [hxe] at HI';have hxi:(x:Int)-1=(xx:Int):=by omega
       have hxl:xx<x:=by omega
       clear hxe
       go_wp2_with (go_at_call 185;refine (HM.out _).mono ?_;rintro e w' ⟨rfl,rfl⟩)
       go_roundw
       case rel=>exact ⟨xx,r1,o1,rfl,rfl,rfl,HI'.out,hs2,hs1,_,rfl⟩
       case measure=>simp [intOf];omega
    ·have ho1:o=1:=by omega
     subst ho1;have hfin:=HI.out.done HD.out (Or.inr (by omega));have HFIN:=hid hfin;have hx:=HI.out.lt;clear hfin HI;go_wp2_with fail
     go_meet
     case rel=>exact ⟨x,rfl,hx,HFIN.out,_,rfl⟩
  case rest =>
   obtain ⟨x,rfl,hx,hX,q1,rfl⟩:=hcut;have HX:=hid hX;clear hX;have HMS:=hid (H8 wl x vs HD.out.ws);have HMC:=hid (Rj wl x vs hx HD.out.vsm);have HMB:=hid (J2 wl x vs);have HML:=hid (fun k=>(Gx wl x vs k).trans HWL.out);have HMN:=hid (Jp wl x vs);have HVL:=hid (nth_lt HD.out.vsm);go_wp2_with fail
   go_loopw [11,12,107] (fun cy bw t wr=>∃ k:Nat,k≤m+2∧t=.int .i64 k∧cy=.int .u64 (msS wl x vs k).2.1∧bw=.int .u64 (msS wl x vs k).2.2∧Win wr base g N cap pre (msS wl x vs k).1 post∧Only g w wr) (fun _ _ t _=>(m+2-intOf t).toNat)
   case atStart=>exact ⟨0,Nat.zero_le _,rfl,rfl,rfl,HW.out.drewN _,(Only.refl g w).drewN _⟩
   case round =>
    obtain ⟨k,hkl,rfl,rfl,rfl,hWk,hOk⟩:=hrel;have HWk:=hid hWk;have HOk:=hid hOk;clear hWk hOk;by_cases hlt:k<m+2
    ·have hck:=(HOk.out.cell (k:=k) hne).trans (HV.out k hlt);have ho1:=HWk.out.cell k (by rw [HML.out];omega);have hf1:=HWk.out.frozen (j+k);rw [HE.out.2.2.2.2.2] at ho1;have hcy:=HMC.out k;have hbw:=HMB.out k;have hzk:=nth_lt (HMS.out k) k;have hyk:=HVL.out k;have HST:=hid (HMN.out k);have hln:=HML.out k;generalize msS wl x vs k=s at *;obtain ⟨o,cy,bw⟩:=s;simp only at *;generalize nth o k=z at *;generalize nth vs k=y at *;have HM:=hid (fun w=>Acz x y hx hyk w);have hadd:∀ w,(callFunc 166 #[.int .u64 (Ec x y),.int .u64 cy,.int .u64 0]).run Tryz.prog w=.ok (.value (.tuple #[.int .u64 (Cz (Ec x y) cy 0),.int .u64 (C7 (Ec x y) cy 0)])) w:=fun w=>Mh _ _ 0 (by omega) w
     have hsub:∀ w,(callFunc 167 #[.int .u64 z,.int .u64 (Cz (Ec x y) cy 0),.int .u64 bw]).run Tryz.prog w=.ok (.value (.tuple #[.int .u64 (Lt z (Cz (Ec x y) cy 0) bw),.int .u64 (Mx z (Cz (Ec x y) cy 0) bw)])) w:=fun w=>Y8 _ _ bw hbw w
     have s1:Cz (Ec x y) cy 0=(x*y+cy)%18446744073709551616:=by unfold Cz Ec;omega
     have s2:Ls x y+C7 (Ec x y) cy 0=(x*y+cy)/18446744073709551616:=by unfold Ls C7 Ec;omega
     have b1:Ls x y+C7 (Ec x y) cy 0≤18446744073709551615:=by
      rw [s2];have:=Lf x y cy 0 hx hyk hcy (by decide);rw [Nat.add_zero] at this;exact Nat.le_of_lt_succ this
     rw [←s1,←s2] at HST;clear s1 s2;generalize Ls x y=h1 at *;generalize Ec x y=l1 at *;generalize Cz l1 cy 0=l2 at *;generalize C7 l1 cy 0=c2 at *;have HST':Hid (msS wl x vs (k+1)=(o.set k (Lt z l2 bw),h1+c2,Mx z l2 bw)):=HST.out;clear HST;generalize Lt z l2 bw=d1 at *;generalize Mx z l2 bw=d2 at *
     go_wp2_with (go_at_call 185;refine (HM.out _).mono ?_;rintro e w' ⟨rfl,rfl⟩)
     go_roundw
     case rel =>
      refine ⟨k+1,by omega,by go_num,by rw [HST'.out];simp,by rw [HST'.out],?_,HOk.out.setCell _ _⟩;rw [HST'.out];have:=HWk.out.stored k d1 (by rw [hln];omega);rwa [HE.out.2.2.2.2.2] at this
     case measure=>simp [intOf];omega
    ·obtain rfl:k=m+2:=by omega
     have hn1:(msS wl x vs (m+2)).1.length=m+3:=HML.out _;have ho1:=HWk.out.cell (m+2) (by rw [hn1];omega);have hf1:=HWk.out.frozen (j+(m+2));rw [HE.out.2.2.2.2.2] at ho1;have hcy:=HMC.out (m+2);have hbw:=HMB.out (m+2);have hzk:=nth_lt (HMS.out (m+2)) (m+2);have hV:=HD.out.vpos;have hfit:=fun hq=>Wj wl vs x (m+2) HD.out.ws HWL.out HD.out.vlen hq hcy
     have hover:=fun hq=>Wk wl vs x (m+2) HD.out.ws HWL.out HD.out.vlen hV hq hcy
     have hsm2:=fun y (hy:y<18446744073709551616)=>Da (HMS.out (m+2)) (m+2) y hy
     generalize msS wl x vs (m+2)=s at *;obtain ⟨o,cy,bw⟩:=s;simp only at *;generalize nth o (m+2)=z at *;have hsub:∀ w,(callFunc 167 #[.int .u64 z,.int .u64 cy,.int .u64 bw]).run Tryz.prog w=.ok (.value (.tuple #[.int .u64 (Lt z cy bw),.int .u64 (Mx z cy bw)])) w:=fun w=>Y8 _ _ bw hbw w
     have hlod:Lt z cy bw<18446744073709551616:=Nat.mod_lt _ (by decide);have hsm3:=hsm2 _ hlod;have HFIT:Hid (x=val wl/val vs→val (o.set (m+2) (Lt z cy bw))=val wl%val vs∧Mx z cy bw=0):=hfit;have HOVER:Hid (x=val wl/val vs+1→val (o.set (m+2) (Lt z cy bw))+val vs=val wl%val vs+18446744073709551616^(m+2)*18446744073709551616∧Mx z cy bw=1):=hover;have HSM3:=hid hsm3;clear hfit hover hsm2 hsm3;generalize Lt z cy bw=d1 at *;generalize Mx z cy bw=d2 at *;have hW2:=HWk.out.stored (m+2) d1 (by rw [hn1];omega);rw [HE.out.2.2.2.2.2] at hW2;have HW2:=hid hW2;clear hW2;rcases HX.out with hxq | hxq
     ·obtain ⟨f1,f2⟩:=HFIT.out hxq;subst f2;have HF1:=hid f1;have HXQ:=hid hxq;clear f1 hxq;go_wp2_with fail;go_ret;exact ⟨by rw [←HXQ.out];rfl,o.set (m+2) d1,by rw [List.length_set,hn1,HWL.out],HSM3.out,HF1.out,HW2.out,HOk.out.setCell _ _⟩
     ·obtain ⟨f1,f2⟩:=HOVER.out hxq;subst f2;have HF1:=hid f1;have HXQ:=hid hxq;have hx1:1≤x:=by rw [hxq];exact Nat.le_add_left 1 _
      clear f1 hxq;go_wp2_with fail;have hO2:=HOk.out.setCell (j+(m+2)) (U d1);have HO2:=hid hO2;clear hO2 HWk HOk;have hln2:(o.set (m+2) d1).length=m+3:=by rw [List.length_set];exact hn1
      generalize o.set (m+2) d1=w2 at *;have HLN2:=hid hln2;have HAS:=hid (F4 w2 vs HSM3.out);have HAC:=hid (Jv w2 vs HSM3.out HD.out.vsm);have HAL:=hid (fun k=>(E7 w2 vs k).trans hln2);have HAN:=hid (Gt w2 vs);clear hln2 hn1;obtain ⟨wo,hwo⟩:∃ wo,wr.setCell ⟨g,j+(m+2),none⟩ (Value.int .u64 d1)=wo:=⟨_,rfl⟩
      go_loopw [11,159] (fun cy t wr'=>∃ k:Nat,k≤m+2∧t=.int .i64 k∧cy=.int .u64 (Dh w2 vs k).2∧Win wr' base g N cap pre (Dh w2 vs k).1 post∧Only g w wr') (fun _ t _=>(m+2-intOf t).toNat)
      case atStart=>exact ⟨0,Nat.zero_le _,rfl,rfl,HW2.out,HO2.out⟩
      case round =>
       obtain ⟨k,hkl,rfl,rfl,hWk,hOk⟩:=hrel;have HWk:=hid hWk;have HOk:=hid hOk;clear hWk hOk HW2 HO2 hwo;by_cases hlt:k<m+2
       ·have hck:=(HOk.out.cell (k:=k) hne).trans (HV.out k hlt);have ho1:=HWk.out.cell k (by rw [HAL.out];omega);have hf1:=HWk.out.frozen (j+k);rw [HE.out.2.2.2.2.2] at ho1;have hcy2:=HAC.out k;have hzk2:=nth_lt (HAS.out k) k;have hyk:=HVL.out k;have HST:=hid (HAN.out k);have hln:=HAL.out k;generalize Dh w2 vs k=s at *;obtain ⟨o2,cy2⟩:=s;simp only at *;generalize nth o2 k=z2 at *;generalize nth vs k=y at *;have hadd:∀ w,(callFunc 166 #[.int .u64 z2,.int .u64 y,.int .u64 cy2]).run Tryz.prog w=.ok (.value (.tuple #[.int .u64 (Cz z2 y cy2),.int .u64 (C7 z2 y cy2)])) w:=fun w=>Mh _ _ cy2 hcy2 w
        have HST':Hid (Dh w2 vs (k+1)=(o2.set k (Cz z2 y cy2),C7 z2 y cy2)):=HST.out;clear HST;generalize Cz z2 y cy2=e1 at *;generalize C7 z2 y cy2=e2 at *;go_wp2_with fail;go_roundw
        case rel =>
         refine ⟨k+1,by omega,by go_num,by rw [HST'.out],?_,HOk.out.setCell _ _⟩;rw [HST'.out];have:=HWk.out.stored k e1 (by rw [hln];omega);rwa [HE.out.2.2.2.2.2] at this
        case measure=>simp [intOf];omega
       ·obtain rfl:k=m+2:=by omega
        have hn3:(Dh w2 vs (m+2)).1.length=m+3:=HAL.out _;have ho1:=HWk.out.cell (m+2) (by rw [hn3];omega);have hf1:=HWk.out.frozen (j+(m+2));rw [HE.out.2.2.2.2.2] at ho1;have hcy2:=HAC.out (m+2);have hzk2:=nth_lt (HAS.out (m+2)) (m+2);have hback:=Wi w2 vs (m+2) (val wl%val vs) HSM3.out HD.out.vsm HLN2.out HD.out.vlen (Nat.mod_lt _ hV) HF1.out;have hsm4:=fun y (hy:y<18446744073709551616)=>Da (HAS.out (m+2)) (m+2) y hy
        generalize Dh w2 vs (m+2)=s at *;obtain ⟨o2,cy2⟩:=s;simp only at *;generalize nth o2 (m+2)=z2 at *;have hwrap:IntKind.u64.wrap ((z2:Int)+(cy2:Int))=(((z2+cy2)%18446744073709551616:Nat):Int):=by rw [IntKind.wrap_u64];omega
        have hlt4:(z2+cy2)%18446744073709551616<18446744073709551616:=Nat.mod_lt _ (by decide);have HSM4:=hid (hsm4 _ hlt4);have HBK:=hid hback;clear hsm4 hback;generalize (z2+cy2)%18446744073709551616=zf at *;have hW4:=HWk.out.stored (m+2) zf (by rw [hn3];omega);rw [HE.out.2.2.2.2.2] at hW4;have HW4:=hid hW4;clear hW4;go_wp2_with fail;go_ret;refine ⟨?_,o2.set (m+2) zf,by rw [List.length_set,hn3,HWL.out],HSM4.out,HBK.out,HW4.out,HOk.out.setCell _ _⟩;refine H4 ?_;rw [show (val wl/val vs:Nat)=x-1 by rw [HXQ.out];exact (Nat.add_sub_cancel ..).symm];omega
theorem Kept.ofDrewN {w w':World}{n:Nat}(h:Kept (w.drewN n) w'):Kept w w':=⟨h.os,h.tape,h.output,h.size,h.block⟩
def RetQR (n m:Nat) (w:World) (e:Ending) (w':World):Prop :=
 ∃ v1 v2,e=.returned (.tuple #[v1,v2])∧Lim w' v1 (limbs (n/m))∧Lim w' v2 (limbs (n%m))∧Kept w w'
theorem U8 {w:World}{v u:Value}{n m:Nat}(hv:Lim w v (limbs n))(hu:Lim w u (limbs m))(hl:(limbs n).length≤100000)(hl':(limbs m).length≤100000)(hlt:n<m) :
 Calls Tryz.prog 238 #[v,u] w (RetQR n m w):=by
 have hord:=M5 hv hu (by omega) (by omega);have hcm:Ea n m=-1:=by unfold Ea;rw [if_pos hlt]
 rw [hcm] at hord;have e1:n/m=0:=Nat.div_eq_of_lt hlt;have e2:n%m=n:=Nat.mod_eq_of_lt hlt;have HO:=hid hord;have HV:=hid hv;have HE:=hid (And.intro e1 e2);clear hord hcm e1 e2 hv hu;have HL:=hid hl;clear hl hl' hlt;go_enter Tryz.func238,Tryz.ntmps238
 go_wp2_with (first
  | (go_at_call 128;refine HO.out.mono ?_;rintro e w1 ⟨rfl,q1,rfl⟩)
  | (go_at_call 150;refine (Sj (HV.out.drewN _) (by have:=HL.out;omega)).mono ?_;rintro e w1 ⟨v1,rfl,hv1,hk1⟩;have HV1:=hid hv1;have HK1:=hid hk1;clear hv1 hk1))
 refine bodyPost_ret (v:=.tuple #[.slice none 0 0,v1]) (by simp [results,Tryz.results238,go_sem]) rfl ⟨_,_,rfl,?_,?_,HK1.out.ofDrewN⟩
 ·rw [HE.out.1,Bd];exact Lim.nil _ _ _
 ·rw [HE.out.2];exact HV1.out
theorem Lc (m:Nat)(h0:m≠0)(h:m<18446744073709551616):limbs m=[m]:=by
 rw [B9 m h0,Nat.mod_eq_of_lt h,Nat.div_eq_of_lt h,Bd]
theorem Xf {w:World}{v u:Value}{n m:Nat}(hv:Lim w v (limbs n))(hu:Lim w u (limbs m))(hl:(limbs n).length≤100000)(h0:m≠0)(h1:m<18446744073709551616)(hge:m≤n) :
 Calls Tryz.prog 238 #[v,u] w (RetQR n m w):=by
 have hord:=M5 hv hu (by omega) (by rw [Lc m h0 h1];simp);have hcm:decide (Ea n m<0)=false:=by unfold Ea;rw [if_neg (by omega)];split<;>simp
 have HC:=hid hcm;have HO:=hid hord;have HV:=hid hv;rw [Lc m h0 h1] at hu;obtain ⟨_,A,c,rfl,hc,hA⟩:=hu;obtain ⟨b,off,rfl,hb,hcell⟩:=hA (by simp);have hcl:w.cell? ⟨b,off,none⟩=some (.int .u64 m):=hcell 0 (by simp);have hls:([m]:List Nat).length=1:=rfl;rw [hls] at hc ⊢;rw [hls] at HO;have HL:=hid hl;clear hord hcm hv hA hcell hl hls hge;generalize Ea n m=cm at *;have hcm:=HC.out;go_enter Tryz.func238,Tryz.ntmps238
 go_wp2_with (first
  | (go_at_call 128;refine HO.out.mono ?_;rintro e w1 ⟨rfl,q1,rfl⟩)
  | (go_at_call 244;refine (Aal (HV.out.drewN _) m (by omega) h1 HL.out).mono ?_;rintro e w1 ⟨v1,v2,rfl,hv1,hv2,hk1⟩;have HV1:=hid hv1;have HV2:=hid hv2;have HK1:=hid hk1;clear hv1 hv2 hk1))
 refine bodyPost_ret (v:=.tuple #[v1,v2]) (by simp [results,Tryz.results238,go_sem]) rfl ⟨_,_,rfl,?_,?_,HK1.out.ofDrewN⟩
 ·have:=HV1.out;rwa [Ca] at this
 ·have:=HV2.out;rwa [Ca] at this
structure OnlyB (B g:Nat) (w w':World):Prop where
 os:w'.os=w.os
 tape:w'.tape=w.tape
 output:w'.output=w.output
 size:w.heap.size≤w'.heap.size
 block:∀ k,k<B→k≠g→w'.heap[k]?=w.heap[k]?
theorem OnlyB.refl (B g:Nat)(w:World):OnlyB B g w w:=⟨rfl,rfl,rfl,Nat.le_refl _,fun _ _ _=>rfl⟩
theorem OnlyB.only {B g:Nat}{a b c:World}(h:OnlyB B g a b)(k:Only g b c):OnlyB B g a c :=
 ⟨k.os.trans h.os,k.tape.trans h.tape,k.output.trans h.output,by rw [k.size];exact h.size,fun i hi hne=>(k.block i hne).trans (h.block i hi hne)⟩
theorem OnlyB.setCell {B g:Nat}{a w:World}(h:OnlyB B g a w){x:Nat}(hx:B≤x)(k:Nat)(u:Value):OnlyB B g a (w.setCell ⟨x,k,none⟩ u) :=
 ⟨h.os,h.tape,h.output,by have:=h.size;simp [World.setCell];exact this,fun j hj hne=>(Below.heap_setCell w ⟨x,k,none⟩ u j (by simp only;omega)).trans (h.block j hj hne)⟩
theorem OnlyB.drewN {B g:Nat}{a w:World}(h:OnlyB B g a w)(n:Nat):OnlyB B g a (w.drewN n):=⟨h.os,h.tape,h.output,h.size,h.block⟩
theorem OnlyB.grown {B g:Nat}{a w:World}(h:a.grownBy w none)(hB:B≤a.heap.size):OnlyB B g a w:=⟨h.os,h.tape,h.output,h.size,fun k hk _=>h.block k (by omega) (by simp)⟩
theorem OnlyB.cell {B g:Nat}{a w:World}(h:OnlyB B g a w){b k:Nat}(hb:b<B)(hg:b≠g):w.cell? ⟨b,k,none⟩=a.cell? ⟨b,k,none⟩:=World.cell?_of_block (h.block b hb hg)
theorem OnlyB.kept {B g:Nat}{a b w:World}(h:OnlyB B g b w)(k:Kept a b)(hg:a.heap.size≤g)(hB:a.heap.size≤B):Kept a w :=
 ⟨h.os.trans k.os,h.tape.trans k.tape,h.output.trans k.output,Nat.le_trans k.size h.size,fun j hj=>(h.block j (by omega) (by omega)).trans (k.block j hj)⟩
theorem Only.own {g:Nat}{a w:World}(h:Only g a w){base gq n cap:Nat}{xs:List Nat}(ho:Own a base (.slice (some ⟨gq,0,none⟩) n cap) xs)(hne:gq≠g):Own w base (.slice (some ⟨gq,0,none⟩) n cap) xs :=
 World.ownsRow.kept (row:=some g) ho ⟨h.os,h.tape,h.output,Nat.le_of_eq h.size.symm,fun k _ hk=>h.block k (fun e=>hk (by rw [e]))⟩ (Or.inr (by simp only [Value.ownBlock];intro e;exact hne (Option.some.inj e)))
theorem M6 {w:World}{base g n cap x k:Nat}{u:Value}{xs:List Nat}(ho:Own w base (.slice (some ⟨g,0,none⟩) n cap) xs)(hne:g≠x):Own (w.setCell ⟨x,k,none⟩ u) base (.slice (some ⟨g,0,none⟩) n cap) xs :=
 World.ownsRow.kept (row:=some x) ho ⟨rfl,rfl,rfl,by simp [World.setCell],fun j _ hj=>Below.heap_setCell w ⟨x,k,none⟩ u j (fun e=>hj (by rw [e]))⟩ (Or.inr (by simp only [Value.ownBlock];intro e;exact hne (Option.some.inj e)))
theorem U9 {w:World}{v u:Value}{n m:Nat}(hv:Lim w v (limbs n))(hu:Lim w u (limbs m))(hl:(limbs n).length≤50000)(h0:m≠0)(h2:2≤(limbs m).length)(hge:m≤n) :
 Calls Tryz.prog 238 #[v,u] w (RetQR n m w):=by
 have hll:(limbs m).length≤(limbs n).length:=by
  by_cases h:(limbs n).length<(limbs m).length
  ·have:=E8 n m h;omega
  ·omega
 have hord:=M5 hv hu (by omega) (by omega);have hcm:decide (Ea n m<0)=false:=by unfold Ea;rw [if_neg (by omega)];split<;>simp
 have HC:=hid hcm;have HO:=hid hord;have hv':=hv;have hu':=hu;obtain ⟨_,A',c',rfl,hc',hA'⟩:=hv;obtain ⟨_,A,c,rfl,hc,hA⟩:=hu;obtain ⟨b,off,rfl,hb,hcell⟩:=hA (by omega);have hck:=hcell ((limbs m).length-1) (by omega);have hnd:=Su m h0;have hb64:=On _ (Dl m ((limbs m).length-1));have hb0:=Id _ (Il m h0);have hlz:∀ w,Calls Tryz.prog 163 #[.int .u64 (nth (limbs m) ((limbs m).length-1))] w (RetQ (.int .i64 ((64-bl (nth (limbs m) ((limbs m).length-1)):Nat):Int)) w):=by
  intro w;refine (Ah2 _ w (Dl m _)).mono ?_;rintro e w' ⟨rfl,rfl⟩;exact ⟨H4 (by omega),0,rfl⟩
 have htop:nth (limbs m) ((limbs m).length-1)<18446744073709551616:=Dl m _;have HLZ:=hid hlz;have HND:=hid hnd;have HV:=hid hv';have HU:=hid hu';clear hord hcm hv' hu' hA hA' hcell hlz hnd hge;generalize hs:64-bl (nth (limbs m) ((limbs m).length-1))=s at *;have hs64:s<64:=by omega
 clear hs hb64 hb0;generalize nth (limbs m) ((limbs m).length-1)=tp at *;generalize hl1:(limbs n).length=l1 at *;generalize hl2:(limbs m).length=l2 at *;have HL1:=hid hl1;have HL2:=hid hl2;clear hl1 hl2;obtain ⟨l,rfl⟩:∃ l,l2=l+2:=⟨l2-2,by omega⟩;have hlb:(limbs (m*2^s)).length≤l+2:=Dw _ _ HND.out.1;have hla:(limbs (n*2^s)).length≤l1+1:=by
  refine Dw _ _ ?_;have a:=Ci n;rw [HL1.out] at a;rw [Nat.pow_succ];have b:2^s≤18446744073709551616:=by
   have:2^s≤2^64:=Nat.pow_le_pow_right (by decide) (by omega);exact this
  exact Nat.lt_of_lt_of_le (Nat.mul_lt_mul_of_pos_right a (Nat.pow_pos (by decide))) (Nat.mul_le_mul_left _ b)
 have HLB:=hid hlb;have HLA:=hid hla;clear hlb hla;rw [show l+2-1=l+1 by omega] at hck;have e1:((l:Int)+2==1)=false:=by rw [beq_eq_false_iff_ne];omega
 generalize Ea n m=cm at *;have hcm:=HC.out;obtain ⟨i0,hi,hz0,hz1,hz2⟩:=info_parts Kx;go_enter Tryz.func238,Tryz.ntmps238
 go_wp2_with (go_at_call 128;refine HO.out.mono ?_;rintro e w1 ⟨rfl,q1,rfl⟩)
 refine (HLZ.out _).mono ?_;rintro e w' ⟨rfl,q2,rfl⟩;go_wp2_with fail;refine (Nn (m:=m) (by exact HU.out) s (by rw [HL2.out];omega) (by omega)).mono ?_;rintro e w1 ⟨vb,rfl,hvb,hk1⟩;have HVB:=hid hvb;have HK1:Hid (Kept w w1):=hk1.ofDrewN;clear hvb hk1;go_wp2_with fail;refine (U1 HVB.out (l+2) HLB.out (by omega)).mono ?_;rintro e w2 ⟨vv,rfl,hov,hk2⟩;have HOV:=hid hov;have HK2:Hid (Kept w w2):=HK1.out.trans hk2;have HS2:Hid (w1.heap.size≤w2.heap.size):=hk2.size;clear hov hk2;go_wp2_with fail;refine (Nn (m:=n) (HV.out.kept HK2.out) s (by rw [HL1.out];omega) (by omega)).mono ?_;rintro e w3 ⟨va,rfl,hva,hk3⟩
 have HVA:=hid hva;have HK3:=hid hk3;clear hva hk3;go_wp2_with fail;refine (U1 HVA.out (l1+1) HLA.out (by omega)).mono ?_;rintro e w4 ⟨vu,rfl,hou,hk4⟩;have HOU:=hid hou;have HK4:=hid hk4;clear hou hk4
 -- the two rows, the quotient's row
 have hlv:(limbs (m*2^s)++List.replicate (l+2-(limbs (m*2^s)).length) 0).length=l+2:=by
  rw [List.length_append,List.length_replicate];have:=HLB.out;omega
 have hlu:(limbs (n*2^s)++List.replicate (l1+1-(limbs (n*2^s)).length) 0).length=l1+1:=by
  rw [List.length_append,List.length_replicate];have:=HLA.out;omega
 have hvv:=Zb (m*2^s) (l+2-(limbs (m*2^s)).length);have hvu:=Zb (n*2^s) (l1+1-(limbs (n*2^s)).length);have hsv:=Rs (m*2^s) (l+2-(limbs (m*2^s)).length);have hsu:=Rs (n*2^s) (l1+1-(limbs (n*2^s)).length);generalize limbs (m*2^s)++List.replicate (l+2-(limbs (m*2^s)).length) 0=vs at *;generalize limbs (n*2^s)++List.replicate (l1+1-(limbs (n*2^s)).length) 0=us0 at *;obtain ⟨gv,cv,rfl,hgv1,hgv2,hcv⟩:=HOV.out.shape (by rw [hlv];omega);obtain ⟨gu,cu,rfl,hgu1,hgu2,hcu⟩:=HOU.out.shape (by rw [hlu];omega);have htop2:=Aej vs hsv (l+2) hlv (by omega) (by rw [hvv];exact HND.out.2)
 have hVc:∀ i,i<l+2→w2.cell? ⟨gv,i,none⟩=some (.int .u64 (nth vs i)):=fun i hi=>HOV.out.cell i (by rw [hlv];exact hi)
 have hk24:Below w2.heap.size w2 w4:=HK3.out.trans HK4.out;have hVc4:∀ i,i<l+2→w4.cell? ⟨gv,i,none⟩=some (.int .u64 (nth vs i)):=fun i hi=>(hk24.cell (p:=⟨gv,i,none⟩) hgv2).trans (hVc i hi)
 have hsz:=HK3.out.size;have hne:gv≠gu:=by omega
 have hgv4:gv<w4.heap.size:=by have:=hk24.size;omega
 have hK4:Kept w w4:=HK2.out.trans hk24;have hwgu:w.heap.size≤gu:=by have:=HK2.out.size;omega
 rw [hlu] at hcu HOU;rw [hlv] at hcv;have HVC:=hid hVc4;have HKW:=hid hK4;have HOU':=hid HOU.out;have HVS:=hid (And.intro hsv (And.intro hlv (And.intro hvv htop2)));have HUS:=hid (And.intro hsu (And.intro hlu hvu));have HW:=hid (And.intro hwgu (And.intro hgu2 (And.intro hgv4 hne)));clear hlv hlu hvv hvu hsv hsu htop2 hVc hk24 hVc4 hsz hK4 HOV HOU HVB HVA HK1 HK2 HK3 HK4 HS2 hgv1 hgv2 hgu1 hwgu;rw [HVS.out.2.1,HUS.out.2.1];obtain ⟨d,rfl⟩:∃ d,l1=l+2+d:=⟨l1-(l+2),by omega⟩
 go_wp2_with (at_make;go_must (refine wpList_make_full _ rfl _ _ 28 rfl w4.heap.size 54 i0 (.int .u64 0) 1 Tryz.underlying28 hi hz0 hz1 .i64 .i64 _ _ (d+1) rfl rfl (by omega) (by omega) (by rw [hz2];omega) (by unfold maxLen;omega) (Nat.le_refl _) ?_))
 intro w5 hown5 hgrow5;have hq5:Own w5 w4.heap.size (.slice (some ⟨w4.heap.size,0,none⟩) (d+1) (d+1)) (List.replicate (d+1) 0):=Im hown5;have hB5:OnlyB w4.heap.size gu w4 w5:=OnlyB.grown hgrow5 (Nat.le_refl _);have hu5:Own w5 w3.heap.size (.slice (some ⟨gu,0,none⟩) (l+2+d+1) cu) us0:=World.ownsRow.kept (row:=none) HOU'.out hgrow5 (Or.inr (by simp [Value.ownBlock]));have hst:=LongInv.start n m s us0 vs l d HUS.out.1 HUS.out.2.1 HUS.out.2.2 h0 HL2.out HL1.out HVS.out.2.2.1;have HQ5:=hid hq5;have HB5:=hid hB5;have HU5:=hid hu5;have HST:=hid hst;have hqne:w4.heap.size≠gu:=by have:=HW.out.2.1;omega
 have HQN:=hid hqne;clear hown5 hgrow5 hq5 hB5 hu5 hst hqne HOU';go_wp2_with fail;have HN:Hid ((n*2^s)/(m*2^s)=n/m∧(n*2^s)%(m*2^s)/2^s=n%m):=⟨Nat.mul_div_mul_right _ _ (Nat.pow_pos (by decide)),by rw [Nat.mul_mod_mul_right,Nat.mul_div_cancel _ (Nat.pow_pos (by decide))]⟩
 go_loopw [11] (fun t wr=>∃ (k:Nat) (us qs:List Nat),k≤d+1∧t=.int .i64 ((k:Int)-1)∧Own wr w3.heap.size (.slice (some ⟨gu,0,none⟩) (l+2+d+1) cu) us∧Own wr w4.heap.size (.slice (some ⟨w4.heap.size,0,none⟩) (d+1) (d+1)) qs∧qs.length=d+1∧LongInv (n*2^s) (val vs) (l+2) us qs k∧OnlyB w4.heap.size gu w4 wr) (fun t _=>(intOf t+1).toNat)
 case atStart=>exact ⟨d+1,us0,_,Nat.le_refl _,congrArg (Value.int .i64) (by omega),HU5.out,HQ5.out,by simp,HST.out,HB5.out⟩
 case round =>
  obtain ⟨k,us,qs,hkd,rfl,hu,hq,hql,hinv,hB⟩:=hrel;have HUS2:=hid hu;have HQS:=hid hq;have HQL:=hid hql;have HI:=hid hinv;have HB:=hid hB;have hul:=hinv.lens;rw [hql] at hul;have HUL:=hid hul;clear hu hq hql hinv hB hul HST HU5 HQ5 HB5;cases k with
  | succ j =>
    have hwin:=HI.out.window (vs:=vs) (by rw [HQL.out];omega) (by omega) rfl HVS.out.2.1 HVS.out.1 HVS.out.2.2.2;have hnext:=fun wl'=>HI.out.next (vs:=vs) (wl':=wl') (by rw [HQL.out];omega) rfl hwin.2 hwin.1.qlt hwin.1.vpos
    have hql':=hwin.1.qlt;have htl:(us.take j).length=j:=by rw [List.length_take,HUL.out];omega
    have hW:Win wr w3.heap.size gu (l+2+d+1) cu (us.take j) ((us.drop j).take (l+2+1)) (us.drop (j+(l+2+1))):=by
     unfold Win;rw [←Od];exact HUS2.out
    have hdig:=Ae7 (gv:=gv) (cv:=cv) (c:=cu-j) hwin.1 (by omega) (by rw [htl];omega) hW (by omega) hcv HW.out.2.2.2 (fun i hi=>(HB.out.cell HW.out.2.2.1 HW.out.2.2.2).trans (HVC.out i hi));rw [htl] at hdig;have HDG:=hid hdig;have HNX:=hid hnext;clear hdig hnext hwin hW htl;generalize (us.drop j).take (l+2+1)=wl at *;go_wp2_with fail;rw [show j+(l+2)+1-j=l+2+1 by omega];refine HDG.out.mono ?_;rintro e w6 ⟨rfl,wl',hl',hs',hv',hW',hOn⟩;have hinv':=HNX.out wl' hl' hs' hv';have hq6:=hOn.own HQS.out HQN.out;have hB6:=HB.out.only hOn;have hu6:Own w6 w3.heap.size (.slice (some ⟨gu,0,none⟩) (l+2+d+1) cu) (us.take j++(wl'++us.drop (j+(l+2+1)))):=hW'
    have hqf:=hq6.frozen j;have hqc:=hq6.cell j (by rw [HQL.out];omega);have HI':=hid hinv';have HQ6:=hid hq6;have HB6:=hid hB6;have HU6:=hid hu6;clear hinv' hq6 hB6 hu6 hl' hs' hv' hW' hOn HDG HNX HI HB HUS2 HQS;generalize val wl/val vs=qd at *;generalize nth qs j=y at *;go_wp2_with fail;go_roundw
    case rel=>exact ⟨j,_,qs.set j qd,by omega,by go_num,M6 HU6.out HQN.out.symm,HQ6.out.stored _ _,by rw [List.length_set];exact HQL.out,HI'.out,HB6.out.setCell (Nat.le_refl _) _ _⟩
    case measure=>simp [intOf]
  | zero =>
    have hfin:=HI.out.finish;rw [HVS.out.2.2.1,HN.out.1] at hfin;have hlimq:=HQS.out.lim HI.out.qs_small;have hlow:=HI.out.low;rw [List.drop_zero] at hlow;have hvlt:=Eg vs HVS.out.1;rw [HVS.out.2.1] at hvlt;have htk:=Aat us HI.out.us_small (l+2) (by rw [HUL.out];omega) (by omega);have hlimu:=(HUS2.out.lim HI.out.us_small).take (l+2) (by rw [HUL.out];omega);have hKf:=HB.out.kept HKW.out (by have:=HW.out.1;omega) HKW.out.size;have HLQ:=hid hlimq;have HLU:=hid hlimu;have HF:=hid (And.intro hfin htk);have HKF:=hid hKf;clear hfin hlimq hlow hvlt htk hlimu hKf;go_wp2_with fail
    go_region_with (first
     | (go_at_call_of 151 (some (Addr.mk w4.heap.size 0 none));refine (G6 (xs:=qs) (by exact HLQ.out) (by rw [HQL.out];omega)).mono ?_;rintro e w6 ⟨vq,rfl,hvq,rfl⟩;have HVQ:=hid hvq;clear hvq)
     | (go_at_call_of 151 (some (Addr.mk gu 0 none));refine (G6 (xs:=us.take (l+2)) (by exact HLU.out) (by rw [List.length_take];omega)).mono ?_;rintro e w6 ⟨vt,rfl,hvt,rfl⟩;have HVT:=hid hvt;clear hvt)
     | (go_at_call 139;refine (S8 (m:=val (us.take (l+2))) (by exact HVT.out) s (by have:=Jo (us.take (l+2)) (Df HI.out.us_small _);rw [List.length_take] at this;omega) (by omega)).mono ?_;rintro e w7 ⟨vr,rfl,hvr,hk7⟩;have HVR:=hid hvr;have HK7:=hid hk7;clear hvr hk7))
    all_goals
     go_wp2_with fail;refine bodyPost_ret (v:=.tuple #[vq,vr]) (by simp [results,Tryz.results238,go_sem]) rfl ⟨vq,vr,rfl,?_,?_,?_⟩
     ·rw [←HF.out.1.1];exact HVQ.out.kept ⟨HK7.out.os,HK7.out.tape,HK7.out.output,HK7.out.size,HK7.out.block⟩
     ·rw [←HN.out.2,←HF.out.1.2,←HF.out.2];exact HVR.out
     ·exact HKF.out.trans ⟨HK7.out.os,HK7.out.tape,HK7.out.output,HK7.out.size,HK7.out.block⟩
theorem Adp {w:World}{v u:Value}{n m:Nat}(hv:Lim w v (limbs n))(hu:Lim w u (limbs m))(hl:(limbs n).length≤50000)(hl':(limbs m).length≤50000)(h0:m≠0) :
 Calls Tryz.prog 238 #[v,u] w (RetQR n m w):=by
 by_cases hlt:n<m
 ·exact U8 hv hu (by omega) (by omega) hlt
 ·by_cases h1:m<18446744073709551616
  ·exact Xf hv hu (by omega) h0 h1 (by omega)
  ·exact U9 hv hu hl h0 (Og m 1 (by simpa using h1)) (by omega)
end Go.Proofs.YtmgaloopddiekaaGreatDoor
