/- Words and contracts, part 27. -/
import Derived.Test.YtabjjdicffcolaaGreatDoorClaimSholdp26
set_option maxRecDepth 100000
set_option maxHeartbeats 0
namespace Go.Proofs.YtabjjdicffcolaaGreatDoor
open Go.Lib (hid)
open Go.RowKit
variable {l1 l2:Bool} {e e1 e2 op p:Int} {a rows:List (List RawI)} {l m r r0 r1 v v' x y:List RawI} {b bd bw k n:Nat} {w w':World}
def RetGr (o:Outc (List RawI × List (List RawI))) (w:World) (e:Ending) (w':World):Prop:=Kept w w'∧∃ v1 v2,e=.returned (.tuple #[v1,v2,.int .i64 o.k])∧IvS w' v1 o.v.1∧RowsS w' v2 o.v.2
theorem Oj (p nx:Nat)(v:List RawI):∀ (ls:List Ln) (all rows:List (List RawI)) (l:Ln),Da p nx v all ls=⟨rows,0⟩ →
 Da p nx v all (ls++[l])=if (Cx p nx v rows l).2=0 then ⟨rows++[(Cx p nx v rows l).1],0⟩ else ⟨[],(Cx p nx v rows l).2⟩
 | [], all, rows, l, h => by
   have:all=rows:=congrArg Outc.v h;subst this;simp only [List.nil_append,Da]
 | m :: ls, all, rows, l, h => by
   rw [Da] at h;by_cases hk:(Cx p nx v all m).2=0
   ·rw [if_pos hk] at h;rw [List.cons_append,Da,if_pos hk];exact Oj p nx v ls _ rows l h
   ·rw [if_neg hk] at h;exact absurd (congrArg Outc.k h) hk
theorem Up (p nx:Nat)(v:List RawI):∀ (ls:List Ln) (all:List (List RawI)) (rest:List Ln),(Da p nx v all ls).k≠0→Da p nx v all (ls++rest)=Da p nx v all ls
 | [],all,rest,h=>absurd rfl h
 | m :: ls, all, rest, h => by
   rw [Da] at h;rw [List.cons_append,Da,Da];by_cases hk:(Cx p nx v all m).2=0
   ·rw [if_pos hk] at h;rw [if_pos hk,if_pos hk];exact Up p nx v _ _ rest h
   ·rw [if_neg hk,if_neg hk]
theorem So {ov:Iv→Nat→Outc Iv}{e:En}{p:Nat}(he:e.Cl)(hp:1≤p)(P:Ln→Prop)(hP:∀ l out,P l→Cl out→(Ch ov e p out l).v.Ok):∀ (ls:List Ln) (out:List RawI),(∀ l∈ls,P l)→Cl out→(Ca ov e p out ls).k=0 →
 (Ca ov e p out ls).v.length=out.length+ls.length∧Cl (Ca ov e p out ls).v
 | [],out,_,hc,_=>⟨rfl,hc⟩
 | l :: ls, out, hl, hc, h => by
   rw [Ca] at h ⊢;by_cases hk:(Ch ov e p out l).k=0
   ·rw [if_pos hk] at h ⊢;have:=So he hp P hP ls _ (fun m hm=>hl m (by simp [hm])) (hc.snoc (hP l out (hl l (by simp)) hc)) h;refine ⟨by rw [this.1];simp;omega,this.2⟩
   ·rw [if_neg hk] at h;exact absurd h hk
theorem AllR.old {ball ub:Nat}(h:AllR w ball n ub rows)(hk:k<n):∃ A a c,w.cell? ⟨ball,k,none⟩=some (.slice A a c):=by
 obtain ⟨cs,h1,h2,h3,h4⟩:=h;obtain ⟨A,a,c,e⟩:=h3 cs[k] (by simp);exact ⟨A,a,c,Ae h1 _ _ (by rw [Array.getElem?_eq_getElem (by omega),e])⟩
theorem P4 (n:Nat):∀ r∈List.replicate n rzI,r.iv.Ok∧r.iv.raw=r:=by
 intro r hr;obtain ⟨-,rfl⟩:=List.mem_replicate.1 hr;exact ⟨Sm,Nj⟩
def SetJ (b:Nat) (r0 r:List RawI) (l:Bool) (w:World):Prop:=DRow w b (if l then r else r0)
theorem SetJ.kept {l:Bool}(q:Kept w w')(h:SetJ b r0 r l w):SetJ b r0 r l w':=DRow.kept h q
theorem SetJ.first {l:Bool}(h:SetJ b r0 r l w)(hl:l=false):DRow w b r0:=by subst hl;exact h
theorem SetJ.last (h:DRow w b r):SetJ b r0 r true w:=h
theorem SetJ.done {l:Bool}(h:SetJ b r0 r l w)(hl:l=true):DRow w b r:=by subst hl;exact h
theorem Ack {p:Nat}{a b c da db:Iv}(ha:a.Ok)(hb:b.Ok)(hc:c.Ok)(hd:da.Ok)(he:db.Ok)(hp:1≤p)(e:Int):(Hk p op a b c da db e).v.Ok:=by
 unfold Hk;split
 ·exact Dk hd he hp _
 split
 ·exact Dk (Dk hd hb hp _) (Dk ha he hp _) hp _
 split
 ·exact Dk (Dk hd (Dk hc he hp _) hp _) hb hp _
 split
 ·exact Dk (Dk J3 ha hp _) hd hp _
 split
 ·exact Dk hd (Dk J3 hc hp _) hp _
 split
 ·exact Dk hc hd hp _
 ·exact Sm
theorem U7 (p:Nat)(op:Int)(a b c:Iv)(x y:RawI):∀ (l m:List RawI) (e:Int),l.length=m.length →
 Hc p op a b c (l++[x]) (m++[y]) e=((Hc p op a b c l m e).1++[(Hk p op a b c x.iv y.iv (Hc p op a b c l m e).2).v.raw],(Hk p op a b c x.iv y.iv (Hc p op a b c l m e).2).k)
 | [],[],e,_=>rfl
 | [],_::_,_,h=>by simp at h
 | _::_,[],_,h=>by simp at h
 | u :: l, v :: m, e, h => by
   have:=U7 p op a b c x y l m (Hk p op a b c u.iv v.iv e).k (by simpa using h);simp only [List.cons_append,Hc,this]
def GrJ (bd bw:Nat) (p e1 e2:Int) (r0 r1:List RawI) (l1 l2:Bool) (w:World):Prop:=DRow w bd (if l2 then r1 else r0)∧Wk w bw p (if l1 then e2 else e1)
theorem GrJ.kept (q:Kept w w')(h:GrJ bd bw p e1 e2 r0 r1 l1 l2 w):GrJ bd bw p e1 e2 r0 r1 l1 l2 w':=⟨DRow.kept h.1 q,Wk.kept h.2 q⟩
theorem GrJ.wk (h:GrJ bd bw p e1 e2 r0 r1 l1 l2 w)(hl:l1=false):Wk w bw p e1:=by subst hl;exact h.2
theorem GrJ.did (hne:bd∉[bw])(h:GrJ bd bw p e1 e2 r0 r1 l1 l2 w)(k:KB w [bw] w')(hw:Wk w' bw p e2):GrJ bd bw p e1 e2 r0 r1 true l2 w':=⟨h.1.kb k hne,hw⟩
theorem GrJ.row (h:GrJ bd bw p e1 e2 r0 r1 l1 l2 w)(hl:l2=false):DRow w bd r0:=by subst hl;exact h.1
theorem GrJ.laid (hne:bw∉[bd])(h:GrJ bd bw p e1 e2 r0 r1 l1 l2 w)(k:KB w [bd] w')(hd:DRow w' bd r1):GrJ bd bw p e1 e2 r0 r1 l1 true w':=⟨hd,k.blk h.2 hne⟩
theorem GrJ.done (h:GrJ bd bw p e1 e2 r0 r1 l1 l2 w)(h1:l1=true)(h2:l2=true):DRow w bd r1∧Wk w bw p e2:=by subst h1;subst h2;exact h
theorem Ag3 {j:Nat}(hl:l.length=j)(hj:j<n)(r:RawI):(l++List.replicate (n-j) rzI).set j r=(l++[r])++List.replicate (n-(j+1)) rzI:=by
 subst hl;rw [List.set_append_right _ _ (Nat.le_refl _),Nat.sub_self];obtain ⟨m,hm⟩:∃ m,n-l.length=m+1:=⟨n-l.length-1,by omega⟩;rw [hm,List.replicate_succ,List.set_cons_zero,List.append_assoc,show n-(l.length+1)=m by omega];rfl
theorem Ant (w:World)(p:Int):∃ V,V=w.alloc (.cells #[.int .i64 p,.int .i64 0] 69)∧Kept w V∧Wk V w.heap.size p 0∧V.heap.size=w.heap.size+1 :=
 ⟨_,rfl,Ad _ _,heap_alloc_new _ _,by simp⟩
theorem V8 {S:Int→Prop}{ov:Iv→Nat→Outc Iv}{vt ve:Value}{ls:List Ln}{outs:List Int}{e:En}(hv:TpR w vt ls outs)(he:EnR w ve e)(hok:W5 ls)(hle:Mh e)(hn:ls.length≤1000000000)
 (hT:Tab w) (hov:∀ l∈ls,l.op=13→OvC ov) (O:Zt S) (hS:∀ l∈ls,6≤l.op→l.op≤12→S l.op) (hD:∀ l∈ls,Ahz S l.op) (hno:outs.length≤1000000000:=by simp) :
 Calls Tryz.prog 14 #[vt,ve,.int .i64 p] w (RetGr (Gc ov ls outs e p) w):=by
 have LC:=hid (fun w1 (k:Kept w w1)=>Ai4 (p:=p) (hv.kept k) (he.kept k) hok hle hn hno (hT.kept k) hov O hS);have OPS:=hid O;have DER:=hid hD;clear O hS hD;obtain ⟨s,o,rfl,hls,hou⟩:=hv;obtain ⟨x0,x1,x2,x3,x4,x5,sx,su,sp,rfl,ht,hx,hu,hp⟩:=he;have HLS:=hid hls;have HO:=hid hou;have HX:=hid hx;have OK:=hid hok;have LE:=hid hle;have TT:=hid hT;have OV:=hid hov;have HTT:=hid ht;have HU:=hid hu;have HP:=hid hp;obtain ⟨A,c,rfl,hc,-⟩:=hls;obtain ⟨B,d,rfl,-,-⟩:=hou;obtain ⟨AX,cx,rfl,-,-⟩:=hx;obtain ⟨AU,cu,rfl,-,-⟩:=hu;obtain ⟨AP,cp,rfl,-,-⟩:=hp;obtain ⟨W,hW,kW,hb,hb',lW⟩:=Zz w (.slice A ls.length c) (.slice B outs.length d) x0 x1 x2 x3 x4 x5 (.slice AX e.x.length cx) (.slice AU e.u.length cu) (.slice AP e.p.length cp)
 have HW:=hid hW;have K:=hid kW;have HB:=hid hb;have HB':=hid hb';obtain ⟨c0,c1⟩:=E4 hb;obtain ⟨d0,d1,d2,d3,d4,d5,d6,d7,d8⟩:=Bo hb';clear hok hle hW kW hb hb' hT ht hno;obtain ⟨T,hTI⟩:∃ T,Cm ov ls outs e p=T:=⟨_,rfl⟩;rw [hTI] at LC;obtain ⟨G,hGI⟩:∃ G,Gc ov ls outs e p=G:=⟨_,rfl⟩;rw [hGI];have HTI:=hid hTI;have HGI:=hid hGI;clear hTI hGI hov;generalize hnl:ls.length=n at *;have HN:=hid hnl;clear hnl;go_enter Tryz.func14,Tryz.ntmps14;go_upto_region 1 with fail;rw [←HW.out];go_step3;go_upto_region 1 with fail;go_wp2_with fail;refine (LC.out _ K.out).mono ?_;rintro e' w1 ⟨q,v,rfl,hvs⟩
 have HVS:=hid hvs;obtain ⟨AV,cv,rfl,hcv,-⟩:=hvs;have K1:=hid (K.out.trans q);have HB1:=hid (Bk HB.out q);have HB1':=hid (Bk HB'.out q);clear c0 c1 d0 d1 d2 d3 d4 d5 d6 d7 d8 q HW LC;simp only [];by_cases hk:T.k=0
 ·have gk:(T.k != 0)=false:=by simp [hk]
  have hgood:1≤p∧p≤300∧Jt ls outs e.x.length e.u.length e.p.length=true∧Mr e=true:=by
   have h:=HTI.out;unfold Cm at h;by_cases hg:1≤p∧p≤300∧Jt ls outs e.x.length e.u.length e.p.length=true∧Mr e=true
   ·exact hg
   ·rw [if_neg hg] at h;rw [←h] at hk;cases hk
  obtain ⟨pn,rfl⟩:∃ pn:Nat,p=(pn:Int):=⟨p.toNat,by omega⟩;have hTL:Ca ov e pn [] ls=T:=by
   rw [←HTI.out];unfold Cm;rw [if_pos hgood,Int.toNat_natCast]
  obtain ⟨p1,p2,hmt,hme⟩:=hgood;replace p1:1≤pn:=by omega
  replace p2:pn≤300:=by omega
  unfold Jt at hmt;simp only [Bool.and_eq_true,decide_eq_true_eq,List.all_eq_true] at hmt;obtain ⟨⟨⟨n200,o200⟩,hmls⟩,hoo⟩:=hmt;rw [HN.out] at n200 hoo;unfold Bw at hoo;simp only [Bool.and_eq_true,decide_eq_true_eq] at hoo;have HOO:=hid hoo;have O200:=hid o200;clear hoo o200;have hml:=(Hs _ _ _ ls 0).1 hmls;have ML:=hid hml;unfold Mr at hme;simp only [Bool.and_eq_true] at hme;obtain ⟨⟨⟨me1,me2⟩,me3⟩,me4⟩:=hme;have ECL:e.Cl:=⟨HTT.out.clean me1,HX.out.cl me2,HU.out.cl me3,HP.out.cl me4⟩;have hall:=So (ov:=ov) (p:=pn) ECL p1 (fun l=>l∈ls) (fun l out hl hc=>by
   refine (Ya ECL hc (fun h1=>?_) p1 (fun hn a ha=>?_)).1
   ·obtain ⟨i,hi,he⟩:=List.mem_iff_getElem.1 hl;have hi':ls[i]?=some l:=by rw [List.getElem?_eq_getElem hi,he]
    have hm:=hml i l hi';obtain ⟨op,a,b,kk⟩:=l;simp only at h1;subst h1;rw [Af7] at hm;simp only [Bool.and_eq_true] at hm;obtain ⟨A',c',eA,-,hA⟩:=HLS.out;obtain ⟨bl,ol,-,hd⟩:=hA (by omega);obtain ⟨a0,a1,a2,y0,y1,y2,y3,y4,y5,g0,g1,g2,g3,g4,g5,hI⟩:=hd i _ hi';exact (hI.clean hm.1.1).1
   ·obtain ⟨i,hi,he⟩:=List.mem_iff_getElem.1 hl;have hm:=hml i l (by rw [List.getElem?_eq_getElem hi,he]);have h13:l.op=13:=by
     obtain ⟨op,a,b,kk⟩:=l;simp only at hn ⊢;have:=Af8 hm (by omega) (by omega) (by omega) (by omega) (by omega);omega
    exact (OV.out l hl h13).1 a pn ha p1 p2) ls [] (fun l hl=>hl) (by intro a ha;cases ha) (by rw [hTL];exact hk)
  rw [hTL] at hall;obtain ⟨hvl,hvc⟩:=hall;rw [HN.out] at hvl;simp only [List.length_nil,Nat.zero_add] at hvl;have VCL:=hid hvc;have VLN:=hid hvl;clear hmls hml me1 me2 me3 me4 hvc hTL ECL;rw [hvl] at hcv;generalize hsv:T.v.length=nv at *;have HNV:=hid hsv;obtain ⟨wa,hwa,kwa,hwk,lwa⟩:=Ant w1 pn;obtain ⟨wb,hmk,kwb,lwb,hall⟩:=Adm wa (n:=n) (by omega);rw [lwa] at hall lwb;have HWA:=hid hwa;have KA:=hid kwa;have KB':=hid kwb;have HWK:=hid (hwk.kept kwb);have HALL:=hid hall;obtain ⟨c0,c1⟩:=E4 (Bk HB1.out kwa);obtain ⟨f0,f1⟩:=E4 (Bk HB1.out (kwa.trans kwb));clear hwa kwa kwb hwk hall hsv
  go_upto_region 4 with fail
  go_wp2_with (rw [←HWA.out])
  go_step3;go_wp2_with fail;clear c0 c1 f0 f1 hmk HWA;have HK:=hid hk;obtain rfl:=hvl;clear hk gk;generalize hbl:w1.heap.size+1=ball at *;generalize hbw:w1.heap.size=bw at *;have HBL:=hid hbl;have HBW:=hid hbw;clear hbl hbw;generalize hnx:e.x.length=nx at *;have HNX:=hid hnx;clear hnx
  go_loopw [41] (fun t wr=>∃ (k:Nat) (rows:List (List RawI)),k≤nv∧t=.int .i64 k∧Da pn nx T.v [] (ls.take k)=⟨rows,0⟩∧rows.length=k∧(∀ r∈rows,r.length=nx∧Cl r)∧AllR wr ball nv wr.heap.size rows∧Wk wr bw pn 0∧Kept w1 wr) (fun t _=>(nv-intOf t).toNat)
  case atStart=>exact ⟨0,[],Nat.zero_le _,rfl,rfl,rfl,(by intro r hr;cases hr),HALL.out,HWK.out,KA.out.trans KB'.out⟩
  case round =>
   obtain ⟨k,rows,hk,rfl,hrow,hlen,hrl,hall,hwk,hKr⟩:=hrel;have KR:=hid hKr;have HROW:=hid hrow;have HLEN:=hid hlen;have HRL:=hid hrl;have HALR:=hid hall;have HWKR:=hid hwk;clear hKr hrow hlen hrl hall hwk HALL HWK KA KB';by_cases hlt:k<nv
   ·obtain ⟨⟨op,a,b,kk⟩,hl⟩:∃ l,ls[k]?=some l:=⟨_,List.getElem?_eq_getElem (by have:=HN.out;omega)⟩;have hml:=ML.out k _ hl;rw [Nat.zero_add] at hml;obtain ⟨A',c',eA,-,hA⟩:=HLS.out;injection eA with eA1 eA2 eA3
    subst eA1;obtain ⟨bl,ol,rfl,hd⟩:=hA (by have:=HN.out;omega);obtain ⟨a0,a1,a2,y0,y1,y2,y3,y4,y5,g0,g1,g2,g3,g4,g5,hI⟩:=(hd k _ hl).kept (K1.out.trans KR.out);have HI:=hid hI;obtain ⟨A1,l1,q1,A2,l2,q2,ei,-,-⟩:=Aq hI;injection ei with ei;injection ei with ei
    simp only [List.cons.injEq,and_true] at ei;obtain ⟨rfl,rfl,rfl,rfl,rfl,rfl⟩:=ei;obtain ⟨W2,hW2,kW2,HL,lW2⟩:=Amw wr (.int .i64 op) (.int .i64 a) (.int .i64 b) (.bool kk.lo.neg) (.slice A1 l1 q1) (.int .i64 kk.lo.e) (.bool kk.hi.neg) (.slice A2 l2 q2) (.int .i64 kk.hi.e);have HW2:=hid hW2;have K2:=hid kW2;have HLB:=hid HL;have HML:=hid hml;have HLK:=hid hl;clear hI hl hml hW2 kW2 HL hd hA eA2 eA3 HI;simp only [] at a0 a1 a2;generalize kk.lo.neg=z1,kk.lo.e=z2,kk.hi.neg=z3,kk.hi.e=z4 at *;go_upto_region 9 with fail;rw [←HW2.out];clear HW2 a0 a1 a2 g0 g1 g2 g3 g4 g5
    obtain ⟨W3,hmk,kW3,lW3,hD⟩:=Adn W2 (n:=nx) (by have:=LE.out.2.2.2.2.1;have:=HNX.out;omega);have hall3:=(HALR.out.kept K2.out).kept kW3;obtain ⟨Ao,ao,co,hold⟩:=hall3.old hlt;have hfree:=hall3.free k;have hput:=hall3.put (by have:=HLEN.out;omega) (A:=some ⟨W2.heap.size,0,none⟩) (a:=nx) (c:=nx);rw [HLEN.out] at hput;obtain ⟨hall4,kb4,hc4⟩:=hput;have HOLD:=hid hold;generalize hbd:W2.heap.size=bd at *;have HBD:=hid hbd;generalize hb14:wr.heap.size=b14 at *;have HB14:=hid hb14;have nbd:bd∉[ball]:=by have:=HALR.out.lt;simp;omega
    have nb14:b14∉[ball]:=by have:=HALR.out.lt;simp;omega
    have hD4:=hD.kb kb4 nbd;have hL4:=kb4.blk (Bk HLB.out kW3) nb14;have lw1:w1.heap.size≤ball:=by have:=HBL.out;have:=HBW.out;omega
    have hE4:=kb4.blk (Bk HB1'.out (KR.out.trans (K2.out.trans kW3))) (by have:=(Array.getElem?_eq_some_iff.1 HB1'.out).1;simp;omega);have hT4:=kb4.blk (Bk HB1.out (KR.out.trans (K2.out.trans kW3))) (by have:=(Array.getElem?_eq_some_iff.1 HB1.out).1;simp;omega);have hWk4:Wk _ bw pn 0:=kb4.blk ((HWKR.out.kept K2.out).kept kW3) (by have:=HBL.out;simp;omega);have k4:Kept w1 _:=KB.kept (KR.out.trans (K2.out.trans kW3)) kb4 (by intro x hx;simp at hx;omega);obtain ⟨d0,d1,d2,d3,d4,d5,d6,d7,d8⟩:=Bo (Bk HB1'.out (KR.out.trans K2.out));obtain ⟨r0,r1,r2,r3,r4,r5,r6,r7,r8⟩:=Bo hL4
    have HA4:=hid hall4;have HC4:=hid hc4;have HD4:=hid hD4;have HL4:=hid hL4;have HE4:=hid hE4;have HT4:=hid hT4;have HW4:=hid hWk4;have K4:=hid k4;have KB4:=hid kb4;clear hall3 hall4 kb4 hc4 hD hD4 hL4 hE4 hT4 hWk4 k4 hbd hb14 HLB HWKR;go_upto_region 11 with fail;generalize W3.setCell ⟨ball,k,none⟩ (.slice (some ⟨bd,0,none⟩) nx nx)=W4 at *;have hok:=OK.out _ (List.mem_of_getElem? HLK.out);clear hok d0 d1 d2 d3 d4 d5 d6 d7 d8 hold hfree hmk HOLD;have FR:Hid (Fr (.slice (some ⟨bd,0,none⟩) nx nx) (ball+1)):=hid (by
     intro g hg;simp [Value.ownBlock] at hg;subst hg;have:=HALR.out.lt;have:=HBD.out;have:=HB14.out;omega)
    have REND:=hid (fun (r:List RawI) (w9:World) (ub:Nat) (hd:Cx pn nx T.v rows ⟨op,a,b,kk⟩=(r,0)) (hn:r.length=nx) (hc:Cl r) (d:DRow w9 bd r) (h:AllR w9 ball nv ub rows) (hu:ub≤w9.heap.size) (hs:w9.cell? ⟨ball,k,none⟩=some (.slice (some ⟨bd,0,none⟩) nx nx)) =>
     show Da pn nx T.v [] (ls.take (k+1))=⟨rows++[r],0⟩∧(∀ x∈rows++[r],x.length=nx∧Cl x)∧AllR w9 ball nv w9.heap.size (rows++[r]) by
      have hsn:=Oj pn nx T.v (ls.take k) [] rows ⟨op,a,b,kk⟩ HROW.out;rw [hd,if_pos rfl] at hsn;refine ⟨by rw [List.take_add_one,HLK.out];exact hsn,fun x hx=>?_,?_⟩
      ·rcases List.mem_append.1 hx with hx | hx
       ·exact HRL.out x hx
       ·rw [List.mem_singleton.1 hx];exact ⟨hn,hc⟩
      ·have hds:=d.ivS (Nat.le_of_eq hn);rw [hn] at hds;exact (h.mono hu).snoc (by rw [HLEN.out];exact hs) hds FR.out (by intro g hg;simp [Value.ownBlock] at hg;subst hg;exact d.lt))
    by_cases hA:op=1∨op=2∨op=4∨op=5
    ·obtain ⟨r,hr⟩:∃ r,r=List.replicate nx rzI:=⟨_,rfl⟩;have hder:Cx pn nx T.v rows ⟨op,a,b,kk⟩=(r,0):=by unfold Cx;rw [if_pos hA,hr]
     have hrl:r.length=nx:=by rw [hr];simp
     have hrc:Cl r:=by rw [hr];exact P4 nx
     rw [←hr] at HD4;have HDER:=hid hder;have HRLN:=hid hrl;have HRC:=hid hrc;clear hder hrl hrc hr;rcases hA with rfl | rfl | rfl | rfl
     ·
      go_wp2_with fail;go_roundw
      case rel =>
       obtain ⟨e1,e2,e3⟩:=REND.out r _ _ HDER.out HRLN.out HRC.out HD4.out HA4.out (by have:=HD4.out.lt;have:=HBD.out;have:=HB14.out;omega) HC4.out;exact ⟨k+1,rows++[r],by omega,by go_num,e1,by simp [HLEN.out],e2,e3,HW4.out,K4.out⟩
      case measure=>simp only [intOf];omega
     ·
      go_wp2_with fail;go_roundw
      case rel =>
       obtain ⟨e1,e2,e3⟩:=REND.out r _ _ HDER.out HRLN.out HRC.out HD4.out HA4.out (by have:=HD4.out.lt;have:=HBD.out;have:=HB14.out;omega) HC4.out;exact ⟨k+1,rows++[r],by omega,by go_num,e1,by simp [HLEN.out],e2,e3,HW4.out,K4.out⟩
      case measure=>simp only [intOf];omega
     ·
      go_wp2_with fail;go_roundw
      case rel =>
       obtain ⟨e1,e2,e3⟩:=REND.out r _ _ HDER.out HRLN.out HRC.out HD4.out HA4.out (by have:=HD4.out.lt;have:=HBD.out;have:=HB14.out;omega) HC4.out;exact ⟨k+1,rows++[r],by omega,by go_num,e1,by simp [HLEN.out],e2,e3,HW4.out,K4.out⟩
      case measure=>simp only [intOf];omega
     ·
      go_wp2_with fail;go_roundw
      case rel =>
       obtain ⟨e1,e2,e3⟩:=REND.out r _ _ HDER.out HRLN.out HRC.out HD4.out HA4.out (by have:=HD4.out.lt;have:=HBD.out;have:=HB14.out;omega) HC4.out;exact ⟨k+1,rows++[r],by omega,by go_num,e1,by simp [HLEN.out],e2,e3,HW4.out,K4.out⟩
      case measure=>simp only [intOf];omega
    have hTb:=TT.out.kept (K1.out.trans K4.out);have lTT:=TT.out.lt;have lK1:=K1.out.size;have lAll:=HALR.out.lt;have lBD:=HBD.out;have lB14:=HB14.out;have lBL:=HBL.out;have lBW:=HBW.out;have NG:0∉[bd]:=by simp;omega
    have N14:b14∉[bd]:=by simp;omega
    have NALL:ball∉[bd]:=by simp;omega
    have NBW:bw∉[bd]:=by simp;omega
    by_cases h3:op=3
    ·subst h3;obtain ⟨hm1,hm2⟩:=Akn HML.out;obtain ⟨ka,rfl⟩:∃ ka:Nat,a=(ka:Int):=⟨a.toNat,by omega⟩;have hka:ka<nx:=by omega
     obtain ⟨r,hr⟩:∃ r,r=(List.replicate nx rzI).set ka (pt d1).raw:=⟨_,rfl⟩;have hder:Cx pn nx T.v rows ⟨3,ka,b,kk⟩=(r,0):=by rw [Aid,Int.toNat_natCast,hr]
     have hrl:r.length=nx:=by rw [hr];simp
     have hrc:Cl r:=by
      intro x hx;rw [hr] at hx;rcases List.mem_or_eq_of_mem_set hx with h | h
      ·exact P4 nx x h
      ·rw [h];exact Vt (Yn Hn)
     have SP:=hid (fun w' (q:KB W4 [bd] w')=>show Calls Tryz.prog 36 #[.int .i64 1] w' (RetI (pt d1).raw w') by
      have:=Zf (n:=1) (w:=w') (by decide) (hTb.kb q NG);rw [Xs] at this;exact this)
     have HDER:=hid hder;have HRLN:=hid hrl;have HRC:=hid hrc;have HR:=hid hr;clear hder hrl hrc hr hm1 hm2 hA;go_upto_region 17 with fail;clear r0 r1 r2 r3 r4 r5 r6 r7 r8
     refine rK 6 (fun i=>i==5) ([bd]) (fun L w=>SetJ bd (List.replicate nx rzI) r (L 5) w) ([(vE (.slice (some ⟨bd,0,none⟩) nx nx)),(vP b14 1),(vE (.int .i64 (ka:Int))),(fun v wv=>IvR wv v ((pt d1).raw)),(vE (.pointer (some ⟨bd,ka*6,none⟩))),(fun v _=>True)])
      (fun i hE L w w' kq fj=>by simp only [I5 hE 5];exact SetJ.kept kq fj) ((by exact HD4.out)) (by exact ⟨
        (kq 15),(kq 14),(kvl 1 64 fun _ k=>Ct HL4.out k N14 1 _ rfl),(kp fun _ aF wF F=>by have FK:=F.frame.1;exact sI (SP.out _ FK) fun _ _ h=>h),(kvv 0 63 2 65),(.inr fun LF aF wF F=>by have FK:=F.frame.1;have fj:=F.frame.2;have s66:=F.p 3 66;have s67:=F.v 4 67;obtain ⟨P1,i1,k1,P2,i2,k2,ee,v1,v2⟩:=Aq s66;simp only [Array.getD_eq_getD_getElem?] at ee;have hdr:=SetJ.first fj F.yet;obtain ⟨_,_,_,_,_,_,n0,n1,n2,n3,n4,n5,-⟩:=hdr.at (i:=ka) (a:=rzI) (by simp [hka]);have m0:=hdr.free (ka*6);have m1:=hdr.free (ka*6+1);have m2:=hdr.free (ka*6+2);have m3:=hdr.free (ka*6+3);have m4:=hdr.free (ka*6+4);have m5:=hdr.free (ka*6+5);have hset:=hdr.set (i:=ka) (by simp [hka]) (show IvR wF (.agg #[_,_,_,_,_,_]) (pt d1).raw from ⟨_,_,_,_,_,_,rfl,v1,v2⟩);exact B8 (w':=T7 wF bd (ka*6) _ _ _ _ _ _) (by simp [Region.wanted]) (by go_simp;rfl) ⟨FK.trans hset.2 (by simp),SetJ.last (by rw [HR.out];exact hset.1)⟩ (By _ ⟨vR,vR,vR,.inr (fun u h=>by exact h.kb hset.2),vR,.inl rfl,trivial⟩) trivial),
        trivial⟩) ?_
     intro u wx L1 hL j1 hu;obtain ⟨q,j1⟩:=j1;have p66:=hp hu 3;simp only [Ax,Al,if_true,Act.put,zlA,zlB,zlC,zlD,zlE,zlF,zlG,hv hu 0,hv hu 1,hv hu 2,hv hu 4];clear hu;generalize u 3=v66 at *;have hDX:=SetJ.done j1 (hL 5 (by decide));have HDX:=hid hDX;have HAX:=hid (HA4.out.kb q NALL (by intro x hx;simp at hx;subst hx;right;omega));have HCX:=hid (q.cell HC4.out NALL);have HWX:=hid (show Wk wx bw pn 0 from q.blk HW4.out NBW);have KX:=hid (KB.kept K4.out q (by intro x hx;simp at hx;subst hx;omega));clear j1 hL p66 hDX q SP;go_simp;go_wp2_with fail;go_roundw
     case rel =>
      obtain ⟨e1,e2,e3⟩:=REND.out r _ _ HDER.out HRLN.out HRC.out HDX.out HAX.out (by have:=HDX.out.lt;have:=HBD.out;have:=HB14.out;omega) HCX.out;exact ⟨k+1,rows++[r],by omega,by go_num,e1,by simp [HLEN.out],e2,e3,HWX.out,KX.out⟩
     case measure=>simp only [intOf];omega
    have n1:¬op=1:=fun h=>hA (.inl h)
    have n2:¬op=2:=fun h=>hA (.inr (.inl h))
    have n4:¬op=4:=fun h=>hA (.inr (.inr (.inl h)))
    have n5:¬op=5:=fun h=>hA (.inr (.inr (.inr h)))
    obtain ⟨ha1,ha2,hb1,hb2,-,-⟩:=Af8 HML.out n1 n2 h3 n4 n5;obtain ⟨ka,rfl⟩:∃ ka:Nat,a=(ka:Int):=⟨a.toNat,by omega⟩;obtain ⟨kb,rfl⟩:∃ kb:Nat,b=(kb:Int):=⟨b.toNat,by omega⟩;have hka:ka<k:=by omega
    have hkb:kb<k:=by omega
    have hkan:ka<nv:=by omega
    have hkbn:kb<nv:=by omega
    obtain ⟨da,hda⟩:∃ r,rows[ka]?=some r:=⟨_,List.getElem?_eq_getElem (by have:=HLEN.out;omega)⟩;obtain ⟨db,hdb⟩:∃ r,rows[kb]?=some r:=⟨_,List.getElem?_eq_getElem (by have:=HLEN.out;omega)⟩;obtain ⟨sa,hsa,isa,fsa,lsa⟩:=HA4.out.at hda;obtain ⟨sb,hsb,isb,fsb,lsb⟩:=HA4.out.at hdb;obtain ⟨lda,cda⟩:=HRL.out da (List.mem_of_getElem? hda);obtain ⟨ldb,cdb⟩:=HRL.out db (List.mem_of_getElem? hdb);have hder:Cx pn nx T.v rows ⟨op,ka,kb,kk⟩=Hc pn op (atI T.v ka) (atI T.v kb) (atI T.v k) da db 0:=by
     unfold Cx;simp only [if_neg hA,if_neg h3,Int.toNat_natCast,HLEN.out];rw [List.getD_eq_getElem?_getD,List.getD_eq_getElem?_getD,hda,hdb];rfl
    have HDER:=hid hder;have t1:(op==1)=false:=by simp [n1]
    have t2:(op==2)=false:=by simp [n2]
    have t3:(op==3)=false:=by simp [h3]
    have t4:(op==4)=false:=by simp [n4]
    have t5:(op==5)=false:=by simp [n5]
    have ISA:=hid isa;have ISB:=hid isb;have FSA:=hid (And.intro fsa lsa);have FSB:=hid (And.intro fsb lsb);obtain ⟨Aa,ca,rfl,-,-⟩:=isa;obtain ⟨Ab,cb,rfl,-,-⟩:=isb;rw [lda] at hsa ISA FSA;rw [ldb] at hsb ISB FSB;obtain ⟨bV,oV,ea,rfl,-,hea,hata⟩:=HVS.out.at (show ka<T.v.length by have:=HNV.out;omega);obtain ⟨bV',oV',eb,eqv,-,heb,hatb⟩:=HVS.out.at (show kb<T.v.length by have:=HNV.out;omega);injection eqv with eqv
    injection eqv with q1 q2
    subst q1;subst q2;obtain ⟨bV',oV',ec,eqv,-,hec,hatc⟩:=HVS.out.at (show k<T.v.length by have:=HNV.out;omega);injection eqv with eqv
    injection eqv with q1 q2
    subst q1;subst q2;have at1:atI T.v ka=ea.iv:=by unfold atI;rw [Int.toNat_natCast,List.getD_eq_getElem?_getD,hea,Option.getD_some]
    have at2:atI T.v kb=eb.iv:=by unfold atI;rw [Int.toNat_natCast,List.getD_eq_getElem?_getD,heb,Option.getD_some]
    have at3:atI T.v k=ec.iv:=by unfold atI;rw [Int.toNat_natCast,List.getD_eq_getElem?_getD,hec,Option.getD_some]
    rw [at1,at2,at3] at HDER;obtain ⟨oka,rwa'⟩:=VCL.out ea (List.mem_of_getElem? hea);obtain ⟨okb,rwb'⟩:=VCL.out eb (List.mem_of_getElem? heb);obtain ⟨okc,rwc'⟩:=VCL.out ec (List.mem_of_getElem? hec);obtain ⟨p0,p1',p2',p3,p4,p5,s0,s1,s2,s3,s4,s5,hIa⟩:=hata.kept K4.out;obtain ⟨p0',p1'',p2'',p3',p4',p5',s0',s1',s2',s3',s4',s5',hIb⟩:=hatb.kept K4.out;obtain ⟨v0,v1,v2,v3,v4,v5,u0',u1',u2',u3',u4',u5',hIc⟩:=hatc.kept K4.out;obtain ⟨m0,-,-,-,-,-,lbV0,-⟩:=hata;have lbV:bV<w1.heap.size:=Am lbV0;have CA:=hid (show Cells6 W4 bV (oV+ka*6) p0 p1' p2' p3 p4 p5 from ⟨s0,s1,s2,s3,s4,s5⟩);have CB:=hid (show Cells6 W4 bV (oV+kb*6) p0' p1'' p2'' p3' p4' p5' from ⟨s0',s1',s2',s3',s4',s5'⟩)
    have CCC:=hid (show Cells6 W4 bV (oV+k*6) v0 v1 v2 v3 v4 v5 from ⟨u0',u1',u2',u3',u4',u5'⟩);have IA:=hid (show IvC W4 _ ea.iv from hIa.ivC rwa');have IB:=hid (show IvC W4 _ eb.iv from hIb.ivC rwb');have IC:=hid (show IvC W4 _ ec.iv from hIc.ivC rwc');have HSA:=hid hsa;have HSB:=hid hsb;have NB14:b14∉[bd,bw]:=by simp;omega
    have NBALL:ball∉[bd,bw]:=by simp;omega
    have NBV:bV∉[bd,bw]:=by simp;omega
    have NG2:0∉[bd,bw]:=by simp;omega
    have NDW:bd∉[bw]:=by simp;omega
    clear hatb hatc s0 s1 s2 s3 s4 s5 s0' s1' s2' s3' s4' s5' u0' u1' u2' u3' u4' u5' hIa hIb hIc hea heb hec at1 at2 at3 hsa hsb hder rwa' rwb' rwc' fsa lsa fsb lsb ha1 ha2 hb1 hb2 n1 n2 h3 n4 n5 hA HML lbV0;go_upto_region 18 with fail;go_wp2_with fail;clear r0 r1 r2 r3 r4 r5 r6 r7 r8 t1 t2 t3 t4 t5;have hnxb:nx≤1000000000:=by have:=LE.out;have:=HNX.out;unfold Mh at *;omega
    go_loopw [70] (fun t wx=>∃ (j:Nat) (l:List RawI) (e':Int),j≤nx∧t=.int .i64 j∧Hc pn op ea.iv eb.iv ec.iv (da.take j) (db.take j) 0=(l,e')∧l.length=j∧Cl l∧DRow wx bd (l++List.replicate (nx-j) rzI)∧Wk wx bw pn e'∧KB W4 [bd,bw] wx) (fun t _=>(nx-intOf t).toNat)
    case atStart=>exact ⟨0,[],0,Nat.zero_le _,rfl,rfl,rfl,(by intro x hx;cases hx),(by simpa using HD4.out),HW4.out,KB.refl _ _⟩
    case round =>
     obtain ⟨j,l,ej,hj,rfl,hrg,hlj,hcl,hdj,hwj,hkx⟩:=hrel;have HRG:=hid hrg;have HLJ:=hid hlj;have HCLJ:=hid hcl;have HDJ:=hid hdj;have HWJ:=hid hwj;have KX:=hid hkx;clear hrg hlj hcl hdj hwj hkx;by_cases hjn:j<nx
     ·have hXX:∀ x∈[bd,bw],x<ball+1∨b14≤x:=by intro x hx;simp at hx;omega
      obtain ⟨bA,oA,x,rfl,-,hx,hatx⟩:=(ISA.out.kb2 KX.out FSA.out.1 FSA.out.2 hXX).at (show j<da.length by omega);obtain ⟨bB,oB,y,rfl,-,hy,haty⟩:=(ISB.out.kb2 KX.out FSB.out.1 FSB.out.2 hXX).at (show j<db.length by omega);have hfa:=FSA.out.1 bA rfl;have hla:=FSA.out.2 bA rfl;have hfb:=FSB.out.1 bB rfl;have hlb:=FSB.out.2 bB rfl;have NA:bA∉[bd,bw]:=by simp;omega
      have NB:bB∉[bd,bw]:=by simp;omega
      obtain ⟨i0,i1,i2,i3,i4,i5,s0,s1,s2,s3,s4,s5,hIx⟩:=hatx;obtain ⟨j0,j1',j2,j3,j4,j5,s0',s1',s2',s3',s4',s5',hIy⟩:=haty;have CX:=hid (show Cells6 _ bA (oA+j*6) i0 i1 i2 i3 i4 i5 from ⟨s0,s1,s2,s3,s4,s5⟩);have CY:=hid (show Cells6 _ bB (oB+j*6) j0 j1' j2 j3 j4 j5 from ⟨s0',s1',s2',s3',s4',s5'⟩);obtain ⟨okx,rwx⟩:=cda x (List.mem_of_getElem? hx);obtain ⟨oky,rwy⟩:=cdb y (List.mem_of_getElem? hy);have IX:=hid (hIx.ivC rwx);have IY:=hid (hIy.ivC rwy);obtain ⟨o1,ho1⟩:∃ o,o=Hk pn op ea.iv eb.iv ec.iv x.iv y.iv ej:=⟨_,rfl⟩;have hok1:o1.v.Ok:=by rw [ho1];exact Ack oka okb okc okx oky p1 _
      have HO1:=hid ho1;have HOK1:=hid hok1;have OKS:=hid (And.intro oka (And.intro okb (And.intro okc (And.intro okx oky))));have CAx:=hid (CA.out.kb KX.out NBV);have CBx:=hid (CB.out.kb KX.out NBV);have CCx:=hid (CCC.out.kb KX.out NBV);have IAx:=hid (IA.out.kb KX.out);have IBx:=hid (IB.out.kb KX.out);have ICx:=hid (IC.out.kb KX.out);have HSAx:=hid (KX.out.cell HSA.out NBALL);have HSBx:=hid (KX.out.cell HSB.out NBALL);have HL4x:=hid (KX.out.blk HL4.out NB14);have HTx:=hid (hTb.kb KX.out NG2);have HX1:=hid hx;have HY1:=hid hy;clear s0 s1 s2 s3 s4 s5 s0' s1' s2' s3' s4' s5' hIx hIy rwx rwy ho1 hok1 okx oky hx hy hfa hla hfb hlb
      have HATJ:Hid ((l++List.replicate (nx-j) rzI)[j]?=some rzI):=hid (by rw [List.getElem?_append_right (by have:=HLJ.out;omega),HLJ.out,Nat.sub_self,List.getElem?_replicate,if_pos (by omega)]);have HLTJ:Hid (j<(l++List.replicate (nx-j) rzI).length):=hid (by have:=HLJ.out;rw [List.length_append,List.length_replicate];omega);go_upto_region 21 with fail
      refine rK 38 (fun i=>i==35||i==37) ([bd,bw]) (fun L w=>GrJ bd bw pn ej o1.k (l++List.replicate (nx-j) rzI) ((l++List.replicate (nx-j) rzI).set j o1.v.raw) (L 35) (L 37) w) ([(vE (.slice (some ⟨bd,0,none⟩) nx nx)),(vE (.int .i64 (j:Int))),(vP bw 0),(vP b14 0),(vE (.int .i64 op)),(vE (.slice (some ⟨bV,oV,none⟩) nv cv)),(vP b14 1),(vE (.int .i64 (ka:Int))),(vE (.pointer (some ⟨bV,oV+ka*6,none⟩))),(vE (.agg #[p0,p1',p2',p3,p4,p5])),(vE (.slice (some ⟨bV,oV,none⟩) nv cv)),(vP b14 2),(vE (.int .i64 (kb:Int))),(vE (.pointer (some ⟨bV,oV+kb*6,none⟩))),(vE (.agg #[p0',p1'',p2'',p3',p4',p5'])),(vE (.slice (some ⟨bV,oV,none⟩) nv cv)),(vE (.int .i64 (k:Int))),(vE (.pointer (some ⟨bV,oV+k*6,none⟩))),(vE (.agg #[v0,v1,v2,v3,v4,v5])),(vE (.slice (some ⟨ball,0,none⟩) nv nv)),(vP b14 1),(vE (.int .i64 (ka:Int))),(vE (.pointer (some ⟨ball,ka,none⟩))),(vE (.slice (some ⟨bA,oA,none⟩) nx ca)),(vE (.int .i64 (j:Int))),(vE (.pointer (some ⟨bA,oA+j*6,none⟩))),(vE (.agg #[i0,i1,i2,i3,i4,i5])),(vE (.slice (some ⟨ball,0,none⟩) nv nv)),(vP b14 2),(vE (.int .i64 (kb:Int))),(vE (.pointer (some ⟨ball,kb,none⟩))),(vE (.slice (some ⟨bB,oB,none⟩) nx cb)),(vE (.int .i64 (j:Int))),(vE (.pointer (some ⟨bB,oB+j*6,none⟩))),(vE (.agg #[j0,j1',j2,j3,j4,j5])),(fun v wv=>IvR wv v o1.v.raw),(vE (.pointer (some ⟨bd,j*6,none⟩))),(fun v _=>True)])
       (fun i hE L w w' kq fj=>by simp only [I5 hE 35,I5 hE 37];exact GrJ.kept kq fj) ((by exact ⟨HDJ.out,HWJ.out⟩)) (by exact ⟨
         (kq 15),(kq 16),(kq 11),(kq 14),(kvl 3 76 fun _ k=>Ct HL4x.out k NB14 0 _ rfl),(kq 9),(kq 14),(kvl 6 79 fun _ k=>Ct HL4x.out k NB14 1 _ rfl),(kvv 5 78 7 80),(kp fun _ aF wF F=>by have FK:=F.frame.1;have s81:=F.v 8 81;exact sw (by (obtain ⟨n0,n1,n2,n3,n4,n5⟩:=CAx.out.kb FK NBV;go_simp)) rfl),(kq 9),(kq 14),(kvl 11 84 fun _ k=>Ct HL4x.out k NB14 2 _ rfl),(kvv 10 83 12 85),(kp fun _ aF wF F=>by have FK:=F.frame.1;have s86:=F.v 13 86;exact sw (by (obtain ⟨n0,n1,n2,n3,n4,n5⟩:=CBx.out.kb FK NBV;go_simp)) rfl),(kq 9),(kq 13),(kvv 15 88 16 89),(kp fun _ aF wF F=>by have FK:=F.frame.1;have s90:=F.v 17 90;exact sw (by (obtain ⟨n0,n1,n2,n3,n4,n5⟩:=CCx.out.kb FK NBV;go_simp)) rfl),(kq 12),(kq 14),(kvl 20 93 fun _ k=>Ct HL4x.out k NB14 1 _ rfl),(kvv 19 92 21 94),(kp fun _ aF wF F=>by have FK:=F.frame.1;have s95:=F.v 22 95;exact sw (by (have n0:=FK.cell HSAx.out NBALL;go_simp)) rfl),(kq 16),(kvv 23 96 24 97),(kp fun _ aF wF F=>by have FK:=F.frame.1;have s98:=F.v 25 98;exact sw (by (obtain ⟨n0,n1,n2,n3,n4,n5⟩:=CX.out.kb FK NA;go_simp)) rfl),(kq 12),(kq 14),(kvl 28 101 fun _ k=>Ct HL4x.out k NB14 2 _ rfl),(kvv 27 100 29 102),(kp fun _ aF wF F=>by have FK:=F.frame.1;have s103:=F.v 30 103;exact sw (by (have n0:=FK.cell HSBx.out NBALL;go_simp)) rfl),(kq 16),(kvv 31 104 32 105),(kp fun _ aF wF F=>by have FK:=F.frame.1;have s106:=F.v 33 106;exact sw (by (obtain ⟨n0,n1,n2,n3,n4,n5⟩:=CY.out.kb FK NB;go_simp)) rfl),(.inr fun LF aF wF F=>by have FK:=F.frame.1;have fj:=F.frame.2;have s75:=F.v 2 75;have s77:=F.v 4 77;have s82:=F.v 9 82;have s87:=F.v 14 87;have s91:=F.v 18 91;have s99:=F.v 26 99;have s107:=F.v 34 107;have fw:=GrJ.wk fj F.yet;have DD:=Ang (op:=op) fw (IAx.out.kb FK) (IBx.out.kb FK) (ICx.out.kb FK) (IX.out.kb FK) (IY.out.kb FK) OKS.out.1 OKS.out.2.1 OKS.out.2.2.1 OKS.out.2.2.2.1 OKS.out.2.2.2.2 (HTx.out.kb FK NG2) p1 (by omega) OPS.out (DER.out _ (List.mem_of_getElem? HLK.out));rw [←HO1.out] at DD;exact E8 (by simp [Region.wanted]) (by go_simp) DD (fun e1 w1' he=>by obtain ⟨kb',hwk,u,rfl,hv⟩:=he;exact ⟨u,rfl,⟨⟨FK.trans kb' (by simp),GrJ.did NDW fj kb' hwk⟩,(By _ ⟨vR,vR,vR,vR,vR,vR,vR,vR,vR,vR,vR,vR,vR,vR,vR,vR,vR,vR,vR,vR,vR,vR,vR,vR,vR,vR,vR,vR,vR,vR,vR,vR,vR,vR,vR,.inl rfl,vR,.inr fun u h=>h,trivial⟩)⟩,hv⟩)),(kvv 0 73 1 74),(.inr fun LF aF wF F=>by have FK:=F.frame.1;have fj:=F.frame.2;have s108:=F.p 35 108;have s109:=F.v 36 109;obtain ⟨P1,t1,k1,P2,t2,k2,ee,v1',v2'⟩:=Aq s108;simp only [Array.getD_eq_getD_getElem?] at ee;have hdr:=GrJ.row fj F.yet;obtain ⟨_,_,_,_,_,_,n0,n1,n2,n3,n4,n5,-⟩:=hdr.at HATJ.out;have m0:=hdr.free (j*6);have m1:=hdr.free (j*6+1);have m2:=hdr.free (j*6+2);have m3:=hdr.free (j*6+3);have m4:=hdr.free (j*6+4);have m5:=hdr.free (j*6+5);have hset:=hdr.set HLTJ.out (show IvR wF (.agg #[_,_,_,_,_,_]) o1.v.raw from ⟨_,_,_,_,_,_,rfl,v1',v2'⟩);exact B8 (w':=T7 wF bd (j*6) _ _ _ _ _ _) (by simp [Region.wanted]) (by go_simp;rfl) ⟨FK.trans hset.2 (by simp),GrJ.laid NBW fj hset.2 hset.1⟩ (By _ ⟨vR,vR,vR,vR,vR,vR,vR,vR,vR,vR,vR,vR,vR,vR,vR,vR,vR,vR,vR,vR,vR,vR,vR,vR,vR,vR,vR,vR,vR,vR,vR,vR,vR,vR,vR,.inr (fun u h=>by exact h.kb hset.2),vR,.inl rfl,trivial⟩) trivial),
         trivial⟩) ?_
      intro u wy L1 hL j1 hu;obtain ⟨q,j1⟩:=j1;have p108:=hp hu 35;simp only [Ax,Al,if_true,Act.put,zlA,zlB,zlC,zlD,zlE,zlF,zlG,hv hu 0,hv hu 1,hv hu 2,hv hu 3,hv hu 4,hv hu 5,hv hu 6,hv hu 7,hv hu 8,hv hu 9,hv hu 10,hv hu 11,hv hu 12,hv hu 13,hv hu 14,hv hu 15,hv hu 16,hv hu 17,hv hu 18,hv hu 19,hv hu 20,hv hu 21,hv hu 22,hv hu 23,hv hu 24,hv hu 25,hv hu 26,hv hu 27,hv hu 28,hv hu 29,hv hu 30,hv hu 31,hv hu 32,hv hu 33,hv hu 34,hv hu 36];clear hu;generalize u 35=v108 at *;obtain ⟨hDX,hWX⟩:=GrJ.done j1 (hL 35 (by decide)) (hL 37 (by decide));rw [Ag3 HLJ.out hjn] at hDX;have HDX:=hid hDX
      have HWX:=hid hWX;have KY:=hid (KX.out.trans q (fun y hy=>.inl hy));clear j1 hL p108 hDX hWX q;go_simp;go_wp2_with fail;go_roundw
      case rel =>
       refine ⟨j+1,l++[o1.v.raw],o1.k,by omega,by go_num,?_,by simp [HLJ.out],HCLJ.out.snoc HOK1.out,HDX.out,HWX.out,KY.out⟩;rw [List.take_add_one,List.take_add_one,HX1.out,HY1.out];have hs:=U7 pn op ea.iv eb.iv ec.iv x y (da.take j) (db.take j) 0 (by rw [List.length_take,List.length_take,lda,ldb]);rw [HRG.out] at hs;simp only at hs;rw [←HO1.out] at hs;exact hs
      case measure=>simp only [intOf];omega
     ·obtain rfl:nx=j:=by omega
      have hfull:Hc pn op ea.iv eb.iv ec.iv da db 0=(l,ej):=by
       have:=HRG.out;rwa [List.take_of_length_le (by omega),List.take_of_length_le (by omega)] at this
      have hdl:=HDJ.out;rw [Nat.sub_self,List.replicate_zero,List.append_nil] at hdl;have HDX:=hid hdl;have HFULL:=hid (HDER.out.trans hfull);obtain ⟨w0,w1'⟩:=E4 HWJ.out;have hXX:∀ x∈[bd,bw],x<ball+1∨b14≤x:=by intro x hx;simp at hx;omega
      clear hfull hdl;by_cases hej:ej=0
      ·subst hej;obtain ⟨r,hr⟩:∃ r,r=l:=⟨_,rfl⟩;subst hr;have HDER':=HDER;clear HDER;have HDER:Hid (Cx pn nx T.v rows ⟨op,ka,kb,kk⟩=(r,0)):=HFULL;have HRLN:=HLJ;have HRC:=HCLJ;have HAX:=hid (HA4.out.kb KX.out NBALL hXX);have HCX:=hid (KX.out.cell HC4.out NBALL);have KXX:=hid (KB.kept K4.out KX.out (by intro x hx;simp at hx;omega));go_wp2_with fail;go_roundw
       case rel =>
        obtain ⟨e1,e2,e3⟩:=REND.out r _ _ HDER.out HRLN.out HRC.out HDX.out HAX.out (by have:=HDX.out.lt;have:=HBD.out;have:=HB14.out;omega) HCX.out;exact ⟨k+1,rows++[r],by omega,by go_num,e1,by simp [HLEN.out],e2,e3,HWJ.out,KXX.out⟩
       case measure=>simp only [intOf];omega
      ·have gej:(ej != 0)=true:=by simp [hej]
       have e1:G=⟨([],[]),ej⟩:=by
        have hsn:=Oj pn nx T.v (ls.take k) [] rows ⟨op,ka,kb,kk⟩ HROW.out;rw [HFULL.out,if_neg hej] at hsn;have hall:Da pn nx T.v [] ls=⟨[],ej⟩:=by
         conv=>lhs;rw [←List.take_append_drop (k+1) ls]
         rw [List.take_add_one,HLK.out]
         show Da pn nx T.v [] (ls.take k++[⟨op,ka,kb,kk⟩]++_)=_
         rw [Up pn nx T.v _ _ _ (by rw [hsn];exact hej),hsn]
        rw [←HGI.out];unfold Gc;rw [HTI.out,if_neg (by rw [HK.out];decide),Int.toNat_natCast,HNX.out,hall,if_pos hej]
       have KXX:=hid (KB.kept K4.out KX.out (by intro x hx;simp at hx;omega));go_wp2_with fail;go_region;go_wp2_with fail
       go_ret3
       subst e1;exact ⟨(K1.out.trans KXX.out).drew,_,_,rfl,Hi _,U8 _⟩
   ·obtain rfl:nv=k:=by omega
    have hfull:Da pn nx T.v [] ls=⟨rows,0⟩:=by
     have:=HROW.out;rwa [List.take_of_length_le (by have:=HN.out;omega)] at this
    have e1:G=⟨(outs.map fun n=>T.v.getD n.toNat rzI,outs.map fun n=>rows.getD n.toNat []),0⟩:=by
     rw [←HGI.out];unfold Gc;rw [HTI.out,if_neg (by rw [HK.out];decide),Int.toNat_natCast,HNX.out,hfull,if_neg (by simp)]
    have HE1:=hid e1;obtain ⟨t0,t1⟩:=E4 (Bk HB1.out KR.out);clear hfull e1;generalize hmo:outs.length=mo at *;have HMO:=hid hmo;have hmo2:mo≤200:=by have:=O200.out;omega
    clear hmo;obtain ⟨BB,hBB⟩:∃ BB,BB=wr.heap.size:=⟨_,rfl⟩;have HBB:=hid hBB;clear hBB;go_upto_region 29 with fail;clear t0 t1;obtain ⟨V1,hV1⟩:∃ V1,V1=wr:=⟨wr,rfl⟩;subst hV1
    go_loopw [17,18,124] (fun v17 v18 ti wz=>∃ (i:Nat) (xs ys:List Value),i≤mo∧ti=.int .i64 (i:Int)∧OwnI wz BB v17 ((outs.take i).map fun n=>T.v.getD n.toNat rzI) xs∧(i=0→v17=.slice none 0 0) ∧
     OwnR wz BB v18 ((outs.take i).map fun n=>rows.getD n.toNat []) ys∧(∀ s∈ys,∀ g,s.ownBlock=some g→v17.ownBlock≠some g∧g<wz.heap.size)∧Kept V1 wz) (fun _ _ ti _=>(mo-intOf ti).toNat)
    case atStart=>exact ⟨0,[],[],Nat.zero_le _,rfl,OwnI.nil _ _,fun _=>rfl,OwnR.nil _ _,(by intro s hs;cases hs),Below.refl _ _⟩
    case round =>
     obtain ⟨i,xs,ys,hi,rfl,hoi,hnil,hor,hap,hkz⟩:=hrel;have HOI:=hid hoi;have HOR:=hid hor;have HNIL:=hid hnil;have HAP:=hid hap;have KZ:=hid hkz;clear hoi hor hnil hap hkz;by_cases hin:i<mo
     ·obtain ⟨z,hz⟩:∃ z,outs[i]?=some z:=⟨_,List.getElem?_eq_getElem (by have:=HMO.out;omega)⟩;obtain ⟨z0,z1⟩:=HOO.out z (List.mem_of_getElem? hz);obtain ⟨ko,rfl⟩:∃ ko:Nat,z=(ko:Int):=⟨z.toNat,by omega⟩;have hko:ko<nv:=by have:=HN.out;omega
      obtain ⟨row,hrw⟩:∃ r,rows[ko]?=some r:=⟨_,List.getElem?_eq_getElem (by have:=HLEN.out;omega)⟩;obtain ⟨sr,hsr,isr,fsr,lsr⟩:=HALR.out.at hrw;obtain ⟨hrn,-⟩:=HRL.out row (List.mem_of_getElem? hrw);obtain ⟨bV,oV,ea,rfl,-,hea,hata⟩:=HVS.out.at (show ko<T.v.length by have:=HNV.out;omega);obtain ⟨p0,p1',p2',p3,p4,p5,s0,s1,s2,s3,s4,s5,hIa⟩:=hata.kept (KR.out.trans KZ.out);have CA:=hid (show Cells6 wr bV (oV+ko*6) p0 p1' p2' p3 p4 p5 from ⟨s0,s1,s2,s3,s4,s5⟩);have IA:=hid hIa;have hBZ:=HBB.out;have hVB:bV<V1.heap.size:=by obtain ⟨_,_,_,_,_,_,a0,-⟩:=hata.kept KR.out;exact Am a0
      have HSR:=hid ((KZ.out.cell (p:=⟨ball,ko,none⟩) (Am hsr)).trans hsr);have ISR:=hid (isr.kept KZ.out);have LSR:=hid lsr;have HRN:=hid (show row.length≤1000000000 by have:=LE.out.2.2.2.2.1;have:=HNX.out;omega);have B17:=hid (fun g hg=>HOI.out.base g hg);have B18:=hid (fun g hg=>HOR.out.base g hg);have L17:=hid (fun g hg=>HOI.out.blt g hg);have L18:=hid (fun g hg=>HOR.out.blt g hg);have NX:∀ g,g<BB→g∉Em u17++Em u18:=by
       intro g hg hm;rcases List.mem_append.1 hm with hm | hm
       ·have:=B17.out g (Kv.1 hm);omega
       ·have:=B18.out g (Kv.1 hm);omega
      have NBALL:ball∉Em u17++Em u18:=NX _ (by have h9:ball<V1.heap.size:=Am hsr;omega);have NBV:bV∉Em u17++Em u18:=NX _ (by omega);have NSR:Zs sr (Em u17++Em u18):=fun g hg=>NX g (by have:=LSR.out g hg;omega)
      have NS:=hid NSR;have SZ:=hid (show BB≤wr.heap.size by have:=KZ.out.size;omega);have AP:=hid (fun s hs g hg=>(HAP.out s hs g hg).1);have EA:=hid (show T.v.getD (ko:Int).toNat rzI=ea by rw [Int.toNat_natCast,List.getD_eq_getElem?_getD,hea];rfl);have ER:=hid (show rows.getD (ko:Int).toNat []=row by rw [Int.toNat_natCast,List.getD_eq_getElem?_getD,hrw];rfl);have HZ:=hid (show outs.take (i+1)=outs.take i++[(ko:Int)] by rw [List.take_add_one,hz];rfl);obtain ⟨l17,h17⟩:∃ l,l=(outs.take i).map fun n=>T.v.getD n.toNat rzI:=⟨_,rfl⟩
      obtain ⟨l18,h18⟩:∃ l,l=(outs.take i).map fun n=>rows.getD n.toNat []:=⟨_,rfl⟩
      rw [←h17] at HOI;rw [←h18] at HOR;have L9:=hid (show l17.length≤1000∧l18.length≤1000 by rw [h17,h18,List.length_map,List.length_map,List.length_take];have:=O200.out;have:=HMO.out;omega);have LN17:=hid (show l17=[]→u17=.slice none 0 0 from fun h=>HNIL.out (by
       rw [h17] at h;have h2:=congrArg List.length h;rw [List.length_map,List.length_take] at h2;have:=HMO.out;simp only [List.length_nil] at h2;omega))
      have H17:=hid h17;have H18:=hid h18;obtain ⟨B',d',ed,-,hB⟩:=(HO.out.kept (K1.out.trans (KR.out.trans KZ.out)));injection ed with ed1 ed2 ed3
      subst ed1;obtain ⟨bo,oo',rfl,ho⟩:=hB (by have:=HMO.out;omega);have ho0:=ho i _ hz;clear hrw hea hata s0 s1 s2 s3 s4 s5 hIa hsr isr fsr lsr hrn ho hB ed2 ed3 z0 z1 hz h17 h18 NX hVB hBZ NSR;go_upto_region 31 with fail;clear ho0
      refine Wr (m:=15) (E:=fun i=>i==6||i==12||i==13||i==14) (G:=fun L u w'=>GrG BB wr.heap.size l18 ys row L u w') (J:=fun L w=>KB wr (Em u17++Em u18) w∧(fun L w=>GrA BB u17 u18 l17 l18 xs ys (L 6) (L 12) (L 13) (L 14) w) L w) (l:=[(vE u17),(vE (.slice (some ⟨bV,oV,none⟩) nv cv)),(vE (.int .i64 (ko:Int))),(vE (.pointer (some ⟨bV,oV+ko*6,none⟩))),(vE (.agg #[p0,p1',p2',p3,p4,p5])),(fun v wv=>GrO wr.heap.size p0 p1' p2' p3 p4 p5 v wv),(fun v wv=>GrI BB wr.heap.size u17 (l17++[ea]) v wv),(vE u18),(vE (.slice (some ⟨ball,0,none⟩) nv nv)),(vE (.int .i64 (ko:Int))),(vE (.pointer (some ⟨ball,ko,none⟩))),(vE sr),(fun v wv=>GrK wr.heap.size row v wv),(fun v _=>True),(fun v _=>True)])
       (by kernel_rfl) (fun i hE L u v w w' k h=>by exact GrG.keep hE k h) (by exact GrG.zero) rfl rfl rfl rfl rfl (by kernel_rfl) (by kernel_rfl) (by kernel_rfl) (by kernel_rfl) (by kernel_rfl) ⟨mE,mE,mE,mE,mE,fun v w w' k h=>h.kept k,fun v w w' k h=>h.kept k,mE,mE,mE,mE,mE,fun v w w' k h=>h.kept k,fun v w w' k h=>by first | exact h | exact h.kept k | exact ⟨h.1,h.2.kept k⟩,fun v w w' k h=>by first | exact h | exact h.kept k | exact ⟨h.1,h.2.kept k⟩,trivial⟩ ⟨(KB.refl _ _).drew,(by exact ⟨fun _=>HOI.out.kept (Below.refl _ _).drew,fun _=>HOR.out.kept (Below.refl _ _).drew,(fun e=>by cases e),(fun e=>by cases e)⟩)⟩ (⟨
         (.inl ⟨rfl,fun LF aF wF F=>by
       have FK:KB wr (Em u17++Em u18) wF:=F.frame.1;have fj:=F.frame.2;refine ⟨fun wq kq=>⟨FK.step kq,by exact GrA.kept kq fj⟩,?_⟩;have s17:=F.q 17 u17
       exact sv rfl⟩),
        (.inl ⟨rfl,fun LF aF wF F=>by
       have FK:KB wr (Em u17++Em u18) wF:=F.frame.1;have fj:=F.frame.2;refine ⟨fun wq kq=>⟨FK.step kq,by exact GrA.kept kq fj⟩,?_⟩;have s9:=F.q 9 (.slice (some ⟨bV,oV,none⟩) nv cv)
       exact sv rfl⟩),
        (.inl ⟨rfl,fun LF aF wF F=>by
       have FK:KB wr (Em u17++Em u18) wF:=F.frame.1;have fj:=F.frame.2;refine ⟨fun wq kq=>⟨FK.step kq,by exact GrA.kept kq fj⟩,?_⟩;have s20:=F.q 20 (.int .i64 (ko:Int))
       exact sv rfl⟩),
        (.inl ⟨rfl,fun LF aF wF F=>by
       have FK:KB wr (Em u17++Em u18) wF:=F.frame.1;have fj:=F.frame.2;refine ⟨fun wq kq=>⟨FK.step kq,by exact GrA.kept kq fj⟩,?_⟩;have s129:=F.v 1 129;have s130:=F.v 2 130
       exact sv rfl⟩),
        (.inl ⟨rfl,fun LF aF wF F=>by
       have FK:KB wr (Em u17++Em u18) wF:=F.frame.1;have fj:=F.frame.2;refine ⟨fun wq kq=>⟨FK.step kq,by exact GrA.kept kq fj⟩,?_⟩;have s131:=F.v 3 131
       exact Ar (by simp [Region.wanted]) (by (obtain ⟨n0,n1,n2,n3,n4,n5⟩:=CA.out.kb FK NBV;go_simp)) rfl⟩),
        (.inl ⟨rfl,fun LF aF wF F=>by
       have FK:KB wr (Em u17++Em u18) wF:=F.frame.1;have fj:=F.frame.2;refine ⟨fun wq kq=>⟨FK.step kq,by exact GrA.kept kq fj⟩,?_⟩;have s132:=F.v 4 132;simp only [Array.getD_eq_getD_getElem?] at s132
       exact sNa ⟨_,rfl,FK.size,Eo _ _ _ _ _ _ _⟩⟩),
        (.inr fun LF uF aF wF F FV=>by
       have FK:KB wr (Em u17++Em u18) wF:=F.frame.1;have fj:=F.frame.2;have s128:=F.v 0 128;have s133:=F.p 5 133
       obtain ⟨b3,e3,-,hb3⟩:=s133;have how:=GrA.iv fj F.yet;obtain ⟨v',w',g',hrr,hoo,hgg,-,hob,hwh,-⟩:=Ah7 31 how LN17.out L9.out.1 (Nat.le_trans SZ.out FK.size) hb3 (IA.out.kb FK);exact Ib (by simp [Region.wanted]) (Mm (.tmp 128) (.tmp 133) _ rfl s128 e3 hrr) ⟨FK.grown hgg (fun g hg=>.inl (List.mem_append_left _ (Kv.2 hg))) how.blk,GrA.at6 fj LN17.out F.yet hgg AP.out⟩ (By _ ⟨.inr vS,.inr vS,.inr vS,.inr vS,.inr vS,.inr (fun u h=>by first | exact h.app hgg L17.out | exact h.app hgg how.blk L17.out),.inl rfl,.inr vS,.inr vS,.inr vS,.inr vS,.inr vS,.inr (fun u h=>by first | exact h.app hgg L17.out | exact h.app hgg how.blk L17.out),.inr (fun u h=>h),.inr (fun u h=>h),trivial⟩) ⟨_,g',hoo,hob,hwh.imp id (fun h=>Nat.le_trans FK.size h)⟩ (GrG.put6 FV.g (fun h12=>FV.is 12 (by decide) h12) how LN17.out L17.out AP.out hgg hob hwh)),
        (.inl ⟨rfl,fun LF aF wF F=>by
       have FK:KB wr (Em u17++Em u18) wF:=F.frame.1;have fj:=F.frame.2;refine ⟨fun wq kq=>⟨FK.step kq,by exact GrA.kept kq fj⟩,?_⟩;have s18:=F.q 18 u18
       exact sv rfl⟩),
        (.inl ⟨rfl,fun LF aF wF F=>by
       have FK:KB wr (Em u17++Em u18) wF:=F.frame.1;have fj:=F.frame.2;refine ⟨fun wq kq=>⟨FK.step kq,by exact GrA.kept kq fj⟩,?_⟩;have s12:=F.q 12 (.slice (some ⟨ball,0,none⟩) nv nv)
       exact sv rfl⟩),
        (.inl ⟨rfl,fun LF aF wF F=>by
       have FK:KB wr (Em u17++Em u18) wF:=F.frame.1;have fj:=F.frame.2;refine ⟨fun wq kq=>⟨FK.step kq,by exact GrA.kept kq fj⟩,?_⟩;have s20:=F.q 20 (.int .i64 (ko:Int))
       exact sv rfl⟩),
        (.inl ⟨rfl,fun LF aF wF F=>by
       have FK:KB wr (Em u17++Em u18) wF:=F.frame.1;have fj:=F.frame.2;refine ⟨fun wq kq=>⟨FK.step kq,by exact GrA.kept kq fj⟩,?_⟩;have s136:=F.v 8 136;have s137:=F.v 9 137
       exact sv rfl⟩),
        (.inl ⟨rfl,fun LF aF wF F=>by
       have FK:KB wr (Em u17++Em u18) wF:=F.frame.1;have fj:=F.frame.2;refine ⟨fun wq kq=>⟨FK.step kq,by exact GrA.kept kq fj⟩,?_⟩;have s138:=F.v 10 138
       exact Ar (by simp [Region.wanted]) (by (have n0:=FK.cell HSR.out NBALL;go_simp)) rfl⟩),
        (.inr fun LF uF aF wF F FV=>by
       have FK:KB wr (Em u17++Em u18) wF:=F.frame.1;have fj:=F.frame.2;have s139:=F.v 11 139
       obtain ⟨v',w',hr,hk,hv,hf⟩:=Afb wF (ISR.out.kb FK NS.out) HRN.out 31;exact Ib (by simp [Region.wanted]) (Mm _ _ _ rfl rfl s139 hr) ⟨FK.step hk,GrA.at12 hk fj⟩ (By _ ⟨.inr vS,.inr vS,.inr vS,.inr vS,.inr vS,.inr (fun u h=>by exact h.kept hk),.inr (fun u h=>by exact h.kept hk),.inr vS,.inr vS,.inr vS,.inr vS,.inr vS,.inl rfl,.inr (fun u h=>h),.inr (fun u h=>h),trivial⟩) ⟨hv,fun g hg=>⟨Nat.le_trans FK.size (hf g hg).1,(hf g hg).2⟩⟩ (GrG.put12 (v17:=u17) (l17:=l17++[ea]) (GrA.no13 fj F.yet) (GrA.no14 fj (GrA.no13 fj F.yet)) (fun h6=>FV.is 6 (by decide) h6) (fun g hg=>(hf g hg).1))),
        (.inr fun LF uF aF wF F FV=>by
       have FK:KB wr (Em u17++Em u18) wF:=F.frame.1;have fj:=F.frame.2;have s140:=F.p 12 140
       obtain ⟨A9,c9,e9,-,-⟩:=s140.1;have e7:=(FV.eq 12 140 (by kernel_rfl) rfl).symm.trans e9;have h9:=s140;simp only [Array.getD_eq_getD_getElem?] at e9;exact Ib (by simp [Region.wanted]) (by first | (go_simp;done) | (go_simp;rfl)) ⟨FK.step (Ad _ _),GrA.at13 (Ad _ _) fj (F.wait 12 (by kernel_rfl))⟩ (By _ ⟨.inr vS,.inr vS,.inr vS,.inr vS,.inr vS,.inr (fun u h=>by exact h.kept (Ad _ _)),.inr (fun u h=>by exact h.kept (Ad _ _)),.inr vS,.inr vS,.inr vS,.inr vS,.inr vS,.inr (fun u h=>by exact h.kept (Ad _ _)),.inl rfl,.inr (fun u h=>h),trivial⟩) trivial (GrG.put13 FV.g (GrA.no14 fj F.yet) (Ad _ _) rfl FK.size ((Ae (heap_alloc_new _ _) 0 _ rfl).trans (congrArg some e7.symm)) (FV.is 12 (by decide) (F.wait 12 (by kernel_rfl))))),
        (.inr fun LF uF aF wF F FV=>by
       have FK:KB wr (Em u17++Em u18) wF:=F.frame.1;have fj:=F.frame.2;have s135:=F.v 7 135;have s141:=F.p 13 141
       obtain ⟨b',e',hb',hc',hk'⟩:=FV.g.2.1 (F.wait 13 (by kernel_rfl));have e9:=(FV.eq 13 141 (by kernel_rfl) rfl).trans e';have how:=GrA.rw fj F.yet;obtain ⟨v',w',g',hrr,hoo,hgg,-⟩:=Ak1 38 how L9.out.2 (Nat.le_trans SZ.out FK.size) hc' hk'.1;exact Ib (by simp [Region.wanted]) (Mm (.tmp 135) (.tmp 141) _ rfl s135 e9 hrr) ⟨FK.grown hgg (fun g hg=>.inl (List.mem_append_right _ (Kv.2 hg))) (fun g e=>(how.blk g e).nol),GrA.at14 fj LN17.out F.yet (F.wait 13 (by kernel_rfl)) hgg⟩ (By _ ⟨.inr vS,.inr vS,.inr vS,.inr vS,.inr vS,.inr (fun u h=>by first | exact h.app hgg L18.out | exact h.app hgg (fun g e=>(how.blk g e).nol) L18.out | exact h.app (by simp) hgg how.blk),.inr (fun u h=>by first | exact h.app hgg L18.out | exact h.app hgg (fun g e=>(how.blk g e).nol) L18.out | exact h.app (by simp) hgg how.blk),.inr vS,.inr vS,.inr vS,.inr vS,.inr vS,.inr (fun u h=>by first | exact h.app hgg L18.out | exact h.app hgg (fun g e=>(how.blk g e).nol) L18.out | exact h.app (by simp) hgg how.blk),.inr (fun u h=>h),.inl rfl,trivial⟩) trivial (GrG.put14 FV.g (F.wait 13 (by kernel_rfl)) how L18.out hgg hoo)),
        trivial⟩) ?_
      intro u wy L1 hL j1 hu hg;obtain ⟨hg1,hg2,hg3⟩:=hg;obtain ⟨q,j1⟩:=j1;have p133:=hp hu 5;have p134:=hp hu 6;have p140:=hp hu 12;have p141:=hp hu 13;have p142:=hp hu 14;simp only [Ax,Al,if_true,Act.put,zlA,zlB,zlC,zlD,zlE,zlF,zlG,hv hu 0,hv hu 1,hv hu 2,hv hu 3,hv hu 4,hv hu 7,hv hu 8,hv hu 9,hv hu 10,hv hu 11];clear hu;generalize u 5=v133,u 6=v134,u 12=v140,u 13=v141,u 14=v142 at *;have g1:=hg1 (hL 6 (by decide)) (hL 12 (by decide));obtain ⟨g3,-⟩:=hg3 (hL 14 (by decide));obtain ⟨xs',g',o1,o2,o3⟩:=(show GrI BB wr.heap.size u17 (l17++[ea]) v134 wy from p134);obtain ⟨-,k2⟩:=(show GrK wr.heap.size row v140 wy from p140)
      have ap':∀ s∈ys++[v140],∀ g,s.ownBlock=some g→v134.ownBlock≠some g∧g<wy.heap.size:=by
       intro s hs g hgg;rcases List.mem_append.1 hs with hs | hs
       ·obtain ⟨a1,a2⟩:=HAP.out s hs g hgg;refine ⟨fun e=>?_,Nat.lt_of_lt_of_le a2 q.size⟩;rw [o2] at e;injection e with e
        subst e;rcases o3 with o3 | o3
        ·exact a1 o3
        ·omega
       ·rw [List.mem_singleton.1 hs] at hgg;exact ⟨g1 g hgg,(k2 g hgg).2⟩
      have kf:Kept V1 wy:=KB.kept KZ.out q (fun x hx=>by
       rw [←HBB.out];rcases List.mem_append.1 hx with hx | hx
       ·exact B17.out x (Kv.1 hx)
       ·exact B18.out x (Kv.1 hx))
      have FIN:=hid (And.intro o1 (And.intro g3 (And.intro ap' kf)));clear g1 g3 o1 o2 o3 k2 ap' kf hg1 hg2 hg3 hL j1 q p133 p134 p140 p141 p142;go_simp;rename_i hKK;refine hKK _ _ ?_;go_wp2_with fail;go_roundw
      case rel =>
       obtain ⟨o1,g3,ap',kf⟩:=FIN.out;refine ⟨i+1,xs',ys++[v140],by omega,by go_num,?_,fun h=>absurd h (by omega),?_,ap',kf⟩
       ·rw [HZ.out,List.map_append,←H17.out,List.map_singleton,EA.out];exact o1
       ·rw [HZ.out,List.map_append,←H18.out,List.map_singleton,ER.out];exact g3
      case measure=>simp only [intOf];omega
     ·obtain rfl:mo=i:=by omega
      have e1:=HE1.out;have h1:=HOI.out.ivS;have h2:=HOR.out.rowsS;rw [List.take_of_length_le (by have:=HMO.out;omega)] at h1 h2;have FIN:=hid (And.intro e1 (And.intro h1 h2));clear e1 h1 h2 HOI HOR HE1 HAP;go_wp2_with fail
      go_ret3
      obtain ⟨e1,h1,h2⟩:=FIN.out;subst e1;exact ⟨(K1.out.trans KR.out).trans KZ.out,_,_,rfl,h1,h2⟩
 ·have gk:(T.k != 0)=true:=by simp [hk]
  have e1:G=⟨([],[]),T.k⟩:=by
   rw [←HGI.out];unfold Gc;rw [HTI.out,if_pos hk]
  go_wp2_with fail
  go_ret3
  subst e1;exact ⟨K1.out,_,_,rfl,Hi _,U8 _⟩
theorem Al0 {a b x y:Iv}(ha:a.Ok)(hb:b.Ok)(hy:y.Ok)(hn:1≤n)(w:Wth a x)(w':Wth b y)(h1:(opI op a b n).k=0)(h2:(opI op x y n).k=0):Wth (opI op a b n).v (opI op x y n).v:=by
 unfold opI at h1 h2 ⊢;by_cases c6:op=6
 ·simp only [if_pos c6] at h1 h2 ⊢;exact Sl hn (Nat.le_refl _) w.1 w.2 w'.1 w'.2 h1 h2
 by_cases c7:op=7
 ·simp only [if_neg c6,if_pos c7] at h1 h2 ⊢;exact Xx hn (Nat.le_refl _) w.1 w.2 w'.1 w'.2 h1 h2
 by_cases c8:op=8
 ·simp only [if_neg c6,if_neg c7,if_pos c8] at h1 h2 ⊢;exact Xv ha.le hb.le hn (Nat.le_refl _) w.1 w.2 w'.1 w'.2 h1 h2
 by_cases c9:op=9
 ·simp only [if_neg c6,if_neg c7,if_neg c8,if_pos c9] at h1 h2 ⊢;exact Xu ha hb hy hn (Nat.le_refl _) w w' h1 h2
 ·simp only [if_neg c6,if_neg c7,if_neg c8,if_neg c9] at h1 h2 ⊢;exact Xw hn (Nat.le_refl _) w h1 h2
theorem Di {a b:Iv}{p:Nat}(h:(doI op a b p e).k=0):e=0∧(opI op a b p).k=0∧(doI op a b p e).v=(opI op a b p).v:=by
 unfold doI at h ⊢;split at h
 ·rename_i h0;rw [if_pos h0];exact ⟨h0,h,rfl⟩
 ·rename_i h0;exact absurd h h0
theorem Gq {a b x y:Iv}(ha:a.Ok)(hb:b.Ok)(hy:y.Ok)(hn:1≤n)(w:Wth a x)(w':Wth b y){e':Int}(h1:(doI op a b n e).k=0)(h2:(doI op x y n e').k=0):Wth (doI op a b n e).v (doI op x y n e').v:=by
 obtain ⟨-,h1,e1⟩:=Di h1;obtain ⟨-,h2,e2⟩:=Di h2;rw [e1,e2];exact Al0 ha hb hy hn w w' h1 h2
theorem Agp {a b c da db x y z dx dy:Iv}(ha:a.Ok)(hb:b.Ok)(hc:c.Ok)(hda:da.Ok)(hdb:db.Ok)(hx:x.Ok)(hy:y.Ok)(hz:z.Ok)(hdx:dx.Ok)(hdy:dy.Ok)
 (wa:Wth a x) (wb:Wth b y) (wc:Wth c z) (wda:Wth da dx) (wdb:Wth db dy) {n:Nat} (hn:1≤n) {op e e':Int} (h1:(Hk n op a b c da db e).k=0) (h2:(Hk n op x y z dx dy e').k=0) :
 Wth (Hk n op a b c da db e).v (Hk n op x y z dx dy e').v∧e=0∧e'=0:=by
 unfold Hk at h1 h2 ⊢;by_cases c1:op=6∨op=7∨op=10
 ·simp only [if_pos c1] at h1 h2 ⊢;exact ⟨Gq hda hdb hdy hn wda wdb h1 h2,(Di h1).1,(Di h2).1⟩
 by_cases c8:op=8
 ·simp only [if_neg c1,if_pos c8] at h1 h2 ⊢;have h1':=(Di h1).1;have h2':=(Di h2).1;have h1'':=(Di h1').1;have h2'':=(Di h2').1;exact ⟨Gq (Dk hda hb hn _) (Dk ha hdb hn _) (Dk hx hdy hn _) hn (Gq hda hb hy hn wda wb h1'' h2'') (Gq ha hdb hdy hn wa wdb h1' h2') h1 h2,(Di h1'').1,(Di h2'').1⟩
 by_cases c9:op=9
 ·simp only [if_neg c1,if_neg c8,if_pos c9] at h1 h2 ⊢;have h1':=(Di h1).1;have h2':=(Di h2).1;have h1'':=(Di h1').1;have h2'':=(Di h2').1;exact ⟨Gq (Dk hda (Dk hc hdb hn _) hn _) hb hy hn (Gq hda (Dk hc hdb hn _) (Dk hz hdy hn _) hn wda (Gq hc hdb hdy hn wc wdb h1'' h2'') h1' h2') wb h1 h2,(Di h1'').1,(Di h2'').1⟩
 by_cases c11:op=11
 ·simp only [if_neg c1,if_neg c8,if_neg c9,if_pos c11] at h1 h2 ⊢;have h1':=(Di h1).1;have h2':=(Di h2).1;exact ⟨Gq (Dk J3 ha hn _) hda hdx hn (Gq J3 ha hx hn (Wth.refl _) wa h1' h2') wda h1 h2,(Di h1').1,(Di h2').1⟩
 by_cases c12:op=12
 ·simp only [if_neg c1,if_neg c8,if_neg c9,if_neg c11,if_pos c12] at h1 h2 ⊢;have h1':=(Di h1).1;have h2':=(Di h2).1;exact ⟨Gq hda (Dk J3 hc hn _) (Dk J3 hz hn _) hn wda (Gq J3 hc hz hn (Wth.refl _) wc h1' h2') h1 h2,(Di h1').1,(Di h2').1⟩
 by_cases c13:op=13
 ·simp only [if_neg c1,if_neg c8,if_neg c9,if_neg c11,if_neg c12,if_pos c13] at h1 h2 ⊢;exact ⟨Gq hc hda hdx hn wc wda h1 h2,(Di h1).1,(Di h2).1⟩
 ·simp only [if_neg c1,if_neg c8,if_neg c9,if_neg c11,if_neg c12,if_neg c13] at h1 h2 ⊢;exact ⟨Wth.refl _,h1,h2⟩
theorem LW.nat (h:LW l m)(k:Nat):Wth (l.getD k rzI).iv (m.getD k rzI).iv:=h.2 (k:Int)
theorem LW.of_nat (h1:l.length=m.length)(h:∀ k:Nat,Wth (l.getD k rzI).iv (m.getD k rzI).iv):LW l m:=⟨h1,fun n=>h n.toNat⟩
theorem LW.uncons {a b:RawI}(h:LW (a::l) (b::m)):Wth a.iv b.iv∧LW l m :=
 ⟨h.nat 0,.of_nat (by have:=h.1;simpa using this) fun k=>h.nat (k+1)⟩
theorem LW.cons {a b:RawI}(h:Wth a.iv b.iv)(h':LW l m):LW (a::l) (b::m) :=
 .of_nat (by simp [h'.1]) fun k=>match k with
  | 0=>h
  | k+1=>h'.nat k
theorem M0 {n:Nat}{op:Int}{a b c:Iv}:∀ (l m:List RawI) (e:Int),(Hc n op a b c l m e).2=0→e=0
 | [],_,e,h=>h
 | _::_,[],e,h=>h
 | da :: l, db :: m, e, h => by
   have h1:=M0 l m _ h;unfold Hk at h1;by_cases c1:op=6∨op=7∨op=10
   ·simp only [if_pos c1] at h1;exact (Di h1).1
   by_cases c8:op=8
   ·simp only [if_neg c1,if_pos c8] at h1;exact (Di (Di (Di h1).1).1).1
   by_cases c9:op=9
   ·simp only [if_neg c1,if_neg c8,if_pos c9] at h1;exact (Di (Di (Di h1).1).1).1
   by_cases c11:op=11
   ·simp only [if_neg c1,if_neg c8,if_neg c9,if_pos c11] at h1;exact (Di (Di h1).1).1
   by_cases c12:op=12
   ·simp only [if_neg c1,if_neg c8,if_neg c9,if_neg c11,if_pos c12] at h1;exact (Di (Di h1).1).1
   by_cases c13:op=13
   ·simp only [if_neg c1,if_neg c8,if_neg c9,if_neg c11,if_neg c12,if_pos c13] at h1;exact (Di h1).1
   ·simp only [if_neg c1,if_neg c8,if_neg c9,if_neg c11,if_neg c12,if_neg c13] at h1;exact h1
theorem Wt {n:Nat}{op:Int}{a b c:Iv}(ha:a.Ok)(hb:b.Ok)(hc:c.Ok)(hn:1≤n):∀ (l m:List RawI) (e:Int),Cl l→Cl m→Cl (Hc n op a b c l m e).1
 | [],_,_,_,_=>by intro x hx;simp [Hc] at hx
 | _::_,[],_,_,_=>by intro x hx;simp [Hc] at hx
 | da :: l, db :: m, e, hl, hm => by
   intro x hx;simp only [Hc,List.mem_cons] at hx;rcases hx with rfl | hx
   ·exact Vt (Ack ha hb hc (hl da (by simp)).1 (hm db (by simp)).1 hn e)
   ·exact Wt ha hb hc hn l m _ (fun y hy=>hl y (by simp [hy])) (fun y hy=>hm y (by simp [hy])) x hx
theorem Za {a b c x y z:Iv}(ha:a.Ok)(hb:b.Ok)(hc:c.Ok)(hx:x.Ok)(hy:y.Ok)(hz:z.Ok)(wa:Wth a x)(wb:Wth b y)(wc:Wth c z){n:Nat}(hn:1≤n){op:Int}:∀ (l m l' m':List RawI) (e e':Int),
 Cl l→Cl m→Cl l'→Cl m'→LW l l'→LW m m'→(Hc n op a b c l m e).2=0→(Hc n op x y z l' m' e').2=0→LW (Hc n op a b c l m e).1 (Hc n op x y z l' m' e').1
 | [],_,[],_,_,_,_,_,_,_,_,_,_,_=>LW.refl []
 | [],_,_::_,_,_,_,_,_,_,_,w,_,_,_=>by have:=w.1;simp at this
 | _::_,_,[],_,_,_,_,_,_,_,w,_,_,_=>by have:=w.1;simp at this
 | _::_,[],_::_,[],_,_,_,_,_,_,_,_,_,_=>LW.refl []
 | _::_,[],_::_,_::_,_,_,_,_,_,_,_,w,_,_=>by have:=w.1;simp at this
 | _::_,_::_,_::_,[],_,_,_,_,_,_,_,w,_,_=>by have:=w.1;simp at this
 | da :: l, db :: m, dx :: l', dy :: m', e, e', c1, c2, c3, c4, w1, w2, h1, h2 => by
   obtain ⟨wda,w1⟩:=w1.uncons;obtain ⟨wdb,w2⟩:=w2.uncons;have k1:=M0 _ _ _ (show (Hc n op a b c l m (Hk n op a b c da.iv db.iv e).k).2=0 from h1);have k2:=M0 _ _ _ (show (Hc n op x y z l' m' (Hk n op x y z dx.iv dy.iv e').k).2=0 from h2);have o:=Agp ha hb hc (c1 da (by simp)).1 (c2 db (by simp)).1 hx hy hz (c3 dx (by simp)).1 (c4 dy (by simp)).1 wa wb wc wda wdb hn k1 k2;simp only [Hc];refine LW.cons (by rw [Iv.raw_iv,Iv.raw_iv];exact o.1) ?_;exact Za ha hb hc hx hy hz wa wb wc hn l m l' m' _ _ (fun y hy=>c1 y (by simp [hy])) (fun y hy=>c2 y (by simp [hy])) (fun y hy=>c3 y (by simp [hy])) (fun y hy=>c4 y (by simp [hy])) w1 w2 h1 h2
def RW (a b:List (List RawI)):Prop:=a.length=b.length∧(∀ k:Nat,LW (a.getD k []) (b.getD k []))∧(∀ r∈a,Cl r)∧∀ r∈b,Cl r
theorem RW.nil:RW [] []:=⟨rfl,fun _=>LW.refl _,(fun _ h=>by cases h),fun _ h=>by cases h⟩
theorem Ij (h:∀ r∈a,Cl r)(k:Nat):Cl (a.getD k []):=by
 rw [List.getD_eq_getElem?_getD];cases hi:a[k]? with
 | none=>intro x hx;simp at hx
 | some r=>exact h r (List.mem_of_getElem? hi)
theorem RW.snoc {b:List (List RawI)}(h:RW a b)(w:LW x y)(cx:Cl x)(cy:Cl y):RW (a++[x]) (b++[y]):=by
 refine ⟨by simp [h.1],fun k=>?_,fun r hr=>?_,fun r hr=>?_⟩
 ·rw [List.getD_eq_getElem?_getD,List.getD_eq_getElem?_getD];by_cases h3:k<a.length
  ·rw [List.getElem?_append_left h3,List.getElem?_append_left (by rw [←h.1];exact h3)];have:=h.2.1 k;rwa [List.getD_eq_getElem?_getD,List.getD_eq_getElem?_getD] at this
  ·rw [List.getElem?_append_right (by omega),List.getElem?_append_right (by rw [←h.1];omega),←h.1];by_cases h4:k-a.length=0
   ·rw [h4];exact w
   ·rw [List.getElem?_eq_none (by simp;omega),List.getElem?_eq_none (by simp;omega)];exact LW.refl _
 ·rcases List.mem_append.1 hr with hr | hr
  ·exact h.2.2.1 r hr
  ·rw [List.mem_singleton.1 hr];exact cx
 ·rcases List.mem_append.1 hr with hr | hr
  ·exact h.2.2.2 r hr
  ·rw [List.mem_singleton.1 hr];exact cy
theorem Pq (n:Nat):Cl (List.replicate n rzI):=fun r hr=>P4 n r hr
theorem Zh (n k:Nat):Cl ((List.replicate n rzI).set k (pt d1).raw):=fun r hr=>by
 rcases List.mem_or_eq_of_mem_set hr with hr | rfl
 ·exact P4 n r hr
 ·exact Vt (Yn Hn)
theorem Aae {nx:Nat}(hn:1≤n)(hv:Cl v)(hv':Cl v')(wv:LW v v'){b:List (List RawI)}(w:RW a b){l:Ln}(h1:(Cx n nx v a l).2=0)(h2:(Cx n nx v' b l).2=0) :
 LW (Cx n nx v a l).1 (Cx n nx v' b l).1∧Cl (Cx n nx v a l).1∧Cl (Cx n nx v' b l).1:=by
 unfold Cx at h1 h2 ⊢;by_cases c1:l.op=1∨l.op=2∨l.op=4∨l.op=5
 ·simp only [if_pos c1];exact ⟨LW.refl _,Pq _,Pq _⟩
 by_cases c3:l.op=3
 ·simp only [if_neg c1,if_pos c3];exact ⟨LW.refl _,Zh _ _,Zh _ _⟩
 ·simp only [if_neg c1,if_neg c3] at h1 h2 ⊢
  exact ⟨Za (hv.at _) (hv.at _) (hv.at _) (hv'.at _) (hv'.at _) (hv'.at _) (wv.2 _) (wv.2 _) (by rw [w.1];exact wv.2 _) hn _ _ _ _ _ _ (Ij w.2.2.1 _) (Ij w.2.2.1 _) (Ij w.2.2.2 _) (Ij w.2.2.2 _) (w.2.1 _) (w.2.1 _) h1 h2,
   Wt (hv.at _) (hv.at _) (hv.at _) hn _ _ _ (Ij w.2.2.1 _) (Ij w.2.2.1 _),Wt (hv'.at _) (hv'.at _) (hv'.at _) hn _ _ _ (Ij w.2.2.2 _) (Ij w.2.2.2 _)⟩
theorem Ur {n nx:Nat}(hn:1≤n){v v':List RawI}(hv:Cl v)(hv':Cl v')(wv:LW v v'):∀ (ls:List Ln) (a b:List (List RawI)),RW a b→(Da n nx v a ls).k=0→(Da n nx v' b ls).k=0→RW (Da n nx v a ls).v (Da n nx v' b ls).v
 | [],_,_,w,_,_=>w
 | l :: ls, a, b, w, h1, h2 => by
   unfold Da at h1 h2 ⊢;by_cases k1:(Cx n nx v a l).2=0
   ·by_cases k2:(Cx n nx v' b l).2=0
    ·rw [if_pos k1] at h1 ⊢;rw [if_pos k2] at h2 ⊢;obtain ⟨q1,q2,q3⟩:=Aae hn hv hv' wv w k1 k2;exact Ur hn hv hv' wv ls _ _ (w.snoc q1 q2 q3) h1 h2
    ·rw [if_neg k2] at h2;exact absurd h2 k2
   ·rw [if_neg k1] at h1;exact absurd h1 k1
end Go.Proofs.YtabjjdicffcolaaGreatDoor
