/- Words and contracts, part 44. -/
import Derived.Test.YtabjjdicffcolaaGreatDoorClaimSevalp41
import Derived.Test.YtabjjdicffcolaaGreatDoorClaimSevalp43
set_option maxRecDepth 100000
set_option maxHeartbeats 0
namespace Go.Proofs.YtabjjdicffcolaaGreatDoor
open Go.Lib (hid)
open Go.RowKit
theorem Ak8 (op:Int):Afp SA op:=fun _ _=>trivial
theorem Aa9 {ov:Iv→Nat→Outc Iv}{ls:List Ln}{outs:List Int}{e:En}{p:Int}(h:(Cg ov ls outs e p).k≠0):Ho ov ls outs e p=⟨([],[]),(Cg ov ls outs e p).k⟩:=by
 unfold Ho;rw [if_pos h]
theorem Vw {ov:Iv→Nat→Outc Iv}{ls:List Ln}{outs:List Int}{e:En}{p:Nat}(h:(Cg ov ls outs e p).k=0):((Ho ov ls outs e p).k≠0∧(Ho ov ls outs e p).v=([],[])) ∨
 ((Ho ov ls outs e p).k=0∧(Dh p e.x.length (Cg ov ls outs e p).v [] ls).k=0∧(Ho ov ls outs e p).v=(outs.map fun n=>(Cg ov ls outs e p).v.getD n.toNat rzI,outs.map fun n=>(Dh p e.x.length (Cg ov ls outs e p).v [] ls).v.getD n.toNat [])):=by
 unfold Ho;rw [if_neg (by rw [h];decide),Int.toNat_natCast];by_cases hk:(Dh p e.x.length (Cg ov ls outs e p).v [] ls).k=0
 ·rw [if_neg (by rw [hk];decide)];exact .inr ⟨rfl,hk,rfl⟩
 ·rw [if_pos hk];exact .inl ⟨hk,rfl⟩
theorem Adk {ov:Iv→Nat→Outc Iv}{ls:List Ln}{outs:List Int}{e:En}{p:Nat}(h:(Cg ov ls outs e p).k=0)(hk:(Dh p e.x.length (Cg ov ls outs e p).v [] ls).k=0) :
 ∀ r∈outs.map fun n=>(Dh p e.x.length (Cg ov ls outs e p).v [] ls).v.getD n.toNat [],r.length=e.x.length:=by
 obtain ⟨⟨h1,h2,h3,-⟩,-,-⟩:=Nl h;have ho:=(Tb h3).2;unfold Iu at h3;simp only [Bool.and_eq_true] at h3;obtain ⟨q1,q2⟩:=S6 ls [] (fun j l hj=>by simpa using (Gv _ _ _ ls 0).1 h3.1.2 j l hj) (fun r hr=>by cases hr) hk;intro r hr;obtain ⟨n,hn,rfl⟩:=List.mem_map.1 hr;obtain ⟨n0,n1⟩:=ho n hn;rw [List.getD_eq_getElem?_getD,List.getElem?_eq_getElem (by rw [q1];simp;omega),Option.getD_some];exact q2 _ (List.getElem_mem _)
theorem Ahk {w:World}{vt ve:Value}{ls:List Ln}{outs:List Int}{e:En}{p:Int}(hv:TpR w vt ls outs)(he:EnR w ve e)(hok:Tr ls)(hn:ls.length≤1000000000000000)(hno:outs.length≤1000000000000000)(hle:Aci e)(hT:Tab w) :
 Calls Tryz.prog 4 #[vt,ve,.int .i64 p] w (RetK (.bool true) w):=by
 have T:=hid hT;have HTP:=hid hv;have HEN:=hid he;have OK:=hid hok;have FC:=hid (fun w1 (k:Kept w w1)=>Akn (hv.kept k) hn hno hok);have EC:=hid (fun w1 (k:Kept w w1)=>Ai4 (he.kept k) hle);obtain ⟨s,o,rfl,hls,hou⟩:=hv;obtain ⟨x0,x1,x2,x3,x4,x5,sx,su,sp,rfl,ht,hx,hu,hp⟩:=he;obtain ⟨A,c,rfl,hc,-⟩:=hls;obtain ⟨B,d,rfl,hd,-⟩:=hou;obtain ⟨AX,cx,rfl,-,-⟩:=hx;obtain ⟨AU,cu,rfl,-,-⟩:=hu;obtain ⟨AP,cp,rfl,-,-⟩:=hp;obtain ⟨W,hW,kW,hb,hb',lW⟩:=T0 w (.slice A ls.length c) (.slice B outs.length d) x0 x1 x2 x3 x4 x5 (.slice AX e.x.length cx) (.slice AU e.u.length cu) (.slice AP e.p.length cp);have HW:=hid hW
 have K:=hid kW;have HB:=hid hb;have HB':=hid hb';obtain ⟨c0,c1⟩:=Eb hb;obtain ⟨bf,hbf⟩:∃ b,Qv ls outs=b:=⟨_,rfl⟩;rw [hbf] at FC;obtain ⟨be,hbe⟩:∃ b,Add e=b:=⟨_,rfl⟩;rw [hbe] at EC;have HBF:=hid hbf;have HBE:=hid hbe;clear hT hok hn hno hle ht hW kW hb hb' hbf hbe;go_enter Tryz.func4,Tryz.ntmps4;go_upto_region 1 with fail;rw [←HW.out];go_wp2_with fail;refine (FC.out _ K.out).mono ?_;rintro ee w1 ⟨rfl,q⟩;simp only [];replace K:=hid (K.out.trans q);replace HB:=hid (Bl HB.out q);replace HB':=hid (Bl HB'.out q);clear q c0 c1 HW FC;obtain ⟨d0,d1,d2,d3,d4,d5,d6,d7,d8⟩:=Bn HB'.out
 cases bf
 ·go_wp2_with fail;refine (L8 (T.out.kept K.out)).mono ?_;rintro ee w2 ⟨rfl,q⟩;simp only [];go_wp2_with fail;go_ret;exact ⟨rfl,K.out.trans q⟩
 go_wp2_with fail;refine (EC.out _ K.out).mono ?_;rintro ee w2 ⟨rfl,q⟩;simp only [];replace K:=hid (K.out.trans q);replace HB:=hid (Bl HB.out q);replace HB':=hid (Bl HB'.out q);clear q d0 d1 d2 d3 d4 d5 d6 d7 d8 EC;cases be
 ·go_wp2_with fail;refine (L8 (T.out.kept K.out)).mono ?_;rintro ee w3 ⟨rfl,q⟩;simp only [];go_wp2_with fail;go_ret;exact ⟨rfl,K.out.trans q⟩
 obtain ⟨l40,o12,lk⟩:=Yc HBF.out;have LE:=hid (S0 HBE.out).1;have LX:=hid (S0 HBE.out).2.1;obtain ⟨n,hnb,n1,n2⟩:=Ajl p 8 73 (by decide) (by decide);have hnb':wrap64 (8+wrap64 ((IntKind.u64.wrap p).tmod 73))=(n:Int):=hnb;have GC:=hid (fun w1 (k:Kept w w1)=>Ye (ov:=ovI) (p:=(n:Int)) (HTP.out.kept k) (HEN.out.kept k) OK.out LE.out (by omega) (T.out.kept k) (fun _ _ _=>Aag) Akx (fun _ _ _ _=>trivial) (fun l _=>Ak8 l.op) (by omega));have VC:=hid (fun w1 (k:Kept w w1)=>Ai6 (ov:=ovI) (p:=(n:Int)) (HTP.out.kept k) (HEN.out.kept k) OK.out LE.out (by omega) (by omega) (T.out.kept k) (fun _ _ _=>Aag) Akx (fun _ _ _ _=>trivial))
 obtain ⟨G,hG⟩:∃ G,Ho ovI ls outs e n=G:=⟨_,rfl⟩;obtain ⟨E,hE⟩:∃ E,Qu ovI ls outs e n=E:=⟨_,rfl⟩;have HG:=hid hG;have HE:=hid hE;rw [hG] at GC;rw [hE] at VC;clear hnb hG hE;obtain ⟨c0,c1⟩:=Eb HB.out;obtain ⟨d0,d1,d2,d3,d4,d5,d6,d7,d8⟩:=Bn HB'.out;go_upto_region 4 with fail;simp only [hnb'];clear hnb';go_wp2_with fail;refine (GC.out _ K.out).mono ?_;rintro ee w3 ⟨q,v3,v4,rfl,h3,h4⟩;simp only [];replace K:=hid (K.out.trans q);replace HB:=hid (Bl HB.out q);replace HB':=hid (Bl HB'.out q);have H3:=hid h3;have H4:=hid h4;obtain ⟨A3,c3,rfl,hc3,-⟩:=h3;obtain ⟨A4,c4,rfl,hc4,-⟩:=h4
 clear q c0 c1 d0 d1 d2 d3 d4 d5 d6 d7 d8 GC;obtain ⟨c0,c1⟩:=Eb HB.out;obtain ⟨d0,d1,d2,d3,d4,d5,d6,d7,d8⟩:=Bn HB'.out;go_upto_region 5 with fail;go_wp2_with fail;refine (VC.out _ K.out).mono ?_;rintro ee w5 ⟨q,v5,rfl,h5⟩;simp only [];replace K:=hid (K.out.trans q);replace HB:=hid (Bl HB.out q);replace HB':=hid (Bl HB'.out q);replace H3:=hid (H3.out.kept q);replace H4:=hid (H4.out.kept q);have H5:=hid h5;obtain ⟨A5,c5,rfl,hc5,-⟩:=h5;clear q c0 c1 d0 d1 d2 d3 d4 d5 d6 d7 d8 VC;obtain ⟨c0,c1⟩:=Eb HB.out;obtain ⟨d0,d1,d2,d3,d4,d5,d6,d7,d8⟩:=Bn HB'.out;by_cases hk:(Cg ovI ls outs e n).k=0
 ·have hev:=Ya hk;rw [HE.out] at hev;have hek:E.k=0:=by rw [hev]
  have gke:(E.k != 0)=false:=by simp [hek]
  rcases Vw hk with ⟨g1,g2⟩ | ⟨g1,g2,g3⟩
  ·rw [HG.out] at g1 g2;have gk:(G.k != 0)=true:=by simp [g1]
   have l1:G.v.1=[]:=by rw [g2]
   have l2:G.v.2=[]:=by rw [g2]
   rw [l1,l2];clear hk hev hek g1 g2 l1 l2 H3 H4 H5 c0 c1 d0 d1 d2 d3 d4 d5 d6 d7 d8 hc3 hc4 hc5;go_upto_region 9 with fail;clear gk gke;go_wp2_with fail;refine (L8 (T.out.kept K.out)).mono ?_;rintro ee w6 ⟨rfl,q⟩;simp only [];go_wp2_with fail;go_ret;exact ⟨rfl,K.out.trans q⟩
  ·rw [HG.out] at g1 g3;have gk:(G.k != 0)=false:=by simp [g1]
   have hln:=Adk hk g2;have hcl:=(Ahs HTP.out HEN.out hk).2.2;have hcl2:=Af3 hcl;obtain ⟨T8,hT8⟩:∃ T8,(outs.map fun m=>(Cg ovI ls outs e n).v.getD m.toNat rzI)=T8:=⟨_,rfl⟩;have hl8:∀ a∈T8,a.lens 1000000:=by
    intro a ha;rw [←hT8] at ha;obtain ⟨m,-,rfl⟩:=List.mem_map.1 ha;rw [List.getD_eq_getElem?_getD];cases hi:(Cg ovI ls outs e n).v[m.toNat]? with
    | none=>show rzI.lens 1000000;exact ⟨Nat.zero_le _,Nat.zero_le _⟩
    | some x=>exact Ju (hcl2 x (List.mem_of_getElem? hi)) (show 64≤1000000 by decide)
   have lT:T8.length=outs.length:=by rw [←hT8,List.length_map]
   rw [hT8] at g3 hev;obtain ⟨R8,hR8⟩:∃ R8,(outs.map fun m=>(Dh n e.x.length (Cg ovI ls outs e n).v [] ls).v.getD m.toNat [])=R8:=⟨_,rfl⟩;have lR:R8.length=outs.length:=by rw [←hR8,List.length_map]
   rw [hR8] at g3 hln;have l1:G.v.1=T8:=by rw [g3]
   have l2:G.v.2=R8:=by rw [g3]
   have l3:E.v=T8:=by rw [hev]
   have q3:=H3.out;have q4:=H4.out;have q5:=H5.out;rw [l1,lT] at q3;rw [l2,lR] at q4;rw [l3,lT] at q5;rw [l1,l2,l3,lT,lR];have LN:=hid hln;have LR:=hid lR;have BX:=hid (Akh q3 q5 (by omega) hl8);have H9:=hid q4;clear H3 H4 H5 hl8 g3 hev hT8 hR8 hcl hcl2 l1 l2 l3 q3 q4 q5 g1 g2 hek hk hc3 hc4 hc5 lT hln lR;go_upto_region 10 with fail;clear gk gke;go_wp2_with fail;refine BX.out.mono ?_;rintro ee w6 ⟨rfl,q⟩;simp only [];replace K:=hid (K.out.trans q);replace HB':=hid (Bl HB'.out q);replace H9:=hid (H9.out.kept q);clear q c0 c1 d0 d1 d2 d3 d4 d5 d6 d7 d8 BX HB;have LO:=hid o12;have LX8:=hid (show e.x.length≤8 from LX.out)
   go_wp2_with fail
   go_loopw [13] (fun t wr=>∃ i:Nat,i≤outs.length∧t=.int .i64 i∧Kept w6 wr) (fun t _=>(outs.length-intOf t).toNat)
   case atStart=>exact ⟨0,Nat.zero_le _,rfl,Below.refl _ _⟩
   case round =>
    obtain ⟨i,hi,rfl,hkr⟩:=hrel;have KR:=hid hkr;clear hkr;by_cases hin:i<outs.length
    ·obtain ⟨r,hr⟩:∃ r,R8[i]?=some r:=⟨_,List.getElem?_eq_getElem (by rw [LR.out];exact hin)⟩;have hrl:=LN.out r (List.mem_of_getElem? hr);obtain ⟨A9,c9,e9,-,hd9⟩:=H9.out.kept KR.out;injection e9 with e9
     subst e9;obtain ⟨b9,o9,rfl,hat9⟩:=hd9 (by rw [LR.out];omega);obtain ⟨s9,hc9,hs9⟩:=hat9 i r hr;obtain ⟨A8,c8,rfl,-,-⟩:=hs9;rw [hrl] at hc9;obtain ⟨d0,d1,d2,d3,d4,d5,d6,d7,d8⟩:=Bn (Bl HB'.out KR.out);clear hd9 hat9 hr hrl;go_wp2_with fail;go_region;go_wp2_with fail;go_roundw
     case rel=>exact ⟨i+1,by omega,by have:=LO.out;go_num,KR.out.drew⟩
     case measure=>simp only [intOf];omega
    ·obtain rfl:outs.length=i:=by omega
     go_wp2_with fail;refine (L8 (T.out.kept (K.out.trans KR.out))).mono ?_;rintro ee w7 ⟨rfl,q⟩;simp only [];go_wp2_with fail;go_ret;exact ⟨rfl,(K.out.trans KR.out).trans q⟩
 ·have hev:=Aa6 hk;rw [HE.out] at hev;have hgb:=Aa9 hk;rw [HG.out] at hgb;generalize (Cg ovI ls outs e n).k=kk at *;subst hev;subst hgb;have gk:(kk != 0)=true:=by simp [hk]
  clear hk H3 H4 H5 c0 c1 d0 d1 d2 d3 d4 d5 d6 d7 d8 hc3 hc4 hc5;go_upto_region 7 with fail;clear gk;go_wp2_with fail;refine (L8 (T.out.kept K.out)).mono ?_;rintro ee w6 ⟨rfl,q⟩;simp only [];go_wp2_with fail;go_ret;exact ⟨rfl,K.out.trans q⟩
end Go.Proofs.YtabjjdicffcolaaGreatDoor
