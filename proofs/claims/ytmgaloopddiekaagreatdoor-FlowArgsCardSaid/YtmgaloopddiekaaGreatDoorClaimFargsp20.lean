/- Words and contracts, part 20. -/
import Derived.Test.YtmgaloopddiekaaGreatDoorClaimFargsp19
set_option maxRecDepth 100000
set_option maxHeartbeats 0
namespace Go.Proofs.YtmgaloopddiekaaGreatDoor
open Go.Lib (hid)
open Go.RowKit
theorem Ac7 (k:Int)(w:World):Calls Tryz.prog 236 #[.bool true,.int .i64 k] w fun e w'=>e=.returned (.tuple #[])∧w=w':=by
 go_enter Tryz.func236,Tryz.ntmps236;go_wp2
 go_end0
 exact ⟨rfl,rfl⟩
theorem Z0 (k:Int)(w:World):Calls Tryz.prog 236 #[.bool false,.int .i64 k] w fun e w'=>e=.panicked (Ch 213 k)∧w=w':=by
 go_enter Tryz.func236,Tryz.ntmps236;go_wp2;exact ⟨rfl,rfl,rfl⟩
theorem Gj (b:Bool)(k:Int)(w:World):Calls Tryz.prog 236 #[.bool b,.int .i64 k] w fun e w'=>e=Rl 213 b k∧w=w':=by
 cases b
 ·exact Z0 k w
 ·exact Ac7 k w
theorem Nw (k:Int)(w:World):(Instr.typeAssert (.iface 213 (.agg #[.int .i64 k])) 20 213 true).run Tryz.prog w=.ok (.tuple #[.agg #[.int .i64 k],.bool true]) w:=by
 kernel_rfl
theorem Ol (w:World):(Instr.typeAssert .nilIface 20 213 true).run Tryz.prog w=.ok (.tuple #[.agg #[.int .i64 0],.bool false]) w:=by
 kernel_rfl
theorem Tw (b2 b3:Nat)(w:World)(k:Int)(x y z q:Value)
 (h0:w.heap[b2]?=some (.cells #[x,y,z] 30 (0,0))) (h1:w.heap[b3]?=some (.cells #[q] 3 (0,0))) (hne:¬b2=b3) :
 CallsD Tryz.prog 235 #[.pointer (some ⟨b2,0,none⟩),.pointer (some ⟨b3,0,none⟩)] (.panicking (Ch 213 k)) w fun e u' w' =>
  e=.returned (.tuple #[])∧u'=.panicking [{ v:=.iface 213 (.agg #[.int .i64 k]),recovered:=true }]∧w'=(Yb w b2 b3 213 k).drew:=by
 have ha:=Nw k;have l2:b2<w.heap.size:=(Array.getElem?_eq_some_iff.1 h0).1;have l3:b3<w.heap.size:=(Array.getElem?_eq_some_iff.1 h1).1;have n2:¬b2=w.heap.size:=by omega
 have n3:¬b3=w.heap.size:=by omega
 have n2':¬w.heap.size=b2:=by omega
 have n3':¬w.heap.size=b3:=by omega
 have hne':¬b3=b2:=fun h=>hne h.symm
 have c20:=Ag h0 0 x rfl;have c21:=Ag h0 1 y rfl;have c22:=Ag h0 2 z rfl;have c30:=Ag h1 0 q rfl;have f20:=Am h0 0;have f21:=Am h0 1;have f22:=Am h0 2;have f30:=Am h1 0;refine callsD_of_wpS Tryz.func235 rfl fun c₀ cs hu=>?_
 simp only [Tryz.ntmps235,List.size_toArray,List.length_cons,List.length_nil,Nat.reduceAdd,Nat.reduceSub,Array.replicate_succ,
  Array.replicate_zero,List.push_toArray,List.append_toArray,List.nil_append,List.cons_append]
 refine Ct (v:=.iface 213 (.agg #[.int .i64 k])) (cs':={ c₀ with mode:=.panicking [{ v:=.iface 213 (.agg #[.int .i64 k]),recovered:=true }] }::cs) (w':=w) rfl ?_ ?_ ?_
 ·simp [go_sem]
 ·rw [recoverD,hu];exact ⟨rfl,rfl⟩
 go_wp2_with fail;go_region;exact ⟨rfl,_,rfl,_,results_none rfl _ _ _,rfl,rfl,rfl⟩
theorem Tx (b2 b3:Nat)(w:World) :
 CallsD Tryz.prog 235 #[.pointer (some ⟨b2,0,none⟩),.pointer (some ⟨b3,0,none⟩)] .returning w fun e u' w' =>
  e=.returned (.tuple #[])∧u'=.returning∧w'=w.alloc (.cells #[.int .i64 0] 213):=by
 have ha:=Ol;refine callsD_of_wpS Tryz.func235 rfl fun c₀ cs hu=>?_
 simp only [Tryz.ntmps235,List.size_toArray,List.length_cons,List.length_nil,Nat.reduceAdd,Nat.reduceSub,Array.replicate_succ,
  Array.replicate_zero,List.push_toArray,List.append_toArray,List.nil_append,List.cons_append]
 refine Ct (v:=.nilIface) (cs':=c₀::cs) (w':=w) rfl ?_ ?_ ?_
 ·simp [go_sem]
 ·rw [recoverD,hu];exact ⟨rfl,rfl⟩
 go_wp2_with fail;exact ⟨rfl,.returning,by rw [←hu],_,results_none rfl _ _ _,rfl,rfl,rfl⟩
theorem Ym {w:World}{K:Nat}{cap:Array Value}{o:Outc Raw}(h:∀ w1,Kept w w1→Calls Tryz.prog K cap w1 (Goes 213 o w1))(hz:o.k≠0→o.v=rz)
 (hk:∀ w,(callFunc K cap).run Tryz.prog w=.ok (.enter K cap) w) :
 Calls Tryz.prog 218 #[.func (.func K) #[] cap] w (RetE o w):=by
 have hmf:=Es;have HH:=hid h;clear h
 go_enter_defers Tryz.func218,Tryz.ntmps218
 go_wp2_with fail;have k1:Kept w ((w.alloc (.cells #[.bool false,.slice none 0 0,.int .i64 0] 30)).alloc (.cells #[.int .i64 0] 3)):=((Below.refl _ _).alloc (Nat.le_refl _) _).alloc (by simp) _;refine (HH.out _ k1).mono ?_;have b0:((w.alloc (.cells #[.bool false,.slice none 0 0,.int .i64 0] 30)).alloc (.cells #[.int .i64 0] 3)).heap[w.heap.size]?=some (.cells #[.bool false,.slice none 0 0,.int .i64 0] 30 (0,0)):=by
  rw [Below.heap_alloc _ _ _ (by simp)];exact heap_alloc_new _ _
 have b1:((w.alloc (.cells #[.bool false,.slice none 0 0,.int .i64 0] 30)).alloc (.cells #[.int .i64 0] 3)).heap[w.heap.size+1]?=some (.cells #[.int .i64 0] 3 (0,0)):=by
  have:=heap_alloc_new (w.alloc (.cells #[.bool false,.slice none 0 0,.int .i64 0] 30)) (.cells #[.int .i64 0] 3);simpa using this
 rintro e w1 ⟨q,hq⟩;have c0:=(q.block w.heap.size (by simp;omega)).trans b0;have c1:=(q.block (w.heap.size+1) (by simp)).trans b1;have k2:=k1.trans q;clear q b0 b1 k1 HH;have hs1:w.heap.size+1<w1.heap.size:=(Array.getElem?_eq_some_iff.1 c1).1;have hs0:w.heap.size<w1.heap.size:=by omega
 have n1:¬w.heap.size=w1.heap.size:=by omega
 have n2:¬w.heap.size+1=w1.heap.size:=by omega
 have n3:¬w.heap.size=w.heap.size+1:=by omega
 have n4:¬w.heap.size+1=w.heap.size:=by omega
 have c20:w1.cell? ⟨w.heap.size,0,none⟩=some (.bool false):=Ag c0 0 _ rfl;have c21:w1.cell? ⟨w.heap.size,1,none⟩=some (.slice none 0 0):=Ag c0 1 _ rfl;have c22:w1.cell? ⟨w.heap.size,2,none⟩=some (.int .i64 0):=Ag c0 2 _ rfl;have c30:w1.cell? ⟨w.heap.size+1,0,none⟩=some (.int .i64 0):=Ag c1 0 _ rfl;have f20:=Am c0 0;have f21:=Am c0 1;have f22:=Am c0 2;have f30:=Am c1 0;have KK:=hid k2;have HQ:=hid hq;clear k2 hq;rcases HQ.out with ⟨h0,v,rfl,hv⟩ | ⟨h0,rfl⟩
 ·obtain ⟨s,rfl,hs,e1,e2⟩:=hv;have HS:=hid hs;obtain ⟨_,A,c,rfl,_⟩:=hs;clear HQ;simp only [];go_wp2_with fail;refine leaves_cons (f:=235) (args:=#[.pointer (some ⟨w.heap.size,0,none⟩),.pointer (some ⟨w.heap.size+1,0,none⟩)]) (by simp) (by simp [go_sem]) ?_;refine (Tx _ _ _).mono ?_;rintro e u' w2 ⟨rfl,rfl,rfl⟩;obtain ⟨d0,d1,d2,d3⟩:=J0 (x':=.bool o.v.neg) (y':=.slice A o.v.m.length c) (z':=.int .i64 o.v.e) (q':=.int .i64 0) (o:=.cells #[.int .i64 0] 213) c0 c1 n3;refine ⟨.tuple #[.agg #[.bool o.v.neg,.slice A o.v.m.length c,.int .i64 o.v.e],.int .i64 0],?_,?_⟩
  ·change (results Tryz.f218 _).run Tryz.prog (Er w1 w.heap.size (w.heap.size+1) (.bool o.v.neg) (.slice A o.v.m.length c) (.int .i64 o.v.e) (.int .i64 0) (.cells #[.int .i64 0] 213))=.ok _ (Er w1 w.heap.size (w.heap.size+1) (.bool o.v.neg) (.slice A o.v.m.length c) (.int .i64 o.v.e) (.int .i64 0) (.cells #[.int .i64 0] 213));generalize Er w1 w.heap.size (w.heap.size+1) (.bool o.v.neg) (.slice A o.v.m.length c) (.int .i64 o.v.e) (.int .i64 0) (.cells #[.int .i64 0] 213)=W at *;simp [results,Tryz.results218,go_sem,d0,d1,d2,d3]
  ·refine ⟨Lb KK.out (Nat.le_refl _) (Nat.le_succ _),_,by rw [h0],?_⟩;exact ⟨_,rfl,HS.out.laid c0 c1 (by simp) (by simp) (by simp) (by simp),e1,e2⟩
 ·clear HQ;simp only [];refine leaves_cons (f:=235) (args:=#[.pointer (some ⟨w.heap.size,0,none⟩),.pointer (some ⟨w.heap.size+1,0,none⟩)]) (by simp) (by simp [go_sem]) ?_;refine (Tw _ _ _ _ _ _ _ _ c0 c1 n3).mono ?_;rintro e u' w2 ⟨rfl,rfl,rfl⟩;obtain ⟨d0,d1,d2,d3⟩:=J0 (x':=.bool false) (y':=.slice none 0 0) (z':=.int .i64 0) (q':=.int .i64 o.k) (o:=.cells #[.int .i64 o.k] 213) c0 c1 n3;refine ⟨.tuple #[.agg #[.bool false,.slice none 0 0,.int .i64 0],.int .i64 o.k],?_,?_⟩
  ·change (results Tryz.f218 _).run Tryz.prog (Er w1 w.heap.size (w.heap.size+1) (.bool false) (.slice none 0 0) (.int .i64 0) (.int .i64 o.k) (.cells #[.int .i64 o.k] 213)).drew=.ok _ (Er w1 w.heap.size (w.heap.size+1) (.bool false) (.slice none 0 0) (.int .i64 0) (.int .i64 o.k) (.cells #[.int .i64 o.k] 213)).drew;generalize Er w1 w.heap.size (w.heap.size+1) (.bool false) (.slice none 0 0) (.int .i64 0) (.int .i64 o.k) (.cells #[.int .i64 o.k] 213)=W at *;simp [results,Tryz.results218,go_sem,d0,d1,d2,d3]
  ·refine ⟨(Lb KK.out (Nat.le_refl _) (Nat.le_succ _)).drew,_,rfl,?_⟩;rw [hz h0];exact ⟨_,rfl,⟨(by intro i hi;cases hi),none,0,rfl,Nat.le_refl _,fun h=>absurd h (Nat.lt_irrefl 0)⟩,by decide,by decide⟩
theorem P3 (k:Int)(w:World):Calls Tryz.prog 236 #[.bool true,.int .i64 k] w (RetK (.tuple #[]) w):=(Gj true k w).mono fun _ _ ⟨he,hw⟩=>⟨he,hw▸Below.refl _ _⟩
def DyAt (w:World) (b o:Nat) (d:Dy):Prop:=∃ s,w.cell? ⟨b,o,none⟩=some (.bool d.neg)∧w.cell? ⟨b,o+1,none⟩=some s∧w.cell? ⟨b,o+2,none⟩=some (.int .i64 d.e)∧DyR w (.agg #[.bool d.neg,s,.int .i64 d.e]) d.raw
theorem DyAt.kept {w w':World}{b o:Nat}{d:Dy}(h:DyAt w b o d)(k:Kept w w'):DyAt w' b o d:=by
 obtain ⟨s,h0,h1,h2,hd⟩:=h;have hb:=Bg h0;exact ⟨s,(k.cell (p:=⟨b,o,none⟩) hb).trans h0,(k.cell (p:=⟨b,o+1,none⟩) hb).trans h1,(k.cell (p:=⟨b,o+2,none⟩) hb).trans h2,hd.kept k⟩
def DyS (w:World) (v:Value) (l:List Dy):Prop:=∃ A c,v=.slice A l.length c∧l.length≤c∧(0<l.length→∃ b off,A=some ⟨b,off,none⟩∧∀ i d,l[i]?=some d→DyAt w b (off+i*3) d)
theorem DyS.kept {w w':World}{v:Value}{l:List Dy}(h:DyS w v l)(k:Kept w w'):DyS w' v l:=by
 obtain ⟨A,c,rfl,hc,hA⟩:=h;refine ⟨A,c,rfl,hc,fun h0=>?_⟩;obtain ⟨b,off,rfl,hd⟩:=hA h0;exact ⟨b,off,rfl,fun i d hi=>(hd i d hi).kept k⟩
def okL (l:List Dy):Prop:=∀ d∈l,Dy.Ok d
theorem Adt {w:World}{v:Value}{p:Int}{l:List Dy}(hv:DyS w v l)(hl:okL l)(hn:l.length≤1000)(p1:1≤p)(p2:p≤2000) :
 Calls Tryz.prog 220 #[.int .i64 p,v] w (RetK (.tuple #[]) w):=by
 obtain ⟨A,c,rfl,hc,hA⟩:=hv;have d1:decide (1≤p)=true:=by simp [p1]
 have d2:decide (p≤2000)=true:=by simp [p2]
 have HA:=hid hA;have HL:=hid hl;clear hA hl;have hbase:Kept w w:=Below.refl _ _;obtain ⟨n,hn'⟩:∃ n,n=l.length:=⟨_,rfl⟩;rw [←hn'] at hc hn HA ⊢;have HN:=hid hn';clear hn';go_enter Tryz.func220,Tryz.ntmps220
 go_wp2_with (go_at_call 236;refine (P3 1 _).mono ?_;rintro e w1 ⟨rfl,q⟩;have K1:=hid q;clear q)
 go_loopw [15] (fun t wr=>∃ k:Nat,k≤n∧t=.int .i64 k∧Kept w wr) (fun t _=>(n-intOf t).toNat)
 case atStart=>exact ⟨0,Nat.zero_le _,rfl,K1.out⟩
 case round =>
  obtain ⟨k,hk,rfl,hK⟩:=hrel;have HK:=hid hK;clear hK;by_cases hlt:k<n
  ·obtain ⟨b,off,rfl,hd⟩:=HA.out (by omega);obtain ⟨d,hdk⟩:∃ d,l[k]?=some d:=⟨_,List.getElem?_eq_getElem (by have:=HN.out;omega)⟩;obtain ⟨s,h0,h1,h2,hR⟩:=(hd k d hdk).kept HK.out;have hok:=HL.out d (List.mem_of_getElem? hdk);have hm:=fun w1 (q:Kept wr w1)=>J9 (hR.kept q) (by have:=Ds hok;omega)
   rw [hok.may] at hm;have HM:=hid hm;obtain ⟨A1,l1,c1,es,-,-,-,-⟩:=hR.shape;injection es with es
   injection es with es
   simp only [List.cons.injEq,and_true] at es;obtain rfl:=es.2.1;clear es;clear hm hd hdk hok hR;generalize d.neg=ng at *;generalize d.e=eg at *
   go_wp2_with (first
    | (go_at_call 51;refine (HM.out _ (Ad _ _)).mono ?_;rintro e w2 ⟨rfl,q⟩;have Q:=hid ((Ad _ _).trans q);clear q)
    | (go_at_call 236;refine (P3 1 _).mono ?_;rintro e w3 ⟨rfl,q⟩;have Q3:=hid q;clear q))
   go_roundw
   case rel=>exact ⟨k+1,by omega,by go_num,(HK.out.trans Q.out).trans Q3.out⟩
   case measure=>simp [intOf];omega
  ·obtain rfl:k=n:=by omega
   go_wp2
   go_end0
   exact ⟨rfl,HK.out⟩
theorem Fe (w:World)(k:Nat)(hk:k<18446744073709551616)(h0:k≠0):Lim (w.alloc (.cells #[.int .u64 k] 54)) (.slice (some ⟨w.heap.size,0,none⟩) 1 1) (limbs k):=by
 rw [Lc k h0 hk];exact Ys hk (by simp) (Adc _ _ _) 1 (Nat.le_refl _)
theorem Gg (w:World):Blk (w.alloc (.cells #[.bool false,.slice none 0 0,.int .i64 0] 30)) w.heap.size (.bool false) (.slice none 0 0) (.int .i64 0):=blk_new _ _ _ _
structure CutIn (w:World) (v:Value) (m:Nat) (e:Int) (p:Nat):Prop where
 lim:Lim w v (limbs m)
 len:(limbs m).length≤20000
 e1:-1000000000≤e
 e2:e≤1000000000
 p1:1≤p
 p2:p≤2000
 tab:Tab w
theorem CutIn.bl {w:World}{v:Value}{m:Nat}{e:Int}{p:Nat}(h:CutIn w v m e p):bl m≤1280000:=by
 have:=Eb m 20000 h.len;omega
theorem CutIn.fits {w w1:World}{v u:Value}{m n:Nat}{e:Int}{p j:Nat}(h:CutIn w v m e p)(k:Kept w w1)(hu:Lim w1 u (limbs n))(hn:n≤m+1)(hj:j≤1280000)(neg:Bool) :
 Calls Tryz.prog 113 #[.bool neg,u,.int .i64 (e+j)] w1 (RetE (Cr neg n (e+j)).raw w1):=by
 have h1:_root_.Go.Proofs.YtmgaloopddiekaaGreatDoor.bl n≤1280001:=Nat.le_trans (Oo hn) (Aa9 m 1 1280000 h.bl (by decide));have h2:=Dk n 20001 (by omega);have:=h.e1;have:=h.e2;exact Agv hu (by omega) (by omega) (by omega) (h.tab.kept k)
theorem Sl (m:Nat)(rest:Bool)(p:Nat)(aw:Bool)(r':Bool)(hr:(Jg m rest p).1=r'):Jx m rest p aw=if (r'&&aw)=true then m/2^(bl m-p)+1 else m/2^(bl m-p):=by
 unfold Jx;rw [hr];rfl
theorem Ei {T:TypeId}{o:Outc Dy}{k:Int}{e:Ending}(h:e=Rl T (o.raw.k==0) k):(o.k=0∧e=.returned (.tuple #[]))∨(o.k≠0∧e=.panicked (Ch T k)):=by
 by_cases hk:o.k=0
 ·left;refine ⟨hk,?_⟩;rw [h,show (o.raw.k==0)=true by rw [beq_iff_eq];exact hk];rfl
 ·right;refine ⟨hk,?_⟩;rw [h,show (o.raw.k==0)=false by rw [beq_eq_false_iff_ne];exact hk];rfl
theorem Ag4 {w:World}{v:Value}{m p:Nat}{e:Int}(neg rest up:Bool)(h:CutIn w v m e p) :
 Calls Tryz.prog 221 #[.bool neg,v,.int .i64 e,.bool rest,.int .i64 p,.bool up] w (Goes 213 (Ph neg m e rest p up).raw w):=by
 have hbl:=h.bl;have p1:=h.p1;have p2:=h.p2;have e1:=h.e1;have e2:=h.e2;have hsz:=fun w1 (k:Kept w w1)=>Kr (h.lim.kept k) (by have:=h.len;omega)
 have hri:=fun w1 (k:Kept w w1) (j:Nat) (hj:j≤1280000)=>S8 (h.lim.kept k) j (by have:=h.len;omega) (by omega)
 have hze:=fun w1 (k:Kept w w1) (h0:m≠0)=>Zc (h.lim.kept k) (by have:=h.len;omega) h0 (h.tab.kept k)
 have hpl:=fun w1 u n (hu:Lim w1 u (limbs n)) (hn:n≤m) (u1:Value) (hu1:Lim w1 u1 (limbs 1))=>Adl hu hu1 (by have h1:=Dk n 20000 (by have:=Oo hn;omega);omega) (by rw [Lc 1 (by decide) (by decide)];decide)
 have hfi:=fun w1 u n (j:Nat) (k:Kept w w1) (hu:Lim w1 u (limbs n)) (hn:n≤m+1) (hj:j≤1280000)=>h.fits k hu hn hj neg
 have HSZ:=hid hsz;have HRI:=hid hri;have HZE:=hid hze;have HPL:=hid hpl;have HFI:=hid hfi;have HLI:=hid h.lim;obtain ⟨A,l,c,rfl,-,-⟩:=h.lim.shape;clear hsz hri hze hpl hfi h;unfold Ph;obtain ⟨aw,haw⟩:∃ aw,(up != neg)=aw:=⟨_,rfl⟩;rw [haw];have hnb1:((!up)==neg)=aw:=by rw [←haw];cases up<;>cases neg<;>rfl
 have hnb2:(!(up==neg))=aw:=by rw [←haw];cases up<;>cases neg<;>rfl
 clear haw;obtain ⟨W,hW⟩:∃ W,W=w.alloc (.cells #[.bool false,.slice none 0 0,.int .i64 0] 30):=⟨_,rfl⟩;have HK:=hid (show Kept w W by rw [hW];exact Ad _ _);have HB:=hid (show Blk W w.heap.size (.bool false) (.slice none 0 0) (.int .i64 0) by rw [hW];exact Gg w);have HW:=hid hW;clear hW;by_cases hn:p<bl m
 ·obtain ⟨j,hj⟩:∃ j,bl m-p=j:=⟨_,rfl⟩;have hws:IntKind.i64.wrap ((bl m:Int)-(p:Int))=(j:Int):=by simp [IntKind.wrap_i64];omega
  have hwe:IntKind.i64.wrap (e+(j:Int))=e+(j:Int):=by simp [IntKind.wrap_i64];omega
  have HM0:=hid (show m≠0 by rintro rfl;rw [Oq] at hn;omega);have HJ:=hid (show j≤1280000 by omega);have hd:decide (0<j)=true:=by simp;omega
  cases hrest:rest
  ·obtain ⟨bz,hbz⟩:∃ bz,decide (tz m<j)=bz:=⟨_,rfl⟩;have hc:(Jg m false p).1=bz:=by
    unfold Jg;simp only [hj];rw [hd,hbz,Bool.false_or,Bool.true_and]
   rw [Sl m false p aw bz hc,hj];clear hc hj hrest hn;cases bz
   ·rw [Bool.false_and,if_neg (by decide)];obtain ⟨o,ho⟩:∃ o,o=Cr neg (m/2^j) (e+((j:Nat):Int)):=⟨_,rfl⟩;have hf2:=fun w1 u (k:Kept w w1) (hu:Lim w1 u (limbs (m/2^j)))=>HFI.out w1 u (m/2^j) j k hu (Nat.le_succ_of_le (Nat.div_le_self _ _)) HJ.out
    rw [←ho] at hf2 ⊢
    skip
    have HF2:=hid hf2;clear ho hf2;go_enter Tryz.func221,Tryz.ntmps221
    go_wp2_with (first
     | (go_at_call 127;rw [←HW.out];refine (HSZ.out _ HK.out).mono ?_;rintro e w1 ⟨rfl,q,hq⟩;have K:=hid (show Kept W w1 from hq▸Kept.drewN (Below.refl W.heap.size W) q);clear hq;replace HW:True:=trivial;have LX:=hid (HLI.out.kept (HK.out.trans K.out)))
     | (go_at_call 138;refine (HZE.out _ (HK.out.trans K.out) HM0.out).mono ?_;rintro e w1 ⟨rfl,q,hq⟩;replace K:=hid (show Kept W w1 from hq▸Kept.drewN K.out q);clear hq)
     | (go_at_call 139;refine (HRI.out _ (HK.out.trans K.out) _ HJ.out).mono ?_;rintro e w1 ⟨X,rfl,hX,q⟩;replace K:=hid (K.out.trans q);replace LX:=hid hX;clear hX q)
     | (go_at_call 135;refine (HPL.out _ _ _ (LX.out.kept (Ad _ _)) (by first | exact Nat.div_le_self _ _ | exact Nat.le_refl _) _ (Fe _ 1 (by decide) (by decide))).mono ?_;rintro e w1 ⟨X,rfl,hX,q⟩;replace K:=hid (K.out.trans ((Ad _ _).trans q));replace LX:=hid hX;clear hX q)
     | (go_at_call 113;refine (HF2.out _ _ (HK.out.trans K.out) LX.out).mono ?_;rintro e w2 ⟨q,u,rfl,hd⟩;obtain ⟨A',l',c',rfl,-,hd,g1,g2⟩:=hd.shape;have HD:=hid hd;replace K:=hid (K.out.trans q);clear hd q;have hb:=HB.out.kept K.out;obtain ⟨hsz,c0,c1,c2,f0,f1,f2⟩:=hb.facts;have HB2:=hid hb;clear hb)
     | (go_at_call 236;refine (Gj _ _ _).mono ?_;rintro e w3 ⟨he,rfl⟩;rcases Ei he with ⟨hk,rfl⟩ | ⟨hk,rfl⟩<;>(have HKK:=hid hk;clear hk he)))
    ·exact Co (Bn (HB2.out.laid _ _ _) _) rfl rfl rfl ⟨(Bj (HK.out.trans K.out) (Nat.le_refl _)).trans (Ad _ _),.inl ⟨HKK.out,_,rfl,((HD.out.dyW HB2.out (An _) (Ak _ _ _) (Aq _)).kept (Ad _ _)).dyR g1 g2⟩⟩
    ·exact ⟨rfl,(HK.out.trans K.out).trans (Ad _ _),.inr ⟨HKK.out,rfl⟩⟩
   ·cases aw
    ·rw [Bool.true_and,if_neg (by decide)];obtain ⟨o,ho⟩:∃ o,o=Cr neg (m/2^j) (e+((j:Nat):Int)):=⟨_,rfl⟩;have hf2:=fun w1 u (k:Kept w w1) (hu:Lim w1 u (limbs (m/2^j)))=>HFI.out w1 u (m/2^j) j k hu (Nat.le_succ_of_le (Nat.div_le_self _ _)) HJ.out
     rw [←ho] at hf2 ⊢
     skip
     have HF2:=hid hf2;clear ho hf2;go_enter Tryz.func221,Tryz.ntmps221
     go_wp2_with (first
      | (go_at_call 127;rw [←HW.out];refine (HSZ.out _ HK.out).mono ?_;rintro e w1 ⟨rfl,q,hq⟩;have K:=hid (show Kept W w1 from hq▸Kept.drewN (Below.refl W.heap.size W) q);clear hq;replace HW:True:=trivial;have LX:=hid (HLI.out.kept (HK.out.trans K.out)))
      | (go_at_call 138;refine (HZE.out _ (HK.out.trans K.out) HM0.out).mono ?_;rintro e w1 ⟨rfl,q,hq⟩;replace K:=hid (show Kept W w1 from hq▸Kept.drewN K.out q);clear hq)
      | (go_at_call 139;refine (HRI.out _ (HK.out.trans K.out) _ HJ.out).mono ?_;rintro e w1 ⟨X,rfl,hX,q⟩;replace K:=hid (K.out.trans q);replace LX:=hid hX;clear hX q)
      | (go_at_call 135;refine (HPL.out _ _ _ (LX.out.kept (Ad _ _)) (by first | exact Nat.div_le_self _ _ | exact Nat.le_refl _) _ (Fe _ 1 (by decide) (by decide))).mono ?_;rintro e w1 ⟨X,rfl,hX,q⟩;replace K:=hid (K.out.trans ((Ad _ _).trans q));replace LX:=hid hX;clear hX q)
      | (go_at_call 113;refine (HF2.out _ _ (HK.out.trans K.out) LX.out).mono ?_;rintro e w2 ⟨q,u,rfl,hd⟩;obtain ⟨A',l',c',rfl,-,hd,g1,g2⟩:=hd.shape;have HD:=hid hd;replace K:=hid (K.out.trans q);clear hd q;have hb:=HB.out.kept K.out;obtain ⟨hsz,c0,c1,c2,f0,f1,f2⟩:=hb.facts;have HB2:=hid hb;clear hb)
      | (go_at_call 236;refine (Gj _ _ _).mono ?_;rintro e w3 ⟨he,rfl⟩;rcases Ei he with ⟨hk,rfl⟩ | ⟨hk,rfl⟩<;>(have HKK:=hid hk;clear hk he)))
     ·exact Co (Bn (HB2.out.laid _ _ _) _) rfl rfl rfl ⟨(Bj (HK.out.trans K.out) (Nat.le_refl _)).trans (Ad _ _),.inl ⟨HKK.out,_,rfl,((HD.out.dyW HB2.out (An _) (Ak _ _ _) (Aq _)).kept (Ad _ _)).dyR g1 g2⟩⟩
     ·exact ⟨rfl,(HK.out.trans K.out).trans (Ad _ _),.inr ⟨HKK.out,rfl⟩⟩
    ·rw [Bool.true_and,if_pos rfl];obtain ⟨o,ho⟩:∃ o,o=Cr neg (m/2^j+1) (e+((j:Nat):Int)):=⟨_,rfl⟩;have hf2:=fun w1 u (k:Kept w w1) (hu:Lim w1 u (limbs (m/2^j+1)))=>HFI.out w1 u (m/2^j+1) j k hu (Nat.succ_le_succ (Nat.div_le_self _ _)) HJ.out
     rw [←ho] at hf2 ⊢
     skip
     have HF2:=hid hf2;clear ho hf2;go_enter Tryz.func221,Tryz.ntmps221
     go_wp2_with (first
      | (go_at_call 127;rw [←HW.out];refine (HSZ.out _ HK.out).mono ?_;rintro e w1 ⟨rfl,q,hq⟩;have K:=hid (show Kept W w1 from hq▸Kept.drewN (Below.refl W.heap.size W) q);clear hq;replace HW:True:=trivial;have LX:=hid (HLI.out.kept (HK.out.trans K.out)))
      | (go_at_call 138;refine (HZE.out _ (HK.out.trans K.out) HM0.out).mono ?_;rintro e w1 ⟨rfl,q,hq⟩;replace K:=hid (show Kept W w1 from hq▸Kept.drewN K.out q);clear hq)
      | (go_at_call 139;refine (HRI.out _ (HK.out.trans K.out) _ HJ.out).mono ?_;rintro e w1 ⟨X,rfl,hX,q⟩;replace K:=hid (K.out.trans q);replace LX:=hid hX;clear hX q)
      | (go_at_call 135;refine (HPL.out _ _ _ (LX.out.kept (Ad _ _)) (by first | exact Nat.div_le_self _ _ | exact Nat.le_refl _) _ (Fe _ 1 (by decide) (by decide))).mono ?_;rintro e w1 ⟨X,rfl,hX,q⟩;replace K:=hid (K.out.trans ((Ad _ _).trans q));replace LX:=hid hX;clear hX q)
      | (go_at_call 113;refine (HF2.out _ _ (HK.out.trans K.out) LX.out).mono ?_;rintro e w2 ⟨q,u,rfl,hd⟩;obtain ⟨A',l',c',rfl,-,hd,g1,g2⟩:=hd.shape;have HD:=hid hd;replace K:=hid (K.out.trans q);clear hd q;have hb:=HB.out.kept K.out;obtain ⟨hsz,c0,c1,c2,f0,f1,f2⟩:=hb.facts;have HB2:=hid hb;clear hb)
      | (go_at_call 236;refine (Gj _ _ _).mono ?_;rintro e w3 ⟨he,rfl⟩;rcases Ei he with ⟨hk,rfl⟩ | ⟨hk,rfl⟩<;>(have HKK:=hid hk;clear hk he)))
     ·exact Co (Bn (HB2.out.laid _ _ _) _) rfl rfl rfl ⟨(Bj (HK.out.trans K.out) (Nat.le_refl _)).trans (Ad _ _),.inl ⟨HKK.out,_,rfl,((HD.out.dyW HB2.out (An _) (Ak _ _ _) (Aq _)).kept (Ad _ _)).dyR g1 g2⟩⟩
     ·exact ⟨rfl,(HK.out.trans K.out).trans (Ad _ _),.inr ⟨HKK.out,rfl⟩⟩
  ·have hc:(Jg m true p).1=true:=by
    unfold Jg;simp
   rw [Sl m true p aw true hc,hj];clear hc hj hrest hn;cases aw
   ·rw [Bool.true_and,if_neg (by decide)];obtain ⟨o,ho⟩:∃ o,o=Cr neg (m/2^j) (e+((j:Nat):Int)):=⟨_,rfl⟩;have hf2:=fun w1 u (k:Kept w w1) (hu:Lim w1 u (limbs (m/2^j)))=>HFI.out w1 u (m/2^j) j k hu (Nat.le_succ_of_le (Nat.div_le_self _ _)) HJ.out
    rw [←ho] at hf2 ⊢
    skip
    have HF2:=hid hf2;clear ho hf2;go_enter Tryz.func221,Tryz.ntmps221
    go_wp2_with (first
     | (go_at_call 127;rw [←HW.out];refine (HSZ.out _ HK.out).mono ?_;rintro e w1 ⟨rfl,q,hq⟩;have K:=hid (show Kept W w1 from hq▸Kept.drewN (Below.refl W.heap.size W) q);clear hq;replace HW:True:=trivial;have LX:=hid (HLI.out.kept (HK.out.trans K.out)))
     | (go_at_call 138;refine (HZE.out _ (HK.out.trans K.out) HM0.out).mono ?_;rintro e w1 ⟨rfl,q,hq⟩;replace K:=hid (show Kept W w1 from hq▸Kept.drewN K.out q);clear hq)
     | (go_at_call 139;refine (HRI.out _ (HK.out.trans K.out) _ HJ.out).mono ?_;rintro e w1 ⟨X,rfl,hX,q⟩;replace K:=hid (K.out.trans q);replace LX:=hid hX;clear hX q)
     | (go_at_call 135;refine (HPL.out _ _ _ (LX.out.kept (Ad _ _)) (by first | exact Nat.div_le_self _ _ | exact Nat.le_refl _) _ (Fe _ 1 (by decide) (by decide))).mono ?_;rintro e w1 ⟨X,rfl,hX,q⟩;replace K:=hid (K.out.trans ((Ad _ _).trans q));replace LX:=hid hX;clear hX q)
     | (go_at_call 113;refine (HF2.out _ _ (HK.out.trans K.out) LX.out).mono ?_;rintro e w2 ⟨q,u,rfl,hd⟩;obtain ⟨A',l',c',rfl,-,hd,g1,g2⟩:=hd.shape;have HD:=hid hd;replace K:=hid (K.out.trans q);clear hd q;have hb:=HB.out.kept K.out;obtain ⟨hsz,c0,c1,c2,f0,f1,f2⟩:=hb.facts;have HB2:=hid hb;clear hb)
     | (go_at_call 236;refine (Gj _ _ _).mono ?_;rintro e w3 ⟨he,rfl⟩;rcases Ei he with ⟨hk,rfl⟩ | ⟨hk,rfl⟩<;>(have HKK:=hid hk;clear hk he)))
    ·exact Co (Bn (HB2.out.laid _ _ _) _) rfl rfl rfl ⟨(Bj (HK.out.trans K.out) (Nat.le_refl _)).trans (Ad _ _),.inl ⟨HKK.out,_,rfl,((HD.out.dyW HB2.out (An _) (Ak _ _ _) (Aq _)).kept (Ad _ _)).dyR g1 g2⟩⟩
    ·exact ⟨rfl,(HK.out.trans K.out).trans (Ad _ _),.inr ⟨HKK.out,rfl⟩⟩
   ·rw [Bool.true_and,if_pos rfl];obtain ⟨o,ho⟩:∃ o,o=Cr neg (m/2^j+1) (e+((j:Nat):Int)):=⟨_,rfl⟩;have hf2:=fun w1 u (k:Kept w w1) (hu:Lim w1 u (limbs (m/2^j+1)))=>HFI.out w1 u (m/2^j+1) j k hu (Nat.succ_le_succ (Nat.div_le_self _ _)) HJ.out
    rw [←ho] at hf2 ⊢
    skip
    have HF2:=hid hf2;clear ho hf2;go_enter Tryz.func221,Tryz.ntmps221
    go_wp2_with (first
     | (go_at_call 127;rw [←HW.out];refine (HSZ.out _ HK.out).mono ?_;rintro e w1 ⟨rfl,q,hq⟩;have K:=hid (show Kept W w1 from hq▸Kept.drewN (Below.refl W.heap.size W) q);clear hq;replace HW:True:=trivial;have LX:=hid (HLI.out.kept (HK.out.trans K.out)))
     | (go_at_call 138;refine (HZE.out _ (HK.out.trans K.out) HM0.out).mono ?_;rintro e w1 ⟨rfl,q,hq⟩;replace K:=hid (show Kept W w1 from hq▸Kept.drewN K.out q);clear hq)
     | (go_at_call 139;refine (HRI.out _ (HK.out.trans K.out) _ HJ.out).mono ?_;rintro e w1 ⟨X,rfl,hX,q⟩;replace K:=hid (K.out.trans q);replace LX:=hid hX;clear hX q)
     | (go_at_call 135;refine (HPL.out _ _ _ (LX.out.kept (Ad _ _)) (by first | exact Nat.div_le_self _ _ | exact Nat.le_refl _) _ (Fe _ 1 (by decide) (by decide))).mono ?_;rintro e w1 ⟨X,rfl,hX,q⟩;replace K:=hid (K.out.trans ((Ad _ _).trans q));replace LX:=hid hX;clear hX q)
     | (go_at_call 113;refine (HF2.out _ _ (HK.out.trans K.out) LX.out).mono ?_;rintro e w2 ⟨q,u,rfl,hd⟩;obtain ⟨A',l',c',rfl,-,hd,g1,g2⟩:=hd.shape;have HD:=hid hd;replace K:=hid (K.out.trans q);clear hd q;have hb:=HB.out.kept K.out;obtain ⟨hsz,c0,c1,c2,f0,f1,f2⟩:=hb.facts;have HB2:=hid hb;clear hb)
     | (go_at_call 236;refine (Gj _ _ _).mono ?_;rintro e w3 ⟨he,rfl⟩;rcases Ei he with ⟨hk,rfl⟩ | ⟨hk,rfl⟩<;>(have HKK:=hid hk;clear hk he)))
    ·exact Co (Bn (HB2.out.laid _ _ _) _) rfl rfl rfl ⟨(Bj (HK.out.trans K.out) (Nat.le_refl _)).trans (Ad _ _),.inl ⟨HKK.out,_,rfl,((HD.out.dyW HB2.out (An _) (Ak _ _ _) (Aq _)).kept (Ad _ _)).dyR g1 g2⟩⟩
    ·exact ⟨rfl,(HK.out.trans K.out).trans (Ad _ _),.inr ⟨HKK.out,rfl⟩⟩
 ·have hj:bl m-p=0:=by omega
  obtain ⟨i0,hi0⟩:∃ i0:Int,(bl m:Int)-(p:Int)=i0:=⟨_,rfl⟩;have hws:IntKind.i64.wrap ((bl m:Int)-(p:Int))=i0:=by rw [←hi0];simp [IntKind.wrap_i64];omega
  have hj0:decide ((0:Int)<i0)=false:=by simp;omega
  have hc:(Jg m rest p).1=rest:=by
   unfold Jg;simp only [hj];simp
  rw [Sl m rest p aw rest hc,hj];rw [Nat.pow_zero,Nat.div_one];have HJ:=hid (show (0:Nat)≤1280000 by omega);clear hc hj hn hi0;cases rest
  ·rw [Bool.false_and,if_neg (by decide)];obtain ⟨o,ho⟩:∃ o,o=Cr neg m (e+((0:Nat):Int)):=⟨_,rfl⟩;have hf2:=fun w1 u (k:Kept w w1) (hu:Lim w1 u (limbs m))=>HFI.out w1 u m 0 k hu (Nat.le_succ _) HJ.out
   rw [←ho] at hf2 ⊢;simp only [Int.natCast_zero,Int.add_zero] at hf2 ho;have HF2:=hid hf2;clear ho hf2;go_enter Tryz.func221,Tryz.ntmps221
   go_wp2_with (first
    | (go_at_call 127;rw [←HW.out];refine (HSZ.out _ HK.out).mono ?_;rintro e w1 ⟨rfl,q,hq⟩;have K:=hid (show Kept W w1 from hq▸Kept.drewN (Below.refl W.heap.size W) q);clear hq;replace HW:True:=trivial;have LX:=hid (HLI.out.kept (HK.out.trans K.out)))
    | (go_at_call 138;refine (HZE.out _ (HK.out.trans K.out) HM0.out).mono ?_;rintro e w1 ⟨rfl,q,hq⟩;replace K:=hid (show Kept W w1 from hq▸Kept.drewN K.out q);clear hq)
    | (go_at_call 139;refine (HRI.out _ (HK.out.trans K.out) _ HJ.out).mono ?_;rintro e w1 ⟨X,rfl,hX,q⟩;replace K:=hid (K.out.trans q);replace LX:=hid hX;clear hX q)
    | (go_at_call 135;refine (HPL.out _ _ _ (LX.out.kept (Ad _ _)) (by first | exact Nat.div_le_self _ _ | exact Nat.le_refl _) _ (Fe _ 1 (by decide) (by decide))).mono ?_;rintro e w1 ⟨X,rfl,hX,q⟩;replace K:=hid (K.out.trans ((Ad _ _).trans q));replace LX:=hid hX;clear hX q)
    | (go_at_call 113;refine (HF2.out _ _ (HK.out.trans K.out) LX.out).mono ?_;rintro e w2 ⟨q,u,rfl,hd⟩;obtain ⟨A',l',c',rfl,-,hd,g1,g2⟩:=hd.shape;have HD:=hid hd;replace K:=hid (K.out.trans q);clear hd q;have hb:=HB.out.kept K.out;obtain ⟨hsz,c0,c1,c2,f0,f1,f2⟩:=hb.facts;have HB2:=hid hb;clear hb)
    | (go_at_call 236;refine (Gj _ _ _).mono ?_;rintro e w3 ⟨he,rfl⟩;rcases Ei he with ⟨hk,rfl⟩ | ⟨hk,rfl⟩<;>(have HKK:=hid hk;clear hk he)))
   ·exact Co (Bn (HB2.out.laid _ _ _) _) rfl rfl rfl ⟨(Bj (HK.out.trans K.out) (Nat.le_refl _)).trans (Ad _ _),.inl ⟨HKK.out,_,rfl,((HD.out.dyW HB2.out (An _) (Ak _ _ _) (Aq _)).kept (Ad _ _)).dyR g1 g2⟩⟩
   ·exact ⟨rfl,(HK.out.trans K.out).trans (Ad _ _),.inr ⟨HKK.out,rfl⟩⟩
  ·cases aw
   ·rw [Bool.true_and,if_neg (by decide)];obtain ⟨o,ho⟩:∃ o,o=Cr neg m (e+((0:Nat):Int)):=⟨_,rfl⟩;have hf2:=fun w1 u (k:Kept w w1) (hu:Lim w1 u (limbs m))=>HFI.out w1 u m 0 k hu (Nat.le_succ _) HJ.out
    rw [←ho] at hf2 ⊢;simp only [Int.natCast_zero,Int.add_zero] at hf2 ho;have HF2:=hid hf2;clear ho hf2;go_enter Tryz.func221,Tryz.ntmps221
    go_wp2_with (first
     | (go_at_call 127;rw [←HW.out];refine (HSZ.out _ HK.out).mono ?_;rintro e w1 ⟨rfl,q,hq⟩;have K:=hid (show Kept W w1 from hq▸Kept.drewN (Below.refl W.heap.size W) q);clear hq;replace HW:True:=trivial;have LX:=hid (HLI.out.kept (HK.out.trans K.out)))
     | (go_at_call 138;refine (HZE.out _ (HK.out.trans K.out) HM0.out).mono ?_;rintro e w1 ⟨rfl,q,hq⟩;replace K:=hid (show Kept W w1 from hq▸Kept.drewN K.out q);clear hq)
     | (go_at_call 139;refine (HRI.out _ (HK.out.trans K.out) _ HJ.out).mono ?_;rintro e w1 ⟨X,rfl,hX,q⟩;replace K:=hid (K.out.trans q);replace LX:=hid hX;clear hX q)
     | (go_at_call 135;refine (HPL.out _ _ _ (LX.out.kept (Ad _ _)) (by first | exact Nat.div_le_self _ _ | exact Nat.le_refl _) _ (Fe _ 1 (by decide) (by decide))).mono ?_;rintro e w1 ⟨X,rfl,hX,q⟩;replace K:=hid (K.out.trans ((Ad _ _).trans q));replace LX:=hid hX;clear hX q)
     | (go_at_call 113;refine (HF2.out _ _ (HK.out.trans K.out) LX.out).mono ?_;rintro e w2 ⟨q,u,rfl,hd⟩;obtain ⟨A',l',c',rfl,-,hd,g1,g2⟩:=hd.shape;have HD:=hid hd;replace K:=hid (K.out.trans q);clear hd q;have hb:=HB.out.kept K.out;obtain ⟨hsz,c0,c1,c2,f0,f1,f2⟩:=hb.facts;have HB2:=hid hb;clear hb)
     | (go_at_call 236;refine (Gj _ _ _).mono ?_;rintro e w3 ⟨he,rfl⟩;rcases Ei he with ⟨hk,rfl⟩ | ⟨hk,rfl⟩<;>(have HKK:=hid hk;clear hk he)))
    ·exact Co (Bn (HB2.out.laid _ _ _) _) rfl rfl rfl ⟨(Bj (HK.out.trans K.out) (Nat.le_refl _)).trans (Ad _ _),.inl ⟨HKK.out,_,rfl,((HD.out.dyW HB2.out (An _) (Ak _ _ _) (Aq _)).kept (Ad _ _)).dyR g1 g2⟩⟩
    ·exact ⟨rfl,(HK.out.trans K.out).trans (Ad _ _),.inr ⟨HKK.out,rfl⟩⟩
   ·rw [Bool.true_and,if_pos rfl];obtain ⟨o,ho⟩:∃ o,o=Cr neg (m+1) (e+((0:Nat):Int)):=⟨_,rfl⟩;have hf2:=fun w1 u (k:Kept w w1) (hu:Lim w1 u (limbs (m+1)))=>HFI.out w1 u (m+1) 0 k hu (Nat.le_refl _) HJ.out
    rw [←ho] at hf2 ⊢;simp only [Int.natCast_zero,Int.add_zero] at hf2 ho;have HF2:=hid hf2;clear ho hf2;go_enter Tryz.func221,Tryz.ntmps221
    go_wp2_with (first
     | (go_at_call 127;rw [←HW.out];refine (HSZ.out _ HK.out).mono ?_;rintro e w1 ⟨rfl,q,hq⟩;have K:=hid (show Kept W w1 from hq▸Kept.drewN (Below.refl W.heap.size W) q);clear hq;replace HW:True:=trivial;have LX:=hid (HLI.out.kept (HK.out.trans K.out)))
     | (go_at_call 138;refine (HZE.out _ (HK.out.trans K.out) HM0.out).mono ?_;rintro e w1 ⟨rfl,q,hq⟩;replace K:=hid (show Kept W w1 from hq▸Kept.drewN K.out q);clear hq)
     | (go_at_call 139;refine (HRI.out _ (HK.out.trans K.out) _ HJ.out).mono ?_;rintro e w1 ⟨X,rfl,hX,q⟩;replace K:=hid (K.out.trans q);replace LX:=hid hX;clear hX q)
     | (go_at_call 135;refine (HPL.out _ _ _ (LX.out.kept (Ad _ _)) (by first | exact Nat.div_le_self _ _ | exact Nat.le_refl _) _ (Fe _ 1 (by decide) (by decide))).mono ?_;rintro e w1 ⟨X,rfl,hX,q⟩;replace K:=hid (K.out.trans ((Ad _ _).trans q));replace LX:=hid hX;clear hX q)
     | (go_at_call 113;refine (HF2.out _ _ (HK.out.trans K.out) LX.out).mono ?_;rintro e w2 ⟨q,u,rfl,hd⟩;obtain ⟨A',l',c',rfl,-,hd,g1,g2⟩:=hd.shape;have HD:=hid hd;replace K:=hid (K.out.trans q);clear hd q;have hb:=HB.out.kept K.out;obtain ⟨hsz,c0,c1,c2,f0,f1,f2⟩:=hb.facts;have HB2:=hid hb;clear hb)
     | (go_at_call 236;refine (Gj _ _ _).mono ?_;rintro e w3 ⟨he,rfl⟩;rcases Ei he with ⟨hk,rfl⟩ | ⟨hk,rfl⟩<;>(have HKK:=hid hk;clear hk he)))
    ·exact Co (Bn (HB2.out.laid _ _ _) _) rfl rfl rfl ⟨(Bj (HK.out.trans K.out) (Nat.le_refl _)).trans (Ad _ _),.inl ⟨HKK.out,_,rfl,((HD.out.dyW HB2.out (An _) (Ak _ _ _) (Aq _)).kept (Ad _ _)).dyR g1 g2⟩⟩
    ·exact ⟨rfl,(HK.out.trans K.out).trans (Ad _ _),.inr ⟨HKK.out,rfl⟩⟩
end Go.Proofs.YtmgaloopddiekaaGreatDoor
