/- Words and contracts, part 19. -/
import Derived.Test.YtabjjdicffcolaaGreatDoorClaimJrootp18
set_option maxRecDepth 100000
set_option maxHeartbeats 0
namespace Go.Proofs.YtabjjdicffcolaaGreatDoor
open Go.Lib (hid)
open Go.RowKit
theorem Agy (k:Int)(w:World):Calls Tryz.prog 174 #[.bool true,.int .i64 k] w fun e w'=>e=.returned (.tuple #[])∧w=w':=by
 go_enter Tryz.func174,Tryz.ntmps174;go_wp2
 go_end0
 exact ⟨rfl,rfl⟩
theorem Ad8 (k:Int)(w:World):Calls Tryz.prog 174 #[.bool false,.int .i64 k] w fun e w'=>e=.panicked (Bs 185 k)∧w=w':=by
 go_enter Tryz.func174,Tryz.ntmps174;go_wp2;exact ⟨rfl,rfl,rfl⟩
theorem Fo (b:Bool)(k:Int)(w:World):Calls Tryz.prog 174 #[.bool b,.int .i64 k] w fun e w'=>e=Y9 185 b k∧w=w':=by
 cases b
 ·exact Ad8 k w
 ·exact Agy k w
theorem Qw (k:Int)(w:World):(Instr.typeAssert (.iface 185 (.agg #[.int .i64 k])) 20 185 true).run Tryz.prog w=.ok (.tuple #[.agg #[.int .i64 k],.bool true]) w:=by
 kernel_rfl
theorem Rs (w:World):(Instr.typeAssert .nilIface 20 185 true).run Tryz.prog w=.ok (.tuple #[.agg #[.int .i64 0],.bool false]) w:=by
 kernel_rfl
theorem Yf (b2 b3:Nat)(w:World)(k:Int)(x y z q:Value)
 (h0:w.heap[b2]?=some (.cells #[x,y,z] 28 (0,0))) (h1:w.heap[b3]?=some (.cells #[q] 3 (0,0))) (hne:¬b2=b3) :
 CallsD Tryz.prog 193 #[.pointer (some ⟨b2,0,none⟩),.pointer (some ⟨b3,0,none⟩)] (.panicking (Bs 185 k)) w fun e u' w' =>
  e=.returned (.tuple #[])∧u'=.panicking [{ v:=.iface 185 (.agg #[.int .i64 k]),recovered:=true }]∧w'=(Ab9 w b2 b3 185 k).drew:=by
 have ha:=Qw k;have l2:b2<w.heap.size:=(Array.getElem?_eq_some_iff.1 h0).1;have l3:b3<w.heap.size:=(Array.getElem?_eq_some_iff.1 h1).1;have n2:¬b2=w.heap.size:=by omega
 have n3:¬b3=w.heap.size:=by omega
 have n2':¬w.heap.size=b2:=by omega
 have n3':¬w.heap.size=b3:=by omega
 have hne':¬b3=b2:=fun h=>hne h.symm
 have c20:=Ab h0 0 x rfl;have c21:=Ab h0 1 y rfl;have c22:=Ab h0 2 z rfl;have c30:=Ab h1 0 q rfl;have f20:=Ap h0 0;have f21:=Ap h0 1;have f22:=Ap h0 2;have f30:=Ap h1 0;refine callsD_of_wpS Tryz.func193 rfl fun c₀ cs hu=>?_
 simp only [Tryz.ntmps193,List.size_toArray,List.length_cons,List.length_nil,Nat.reduceAdd,Nat.reduceSub,Array.replicate_succ,
  Array.replicate_zero,List.push_toArray,List.append_toArray,List.nil_append,List.cons_append]
 refine Ed (v:=.iface 185 (.agg #[.int .i64 k])) (cs':={ c₀ with mode:=.panicking [{ v:=.iface 185 (.agg #[.int .i64 k]),recovered:=true }] }::cs) (w':=w) rfl ?_ ?_ ?_
 ·simp [go_sem]
 ·rw [recoverD,hu];exact ⟨rfl,rfl⟩
 go_wp2_with fail;go_region;exact ⟨rfl,_,rfl,_,results_none rfl _ _ _,rfl,rfl,rfl⟩
theorem Yg (b2 b3:Nat)(w:World) :
 CallsD Tryz.prog 193 #[.pointer (some ⟨b2,0,none⟩),.pointer (some ⟨b3,0,none⟩)] .returning w fun e u' w' =>
  e=.returned (.tuple #[])∧u'=.returning∧w'=w.alloc (.cells #[.int .i64 0] 185):=by
 have ha:=Rs;refine callsD_of_wpS Tryz.func193 rfl fun c₀ cs hu=>?_
 simp only [Tryz.ntmps193,List.size_toArray,List.length_cons,List.length_nil,Nat.reduceAdd,Nat.reduceSub,Array.replicate_succ,
  Array.replicate_zero,List.push_toArray,List.append_toArray,List.nil_append,List.cons_append]
 refine Ed (v:=.nilIface) (cs':=c₀::cs) (w':=w) rfl ?_ ?_ ?_
 ·simp [go_sem]
 ·rw [recoverD,hu];exact ⟨rfl,rfl⟩
 go_wp2_with fail;exact ⟨rfl,.returning,by rw [←hu],_,results_none rfl _ _ _,rfl,rfl,rfl⟩
theorem W3 {w:World}{K:Nat}{cap:Array Value}{o:Outc Raw}(h:∀ w1,Kept w w1→Calls Tryz.prog K cap w1 (Goes 185 o w1))(hz:o.k≠0→o.v=rz)
 (hk:∀ w,(callFunc K cap).run Tryz.prog w=.ok (.enter K cap) w) :
 Calls Tryz.prog 168 #[.func (.func K) #[] cap] w (RetE o w):=by
 have hmf:=Gn;have HH:=hid h;clear h
 go_enter_defers Tryz.func168,Tryz.ntmps168
 go_wp2_with fail;have k1:Kept w ((w.alloc (.cells #[.bool false,.slice none 0 0,.int .i64 0] 28)).alloc (.cells #[.int .i64 0] 3)):=((Below.refl _ _).alloc (Nat.le_refl _) _).alloc (by simp) _;refine (HH.out _ k1).mono ?_;have b0:((w.alloc (.cells #[.bool false,.slice none 0 0,.int .i64 0] 28)).alloc (.cells #[.int .i64 0] 3)).heap[w.heap.size]?=some (.cells #[.bool false,.slice none 0 0,.int .i64 0] 28 (0,0)):=by
  rw [Below.heap_alloc _ _ _ (by simp)];exact heap_alloc_new _ _
 have b1:((w.alloc (.cells #[.bool false,.slice none 0 0,.int .i64 0] 28)).alloc (.cells #[.int .i64 0] 3)).heap[w.heap.size+1]?=some (.cells #[.int .i64 0] 3 (0,0)):=by
  have:=heap_alloc_new (w.alloc (.cells #[.bool false,.slice none 0 0,.int .i64 0] 28)) (.cells #[.int .i64 0] 3);simpa using this
 rintro e w1 ⟨q,hq⟩;have c0:=(q.block w.heap.size (by simp;omega)).trans b0;have c1:=(q.block (w.heap.size+1) (by simp)).trans b1;have k2:=k1.trans q;clear q b0 b1 k1 HH;have hs1:w.heap.size+1<w1.heap.size:=(Array.getElem?_eq_some_iff.1 c1).1;have hs0:w.heap.size<w1.heap.size:=by omega
 have n1:¬w.heap.size=w1.heap.size:=by omega
 have n2:¬w.heap.size+1=w1.heap.size:=by omega
 have n3:¬w.heap.size=w.heap.size+1:=by omega
 have n4:¬w.heap.size+1=w.heap.size:=by omega
 have c20:w1.cell? ⟨w.heap.size,0,none⟩=some (.bool false):=Ab c0 0 _ rfl;have c21:w1.cell? ⟨w.heap.size,1,none⟩=some (.slice none 0 0):=Ab c0 1 _ rfl;have c22:w1.cell? ⟨w.heap.size,2,none⟩=some (.int .i64 0):=Ab c0 2 _ rfl;have c30:w1.cell? ⟨w.heap.size+1,0,none⟩=some (.int .i64 0):=Ab c1 0 _ rfl;have f20:=Ap c0 0;have f21:=Ap c0 1;have f22:=Ap c0 2;have f30:=Ap c1 0;have KK:=hid k2;have HQ:=hid hq;clear k2 hq;rcases HQ.out with ⟨h0,v,rfl,hv⟩ | ⟨h0,rfl⟩
 ·obtain ⟨s,rfl,hs,e1,e2⟩:=hv;have HS:=hid hs;obtain ⟨_,A,c,rfl,_⟩:=hs;clear HQ;simp only [];go_wp2_with fail;refine leaves_cons (f:=193) (args:=#[.pointer (some ⟨w.heap.size,0,none⟩),.pointer (some ⟨w.heap.size+1,0,none⟩)]) (by simp) (by simp [go_sem]) ?_;refine (Yg _ _ _).mono ?_;rintro e u' w2 ⟨rfl,rfl,rfl⟩;obtain ⟨d0,d1,d2,d3⟩:=Ll (x':=.bool o.v.neg) (y':=.slice A o.v.m.length c) (z':=.int .i64 o.v.e) (q':=.int .i64 0) (o:=.cells #[.int .i64 0] 185) c0 c1 n3;refine ⟨.tuple #[.agg #[.bool o.v.neg,.slice A o.v.m.length c,.int .i64 o.v.e],.int .i64 0],?_,?_⟩
  ·change (results Tryz.f168 _).run Tryz.prog (Fd w1 w.heap.size (w.heap.size+1) (.bool o.v.neg) (.slice A o.v.m.length c) (.int .i64 o.v.e) (.int .i64 0) (.cells #[.int .i64 0] 185))=.ok _ (Fd w1 w.heap.size (w.heap.size+1) (.bool o.v.neg) (.slice A o.v.m.length c) (.int .i64 o.v.e) (.int .i64 0) (.cells #[.int .i64 0] 185));generalize Fd w1 w.heap.size (w.heap.size+1) (.bool o.v.neg) (.slice A o.v.m.length c) (.int .i64 o.v.e) (.int .i64 0) (.cells #[.int .i64 0] 185)=W at *;simp [results,Tryz.results168,go_sem,d0,d1,d2,d3]
  ·refine ⟨Nl KK.out (Nat.le_refl _) (Nat.le_succ _),_,by rw [h0],?_⟩;exact ⟨_,rfl,HS.out.laid c0 c1 (by simp) (by simp) (by simp) (by simp),e1,e2⟩
 ·clear HQ;simp only [];refine leaves_cons (f:=193) (args:=#[.pointer (some ⟨w.heap.size,0,none⟩),.pointer (some ⟨w.heap.size+1,0,none⟩)]) (by simp) (by simp [go_sem]) ?_;refine (Yf _ _ _ _ _ _ _ _ c0 c1 n3).mono ?_;rintro e u' w2 ⟨rfl,rfl,rfl⟩;obtain ⟨d0,d1,d2,d3⟩:=Ll (x':=.bool false) (y':=.slice none 0 0) (z':=.int .i64 0) (q':=.int .i64 o.k) (o:=.cells #[.int .i64 o.k] 185) c0 c1 n3;refine ⟨.tuple #[.agg #[.bool false,.slice none 0 0,.int .i64 0],.int .i64 o.k],?_,?_⟩
  ·change (results Tryz.f168 _).run Tryz.prog (Fd w1 w.heap.size (w.heap.size+1) (.bool false) (.slice none 0 0) (.int .i64 0) (.int .i64 o.k) (.cells #[.int .i64 o.k] 185)).drew=.ok _ (Fd w1 w.heap.size (w.heap.size+1) (.bool false) (.slice none 0 0) (.int .i64 0) (.int .i64 o.k) (.cells #[.int .i64 o.k] 185)).drew;generalize Fd w1 w.heap.size (w.heap.size+1) (.bool false) (.slice none 0 0) (.int .i64 0) (.int .i64 o.k) (.cells #[.int .i64 o.k] 185)=W at *;simp [results,Tryz.results168,go_sem,d0,d1,d2,d3]
  ·refine ⟨(Nl KK.out (Nat.le_refl _) (Nat.le_succ _)).drew,_,rfl,?_⟩;rw [hz h0];exact ⟨_,rfl,⟨(by intro i hi;cases hi),none,0,rfl,Nat.le_refl _,fun h=>absurd h (Nat.lt_irrefl 0)⟩,by decide,by decide⟩
theorem Tp (k:Int)(w:World):Calls Tryz.prog 174 #[.bool true,.int .i64 k] w (RetK (.tuple #[]) w):=(Fo true k w).mono fun _ _ ⟨he,hw⟩=>⟨he,hw▸Below.refl _ _⟩
def DyAt (w:World) (b o:Nat) (d:Dy):Prop:=∃ s,w.cell? ⟨b,o,none⟩=some (.bool d.neg)∧w.cell? ⟨b,o+1,none⟩=some s∧w.cell? ⟨b,o+2,none⟩=some (.int .i64 d.e)∧DyR w (.agg #[.bool d.neg,s,.int .i64 d.e]) d.raw
theorem DyAt.kept {w w':World}{b o:Nat}{d:Dy}(h:DyAt w b o d)(k:Kept w w'):DyAt w' b o d:=by
 obtain ⟨s,h0,h1,h2,hd⟩:=h;have hb:=Aq h0;exact ⟨s,(k.cell (p:=⟨b,o,none⟩) hb).trans h0,(k.cell (p:=⟨b,o+1,none⟩) hb).trans h1,(k.cell (p:=⟨b,o+2,none⟩) hb).trans h2,hd.kept k⟩
def DyS (w:World) (v:Value) (l:List Dy):Prop:=∃ A c,v=.slice A l.length c∧l.length≤c∧(0<l.length→∃ b off,A=some ⟨b,off,none⟩∧∀ i d,l[i]?=some d→DyAt w b (off+i*3) d)
theorem DyS.kept {w w':World}{v:Value}{l:List Dy}(h:DyS w v l)(k:Kept w w'):DyS w' v l:=by
 obtain ⟨A,c,rfl,hc,hA⟩:=h;refine ⟨A,c,rfl,hc,fun h0=>?_⟩;obtain ⟨b,off,rfl,hd⟩:=hA h0;exact ⟨b,off,rfl,fun i d hi=>(hd i d hi).kept k⟩
def okL (l:List Dy):Prop:=∀ d∈l,Dy.Ok d
theorem Abu {w:World}{v:Value}{p:Int}{l:List Dy}(hv:DyS w v l)(hl:okL l)(hn:l.length≤1000)(p1:1≤p)(p2:p≤2000) :
 Calls Tryz.prog 170 #[.int .i64 p,v] w (RetK (.tuple #[]) w):=by
 obtain ⟨A,c,rfl,hc,hA⟩:=hv;have d1:decide (1≤p)=true:=by simp [p1]
 have d2:decide (p≤2000)=true:=by simp [p2]
 have HA:=hid hA;have HL:=hid hl;clear hA hl;have hbase:Kept w w:=Below.refl _ _;obtain ⟨n,hn'⟩:∃ n,n=l.length:=⟨_,rfl⟩;rw [←hn'] at hc hn HA ⊢;have HN:=hid hn';clear hn';go_enter Tryz.func170,Tryz.ntmps170
 go_wp2_with (go_at_call 174;refine (Tp 1 _).mono ?_;rintro e w1 ⟨rfl,q⟩;have K1:=hid q;clear q)
 go_loopw [15] (fun t wr=>∃ k:Nat,k≤n∧t=.int .i64 k∧Kept w wr) (fun t _=>(n-intOf t).toNat)
 case atStart=>exact ⟨0,Nat.zero_le _,rfl,K1.out⟩
 case round =>
  obtain ⟨k,hk,rfl,hK⟩:=hrel;have HK:=hid hK;clear hK;by_cases hlt:k<n
  ·obtain ⟨b,off,rfl,hd⟩:=HA.out (by omega);obtain ⟨d,hdk⟩:∃ d,l[k]?=some d:=⟨_,List.getElem?_eq_getElem (by have:=HN.out;omega)⟩;obtain ⟨s,h0,h1,h2,hR⟩:=(hd k d hdk).kept HK.out;have hok:=HL.out d (List.mem_of_getElem? hdk);have hm:=fun w1 (q:Kept wr w1)=>Mr (hR.kept q) (by have:=Dx hok;omega)
   rw [hok.may] at hm;have HM:=hid hm;obtain ⟨A1,l1,c1,es,-,-,-,-⟩:=hR.shape;injection es with es
   injection es with es
   simp only [List.cons.injEq,and_true] at es;obtain rfl:=es.2.1;clear es;clear hm hd hdk hok hR;generalize d.neg=ng at *;generalize d.e=eg at *
   go_wp2_with (first
    | (go_at_call 53;refine (HM.out _ (Ad _ _)).mono ?_;rintro e w2 ⟨rfl,q⟩;have Q:=hid ((Ad _ _).trans q);clear q)
    | (go_at_call 174;refine (Tp 1 _).mono ?_;rintro e w3 ⟨rfl,q⟩;have Q3:=hid q;clear q))
   go_roundw
   case rel=>exact ⟨k+1,by omega,by go_num,(HK.out.trans Q.out).trans Q3.out⟩
   case measure=>simp [intOf];omega
  ·obtain rfl:k=n:=by omega
   go_wp2
   go_end0
   exact ⟨rfl,HK.out⟩
theorem F0 (w:World)(k:Nat)(hk:k<18446744073709551616)(h0:k≠0):Lim (w.alloc (.cells #[.int .u64 k] 55)) (.slice (some ⟨w.heap.size,0,none⟩) 1 1) (Aj k):=by
 rw [G4 k h0 hk];exact Xc hk (by simp) (Ag3 _ _ _) 1 (Nat.le_refl _)
theorem Ds (w:World):Blk (w.alloc (.cells #[.bool false,.slice none 0 0,.int .i64 0] 28)) w.heap.size (.bool false) (.slice none 0 0) (.int .i64 0):=Bk _ _ _ _
structure CutIn (w:World) (v:Value) (m:Nat) (e:Int) (p:Nat):Prop where
 lim:Lim w v (Aj m)
 len:(Aj m).length≤20000
 e1:-1000000000≤e
 e2:e≤1000000000
 p1:1≤p
 p2:p≤2000
 tab:Tab w
theorem CutIn.bl {w:World}{v:Value}{m:Nat}{e:Int}{p:Nat}(h:CutIn w v m e p):bl m≤1280000:=by
 have:=Df m 20000 h.len;omega
theorem CutIn.fits {w w1:World}{v u:Value}{m n:Nat}{e:Int}{p j:Nat}(h:CutIn w v m e p)(k:Kept w w1)(hu:Lim w1 u (Aj n))(hn:n≤m+1)(hj:j≤1280000)(neg:Bool) :
 Calls Tryz.prog 41 #[.bool neg,u,.int .i64 (e+j)] w1 (RetE (Bw neg n (e+j)).raw w1):=by
 have h1:_root_.Go.Proofs.YtabjjdicffcolaaGreatDoor.bl n≤1280001:=Nat.le_trans (Gq hn) (Aff m 1 1280000 h.bl (by decide));have h2:=Dc n 20001 (by omega);have:=h.e1;have:=h.e2;exact Ae5 hu (by omega) (by omega) (by omega) (h.tab.kept k)
theorem Wu (m:Nat)(rest:Bool)(p:Nat)(aw:Bool)(r':Bool)(hr:(Ie m rest p).1=r'):Eb m rest p aw=if (r'&&aw)=true then m/2^(bl m-p)+1 else m/2^(bl m-p):=by
 unfold Eb;rw [hr];rfl
theorem Ex {T:TypeId}{o:Outc Dy}{k:Int}{e:Ending}(h:e=Y9 T (o.raw.k==0) k):(o.k=0∧e=.returned (.tuple #[]))∨(o.k≠0∧e=.panicked (Bs T k)):=by
 by_cases hk:o.k=0
 ·left;refine ⟨hk,?_⟩;rw [h,show (o.raw.k==0)=true by rw [beq_iff_eq];exact hk];rfl
 ·right;refine ⟨hk,?_⟩;rw [h,show (o.raw.k==0)=false by rw [beq_eq_false_iff_ne];exact hk];rfl
theorem Afr {w:World}{v:Value}{m p:Nat}{e:Int}(neg rest up:Bool)(h:CutIn w v m e p) :
 Calls Tryz.prog 171 #[.bool neg,v,.int .i64 e,.bool rest,.int .i64 p,.bool up] w (Goes 185 (Iu neg m e rest p up).raw w):=by
 have hbl:=h.bl;have p1:=h.p1;have p2:=h.p2;have e1:=h.e1;have e2:=h.e2;have hsz:=fun w1 (k:Kept w w1)=>Lz (h.lim.kept k) (by have:=h.len;omega)
 have hri:=fun w1 (k:Kept w w1) (j:Nat) (hj:j≤1280000)=>Sd (h.lim.kept k) j (by have:=h.len;omega) (by omega)
 have hze:=fun w1 (k:Kept w w1) (h0:m≠0)=>Adl (h.lim.kept k) (by have:=h.len;omega) h0 (h.tab.kept k)
 have hpl:=fun w1 u n (hu:Lim w1 u (Aj n)) (hn:n≤m) (u1:Value) (hu1:Lim w1 u1 (Aj 1))=>Abl hu hu1 (by have h1:=Dc n 20000 (by have:=Gq hn;omega);omega) (by rw [G4 1 (by decide) (by decide)];decide)
 have hfi:=fun w1 u n (j:Nat) (k:Kept w w1) (hu:Lim w1 u (Aj n)) (hn:n≤m+1) (hj:j≤1280000)=>h.fits k hu hn hj neg
 have HSZ:=hid hsz;have HRI:=hid hri;have HZE:=hid hze;have HPL:=hid hpl;have HFI:=hid hfi;have HLI:=hid h.lim;obtain ⟨A,l,c,rfl,-,-⟩:=h.lim.shape;clear hsz hri hze hpl hfi h;unfold Iu;obtain ⟨aw,haw⟩:∃ aw,(up != neg)=aw:=⟨_,rfl⟩;rw [haw];have hnb1:((!up)==neg)=aw:=by rw [←haw];cases up<;>cases neg<;>rfl
 have hnb2:(!(up==neg))=aw:=by rw [←haw];cases up<;>cases neg<;>rfl
 clear haw;obtain ⟨W,hW⟩:∃ W,W=w.alloc (.cells #[.bool false,.slice none 0 0,.int .i64 0] 28):=⟨_,rfl⟩;have HK:=hid (show Kept w W by rw [hW];exact Ad _ _);have HB:=hid (show Blk W w.heap.size (.bool false) (.slice none 0 0) (.int .i64 0) by rw [hW];exact Ds w);have HW:=hid hW;clear hW;by_cases hn:p<bl m
 ·obtain ⟨j,hj⟩:∃ j,bl m-p=j:=⟨_,rfl⟩;have hws:IntKind.i64.wrap ((bl m:Int)-(p:Int))=(j:Int):=by simp [IntKind.wrap_i64];omega
  have hwe:IntKind.i64.wrap (e+(j:Int))=e+(j:Int):=by simp [IntKind.wrap_i64];omega
  have HM0:=hid (show m≠0 by rintro rfl;rw [Gr] at hn;omega);have HJ:=hid (show j≤1280000 by omega);have hd:decide (0<j)=true:=by simp;omega
  cases hrest:rest
  ·obtain ⟨bz,hbz⟩:∃ bz,decide (tz m<j)=bz:=⟨_,rfl⟩;have hc:(Ie m false p).1=bz:=by
    unfold Ie;simp only [hj];rw [hd,hbz,Bool.false_or,Bool.true_and]
   rw [Wu m false p aw bz hc,hj];clear hc hj hrest hn;cases bz
   ·rw [Bool.false_and,if_neg (by decide)];obtain ⟨o,ho⟩:∃ o,o=Bw neg (m/2^j) (e+((j:Nat):Int)):=⟨_,rfl⟩;have hf2:=fun w1 u (k:Kept w w1) (hu:Lim w1 u (Aj (m/2^j)))=>HFI.out w1 u (m/2^j) j k hu (Nat.le_succ_of_le (Nat.div_le_self _ _)) HJ.out
    rw [←ho] at hf2 ⊢
    skip
    have HF2:=hid hf2;clear ho hf2;go_enter Tryz.func171,Tryz.ntmps171
    go_wp2_with (first
     | (go_at_call 112;rw [←HW.out];refine (HSZ.out _ HK.out).mono ?_;rintro e w1 ⟨rfl,q,hq⟩;have K:=hid (show Kept W w1 from hq▸Kept.drewN (Below.refl W.heap.size W) q);clear hq;replace HW:True:=trivial;have LX:=hid (HLI.out.kept (HK.out.trans K.out)))
     | (go_at_call 116;refine (HZE.out _ (HK.out.trans K.out) HM0.out).mono ?_;rintro e w1 ⟨rfl,q,hq⟩;replace K:=hid (show Kept W w1 from hq▸Kept.drewN K.out q);clear hq)
     | (go_at_call 117;refine (HRI.out _ (HK.out.trans K.out) _ HJ.out).mono ?_;rintro e w1 ⟨X,rfl,hX,q⟩;replace K:=hid (K.out.trans q);replace LX:=hid hX;clear hX q)
     | (go_at_call 194;refine (HPL.out _ _ _ (LX.out.kept (Ad _ _)) (by first | exact Nat.div_le_self _ _ | exact Nat.le_refl _) _ (F0 _ 1 (by decide) (by decide))).mono ?_;rintro e w1 ⟨X,rfl,hX,q⟩;replace K:=hid (K.out.trans ((Ad _ _).trans q));replace LX:=hid hX;clear hX q)
     | (go_at_call 41;refine (HF2.out _ _ (HK.out.trans K.out) LX.out).mono ?_;rintro e w2 ⟨q,u,rfl,hd⟩;obtain ⟨A',l',c',rfl,-,hd,g1,g2⟩:=hd.shape;have HD:=hid hd;replace K:=hid (K.out.trans q);clear hd q;have hb:=HB.out.kept K.out;obtain ⟨hsz,c0,c1,c2,f0,f1,f2⟩:=hb.facts;have HB2:=hid hb;clear hb)
     | (go_at_call 174;refine (Fo _ _ _).mono ?_;rintro e w3 ⟨he,rfl⟩;rcases Ex he with ⟨hk,rfl⟩ | ⟨hk,rfl⟩<;>(have HKK:=hid hk;clear hk he)))
    ·exact By (Be (HB2.out.laid _ _ _) _) rfl rfl rfl ⟨(Am (HK.out.trans K.out) (Nat.le_refl _)).trans (Ad _ _),.inl ⟨HKK.out,_,rfl,((HD.out.dyW HB2.out (Ag _) (Ae _ _ _) (Ah _)).kept (Ad _ _)).dyR g1 g2⟩⟩
    ·exact ⟨rfl,(HK.out.trans K.out).trans (Ad _ _),.inr ⟨HKK.out,rfl⟩⟩
   ·cases aw
    ·rw [Bool.true_and,if_neg (by decide)];obtain ⟨o,ho⟩:∃ o,o=Bw neg (m/2^j) (e+((j:Nat):Int)):=⟨_,rfl⟩;have hf2:=fun w1 u (k:Kept w w1) (hu:Lim w1 u (Aj (m/2^j)))=>HFI.out w1 u (m/2^j) j k hu (Nat.le_succ_of_le (Nat.div_le_self _ _)) HJ.out
     rw [←ho] at hf2 ⊢
     skip
     have HF2:=hid hf2;clear ho hf2;go_enter Tryz.func171,Tryz.ntmps171
     go_wp2_with (first
      | (go_at_call 112;rw [←HW.out];refine (HSZ.out _ HK.out).mono ?_;rintro e w1 ⟨rfl,q,hq⟩;have K:=hid (show Kept W w1 from hq▸Kept.drewN (Below.refl W.heap.size W) q);clear hq;replace HW:True:=trivial;have LX:=hid (HLI.out.kept (HK.out.trans K.out)))
      | (go_at_call 116;refine (HZE.out _ (HK.out.trans K.out) HM0.out).mono ?_;rintro e w1 ⟨rfl,q,hq⟩;replace K:=hid (show Kept W w1 from hq▸Kept.drewN K.out q);clear hq)
      | (go_at_call 117;refine (HRI.out _ (HK.out.trans K.out) _ HJ.out).mono ?_;rintro e w1 ⟨X,rfl,hX,q⟩;replace K:=hid (K.out.trans q);replace LX:=hid hX;clear hX q)
      | (go_at_call 194;refine (HPL.out _ _ _ (LX.out.kept (Ad _ _)) (by first | exact Nat.div_le_self _ _ | exact Nat.le_refl _) _ (F0 _ 1 (by decide) (by decide))).mono ?_;rintro e w1 ⟨X,rfl,hX,q⟩;replace K:=hid (K.out.trans ((Ad _ _).trans q));replace LX:=hid hX;clear hX q)
      | (go_at_call 41;refine (HF2.out _ _ (HK.out.trans K.out) LX.out).mono ?_;rintro e w2 ⟨q,u,rfl,hd⟩;obtain ⟨A',l',c',rfl,-,hd,g1,g2⟩:=hd.shape;have HD:=hid hd;replace K:=hid (K.out.trans q);clear hd q;have hb:=HB.out.kept K.out;obtain ⟨hsz,c0,c1,c2,f0,f1,f2⟩:=hb.facts;have HB2:=hid hb;clear hb)
      | (go_at_call 174;refine (Fo _ _ _).mono ?_;rintro e w3 ⟨he,rfl⟩;rcases Ex he with ⟨hk,rfl⟩ | ⟨hk,rfl⟩<;>(have HKK:=hid hk;clear hk he)))
     ·exact By (Be (HB2.out.laid _ _ _) _) rfl rfl rfl ⟨(Am (HK.out.trans K.out) (Nat.le_refl _)).trans (Ad _ _),.inl ⟨HKK.out,_,rfl,((HD.out.dyW HB2.out (Ag _) (Ae _ _ _) (Ah _)).kept (Ad _ _)).dyR g1 g2⟩⟩
     ·exact ⟨rfl,(HK.out.trans K.out).trans (Ad _ _),.inr ⟨HKK.out,rfl⟩⟩
    ·rw [Bool.true_and,if_pos rfl];obtain ⟨o,ho⟩:∃ o,o=Bw neg (m/2^j+1) (e+((j:Nat):Int)):=⟨_,rfl⟩;have hf2:=fun w1 u (k:Kept w w1) (hu:Lim w1 u (Aj (m/2^j+1)))=>HFI.out w1 u (m/2^j+1) j k hu (Nat.succ_le_succ (Nat.div_le_self _ _)) HJ.out
     rw [←ho] at hf2 ⊢
     skip
     have HF2:=hid hf2;clear ho hf2;go_enter Tryz.func171,Tryz.ntmps171
     go_wp2_with (first
      | (go_at_call 112;rw [←HW.out];refine (HSZ.out _ HK.out).mono ?_;rintro e w1 ⟨rfl,q,hq⟩;have K:=hid (show Kept W w1 from hq▸Kept.drewN (Below.refl W.heap.size W) q);clear hq;replace HW:True:=trivial;have LX:=hid (HLI.out.kept (HK.out.trans K.out)))
      | (go_at_call 116;refine (HZE.out _ (HK.out.trans K.out) HM0.out).mono ?_;rintro e w1 ⟨rfl,q,hq⟩;replace K:=hid (show Kept W w1 from hq▸Kept.drewN K.out q);clear hq)
      | (go_at_call 117;refine (HRI.out _ (HK.out.trans K.out) _ HJ.out).mono ?_;rintro e w1 ⟨X,rfl,hX,q⟩;replace K:=hid (K.out.trans q);replace LX:=hid hX;clear hX q)
      | (go_at_call 194;refine (HPL.out _ _ _ (LX.out.kept (Ad _ _)) (by first | exact Nat.div_le_self _ _ | exact Nat.le_refl _) _ (F0 _ 1 (by decide) (by decide))).mono ?_;rintro e w1 ⟨X,rfl,hX,q⟩;replace K:=hid (K.out.trans ((Ad _ _).trans q));replace LX:=hid hX;clear hX q)
      | (go_at_call 41;refine (HF2.out _ _ (HK.out.trans K.out) LX.out).mono ?_;rintro e w2 ⟨q,u,rfl,hd⟩;obtain ⟨A',l',c',rfl,-,hd,g1,g2⟩:=hd.shape;have HD:=hid hd;replace K:=hid (K.out.trans q);clear hd q;have hb:=HB.out.kept K.out;obtain ⟨hsz,c0,c1,c2,f0,f1,f2⟩:=hb.facts;have HB2:=hid hb;clear hb)
      | (go_at_call 174;refine (Fo _ _ _).mono ?_;rintro e w3 ⟨he,rfl⟩;rcases Ex he with ⟨hk,rfl⟩ | ⟨hk,rfl⟩<;>(have HKK:=hid hk;clear hk he)))
     ·exact By (Be (HB2.out.laid _ _ _) _) rfl rfl rfl ⟨(Am (HK.out.trans K.out) (Nat.le_refl _)).trans (Ad _ _),.inl ⟨HKK.out,_,rfl,((HD.out.dyW HB2.out (Ag _) (Ae _ _ _) (Ah _)).kept (Ad _ _)).dyR g1 g2⟩⟩
     ·exact ⟨rfl,(HK.out.trans K.out).trans (Ad _ _),.inr ⟨HKK.out,rfl⟩⟩
  ·have hc:(Ie m true p).1=true:=by
    unfold Ie;simp
   rw [Wu m true p aw true hc,hj];clear hc hj hrest hn;cases aw
   ·rw [Bool.true_and,if_neg (by decide)];obtain ⟨o,ho⟩:∃ o,o=Bw neg (m/2^j) (e+((j:Nat):Int)):=⟨_,rfl⟩;have hf2:=fun w1 u (k:Kept w w1) (hu:Lim w1 u (Aj (m/2^j)))=>HFI.out w1 u (m/2^j) j k hu (Nat.le_succ_of_le (Nat.div_le_self _ _)) HJ.out
    rw [←ho] at hf2 ⊢
    skip
    have HF2:=hid hf2;clear ho hf2;go_enter Tryz.func171,Tryz.ntmps171
    go_wp2_with (first
     | (go_at_call 112;rw [←HW.out];refine (HSZ.out _ HK.out).mono ?_;rintro e w1 ⟨rfl,q,hq⟩;have K:=hid (show Kept W w1 from hq▸Kept.drewN (Below.refl W.heap.size W) q);clear hq;replace HW:True:=trivial;have LX:=hid (HLI.out.kept (HK.out.trans K.out)))
     | (go_at_call 116;refine (HZE.out _ (HK.out.trans K.out) HM0.out).mono ?_;rintro e w1 ⟨rfl,q,hq⟩;replace K:=hid (show Kept W w1 from hq▸Kept.drewN K.out q);clear hq)
     | (go_at_call 117;refine (HRI.out _ (HK.out.trans K.out) _ HJ.out).mono ?_;rintro e w1 ⟨X,rfl,hX,q⟩;replace K:=hid (K.out.trans q);replace LX:=hid hX;clear hX q)
     | (go_at_call 194;refine (HPL.out _ _ _ (LX.out.kept (Ad _ _)) (by first | exact Nat.div_le_self _ _ | exact Nat.le_refl _) _ (F0 _ 1 (by decide) (by decide))).mono ?_;rintro e w1 ⟨X,rfl,hX,q⟩;replace K:=hid (K.out.trans ((Ad _ _).trans q));replace LX:=hid hX;clear hX q)
     | (go_at_call 41;refine (HF2.out _ _ (HK.out.trans K.out) LX.out).mono ?_;rintro e w2 ⟨q,u,rfl,hd⟩;obtain ⟨A',l',c',rfl,-,hd,g1,g2⟩:=hd.shape;have HD:=hid hd;replace K:=hid (K.out.trans q);clear hd q;have hb:=HB.out.kept K.out;obtain ⟨hsz,c0,c1,c2,f0,f1,f2⟩:=hb.facts;have HB2:=hid hb;clear hb)
     | (go_at_call 174;refine (Fo _ _ _).mono ?_;rintro e w3 ⟨he,rfl⟩;rcases Ex he with ⟨hk,rfl⟩ | ⟨hk,rfl⟩<;>(have HKK:=hid hk;clear hk he)))
    ·exact By (Be (HB2.out.laid _ _ _) _) rfl rfl rfl ⟨(Am (HK.out.trans K.out) (Nat.le_refl _)).trans (Ad _ _),.inl ⟨HKK.out,_,rfl,((HD.out.dyW HB2.out (Ag _) (Ae _ _ _) (Ah _)).kept (Ad _ _)).dyR g1 g2⟩⟩
    ·exact ⟨rfl,(HK.out.trans K.out).trans (Ad _ _),.inr ⟨HKK.out,rfl⟩⟩
   ·rw [Bool.true_and,if_pos rfl];obtain ⟨o,ho⟩:∃ o,o=Bw neg (m/2^j+1) (e+((j:Nat):Int)):=⟨_,rfl⟩;have hf2:=fun w1 u (k:Kept w w1) (hu:Lim w1 u (Aj (m/2^j+1)))=>HFI.out w1 u (m/2^j+1) j k hu (Nat.succ_le_succ (Nat.div_le_self _ _)) HJ.out
    rw [←ho] at hf2 ⊢
    skip
    have HF2:=hid hf2;clear ho hf2;go_enter Tryz.func171,Tryz.ntmps171
    go_wp2_with (first
     | (go_at_call 112;rw [←HW.out];refine (HSZ.out _ HK.out).mono ?_;rintro e w1 ⟨rfl,q,hq⟩;have K:=hid (show Kept W w1 from hq▸Kept.drewN (Below.refl W.heap.size W) q);clear hq;replace HW:True:=trivial;have LX:=hid (HLI.out.kept (HK.out.trans K.out)))
     | (go_at_call 116;refine (HZE.out _ (HK.out.trans K.out) HM0.out).mono ?_;rintro e w1 ⟨rfl,q,hq⟩;replace K:=hid (show Kept W w1 from hq▸Kept.drewN K.out q);clear hq)
     | (go_at_call 117;refine (HRI.out _ (HK.out.trans K.out) _ HJ.out).mono ?_;rintro e w1 ⟨X,rfl,hX,q⟩;replace K:=hid (K.out.trans q);replace LX:=hid hX;clear hX q)
     | (go_at_call 194;refine (HPL.out _ _ _ (LX.out.kept (Ad _ _)) (by first | exact Nat.div_le_self _ _ | exact Nat.le_refl _) _ (F0 _ 1 (by decide) (by decide))).mono ?_;rintro e w1 ⟨X,rfl,hX,q⟩;replace K:=hid (K.out.trans ((Ad _ _).trans q));replace LX:=hid hX;clear hX q)
     | (go_at_call 41;refine (HF2.out _ _ (HK.out.trans K.out) LX.out).mono ?_;rintro e w2 ⟨q,u,rfl,hd⟩;obtain ⟨A',l',c',rfl,-,hd,g1,g2⟩:=hd.shape;have HD:=hid hd;replace K:=hid (K.out.trans q);clear hd q;have hb:=HB.out.kept K.out;obtain ⟨hsz,c0,c1,c2,f0,f1,f2⟩:=hb.facts;have HB2:=hid hb;clear hb)
     | (go_at_call 174;refine (Fo _ _ _).mono ?_;rintro e w3 ⟨he,rfl⟩;rcases Ex he with ⟨hk,rfl⟩ | ⟨hk,rfl⟩<;>(have HKK:=hid hk;clear hk he)))
    ·exact By (Be (HB2.out.laid _ _ _) _) rfl rfl rfl ⟨(Am (HK.out.trans K.out) (Nat.le_refl _)).trans (Ad _ _),.inl ⟨HKK.out,_,rfl,((HD.out.dyW HB2.out (Ag _) (Ae _ _ _) (Ah _)).kept (Ad _ _)).dyR g1 g2⟩⟩
    ·exact ⟨rfl,(HK.out.trans K.out).trans (Ad _ _),.inr ⟨HKK.out,rfl⟩⟩
 ·have hj:bl m-p=0:=by omega
  obtain ⟨i0,hi0⟩:∃ i0:Int,(bl m:Int)-(p:Int)=i0:=⟨_,rfl⟩;have hws:IntKind.i64.wrap ((bl m:Int)-(p:Int))=i0:=by rw [←hi0];simp [IntKind.wrap_i64];omega
  have hj0:decide ((0:Int)<i0)=false:=by simp;omega
  have hc:(Ie m rest p).1=rest:=by
   unfold Ie;simp only [hj];simp
  rw [Wu m rest p aw rest hc,hj];rw [Nat.pow_zero,Nat.div_one];have HJ:=hid (show (0:Nat)≤1280000 by omega);clear hc hj hn hi0;cases rest
  ·rw [Bool.false_and,if_neg (by decide)];obtain ⟨o,ho⟩:∃ o,o=Bw neg m (e+((0:Nat):Int)):=⟨_,rfl⟩;have hf2:=fun w1 u (k:Kept w w1) (hu:Lim w1 u (Aj m))=>HFI.out w1 u m 0 k hu (Nat.le_succ _) HJ.out
   rw [←ho] at hf2 ⊢;simp only [Int.natCast_zero,Int.add_zero] at hf2 ho;have HF2:=hid hf2;clear ho hf2;go_enter Tryz.func171,Tryz.ntmps171
   go_wp2_with (first
    | (go_at_call 112;rw [←HW.out];refine (HSZ.out _ HK.out).mono ?_;rintro e w1 ⟨rfl,q,hq⟩;have K:=hid (show Kept W w1 from hq▸Kept.drewN (Below.refl W.heap.size W) q);clear hq;replace HW:True:=trivial;have LX:=hid (HLI.out.kept (HK.out.trans K.out)))
    | (go_at_call 116;refine (HZE.out _ (HK.out.trans K.out) HM0.out).mono ?_;rintro e w1 ⟨rfl,q,hq⟩;replace K:=hid (show Kept W w1 from hq▸Kept.drewN K.out q);clear hq)
    | (go_at_call 117;refine (HRI.out _ (HK.out.trans K.out) _ HJ.out).mono ?_;rintro e w1 ⟨X,rfl,hX,q⟩;replace K:=hid (K.out.trans q);replace LX:=hid hX;clear hX q)
    | (go_at_call 194;refine (HPL.out _ _ _ (LX.out.kept (Ad _ _)) (by first | exact Nat.div_le_self _ _ | exact Nat.le_refl _) _ (F0 _ 1 (by decide) (by decide))).mono ?_;rintro e w1 ⟨X,rfl,hX,q⟩;replace K:=hid (K.out.trans ((Ad _ _).trans q));replace LX:=hid hX;clear hX q)
    | (go_at_call 41;refine (HF2.out _ _ (HK.out.trans K.out) LX.out).mono ?_;rintro e w2 ⟨q,u,rfl,hd⟩;obtain ⟨A',l',c',rfl,-,hd,g1,g2⟩:=hd.shape;have HD:=hid hd;replace K:=hid (K.out.trans q);clear hd q;have hb:=HB.out.kept K.out;obtain ⟨hsz,c0,c1,c2,f0,f1,f2⟩:=hb.facts;have HB2:=hid hb;clear hb)
    | (go_at_call 174;refine (Fo _ _ _).mono ?_;rintro e w3 ⟨he,rfl⟩;rcases Ex he with ⟨hk,rfl⟩ | ⟨hk,rfl⟩<;>(have HKK:=hid hk;clear hk he)))
   ·exact By (Be (HB2.out.laid _ _ _) _) rfl rfl rfl ⟨(Am (HK.out.trans K.out) (Nat.le_refl _)).trans (Ad _ _),.inl ⟨HKK.out,_,rfl,((HD.out.dyW HB2.out (Ag _) (Ae _ _ _) (Ah _)).kept (Ad _ _)).dyR g1 g2⟩⟩
   ·exact ⟨rfl,(HK.out.trans K.out).trans (Ad _ _),.inr ⟨HKK.out,rfl⟩⟩
  ·cases aw
   ·rw [Bool.true_and,if_neg (by decide)];obtain ⟨o,ho⟩:∃ o,o=Bw neg m (e+((0:Nat):Int)):=⟨_,rfl⟩;have hf2:=fun w1 u (k:Kept w w1) (hu:Lim w1 u (Aj m))=>HFI.out w1 u m 0 k hu (Nat.le_succ _) HJ.out
    rw [←ho] at hf2 ⊢;simp only [Int.natCast_zero,Int.add_zero] at hf2 ho;have HF2:=hid hf2;clear ho hf2;go_enter Tryz.func171,Tryz.ntmps171
    go_wp2_with (first
     | (go_at_call 112;rw [←HW.out];refine (HSZ.out _ HK.out).mono ?_;rintro e w1 ⟨rfl,q,hq⟩;have K:=hid (show Kept W w1 from hq▸Kept.drewN (Below.refl W.heap.size W) q);clear hq;replace HW:True:=trivial;have LX:=hid (HLI.out.kept (HK.out.trans K.out)))
     | (go_at_call 116;refine (HZE.out _ (HK.out.trans K.out) HM0.out).mono ?_;rintro e w1 ⟨rfl,q,hq⟩;replace K:=hid (show Kept W w1 from hq▸Kept.drewN K.out q);clear hq)
     | (go_at_call 117;refine (HRI.out _ (HK.out.trans K.out) _ HJ.out).mono ?_;rintro e w1 ⟨X,rfl,hX,q⟩;replace K:=hid (K.out.trans q);replace LX:=hid hX;clear hX q)
     | (go_at_call 194;refine (HPL.out _ _ _ (LX.out.kept (Ad _ _)) (by first | exact Nat.div_le_self _ _ | exact Nat.le_refl _) _ (F0 _ 1 (by decide) (by decide))).mono ?_;rintro e w1 ⟨X,rfl,hX,q⟩;replace K:=hid (K.out.trans ((Ad _ _).trans q));replace LX:=hid hX;clear hX q)
     | (go_at_call 41;refine (HF2.out _ _ (HK.out.trans K.out) LX.out).mono ?_;rintro e w2 ⟨q,u,rfl,hd⟩;obtain ⟨A',l',c',rfl,-,hd,g1,g2⟩:=hd.shape;have HD:=hid hd;replace K:=hid (K.out.trans q);clear hd q;have hb:=HB.out.kept K.out;obtain ⟨hsz,c0,c1,c2,f0,f1,f2⟩:=hb.facts;have HB2:=hid hb;clear hb)
     | (go_at_call 174;refine (Fo _ _ _).mono ?_;rintro e w3 ⟨he,rfl⟩;rcases Ex he with ⟨hk,rfl⟩ | ⟨hk,rfl⟩<;>(have HKK:=hid hk;clear hk he)))
    ·exact By (Be (HB2.out.laid _ _ _) _) rfl rfl rfl ⟨(Am (HK.out.trans K.out) (Nat.le_refl _)).trans (Ad _ _),.inl ⟨HKK.out,_,rfl,((HD.out.dyW HB2.out (Ag _) (Ae _ _ _) (Ah _)).kept (Ad _ _)).dyR g1 g2⟩⟩
    ·exact ⟨rfl,(HK.out.trans K.out).trans (Ad _ _),.inr ⟨HKK.out,rfl⟩⟩
   ·rw [Bool.true_and,if_pos rfl];obtain ⟨o,ho⟩:∃ o,o=Bw neg (m+1) (e+((0:Nat):Int)):=⟨_,rfl⟩;have hf2:=fun w1 u (k:Kept w w1) (hu:Lim w1 u (Aj (m+1)))=>HFI.out w1 u (m+1) 0 k hu (Nat.le_refl _) HJ.out
    rw [←ho] at hf2 ⊢;simp only [Int.natCast_zero,Int.add_zero] at hf2 ho;have HF2:=hid hf2;clear ho hf2;go_enter Tryz.func171,Tryz.ntmps171
    go_wp2_with (first
     | (go_at_call 112;rw [←HW.out];refine (HSZ.out _ HK.out).mono ?_;rintro e w1 ⟨rfl,q,hq⟩;have K:=hid (show Kept W w1 from hq▸Kept.drewN (Below.refl W.heap.size W) q);clear hq;replace HW:True:=trivial;have LX:=hid (HLI.out.kept (HK.out.trans K.out)))
     | (go_at_call 116;refine (HZE.out _ (HK.out.trans K.out) HM0.out).mono ?_;rintro e w1 ⟨rfl,q,hq⟩;replace K:=hid (show Kept W w1 from hq▸Kept.drewN K.out q);clear hq)
     | (go_at_call 117;refine (HRI.out _ (HK.out.trans K.out) _ HJ.out).mono ?_;rintro e w1 ⟨X,rfl,hX,q⟩;replace K:=hid (K.out.trans q);replace LX:=hid hX;clear hX q)
     | (go_at_call 194;refine (HPL.out _ _ _ (LX.out.kept (Ad _ _)) (by first | exact Nat.div_le_self _ _ | exact Nat.le_refl _) _ (F0 _ 1 (by decide) (by decide))).mono ?_;rintro e w1 ⟨X,rfl,hX,q⟩;replace K:=hid (K.out.trans ((Ad _ _).trans q));replace LX:=hid hX;clear hX q)
     | (go_at_call 41;refine (HF2.out _ _ (HK.out.trans K.out) LX.out).mono ?_;rintro e w2 ⟨q,u,rfl,hd⟩;obtain ⟨A',l',c',rfl,-,hd,g1,g2⟩:=hd.shape;have HD:=hid hd;replace K:=hid (K.out.trans q);clear hd q;have hb:=HB.out.kept K.out;obtain ⟨hsz,c0,c1,c2,f0,f1,f2⟩:=hb.facts;have HB2:=hid hb;clear hb)
     | (go_at_call 174;refine (Fo _ _ _).mono ?_;rintro e w3 ⟨he,rfl⟩;rcases Ex he with ⟨hk,rfl⟩ | ⟨hk,rfl⟩<;>(have HKK:=hid hk;clear hk he)))
    ·exact By (Be (HB2.out.laid _ _ _) _) rfl rfl rfl ⟨(Am (HK.out.trans K.out) (Nat.le_refl _)).trans (Ad _ _),.inl ⟨HKK.out,_,rfl,((HD.out.dyW HB2.out (Ag _) (Ae _ _ _) (Ah _)).kept (Ad _ _)).dyR g1 g2⟩⟩
    ·exact ⟨rfl,(HK.out.trans K.out).trans (Ad _ _),.inr ⟨HKK.out,rfl⟩⟩
def BlkD (w:World) (b:Nat) (d:Dy):Prop:=∃ A l c,Blk w b (.bool d.neg) (.slice A l c) (.int .i64 d.e)∧DyR w (.agg #[.bool d.neg,.slice A l c,.int .i64 d.e]) d.raw
theorem BlkD.kept {w w':World}{b:Nat}{d:Dy}(h:BlkD w b d)(k:Kept w w'):BlkD w' b d:=by
 obtain ⟨A,l,c,h1,h2⟩:=h;exact ⟨A,l,c,h1.kept k,h2.kept k⟩
theorem Ai0 {w:World}{s:Value}{d:Dy}(h:DyR w (.agg #[.bool d.neg,s,.int .i64 d.e]) d.raw) :
 DyS (w.alloc (.cells #[.bool d.neg,s,.int .i64 d.e] 28)) (.slice (some ⟨w.heap.size,0,none⟩) 1 1) [d]:=by
 refine ⟨_,1,rfl,Nat.le_refl _,fun _=>⟨_,_,rfl,fun i x hi=>?_⟩⟩;have:i=0:=by
  have:=(List.getElem?_eq_some_iff.1 hi).1;simp at this;exact this
 subst this;simp at hi;subst hi;obtain ⟨_,c0,c1,c2,_⟩:=(Bk w (.bool d.neg) s (.int .i64 d.e)).facts;exact ⟨s,c0,c1,c2,h.kept (Ad _ _)⟩
theorem Ys {w:World}{s:Value}{d:Dy}{n:Nat}(hn:w.heap.size=n)(h:DyR w (.agg #[.bool d.neg,s,.int .i64 d.e]) d.raw) :
 DyS (w.alloc (.cells #[.bool d.neg,s,.int .i64 d.e] 28)) (.slice (some ⟨n,0,none⟩) 1 1) [d]:=by
 subst hn;exact Ai0 h
theorem Al5 (w:World):∃ W,W=w.alloc (.cells #[.bool false,.slice none 0 0,.int .i64 0] 28)∧Kept w W∧Blk W w.heap.size (.bool false) (.slice none 0 0) (.int .i64 0)∧W.heap.size=w.heap.size+1 :=
 ⟨_,rfl,Ad _ _,Ds w,by simp⟩
theorem Afs (d:Dy)(p:Nat)(up:Bool):(Cw d p up).raw.k≠0→(Cw d p up).raw.v=rz:=by
 intro h
 show ((Cw d p up).v).raw=rz
 rw [(Hd d p up).2 h,E5]
theorem Yo {w:World}{d:Dy}{p:Nat}{up:Bool}{bp bd bu:Nat}(hd:d.Ok)(hT:Tab w)(p1:1≤p)(p2:p≤2000)
 (cp:w.cell? ⟨bp,0,none⟩=some (.int .i64 p)) (cd:BlkD w bd d) (cu:w.cell? ⟨bu,0,none⟩=some (.bool up)) :
 Calls Tryz.prog 169 #[.pointer (some ⟨bp,0,none⟩),.pointer (some ⟨bd,0,none⟩),.pointer (some ⟨bu,0,none⟩)] w (Goes 185 (Cw d p up).raw w):=by
 obtain ⟨A,l,c,hb,hR⟩:=cd;have x1:=hd.lo;have x2:=hd.hi;have hl:=hd.len
 have hc:=fun w1 (k:Kept w w1)=>Afr (v:=.slice A l c) (m:=d.m) (p:=p) (e:=d.e) d.neg false up (w:=w1)
  (by
    obtain ⟨A',l',c',he,-,hlim,-,-⟩:=hR.shape;injection he with he;injection he with he
    simp only [List.cons.injEq,and_true] at he;have e1:=he.2.1;rw [←e1] at hlim;exact ⟨hlim.kept k,Nat.le_trans hl (by decide),by omega,by omega,p1,p2,hT.kept k⟩)
 have hm:=fun w1 (k:Kept w w1) v (hv:DyS w1 v [d])=>Abu hv (by intro x hx;simp at hx;subst hx;exact hd) (by simp) (by omega:(1:Int)≤(p:Int)) (by omega)
 obtain ⟨W,hW,kW,BR,sW⟩:=Al5 w;have hone:=Ys sW (hR.kept kW);have lp:=Aq cp;have lu:=Aq cu;simp only at lp lu;have HC:=hid hc;have HM:=hid hm;have HO:=hid hone;have HB:=hid hb;have CP:=hid cp;have CU:=hid cu;obtain ⟨lb,b0,b1,b2,-⟩:=hb.facts;clear hc hm hone hb hR hd hT x1 x2 hl p1 p2;have ho:Iu d.neg d.m d.e false p up=Cw d p up:=rfl;rw [ho] at HC;clear ho;generalize Cw d p up=o at *;have HK:=hid kW;have HR:=hid BR;have HW:=hid hW;clear hW kW BR sW;generalize d.neg=nd at *;generalize d.e=ed at *;go_enter Tryz.func169,Tryz.ntmps169
 go_wp2_with (go_at_call 170;rw [←HW.out];refine (HM.out _ (HK.out.trans (Ad _ _)) _ HO.out).mono ?_;rintro e w1 ⟨rfl,q⟩;have K:=hid (HK.out.trans ((Ad _ _).trans q));have hr:=HR.out.kept ((Ad _ _).trans q);have HR2:=hid hr;clear q hr b0 b1 b2 cp cu;have cp:=Al K.out CP.out;have cu:=Al K.out CU.out;obtain ⟨-,b0,b1,b2,-⟩:=(HB.out.kept K.out).facts)
 refine (HC.out _ K.out).mono ?_;rintro e w2 ⟨q,⟨h0,u,rfl,hd⟩ | ⟨h0,rfl⟩⟩
 ·obtain ⟨A',l',c',rfl,hd,g1,g2⟩:=D4 hd;have hr:=HR2.out.kept q;obtain ⟨_,r0,r1,r2,f0,f1,f2⟩:=hr.facts;have HD:=hid hd;have H0:=hid h0;have HR3:=hid hr;have Q:=hid q;clear hd h0 hr q;simp only [];go_wp2_with fail;exact By (HR3.out.laid _ _ _) rfl rfl rfl ⟨Am (K.out.trans Q.out) (Nat.le_refl _),.inl ⟨H0.out,_,rfl,(HD.out.dyW HR3.out (Ag _) (Ae _ _ _) (Ah _)).dyR g1 g2⟩⟩
 ·exact ⟨rfl,K.out.trans q,.inr ⟨h0,rfl⟩⟩
theorem Afk (w:World)(x y z p u:Value):∃ W,W=(((w.alloc (.cells #[x,y,z] 28)).alloc (.cells #[p] 3)).alloc (.cells #[u] 4)).alloc (.cells #[.bool false,.slice none 0 0,.int .i64 0] 28) ∧
 Kept w W∧Blk W w.heap.size x y z∧W.cell? ⟨w.heap.size+1,0,none⟩=some p∧W.cell? ⟨w.heap.size+1+1,0,none⟩=some u∧Blk W (w.heap.size+1+1+1) (.bool false) (.slice none 0 0) (.int .i64 0) :=
 ⟨_, rfl, (((Ad         _ _).trans (Ad         _ _)).trans (Ad         _ _)).trans (Ad         _ _), Be        (Be        (Be        (Bk      _ _ _ _) _) _) _,
  Al (Ad _ _) (Al (Ad _ _) (Ajy _ _ _ _)),Al (Ad _ _) (Ajz _ _ _ _ _),Sn _ _ _ _ _ _ _⟩
theorem Bg {w:World}{v:Value}{d:Dy}(h:DyR w v d.raw):∃ A l c,v=.agg #[.bool d.neg,.slice A l c,.int .i64 d.e]∧DyR w (.agg #[.bool d.neg,.slice A l c,.int .i64 d.e]) d.raw:=by
 obtain ⟨A,l,c,rfl,-,-,-,-⟩:=h.shape;exact ⟨A,l,c,rfl,h⟩
theorem Sy {w:World}{v:Value}{d:Dy}{p:Nat}{up:Bool}(hv:DyR w v d.raw)(hd:d.Ok)(hT:Tab w)(p1:1≤p)(p2:p≤2000) :
 Calls Tryz.prog 123 #[v,.int .i64 p,.bool up] w (RetE (Cw d p up).raw w):=by
 have hmf:=Gn;obtain ⟨A,l,c,rfl,hv⟩:=Bg hv;obtain ⟨W,hW,kW,B0,cp,cu,BR⟩:=Afk w (.bool d.neg) (.slice A l c) (.int .i64 d.e) (.int .i64 p) (.bool up)
 have hf:=W3 (w:=W) (K:=169) (cap:=#[.pointer (some ⟨w.heap.size+1,0,none⟩),.pointer (some ⟨w.heap.size,0,none⟩),.pointer (some ⟨w.heap.size+1+1,0,none⟩)]) (o:=(Cw d p up).raw)
  (fun w1 k=>Yo hd (hT.kept (kW.trans k)) p1 p2 (Al k cp) ⟨A,l,c,B0.kept k,hv.kept (kW.trans k)⟩ (Al k cu)) (Afs d p up) (fun _=>rfl)
 have HF:=hid hf;have HW:=hid hW;have HK:=hid kW;have HR:=hid BR;clear hf hW kW B0 cp cu BR hv hd hT p1 p2;generalize Cw d p up=o at *;generalize d.neg=nd at *;generalize d.e=ed at *;go_enter Tryz.func123,Tryz.ntmps123
 go_wp2_with (go_at_call 168;rw [←HW.out];refine HF.out.mono ?_;rintro e w1 ⟨q,u,rfl,hd⟩;obtain ⟨A',l',c',rfl,hd,g3,g4⟩:=D4 hd;have HD:=hid hd;have hb2:=HR.out.kept q;obtain ⟨_,c0,c1,c2,f0,f1,f2⟩:=hb2.facts;have HB2:=hid hb2;clear hd hb2)
 exact D7 (HB2.out.laid _ _ _) rfl rfl rfl ⟨Am (HK.out.trans q) (by omega),_,rfl,(HD.out.dyW HB2.out (Ag _) (Ae _ _ _) (Ah _)).dyR g3 g4⟩
theorem Lb (w:World)(x y z:Value):∃ W,W=(w.alloc (.cells #[x,y,z] 28)).alloc (.cells #[.bool false,.slice none 0 0,.int .i64 0] 28) ∧
 Kept w W∧Blk W w.heap.size x y z∧Blk W (w.heap.size+1) (.bool false) (.slice none 0 0) (.int .i64 0) :=
 ⟨_,rfl,(Ad _ _).trans (Ad _ _),Be (Bk _ _ _ _) _,Dt _ _ _ _ _⟩
theorem Oi {w:World}{v:Value}{d:Dy}{p:Nat}(hv:DyR w v d.raw)(hd:d.Ok)(hT:Tab w)(p1:1≤p)(p2:p≤2000) :
 Calls Tryz.prog 91 #[v,.int .i64 p] w (RetE (Cw d p false).raw w):=by
 have hc:=fun w1 (k:Kept w w1)=>Sy (up:=false) (hv.kept k) hd (hT.kept k) p1 p2
 obtain ⟨A,l,c,rfl,hv⟩:=Bg hv;obtain ⟨W,hW,kW,B0,BR⟩:=Lb w (.bool d.neg) (.slice A l c) (.int .i64 d.e);have HC:=hid hc;have HW:=hid hW;have HK:=hid kW;have HR:=hid BR;clear hc hW kW B0 BR hv hd hT p1 p2;generalize Cw d p false=o at *;generalize d.neg=nd at *;generalize d.e=ed at *;go_enter Tryz.func91,Tryz.ntmps91
 go_wp2_with (go_at_call 123;rw [←HW.out];refine (HC.out _ HK.out).mono ?_;rintro e w1 ⟨q,u,rfl,hd⟩;obtain ⟨A',l',c',rfl,hd,g3,g4⟩:=D4 hd;have HD:=hid hd;have hb2:=HR.out.kept q;obtain ⟨_,c0,c1,c2,f0,f1,f2⟩:=hb2.facts;have HB2:=hid hb2;clear hd hb2)
 exact D7 (HB2.out.laid _ _ _) rfl rfl rfl ⟨Am (HK.out.trans q) (by omega),_,rfl,(HD.out.dyW HB2.out (Ag _) (Ae _ _ _) (Ah _)).dyR g3 g4⟩
theorem Aaq {w:World}{v:Value}{d:Dy}{p:Nat}(hv:DyR w v d.raw)(hd:d.Ok)(hT:Tab w)(p1:1≤p)(p2:p≤2000) :
 Calls Tryz.prog 92 #[v,.int .i64 p] w (RetE (Cw d p true).raw w):=by
 have hc:=fun w1 (k:Kept w w1)=>Sy (up:=true) (hv.kept k) hd (hT.kept k) p1 p2
 obtain ⟨A,l,c,rfl,hv⟩:=Bg hv;obtain ⟨W,hW,kW,B0,BR⟩:=Lb w (.bool d.neg) (.slice A l c) (.int .i64 d.e);have HC:=hid hc;have HW:=hid hW;have HK:=hid kW;have HR:=hid BR;clear hc hW kW B0 BR hv hd hT p1 p2;generalize Cw d p true=o at *;generalize d.neg=nd at *;generalize d.e=ed at *;go_enter Tryz.func92,Tryz.ntmps92
 go_wp2_with (go_at_call 123;rw [←HW.out];refine (HC.out _ HK.out).mono ?_;rintro e w1 ⟨q,u,rfl,hd⟩;obtain ⟨A',l',c',rfl,hd,g3,g4⟩:=D4 hd;have HD:=hid hd;have hb2:=HR.out.kept q;obtain ⟨_,c0,c1,c2,f0,f1,f2⟩:=hb2.facts;have HB2:=hid hb2;clear hd hb2)
 exact D7 (HB2.out.laid _ _ _) rfl rfl rfl ⟨Am (HK.out.trans q) (by omega),_,rfl,(HD.out.dyW HB2.out (Ag _) (Ae _ _ _) (Ah _)).dyR g3 g4⟩
theorem R8 {w:World}{s s':Value}{d d':Dy}{n:Nat}(hn:w.heap.size=n)(h:DyR w (.agg #[.bool d.neg,s,.int .i64 d.e]) d.raw)(h':DyR w (.agg #[.bool d'.neg,s',.int .i64 d'.e]) d'.raw) :
 DyS (w.alloc (.cells #[.bool d.neg,s,.int .i64 d.e,.bool d'.neg,s',.int .i64 d'.e] 28)) (.slice (some ⟨n,0,none⟩) 2 2) [d,d']:=by
 subst hn;refine ⟨_,2,rfl,Nat.le_refl _,fun _=>⟨_,_,rfl,fun i x hi=>?_⟩⟩;have hb:=heap_alloc_new w (.cells #[.bool d.neg,s,.int .i64 d.e,.bool d'.neg,s',.int .i64 d'.e] 28);have hlt:i<2:=by
  have:=(List.getElem?_eq_some_iff.1 hi).1;simpa using this
 rcases i with _ | _ | i
 ·simp at hi;subst hi;exact ⟨s,Ab hb 0 _ rfl,Ab hb 1 _ rfl,Ab hb 2 _ rfl,h.kept (Ad _ _)⟩
 ·simp at hi;subst hi;exact ⟨s',Ab hb 3 _ rfl,Ab hb 4 _ rfl,Ab hb 5 _ rfl,h'.kept (Ad _ _)⟩
 ·omega
def Ch (a b:Dy) (p:Nat) (up:Bool):Outc Dy:=if b.m=0 then bad 4 else Bh a b p up
theorem Js (a b:Dy)(p:Nat)(up:Bool):(Ch a b p up).Ok:=by
 unfold Ch;split
 ·exact Mh _
 ·exact Es _ _ _ _
theorem Aki {w:World}{x y:Dy}{p:Nat}{up:Bool}{bp bx bY bu:Nat}(hx:x.Ok)(hy:y.Ok)(hT:Tab w)(p1:1≤p)(p2:p≤2000)
 (cp:w.cell? ⟨bp,0,none⟩=some (.int .i64 p)) (cx:BlkD w bx x) (cy:BlkD w bY y) (cu:w.cell? ⟨bu,0,none⟩=some (.bool up)) :
 Calls Tryz.prog 173 #[.pointer (some ⟨bp,0,none⟩),.pointer (some ⟨bx,0,none⟩),.pointer (some ⟨bY,0,none⟩),.pointer (some ⟨bu,0,none⟩)] w (Goes 185 (Ch x y p up).raw w):=by
 obtain ⟨A,l,c,hbx,hRx⟩:=cx;obtain ⟨A2,l2,c2,hby,hRy⟩:=cy;obtain ⟨W,hW,kW,BR,sW⟩:=Al5 w;have htwo:=R8 sW (hRx.kept kW) (hRy.kept kW);have hm:=fun w1 (k:Kept w w1) v (hv:DyS w1 v [x,y])=>Abu hv (by intro z hz;simp at hz;rcases hz with rfl | rfl;exact hx;exact hy) (by simp) (by omega:(1:Int)≤(p:Int)) (by omega)
 have HM:=hid hm;have HO:=hid htwo;have HW:=hid hW;have HK:=hid kW;have HR:=hid BR;have HBX:=hid hbx;have HBY:=hid hby;have CP:=hid cp;have CU:=hid cu;have lp:=Aq cp;have lu:=Aq cu;simp only at lp lu;obtain ⟨lbx,x0,x1,x2,-⟩:=hbx.facts;obtain ⟨lby,y0,y1,y2,-⟩:=hby.facts;clear hm htwo hW kW BR sW hbx hby;by_cases h0:y.m=0
 ·unfold Ch;rw [if_pos h0];have hl2:l2=0:=by
   obtain ⟨A',l',c',he,hl',-,-,-⟩:=hRy.shape;injection he with he;injection he with he
   simp only [List.cons.injEq,and_true] at he;have e1:=he.2.1;injection e1 with _ e2 _
   rw [e2,hl'];simp only [Dy.raw];rw [h0,Ay];rfl
  subst hl2;clear hRx hRy hx hy hT p1 p2 h0;generalize x.neg=n1 at *;generalize x.e=e1 at *;generalize y.neg=n2 at *;generalize y.e=e2 at *;go_enter Tryz.func173,Tryz.ntmps173
  go_wp2_with (first
   | (go_at_call 170;rw [←HW.out];refine (HM.out _ (HK.out.trans (Ad _ _)) _ HO.out).mono ?_;rintro e w1 ⟨rfl,q⟩;have K:=hid (HK.out.trans ((Ad _ _).trans q));have hr:=HR.out.kept ((Ad _ _).trans q);have HR2:=hid hr;clear q hr x0 x1 x2 y0 y1 y2 cp cu;have cp:=Al K.out CP.out;have cu:=Al K.out CU.out;obtain ⟨-,x0,x1,x2,-⟩:=(HBX.out.kept K.out).facts;obtain ⟨-,y0,y1,y2,-⟩:=(HBY.out.kept K.out).facts)
   | (go_at_call 174;refine (Fo _ _ _).mono ?_;rintro e w3 ⟨he,rfl⟩;obtain rfl:e=.panicked (Bs 185 _):=he))
  exact ⟨rfl,K.out,.inr ⟨by decide,rfl⟩⟩
 ·unfold Ch;rw [if_neg h0];have bx1:=Df x.m 64 hx.len;have by1:=Df y.m 64 hy.len;have xl:=hx.lo;have xh:=hx.hi;have yl:=hy.lo;have yh:=hy.hi;obtain ⟨kk,hK⟩:∃ kk,kk=Bu x y p:=⟨_,rfl⟩;have hKle:kk≤6200:=by rw [hK];unfold Bu;omega
  have limx:Lim w (.slice A l c) (Aj x.m):=by
   obtain ⟨A',l',c',he,-,hlim,-,-⟩:=hRx.shape;injection he with he;injection he with he
   simp only [List.cons.injEq,and_true] at he;rw [he.2.1];exact hlim
  have limy:Lim w (.slice A2 l2 c2) (Aj y.m):=by
   obtain ⟨A',l',c',he,-,hlim,-,-⟩:=hRy.shape;injection he with he;injection he with he
   simp only [List.cons.injEq,and_true] at he;rw [he.2.1];exact hlim
  have hl2:0<l2:=by
   obtain ⟨A',l',c',he,hl',-⟩:=limy.shape;injection he with e1 e2 e3
   rw [e2,hl'];exact Bj y.m h0
  have hs1:=fun w1 (k:Kept w w1)=>Lz (limx.kept k) (by have:=hx.len;omega)
  have hs2:=fun w1 (k:Kept w w1)=>Lz (limy.kept k) (by have:=hy.len;omega)
  have hle:=fun w1 (k:Kept w w1)=>Mp (limx.kept k) kk (by have:=hx.len;omega) (by omega)
  have blX:bl (x.m*2^kk)≤10296:=by
   by_cases hz:x.m=0
   ·rw [hz,Nat.zero_mul,Gr];omega
   ·rw [Hq _ _ hz];omega
  have lenX:=Dc (x.m*2^kk) 161 (by omega);have hqr:=fun w1 u (k:Kept w w1) (hu:Lim w1 u (Aj (x.m*2^kk)))=>Zk hu (limy.kept k) (by omega) (by have:=hy.len;omega) h0
  have hcu:=fun w1 u (rb:Bool) (k:Kept w w1) (hu:Lim w1 u (Aj (x.m*2^kk/y.m)))=>Afr (v:=u) (m:=x.m*2^kk/y.m) (p:=p) (e:=x.e-y.e-kk) (x.neg != y.neg) rb up (w:=w1)
   ⟨hu,Nat.le_trans (Ec (Nat.div_le_self _ _)) (by omega),by omega,by omega,p1,p2,hT.kept k⟩
  have hout:Bh x y p up=Iu (x.neg != y.neg) (x.m*2^kk/y.m) (x.e-y.e-kk) (decide (¬x.m*2^kk%y.m=0)) p up:=by unfold Bh;rw [hK]
  obtain ⟨o,ho⟩:∃ o,o=Bh x y p up:=⟨_,rfl⟩;have hoc:=ho.trans hout;have hrl:∀ (w1:World) (v:Value),Lim w1 v (Aj (x.m*2^kk%y.m))→∃ A l c,v=.slice A l c∧decide (0<l)=decide (¬x.m*2^kk%y.m=0):=by
   intro w1 v hv;obtain ⟨A,l,c,rfl,hl,-⟩:=hv.shape;refine ⟨A,l,c,rfl,?_⟩;rw [hl];by_cases hz:x.m*2^kk%y.m=0
   ·rw [hz,Ay];rfl
   ·have:=Bj _ hz;simp [hz];omega
  rw [←ho];obtain ⟨nb,hnb⟩:∃ nb,(x.neg != y.neg)=nb:=⟨_,rfl⟩;have hnb1:((!x.neg)==y.neg)=nb:=by rw [←hnb];cases x.neg<;>cases y.neg<;>rfl
  have hnb2:(!(x.neg==y.neg))=nb:=by rw [←hnb];cases x.neg<;>cases y.neg<;>rfl
  rw [hnb] at hcu hoc;obtain ⟨s1,hs1'⟩:∃ s:Int,(p:Int)+1=s:=⟨_,rfl⟩;obtain ⟨s2,hs2'⟩:∃ s:Int,s1+(bl y.m:Int)=s:=⟨_,rfl⟩;obtain ⟨s3,hs3'⟩:∃ s:Int,s2-(bl x.m:Int)=s:=⟨_,rfl⟩;have hw1:IntKind.i64.wrap ((p:Int)+1)=s1:=by simp [IntKind.wrap_i64];omega
  have hw2:IntKind.i64.wrap (s1+(bl y.m:Int))=s2:=by simp [IntKind.wrap_i64];omega
  have hw3:IntKind.i64.wrap (s2-(bl x.m:Int))=s3:=by simp [IntKind.wrap_i64];omega
  have hmx:max 0 s3=(kk:Int):=by rw [hK];unfold Bu;omega
  obtain ⟨d1,hd1⟩:∃ d:Int,x.e-y.e=d:=⟨_,rfl⟩;obtain ⟨d2,hd2⟩:∃ d:Int,d1-(kk:Int)=d:=⟨_,rfl⟩;have hw4:IntKind.i64.wrap (x.e-y.e)=d1:=by rw [hd1];simp [IntKind.wrap_i64];omega
  have hw5:IntKind.i64.wrap (d1-(kk:Int))=d2:=by rw [hd2];simp [IntKind.wrap_i64];omega
  rw [hd1,hd2] at hcu hoc;have hcu2:=fun w1 u (k:Kept w w1) (hu:Lim w1 u (Aj (x.m*2^kk/y.m)))=>hcu w1 u (decide (¬x.m*2^kk%y.m=0)) k hu
  rw [←hoc] at hcu2;have H1:=hid hs1;have H2:=hid hs2;have HL:=hid hle;have HQ:=hid hqr;have HC:=hid hcu2;have HRL:=hid hrl;have hl2d:decide (0<l2)=true:=by simp [hl2]
  clear hs1 hs2 hle hqr hcu hcu2 hrl hl2 hRx hRy hx hy hT p1 p2 h0 bx1 by1 xl xh yl yh limx limy blX lenX hout ho hoc hnb hs1' hs2' hs3' hd1 hd2 hK hKle;obtain ⟨rb,hrb⟩:∃ rb,decide (¬x.m*2^kk%y.m=0)=rb:=⟨_,rfl⟩;rw [hrb] at HC HRL;clear hrb;generalize Aj (x.m*2^kk)=xs at *;generalize bl x.m=b1 at *;generalize bl y.m=b2 at *;generalize x.neg=n1 at *;generalize x.e=e1 at *;generalize y.neg=n2 at *;generalize y.e=e2 at *;go_enter Tryz.func173,Tryz.ntmps173
  go_wp2_with (first
   | (go_at_call 170;rw [←HW.out];refine (HM.out _ (HK.out.trans (Ad _ _)) _ HO.out).mono ?_;rintro e w1 ⟨rfl,q⟩;have K:=hid (HK.out.trans ((Ad _ _).trans q));have hr:=HR.out.kept ((Ad _ _).trans q);have HR2:=hid hr;clear q hr x0 x1 x2 y0 y1 y2 cp cu;have cp:=Al K.out CP.out;have cu:=Al K.out CU.out;obtain ⟨-,x0,x1,x2,-⟩:=(HBX.out.kept K.out).facts;obtain ⟨-,y0,y1,y2,-⟩:=(HBY.out.kept K.out).facts)
   | (go_at_call 174;refine (Fo _ _ _).mono ?_;rintro e w3 ⟨he,rfl⟩;obtain rfl:e=.returned (.tuple #[]):=he))
  clear x0 x1 x2 y0 y1 y2 cp cu hl2d
  refine rgL 12 ([(vE (.int .i64 p)),(vE (.int .i64 s1)),(vP bY 1),(vE (.slice A2 l2 c2)),(vE (.int .i64 b2)),(vE (.int .i64 s2)),(vP bx 1),(vE (.slice A l c)),(vE (.int .i64 b1)),(vE (.int .i64 s3)),(vE (.int .i64 kk)),(vE (.int .i64 kk))])
   ⟨
    (fun aF wF F=>by have s0:=F.q 0 (.pointer (some ⟨bp,0,none⟩));exact sw (by have cq:=Al F.kept (Al K.out CP.out);go_simp) rfl),(gv 0 18),(gq 2),(gvl 2 20 fun _ k=>Ai (HBY.out.kept K.out) k 1 _ rfl),(fun aF wF F=>by have s21:=F.v 3 21;exact sQ (H2.out _ (K.out.trans F.kept)) fun _ _ h=>h),(gvv 1 19 4 22),(gq 1),(gvl 6 24 fun _ k=>Ai (HBX.out.kept K.out) k 1 _ rfl),(fun aF wF F=>by have s25:=F.v 7 25;exact sQ (H1.out _ (K.out.trans F.kept)) fun _ _ h=>h),(gvv 5 23 8 26),(gv 9 27),(gv 10 28),
    trivial⟩ ?_
  intro u w1 k1 hu;simp only [Av,An,if_true,Act.put,zlA,zlB,zlC,zlD,zlE,zlF,zlG,hv hu 0,hv hu 1,hv hu 2,hv hu 3,hv hu 4,hv hu 5,hv hu 6,hv hu 7,hv hu 8,hv hu 9,hv hu 10,hv hu 11];clear hu;have K1:=hid (K.out.trans k1);have HK1:=hid k1;clear k1 hw1 hw2 hw3 hmx;go_wp2_with fail
  refine rgL 12 ([(vP bx 1),(vE (.slice A l c)),(vE (.int .i64 kk)),(fun v wv=>Lim wv v (xs)),(vP bY 1),(vE (.slice A2 l2 c2)),(fun v wv=>∃ q r,v=.tuple #[q,r]∧Lim wv q (Aj (x.m*2^kk/y.m))∧Lim wv r (Aj (x.m*2^kk%y.m))),(fun v wv=>∃ q r,v=.tuple #[q,r]∧Lim wv q (Aj (x.m*2^kk/y.m))∧Lim wv r (Aj (x.m*2^kk%y.m))),(fun v wv=>Lim wv v (Aj (x.m*2^kk/y.m))),(fun v wv=>Lim wv v (Aj (x.m*2^kk%y.m))),(fun v wv=>Lim wv v (Aj (x.m*2^kk/y.m))),(fun v wv=>Lim wv v (Aj (x.m*2^kk%y.m)))])
   (hM:=⟨⟨mE,mE,mE,mL,mE,mE,fun v w w' k h=>by obtain ⟨q,r,e,a,b⟩:=h;exact ⟨q,r,e,a.kept k,b.kept k⟩,fun v w w' k h=>by obtain ⟨q,r,e,a,b⟩:=h;exact ⟨q,r,e,a.kept k,b.kept k⟩,mL,mL,mL,mL,trivial⟩⟩) ⟨
     (gq 1),(gvl 0 30 fun _ k=>Ai (HBX.out.kept K1.out) k 1 _ rfl),(gq 5),(fun aF wF F=>by have s31:=F.v 1 31;have s32:=F.v 2 32;exact sL (HL.out _ (K1.out.trans F.kept)) fun _ _ h=>h),(gq 2),(gvl 4 34 fun _ k=>Ai (HBY.out.kept K1.out) k 1 _ rfl),(fun aF wF F=>by have s33:=F.p 3 33;have s35:=F.v 5 35;exact Ar (by simp [Region.wanted]) (by go_simp) (HQ.out _ _ (K1.out.trans F.kept) s33) (fun _ _ h=>RetQR.good h) (fun _ _ h=>h)),(gm 6 36),(fun aF wF F=>by have s29:=F.p 7 29;obtain ⟨q,r,e,a,b⟩:=s29;exact sv a),(fun aF wF F=>by have s29:=F.p 7 29;obtain ⟨q,r,e,a,b⟩:=s29;exact sv b),(gm 8 37),(gm 9 38),
     trivial⟩ ?_
  intro u w1 k1 hu;have p33:=hp hu 3;have p36:=hp hu 6;have p29:=hp hu 7;have p37:=hp hu 8;have p38:=hp hu 9;have p6:=hp hu 10;have p7:=hp hu 11;simp only [Av,An,if_true,Act.put,zlA,zlB,zlC,zlD,zlE,zlF,zlG,hv hu 0,hv hu 1,hv hu 2,hv hu 4,hv hu 5];clear hu;generalize u 3=v33,u 6=v36,u 7=v29,u 8=v37,u 9=v38,u 10=v6,u 11=v7 at *;have K2:=hid (K1.out.trans k1);have HR3:=hid (HR2.out.kept (HK1.out.trans k1));have P37:=hid p6;obtain ⟨A3,l3,c3,rfl,hl3⟩:=HRL.out _ _ p7;clear p33 p36 p29 p37 p38 p6 p7 k1 HL HQ H1 H2;obtain ⟨-,x0,x1,x2,-⟩:=(HBX.out.kept K2.out).facts;obtain ⟨-,y0,y1,y2,-⟩:=(HBY.out.kept K2.out).facts
  have cp:=Al K2.out CP.out;have cu:=Al K2.out CU.out;go_wp2_with fail;refine (HC.out _ _ K2.out P37.out).mono ?_;rintro e w2 ⟨q,⟨h0,u,rfl,hd⟩ | ⟨h0,rfl⟩⟩
  ·obtain ⟨A',l',c',rfl,hd,g1,g2⟩:=D4 hd;have hr:=HR3.out.kept q;obtain ⟨_,r0,r1,r2,f0,f1,f2⟩:=hr.facts;have HD:=hid hd;have H0:=hid h0;have HR4:=hid hr;have Q:=hid q;clear hd h0 hr q;simp only [];go_wp2_with fail;exact By (HR4.out.laid _ _ _) rfl rfl rfl ⟨Am (K2.out.trans Q.out) (Nat.le_refl _),.inl ⟨H0.out,_,rfl,(HD.out.dyW HR4.out (Ag _) (Ae _ _ _) (Ah _)).dyR g1 g2⟩⟩
  ·exact ⟨rfl,K2.out.trans q,.inr ⟨h0,rfl⟩⟩
theorem Aec (a b:Dy)(p:Nat)(up:Bool):(Ch a b p up).raw.k≠0→(Ch a b p up).raw.v=rz:=by
 intro h
 show ((Ch a b p up).v).raw=rz
 rw [(Js a b p up).2 h,E5]
theorem Al8 (w:World)(x y z x' y' z' p u:Value):∃ W,W=((((w.alloc (.cells #[x,y,z] 28)).alloc (.cells #[x',y',z'] 28)).alloc (.cells #[p] 3)).alloc (.cells #[u] 4)).alloc (.cells #[.bool false,.slice none 0 0,.int .i64 0] 28) ∧
 Kept w W∧Blk W w.heap.size x y z∧Blk W (w.heap.size+1) x' y' z'∧W.cell? ⟨w.heap.size+1+1,0,none⟩=some p∧W.cell? ⟨w.heap.size+1+1+1,0,none⟩=some u∧Blk W (w.heap.size+1+1+1+1) (.bool false) (.slice none 0 0) (.int .i64 0):=by
 have k1:=Ad w (.cells #[x,y,z] 28)
 refine ⟨_,rfl,(((k1.trans (Ad _ _)).trans (Ad _ _)).trans (Ad _ _)).trans (Ad _ _),Be (Be (Be (Be (Bk _ _ _ _) _) _) _) _,Be (Be (Be (Dt _ _ _ _ _) _) _) _,
  Al (Ad _ _) (Al (Ad _ _) (Ajz _ _ _ _ _)),Al (Ad _ _) ?_,?_⟩
 ·have:=Ag3 (((w.alloc (.cells #[x,y,z] 28)).alloc (.cells #[x',y',z'] 28)).alloc (.cells #[p] 3)) u 4;simp only [World.size_alloc] at this;exact this
 ·have:=Bk ((((w.alloc (.cells #[x,y,z] 28)).alloc (.cells #[x',y',z'] 28)).alloc (.cells #[p] 3)).alloc (.cells #[u] 4)) (.bool false) (.slice none 0 0) (.int .i64 0);simp only [World.size_alloc] at this;exact this
theorem O0 {w:World}{v v':Value}{x y:Dy}{p:Nat}{up:Bool}(hv:DyR w v x.raw)(hv':DyR w v' y.raw)(hx:x.Ok)(hy:y.Ok)(hT:Tab w)(p1:1≤p)(p2:p≤2000) :
 Calls Tryz.prog 129 #[v,v',.int .i64 p,.bool up] w (RetE (Ch x y p up).raw w):=by
 have hmf:=Gn;obtain ⟨A,l,c,rfl,hv⟩:=Bg hv;obtain ⟨A2,l2,c2,rfl,hv'⟩:=Bg hv';obtain ⟨W,hW,kW,B0,B1,cp,cu,BR⟩:=Al8 w (.bool x.neg) (.slice A l c) (.int .i64 x.e) (.bool y.neg) (.slice A2 l2 c2) (.int .i64 y.e) (.int .i64 p) (.bool up)
 have hf:=W3 (w:=W) (K:=173) (cap:=#[.pointer (some ⟨w.heap.size+1+1,0,none⟩),.pointer (some ⟨w.heap.size,0,none⟩),.pointer (some ⟨w.heap.size+1,0,none⟩),.pointer (some ⟨w.heap.size+1+1+1,0,none⟩)]) (o:=(Ch x y p up).raw)
  (fun w1 k=>Aki hx hy (hT.kept (kW.trans k)) p1 p2 (Al k cp) ⟨A,l,c,B0.kept k,hv.kept (kW.trans k)⟩ ⟨A2,l2,c2,B1.kept k,hv'.kept (kW.trans k)⟩ (Al k cu)) (Aec x y p up) (fun _=>rfl)
 have HF:=hid hf;have HW:=hid hW;have HK:=hid kW;have HR:=hid BR;clear hf hW kW B0 B1 cp cu BR hv hv' hx hy hT p1 p2;generalize Ch x y p up=o at *;generalize x.neg=nx at *;generalize x.e=ex at *;generalize y.neg=ny at *;generalize y.e=ey at *;go_enter Tryz.func129,Tryz.ntmps129
 go_wp2_with (go_at_call 168;rw [←HW.out];refine HF.out.mono ?_;rintro e w1 ⟨q,u,rfl,hd⟩;obtain ⟨A',l',c',rfl,hd,g3,g4⟩:=D4 hd;have HD:=hid hd;have hb2:=HR.out.kept q;obtain ⟨_,c0,c1,c2,f0,f1,f2⟩:=hb2.facts;have HB2:=hid hb2;clear hd hb2)
 exact D7 (HB2.out.laid _ _ _) rfl rfl rfl ⟨Am (HK.out.trans q) (by omega),_,rfl,(HD.out.dyW HB2.out (Ag _) (Ae _ _ _) (Ah _)).dyR g3 g4⟩
end Go.Proofs.YtabjjdicffcolaaGreatDoor
