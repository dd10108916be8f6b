/- Contracts of package round, sixth part: Root. -/
import Derived.Test.YtabjjdicffcolaaGreatDoorClaimTbitsp18
set_option maxRecDepth 100000
set_option maxHeartbeats 16000000
namespace Go.Proofs.YtabjjdicffcolaaGreatDoor
open Go.Lib (hid)
open Go.RowKit
theorem must_okR (k:Int)(w:World):Calls Tryz.prog 174 #[.bool true,.int .i64 k] w fun e w'=>e=.returned (.tuple #[])∧w=w':=by
 go_enter Tryz.func174,Tryz.ntmps174
 go_wp2
 go_end0
 exact ⟨rfl,rfl⟩
theorem must_badR (k:Int)(w:World):Calls Tryz.prog 174 #[.bool false,.int .i64 k] w fun e w'=>e=.panicked (failV 185 k)∧w=w':=by
 go_enter Tryz.func174,Tryz.ntmps174
 go_wp2
 exact ⟨rfl,rfl,rfl⟩
theorem must_cR (b:Bool)(k:Int)(w:World):Calls Tryz.prog 174 #[.bool b,.int .i64 k] w fun e w'=>e=mustE 185 b k∧w=w':=by
 cases b
 ·exact must_badR k w
 ·exact must_okR k w
theorem run_assert_failR (k:Int)(w:World):(Instr.typeAssert (.iface 185 (.agg #[.int .i64 k])) 20 185 true).run Tryz.prog w=.ok (.tuple #[.agg #[.int .i64 k],.bool true]) w:=by
 kernel_rfl
theorem run_assert_nilR (w:World):(Instr.typeAssert .nilIface 20 185 true).run Tryz.prog w=.ok (.tuple #[.agg #[.int .i64 0],.bool false]) w:=by
 kernel_rfl
theorem catch_failR (b2 b3:Nat)(w:World)(k:Int)(x y z q:Value)
 (h0:w.heap[b2]?=some (.cells #[x,y,z] 28 (0,0))) (h1:w.heap[b3]?=some (.cells #[q] 3 (0,0))) (hne:¬b2=b3) :
 CallsD Tryz.prog 193 #[.pointer (some ⟨b2,0,none⟩),.pointer (some ⟨b3,0,none⟩)] (.panicking (failV 185 k)) w fun e u' w' =>
  e=.returned (.tuple #[])∧u'=.panicking [{ v:=.iface 185 (.agg #[.int .i64 k]),recovered:=true }]∧w'=(caughtW w b2 b3 185 k).drew:=by
 have ha:=run_assert_failR k;have l2:b2<w.heap.size:=(Array.getElem?_eq_some_iff.1 h0).1;have l3:b3<w.heap.size:=(Array.getElem?_eq_some_iff.1 h1).1;have n2:¬b2=w.heap.size:=by omega
 have n3:¬b3=w.heap.size:=by omega
 have n2':¬w.heap.size=b2:=by omega
 have n3':¬w.heap.size=b3:=by omega
 have hne':¬b3=b2:=fun h=>hne h.symm
 have c20:=cell_of_block h0 0 x rfl;have c21:=cell_of_block h0 1 y rfl;have c22:=cell_of_block h0 2 z rfl;have c30:=cell_of_block h1 0 q rfl;have f20:=free_of_block h0 0;have f21:=free_of_block h0 1;have f22:=free_of_block h0 2;have f30:=free_of_block h1 0;refine callsD_of_wpS Tryz.func193 rfl fun c₀ cs hu=>?_
 simp only [Tryz.ntmps193,List.size_toArray,List.length_cons,List.length_nil,Nat.reduceAdd,Nat.reduceSub,Array.replicate_succ,
  Array.replicate_zero,List.push_toArray,List.append_toArray,List.nil_append,List.cons_append]
 refine wpS_recovers (v:=.iface 185 (.agg #[.int .i64 k])) (cs':={ c₀ with mode:=.panicking [{ v:=.iface 185 (.agg #[.int .i64 k]),recovered:=true }] }::cs) (w':=w) rfl ?_ ?_ ?_
 ·simp [go_sem]
 ·rw [recoverD,hu];exact ⟨rfl,rfl⟩
 go_wp2_with fail
 go_region
 exact ⟨rfl,_,rfl,_,results_none rfl _ _ _,rfl,rfl,rfl⟩
theorem catch_idleR (b2 b3:Nat)(w:World) :
 CallsD Tryz.prog 193 #[.pointer (some ⟨b2,0,none⟩),.pointer (some ⟨b3,0,none⟩)] .returning w fun e u' w' =>
  e=.returned (.tuple #[])∧u'=.returning∧w'=w.alloc (.cells #[.int .i64 0] 185):=by
 have ha:=run_assert_nilR;refine callsD_of_wpS Tryz.func193 rfl fun c₀ cs hu=>?_
 simp only [Tryz.ntmps193,List.size_toArray,List.length_cons,List.length_nil,Nat.reduceAdd,Nat.reduceSub,Array.replicate_succ,
  Array.replicate_zero,List.push_toArray,List.append_toArray,List.nil_append,List.cons_append]
 refine wpS_recovers (v:=.nilIface) (cs':=c₀::cs) (w':=w) rfl ?_ ?_ ?_
 ·simp [go_sem]
 ·rw [recoverD,hu];exact ⟨rfl,rfl⟩
 go_wp2_with fail;exact ⟨rfl,.returning,by rw [←hu],_,results_none rfl _ _ _,rfl,rfl,rfl⟩
theorem face_cR {w:World}{K:Nat}{cap:Array Value}{o:Outc Raw}(h:∀ w1,Kept w w1→Calls Tryz.prog K cap w1 (Goes 185 o w1))(hz:o.k≠0→o.v=rz)
 (hk:∀ w,(callFunc K cap).run Tryz.prog w=.ok (.enter K cap) w) :
 Calls Tryz.prog 168 #[.func (.func K) #[] cap] w (RetE o w):=by
 have hmf:∀ (fn:Fn) (first cap:Array Value) (w:World),(Instr.makeFunc fn first cap).run Tryz.prog w=.ok (.func fn first cap) w:=fun _ _ _ _=>rfl
 have HH:=hid h;clear h
 go_enter_defers Tryz.func168,Tryz.ntmps168
 go_wp2_with fail;have k1:Kept w ((w.alloc (.cells #[.bool false,.slice none 0 0,.int .i64 0] 28)).alloc (.cells #[.int .i64 0] 3)):=((Below.refl _ _).alloc (Nat.le_refl _) _).alloc (by simp) _;refine (HH.out _ k1).mono ?_;have b0:((w.alloc (.cells #[.bool false,.slice none 0 0,.int .i64 0] 28)).alloc (.cells #[.int .i64 0] 3)).heap[w.heap.size]?=some (.cells #[.bool false,.slice none 0 0,.int .i64 0] 28 (0,0)):=by
  rw [Below.heap_alloc _ _ _ (by simp)];exact heap_alloc_new _ _
 have b1:((w.alloc (.cells #[.bool false,.slice none 0 0,.int .i64 0] 28)).alloc (.cells #[.int .i64 0] 3)).heap[w.heap.size+1]?=some (.cells #[.int .i64 0] 3 (0,0)):=by
  have:=heap_alloc_new (w.alloc (.cells #[.bool false,.slice none 0 0,.int .i64 0] 28)) (.cells #[.int .i64 0] 3)
  simpa using this
 rintro e w1 ⟨q,hq⟩;have c0:=(q.block w.heap.size (by simp;omega)).trans b0;have c1:=(q.block (w.heap.size+1) (by simp)).trans b1;have k2:=k1.trans q;clear q b0 b1 k1 HH;have hs1:w.heap.size+1<w1.heap.size:=(Array.getElem?_eq_some_iff.1 c1).1;have hs0:w.heap.size<w1.heap.size:=by omega
 have n1:¬w.heap.size=w1.heap.size:=by omega
 have n2:¬w.heap.size+1=w1.heap.size:=by omega
 have n3:¬w.heap.size=w.heap.size+1:=by omega
 have n4:¬w.heap.size+1=w.heap.size:=by omega
 have c20:w1.cell? ⟨w.heap.size,0,none⟩=some (.bool false):=cell_of_block c0 0 _ rfl;have c21:w1.cell? ⟨w.heap.size,1,none⟩=some (.slice none 0 0):=cell_of_block c0 1 _ rfl;have c22:w1.cell? ⟨w.heap.size,2,none⟩=some (.int .i64 0):=cell_of_block c0 2 _ rfl;have c30:w1.cell? ⟨w.heap.size+1,0,none⟩=some (.int .i64 0):=cell_of_block c1 0 _ rfl;have f20:=free_of_block c0 0;have f21:=free_of_block c0 1;have f22:=free_of_block c0 2;have f30:=free_of_block c1 0;have KK:=hid k2;have HQ:=hid hq;clear k2 hq
 rcases HQ.out with ⟨h0,v,rfl,hv⟩ | ⟨h0,rfl⟩
 ·obtain ⟨s, rfl, hs, e1, e2⟩ := hv;have HS:=hid hs;obtain ⟨_,A,c,rfl,_⟩:=hs;clear HQ;simp only [];go_wp2_with fail;refine leaves_cons (f:=193) (args:=#[.pointer (some ⟨w.heap.size,0,none⟩),.pointer (some ⟨w.heap.size+1,0,none⟩)]) (by simp) (by simp [go_sem]) ?_;refine (catch_idleR _ _ _).mono ?_;rintro e u' w2 ⟨rfl,rfl,rfl⟩;obtain ⟨d0,d1,d2,d3⟩:=laid_cells (x':=.bool o.v.neg) (y':=.slice A o.v.m.length c) (z':=.int .i64 o.v.e) (q':=.int .i64 0) (o:=.cells #[.int .i64 0] 185) c0 c1 n3;refine ⟨.tuple #[.agg #[.bool o.v.neg,.slice A o.v.m.length c,.int .i64 o.v.e],.int .i64 0],?_,?_⟩
  ·change (results Tryz.f168 _).run Tryz.prog (laidW w1 w.heap.size (w.heap.size + 1) (.bool o.v.neg) (.slice A o.v.m.length c) (.int .i64 o.v.e) (.int .i64 0) (.cells #[.int .i64 0] 185)) = .ok _ (laidW w1 w.heap.size (w.heap.size + 1) (.bool o.v.neg) (.slice A o.v.m.length c) (.int .i64 o.v.e) (.int .i64 0) (.cells #[.int .i64 0] 185))
   generalize laidW w1 w.heap.size (w.heap.size+1) (.bool o.v.neg) (.slice A o.v.m.length c) (.int .i64 o.v.e) (.int .i64 0) (.cells #[.int .i64 0] 185)=W at *
   simp [results,Tryz.results168,go_sem,d0,d1,d2,d3]
  ·refine ⟨laid_kept KK.out (Nat.le_refl _) (Nat.le_succ _), _, by rw [h0], ?_⟩;exact ⟨_,rfl,HS.out.laid c0 c1 (by simp) (by simp) (by simp) (by simp),e1,e2⟩
 ·clear HQ;simp only [];refine leaves_cons (f:=193) (args:=#[.pointer (some ⟨w.heap.size,0,none⟩),.pointer (some ⟨w.heap.size+1,0,none⟩)]) (by simp) (by simp [go_sem]) ?_;refine (catch_failR _ _ _ _ _ _ _ _ c0 c1 n3).mono ?_;rintro e u' w2 ⟨rfl,rfl,rfl⟩;obtain ⟨d0,d1,d2,d3⟩:=laid_cells (x':=.bool false) (y':=.slice none 0 0) (z':=.int .i64 0) (q':=.int .i64 o.k) (o:=.cells #[.int .i64 o.k] 185) c0 c1 n3;refine ⟨.tuple #[.agg #[.bool false,.slice none 0 0,.int .i64 0],.int .i64 o.k],?_,?_⟩
  ·change (results Tryz.f168 _).run Tryz.prog (laidW w1 w.heap.size (w.heap.size + 1) (.bool false) (.slice none 0 0) (.int .i64 0) (.int .i64 o.k) (.cells #[.int .i64 o.k] 185)).drew = .ok _ (laidW w1 w.heap.size (w.heap.size + 1) (.bool false) (.slice none 0 0) (.int .i64 0) (.int .i64 o.k) (.cells #[.int .i64 o.k] 185)).drew
   generalize laidW w1 w.heap.size (w.heap.size+1) (.bool false) (.slice none 0 0) (.int .i64 0) (.int .i64 o.k) (.cells #[.int .i64 o.k] 185)=W at *
   simp [results,Tryz.results168,go_sem,d0,d1,d2,d3]
  ·refine ⟨(laid_kept KK.out (Nat.le_refl _) (Nat.le_succ _)).drew, _, rfl, ?_⟩;rw [hz h0];exact ⟨_,rfl,⟨(by intro i hi;cases hi),none,0,rfl,Nat.le_refl _,fun h=>absurd h (Nat.lt_irrefl 0)⟩,by decide,by decide⟩
theorem must_trueR (k:Int)(w:World):Calls Tryz.prog 174 #[.bool true,.int .i64 k] w (RetK (.tuple #[]) w):=(must_cR true k w).mono fun _ _ ⟨he,hw⟩=>⟨he,hw▸Below.refl _ _⟩
def DyAt (w:World) (b o:Nat) (d:Dy):Prop:=∃ s,w.cell? ⟨b,o,none⟩=some (.bool d.neg)∧w.cell? ⟨b,o+1,none⟩=some s∧w.cell? ⟨b,o+2,none⟩=some (.int .i64 d.e)∧DyR w (.agg #[.bool d.neg,s,.int .i64 d.e]) d.raw
theorem DyAt.kept {w w':World}{b o:Nat}{d:Dy}(h:DyAt w b o d)(k:Kept w w'):DyAt w' b o d:=by
 obtain ⟨s,h0,h1,h2,hd⟩:=h;have hb:=lt_of_cell h0;exact ⟨s,(k.cell (p:=⟨b,o,none⟩) hb).trans h0,(k.cell (p:=⟨b,o+1,none⟩) hb).trans h1,(k.cell (p:=⟨b,o+2,none⟩) hb).trans h2,hd.kept k⟩
def DyS (w:World) (v:Value) (l:List Dy):Prop:=∃ A c,v=.slice A l.length c∧l.length≤c∧(0<l.length→∃ b off,A=some ⟨b,off,none⟩∧∀ i d,l[i]?=some d→DyAt w b (off+i*3) d)
theorem DyS.kept {w w':World}{v:Value}{l:List Dy}(h:DyS w v l)(k:Kept w w'):DyS w' v l:=by
 obtain ⟨A,c,rfl,hc,hA⟩:=h;refine ⟨A,c,rfl,hc,fun h0=>?_⟩;obtain ⟨b,off,rfl,hd⟩:=hA h0;exact ⟨b,off,rfl,fun i d hi=>(hd i d hi).kept k⟩
def okL (l:List Dy):Prop:=∀ d∈l,Dy.Ok d
theorem rmay_c {w:World}{v:Value}{p:Int}{l:List Dy}(hv:DyS w v l)(hl:okL l)(hn:l.length≤1000)(p1:1≤p)(p2:p≤2000) :
 Calls Tryz.prog 170 #[.int .i64 p,v] w (RetK (.tuple #[]) w):=by
 obtain ⟨A,c,rfl,hc,hA⟩:=hv;have d1:decide (1≤p)=true:=by simp [p1]
 have d2:decide (p≤2000)=true:=by simp [p2]
 have HA:=hid hA;have HL:=hid hl;clear hA hl;have hbase:Kept w w:=Below.refl _ _;obtain ⟨n,hn'⟩:∃ n,n=l.length:=⟨_,rfl⟩;rw [←hn'] at hc hn HA ⊢;have HN:=hid hn';clear hn'
 go_enter Tryz.func170,Tryz.ntmps170
 go_wp2_with (go_at_call 174;refine (must_trueR 1 _).mono ?_;rintro e w1 ⟨rfl,q⟩;have K1:=hid q;clear q)
 go_loopw [15] (fun t wr=>∃ k:Nat,k≤n∧t=.int .i64 k∧Kept w wr) (fun t _=>(n-intOf t).toNat)
 case atStart=>exact ⟨0,Nat.zero_le _,rfl,K1.out⟩
 case round =>
  obtain ⟨k,hk,rfl,hK⟩:=hrel;have HK:=hid hK;clear hK
  by_cases hlt:k<n
  ·obtain ⟨b, off, rfl, hd⟩ := HA.out (by omega);obtain ⟨d,hdk⟩:∃ d,l[k]?=some d:=⟨_,List.getElem?_eq_getElem (by have:=HN.out;omega)⟩;obtain ⟨s,h0,h1,h2,hR⟩:=(hd k d hdk).kept HK.out;have hok:=HL.out d (List.mem_of_getElem? hdk);have hm:=fun w1 (q:Kept wr w1)=>may_c (hR.kept q) (by have:=dy_len hok;omega)
   rw [hok.may] at hm;have HM:=hid hm;obtain ⟨A1,l1,c1,es,-,-,-,-⟩:=hR.shape;injection es with es
   injection es with es
   simp only [List.cons.injEq,and_true] at es;obtain rfl:=es.2.1;clear es;clear hm hd hdk hok hR;generalize d.neg=ng at *;generalize d.e=eg at *
   go_wp2_with (first
    | (go_at_call 53;refine (HM.out _ (kept_alloc _ _)).mono ?_;rintro e w2 ⟨rfl,q⟩;have Q:=hid ((kept_alloc _ _).trans q);clear q)
    | (go_at_call 174;refine (must_trueR 1 _).mono ?_;rintro e w3 ⟨rfl,q⟩;have Q3:=hid q;clear q))
   go_roundw
   case rel=>exact ⟨k+1,by omega,by go_num,(HK.out.trans Q.out).trans Q3.out⟩
   case measure=>simp [intOf];omega
  ·obtain rfl : k = n := by omega
   go_wp2
   go_end0
   exact ⟨rfl,HK.out⟩
theorem lim_single (w:World)(k:Nat)(hk:k<18446744073709551616)(h0:k≠0):Lim (w.alloc (.cells #[.int .u64 k] 55)) (.slice (some ⟨w.heap.size,0,none⟩) 1 1) (limbs k):=by
 rw [limbs_one k h0 hk];exact lim_one hk (by simp) (new0 _ _ _) 1 (Nat.le_refl _)
theorem blk_new0 (w:World):Blk (w.alloc (.cells #[.bool false,.slice none 0 0,.int .i64 0] 28)) w.heap.size (.bool false) (.slice none 0 0) (.int .i64 0):=blk_new _ _ _ _
structure CutIn (w:World) (v:Value) (m:Nat) (e:Int) (p:Nat):Prop where
 lim:Lim w v (limbs m)
 len:(limbs m).length≤20000
 e1:-1000000000≤e
 e2:e≤1000000000
 p1:1≤p
 p2:p≤2000
 tab:Tab w
theorem CutIn.bl {w:World}{v:Value}{m:Nat}{e:Int}{p:Nat}(h:CutIn w v m e p):bl m≤1280000:=by
 have:=bl_of_len m 20000 h.len;omega
theorem CutIn.fits {w w1:World}{v u:Value}{m n:Nat}{e:Int}{p j:Nat}(h:CutIn w v m e p)(k:Kept w w1)(hu:Lim w1 u (limbs n))(hn:n≤m+1)(hj:j≤1280000)(neg:Bool) :
 Calls Tryz.prog 41 #[.bool neg,u,.int .i64 (e+j)] w1 (RetE (fitD neg n (e+j)).raw w1):=by
 have h1:_root_.Go.Proofs.YtabjjdicffcolaaGreatDoor.bl n≤1280001:=Nat.le_trans (bl_mono hn) (bl_add m 1 1280000 h.bl (by decide));have h2:=limbs_len_bl n 20001 (by omega);have:=h.e1;have:=h.e2;exact Fit_c hu (by omega) (by omega) (by omega) (h.tab.kept k)
theorem cutM_eq (m:Nat)(rest:Bool)(p:Nat)(aw:Bool)(r':Bool)(hr:(cutN m rest p).1=r'):cutM m rest p aw=if (r'&&aw)=true then m/2^(bl m-p)+1 else m/2^(bl m-p):=by
 unfold cutM;rw [hr];rfl
theorem mustE_split {T:TypeId}{o:Outc Dy}{k:Int}{e:Ending}(h:e=mustE T (o.raw.k==0) k):(o.k=0∧e=.returned (.tuple #[]))∨(o.k≠0∧e=.panicked (failV T k)):=by
 by_cases hk:o.k=0
 ·left;refine ⟨hk,?_⟩;rw [h,show (o.raw.k==0)=true by rw [beq_iff_eq];exact hk];rfl
 ·right;refine ⟨hk,?_⟩;rw [h,show (o.raw.k==0)=false by rw [beq_eq_false_iff_ne];exact hk];rfl
theorem cut_c {w:World}{v:Value}{m p:Nat}{e:Int}(neg rest up:Bool)(h:CutIn w v m e p) :
 Calls Tryz.prog 171 #[.bool neg,v,.int .i64 e,.bool rest,.int .i64 p,.bool up] w (Goes 185 (cutD neg m e rest p up).raw w):=by
 have hbl:=h.bl;have p1:=h.p1;have p2:=h.p2;have e1:=h.e1;have e2:=h.e2;have hsz:=fun w1 (k:Kept w w1)=>size_c (h.lim.kept k) (by have:=h.len;omega)
 have hri:=fun w1 (k:Kept w w1) (j:Nat) (hj:j≤1280000)=>right_c (h.lim.kept k) j (by have:=h.len;omega) (by omega)
 have hze:=fun w1 (k:Kept w w1) (h0:m≠0)=>zeros_c (h.lim.kept k) (by have:=h.len;omega) h0 (h.tab.kept k)
 have hpl:=fun w1 u n (hu:Lim w1 u (limbs n)) (hn:n≤m) (u1:Value) (hu1:Lim w1 u1 (limbs 1))=>plus_c hu hu1 (by have h1:=limbs_len_bl n 20000 (by have:=bl_mono hn;omega);omega) (by rw [limbs_one 1 (by decide) (by decide)];decide)
 have hfi:=fun w1 u n (j:Nat) (k:Kept w w1) (hu:Lim w1 u (limbs n)) (hn:n≤m+1) (hj:j≤1280000)=>h.fits k hu hn hj neg
 have HSZ:=hid hsz;have HRI:=hid hri;have HZE:=hid hze;have HPL:=hid hpl;have HFI:=hid hfi;have HLI:=hid h.lim;obtain ⟨A,l,c,rfl,-,-⟩:=h.lim.shape;clear hsz hri hze hpl hfi h;unfold cutD;obtain ⟨aw,haw⟩:∃ aw,(up != neg)=aw:=⟨_,rfl⟩;rw [haw];have hnb1:((!up)==neg)=aw:=by rw [←haw];cases up<;>cases neg<;>rfl
 have hnb2:(!(up==neg))=aw:=by rw [←haw];cases up<;>cases neg<;>rfl
 clear haw;obtain ⟨W,hW⟩:∃ W,W=w.alloc (.cells #[.bool false,.slice none 0 0,.int .i64 0] 28):=⟨_,rfl⟩;have HK:=hid (show Kept w W by rw [hW];exact kept_alloc _ _);have HB:=hid (show Blk W w.heap.size (.bool false) (.slice none 0 0) (.int .i64 0) by rw [hW];exact blk_new0 w);have HW:=hid hW;clear hW
 by_cases hn:p<bl m
 ·obtain ⟨j, hj⟩ : ∃ j, bl m - p = j := ⟨_, rfl⟩;have hws:IntKind.i64.wrap ((bl m:Int)-(p:Int))=(j:Int):=by simp [IntKind.wrap_i64];omega
  have hwe:IntKind.i64.wrap (e+(j:Int))=e+(j:Int):=by simp [IntKind.wrap_i64];omega
  have HM0:=hid (show m≠0 by rintro rfl;rw [bl_zero] at hn;omega);have HJ:=hid (show j≤1280000 by omega);have hd:decide (0<j)=true:=by simp;omega
  cases hrest:rest
  ·obtain ⟨bz, hbz⟩ : ∃ bz, decide (tz m < j) = bz := ⟨_, rfl⟩;have hc:(cutN m false p).1=bz:=by
    unfold cutN;simp only [hj];rw [hd,hbz,Bool.false_or,Bool.true_and]
   rw [cutM_eq m false p aw bz hc,hj];clear hc hj hrest hn;cases bz
   ·rw [Bool.false_and, if_neg (by decide)];obtain ⟨o,ho⟩:∃ o,o=fitD neg (m/2^j) (e+((j:Nat):Int)):=⟨_,rfl⟩;have hf2:=fun w1 u (k:Kept w w1) (hu:Lim w1 u (limbs (m/2^j)))=>HFI.out w1 u (m/2^j) j k hu (Nat.le_succ_of_le (Nat.div_le_self _ _)) HJ.out
    rw [←ho] at hf2 ⊢
    skip
    have HF2:=hid hf2;clear ho hf2
    go_enter Tryz.func171,Tryz.ntmps171
    go_wp2_with (first
     | (go_at_call 112;rw [←HW.out];refine (HSZ.out _ HK.out).mono ?_;rintro e w1 ⟨rfl,q,hq⟩;have K:=hid (show Kept W w1 from hq▸Kept.drewN (Below.refl W.heap.size W) q);clear hq;replace HW:True:=trivial;have LX:=hid (HLI.out.kept (HK.out.trans K.out)))
     | (go_at_call 116;refine (HZE.out _ (HK.out.trans K.out) HM0.out).mono ?_;rintro e w1 ⟨rfl,q,hq⟩;replace K:=hid (show Kept W w1 from hq▸Kept.drewN K.out q);clear hq)
     | (go_at_call 117;refine (HRI.out _ (HK.out.trans K.out) _ HJ.out).mono ?_;rintro e w1 ⟨X,rfl,hX,q⟩;replace K:=hid (K.out.trans q);replace LX:=hid hX;clear hX q)
     | (go_at_call 194;refine (HPL.out _ _ _ (LX.out.kept (kept_alloc _ _)) (by first | exact Nat.div_le_self _ _ | exact Nat.le_refl _) _ (lim_single _ 1 (by decide) (by decide))).mono ?_;rintro e w1 ⟨X,rfl,hX,q⟩;replace K:=hid (K.out.trans ((kept_alloc _ _).trans q));replace LX:=hid hX;clear hX q)
     | (go_at_call 41;refine (HF2.out _ _ (HK.out.trans K.out) LX.out).mono ?_;rintro e w2 ⟨q,u,rfl,hd⟩;obtain ⟨A',l',c',rfl,-,hd,g1,g2⟩:=hd.shape;have HD:=hid hd;replace K:=hid (K.out.trans q);clear hd q;have hb:=HB.out.kept K.out;obtain ⟨hsz,c0,c1,c2,f0,f1,f2⟩:=hb.facts;have HB2:=hid hb;clear hb)
     | (go_at_call 174;refine (must_cR _ _ _).mono ?_;rintro e w3 ⟨he,rfl⟩;rcases mustE_split he with ⟨hk,rfl⟩ | ⟨hk,rfl⟩<;>(have HKK:=hid hk;clear hk he)))
    ·exact ret_dy (blk_alloc (HB2.out.laid _ _ _) _) rfl rfl rfl ⟨(dyW_kept (HK.out.trans K.out) (Nat.le_refl _)).trans (kept_alloc _ _),.inl ⟨HKK.out,_,rfl,((HD.out.dyW HB2.out (noLimb_bool _) (noLimb_slice _ _ _) (noLimb_i64 _)).kept (kept_alloc _ _)).dyR g1 g2⟩⟩
    ·exact ⟨rfl,(HK.out.trans K.out).trans (kept_alloc _ _),.inr ⟨HKK.out,rfl⟩⟩
   ·cases aw
    ·rw [Bool.true_and, if_neg (by decide)];obtain ⟨o,ho⟩:∃ o,o=fitD neg (m/2^j) (e+((j:Nat):Int)):=⟨_,rfl⟩;have hf2:=fun w1 u (k:Kept w w1) (hu:Lim w1 u (limbs (m/2^j)))=>HFI.out w1 u (m/2^j) j k hu (Nat.le_succ_of_le (Nat.div_le_self _ _)) HJ.out
     rw [←ho] at hf2 ⊢
     skip
     have HF2:=hid hf2;clear ho hf2
     go_enter Tryz.func171,Tryz.ntmps171
     go_wp2_with (first
      | (go_at_call 112;rw [←HW.out];refine (HSZ.out _ HK.out).mono ?_;rintro e w1 ⟨rfl,q,hq⟩;have K:=hid (show Kept W w1 from hq▸Kept.drewN (Below.refl W.heap.size W) q);clear hq;replace HW:True:=trivial;have LX:=hid (HLI.out.kept (HK.out.trans K.out)))
      | (go_at_call 116;refine (HZE.out _ (HK.out.trans K.out) HM0.out).mono ?_;rintro e w1 ⟨rfl,q,hq⟩;replace K:=hid (show Kept W w1 from hq▸Kept.drewN K.out q);clear hq)
      | (go_at_call 117;refine (HRI.out _ (HK.out.trans K.out) _ HJ.out).mono ?_;rintro e w1 ⟨X,rfl,hX,q⟩;replace K:=hid (K.out.trans q);replace LX:=hid hX;clear hX q)
      | (go_at_call 194;refine (HPL.out _ _ _ (LX.out.kept (kept_alloc _ _)) (by first | exact Nat.div_le_self _ _ | exact Nat.le_refl _) _ (lim_single _ 1 (by decide) (by decide))).mono ?_;rintro e w1 ⟨X,rfl,hX,q⟩;replace K:=hid (K.out.trans ((kept_alloc _ _).trans q));replace LX:=hid hX;clear hX q)
      | (go_at_call 41;refine (HF2.out _ _ (HK.out.trans K.out) LX.out).mono ?_;rintro e w2 ⟨q,u,rfl,hd⟩;obtain ⟨A',l',c',rfl,-,hd,g1,g2⟩:=hd.shape;have HD:=hid hd;replace K:=hid (K.out.trans q);clear hd q;have hb:=HB.out.kept K.out;obtain ⟨hsz,c0,c1,c2,f0,f1,f2⟩:=hb.facts;have HB2:=hid hb;clear hb)
      | (go_at_call 174;refine (must_cR _ _ _).mono ?_;rintro e w3 ⟨he,rfl⟩;rcases mustE_split he with ⟨hk,rfl⟩ | ⟨hk,rfl⟩<;>(have HKK:=hid hk;clear hk he)))
     ·exact ret_dy (blk_alloc (HB2.out.laid _ _ _) _) rfl rfl rfl ⟨(dyW_kept (HK.out.trans K.out) (Nat.le_refl _)).trans (kept_alloc _ _),.inl ⟨HKK.out,_,rfl,((HD.out.dyW HB2.out (noLimb_bool _) (noLimb_slice _ _ _) (noLimb_i64 _)).kept (kept_alloc _ _)).dyR g1 g2⟩⟩
     ·exact ⟨rfl,(HK.out.trans K.out).trans (kept_alloc _ _),.inr ⟨HKK.out,rfl⟩⟩
    ·rw [Bool.true_and, if_pos rfl];obtain ⟨o,ho⟩:∃ o,o=fitD neg (m/2^j+1) (e+((j:Nat):Int)):=⟨_,rfl⟩;have hf2:=fun w1 u (k:Kept w w1) (hu:Lim w1 u (limbs (m/2^j+1)))=>HFI.out w1 u (m/2^j+1) j k hu (Nat.succ_le_succ (Nat.div_le_self _ _)) HJ.out
     rw [←ho] at hf2 ⊢
     skip
     have HF2:=hid hf2;clear ho hf2
     go_enter Tryz.func171,Tryz.ntmps171
     go_wp2_with (first
      | (go_at_call 112;rw [←HW.out];refine (HSZ.out _ HK.out).mono ?_;rintro e w1 ⟨rfl,q,hq⟩;have K:=hid (show Kept W w1 from hq▸Kept.drewN (Below.refl W.heap.size W) q);clear hq;replace HW:True:=trivial;have LX:=hid (HLI.out.kept (HK.out.trans K.out)))
      | (go_at_call 116;refine (HZE.out _ (HK.out.trans K.out) HM0.out).mono ?_;rintro e w1 ⟨rfl,q,hq⟩;replace K:=hid (show Kept W w1 from hq▸Kept.drewN K.out q);clear hq)
      | (go_at_call 117;refine (HRI.out _ (HK.out.trans K.out) _ HJ.out).mono ?_;rintro e w1 ⟨X,rfl,hX,q⟩;replace K:=hid (K.out.trans q);replace LX:=hid hX;clear hX q)
      | (go_at_call 194;refine (HPL.out _ _ _ (LX.out.kept (kept_alloc _ _)) (by first | exact Nat.div_le_self _ _ | exact Nat.le_refl _) _ (lim_single _ 1 (by decide) (by decide))).mono ?_;rintro e w1 ⟨X,rfl,hX,q⟩;replace K:=hid (K.out.trans ((kept_alloc _ _).trans q));replace LX:=hid hX;clear hX q)
      | (go_at_call 41;refine (HF2.out _ _ (HK.out.trans K.out) LX.out).mono ?_;rintro e w2 ⟨q,u,rfl,hd⟩;obtain ⟨A',l',c',rfl,-,hd,g1,g2⟩:=hd.shape;have HD:=hid hd;replace K:=hid (K.out.trans q);clear hd q;have hb:=HB.out.kept K.out;obtain ⟨hsz,c0,c1,c2,f0,f1,f2⟩:=hb.facts;have HB2:=hid hb;clear hb)
      | (go_at_call 174;refine (must_cR _ _ _).mono ?_;rintro e w3 ⟨he,rfl⟩;rcases mustE_split he with ⟨hk,rfl⟩ | ⟨hk,rfl⟩<;>(have HKK:=hid hk;clear hk he)))
     ·exact ret_dy (blk_alloc (HB2.out.laid _ _ _) _) rfl rfl rfl ⟨(dyW_kept (HK.out.trans K.out) (Nat.le_refl _)).trans (kept_alloc _ _),.inl ⟨HKK.out,_,rfl,((HD.out.dyW HB2.out (noLimb_bool _) (noLimb_slice _ _ _) (noLimb_i64 _)).kept (kept_alloc _ _)).dyR g1 g2⟩⟩
     ·exact ⟨rfl,(HK.out.trans K.out).trans (kept_alloc _ _),.inr ⟨HKK.out,rfl⟩⟩
  ·have hc : (cutN m true p).1 = true := by
    unfold cutN
    simp
   rw [cutM_eq m true p aw true hc,hj];clear hc hj hrest hn;cases aw
   ·rw [Bool.true_and, if_neg (by decide)];obtain ⟨o,ho⟩:∃ o,o=fitD neg (m/2^j) (e+((j:Nat):Int)):=⟨_,rfl⟩;have hf2:=fun w1 u (k:Kept w w1) (hu:Lim w1 u (limbs (m/2^j)))=>HFI.out w1 u (m/2^j) j k hu (Nat.le_succ_of_le (Nat.div_le_self _ _)) HJ.out
    rw [←ho] at hf2 ⊢
    skip
    have HF2:=hid hf2;clear ho hf2
    go_enter Tryz.func171,Tryz.ntmps171
    go_wp2_with (first
     | (go_at_call 112;rw [←HW.out];refine (HSZ.out _ HK.out).mono ?_;rintro e w1 ⟨rfl,q,hq⟩;have K:=hid (show Kept W w1 from hq▸Kept.drewN (Below.refl W.heap.size W) q);clear hq;replace HW:True:=trivial;have LX:=hid (HLI.out.kept (HK.out.trans K.out)))
     | (go_at_call 116;refine (HZE.out _ (HK.out.trans K.out) HM0.out).mono ?_;rintro e w1 ⟨rfl,q,hq⟩;replace K:=hid (show Kept W w1 from hq▸Kept.drewN K.out q);clear hq)
     | (go_at_call 117;refine (HRI.out _ (HK.out.trans K.out) _ HJ.out).mono ?_;rintro e w1 ⟨X,rfl,hX,q⟩;replace K:=hid (K.out.trans q);replace LX:=hid hX;clear hX q)
     | (go_at_call 194;refine (HPL.out _ _ _ (LX.out.kept (kept_alloc _ _)) (by first | exact Nat.div_le_self _ _ | exact Nat.le_refl _) _ (lim_single _ 1 (by decide) (by decide))).mono ?_;rintro e w1 ⟨X,rfl,hX,q⟩;replace K:=hid (K.out.trans ((kept_alloc _ _).trans q));replace LX:=hid hX;clear hX q)
     | (go_at_call 41;refine (HF2.out _ _ (HK.out.trans K.out) LX.out).mono ?_;rintro e w2 ⟨q,u,rfl,hd⟩;obtain ⟨A',l',c',rfl,-,hd,g1,g2⟩:=hd.shape;have HD:=hid hd;replace K:=hid (K.out.trans q);clear hd q;have hb:=HB.out.kept K.out;obtain ⟨hsz,c0,c1,c2,f0,f1,f2⟩:=hb.facts;have HB2:=hid hb;clear hb)
     | (go_at_call 174;refine (must_cR _ _ _).mono ?_;rintro e w3 ⟨he,rfl⟩;rcases mustE_split he with ⟨hk,rfl⟩ | ⟨hk,rfl⟩<;>(have HKK:=hid hk;clear hk he)))
    ·exact ret_dy (blk_alloc (HB2.out.laid _ _ _) _) rfl rfl rfl ⟨(dyW_kept (HK.out.trans K.out) (Nat.le_refl _)).trans (kept_alloc _ _),.inl ⟨HKK.out,_,rfl,((HD.out.dyW HB2.out (noLimb_bool _) (noLimb_slice _ _ _) (noLimb_i64 _)).kept (kept_alloc _ _)).dyR g1 g2⟩⟩
    ·exact ⟨rfl,(HK.out.trans K.out).trans (kept_alloc _ _),.inr ⟨HKK.out,rfl⟩⟩
   ·rw [Bool.true_and, if_pos rfl];obtain ⟨o,ho⟩:∃ o,o=fitD neg (m/2^j+1) (e+((j:Nat):Int)):=⟨_,rfl⟩;have hf2:=fun w1 u (k:Kept w w1) (hu:Lim w1 u (limbs (m/2^j+1)))=>HFI.out w1 u (m/2^j+1) j k hu (Nat.succ_le_succ (Nat.div_le_self _ _)) HJ.out
    rw [←ho] at hf2 ⊢
    skip
    have HF2:=hid hf2;clear ho hf2
    go_enter Tryz.func171,Tryz.ntmps171
    go_wp2_with (first
     | (go_at_call 112;rw [←HW.out];refine (HSZ.out _ HK.out).mono ?_;rintro e w1 ⟨rfl,q,hq⟩;have K:=hid (show Kept W w1 from hq▸Kept.drewN (Below.refl W.heap.size W) q);clear hq;replace HW:True:=trivial;have LX:=hid (HLI.out.kept (HK.out.trans K.out)))
     | (go_at_call 116;refine (HZE.out _ (HK.out.trans K.out) HM0.out).mono ?_;rintro e w1 ⟨rfl,q,hq⟩;replace K:=hid (show Kept W w1 from hq▸Kept.drewN K.out q);clear hq)
     | (go_at_call 117;refine (HRI.out _ (HK.out.trans K.out) _ HJ.out).mono ?_;rintro e w1 ⟨X,rfl,hX,q⟩;replace K:=hid (K.out.trans q);replace LX:=hid hX;clear hX q)
     | (go_at_call 194;refine (HPL.out _ _ _ (LX.out.kept (kept_alloc _ _)) (by first | exact Nat.div_le_self _ _ | exact Nat.le_refl _) _ (lim_single _ 1 (by decide) (by decide))).mono ?_;rintro e w1 ⟨X,rfl,hX,q⟩;replace K:=hid (K.out.trans ((kept_alloc _ _).trans q));replace LX:=hid hX;clear hX q)
     | (go_at_call 41;refine (HF2.out _ _ (HK.out.trans K.out) LX.out).mono ?_;rintro e w2 ⟨q,u,rfl,hd⟩;obtain ⟨A',l',c',rfl,-,hd,g1,g2⟩:=hd.shape;have HD:=hid hd;replace K:=hid (K.out.trans q);clear hd q;have hb:=HB.out.kept K.out;obtain ⟨hsz,c0,c1,c2,f0,f1,f2⟩:=hb.facts;have HB2:=hid hb;clear hb)
     | (go_at_call 174;refine (must_cR _ _ _).mono ?_;rintro e w3 ⟨he,rfl⟩;rcases mustE_split he with ⟨hk,rfl⟩ | ⟨hk,rfl⟩<;>(have HKK:=hid hk;clear hk he)))
    ·exact ret_dy (blk_alloc (HB2.out.laid _ _ _) _) rfl rfl rfl ⟨(dyW_kept (HK.out.trans K.out) (Nat.le_refl _)).trans (kept_alloc _ _),.inl ⟨HKK.out,_,rfl,((HD.out.dyW HB2.out (noLimb_bool _) (noLimb_slice _ _ _) (noLimb_i64 _)).kept (kept_alloc _ _)).dyR g1 g2⟩⟩
    ·exact ⟨rfl,(HK.out.trans K.out).trans (kept_alloc _ _),.inr ⟨HKK.out,rfl⟩⟩
 ·have hj : bl m - p = 0 := by omega
  obtain ⟨i0,hi0⟩:∃ i0:Int,(bl m:Int)-(p:Int)=i0:=⟨_,rfl⟩;have hws:IntKind.i64.wrap ((bl m:Int)-(p:Int))=i0:=by rw [←hi0];simp [IntKind.wrap_i64];omega
  have hj0:decide ((0:Int)<i0)=false:=by simp;omega
  have hc:(cutN m rest p).1=rest:=by
   unfold cutN;simp only [hj]
   simp
  rw [cutM_eq m rest p aw rest hc,hj];rw [Nat.pow_zero,Nat.div_one];have HJ:=hid (show (0:Nat)≤1280000 by omega);clear hc hj hn hi0;cases rest
  ·rw [Bool.false_and, if_neg (by decide)];obtain ⟨o,ho⟩:∃ o,o=fitD neg m (e+((0:Nat):Int)):=⟨_,rfl⟩;have hf2:=fun w1 u (k:Kept w w1) (hu:Lim w1 u (limbs m))=>HFI.out w1 u m 0 k hu (Nat.le_succ _) HJ.out
   rw [←ho] at hf2 ⊢;simp only [Int.natCast_zero,Int.add_zero] at hf2 ho;have HF2:=hid hf2;clear ho hf2
   go_enter Tryz.func171,Tryz.ntmps171
   go_wp2_with (first
    | (go_at_call 112;rw [←HW.out];refine (HSZ.out _ HK.out).mono ?_;rintro e w1 ⟨rfl,q,hq⟩;have K:=hid (show Kept W w1 from hq▸Kept.drewN (Below.refl W.heap.size W) q);clear hq;replace HW:True:=trivial;have LX:=hid (HLI.out.kept (HK.out.trans K.out)))
    | (go_at_call 116;refine (HZE.out _ (HK.out.trans K.out) HM0.out).mono ?_;rintro e w1 ⟨rfl,q,hq⟩;replace K:=hid (show Kept W w1 from hq▸Kept.drewN K.out q);clear hq)
    | (go_at_call 117;refine (HRI.out _ (HK.out.trans K.out) _ HJ.out).mono ?_;rintro e w1 ⟨X,rfl,hX,q⟩;replace K:=hid (K.out.trans q);replace LX:=hid hX;clear hX q)
    | (go_at_call 194;refine (HPL.out _ _ _ (LX.out.kept (kept_alloc _ _)) (by first | exact Nat.div_le_self _ _ | exact Nat.le_refl _) _ (lim_single _ 1 (by decide) (by decide))).mono ?_;rintro e w1 ⟨X,rfl,hX,q⟩;replace K:=hid (K.out.trans ((kept_alloc _ _).trans q));replace LX:=hid hX;clear hX q)
    | (go_at_call 41;refine (HF2.out _ _ (HK.out.trans K.out) LX.out).mono ?_;rintro e w2 ⟨q,u,rfl,hd⟩;obtain ⟨A',l',c',rfl,-,hd,g1,g2⟩:=hd.shape;have HD:=hid hd;replace K:=hid (K.out.trans q);clear hd q;have hb:=HB.out.kept K.out;obtain ⟨hsz,c0,c1,c2,f0,f1,f2⟩:=hb.facts;have HB2:=hid hb;clear hb)
    | (go_at_call 174;refine (must_cR _ _ _).mono ?_;rintro e w3 ⟨he,rfl⟩;rcases mustE_split he with ⟨hk,rfl⟩ | ⟨hk,rfl⟩<;>(have HKK:=hid hk;clear hk he)))
   ·exact ret_dy (blk_alloc (HB2.out.laid _ _ _) _) rfl rfl rfl ⟨(dyW_kept (HK.out.trans K.out) (Nat.le_refl _)).trans (kept_alloc _ _),.inl ⟨HKK.out,_,rfl,((HD.out.dyW HB2.out (noLimb_bool _) (noLimb_slice _ _ _) (noLimb_i64 _)).kept (kept_alloc _ _)).dyR g1 g2⟩⟩
   ·exact ⟨rfl,(HK.out.trans K.out).trans (kept_alloc _ _),.inr ⟨HKK.out,rfl⟩⟩
  ·cases aw
   ·rw [Bool.true_and, if_neg (by decide)];obtain ⟨o,ho⟩:∃ o,o=fitD neg m (e+((0:Nat):Int)):=⟨_,rfl⟩;have hf2:=fun w1 u (k:Kept w w1) (hu:Lim w1 u (limbs m))=>HFI.out w1 u m 0 k hu (Nat.le_succ _) HJ.out
    rw [←ho] at hf2 ⊢;simp only [Int.natCast_zero,Int.add_zero] at hf2 ho;have HF2:=hid hf2;clear ho hf2
    go_enter Tryz.func171,Tryz.ntmps171
    go_wp2_with (first
     | (go_at_call 112;rw [←HW.out];refine (HSZ.out _ HK.out).mono ?_;rintro e w1 ⟨rfl,q,hq⟩;have K:=hid (show Kept W w1 from hq▸Kept.drewN (Below.refl W.heap.size W) q);clear hq;replace HW:True:=trivial;have LX:=hid (HLI.out.kept (HK.out.trans K.out)))
     | (go_at_call 116;refine (HZE.out _ (HK.out.trans K.out) HM0.out).mono ?_;rintro e w1 ⟨rfl,q,hq⟩;replace K:=hid (show Kept W w1 from hq▸Kept.drewN K.out q);clear hq)
     | (go_at_call 117;refine (HRI.out _ (HK.out.trans K.out) _ HJ.out).mono ?_;rintro e w1 ⟨X,rfl,hX,q⟩;replace K:=hid (K.out.trans q);replace LX:=hid hX;clear hX q)
     | (go_at_call 194;refine (HPL.out _ _ _ (LX.out.kept (kept_alloc _ _)) (by first | exact Nat.div_le_self _ _ | exact Nat.le_refl _) _ (lim_single _ 1 (by decide) (by decide))).mono ?_;rintro e w1 ⟨X,rfl,hX,q⟩;replace K:=hid (K.out.trans ((kept_alloc _ _).trans q));replace LX:=hid hX;clear hX q)
     | (go_at_call 41;refine (HF2.out _ _ (HK.out.trans K.out) LX.out).mono ?_;rintro e w2 ⟨q,u,rfl,hd⟩;obtain ⟨A',l',c',rfl,-,hd,g1,g2⟩:=hd.shape;have HD:=hid hd;replace K:=hid (K.out.trans q);clear hd q;have hb:=HB.out.kept K.out;obtain ⟨hsz,c0,c1,c2,f0,f1,f2⟩:=hb.facts;have HB2:=hid hb;clear hb)
     | (go_at_call 174;refine (must_cR _ _ _).mono ?_;rintro e w3 ⟨he,rfl⟩;rcases mustE_split he with ⟨hk,rfl⟩ | ⟨hk,rfl⟩<;>(have HKK:=hid hk;clear hk he)))
    ·exact ret_dy (blk_alloc (HB2.out.laid _ _ _) _) rfl rfl rfl ⟨(dyW_kept (HK.out.trans K.out) (Nat.le_refl _)).trans (kept_alloc _ _),.inl ⟨HKK.out,_,rfl,((HD.out.dyW HB2.out (noLimb_bool _) (noLimb_slice _ _ _) (noLimb_i64 _)).kept (kept_alloc _ _)).dyR g1 g2⟩⟩
    ·exact ⟨rfl,(HK.out.trans K.out).trans (kept_alloc _ _),.inr ⟨HKK.out,rfl⟩⟩
   ·rw [Bool.true_and, if_pos rfl];obtain ⟨o,ho⟩:∃ o,o=fitD neg (m+1) (e+((0:Nat):Int)):=⟨_,rfl⟩;have hf2:=fun w1 u (k:Kept w w1) (hu:Lim w1 u (limbs (m+1)))=>HFI.out w1 u (m+1) 0 k hu (Nat.le_refl _) HJ.out
    rw [←ho] at hf2 ⊢;simp only [Int.natCast_zero,Int.add_zero] at hf2 ho;have HF2:=hid hf2;clear ho hf2
    go_enter Tryz.func171,Tryz.ntmps171
    go_wp2_with (first
     | (go_at_call 112;rw [←HW.out];refine (HSZ.out _ HK.out).mono ?_;rintro e w1 ⟨rfl,q,hq⟩;have K:=hid (show Kept W w1 from hq▸Kept.drewN (Below.refl W.heap.size W) q);clear hq;replace HW:True:=trivial;have LX:=hid (HLI.out.kept (HK.out.trans K.out)))
     | (go_at_call 116;refine (HZE.out _ (HK.out.trans K.out) HM0.out).mono ?_;rintro e w1 ⟨rfl,q,hq⟩;replace K:=hid (show Kept W w1 from hq▸Kept.drewN K.out q);clear hq)
     | (go_at_call 117;refine (HRI.out _ (HK.out.trans K.out) _ HJ.out).mono ?_;rintro e w1 ⟨X,rfl,hX,q⟩;replace K:=hid (K.out.trans q);replace LX:=hid hX;clear hX q)
     | (go_at_call 194;refine (HPL.out _ _ _ (LX.out.kept (kept_alloc _ _)) (by first | exact Nat.div_le_self _ _ | exact Nat.le_refl _) _ (lim_single _ 1 (by decide) (by decide))).mono ?_;rintro e w1 ⟨X,rfl,hX,q⟩;replace K:=hid (K.out.trans ((kept_alloc _ _).trans q));replace LX:=hid hX;clear hX q)
     | (go_at_call 41;refine (HF2.out _ _ (HK.out.trans K.out) LX.out).mono ?_;rintro e w2 ⟨q,u,rfl,hd⟩;obtain ⟨A',l',c',rfl,-,hd,g1,g2⟩:=hd.shape;have HD:=hid hd;replace K:=hid (K.out.trans q);clear hd q;have hb:=HB.out.kept K.out;obtain ⟨hsz,c0,c1,c2,f0,f1,f2⟩:=hb.facts;have HB2:=hid hb;clear hb)
     | (go_at_call 174;refine (must_cR _ _ _).mono ?_;rintro e w3 ⟨he,rfl⟩;rcases mustE_split he with ⟨hk,rfl⟩ | ⟨hk,rfl⟩<;>(have HKK:=hid hk;clear hk he)))
    ·exact ret_dy (blk_alloc (HB2.out.laid _ _ _) _) rfl rfl rfl ⟨(dyW_kept (HK.out.trans K.out) (Nat.le_refl _)).trans (kept_alloc _ _),.inl ⟨HKK.out,_,rfl,((HD.out.dyW HB2.out (noLimb_bool _) (noLimb_slice _ _ _) (noLimb_i64 _)).kept (kept_alloc _ _)).dyR g1 g2⟩⟩
    ·exact ⟨rfl,(HK.out.trans K.out).trans (kept_alloc _ _),.inr ⟨HKK.out,rfl⟩⟩
def BlkD (w:World) (b:Nat) (d:Dy):Prop:=∃ A l c,Blk w b (.bool d.neg) (.slice A l c) (.int .i64 d.e)∧DyR w (.agg #[.bool d.neg,.slice A l c,.int .i64 d.e]) d.raw
theorem BlkD.kept {w w':World}{b:Nat}{d:Dy}(h:BlkD w b d)(k:Kept w w'):BlkD w' b d:=by
 obtain ⟨A,l,c,h1,h2⟩:=h;exact ⟨A,l,c,h1.kept k,h2.kept k⟩
theorem dyS_one {w:World}{s:Value}{d:Dy}(h:DyR w (.agg #[.bool d.neg,s,.int .i64 d.e]) d.raw) :
 DyS (w.alloc (.cells #[.bool d.neg,s,.int .i64 d.e] 28)) (.slice (some ⟨w.heap.size,0,none⟩) 1 1) [d]:=by
 refine ⟨_,1,rfl,Nat.le_refl _,fun _=>⟨_,_,rfl,fun i x hi=>?_⟩⟩;have:i=0:=by
  have:=(List.getElem?_eq_some_iff.1 hi).1
  simp at this;exact this
 subst this
 simp at hi
 subst hi;obtain ⟨_,c0,c1,c2,_⟩:=(blk_new w (.bool d.neg) s (.int .i64 d.e)).facts;exact ⟨s,c0,c1,c2,h.kept (kept_alloc _ _)⟩
theorem dyS_one' {w:World}{s:Value}{d:Dy}{n:Nat}(hn:w.heap.size=n)(h:DyR w (.agg #[.bool d.neg,s,.int .i64 d.e]) d.raw) :
 DyS (w.alloc (.cells #[.bool d.neg,s,.int .i64 d.e] 28)) (.slice (some ⟨n,0,none⟩) 1 1) [d]:=by
 subst hn;exact dyS_one h
theorem box1 (w:World):∃ W,W=w.alloc (.cells #[.bool false,.slice none 0 0,.int .i64 0] 28)∧Kept w W∧Blk W w.heap.size (.bool false) (.slice none 0 0) (.int .i64 0)∧W.heap.size=w.heap.size+1 :=
 ⟨_,rfl,kept_alloc _ _,blk_new0 w,by simp⟩
theorem dirD_bad (d:Dy)(p:Nat)(up:Bool):(dirD d p up).raw.k≠0→(dirD d p up).raw.v=rz:=by
 intro h
 show ((dirD d p up).v).raw=rz
 rw [(dirD_ok d p up).2 h,dz_raw]
theorem directed1_c {w:World}{d:Dy}{p:Nat}{up:Bool}{bp bd bu:Nat}(hd:d.Ok)(hT:Tab w)(p1:1≤p)(p2:p≤2000)
 (cp:w.cell? ⟨bp,0,none⟩=some (.int .i64 p)) (cd:BlkD w bd d) (cu:w.cell? ⟨bu,0,none⟩=some (.bool up)) :
 Calls Tryz.prog 169 #[.pointer (some ⟨bp,0,none⟩),.pointer (some ⟨bd,0,none⟩),.pointer (some ⟨bu,0,none⟩)] w (Goes 185 (dirD d p up).raw w):=by
 obtain ⟨A,l,c,hb,hR⟩:=cd;have x1:=hd.lo;have x2:=hd.hi;have hl:=hd.len
 have hc:=fun w1 (k:Kept w w1)=>cut_c (v:=.slice A l c) (m:=d.m) (p:=p) (e:=d.e) d.neg false up (w:=w1)
  (by
    obtain ⟨A',l',c',he,-,hlim,-,-⟩:=hR.shape;injection he with he;injection he with he
    simp only [List.cons.injEq,and_true] at he;have e1:=he.2.1;rw [←e1] at hlim;exact ⟨hlim.kept k,Nat.le_trans hl (by decide),by omega,by omega,p1,p2,hT.kept k⟩)
 have hm:=fun w1 (k:Kept w w1) v (hv:DyS w1 v [d])=>rmay_c hv (by intro x hx;simp at hx;subst hx;exact hd) (by simp) (by omega:(1:Int)≤(p:Int)) (by omega)
 obtain ⟨W,hW,kW,BR,sW⟩:=box1 w;have hone:=dyS_one' sW (hR.kept kW);have lp:=lt_of_cell cp;have lu:=lt_of_cell cu;simp only at lp lu;have HC:=hid hc;have HM:=hid hm;have HO:=hid hone;have HB:=hid hb;have CP:=hid cp;have CU:=hid cu;obtain ⟨lb,b0,b1,b2,-⟩:=hb.facts;clear hc hm hone hb hR hd hT x1 x2 hl p1 p2;have ho:cutD d.neg d.m d.e false p up=dirD d p up:=rfl;rw [ho] at HC;clear ho;generalize dirD d p up=o at *;have HK:=hid kW;have HR:=hid BR;have HW:=hid hW;clear hW kW BR sW;generalize d.neg=nd at *;generalize d.e=ed at *
 go_enter Tryz.func169,Tryz.ntmps169
 go_wp2_with (go_at_call 170;rw [←HW.out];refine (HM.out _ (HK.out.trans (kept_alloc _ _)) _ HO.out).mono ?_;rintro e w1 ⟨rfl,q⟩;have K:=hid (HK.out.trans ((kept_alloc _ _).trans q));have hr:=HR.out.kept ((kept_alloc _ _).trans q);have HR2:=hid hr;clear q hr b0 b1 b2 cp cu;have cp:=cell_kept K.out CP.out;have cu:=cell_kept K.out CU.out;obtain ⟨-,b0,b1,b2,-⟩:=(HB.out.kept K.out).facts)
 refine (HC.out _ K.out).mono ?_;rintro e w2 ⟨q,⟨h0,u,rfl,hd⟩ | ⟨h0,rfl⟩⟩
 ·obtain ⟨A', l', c', rfl, hd, g1, g2⟩ := dyR_parts hd;have hr:=HR2.out.kept q;obtain ⟨_,r0,r1,r2,f0,f1,f2⟩:=hr.facts;have HD:=hid hd;have H0:=hid h0;have HR3:=hid hr;have Q:=hid q;clear hd h0 hr q;simp only [];go_wp2_with fail;exact ret_dy (HR3.out.laid _ _ _) rfl rfl rfl ⟨dyW_kept (K.out.trans Q.out) (Nat.le_refl _),.inl ⟨H0.out,_,rfl,(HD.out.dyW HR3.out (noLimb_bool _) (noLimb_slice _ _ _) (noLimb_i64 _)).dyR g1 g2⟩⟩
 ·exact ⟨rfl,K.out.trans q,.inr ⟨h0,rfl⟩⟩
theorem boxes4 (w:World)(x y z p u:Value):∃ W,W=(((w.alloc (.cells #[x,y,z] 28)).alloc (.cells #[p] 3)).alloc (.cells #[u] 4)).alloc (.cells #[.bool false,.slice none 0 0,.int .i64 0] 28) ∧
 Kept w W∧Blk W w.heap.size x y z∧W.cell? ⟨w.heap.size+1,0,none⟩=some p∧W.cell? ⟨w.heap.size+1+1,0,none⟩=some u∧Blk W (w.heap.size+1+1+1) (.bool false) (.slice none 0 0) (.int .i64 0) :=
 ⟨_, rfl, (((kept_alloc _ _).trans (kept_alloc _ _)).trans (kept_alloc _ _)).trans (kept_alloc _ _), blk_alloc (blk_alloc (blk_alloc (blk_new _ _ _ _) _) _) _,
  cell_kept (kept_alloc _ _) (cell_kept (kept_alloc _ _) (new1 _ _ _ _)),cell_kept (kept_alloc _ _) (new2 _ _ _ _ _),blk_new3 _ _ _ _ _ _ _⟩
theorem dyR_split {w:World}{v:Value}{d:Dy}(h:DyR w v d.raw):∃ A l c,v=.agg #[.bool d.neg,.slice A l c,.int .i64 d.e]∧DyR w (.agg #[.bool d.neg,.slice A l c,.int .i64 d.e]) d.raw:=by
 obtain ⟨A,l,c,rfl,-,-,-,-⟩:=h.shape;exact ⟨A,l,c,rfl,h⟩
theorem directed_c {w:World}{v:Value}{d:Dy}{p:Nat}{up:Bool}(hv:DyR w v d.raw)(hd:d.Ok)(hT:Tab w)(p1:1≤p)(p2:p≤2000) :
 Calls Tryz.prog 123 #[v,.int .i64 p,.bool up] w (RetE (dirD d p up).raw w):=by
 have hmf:∀ (fn:Fn) (first cap:Array Value) (w:World),(Instr.makeFunc fn first cap).run Tryz.prog w=.ok (.func fn first cap) w:=fun _ _ _ _=>rfl
 obtain ⟨A,l,c,rfl,hv⟩:=dyR_split hv;obtain ⟨W,hW,kW,B0,cp,cu,BR⟩:=boxes4 w (.bool d.neg) (.slice A l c) (.int .i64 d.e) (.int .i64 p) (.bool up)
 have hf:=face_cR (w:=W) (K:=169) (cap:=#[.pointer (some ⟨w.heap.size+1,0,none⟩),.pointer (some ⟨w.heap.size,0,none⟩),.pointer (some ⟨w.heap.size+1+1,0,none⟩)]) (o:=(dirD d p up).raw)
  (fun w1 k=>directed1_c hd (hT.kept (kW.trans k)) p1 p2 (cell_kept k cp) ⟨A,l,c,B0.kept k,hv.kept (kW.trans k)⟩ (cell_kept k cu)) (dirD_bad d p up) (fun _=>rfl)
 have HF:=hid hf;have HW:=hid hW;have HK:=hid kW;have HR:=hid BR;clear hf hW kW B0 cp cu BR hv hd hT p1 p2;generalize dirD d p up=o at *;generalize d.neg=nd at *;generalize d.e=ed at *
 go_enter Tryz.func123,Tryz.ntmps123
 go_wp2_with (go_at_call 168;rw [←HW.out];refine HF.out.mono ?_;rintro e w1 ⟨q,u,rfl,hd⟩;obtain ⟨A',l',c',rfl,hd,g3,g4⟩:=dyR_parts hd;have HD:=hid hd;have hb2:=HR.out.kept q;obtain ⟨_,c0,c1,c2,f0,f1,f2⟩:=hb2.facts;have HB2:=hid hb2;clear hd hb2)
 exact ret_dy2 (HB2.out.laid _ _ _) rfl rfl rfl ⟨dyW_kept (HK.out.trans q) (by omega),_,rfl,(HD.out.dyW HB2.out (noLimb_bool _) (noLimb_slice _ _ _) (noLimb_i64 _)).dyR g3 g4⟩
theorem boxes1r (w:World)(x y z:Value):∃ W,W=(w.alloc (.cells #[x,y,z] 28)).alloc (.cells #[.bool false,.slice none 0 0,.int .i64 0] 28) ∧
 Kept w W∧Blk W w.heap.size x y z∧Blk W (w.heap.size+1) (.bool false) (.slice none 0 0) (.int .i64 0) :=
 ⟨_,rfl,(kept_alloc _ _).trans (kept_alloc _ _),blk_alloc (blk_new _ _ _ _) _,blk_new1 _ _ _ _ _⟩
theorem Down_c {w:World}{v:Value}{d:Dy}{p:Nat}(hv:DyR w v d.raw)(hd:d.Ok)(hT:Tab w)(p1:1≤p)(p2:p≤2000) :
 Calls Tryz.prog 91 #[v,.int .i64 p] w (RetE (dirD d p false).raw w):=by
 have hc:=fun w1 (k:Kept w w1)=>directed_c (up:=false) (hv.kept k) hd (hT.kept k) p1 p2
 obtain ⟨A,l,c,rfl,hv⟩:=dyR_split hv;obtain ⟨W,hW,kW,B0,BR⟩:=boxes1r w (.bool d.neg) (.slice A l c) (.int .i64 d.e);have HC:=hid hc;have HW:=hid hW;have HK:=hid kW;have HR:=hid BR;clear hc hW kW B0 BR hv hd hT p1 p2;generalize dirD d p false=o at *;generalize d.neg=nd at *;generalize d.e=ed at *
 go_enter Tryz.func91,Tryz.ntmps91
 go_wp2_with (go_at_call 123;rw [←HW.out];refine (HC.out _ HK.out).mono ?_;rintro e w1 ⟨q,u,rfl,hd⟩;obtain ⟨A',l',c',rfl,hd,g3,g4⟩:=dyR_parts hd;have HD:=hid hd;have hb2:=HR.out.kept q;obtain ⟨_,c0,c1,c2,f0,f1,f2⟩:=hb2.facts;have HB2:=hid hb2;clear hd hb2)
 exact ret_dy2 (HB2.out.laid _ _ _) rfl rfl rfl ⟨dyW_kept (HK.out.trans q) (by omega),_,rfl,(HD.out.dyW HB2.out (noLimb_bool _) (noLimb_slice _ _ _) (noLimb_i64 _)).dyR g3 g4⟩
theorem Up_c {w:World}{v:Value}{d:Dy}{p:Nat}(hv:DyR w v d.raw)(hd:d.Ok)(hT:Tab w)(p1:1≤p)(p2:p≤2000) :
 Calls Tryz.prog 92 #[v,.int .i64 p] w (RetE (dirD d p true).raw w):=by
 have hc:=fun w1 (k:Kept w w1)=>directed_c (up:=true) (hv.kept k) hd (hT.kept k) p1 p2
 obtain ⟨A,l,c,rfl,hv⟩:=dyR_split hv;obtain ⟨W,hW,kW,B0,BR⟩:=boxes1r w (.bool d.neg) (.slice A l c) (.int .i64 d.e);have HC:=hid hc;have HW:=hid hW;have HK:=hid kW;have HR:=hid BR;clear hc hW kW B0 BR hv hd hT p1 p2;generalize dirD d p true=o at *;generalize d.neg=nd at *;generalize d.e=ed at *
 go_enter Tryz.func92,Tryz.ntmps92
 go_wp2_with (go_at_call 123;rw [←HW.out];refine (HC.out _ HK.out).mono ?_;rintro e w1 ⟨q,u,rfl,hd⟩;obtain ⟨A',l',c',rfl,hd,g3,g4⟩:=dyR_parts hd;have HD:=hid hd;have hb2:=HR.out.kept q;obtain ⟨_,c0,c1,c2,f0,f1,f2⟩:=hb2.facts;have HB2:=hid hb2;clear hd hb2)
 exact ret_dy2 (HB2.out.laid _ _ _) rfl rfl rfl ⟨dyW_kept (HK.out.trans q) (by omega),_,rfl,(HD.out.dyW HB2.out (noLimb_bool _) (noLimb_slice _ _ _) (noLimb_i64 _)).dyR g3 g4⟩
theorem dyS_two {w:World}{s s':Value}{d d':Dy}{n:Nat}(hn:w.heap.size=n)(h:DyR w (.agg #[.bool d.neg,s,.int .i64 d.e]) d.raw)(h':DyR w (.agg #[.bool d'.neg,s',.int .i64 d'.e]) d'.raw) :
 DyS (w.alloc (.cells #[.bool d.neg,s,.int .i64 d.e,.bool d'.neg,s',.int .i64 d'.e] 28)) (.slice (some ⟨n,0,none⟩) 2 2) [d,d']:=by
 subst hn;refine ⟨_,2,rfl,Nat.le_refl _,fun _=>⟨_,_,rfl,fun i x hi=>?_⟩⟩;have hb:=heap_alloc_new w (.cells #[.bool d.neg,s,.int .i64 d.e,.bool d'.neg,s',.int .i64 d'.e] 28);have hlt:i<2:=by
  have:=(List.getElem?_eq_some_iff.1 hi).1
  simpa using this
 rcases i with _ | _ | i
 ·simp at hi; subst hi
  exact ⟨s,cell_of_block hb 0 _ rfl,cell_of_block hb 1 _ rfl,cell_of_block hb 2 _ rfl,h.kept (kept_alloc _ _)⟩
 ·simp at hi; subst hi
  exact ⟨s',cell_of_block hb 3 _ rfl,cell_of_block hb 4 _ rfl,cell_of_block hb 5 _ rfl,h'.kept (kept_alloc _ _)⟩
 ·omega
def quotZ (a b:Dy) (p:Nat) (up:Bool):Outc Dy:=if b.m=0 then bad 4 else quotD a b p up
theorem quotZ_ok (a b:Dy)(p:Nat)(up:Bool):(quotZ a b p up).Ok:=by
 unfold quotZ
 split
 ·exact bad_ok _
 ·exact quotD_ok _ _ _ _
theorem quot1_c {w:World}{x y:Dy}{p:Nat}{up:Bool}{bp bx bY bu:Nat}(hx:x.Ok)(hy:y.Ok)(hT:Tab w)(p1:1≤p)(p2:p≤2000)
 (cp:w.cell? ⟨bp,0,none⟩=some (.int .i64 p)) (cx:BlkD w bx x) (cy:BlkD w bY y) (cu:w.cell? ⟨bu,0,none⟩=some (.bool up)) :
 Calls Tryz.prog 173 #[.pointer (some ⟨bp,0,none⟩),.pointer (some ⟨bx,0,none⟩),.pointer (some ⟨bY,0,none⟩),.pointer (some ⟨bu,0,none⟩)] w (Goes 185 (quotZ x y p up).raw w):=by
 obtain ⟨A,l,c,hbx,hRx⟩:=cx;obtain ⟨A2,l2,c2,hby,hRy⟩:=cy;obtain ⟨W,hW,kW,BR,sW⟩:=box1 w;have htwo:=dyS_two sW (hRx.kept kW) (hRy.kept kW);have hm:=fun w1 (k:Kept w w1) v (hv:DyS w1 v [x,y])=>rmay_c hv (by intro z hz;simp at hz;rcases hz with rfl | rfl;exact hx;exact hy) (by simp) (by omega:(1:Int)≤(p:Int)) (by omega)
 have HM:=hid hm;have HO:=hid htwo;have HW:=hid hW;have HK:=hid kW;have HR:=hid BR;have HBX:=hid hbx;have HBY:=hid hby;have CP:=hid cp;have CU:=hid cu;have lp:=lt_of_cell cp;have lu:=lt_of_cell cu;simp only at lp lu;obtain ⟨lbx,x0,x1,x2,-⟩:=hbx.facts;obtain ⟨lby,y0,y1,y2,-⟩:=hby.facts;clear hm htwo hW kW BR sW hbx hby
 by_cases h0:y.m=0
 ·unfold quotZ;rw [if_pos h0];have hl2:l2=0:=by
   obtain ⟨A',l',c',he,hl',-,-,-⟩:=hRy.shape;injection he with he;injection he with he
   simp only [List.cons.injEq,and_true] at he;have e1:=he.2.1;injection e1 with _ e2 _
   rw [e2,hl'];simp only [Dy.raw];rw [h0,limbs_zero];rfl
  subst hl2;clear hRx hRy hx hy hT p1 p2 h0;generalize x.neg=n1 at *;generalize x.e=e1 at *;generalize y.neg=n2 at *;generalize y.e=e2 at *
  go_enter Tryz.func173,Tryz.ntmps173
  go_wp2_with (first
   | (go_at_call 170;rw [←HW.out];refine (HM.out _ (HK.out.trans (kept_alloc _ _)) _ HO.out).mono ?_;rintro e w1 ⟨rfl,q⟩;have K:=hid (HK.out.trans ((kept_alloc _ _).trans q));have hr:=HR.out.kept ((kept_alloc _ _).trans q);have HR2:=hid hr;clear q hr x0 x1 x2 y0 y1 y2 cp cu;have cp:=cell_kept K.out CP.out;have cu:=cell_kept K.out CU.out;obtain ⟨-,x0,x1,x2,-⟩:=(HBX.out.kept K.out).facts;obtain ⟨-,y0,y1,y2,-⟩:=(HBY.out.kept K.out).facts)
   | (go_at_call 174;refine (must_cR _ _ _).mono ?_;rintro e w3 ⟨he,rfl⟩;obtain rfl:e=.panicked (failV 185 _):=he))
  exact ⟨rfl,K.out,.inr ⟨by decide,rfl⟩⟩
 ·unfold quotZ;rw [if_neg h0];have bx1:=bl_of_len x.m 64 hx.len;have by1:=bl_of_len y.m 64 hy.len;have xl:=hx.lo;have xh:=hx.hi;have yl:=hy.lo;have yh:=hy.hi;obtain ⟨kk,hK⟩:∃ kk,kk=quotK x y p:=⟨_,rfl⟩;have hKle:kk≤6200:=by rw [hK];unfold quotK;omega
  have limx:Lim w (.slice A l c) (limbs x.m):=by
   obtain ⟨A',l',c',he,-,hlim,-,-⟩:=hRx.shape;injection he with he;injection he with he
   simp only [List.cons.injEq,and_true] at he;rw [he.2.1];exact hlim
  have limy:Lim w (.slice A2 l2 c2) (limbs y.m):=by
   obtain ⟨A',l',c',he,-,hlim,-,-⟩:=hRy.shape;injection he with he;injection he with he
   simp only [List.cons.injEq,and_true] at he;rw [he.2.1];exact hlim
  have hl2:0<l2:=by
   obtain ⟨A',l',c',he,hl',-⟩:=limy.shape;injection he with e1 e2 e3
   rw [e2,hl'];exact length_limbs_pos y.m h0
  have hs1:=fun w1 (k:Kept w w1)=>size_c (limx.kept k) (by have:=hx.len;omega)
  have hs2:=fun w1 (k:Kept w w1)=>size_c (limy.kept k) (by have:=hy.len;omega)
  have hle:=fun w1 (k:Kept w w1)=>left_c (limx.kept k) kk (by have:=hx.len;omega) (by omega)
  have blX:bl (x.m*2^kk)≤10296:=by
   by_cases hz:x.m=0
   ·rw [hz,Nat.zero_mul,bl_zero];omega
   ·rw [bl_mul_pow _ _ hz];omega
  have lenX:=limbs_len_bl (x.m*2^kk) 161 (by omega);have hqr:=fun w1 u (k:Kept w w1) (hu:Lim w1 u (limbs (x.m*2^kk)))=>quorem_c hu (limy.kept k) (by omega) (by have:=hy.len;omega) h0
  have hcu:=fun w1 u (rb:Bool) (k:Kept w w1) (hu:Lim w1 u (limbs (x.m*2^kk/y.m)))=>cut_c (v:=u) (m:=x.m*2^kk/y.m) (p:=p) (e:=x.e-y.e-kk) (x.neg != y.neg) rb up (w:=w1)
   ⟨hu,Nat.le_trans (limbs_length_mono (Nat.div_le_self _ _)) (by omega),by omega,by omega,p1,p2,hT.kept k⟩
  have hout:quotD x y p up=cutD (x.neg != y.neg) (x.m*2^kk/y.m) (x.e-y.e-kk) (decide (¬x.m*2^kk%y.m=0)) p up:=by unfold quotD;rw [hK]
  obtain ⟨o,ho⟩:∃ o,o=quotD x y p up:=⟨_,rfl⟩;have hoc:=ho.trans hout;have hrl:∀ (w1:World) (v:Value),Lim w1 v (limbs (x.m*2^kk%y.m))→∃ A l c,v=.slice A l c∧decide (0<l)=decide (¬x.m*2^kk%y.m=0):=by
   intro w1 v hv;obtain ⟨A,l,c,rfl,hl,-⟩:=hv.shape;refine ⟨A,l,c,rfl,?_⟩;rw [hl]
   by_cases hz:x.m*2^kk%y.m=0
   ·rw [hz,limbs_zero];rfl
   ·have := length_limbs_pos _ hz
    simp [hz];omega
  rw [←ho];obtain ⟨nb,hnb⟩:∃ nb,(x.neg != y.neg)=nb:=⟨_,rfl⟩;have hnb1:((!x.neg)==y.neg)=nb:=by rw [←hnb];cases x.neg<;>cases y.neg<;>rfl
  have hnb2:(!(x.neg==y.neg))=nb:=by rw [←hnb];cases x.neg<;>cases y.neg<;>rfl
  rw [hnb] at hcu hoc;obtain ⟨s1,hs1'⟩:∃ s:Int,(p:Int)+1=s:=⟨_,rfl⟩;obtain ⟨s2,hs2'⟩:∃ s:Int,s1+(bl y.m:Int)=s:=⟨_,rfl⟩;obtain ⟨s3,hs3'⟩:∃ s:Int,s2-(bl x.m:Int)=s:=⟨_,rfl⟩;have hw1:IntKind.i64.wrap ((p:Int)+1)=s1:=by simp [IntKind.wrap_i64];omega
  have hw2:IntKind.i64.wrap (s1+(bl y.m:Int))=s2:=by simp [IntKind.wrap_i64];omega
  have hw3:IntKind.i64.wrap (s2-(bl x.m:Int))=s3:=by simp [IntKind.wrap_i64];omega
  have hmx:max 0 s3=(kk:Int):=by rw [hK];unfold quotK;omega
  obtain ⟨d1,hd1⟩:∃ d:Int,x.e-y.e=d:=⟨_,rfl⟩;obtain ⟨d2,hd2⟩:∃ d:Int,d1-(kk:Int)=d:=⟨_,rfl⟩;have hw4:IntKind.i64.wrap (x.e-y.e)=d1:=by rw [hd1];simp [IntKind.wrap_i64];omega
  have hw5:IntKind.i64.wrap (d1-(kk:Int))=d2:=by rw [hd2];simp [IntKind.wrap_i64];omega
  rw [hd1,hd2] at hcu hoc;have hcu2:=fun w1 u (k:Kept w w1) (hu:Lim w1 u (limbs (x.m*2^kk/y.m)))=>hcu w1 u (decide (¬x.m*2^kk%y.m=0)) k hu
  rw [←hoc] at hcu2;have H1:=hid hs1;have H2:=hid hs2;have HL:=hid hle;have HQ:=hid hqr;have HC:=hid hcu2;have HRL:=hid hrl;have hl2d:decide (0<l2)=true:=by simp [hl2]
  clear hs1 hs2 hle hqr hcu hcu2 hrl hl2 hRx hRy hx hy hT p1 p2 h0 bx1 by1 xl xh yl yh limx limy blX lenX hout ho hoc hnb hs1' hs2' hs3' hd1 hd2 hK hKle;obtain ⟨rb,hrb⟩:∃ rb,decide (¬x.m*2^kk%y.m=0)=rb:=⟨_,rfl⟩;rw [hrb] at HC HRL;clear hrb;generalize limbs (x.m*2^kk)=xs at *;generalize bl x.m=b1 at *;generalize bl y.m=b2 at *;generalize x.neg=n1 at *;generalize x.e=e1 at *;generalize y.neg=n2 at *;generalize y.e=e2 at *
  go_enter Tryz.func173,Tryz.ntmps173
  go_wp2_with (first
   | (go_at_call 170;rw [←HW.out];refine (HM.out _ (HK.out.trans (kept_alloc _ _)) _ HO.out).mono ?_;rintro e w1 ⟨rfl,q⟩;have K:=hid (HK.out.trans ((kept_alloc _ _).trans q));have hr:=HR.out.kept ((kept_alloc _ _).trans q);have HR2:=hid hr;clear q hr x0 x1 x2 y0 y1 y2 cp cu;have cp:=cell_kept K.out CP.out;have cu:=cell_kept K.out CU.out;obtain ⟨-,x0,x1,x2,-⟩:=(HBX.out.kept K.out).facts;obtain ⟨-,y0,y1,y2,-⟩:=(HBY.out.kept K.out).facts)
   | (go_at_call 174;refine (must_cR _ _ _).mono ?_;rintro e w3 ⟨he,rfl⟩;obtain rfl:e=.returned (.tuple #[]):=he))
  clear x0 x1 x2 y0 y1 y2 cp cu hl2d
  refine region_lin (m:=12) (V:=VL [(vE (.int .i64 p)),(vE (.int .i64 s1)),(vP bY 1),(vE (.slice A2 l2 c2)),(vE (.int .i64 b2)),(vE (.int .i64 s2)),(vP bx 1),(vE (.slice A l c)),(vE (.int .i64 b1)),(vE (.int .i64 s3)),(vE (.int .i64 kk)),(vE (.int .i64 kk))])
   (by kernel_rfl) rfl (by kernel_rfl) (by kernel_rfl) (by kernel_rfl) (mono_of _ ⟨mE,mE,mE,mE,mE,mE,mE,mE,mE,mE,mE,mE,trivial⟩) (steps_of ⟨
     (fun aF wF F=>by have s0:aF.tmps.getD 0 undef=(.pointer (some ⟨bp,0,none⟩)):=F.o 0;exact sw (by have cq:=cell_kept F.kept (cell_kept K.out CP.out);go_simp) rfl),(fun aF wF F=>by have s18:=F.v 0 18;exact sv rfl),(fun aF wF F=>by have s2:aF.tmps.getD 2 undef=(.pointer (some ⟨bY,0,none⟩)):=F.o 2;exact sv rfl),(fun aF wF F=>by have s20:=F.v 2 20;have c0:=cell_at (HBY.out.kept K.out) F.kept 1 _ rfl;exact sv rfl),(fun aF wF F=>by have s21:=F.v 3 21;exact sQ (H2.out _ (K.out.trans F.kept)) fun _ _ h=>h),(fun aF wF F=>by have s19:=F.v 1 19;have s22:=F.v 4 22;exact sv rfl),(fun aF wF F=>by have s1:aF.tmps.getD 1 undef=(.pointer (some ⟨bx,0,none⟩)):=F.o 1;exact sv rfl),(fun aF wF F=>by have s24:=F.v 6 24;have c0:=cell_at (HBX.out.kept K.out) F.kept 1 _ rfl;exact sv rfl),(fun aF wF F=>by have s25:=F.v 7 25;exact sQ (H1.out _ (K.out.trans F.kept)) fun _ _ h=>h),(fun aF wF F=>by have s23:=F.v 5 23;have s26:=F.v 8 26;exact sv rfl),(fun aF wF F=>by have s27:=F.v 9 27;exact sv rfl),(fun aF wF F=>by have s28:=F.v 10 28;exact sv rfl),
     trivial⟩) ?_
  intro u w1 k1 hu;simp only [puts,slotOf,if_true,Act.put,z1,z2,z3,z4,z5,z6,z7,hv hu 0,hv hu 1,hv hu 2,hv hu 3,hv hu 4,hv hu 5,hv hu 6,hv hu 7,hv hu 8,hv hu 9,hv hu 10,hv hu 11];clear hu;have K1:=hid (K.out.trans k1);have HK1:=hid k1;clear k1 hw1 hw2 hw3 hmx;go_wp2_with fail
  refine region_lin (m:=12) (V:=VL [(vP bx 1),(vE (.slice A l c)),(vE (.int .i64 kk)),(fun v wv=>Lim wv v (xs)),(vP bY 1),(vE (.slice A2 l2 c2)),(fun v wv=>∃ q r,v=.tuple #[q,r]∧Lim wv q (limbs (x.m*2^kk/y.m))∧Lim wv r (limbs (x.m*2^kk%y.m))),(fun v wv=>∃ q r,v=.tuple #[q,r]∧Lim wv q (limbs (x.m*2^kk/y.m))∧Lim wv r (limbs (x.m*2^kk%y.m))),(fun v wv=>Lim wv v (limbs (x.m*2^kk/y.m))),(fun v wv=>Lim wv v (limbs (x.m*2^kk%y.m))),(fun v wv=>Lim wv v (limbs (x.m*2^kk/y.m))),(fun v wv=>Lim wv v (limbs (x.m*2^kk%y.m)))])
   (by kernel_rfl) rfl (by kernel_rfl) (by kernel_rfl) (by kernel_rfl) (mono_of _ ⟨mE,mE,mE,mL,mE,mE,fun v w w' k h=>by obtain ⟨q,r,e,a,b⟩:=h;exact ⟨q,r,e,a.kept k,b.kept k⟩,fun v w w' k h=>by obtain ⟨q,r,e,a,b⟩:=h;exact ⟨q,r,e,a.kept k,b.kept k⟩,mL,mL,mL,mL,trivial⟩) (steps_of ⟨
     (fun aF wF F=>by have s1:aF.tmps.getD 1 undef=(.pointer (some ⟨bx,0,none⟩)):=F.o 1;exact sv rfl),(fun aF wF F=>by have s30:=F.v 0 30;have c0:=cell_at (HBX.out.kept K1.out) F.kept 1 _ rfl;exact sv rfl),(fun aF wF F=>by have s5:aF.tmps.getD 5 undef=(.int .i64 kk):=F.o 5;exact sv rfl),(fun aF wF F=>by have s31:=F.v 1 31;have s32:=F.v 2 32;exact sL (HL.out _ (K1.out.trans F.kept)) fun _ _ h=>h),(fun aF wF F=>by have s2:aF.tmps.getD 2 undef=(.pointer (some ⟨bY,0,none⟩)):=F.o 2;exact sv rfl),(fun aF wF F=>by have s34:=F.v 4 34;have c0:=cell_at (HBY.out.kept K1.out) F.kept 1 _ rfl;exact sv rfl),(fun aF wF F=>by have s33:=F.p 3 33;have s35:=F.v 5 35;exact step_good (by simp [Region.wanted]) (by go_simp) (HQ.out _ _ (K1.out.trans F.kept) s33) (fun _ _ h=>RetQR.good h) (fun _ _ h=>h)),(fun aF wF F=>by have s36:=F.p 6 36;exact step_val (by simp [Region.wanted]) rfl s36),(fun aF wF F=>by have s29:=F.p 7 29;obtain ⟨q,r,e,a,b⟩:=s29;exact step_val (by simp [Region.wanted]) (by go_simp) a),(fun aF wF F=>by have s29:=F.p 7 29;obtain ⟨q,r,e,a,b⟩:=s29;exact step_val (by simp [Region.wanted]) (by go_simp) b),(fun aF wF F=>by have s37:=F.p 8 37;exact step_val (by simp [Region.wanted]) rfl s37),(fun aF wF F=>by have s38:=F.p 9 38;exact step_val (by simp [Region.wanted]) rfl s38),
     trivial⟩) ?_
  intro u w1 k1 hu;have p33:=hp hu 3;have p36:=hp hu 6;have p29:=hp hu 7;have p37:=hp hu 8;have p38:=hp hu 9;have p6:=hp hu 10;have p7:=hp hu 11;simp only [puts,slotOf,if_true,Act.put,z1,z2,z3,z4,z5,z6,z7,hv hu 0,hv hu 1,hv hu 2,hv hu 4,hv hu 5];clear hu;generalize u 3=v33 at *;generalize u 6=v36 at *;generalize u 7=v29 at *;generalize u 8=v37 at *;generalize u 9=v38 at *;generalize u 10=v6 at *;generalize u 11=v7 at *;have K2:=hid (K1.out.trans k1);have HR3:=hid (HR2.out.kept (HK1.out.trans k1));have P37:=hid p6;obtain ⟨A3,l3,c3,rfl,hl3⟩:=HRL.out _ _ p7;clear p33 p36 p29 p37 p38 p6 p7 k1 HL HQ H1 H2
  obtain ⟨-,x0,x1,x2,-⟩:=(HBX.out.kept K2.out).facts;obtain ⟨-,y0,y1,y2,-⟩:=(HBY.out.kept K2.out).facts;have cp:=cell_kept K2.out CP.out;have cu:=cell_kept K2.out CU.out;go_wp2_with fail;refine (HC.out _ _ K2.out P37.out).mono ?_;rintro e w2 ⟨q,⟨h0,u,rfl,hd⟩ | ⟨h0,rfl⟩⟩
  ·obtain ⟨A', l', c', rfl, hd, g1, g2⟩ := dyR_parts hd;have hr:=HR3.out.kept q;obtain ⟨_,r0,r1,r2,f0,f1,f2⟩:=hr.facts;have HD:=hid hd;have H0:=hid h0;have HR4:=hid hr;have Q:=hid q;clear hd h0 hr q;simp only [];go_wp2_with fail;exact ret_dy (HR4.out.laid _ _ _) rfl rfl rfl ⟨dyW_kept (K2.out.trans Q.out) (Nat.le_refl _),.inl ⟨H0.out,_,rfl,(HD.out.dyW HR4.out (noLimb_bool _) (noLimb_slice _ _ _) (noLimb_i64 _)).dyR g1 g2⟩⟩
  ·exact ⟨rfl,K2.out.trans q,.inr ⟨h0,rfl⟩⟩
theorem quotZ_bad (a b:Dy)(p:Nat)(up:Bool):(quotZ a b p up).raw.k≠0→(quotZ a b p up).raw.v=rz:=by
 intro h
 show ((quotZ a b p up).v).raw=rz
 rw [(quotZ_ok a b p up).2 h,dz_raw]
theorem boxes5 (w:World)(x y z x' y' z' p u:Value):∃ W,W=((((w.alloc (.cells #[x,y,z] 28)).alloc (.cells #[x',y',z'] 28)).alloc (.cells #[p] 3)).alloc (.cells #[u] 4)).alloc (.cells #[.bool false,.slice none 0 0,.int .i64 0] 28) ∧
 Kept w W∧Blk W w.heap.size x y z∧Blk W (w.heap.size+1) x' y' z'∧W.cell? ⟨w.heap.size+1+1,0,none⟩=some p∧W.cell? ⟨w.heap.size+1+1+1,0,none⟩=some u∧Blk W (w.heap.size+1+1+1+1) (.bool false) (.slice none 0 0) (.int .i64 0):=by
 have k1:=kept_alloc w (.cells #[x,y,z] 28)
 refine ⟨_,rfl,(((k1.trans (kept_alloc _ _)).trans (kept_alloc _ _)).trans (kept_alloc _ _)).trans (kept_alloc _ _),blk_alloc (blk_alloc (blk_alloc (blk_alloc (blk_new _ _ _ _) _) _) _) _,blk_alloc (blk_alloc (blk_alloc (blk_new1 _ _ _ _ _) _) _) _,
  cell_kept (kept_alloc _ _) (cell_kept (kept_alloc _ _) (new2 _ _ _ _ _)),cell_kept (kept_alloc _ _) ?_,?_⟩
 ·have := new0 (((w.alloc (.cells #[x, y, z] 28)).alloc (.cells #[x', y', z'] 28)).alloc (.cells #[p] 3)) u 4;simp only [World.size_alloc] at this;exact this
 ·have := blk_new ((((w.alloc (.cells #[x, y, z] 28)).alloc (.cells #[x', y', z'] 28)).alloc (.cells #[p] 3)).alloc (.cells #[u] 4)) (.bool false) (.slice none 0 0) (.int .i64 0);simp only [World.size_alloc] at this;exact this
theorem quot_c {w:World}{v v':Value}{x y:Dy}{p:Nat}{up:Bool}(hv:DyR w v x.raw)(hv':DyR w v' y.raw)(hx:x.Ok)(hy:y.Ok)(hT:Tab w)(p1:1≤p)(p2:p≤2000) :
 Calls Tryz.prog 129 #[v,v',.int .i64 p,.bool up] w (RetE (quotZ x y p up).raw w):=by
 have hmf:∀ (fn:Fn) (first cap:Array Value) (w:World),(Instr.makeFunc fn first cap).run Tryz.prog w=.ok (.func fn first cap) w:=fun _ _ _ _=>rfl
 obtain ⟨A,l,c,rfl,hv⟩:=dyR_split hv;obtain ⟨A2,l2,c2,rfl,hv'⟩:=dyR_split hv';obtain ⟨W,hW,kW,B0,B1,cp,cu,BR⟩:=boxes5 w (.bool x.neg) (.slice A l c) (.int .i64 x.e) (.bool y.neg) (.slice A2 l2 c2) (.int .i64 y.e) (.int .i64 p) (.bool up)
 have hf:=face_cR (w:=W) (K:=173) (cap:=#[.pointer (some ⟨w.heap.size+1+1,0,none⟩),.pointer (some ⟨w.heap.size,0,none⟩),.pointer (some ⟨w.heap.size+1,0,none⟩),.pointer (some ⟨w.heap.size+1+1+1,0,none⟩)]) (o:=(quotZ x y p up).raw)
  (fun w1 k=>quot1_c hx hy (hT.kept (kW.trans k)) p1 p2 (cell_kept k cp) ⟨A,l,c,B0.kept k,hv.kept (kW.trans k)⟩ ⟨A2,l2,c2,B1.kept k,hv'.kept (kW.trans k)⟩ (cell_kept k cu)) (quotZ_bad x y p up) (fun _=>rfl)
 have HF:=hid hf;have HW:=hid hW;have HK:=hid kW;have HR:=hid BR;clear hf hW kW B0 B1 cp cu BR hv hv' hx hy hT p1 p2;generalize quotZ x y p up=o at *;generalize x.neg=nx at *;generalize x.e=ex at *;generalize y.neg=ny at *;generalize y.e=ey at *
 go_enter Tryz.func129,Tryz.ntmps129
 go_wp2_with (go_at_call 168;rw [←HW.out];refine HF.out.mono ?_;rintro e w1 ⟨q,u,rfl,hd⟩;obtain ⟨A',l',c',rfl,hd,g3,g4⟩:=dyR_parts hd;have HD:=hid hd;have hb2:=HR.out.kept q;obtain ⟨_,c0,c1,c2,f0,f1,f2⟩:=hb2.facts;have HB2:=hid hb2;clear hd hb2)
 exact ret_dy2 (HB2.out.laid _ _ _) rfl rfl rfl ⟨dyW_kept (HK.out.trans q) (by omega),_,rfl,(HD.out.dyW HB2.out (noLimb_bool _) (noLimb_slice _ _ _) (noLimb_i64 _)).dyR g3 g4⟩
def rootZ (d:Dy) (p:Nat) (up:Bool):Outc Dy:=if d.neg then bad 4 else rootD d p up
theorem rootZ_ok (d:Dy)(p:Nat)(up:Bool):(rootZ d p up).Ok:=by
 unfold rootZ
 split
 ·exact bad_ok _
 ·exact rootD_ok _ _ _
theorem rootZ_bad (d:Dy)(p:Nat)(up:Bool):(rootZ d p up).raw.k≠0→(rootZ d p up).raw.v=rz:=by
 intro h
 show ((rootZ d p up).v).raw=rz
 rw [(rootZ_ok d p up).2 h,dz_raw]
theorem bl_isq (n:Nat):bl (isq n)≤bl n:=by
 refine bl_mono ?_;have h:=(isq_spec n).1
 by_cases h0:isq n=0
 ·omega
 ·have := Nat.mul_le_mul_left (isq n) (Nat.pos_of_ne_zero h0);omega
theorem root1_c {w:World}{x:Dy}{p:Nat}{up:Bool}{bp bx bu:Nat}(hx:x.Ok)(hT:Tab w)(p1:1≤p)(p2:p≤2000)
 (cp:w.cell? ⟨bp,0,none⟩=some (.int .i64 p)) (cx:BlkD w bx x) (cu:w.cell? ⟨bu,0,none⟩=some (.bool up)) :
 Calls Tryz.prog 182 #[.pointer (some ⟨bp,0,none⟩),.pointer (some ⟨bx,0,none⟩),.pointer (some ⟨bu,0,none⟩)] w (Goes 185 (rootZ x p up).raw w):=by
 obtain ⟨A,l,c,hbx,hRx⟩:=cx;obtain ⟨W,hW,kW,BR,sW⟩:=box1 w;have hone:=dyS_one' sW (hRx.kept kW);have hm:=fun w1 (k:Kept w w1) v (hv:DyS w1 v [x])=>rmay_c hv (by intro z hz;simp at hz;subst hz;exact hx) (by simp) (by omega:(1:Int)≤(p:Int)) (by omega)
 have HM:=hid hm;have HO:=hid hone;have HW:=hid hW;have HK:=hid kW;have HR:=hid BR;have HBX:=hid hbx;have CP:=hid cp;have CU:=hid cu;have lp:=lt_of_cell cp;have lu:=lt_of_cell cu;simp only at lp lu;obtain ⟨lbx,x0,x1,x2,-⟩:=hbx.facts;clear hm hone hW kW BR sW hbx;cases hn:x.neg
 ·have hz : rootZ x p up = rootD x p up := by unfold rootZ; rw [hn]; rfl
  rw [hz];rw [hn] at x0 HBX HO;have bx1:=bl_of_len x.m 64 hx.len;have xl:=hx.lo;have xh:=hx.hi;have limx:Lim w (.slice A l c) (limbs x.m):=by
   obtain ⟨A',l',c',he,-,hlim,-,-⟩:=hRx.shape;injection he with he;injection he with he
   simp only [List.cons.injEq,and_true] at he;rw [he.2.1];exact hlim
  obtain ⟨k0,hk0⟩:∃ k,k=rootK0 x p:=⟨_,rfl⟩;obtain ⟨kk,hkk⟩:∃ k,k=rootK x p:=⟨_,rfl⟩;have hk0le:k0≤4002:=by rw [hk0];unfold rootK0;omega
  have hkk':kk=if (x.e-k0)%2=0 then k0 else k0+1:=by rw [hkk,hk0];rfl
  have hev:(x.e-kk)%2=0:=by rw [hkk];exact rootK_even x p
  have hkle:kk≤4003:=by rw [hkk'];split<;>omega
  have hs1:=fun w1 (k:Kept w w1)=>size_c (limx.kept k) (by have:=hx.len;omega)
  have hle:=fun w1 (k:Kept w w1)=>left_c (limx.kept k) kk (by have:=hx.len;omega) (by omega)
  have blX:bl (x.m*2^kk)≤8100:=by
   by_cases hz:x.m=0
   ·rw [hz,Nat.zero_mul,bl_zero];omega
   ·rw [bl_mul_pow _ _ hz];omega
  have lenX:=limbs_len_bl (x.m*2^kk) 127 (by omega);have lenI:=limbs_len_bl (isq (x.m*2^kk)) 127 (by have:=bl_isq (x.m*2^kk);omega);have hsq:=fun w1 u (hu:Lim w1 u (limbs (x.m*2^kk)))=>square_c hu (by omega)
  have hti:=fun w1 u (hu:Lim w1 u (limbs (isq (x.m*2^kk))))=>times_c hu hu (by omega) (by omega)
  have lenS:(limbs (isq (x.m*2^kk)*isq (x.m*2^kk))).length≤127:=Nat.le_trans (limbs_length_mono (isq_spec (x.m*2^kk)).1) lenX;have hor:=fun w1 u v (hu:Lim w1 u (limbs (isq (x.m*2^kk)*isq (x.m*2^kk)))) (hv:Lim w1 v (limbs (x.m*2^kk)))=>order_c hu hv (by omega) (by omega)
  obtain ⟨hh,hhh⟩:∃ h:Int,(x.e-kk)/2=h:=⟨_,rfl⟩;obtain ⟨rb,hrb⟩:∃ rb,decide (¬isq (x.m*2^kk)*isq (x.m*2^kk)=x.m*2^kk)=rb:=⟨_,rfl⟩;have hcm:(cmpN (isq (x.m*2^kk)*isq (x.m*2^kk)) (x.m*2^kk) != 0)=rb:=by
   rw [←hrb];unfold cmpN;have:=(isq_spec (x.m*2^kk)).1
   by_cases h1:isq (x.m*2^kk)*isq (x.m*2^kk)<x.m*2^kk
   ·rw [if_pos h1];simp;omega
   ·rw [if_neg h1,if_pos (by omega)];simp;omega
  have hcu:=fun w1 u (k:Kept w w1) (hu:Lim w1 u (limbs (isq (x.m*2^kk))))=>cut_c (v:=u) (m:=isq (x.m*2^kk)) (p:=p) (e:=hh) false rb up (w:=w1)
   ⟨hu,by omega,by omega,by omega,p1,p2,hT.kept k⟩
  have hout:rootD x p up=cutD false (isq (x.m*2^kk)) hh rb p up:=by unfold rootD;rw [←hkk,hhh,hrb]
  obtain ⟨o,ho⟩:∃ o,o=rootD x p up:=⟨_,rfl⟩;rw [←ho];rw [←ho.trans hout] at hcu;obtain ⟨s1,hs1'⟩:∃ s:Int,2*(p:Int)=s:=⟨_,rfl⟩;obtain ⟨s2,hs2'⟩:∃ s:Int,s1+2=s:=⟨_,rfl⟩;obtain ⟨s3,hs3'⟩:∃ s:Int,s2-(bl x.m:Int)=s:=⟨_,rfl⟩;have hw1:IntKind.i64.wrap (2*(p:Int))=s1:=by simp [IntKind.wrap_i64];omega
  have hw2:IntKind.i64.wrap (s1+2)=s2:=by simp [IntKind.wrap_i64];omega
  have hw3:IntKind.i64.wrap (s2-(bl x.m:Int))=s3:=by simp [IntKind.wrap_i64];omega
  have hmx:max 0 s3=(k0:Int):=by rw [hk0];unfold rootK0;omega
  obtain ⟨d0,hd0⟩:∃ d:Int,x.e-(k0:Int)=d:=⟨_,rfl⟩;obtain ⟨d1,hd1⟩:∃ d:Int,x.e-(kk:Int)=d:=⟨_,rfl⟩;have hw4:IntKind.i64.wrap (x.e-(k0:Int))=d0:=by rw [hd0];simp [IntKind.wrap_i64];omega
  have hw5:IntKind.i64.wrap (x.e-(kk:Int))=d1:=by rw [hd1];simp [IntKind.wrap_i64];omega
  have hw6:IntKind.i64.wrap (d1.tdiv 2)=hh:=by
   have:d1.tdiv 2=hh:=by
    rw [←hhh,hd1];rw [hd1] at hev;rw [Int.tdiv_eq_ediv]
    split<;>omega
   rw [this];simp [IntKind.wrap_i64];omega
  have H1:=hid hs1;have HL:=hid hle;have HSQ:=hid hsq;have HTI:=hid hti;have HOR:=hid hor;have HC:=hid hcu;have HW5:=hid hw5;have HW6:=hid hw6;have HCM:=hid hcm;have hq1:IntKind.i64.wrap ((k0:Int)+1)=((k0+1:Nat):Int):=by simp [IntKind.wrap_i64];omega
  have hpar:d0.tmod 2=0↔(x.e-k0)%2=0:=by rw [hd0,←Int.dvd_iff_tmod_eq_zero,Int.dvd_iff_emod_eq_zero]
  have HP:=hid hpar;have HKK:=hid hkk';clear hs1 hle hsq hti hor hcu hw5 hw6 hcm hpar hkk' hRx hx hT p1 p2 hz hn bx1 xl xh limx hk0 hkk hk0le hev hkle blX lenX lenI lenS hhh hrb hout ho hs1' hs2' hs3' hd0 hd1;generalize bl x.m=b1 at *
  by_cases hpp:d0.tmod 2=0
  ·have hk := HKK.out;rw [if_pos (HP.out.1 hpp)] at hk;subst hk;have hpb:(d0.tmod 2 != 0)=false:=by simp [hpp]
   have hpc:(d0.tmod 2==0)=true:=by simp [hpp]
   clear hpp HKK HP hq1;generalize x.e=e1 at *
   go_enter Tryz.func182,Tryz.ntmps182
   go_wp2_with (first
    | (go_at_call 170;rw [←HW.out];refine (HM.out _ (HK.out.trans (kept_alloc _ _)) _ HO.out).mono ?_;rintro e w1 ⟨rfl,q⟩;have K:=hid (HK.out.trans ((kept_alloc _ _).trans q));have hr:=HR.out.kept ((kept_alloc _ _).trans q);have HR2:=hid hr;clear q hr x0 x1 x2 cp cu;have cp:=cell_kept K.out CP.out;have cu:=cell_kept K.out CU.out;obtain ⟨-,x0,x1,x2,-⟩:=(HBX.out.kept K.out).facts)
    | (go_at_call 174;refine (must_cR _ _ _).mono ?_;rintro e w3 ⟨he,rfl⟩;obtain rfl:e=.returned (.tuple #[]):=he))
   clear x0 x1 x2 cp cu
   refine region_lin (m:=9) (V:=VL [(vE (.int .i64 p)),(vE (.int .i64 s1)),(vE (.int .i64 s2)),(vP bx 1),(vE (.slice A l c)),(vE (.int .i64 b1)),(vE (.int .i64 s3)),(vE (.int .i64 kk)),(vE (.int .i64 kk))])
    (by kernel_rfl) rfl (by kernel_rfl) (by kernel_rfl) (by kernel_rfl) (mono_of _ ⟨mE,mE,mE,mE,mE,mE,mE,mE,mE,trivial⟩) (steps_of ⟨
      (fun aF wF F=>by have s0:aF.tmps.getD 0 undef=(.pointer (some ⟨bp,0,none⟩)):=F.o 0;exact sw (by have cq:=cell_kept F.kept (cell_kept K.out CP.out);go_simp) rfl),(fun aF wF F=>by have s15:=F.v 0 15;exact sv rfl),(fun aF wF F=>by have s16:=F.v 1 16;exact sv rfl),(fun aF wF F=>by have s1:aF.tmps.getD 1 undef=(.pointer (some ⟨bx,0,none⟩)):=F.o 1;exact sv rfl),(fun aF wF F=>by have s18:=F.v 3 18;have c0:=cell_at (HBX.out.kept K.out) F.kept 1 _ rfl;exact sv rfl),(fun aF wF F=>by have s19:=F.v 4 19;exact sQ (H1.out _ (K.out.trans F.kept)) fun _ _ h=>h),(fun aF wF F=>by have s17:=F.v 2 17;have s20:=F.v 5 20;exact sv rfl),(fun aF wF F=>by have s21:=F.v 6 21;exact sv rfl),(fun aF wF F=>by have s22:=F.v 7 22;exact sv rfl),
      trivial⟩) ?_
   intro u w1 k1 hu;simp only [puts,slotOf,if_true,Act.put,z1,z2,z3,z4,z5,z6,z7,hv hu 0,hv hu 1,hv hu 2,hv hu 3,hv hu 4,hv hu 5,hv hu 6,hv hu 7,hv hu 8];clear hu;have K1:=hid (K.out.trans k1);have HR3:=hid (HR2.out.kept k1);clear k1 u hw1 hw2 hw3 hmx;obtain ⟨-,x0,x1,x2,-⟩:=(HBX.out.kept K1.out).facts;go_wp2_with fail;clear hpb hpc;refine (HL.out _ K1.out).mono ?_;rintro e w2 ⟨M,rfl,hM,q⟩;have K2:=hid (K1.out.trans q);have HR4:=hid (HR3.out.kept q);have LM:=hid hM;clear hM q x0 x1 x2;simp only [];go_wp2_with fail;refine (HSQ.out _ _ LM.out).mono ?_;rintro e w3 ⟨X,rfl,hX,q⟩;have K3:=hid (K2.out.trans q)
   have HR5:=hid (HR4.out.kept q);have LX:=hid hX;replace LM:=hid (LM.out.kept q);clear hX q hw4;have hw5:=HW5.out;have hw6:=HW6.out;have hcm:=HCM.out;simp only [];go_wp2_with fail
   refine region_lin1 (m:=15) (V:=VL [(vE X),(vP bx 2),(vE (.int .i64 e1)),(vE (.int .i64 ((kk:Nat):Int))),(vE (.int .i64 d1)),(vE (.int .i64 hh)),(vE X),(vE X),(fun v wv=>Lim wv v (limbs (isq (x.m*2^kk)*isq (x.m*2^kk)))),(vE M),(vE (.int .i64 (cmpN (isq (x.m*2^kk)*isq (x.m*2^kk)) (x.m*2^kk)))),(vE (.bool rb)),(vE (.int .i64 p)),(vE (.bool up)),(fun v wv=>o.raw.k=0∧DyR wv v o.raw.v)])
    (by kernel_rfl) rfl rfl rfl (by kernel_rfl) (by kernel_rfl) (by kernel_rfl) (by kernel_rfl) (mono_of _ ⟨mE,mE,mE,mE,mE,mE,mE,mE,mL,mE,mE,mE,mE,mE,fun v w w' k h=>by first | exact h | exact h.kept k | exact ⟨h.1,h.2.kept k⟩,trivial⟩) (steps_of ⟨
      (fun aF wF F=>by have s6:aF.tmps.getD 6 undef=X:=F.o 6;exact sv rfl),(fun aF wF F=>by have s1:aF.tmps.getD 1 undef=(.pointer (some ⟨bx,0,none⟩)):=F.o 1;exact sv rfl),(fun aF wF F=>by have s38:=F.v 1 38;have c0:=cell_at (HBX.out.kept K3.out) F.kept 2 _ rfl;exact sv rfl),(fun aF wF F=>by have s4:aF.tmps.getD 4 undef=(.int .i64 ((kk:Nat):Int)):=F.o 4;exact sv rfl),(fun aF wF F=>by have s39:=F.v 2 39;have s40:=F.v 3 40;exact sw (by have hx:=HW5.out;push_cast at hx;go_simp) rfl),(fun aF wF F=>by have s41:=F.v 4 41;exact sv rfl),(fun aF wF F=>by have s6:aF.tmps.getD 6 undef=X:=F.o 6;exact sv rfl),(fun aF wF F=>by have s6:aF.tmps.getD 6 undef=X:=F.o 6;exact sv rfl),(fun aF wF F=>by have s43:=F.v 6 43;have s44:=F.v 7 44;exact sL (HTI.out _ _ (LX.out.kept F.kept)) fun _ _ h=>h),(fun aF wF F=>by have s5:aF.tmps.getD 5 undef=M:=F.o 5;exact sv rfl),(fun aF wF F=>by have s45:=F.p 8 45;have s46:=F.v 9 46;exact sQ (HOR.out _ _ _ s45 (LM.out.kept F.kept)) fun _ _ h=>h),(fun aF wF F=>by have s47:=F.v 10 47;exact sv rfl),(fun aF wF F=>by have s0:aF.tmps.getD 0 undef=(.pointer (some ⟨bp,0,none⟩)):=F.o 0;exact sw (by have cq:=cell_kept F.kept (cell_kept K3.out CP.out);go_simp) rfl),(fun aF wF F=>by have s2:aF.tmps.getD 2 undef=(.pointer (some ⟨bu,0,none⟩)):=F.o 2;exact sw (by have cq:=cell_kept F.kept (cell_kept K3.out CU.out);go_simp) rfl),(fun aF wF F=>by have s37:=F.v 0 37;have s42:=F.v 5 42;have s48:=F.v 11 48;have s49:=F.v 12 49;have s50:=F.v 13 50;exact sG (HC.out _ _ (K3.out.trans F.kept) (LX.out.kept F.kept)) (fun _ _ _ h0 h=>⟨h0,h⟩) (fun w2 k2 h0=>⟨F.defers,⟨K3.out.trans (F.kept.trans k2),.inr ⟨h0,rfl⟩⟩⟩)),
      trivial⟩) ?_
   intro u w1 k1 hu;have p45:=hp hu 8;have p51:=hp hu 14;simp only [puts,slotOf,if_true,Act.put,z1,z2,z3,z4,z5,z6,z7,hv hu 0,hv hu 1,hv hu 2,hv hu 3,hv hu 4,hv hu 5,hv hu 6,hv hu 7,hv hu 9,hv hu 10,hv hu 11,hv hu 12,hv hu 13];clear hu;generalize u 8=v45 at *;generalize u 14=v51 at *;obtain ⟨h0,hd⟩:=p51;obtain ⟨A',l',c',rfl,hd,g1,g2⟩:=dyR_parts hd;have hb:=HR5.out.kept k1;obtain ⟨_,c0,c1,c2,f0,f1,f2⟩:=hb.facts;have HD:=hid hd;have H0:=hid h0;have HB:=hid hb;have K4:=hid (K3.out.trans k1);clear hd h0 hb k1 p45
   go_simp
   go_wp2_with fail;exact ret_dy (HB.out.laid _ _ _) rfl rfl rfl ⟨dyW_kept K4.out (Nat.le_refl _),.inl ⟨H0.out,_,rfl,(HD.out.dyW HB.out (noLimb_bool _) (noLimb_slice _ _ _) (noLimb_i64 _)).dyR g1 g2⟩⟩
  ·have hk := HKK.out;rw [if_neg (fun h=>hpp (HP.out.2 h))] at hk;subst hk;have hpb:(d0.tmod 2 != 0)=true:=by simp [hpp]
   have hpc:(d0.tmod 2==0)=false:=by simp [hpp]
   clear hpp HKK HP;generalize x.e=e1 at *
   go_enter Tryz.func182,Tryz.ntmps182
   go_wp2_with (first
    | (go_at_call 170;rw [←HW.out];refine (HM.out _ (HK.out.trans (kept_alloc _ _)) _ HO.out).mono ?_;rintro e w1 ⟨rfl,q⟩;have K:=hid (HK.out.trans ((kept_alloc _ _).trans q));have hr:=HR.out.kept ((kept_alloc _ _).trans q);have HR2:=hid hr;clear q hr x0 x1 x2 cp cu;have cp:=cell_kept K.out CP.out;have cu:=cell_kept K.out CU.out;obtain ⟨-,x0,x1,x2,-⟩:=(HBX.out.kept K.out).facts)
    | (go_at_call 174;refine (must_cR _ _ _).mono ?_;rintro e w3 ⟨he,rfl⟩;obtain rfl:e=.returned (.tuple #[]):=he))
   clear x0 x1 x2 cp cu
   refine region_lin (m:=9) (V:=VL [(vE (.int .i64 p)),(vE (.int .i64 s1)),(vE (.int .i64 s2)),(vP bx 1),(vE (.slice A l c)),(vE (.int .i64 b1)),(vE (.int .i64 s3)),(vE (.int .i64 k0)),(vE (.int .i64 k0))])
    (by kernel_rfl) rfl (by kernel_rfl) (by kernel_rfl) (by kernel_rfl) (mono_of _ ⟨mE,mE,mE,mE,mE,mE,mE,mE,mE,trivial⟩) (steps_of ⟨
      (fun aF wF F=>by have s0:aF.tmps.getD 0 undef=(.pointer (some ⟨bp,0,none⟩)):=F.o 0;exact sw (by have cq:=cell_kept F.kept (cell_kept K.out CP.out);go_simp) rfl),(fun aF wF F=>by have s15:=F.v 0 15;exact sv rfl),(fun aF wF F=>by have s16:=F.v 1 16;exact sv rfl),(fun aF wF F=>by have s1:aF.tmps.getD 1 undef=(.pointer (some ⟨bx,0,none⟩)):=F.o 1;exact sv rfl),(fun aF wF F=>by have s18:=F.v 3 18;have c0:=cell_at (HBX.out.kept K.out) F.kept 1 _ rfl;exact sv rfl),(fun aF wF F=>by have s19:=F.v 4 19;exact sQ (H1.out _ (K.out.trans F.kept)) fun _ _ h=>h),(fun aF wF F=>by have s17:=F.v 2 17;have s20:=F.v 5 20;exact sv rfl),(fun aF wF F=>by have s21:=F.v 6 21;exact sv rfl),(fun aF wF F=>by have s22:=F.v 7 22;exact sv rfl),
      trivial⟩) ?_
   intro u w1 k1 hu;simp only [puts,slotOf,if_true,Act.put,z1,z2,z3,z4,z5,z6,z7,hv hu 0,hv hu 1,hv hu 2,hv hu 3,hv hu 4,hv hu 5,hv hu 6,hv hu 7,hv hu 8];clear hu;have K1:=hid (K.out.trans k1);have HR3:=hid (HR2.out.kept k1);clear k1 u hw1 hw2 hw3 hmx;obtain ⟨-,x0,x1,x2,-⟩:=(HBX.out.kept K1.out).facts;go_wp2_with fail;clear hpb hpc hq1;refine (HL.out _ K1.out).mono ?_;rintro e w2 ⟨M,rfl,hM,q⟩;have K2:=hid (K1.out.trans q);have HR4:=hid (HR3.out.kept q);have LM:=hid hM;clear hM q x0 x1 x2;simp only [];go_wp2_with fail;refine (HSQ.out _ _ LM.out).mono ?_;rintro e w3 ⟨X,rfl,hX,q⟩;have K3:=hid (K2.out.trans q)
   have HR5:=hid (HR4.out.kept q);have LX:=hid hX;replace LM:=hid (LM.out.kept q);clear hX q hw4;have hw5:=HW5.out;have hw6:=HW6.out;have hcm:=HCM.out;simp only [];go_wp2_with fail
   refine region_lin1 (m:=15) (V:=VL [(vE X),(vP bx 2),(vE (.int .i64 e1)),(vE (.int .i64 (((k0+1):Nat):Int))),(vE (.int .i64 d1)),(vE (.int .i64 hh)),(vE X),(vE X),(fun v wv=>Lim wv v (limbs (isq (x.m*2^(k0+1))*isq (x.m*2^(k0+1))))),(vE M),(vE (.int .i64 (cmpN (isq (x.m*2^(k0+1))*isq (x.m*2^(k0+1))) (x.m*2^(k0+1))))),(vE (.bool rb)),(vE (.int .i64 p)),(vE (.bool up)),(fun v wv=>o.raw.k=0∧DyR wv v o.raw.v)])
    (by kernel_rfl) rfl rfl rfl (by kernel_rfl) (by kernel_rfl) (by kernel_rfl) (by kernel_rfl) (mono_of _ ⟨mE,mE,mE,mE,mE,mE,mE,mE,mL,mE,mE,mE,mE,mE,fun v w w' k h=>by first | exact h | exact h.kept k | exact ⟨h.1,h.2.kept k⟩,trivial⟩) (steps_of ⟨
      (fun aF wF F=>by have s6:aF.tmps.getD 6 undef=X:=F.o 6;exact sv rfl),(fun aF wF F=>by have s1:aF.tmps.getD 1 undef=(.pointer (some ⟨bx,0,none⟩)):=F.o 1;exact sv rfl),(fun aF wF F=>by have s38:=F.v 1 38;have c0:=cell_at (HBX.out.kept K3.out) F.kept 2 _ rfl;exact sv rfl),(fun aF wF F=>by have s4:aF.tmps.getD 4 undef=(.int .i64 (((k0+1):Nat):Int)):=F.o 4;exact sv rfl),(fun aF wF F=>by have s39:=F.v 2 39;have s40:=F.v 3 40;exact sw (by have hx:=HW5.out;push_cast at hx;go_simp) rfl),(fun aF wF F=>by have s41:=F.v 4 41;exact sv rfl),(fun aF wF F=>by have s6:aF.tmps.getD 6 undef=X:=F.o 6;exact sv rfl),(fun aF wF F=>by have s6:aF.tmps.getD 6 undef=X:=F.o 6;exact sv rfl),(fun aF wF F=>by have s43:=F.v 6 43;have s44:=F.v 7 44;exact sL (HTI.out _ _ (LX.out.kept F.kept)) fun _ _ h=>h),(fun aF wF F=>by have s5:aF.tmps.getD 5 undef=M:=F.o 5;exact sv rfl),(fun aF wF F=>by have s45:=F.p 8 45;have s46:=F.v 9 46;exact sQ (HOR.out _ _ _ s45 (LM.out.kept F.kept)) fun _ _ h=>h),(fun aF wF F=>by have s47:=F.v 10 47;exact sv rfl),(fun aF wF F=>by have s0:aF.tmps.getD 0 undef=(.pointer (some ⟨bp,0,none⟩)):=F.o 0;exact sw (by have cq:=cell_kept F.kept (cell_kept K3.out CP.out);go_simp) rfl),(fun aF wF F=>by have s2:aF.tmps.getD 2 undef=(.pointer (some ⟨bu,0,none⟩)):=F.o 2;exact sw (by have cq:=cell_kept F.kept (cell_kept K3.out CU.out);go_simp) rfl),(fun aF wF F=>by have s37:=F.v 0 37;have s42:=F.v 5 42;have s48:=F.v 11 48;have s49:=F.v 12 49;have s50:=F.v 13 50;exact sG (HC.out _ _ (K3.out.trans F.kept) (LX.out.kept F.kept)) (fun _ _ _ h0 h=>⟨h0,h⟩) (fun w2 k2 h0=>⟨F.defers,⟨K3.out.trans (F.kept.trans k2),.inr ⟨h0,rfl⟩⟩⟩)),
      trivial⟩) ?_
   intro u w1 k1 hu;have p45:=hp hu 8;have p51:=hp hu 14;simp only [puts,slotOf,if_true,Act.put,z1,z2,z3,z4,z5,z6,z7,hv hu 0,hv hu 1,hv hu 2,hv hu 3,hv hu 4,hv hu 5,hv hu 6,hv hu 7,hv hu 9,hv hu 10,hv hu 11,hv hu 12,hv hu 13];clear hu;generalize u 8=v45 at *;generalize u 14=v51 at *;obtain ⟨h0,hd⟩:=p51;obtain ⟨A',l',c',rfl,hd,g1,g2⟩:=dyR_parts hd;have hb:=HR5.out.kept k1;obtain ⟨_,c0,c1,c2,f0,f1,f2⟩:=hb.facts;have HD:=hid hd;have H0:=hid h0;have HB:=hid hb;have K4:=hid (K3.out.trans k1);clear hd h0 hb k1 p45
   go_simp
   go_wp2_with fail;exact ret_dy (HB.out.laid _ _ _) rfl rfl rfl ⟨dyW_kept K4.out (Nat.le_refl _),.inl ⟨H0.out,_,rfl,(HD.out.dyW HB.out (noLimb_bool _) (noLimb_slice _ _ _) (noLimb_i64 _)).dyR g1 g2⟩⟩
 ·have hz : rootZ x p up = bad 4 := by unfold rootZ; rw [hn]; rfl
  rw [hz];rw [hn] at x0 HBX HO;clear hRx hx hT p1 p2 hz hn;generalize x.e=e1 at *
  go_enter Tryz.func182,Tryz.ntmps182
  go_wp2_with (first
   | (go_at_call 170;rw [←HW.out];refine (HM.out _ (HK.out.trans (kept_alloc _ _)) _ HO.out).mono ?_;rintro e w1 ⟨rfl,q⟩;have K:=hid (HK.out.trans ((kept_alloc _ _).trans q));have hr:=HR.out.kept ((kept_alloc _ _).trans q);have HR2:=hid hr;clear q hr x0 x1 x2 cp cu;have cp:=cell_kept K.out CP.out;have cu:=cell_kept K.out CU.out;obtain ⟨-,x0,x1,x2,-⟩:=(HBX.out.kept K.out).facts)
   | (go_at_call 174;refine (must_cR _ _ _).mono ?_;rintro e w3 ⟨he,rfl⟩;obtain rfl:e=.panicked (failV 185 _):=he))
  exact ⟨rfl,K.out,.inr ⟨by decide,rfl⟩⟩
theorem root_c {w:World}{v:Value}{d:Dy}{p:Nat}{up:Bool}(hv:DyR w v d.raw)(hd:d.Ok)(hT:Tab w)(p1:1≤p)(p2:p≤2000) :
 Calls Tryz.prog 142 #[v,.int .i64 p,.bool up] w (RetE (rootZ d p up).raw w):=by
 have hmf:∀ (fn:Fn) (first cap:Array Value) (w:World),(Instr.makeFunc fn first cap).run Tryz.prog w=.ok (.func fn first cap) w:=fun _ _ _ _=>rfl
 obtain ⟨A,l,c,rfl,hv⟩:=dyR_split hv;obtain ⟨W,hW,kW,B0,cp,cu,BR⟩:=boxes4 w (.bool d.neg) (.slice A l c) (.int .i64 d.e) (.int .i64 p) (.bool up)
 have hf:=face_cR (w:=W) (K:=182) (cap:=#[.pointer (some ⟨w.heap.size+1,0,none⟩),.pointer (some ⟨w.heap.size,0,none⟩),.pointer (some ⟨w.heap.size+1+1,0,none⟩)]) (o:=(rootZ d p up).raw)
  (fun w1 k=>root1_c hd (hT.kept (kW.trans k)) p1 p2 (cell_kept k cp) ⟨A,l,c,B0.kept k,hv.kept (kW.trans k)⟩ (cell_kept k cu)) (rootZ_bad d p up) (fun _=>rfl)
 have HF:=hid hf;have HW:=hid hW;have HK:=hid kW;have HR:=hid BR;clear hf hW kW B0 cp cu BR hv hd hT p1 p2;generalize rootZ d p up=o at *;generalize d.neg=nd at *;generalize d.e=ed at *
 go_enter Tryz.func142,Tryz.ntmps142
 go_wp2_with (go_at_call 168;rw [←HW.out];refine HF.out.mono ?_;rintro e w1 ⟨q,u,rfl,hd⟩;obtain ⟨A',l',c',rfl,hd,g3,g4⟩:=dyR_parts hd;have HD:=hid hd;have hb2:=HR.out.kept q;obtain ⟨_,c0,c1,c2,f0,f1,f2⟩:=hb2.facts;have HB2:=hid hb2;clear hd hb2)
 exact ret_dy2 (HB2.out.laid _ _ _) rfl rfl rfl ⟨dyW_kept (HK.out.trans q) (by omega),_,rfl,(HD.out.dyW HB2.out (noLimb_bool _) (noLimb_slice _ _ _) (noLimb_i64 _)).dyR g3 g4⟩
end Go.Proofs.YtabjjdicffcolaaGreatDoor
