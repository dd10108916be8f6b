/- FlowArgs: what may not be is told so: flow.To and flow.Over answer ErrArg and no box where a task may not be. For every input. -/
import Derived.Test.YtmgaloopddiekaaGreatDoorClaimFargsp38
import Derived.Test.YtmgaloopddiekaaGreatDoorClaimFargsp44
set_option maxRecDepth 100000
set_option maxHeartbeats 0
namespace Go.Proofs.YtmgaloopddiekaaGreatDoor.flowArgs
open Go.ChangeShapes Go.WideShapes Go.RowKit
theorem contract (H:Type)(enc:TypeId × Value→H)(W:World)(base:Nat)(args:Array Value)(ds gs:List (DataW H))(before:List MemPlace)
 (hval:∀ (j:Nat) t v,Tryz.f4.params[j]?=some t→args[j]?=some v→Value.okWide Tryz.prog W .any base t v)
 (hW:DataW.Whole enc Tryz.prog Tryz.f4.params.toList Rows.flowArgsSpec.vars false W args.toList ds gs before)
 (hw:(DataW.weightsEach Tryz.prog (Tryz.f4.params.toList++(OpenSpec.ofChange Rows.flowArgsSpec).bare.plain.varTypes Tryz.prog) (ds++gs)).all (·≤reachBytes)=true)
 (hL:laidMetH Tryz.prog Rows.flowArgsRow.laid W) :
 Calls Tryz.prog 4 args W fun e W'=>∃ v,e=.returned v∧Rows.flowArgsSpec.post enc Tryz.prog Tryz.f4 false true false false W args v W':=by
 have hW':=hW;have hlt:=hW.lt;obtain ⟨p,q,hA0,hV,rfl,hfz,hnd⟩:=hW;have hA:DataW.TrodAll enc Tryz.prog W 0 (fun _=>true) true Tryz.f4.params.toList args.toList ds p:=hA0;have hA1:=hA;rw [Tryz.params4] at hA hval hw;obtain ⟨v0,vs0,d0,ds0,p0,q0,hargs,rfl,rfl,h0,r0⟩:=trodAll_cons hA;obtain ⟨v1,vs1,d1,ds1,p1,q1,rfl,rfl,rfl,h1,r1⟩:=trodAll_cons r0;obtain ⟨v2,vs2,d2,ds2,p2,q2,rfl,rfl,rfl,h2,r2⟩:=trodAll_cons r1;obtain ⟨v3,vs3,d3,ds3,p3,q3,rfl,rfl,rfl,h3,r3⟩:=trodAll_cons r2;obtain ⟨v4,vs4,d4,ds4,p4,q4,rfl,rfl,rfl,h4,r4⟩:=trodAll_cons r3;obtain ⟨v5,vs5,d5,ds5,p5,q5,rfl,rfl,rfl,h5,r5⟩:=trodAll_cons r4;obtain ⟨v6,vs6,d6,ds6,p6,q6,rfl,rfl,rfl,h6,r6⟩:=trodAll_cons r5
 obtain ⟨rfl,rfl,rfl⟩:=trodAll_nil r6;obtain rfl:args=#[v0,v1,v2,v3,v4,v5,v6]:=by cases args;simp_all
 obtain ⟨rfl,rfl⟩:=trodVars_none hV;obtain ⟨a0,b0,hv0,ok0,la0,lb0⟩:=Z8 (hval 0 _ v0 rfl rfl) h0 (Ib hw (j:=0) rfl rfl);obtain ⟨a1,hv1,la1,lb1⟩:=Uz (hval 1 _ v1 rfl rfl) h1 (Ib hw (j:=1) rfl rfl);obtain ⟨a2,hv2,la2,lb2⟩:=Uz (hval 2 _ v2 rfl rfl) h2 (Ib hw (j:=2) rfl rfl);obtain ⟨a3,hv3,la3⟩:=Np (hval 3 _ v3 rfl rfl) h3 (Ib hw (j:=3) rfl rfl);obtain ⟨a4,hv4,la4⟩:=Np (hval 4 _ v4 rfl rfl) h4 (Ib hw (j:=4) rfl rfl);obtain ⟨a5,hv5,la5⟩:=Np (hval 5 _ v5 rfl rfl) h5 (Ib hw (j:=5) rfl rfl);obtain ⟨k6,rfl,rfl,rfl,hk6⟩:=open_int Tryz.underlying3 (hval 6 _ v6 rfl rfl) h6
 refine (Afg hv0 hv1 hv2 hv3 hv4 hv5 ok0 la0 lb0 la1 lb1 la2 lb2 la3 la4 la5 (Ail hL)).mono fun e W' ⟨he,hk'⟩=>?_
 refine ⟨_,he,_,_,_,[],p0++(p1++(p2++(p3++(p4++(p5++([]++[])))))),[],hW',trodAll_mk1 (shut_bool Tryz.underlying4 _),?_,rfl,hk'.frame _,fun h=>by cases h⟩
 exact Ly Afr (fun t ht=>Aab t (by rw [Tryz.params4] at ht;simp only [List.mem_cons,List.not_mem_nil,or_false] at ht ⊢;rcases ht with rfl | rfl | rfl | rfl | rfl | rfl | rfl<;>simp)) hA1
  (fun x hx=>hk'.same (hlt x (by simpa using hx))) (fun x hx=>of_decide_eq_true (by simpa using hlt x (by simpa using hx)))
def wit:Array Value:=#[.agg #[.slice none 0 0,.slice none 0 0],.slice none 0 0,.slice none 0 0,.agg #[.bool false,.slice none 0 0,.int .i64 0],.agg #[.bool false,.slice none 0 0,.int .i64 0],.agg #[.bool false,.slice none 0 0,.int .i64 0],.int .i64 0]
theorem laid_met (os:Os):laidMet Tryz.prog Rows.flowArgsRow.laid ((laidWorld os).forCall (fun _ _=>0) ⟨#[],wit,[]⟩).memory :=
 laidMet_of_run' 8 (by kernel_rfl) (by kernel_rfl)
theorem reads (os:Os){H:Type}(enc:TypeId × Value→H):∃ places,DataW.whole enc Tryz.prog ((laidWorld os).forCall (fun _ _=>0) ⟨#[],wit,[]⟩).memory Tryz.f4.params.toList Rows.flowArgsSpec.vars false wit.toList 8 =
 some ([.agg [.nil,.nil],.nil,.nil,.agg [.lit (.bool false),.nil,.lit (.int .i64 0)],.agg [.lit (.bool false),.nil,.lit (.int .i64 0)],.agg [.lit (.bool false),.nil,.lit (.int .i64 0)],.lit (.int .i64 0)],[],places) :=
 ⟨[],by kernel_rfl⟩
theorem lifted (os:Os)(started:os.Started)(H:Type)(enc:TypeId × Value→H)(F:Stop.Interp) :
 ReturnsInHanded {} Tryz.checked os 4 .any ((OpenSpec.ofChange Rows.flowArgsSpec).preRow enc Tryz.prog Tryz.f4 Rows.flowArgsRow.domain false Rows.flowArgsRow.laid) (((OpenSpec.ofChange Rows.flowArgsSpec).at F).post enc Tryz.prog Tryz.f4 false true false false):=by
 obtain ⟨places,hx⟩:=reads os enc
 refine returnsInHanded_of_row (C:=Tryz.checked) (s:=OpenSpec.ofChange Rows.flowArgsSpec) own started (by kernel_rfl) Tryz.func4
  (witness_row_at (enc:=enc) (C:=Tryz.checked) false (laidWorld os) wit rfl (by kernel_rfl) (by kernel_rfl) (by kernel_rfl)
    (OpenSpec.preRow_of_cond 8 hx (by kernel_rfl) (fun k hk=>by cases hk) (by kernel_rfl) (laid_met os))) ?_
 intro W base args ds gs before hval hW _ _ hsz hL _ _;exact contract H enc W base args ds gs before hval hW hsz hL
theorem Aj3:Rows.FlowArgsSaid :=
 OpenClaim.holds_of_cond 4 Tryz.f4 rfl rfl rfl rfl rfl rfl rfl ⟨rfl,rfl,rfl,rfl,rfl⟩ rfl rfl rfl rfl rfl (by kernel_rfl) Tryz.func4 (by kernel_rfl)
  (of_decide_eq_true (by kernel_rfl)) (by unfold Func.isWrapper;first | (rw [if_pos (by decide +kernel)];kernel_rfl) | (rw [if_neg (by decide +kernel)];exact ⟨rfl,rfl⟩))
  (fun os started H enc _ F=>by rw [OpenClaim.pre_eq_preRow];exact lifted os started H enc F)
theorem plain (f : FuncId) (fn : Func) (hf : Tryz.pinned.checked.prog.funcNamed "sluiceway/sluicewaylaw12.FlowArgs" = some f) (hfn : Tryz.pinned.checked.prog.funcs[f]? = some fn) :
 true=Tryz.pinned.checked.prog.looks []∧∀ (j:Nat) t,fn.params[j]?=some t→Tryz.pinned.checked.prog.wantsStandIn t=false:=by
 obtain rfl : f = 4 := Option.some.inj ((show Tryz.prog.funcNamed "sluiceway/sluicewaylaw12.FlowArgs" = some 4 by kernel_rfl).symm.trans hf) |>.symm
 obtain rfl:fn=Tryz.f4:=(Option.some.inj (Tryz.func4.symm.trans hfn)).symm;refine ⟨by kernel_rfl,fun j t ht=>?_⟩;rw [Tryz.params4] at ht;have hm:=Array.mem_of_getElem? ht;simp only [List.mem_toArray,List.mem_cons,List.not_mem_nil,or_false] at hm;rcases hm with rfl | rfl | rfl | rfl | rfl | rfl | rfl
 ·exact (show Tryz.prog.wantsStandIn 25=false by kernel_rfl)
 ·exact (show Tryz.prog.wantsStandIn 26=false by kernel_rfl)
 ·exact (show Tryz.prog.wantsStandIn 26=false by kernel_rfl)
 ·exact (show Tryz.prog.wantsStandIn 30=false by kernel_rfl)
 ·exact (show Tryz.prog.wantsStandIn 30=false by kernel_rfl)
 ·exact (show Tryz.prog.wantsStandIn 30=false by kernel_rfl)
 ·exact (show Tryz.prog.wantsStandIn 3=false by kernel_rfl)
theorem card:Rows.FlowArgsCardSaid :=
 Claim7.holds_tied_plain_at .later [] _ _ _ _ Aj3 (fun _ h=>by cases h) (by kernel_rfl) (fun _ h=>by cases h) flowArgs_row_tie rfl ⟨rfl,rfl⟩ (by kernel_rfl) rfl plain (by kernel_rfl)
end Go.Proofs.YtmgaloopddiekaaGreatDoor.flowArgs
