/- Words and contracts, part 41. -/
import Derived.Test.YtabjjdicffcolaaGreatDoorClaimSevalp38
import Derived.Test.YtabjjdicffcolaaGreatDoorClaimSevalp39
import Derived.Test.YtabjjdicffcolaaGreatDoorClaimSevalp40
set_option maxRecDepth 100000
set_option maxHeartbeats 0
namespace Go.Proofs.YtabjjdicffcolaaGreatDoor
open Go.RowKit
theorem RetN.good {ns:List Int}{w:World}{e:Ending}{w':World}(h:RetN ns w e w'):Gf (fun v w=>InS w v ns) w e w':=by
 obtain ⟨k,v,e,h⟩:=h;exact ⟨v,e,k,h⟩
theorem Ajl (p:Int)(c m:Nat)(hm:0<m)(hs:c+m≤1000):∃ n:Nat,wrap64 ((c:Int)+wrap64 ((IntKind.u64.wrap p).tmod (m:Int)))=(n:Int)∧c≤n∧n<c+m:=by
 rw [IntKind.wrap_u64];have h0:0≤p%18446744073709551616:=Int.emod_nonneg _ (by decide);rw [Int.tmod_eq_emod_of_nonneg h0];have h1:0≤p%18446744073709551616%(m:Int):=Int.emod_nonneg _ (by omega);have h2:p%18446744073709551616%(m:Int)<m:=Int.emod_lt_of_pos _ (by omega);generalize p%18446744073709551616%(m:Int)=x at *;refine ⟨(c+x).toNat,?_,by omega,by omega⟩;unfold wrap64;omega
theorem Ju {a:RawI}{k m:Nat}(h:a.lens k)(hk:k≤m):a.lens m:=⟨Nat.le_trans h.1 hk,Nat.le_trans h.2 hk⟩
theorem S0 {e:En}(h:Add e=true):Lf e∧e.x.length≤8∧e.u.length≤8∧e.p.length≤8∧e.t.lens 6∧(∀ a∈e.x,a.lens 6)∧(∀ a∈e.u,a.lens 6)∧∀ a∈e.p,a.lens 6:=by
 unfold Add at h;simp only [Bool.and_eq_true] at h;obtain ⟨⟨⟨h1,h2⟩,h3⟩,h4⟩:=h;obtain ⟨-,a1⟩:=Ki h1;obtain ⟨l2,a2⟩:=Ki h2;obtain ⟨l3,a3⟩:=Ki h3;obtain ⟨l4,a4⟩:=Ki h4;have at':=a1 e.t (by simp);exact ⟨⟨Ju at' (by decide),fun a ha=>Ju (a2 a ha) (by decide),fun a ha=>Ju (a3 a ha) (by decide),fun a ha=>Ju (a4 a ha) (by decide),by omega,by omega,by omega⟩,l2,l3,l4,at',a2,a3,a4⟩
def SA (_:Int):Prop:=True
theorem Akx:Va SA:=⟨fun _ _ _ _ _ _ _=>Ah0,fun _ _ _ _ _ _ _=>Ah5,fun _ _ _ _ _ _ _=>Ah1,fun _ _ _ _ _ _ _=>Aj3,fun _ _ _ _ _=>Aj7,fun _ _ _ _ _=>Aj9,fun _ _ _ _ _=>Aik⟩
theorem LnS.take {w:World}{A:Option Addr}{c:Nat}{ls:List Ln}(h:LnS w (.slice A ls.length c) ls){k:Nat}(hk:k≤ls.length):LnS w (.slice A k c) (ls.take k):=by
 obtain ⟨A',c',e,hc,hA⟩:=h;injection e with e1 e2 e3
 subst e1 e3;have hl:(ls.take k).length=k:=by rw [List.length_take];omega
 refine ⟨A,c,by rw [hl],by omega,fun h0=>?_⟩;obtain ⟨b,off,rfl,hd⟩:=hA (by omega);refine ⟨b,off,rfl,fun i l hi=>hd i l ?_⟩;have:=(List.getElem?_eq_some_iff.1 hi).1;rwa [List.getElem?_take_of_lt (by omega)] at hi
theorem IvS.take {w:World}{A:Option Addr}{n c:Nat}{l:List RawI}(h:IvS w (.slice A n c) l){k:Nat}(hk:k≤l.length):IvS w (.slice A k c) (l.take k):=by
 obtain ⟨A',c',e,hc,hA⟩:=h;injection e with e1 e2 e3
 subst e1 e3;have hl:(l.take k).length=k:=by rw [List.length_take];omega
 refine ⟨A,c,by rw [hl],by omega,fun h0=>?_⟩;obtain ⟨b,off,rfl,hd⟩:=hA (by omega);refine ⟨b,off,rfl,fun i a hi=>hd i a ?_⟩;have:=(List.getElem?_eq_some_iff.1 hi).1;rwa [List.getElem?_take_of_lt (by omega)] at hi
theorem Aa6 {ov:Iv→Nat→Outc Iv}{ls:List Ln}{outs:List Int}{e:En}{p:Int}(h:(Cg ov ls outs e p).k≠0):Qu ov ls outs e p=⟨[],(Cg ov ls outs e p).k⟩:=by
 unfold Qu;rw [if_neg h]
theorem Ya {ov:Iv→Nat→Outc Iv}{ls:List Ln}{outs:List Int}{e:En}{p:Int}(h:(Cg ov ls outs e p).k=0):Qu ov ls outs e p=⟨outs.map fun n=>(Cg ov ls outs e p).v.getD n.toNat rzI,0⟩:=by
 unfold Qu;rw [if_pos h]
theorem V8 {e:En}{p:Nat}(he:e.Cl)(p1:1≤p)(p2:p≤300):∀ (ls:List Ln) (out:List RawI),(∀ l∈ls,l.op=1→l.k.iv.Ok)→Cl out→Cl (Cz ovI e p out ls).v
 | [],out,_,ho=>ho
 | l :: ls, out, hk, ho => by
   rw [Cz];split
   ·exact V8 he p1 p2 ls _ (fun l hl=>hk l (List.mem_cons_of_mem _ hl)) (Agu he ho (hk l (List.mem_cons_self ..)) p1 p2)
   ·intro a ha;cases ha
theorem Abw {a:Iv}(h:a.Ok):a.raw.lens 64:=⟨h.lo.len,h.hi.len⟩
theorem Af3 {l:List RawI}(h:Cl l):∀ a∈l,a.lens 64:=fun a ha=>by
 obtain ⟨h1,h2⟩:=h a ha;rw [←h2];exact Abw h1
theorem Ai5 {w:World}{ve:Value}{e:En}(he:EnR w ve e)(h:Nd e=true):e.Cl:=by
 obtain ⟨x0,x1,x2,x3,x4,x5,sx,su,sp,rfl,ht,hx,hu,hp⟩:=he;unfold Nd at h;simp only [Bool.and_eq_true] at h;exact ⟨ht.clean h.1.1.1,hx.cl h.1.1.2,hu.cl h.1.2,hp.cl h.2⟩
theorem Ac3 {w:World}{vt:Value}{ls:List Ln}{outs:List Int}{x u p:Int}(hv:TpR w vt ls outs)(h:Iu ls outs x u p=true):∀ l∈ls,l.op=1→l.k.iv.Ok∧l.k.iv.raw=l.k:=by
 obtain ⟨s,o,rfl,⟨A,c,rfl,hc,hA⟩,-⟩:=hv;intro l hl h1;obtain ⟨i,hi⟩:=List.getElem?_of_mem hl;obtain ⟨b,off,rfl,hd⟩:=hA (by have:=(List.getElem?_eq_some_iff.1 hi).1;omega);obtain ⟨-,-,-,y0,y1,y2,y3,y4,y5,-,-,-,-,-,-,hI⟩:=hd i l hi;exact hI.clean (Yn h l hl h1)
theorem Ahs {w:World}{vt ve:Value}{ls:List Ln}{outs:List Int}{e:En}{n:Nat}(hv:TpR w vt ls outs)(he:EnR w ve e)(h:(Cg ovI ls outs e n).k=0):e.Cl∧(∀ l∈ls,l.op=1→l.k.iv.Ok)∧Cl (Cg ovI ls outs e n).v:=by
 obtain ⟨h1,h2,h3⟩:=Nl h;have c1:=Ai5 he h1.2.2.2;have c2:=fun l hl h0=>(Ac3 hv h1.2.2.1 l hl h0).1
 refine ⟨c1,c2,?_⟩;rw [h3];exact V8 c1 (by omega) (by omega) ls [] c2 (fun a ha=>by cases ha)
end Go.Proofs.YtabjjdicffcolaaGreatDoor
