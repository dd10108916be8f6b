/- Words and contracts, part 26. -/
import Derived.Test.YtmgaloopddiekaaGreatDoorClaimFargsp15
import Derived.OwnWalk
set_option maxRecDepth 100000
set_option maxHeartbeats 0
namespace Go.Proofs.YtmgaloopddiekaaGreatDoor
open Go.RowKit
def NoL (w:World) (g:Nat):Prop:=∃ cur e,w.heap[g]?=some (.cells cur e (0,0))∧∀ u∈cur.toList,Bv u
theorem Fu {z:Array Value}{n:Nat}{u:Value}(h:u∈(Builtin.zeroCells z n).toList):u∈z.toList:=by
 simp [Builtin.zeroCells] at h;obtain ⟨a,ha,rfl⟩:=h;have h0:0<z.size:=by
  rcases Nat.eq_zero_or_pos z.size with h | h
  ·rw [h] at ha;omega
  ·exact h
 have hlt:=Nat.mod_lt a h0;rw [getElem!_pos z _ hlt];simp
theorem Iq {P:Program}(w:World)(base:Nat)(t ty e:TypeId)(i:TypeInfo)(z:Value)(size bytes:Nat)(ht:P.underlying t=some (.slice e))(hi:P.info? e=some i)(hz:i.zero=some z)
 (hsize:i.size=size) (hby:i.bytes=bytes) (hzs:z.cells.size=size) (hsz:0<size)
 (v:Value) (n:Nat) (xs:List Value) (hown:w.ownsRow base e size v n xs)
 (a:Addr) (m c:Nat) (news:List Value) (hl:news.length=m*size) (hnews:∀ j u,news[j]?=some u→w.cell? (a.add j)=some u) (h1:∀ u∈news,u.oneCell'=true)
 (h63:n+m≤maxLen) (hbytes:(n+m)*bytes≤140737488355328) (hbase:base≤w.heap.size)
 (hm:0<m) (hxs:∀ u∈xs,Bv u) (hnl:∀ u∈news,Bv u) (hzl:∀ u∈z.cells.toList,Bv u) (hN:∀ g,v.ownBlock=some g→NoL w g) :
 ∃ v' w' g', (Builtin.append_ #[t, t] ty #[v, .slice (some a) m c]).run P w = .ok v' w' ∧ w'.ownsRow base e size v' (n + m) (xs ++ news) ∧ w.grownBy w' v.ownBlock ∧
   v'.ownBlock=some g'∧NoL w' g':=by
 obtain ⟨v',w',hr,h2,h3,h4⟩:=run_append_own (P:=P) w base t ty e i z size bytes ht hi hz hsize hby hzs hsz v n xs hown a m c news hl hnews h1 h63 hbytes hbase;have hown':=hown;subst hsize;subst hby;rcases hown.2 with ⟨rfl,rfl⟩ | ⟨g,cap,cur,rfl,hbg,hg,hnc,hcm,hcs,htake⟩
 ·have hx:xs=[]:=List.eq_nil_of_length_eq_zero (by simpa using hown.1);subst hx;have hr2:=run_append_nil (P:=P) w t ty e i z ht hi hz a m c news hl hnews (by omega) (by simp only [maxLen] at h63;omega) (by have hb:=hbytes;simp only [Nat.zero_add] at hb;omega);rw [hr2] at hr;injection hr with e1 e2
  subst e1;subst e2;refine ⟨_,_,w.heap.size,hr2,h2,h3,rfl,_,e,heap_alloc_new w.drew _,?_⟩;intro u hu;simp only [Array.toList_append,List.mem_append] at hu;rcases hu with hu | hu
  ·exact hnl u (by simpa using hu)
  ·exact hzl u (Fu hu)
 ·obtain ⟨cur',e',hg',hcl⟩:=hN g rfl;rw [hg] at hg';obtain ⟨rfl,rfl⟩:cur=cur'∧e=e':=by
   injection hg' with q;injection q with q1 q2;exact ⟨q1,q2⟩
  by_cases hroom:n+m≤cap
  ·have hfit:n*i.size+news.length≤cur.size:=by rw [hl,hcs,←Nat.add_mul];exact Nat.mul_le_mul_right _ hroom
   have hr2:=run_append_room (P:=P) w t ty e i ht hi g n cap cur hg a m c news hl hnews h1 hroom hfit;rw [hr2] at hr;injection hr with e1 e2
   subst e1;subst e2;refine ⟨_,_,g,hr2,h2,h3,rfl,_,e,setRow_heap w g cur _ e _ hg,?_⟩;intro u hu;simp only [List.mem_append] at hu;rcases hu with (hu | hu) | hu
   ·exact hcl u (List.mem_of_mem_take hu)
   ·exact hnl u hu
   ·exact hcl u (List.mem_of_mem_drop hu)
  ·have holds:∀ j u,xs[j]?=some u→w.cell? ((⟨g,0,none⟩:Addr).add j)=some u:=hown.cells (g:=g) rfl;have hr2:=run_append_grow (P:=P) w t ty e i z ht hi hz ⟨g,0,none⟩ n cap xs hown.1 holds a m c news hl hnews (by omega) (by simp only [maxLen] at h63;omega) (growslice_fits (by omega) hbytes);rw [hr2] at hr;injection hr with e1 e2
   subst e1;subst e2;refine ⟨_,_,w.heap.size,hr2,h2,h3,rfl,_,e,heap_alloc_new w.drew _,?_⟩;intro u hu;simp only [Array.toList_append,List.mem_append] at hu;rcases hu with (hu | hu) | hu
   ·exact hxs u (by simpa using hu)
   ·exact hnl u (by simpa using hu)
   ·exact hzl u (Fu hu)
theorem Gn {P:Program}{w:World}{ops:Array Oper}{rest:List Oper}{o:Oper}{a:Act}{Q:Exit→Act→World→Prop}(hgd:o.guard=none)(s x:Operand)(t:TypeId)
 (ho:o.op=.call { callee:=.builtin .append,args:=#[s,x],argTypes:=#[t,t] })
 (base:Nat) (e:TypeId) (i:TypeInfo) (z:Value) (size bytes:Nat) (ht:P.underlying t=some (.slice e)) (hi:P.info? e=some i) (hz:i.zero=some z)
 (hsize:i.size=size) (hby:i.bytes=bytes) (hzs:z.cells.size=size) (hsz:0<size)
 (v:Value) (n:Nat) (xs:List Value) (hs:a.eval s=v) (hown:w.ownsRow base e size v n xs)
 (ad:Addr) (m c:Nat) (news:List Value) (hx:a.eval x=.slice (some ad) m c) (hl:news.length=m*size) (hnews:∀ j u,news[j]?=some u→w.cell? (ad.add j)=some u) (h1:∀ u∈news,u.oneCell'=true)
 (h63:n+m≤maxLen) (hbytes:(n+m)*bytes≤140737488355328) (hbase:base≤w.heap.size)
 (hm:0<m) (hxs:∀ u∈xs,Bv u) (hnl:∀ u∈news,Bv u) (hzl:∀ u∈z.cells.toList,Bv u) (hN:∀ g,v.ownBlock=some g→NoL w g)
 (h:∀ v' w' g',w'.ownsRow base e size v' (n+m) (xs++news)→w.grownBy w' v.ownBlock→v'.ownBlock=some g'→NoL w' g'→wpList P ops Q rest (a.put o.dst v') w'):wpList P ops Q (o::rest) a w:=by
 refine wpList_plain hgd fun K hK=>?_
 obtain ⟨v',w',g',hr,h2,h3,h4,h5⟩:=Iq (P:=P) w base t o.type e i z size bytes ht hi hz hsize hby hzs hsz v n xs hown ad m c news hl hnews h1 h63 hbytes hbase hm hxs hnl hzl hN;unfold Oper.wp execOp;simp only [ho,resolve,invoke,builtin,Sem.run_bind,Sem.run_pure,Result.andThen_ok,List.map_toArray,List.map_cons,List.map_nil,hs,hx,hr];exact hK _ _ (h v' w' g' h2 h3 h4 h5)
theorem Lz {P:Program}{w:World}{o:Oper}{a:Act}{K:Act→World→Prop}{Q:Exit→Act→World→Prop}(s x:Operand)(t:TypeId)
 (ho:o.op=.call { callee:=.builtin .append,args:=#[s,x],argTypes:=#[t,t] })
 (base:Nat) (e:TypeId) (i:TypeInfo) (z:Value) (size bytes:Nat) (ht:P.underlying t=some (.slice e)) (hi:P.info? e=some i) (hz:i.zero=some z)
 (hsize:i.size=size) (hby:i.bytes=bytes) (hzs:z.cells.size=size) (hsz:0<size)
 (v:Value) (n:Nat) (xs:List Value) (hs:a.eval s=v) (hown:w.ownsRow base e size v n xs)
 (ad:Addr) (m c:Nat) (news:List Value) (hx:a.eval x=.slice (some ad) m c) (hl:news.length=m*size) (hnews:∀ j u,news[j]?=some u→w.cell? (ad.add j)=some u) (h1:∀ u∈news,u.oneCell'=true)
 (h63:n+m≤maxLen) (hbytes:(n+m)*bytes≤140737488355328) (hbase:base≤w.heap.size)
 (hm:0<m) (hxs:∀ u∈xs,Bv u) (hnl:∀ u∈news,Bv u) (hzl:∀ u∈z.cells.toList,Bv u) (hN:∀ g,v.ownBlock=some g→NoL w g)
 (h:∀ v' w' g',w'.ownsRow base e size v' (n+m) (xs++news)→w.grownBy w' v.ownBlock→v'.ownBlock=some g'→NoL w' g'→K (a.put o.dst v') w'):o.wp P a w K Q:=by
 obtain ⟨v',w',g',hr,h2,h3,h4,h5⟩:=Iq (P:=P) w base t o.type e i z size bytes ht hi hz hsize hby hzs hsz v n xs hown ad m c news hl hnews h1 h63 hbytes hbase hm hxs hnl hzl hN;unfold Oper.wp execOp;simp only [ho,resolve,invoke,builtin,Sem.run_bind,Sem.run_pure,Result.andThen_ok,List.map_toArray,List.map_cons,List.map_nil,hs,hx,hr];exact h v' w' g' h2 h3 h4 h5
def AllC (p:Value→Prop) (w:World) (g:Nat):Prop:=∃ cur e,w.heap[g]?=some (.cells cur e (0,0))∧∀ u∈cur.toList,p u
theorem Qb {p:Value→Prop}{P:Program}(w:World)(base:Nat)(t ty e:TypeId)(i:TypeInfo)(z:Value)(size bytes:Nat)(ht:P.underlying t=some (.slice e))(hi:P.info? e=some i)(hz:i.zero=some z)
 (hsize:i.size=size) (hby:i.bytes=bytes) (hzs:z.cells.size=size) (hsz:0<size)
 (v:Value) (n:Nat) (xs:List Value) (hown:w.ownsRow base e size v n xs)
 (a:Addr) (m c:Nat) (news:List Value) (hl:news.length=m*size) (hnews:∀ j u,news[j]?=some u→w.cell? (a.add j)=some u) (h1:∀ u∈news,u.oneCell'=true)
 (h63:n+m≤maxLen) (hbytes:(n+m)*bytes≤140737488355328) (hbase:base≤w.heap.size)
 (hm:0<m) (hxs:∀ u∈xs,p u) (hnl:∀ u∈news,p u) (hzl:∀ u∈z.cells.toList,p u) (hN:∀ g,v.ownBlock=some g→AllC p w g) :
 ∃ v' w' g', (Builtin.append_ #[t, t] ty #[v, .slice (some a) m c]).run P w = .ok v' w' ∧ w'.ownsRow base e size v' (n + m) (xs ++ news) ∧ w.grownBy w' v.ownBlock ∧
   v'.ownBlock=some g'∧AllC p w' g':=by
 obtain ⟨v',w',hr,h2,h3,h4⟩:=run_append_own (P:=P) w base t ty e i z size bytes ht hi hz hsize hby hzs hsz v n xs hown a m c news hl hnews h1 h63 hbytes hbase;have hown':=hown;subst hsize;subst hby;rcases hown.2 with ⟨rfl,rfl⟩ | ⟨g,cap,cur,rfl,hbg,hg,hnc,hcm,hcs,htake⟩
 ·have hx:xs=[]:=List.eq_nil_of_length_eq_zero (by simpa using hown.1);subst hx;have hr2:=run_append_nil (P:=P) w t ty e i z ht hi hz a m c news hl hnews (by omega) (by simp only [maxLen] at h63;omega) (by have hb:=hbytes;simp only [Nat.zero_add] at hb;omega);rw [hr2] at hr;injection hr with e1 e2
  subst e1;subst e2;refine ⟨_,_,w.heap.size,hr2,h2,h3,rfl,_,e,heap_alloc_new w.drew _,?_⟩;intro u hu;simp only [Array.toList_append,List.mem_append] at hu;rcases hu with hu | hu
  ·exact hnl u (by simpa using hu)
  ·exact hzl u (Fu hu)
 ·obtain ⟨cur',e',hg',hcl⟩:=hN g rfl;rw [hg] at hg';obtain ⟨rfl,rfl⟩:cur=cur'∧e=e':=by
   injection hg' with q;injection q with q1 q2;exact ⟨q1,q2⟩
  by_cases hroom:n+m≤cap
  ·have hfit:n*i.size+news.length≤cur.size:=by rw [hl,hcs,←Nat.add_mul];exact Nat.mul_le_mul_right _ hroom
   have hr2:=run_append_room (P:=P) w t ty e i ht hi g n cap cur hg a m c news hl hnews h1 hroom hfit;rw [hr2] at hr;injection hr with e1 e2
   subst e1;subst e2;refine ⟨_,_,g,hr2,h2,h3,rfl,_,e,setRow_heap w g cur _ e _ hg,?_⟩;intro u hu;simp only [List.mem_append] at hu;rcases hu with (hu | hu) | hu
   ·exact hcl u (List.mem_of_mem_take hu)
   ·exact hnl u hu
   ·exact hcl u (List.mem_of_mem_drop hu)
  ·have holds:∀ j u,xs[j]?=some u→w.cell? ((⟨g,0,none⟩:Addr).add j)=some u:=hown.cells (g:=g) rfl;have hr2:=run_append_grow (P:=P) w t ty e i z ht hi hz ⟨g,0,none⟩ n cap xs hown.1 holds a m c news hl hnews (by omega) (by simp only [maxLen] at h63;omega) (growslice_fits (by omega) hbytes);rw [hr2] at hr;injection hr with e1 e2
   subst e1;subst e2;refine ⟨_,_,w.heap.size,hr2,h2,h3,rfl,_,e,heap_alloc_new w.drew _,?_⟩;intro u hu;simp only [Array.toList_append,List.mem_append] at hu;rcases hu with (hu | hu) | hu
   ·exact hxs u (by simpa using hu)
   ·exact hnl u (by simpa using hu)
   ·exact hzl u (Fu hu)
theorem Nh {p:Value→Prop}{P:Program}{w:World}{ops:Array Oper}{rest:List Oper}{o:Oper}{a:Act}{Q:Exit→Act→World→Prop}(hgd:o.guard=none)(s x:Operand)(t:TypeId)
 (ho:o.op=.call { callee:=.builtin .append,args:=#[s,x],argTypes:=#[t,t] })
 (base:Nat) (e:TypeId) (i:TypeInfo) (z:Value) (size bytes:Nat) (ht:P.underlying t=some (.slice e)) (hi:P.info? e=some i) (hz:i.zero=some z)
 (hsize:i.size=size) (hby:i.bytes=bytes) (hzs:z.cells.size=size) (hsz:0<size)
 (v:Value) (n:Nat) (xs:List Value) (hs:a.eval s=v) (hown:w.ownsRow base e size v n xs)
 (ad:Addr) (m c:Nat) (news:List Value) (hx:a.eval x=.slice (some ad) m c) (hl:news.length=m*size) (hnews:∀ j u,news[j]?=some u→w.cell? (ad.add j)=some u) (h1:∀ u∈news,u.oneCell'=true)
 (h63:n+m≤maxLen) (hbytes:(n+m)*bytes≤140737488355328) (hbase:base≤w.heap.size)
 (hm:0<m) (hxs:∀ u∈xs,p u) (hnl:∀ u∈news,p u) (hzl:∀ u∈z.cells.toList,p u) (hN:∀ g,v.ownBlock=some g→AllC p w g)
 (h:∀ v' w' g',w'.ownsRow base e size v' (n+m) (xs++news)→w.grownBy w' v.ownBlock→v'.ownBlock=some g'→AllC p w' g'→wpList P ops Q rest (a.put o.dst v') w'):wpList P ops Q (o::rest) a w:=by
 refine wpList_plain hgd fun K hK=>?_
 obtain ⟨v',w',g',hr,h2,h3,h4,h5⟩:=Qb (P:=P) w base t o.type e i z size bytes ht hi hz hsize hby hzs hsz v n xs hown ad m c news hl hnews h1 h63 hbytes hbase hm hxs hnl hzl hN;unfold Oper.wp execOp;simp only [ho,resolve,invoke,builtin,Sem.run_bind,Sem.run_pure,Result.andThen_ok,List.map_toArray,List.map_cons,List.map_nil,hs,hx,hr];exact hK _ _ (h v' w' g' h2 h3 h4 h5)
end Go.Proofs.YtmgaloopddiekaaGreatDoor
