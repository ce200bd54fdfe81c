/- Helpers. -/
import Derived.Lib.Hide
import Derived.Lib.Hide
import Derived.Deep.MidRow
import Derived.Deep.RegionHeld
import Derived.IntWalk
import Derived.Laws.World
import Derived.Tactics
import Derived.WalkMore
import Derived.Below
import Derived.Laws.Entries
import Derived.Laws.Sem
import Derived.OrdersHeld
import Derived.OwnWalk
import Derived.TacticsIn
import Derived.Test.YtbnpkobbnjihjaaGreatDoorProg
namespace Go.Proofs.YtbnpkobbnjihjaaGreatDoor
open Go Go.RowKit
theorem _root_.Go.RowKit.Hid.o{p:Prop}(h:Hid p):p:=h
theorem _root_.Go.Shut.o{p:Prop}(h:Shut p):p:=h
theorem qqh{p:Prop}(h:p):Hid p:=h
theorem Y2{a0 a1:Prop}(b:a0)(h1:a1):Hid (a0∧a1):=⟨b,h1⟩
theorem Y3{a0 a1 a2:Prop}(b:a0)(h1:a1)(h2:a2):Hid (a0∧a1∧a2):=⟨b,h1,h2⟩
theorem Y4{a0 a1 a2 a3:Prop}(b:a0)(h1:a1)(h2:a2)(h:a3):Hid (a0∧a1∧a2∧a3):=⟨b,h1,h2,h⟩
theorem Y5{a0 a1 a2 a3 a4:Prop}(b:a0)(h1:a1)(h2:a2)(h:a3)(j:a4):Hid (a0∧a1∧a2∧a3∧a4):=⟨b,h1,h2,h,j⟩
theorem Y6{a0 a1 a2 a3 a4 a5:Prop}(b:a0)(h1:a1)(h2:a2)(h:a3)(j:a4)(k:a5):Hid (a0∧a1∧a2∧a3∧a4∧a5):=⟨b,h1,h2,h,j,k⟩
theorem Y7{a0 a1 a2 a3 a4 a5 b:Prop}(h:a0)(h1:a1)(h2:a2)(j:a3)(k:a4)(n:a5)(p:b):Hid (a0∧a1∧a2∧a3∧a4∧a5∧b):=⟨h,h1,h2,j,k,n,p⟩
theorem Y8{a0 a1 a2 a3 a4 a5 b h:Prop}(j:a0)(h1:a1)(h2:a2)(k:a3)(n:a4)(p:a5)(q:b)(s:h):Hid (a0∧a1∧a2∧a3∧a4∧a5∧b∧h):=⟨j,h1,h2,k,n,p,q,s⟩
theorem Y9{a0 a1 a2 a3 a4 a5 b h j:Prop}(k:a0)(h1:a1)(h2:a2)(n:a3)(p:a4)(q:a5)(s:b)(v:h)(w:j):Hid (a0∧a1∧a2∧a3∧a4∧a5∧b∧h∧j):=⟨k,h1,h2,n,p,q,s,v,w⟩
theorem Y10{a0 a1 a2 a3 a4 a5 b h j a9:Prop}(k:a0)(h1:a1)(h2:a2)(n:a3)(p:a4)(q:a5)(s:b)(v:h)(w:j)(A:a9):Hid (a0∧a1∧a2∧a3∧a4∧a5∧b∧h∧j∧a9):=⟨k,h1,h2,n,p,q,s,v,w,A⟩
theorem Y11{a0 a1 a2 a3 a4 a5 b h j a9 k:Prop}(n:a0)(h1:a1)(h2:a2)(p:a3)(q:a4)(s:a5)(v:b)(w:h)(A:j)(D:a9)(E:k):Hid (a0∧a1∧a2∧a3∧a4∧a5∧b∧h∧j∧a9∧k):=⟨n,h1,h2,p,q,s,v,w,A,D,E⟩
theorem Y12{a0 a1 a2 a3 a4 a5 b h j a9 k n:Prop}(p:a0)(h1:a1)(h2:a2)(q:a3)(s:a4)(v:a5)(w:b)(A:h)(D:j)(E:a9)(F:k)(G:n):Hid (a0∧a1∧a2∧a3∧a4∧a5∧b∧h∧j∧a9∧k∧n):=⟨p,h1,h2,q,s,v,w,A,D,E,F,G⟩
theorem Y13{a0 a1 a2 a3 a4 a5 b h j a9 k n p:Prop}(q:a0)(h1:a1)(h2:a2)(s:a3)(v:a4)(w:a5)(A:b)(D:h)(E:j)(F:a9)(G:k)(H:n)(J:p):Hid (a0∧a1∧a2∧a3∧a4∧a5∧b∧h∧j∧a9∧k∧n∧p):=⟨q,h1,h2,s,v,w,A,D,E,F,G,H,J⟩
theorem Y14{a0 a1 a2 a3 a4 a5 b h j a9 k n p q:Prop}(s:a0)(h1:a1)(h2:a2)(v:a3)(w:a4)(A:a5)(D:b)(E:h)(F:j)(G:a9)(H:k)(J:n)(K:p)(L:q):Hid (a0∧a1∧a2∧a3∧a4∧a5∧b∧h∧j∧a9∧k∧n∧p∧q):=⟨s,h1,h2,v,w,A,D,E,F,G,H,J,K,L⟩
theorem Y15{a0 a1 a2 a3 a4 a5 b h j a9 k n p q s:Prop}(v:a0)(h1:a1)(h2:a2)(w:a3)(A:a4)(D:a5)(E:b)(F:h)(G:j)(H:a9)(J:k)(K:n)(L:p)(M:q)(N:s):Hid (a0∧a1∧a2∧a3∧a4∧a5∧b∧h∧j∧a9∧k∧n∧p∧q∧s):=⟨v,h1,h2,w,A,D,E,F,G,H,J,K,L,M,N⟩
theorem qqe{b:Sort _}(t:b):∃x,x=t:=⟨_,rfl⟩
theorem qqf:∀(b:Fn)(first cap:Array Value)(w:World),(Instr.makeFunc b first cap).run Tryz.prog w=.ok (.func b first cap) w:=fun _ _ _ _=>rfl
theorem oM{P:Prop}(h:P:=by omega):P:=h
theorem de{P:Prop}(h:P:=by decide):P:=h
theorem kR{P:Prop}(h:P:=by kernel_rfl):P:=h
theorem oe{P:Prop}(h:P:=by simp):P:=h
theorem fE{S:Nat->Prop}{n:Nat}:∀k,k<n->(fun _:Nat=>False) k->S k:=fun _ _ h=>h.elim
theorem og{P:Prop}(h:P:=by simp;omega):P:=h
theorem oh{P:Prop}(h:P:=by unfold maxLen;omega):P:=h
theorem oj{P:Prop}(h:P:=by rw[hFx];simp only[];rw[if_neg oM,if_neg oM,if_neg oM,if_neg oM,if_neg oM,if_neg oM,if_neg oM,if_neg oM,if_neg (fun e=>by have:=(hgm _ e).2.1;omega)]):P:=h
theorem oo{P:Prop}(h:P:=by simp[results,results237,go_sem]):P:=h
theorem ou{P:Prop}(h:P:=by simp[Act.eval,Array.replicate]):P:=h
theorem ow{P:Prop}(h:P:=by have:=hb3.size;simp at this;omega):P:=h
theorem ox{P:Prop}(h:P:=by rw[zm _ hz2l];exact zy hg8 (by rw[zm _ zG];exact qXp _)):P:=h
theorem oy{P:Prop}(h:P:=by intro k hk;simp[ownS,Value.ownBlock]at hk;omega):P:=h
theorem oz{P:Prop}(h:P:=by simpa using hj):P:=h
theorem oA{P:Prop}(h:P:=by rfl):P:=h
theorem oB{P:Prop}(h:P:=by simpa using hi):P:=h
theorem oC{P:Prop}(h:P:=by simp only[qYm];omega):P:=h
theorem oD{P:Prop}(h:P:=by rw[zm _ zG];exact hj):P:=h
theorem oE{P:Prop}(h:P:=by intro g hg;simp[Value.ownBlock]at hg;omega):P:=h
theorem oG{P:Prop}(h:P:=by rw[qYk];exact hr):P:=h
theorem oH{P:Prop}(h:P:=by rw[HZZ.o.2.2.1];exact qXp _):P:=h
theorem oI{P:Prop}(h:P:=by simp[Value.ownBlock,e]):P:=h
theorem oJ{P:Prop}(h:P:=by rw[zm _ hZl];exact hth):P:=h
theorem oK{P:Prop}(h:P:=by have:=HM.o;omega):P:=h
theorem oL{P:Prop}(h:P:=by rw[zm _ hyl];exact zI):P:=h
theorem oN{P:Prop}(h:P:=by rw[zm _ hZl];exact zI):P:=h
theorem oP{P:Prop}(h:P:=by rw[h.len];omega):P:=h
theorem oQ{P:Prop}(h:P:=by have:=(qyl.1 hv).1;rw[hU]at this;exact this):P:=h
theorem oR{P:Prop}(h:P:=by rw[zn,hZl];exact hth):P:=h
theorem oS{P:Prop}(h:P:=by rw[hL];rfl):P:=h
theorem oT{P:Prop}(h:P:=by rw[hj];exact qzq.2 ⟨M[k],qyu hk',rfl⟩):P:=h
theorem oU{P:Prop}(h:P:=by rw[zm _ hz];exact zy hg4 (by rw[zm _ zG];exact qXp _)):P:=h
theorem oV{P:Prop}(h:P:=by rw[qza];exact hg):P:=h
theorem oW{P:Prop}(h:P:=by unfold maxLen;have:=HS.o.2.2.2;omega):P:=h
theorem oX{P:Prop}(h:P:=by intro u hu;simp at hu;rcases hu with rfl|rfl|rfl|rfl<;>rfl):P:=h
theorem oY{P:Prop}(h:P:=by rcases hr with e|e;rw[e];decide;omega):P:=h
theorem oZ{P:Prop}(h:P:=by have:=H.o.2.2.2.2.1;omega):P:=h
theorem ja{P:Prop}(h:P:=by simp[results,results105,go_sem]):P:=h
theorem jc{P:Prop}(h:P:=by show(natsI (numsAt b 1 _)).length=7;simp[natsI,zR,szS]):P:=h
theorem jd{P:Prop}(h:P:=by show(natsI (numsAt b 1 _)).length=20;simp[natsI,zR,UV]):P:=h
theorem je{P:Prop}(h:P:=by simp[results,results62,go_sem]):P:=h
theorem jf{P:Prop}(h:P:=by simp[Value.oneCell']):P:=h
theorem jh{P:Prop}(h:P:=by show(natsI (numsAt b 1 _)).length=7;simp[natsI,zR,ST]):P:=h
theorem ji{P:Prop}(h:P:=by rw[Nat.add_comm];exact hv):P:=h
theorem jj{P:Prop}(h:P:=by rw[List.length_zip];omega):P:=h
theorem jk{P:Prop}(h:P:=by rw[qzd]):P:=h
theorem jl{P:Prop}(h:P:=by have:=h.fl;omega):P:=h
theorem jm{P:Prop}(h:P:=by rw[hz2];omega):P:=h
theorem jn{P:Prop}(h:P:=by intro v hv;simp at hv;rcases hv with rfl|rfl<;>rfl):P:=h
theorem jq{P:Prop}(h:P:=by rw[qzd];omega):P:=h
theorem jt{P:Prop}(h:P:=by rcases ht with rfl|rfl<;>decide):P:=h
theorem ju{P:Prop}(h:P:=by rw[zm _ hz2l];exact zI):P:=h
theorem jv{P:Prop}(h:P:=by rw[zm _ hyl];exact hth):P:=h
theorem jx{P:Prop}(h:P:=by rw[hsz];decide):P:=h
theorem jy{P:Prop}(h:P:=by rw[HR.o]at h;cases h):P:=h
theorem jz{P:Prop}(h:P:=by rw[hdl];unfold CaN.size;omega):P:=h
theorem jA{P:Prop}(h:P:=by rw[hent2.out,HBB.o]):P:=h
theorem jB{P:Prop}(h:P:=by rw[wC (by rw[h];rfl)];decide):P:=h
theorem jC{P:Prop}(h:P:=by rw[ho];intro c hc';cases hc'):P:=h
theorem jD{P:Prop}(h:P:=by simp[hsz]):P:=h
theorem jE{P:Prop}(h:P:=by rw[zn,hyl];exact hth):P:=h
theorem jF{P:Prop}(h:P:=by rw[h.hsl];exact hs):P:=h
theorem jG{P:Prop}(h:P:=by rw[hxl];rfl):P:=h
theorem jH{P:Prop}(h:P:=by rw[HZZ.o.2.1];exact tA):P:=h
theorem jI{P:Prop}(h:P:=by have:=HS.o.2.2.2;omega):P:=h
theorem jJ{P:Prop}(h:P:=by rw[zn];rfl):P:=h
theorem jK{P:Prop}(h:P:=by rw[zn];exact hZl):P:=h
theorem jL{P:Prop}(h:P:=by rw[HX.o.1];rfl):P:=h
theorem jM{P:Prop}(h:P:=by assumption):P:=h
theorem jN{P:Prop}(h:P:=by simp[go_sem]):P:=h
theorem jO{P:Prop}(h:P:=by simp<;>omega):P:=h
theorem jP{P:Prop}(h:P:=by simpa using hnl):P:=h
theorem jQ{P:Prop}(h:P:=by simp[hsz];omega):P:=h
theorem jR{P:Prop}(h:P:=by rw[e];rfl):P:=h
theorem jS{P:Prop}(h:P:=by cases h):P:=h
theorem jT{P:Prop}(h:P:=by rw[hg,e]):P:=h
theorem qxa:type_of% @Addr.add_lit:=@Addr.add_lit
theorem qxb:type_of% @AllReadyH.cons:=@AllReadyH.cons
theorem qxc:type_of% @AllReadyH.nil:=@AllReadyH.nil
theorem qxd:type_of% @Array.ext_getElem?:=@Array.ext_getElem?
theorem qxe:type_of% @Array.getElem?_eq_getElem:=@Array.getElem?_eq_getElem
theorem qxf:type_of% @Array.getElem?_eq_none:=@Array.getElem?_eq_none
theorem qxg:type_of% @Array.getElem?_setIfInBounds_ne:=@Array.getElem?_setIfInBounds_ne
theorem qxh:type_of% @Array.length_toList:=@Array.length_toList
theorem qxi:type_of% @Array.replicate_succ:=@Array.replicate_succ
theorem qxj:type_of% @Array.replicate_zero:=@Array.replicate_zero
theorem qxk:type_of% @Below.heap_alloc:=@Below.heap_alloc
theorem qxl:type_of% @Below.refl:=@Below.refl
theorem qxm:type_of% @BitVec.ofInt_natCast:=@BitVec.ofInt_natCast
theorem qxn:type_of% @BitVec.toNat_ofNat:=@BitVec.toNat_ofNat
theorem qxo:type_of% @Bool.and_eq_true:=@Bool.and_eq_true
theorem qxp:type_of% @Bool.true_and:=@Bool.true_and
theorem qxq:type_of% @Exit.noGoto_ret:=@Exit.noGoto_ret
theorem qxr:type_of% @Int.natCast_add:=@Int.natCast_add
theorem qxs:type_of% @Int.toNat_natCast:=@Int.toNat_natCast
theorem qxt:type_of% @IntWalk.i64_in:=@IntWalk.i64_in
theorem qxu:type_of% @List.all_eq_true:=@List.all_eq_true
theorem qxv:type_of% @List.append_assoc:=@List.append_assoc
theorem qxw:type_of% @List.append_nil:=@List.append_nil
theorem qxx:type_of% @List.append_toArray:=@List.append_toArray
theorem qxy:type_of% @List.cons_append:=@List.cons_append
theorem qxz:type_of% @List.drop_eq_getElem_cons:=@List.drop_eq_getElem_cons
theorem qya:type_of% @List.drop_zero:=@List.drop_zero
theorem qyb:type_of% @List.eq_nil_of_length_eq_zero:=@List.eq_nil_of_length_eq_zero
theorem qyc:type_of% @List.ext_getElem:=@List.ext_getElem
theorem qyd:type_of% @List.flatMap_append:=@List.flatMap_append
theorem qye:type_of% @List.flatMap_cons:=@List.flatMap_cons
theorem qyf:type_of% @List.getD_eq_getElem?_getD:=@List.getD_eq_getElem?_getD
theorem qyg:type_of% @List.getElem?_append_left:=@List.getElem?_append_left
theorem qyh:type_of% @List.getElem?_append_right:=@List.getElem?_append_right
theorem qyi:type_of% @List.getElem?_drop:=@List.getElem?_drop
theorem qyj:type_of% @List.getElem?_eq_getElem:=@List.getElem?_eq_getElem
theorem qyk:type_of% @List.getElem?_eq_none:=@List.getElem?_eq_none
theorem qyl:type_of% @List.getElem?_eq_some_iff:=@List.getElem?_eq_some_iff
theorem qym:type_of% @List.getElem?_map:=@List.getElem?_map
theorem qyn:type_of% @List.getElem?_replicate:=@List.getElem?_replicate
theorem qyo:type_of% @List.getElem?_set:=@List.getElem?_set
theorem qyp:type_of% @List.getElem?_take:=@List.getElem?_take
theorem qyq:type_of% @List.getElem?_toArray:=@List.getElem?_toArray
theorem qyr:type_of% @List.getElem_cons_succ:=@List.getElem_cons_succ
theorem qys:type_of% @List.getElem_cons_zero:=@List.getElem_cons_zero
theorem qyt:type_of% @List.getElem_map:=@List.getElem_map
theorem qyu:type_of% @List.getElem_mem:=@List.getElem_mem
theorem qyv:type_of% @List.getElem_of_mem:=@List.getElem_of_mem
theorem qyw:type_of% @List.getElem_set:=@List.getElem_set
theorem qyx:type_of% @List.getElem_toArray:=@List.getElem_toArray
theorem qyy:type_of% @List.length_append:=@List.length_append
theorem qyz:type_of% @List.length_cons:=@List.length_cons
theorem qza:type_of% @List.length_drop:=@List.length_drop
theorem qzb:type_of% @List.length_map:=@List.length_map
theorem qzc:type_of% @List.length_nil:=@List.length_nil
theorem qzd:type_of% @List.length_replicate:=@List.length_replicate
theorem qze:type_of% @List.length_set:=@List.length_set
theorem qzf:type_of% @List.length_take:=@List.length_take
theorem qzg:type_of% @List.map_append:=@List.map_append
theorem qzh:type_of% @List.map_cons:=@List.map_cons
theorem qzi:type_of% @List.map_map:=@List.map_map
theorem qzj:type_of% @List.map_nil:=@List.map_nil
theorem qzk:type_of% @List.map_toArray:=@List.map_toArray
theorem qzl:type_of% @List.mem_append:=@List.mem_append
theorem qzm:type_of% @List.mem_cons:=@List.mem_cons
theorem qzn:type_of% @List.mem_cons_of_mem:=@List.mem_cons_of_mem
theorem qzo:type_of% @List.mem_cons_self:=@List.mem_cons_self
theorem qzp:type_of% @List.mem_flatMap:=@List.mem_flatMap
theorem qzq:type_of% @List.mem_map:=@List.mem_map
theorem qzr:type_of% @List.mem_of_mem_erase:=@List.mem_of_mem_erase
theorem qzs:type_of% @List.mem_range:=@List.mem_range
theorem qzt:type_of% @List.mem_singleton:=@List.mem_singleton
theorem qzu:type_of% @List.nil_append:=@List.nil_append
theorem qzv:type_of% @List.nodup_append:=@List.nodup_append
theorem qzw:type_of% @List.nodup_cons:=@List.nodup_cons
theorem qzx:type_of% @List.nodup_nil:=@List.nodup_nil
theorem qzy:type_of% @List.not_mem_nil:=@List.not_mem_nil
theorem qzz:type_of% @List.pairwise_iff_getElem:=@List.pairwise_iff_getElem
theorem qXa:type_of% @List.pairwise_map:=@List.pairwise_map
theorem qXb:type_of% @List.push_toArray:=@List.push_toArray
theorem qXc:type_of% @List.range_succ:=@List.range_succ
theorem qXd:type_of% @List.setIfInBounds_toArray:=@List.setIfInBounds_toArray
theorem qXe:type_of% @List.set_append_right:=@List.set_append_right
theorem qXf:type_of% @List.set_cons_succ:=@List.set_cons_succ
theorem qXg:type_of% @List.set_cons_zero:=@List.set_cons_zero
theorem qXh:type_of% @List.size_toArray:=@List.size_toArray
theorem qXi:type_of% @List.take_append_drop:=@List.take_append_drop
theorem qXj:type_of% @List.take_of_length_le:=@List.take_of_length_le
theorem qXk:type_of% @List.take_succ_eq_append_getElem:=@List.take_succ_eq_append_getElem
theorem qXl:type_of% @Nat.add_assoc:=@Nat.add_assoc
theorem qXm:type_of% @Nat.add_zero:=@Nat.add_zero
theorem qXn:type_of% @Nat.eq_zero_or_pos:=@Nat.eq_zero_or_pos
theorem qXo:type_of% @Nat.le_add_right:=@Nat.le_add_right
theorem qXp:type_of% @Nat.le_refl:=@Nat.le_refl
theorem qXq:type_of% @Nat.le_succ:=@Nat.le_succ
theorem qXr:type_of% @Nat.le_trans:=@Nat.le_trans
theorem qXs:type_of% @Nat.lt_of_lt_of_le:=@Nat.lt_of_lt_of_le
theorem qXt:type_of% @Nat.mod_eq_of_lt:=@Nat.mod_eq_of_lt
theorem qXu:type_of% @Nat.mod_lt:=@Nat.mod_lt
theorem qXv:type_of% @Nat.mul_le_mul_right:=@Nat.mul_le_mul_right
theorem qXw:type_of% @Nat.ne_of_gt:=@Nat.ne_of_gt
theorem qXx:type_of% @Nat.ne_of_lt:=@Nat.ne_of_lt
theorem qXy:type_of% @Nat.zero_add:=@Nat.zero_add
theorem qXz:type_of% @Nat.zero_le:=@Nat.zero_le
theorem qYa:type_of% @Nat.zero_mul:=@Nat.zero_mul
theorem qYb:type_of% @Oper.semAt_some:=@Oper.semAt_some
theorem qYc:type_of% @Option.map_eq_some_iff:=@Option.map_eq_some_iff
theorem qYd:type_of% @Option.some.inj:=@Option.some.inj
theorem qYe:type_of% @Prod.mk.injEq:=@Prod.mk.injEq
theorem qYf:type_of% @Result.andThen_ok:=@Result.andThen_ok
theorem qYg:type_of% @Sem.run_bind:=@Sem.run_bind
theorem qYh:type_of% @World.block_lt_of_cell?:=@World.block_lt_of_cell?
theorem qYi:type_of% @World.cell?_drew:=@World.cell?_drew
theorem qYj:type_of% @World.rangeAt_alloc:=@World.rangeAt_alloc
theorem qYk:type_of% @World.rangeAt_drew:=@World.rangeAt_drew
theorem qYl:type_of% @World.rangeAt_setCells_same:=@World.rangeAt_setCells_same
theorem qYm:type_of% @World.size_alloc:=@World.size_alloc
theorem qYn:type_of% @World.there_alloc:=@World.there_alloc
theorem qYo:type_of% @all_oneCell_toArray:=@all_oneCell_toArray
theorem qYp:type_of% @beq_eq_false_iff_ne:=@beq_eq_false_iff_ne
theorem qYq:type_of% @bodyPost_ret:=@bodyPost_ret
theorem qYr:type_of% @decide_eq_false_iff_not:=@decide_eq_false_iff_not
theorem qYs:type_of% @decide_eq_true:=@decide_eq_true
theorem qYt:type_of% @decide_eq_true_eq:=@decide_eq_true_eq
theorem qYu:type_of% @info_parts:=@info_parts
theorem qYv:type_of% @or_false:=@or_false
theorem qYw:type_of% @results_none:=@results_none
theorem qYx:type_of% @run_underlying:=@run_underlying
theorem qYy:type_of% @wpAnyH_ready:=@wpAnyH_ready
theorem qYz:type_of% @wpAnyH_take:=@wpAnyH_take
theorem qZa:type_of% @wpList_load_mid:=@wpList_load_mid
theorem qZb:type_of% @wpList_plain:=@wpList_plain
theorem qZc:type_of% @wpList_store_mid:=@wpList_store_mid
theorem qZd:type_of% @wp_region_held_drew:=@wp_region_held_drew
theorem qZe:type_of% @wp_store_mid:=@wp_store_mid
theorem qZf:type_of% @yieldsIf_load_mid:=@yieldsIf_load_mid
end Go.Proofs.YtbnpkobbnjihjaaGreatDoor
