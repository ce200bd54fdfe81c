/- Helpers. -/
import Derived.Lib.Hide
import Derived.Deep.MidRow
import Derived.Deep.RegionHeld
import Derived.IntWalk
import Derived.Laws.World
import Derived.Tactics
import Derived.WalkMore
import Derived.Below
import Derived.Laws.Entries
import Derived.Laws.Sem
import Derived.OrdersHeld
import Derived.OwnWalk
import Derived.TacticsIn
import Derived.Test.YtfhfbpmlnjdfoaaGreatDoorProg
namespace Go.Proofs.YtfhfbpmlnjdfoaaGreatDoor
open Go Go.RowKit
theorem _root_.Go.RowKit.Hid.o{p:Prop}(h:Hid p):p:=h
theorem _root_.Go.Shut.o{p:Prop}(h:Shut p):p:=h
theorem qqh{p:Prop}(h:p):Hid p:=h
theorem Y2{a0 a1:Prop}(h0:a0)(h1:a1):Hid (a0∧a1):=⟨h0,h1⟩
theorem Y3{a0 a1 a2:Prop}(h0:a0)(h1:a1)(h2:a2):Hid (a0∧a1∧a2):=⟨h0,h1,h2⟩
theorem Y4{a0 a1 a2 a3:Prop}(h0:a0)(h1:a1)(h2:a2)(h3:a3):Hid (a0∧a1∧a2∧a3):=⟨h0,h1,h2,h3⟩
theorem Y5{a0 a1 a2 a3 a4:Prop}(h0:a0)(h1:a1)(h2:a2)(h3:a3)(h4:a4):Hid (a0∧a1∧a2∧a3∧a4):=⟨h0,h1,h2,h3,h4⟩
theorem Y6{a0 a1 a2 a3 a4 a5:Prop}(h0:a0)(h1:a1)(h2:a2)(h3:a3)(h4:a4)(h5:a5):Hid (a0∧a1∧a2∧a3∧a4∧a5):=⟨h0,h1,h2,h3,h4,h5⟩
theorem Y7{a0 a1 a2 a3 a4 a5 a6:Prop}(h0:a0)(h1:a1)(h2:a2)(h3:a3)(h4:a4)(h5:a5)(h6:a6):Hid (a0∧a1∧a2∧a3∧a4∧a5∧a6):=⟨h0,h1,h2,h3,h4,h5,h6⟩
theorem Y8{a0 a1 a2 a3 a4 a5 a6 a7:Prop}(h0:a0)(h1:a1)(h2:a2)(h3:a3)(h4:a4)(h5:a5)(h6:a6)(h7:a7):Hid (a0∧a1∧a2∧a3∧a4∧a5∧a6∧a7):=⟨h0,h1,h2,h3,h4,h5,h6,h7⟩
theorem Y9{a0 a1 a2 a3 a4 a5 a6 a7 a8:Prop}(h0:a0)(h1:a1)(h2:a2)(h3:a3)(h4:a4)(h5:a5)(h6:a6)(h7:a7)(h8:a8):Hid (a0∧a1∧a2∧a3∧a4∧a5∧a6∧a7∧a8):=⟨h0,h1,h2,h3,h4,h5,h6,h7,h8⟩
theorem Y10{a0 a1 a2 a3 a4 a5 a6 a7 a8 a9:Prop}(h0:a0)(h1:a1)(h2:a2)(h3:a3)(h4:a4)(h5:a5)(h6:a6)(h7:a7)(h8:a8)(h9:a9):Hid (a0∧a1∧a2∧a3∧a4∧a5∧a6∧a7∧a8∧a9):=⟨h0,h1,h2,h3,h4,h5,h6,h7,h8,h9⟩
theorem Y11{a0 a1 a2 a3 a4 a5 a6 a7 a8 a9 a10:Prop}(h0:a0)(h1:a1)(h2:a2)(h3:a3)(h4:a4)(h5:a5)(h6:a6)(h7:a7)(h8:a8)(h9:a9)(h10:a10):Hid (a0∧a1∧a2∧a3∧a4∧a5∧a6∧a7∧a8∧a9∧a10):=⟨h0,h1,h2,h3,h4,h5,h6,h7,h8,h9,h10⟩
theorem Y12{a0 a1 a2 a3 a4 a5 a6 a7 a8 a9 a10 a11:Prop}(h0:a0)(h1:a1)(h2:a2)(h3:a3)(h4:a4)(h5:a5)(h6:a6)(h7:a7)(h8:a8)(h9:a9)(h10:a10)(h11:a11):Hid (a0∧a1∧a2∧a3∧a4∧a5∧a6∧a7∧a8∧a9∧a10∧a11):=⟨h0,h1,h2,h3,h4,h5,h6,h7,h8,h9,h10,h11⟩
theorem Y13{a0 a1 a2 a3 a4 a5 a6 a7 a8 a9 a10 a11 a12:Prop}(h0:a0)(h1:a1)(h2:a2)(h3:a3)(h4:a4)(h5:a5)(h6:a6)(h7:a7)(h8:a8)(h9:a9)(h10:a10)(h11:a11)(h12:a12):Hid (a0∧a1∧a2∧a3∧a4∧a5∧a6∧a7∧a8∧a9∧a10∧a11∧a12):=⟨h0,h1,h2,h3,h4,h5,h6,h7,h8,h9,h10,h11,h12⟩
theorem Y14{a0 a1 a2 a3 a4 a5 a6 a7 a8 a9 a10 a11 a12 a13:Prop}(h0:a0)(h1:a1)(h2:a2)(h3:a3)(h4:a4)(h5:a5)(h6:a6)(h7:a7)(h8:a8)(h9:a9)(h10:a10)(h11:a11)(h12:a12)(h13:a13):Hid (a0∧a1∧a2∧a3∧a4∧a5∧a6∧a7∧a8∧a9∧a10∧a11∧a12∧a13):=⟨h0,h1,h2,h3,h4,h5,h6,h7,h8,h9,h10,h11,h12,h13⟩
theorem Y15{a0 a1 a2 a3 a4 a5 a6 a7 a8 a9 a10 a11 a12 a13 a14:Prop}(h0:a0)(h1:a1)(h2:a2)(h3:a3)(h4:a4)(h5:a5)(h6:a6)(h7:a7)(h8:a8)(h9:a9)(h10:a10)(h11:a11)(h12:a12)(h13:a13)(h14:a14):Hid (a0∧a1∧a2∧a3∧a4∧a5∧a6∧a7∧a8∧a9∧a10∧a11∧a12∧a13∧a14):=⟨h0,h1,h2,h3,h4,h5,h6,h7,h8,h9,h10,h11,h12,h13,h14⟩
theorem Y16{a0 a1 a2 a3 a4 a5 a6 a7 a8 a9 a10 a11 a12 a13 a14 a15:Prop}(h0:a0)(h1:a1)(h2:a2)(h3:a3)(h4:a4)(h5:a5)(h6:a6)(h7:a7)(h8:a8)(h9:a9)(h10:a10)(h11:a11)(h12:a12)(h13:a13)(h14:a14)(h15:a15):Hid (a0∧a1∧a2∧a3∧a4∧a5∧a6∧a7∧a8∧a9∧a10∧a11∧a12∧a13∧a14∧a15):=⟨h0,h1,h2,h3,h4,h5,h6,h7,h8,h9,h10,h11,h12,h13,h14,h15⟩
theorem qqe{α:Sort _}(t:α):∃x,x=t:=⟨_,rfl⟩
theorem qqf:∀(fn:Fn)(first cap:Array Value)(w:World),(Instr.makeFunc fn first cap).run Tryz.prog w=.ok (.func fn first cap) w:=fun _ _ _ _=>rfl
theorem qxa:type_of% @Addr.add_lit:=@Addr.add_lit
theorem qxb:type_of% @AllReadyH.cons:=@AllReadyH.cons
theorem qxc:type_of% @AllReadyH.nil:=@AllReadyH.nil
theorem qxd:type_of% @Array.ext_getElem?:=@Array.ext_getElem?
theorem qxe:type_of% @Array.getElem?_eq_getElem:=@Array.getElem?_eq_getElem
theorem qxf:type_of% @Array.getElem?_eq_none:=@Array.getElem?_eq_none
theorem qxg:type_of% @Array.getElem?_setIfInBounds_ne:=@Array.getElem?_setIfInBounds_ne
theorem qxh:type_of% @Array.length_toList:=@Array.length_toList
theorem qxi:type_of% @Array.replicate_succ:=@Array.replicate_succ
theorem qxj:type_of% @Array.replicate_zero:=@Array.replicate_zero
theorem qxk:type_of% @Below.heap_alloc:=@Below.heap_alloc
theorem qxl:type_of% @Below.refl:=@Below.refl
theorem qxm:type_of% @BitVec.ofInt_natCast:=@BitVec.ofInt_natCast
theorem qxn:type_of% @BitVec.toNat_ofNat:=@BitVec.toNat_ofNat
theorem qxo:type_of% @Bool.and_eq_true:=@Bool.and_eq_true
theorem qxp:type_of% @Bool.true_and:=@Bool.true_and
theorem qxq:type_of% @Decidable.of_not_not:=@Decidable.of_not_not
theorem qxr:type_of% @Exit.noGoto_ret:=@Exit.noGoto_ret
theorem qxs:type_of% @Int.eq_ofNat_of_zero_le:=@Int.eq_ofNat_of_zero_le
theorem qxt:type_of% @Int.natCast_add:=@Int.natCast_add
theorem qxu:type_of% @Int.toNat_natCast:=@Int.toNat_natCast
theorem qxv:type_of% @IntWalk.i64_in:=@IntWalk.i64_in
theorem qxw:type_of% @List.all_eq_true:=@List.all_eq_true
theorem qxx:type_of% @List.append_assoc:=@List.append_assoc
theorem qxy:type_of% @List.append_nil:=@List.append_nil
theorem qxz:type_of% @List.append_toArray:=@List.append_toArray
theorem qya:type_of% @List.cons_append:=@List.cons_append
theorem qyb:type_of% @List.drop_eq_getElem_cons:=@List.drop_eq_getElem_cons
theorem qyc:type_of% @List.drop_zero:=@List.drop_zero
theorem qyd:type_of% @List.eq_nil_of_length_eq_zero:=@List.eq_nil_of_length_eq_zero
theorem qye:type_of% @List.ext_getElem:=@List.ext_getElem
theorem qyf:type_of% @List.flatMap_append:=@List.flatMap_append
theorem qyg:type_of% @List.flatMap_cons:=@List.flatMap_cons
theorem qyh:type_of% @List.getD_eq_getElem?_getD:=@List.getD_eq_getElem?_getD
theorem qyi:type_of% @List.getElem?_append_left:=@List.getElem?_append_left
theorem qyj:type_of% @List.getElem?_append_right:=@List.getElem?_append_right
theorem qyk:type_of% @List.getElem?_cons_succ:=@List.getElem?_cons_succ
theorem qyl:type_of% @List.getElem?_cons_zero:=@List.getElem?_cons_zero
theorem qym:type_of% @List.getElem?_drop:=@List.getElem?_drop
theorem qyn:type_of% @List.getElem?_eq_getElem:=@List.getElem?_eq_getElem
theorem qyo:type_of% @List.getElem?_eq_none:=@List.getElem?_eq_none
theorem qyp:type_of% @List.getElem?_eq_some_iff:=@List.getElem?_eq_some_iff
theorem qyq:type_of% @List.getElem?_map:=@List.getElem?_map
theorem qyr:type_of% @List.getElem?_range:=@List.getElem?_range
theorem qys:type_of% @List.getElem?_replicate:=@List.getElem?_replicate
theorem qyt:type_of% @List.getElem?_set:=@List.getElem?_set
theorem qyu:type_of% @List.getElem?_take:=@List.getElem?_take
theorem qyv:type_of% @List.getElem?_toArray:=@List.getElem?_toArray
theorem qyw:type_of% @List.getElem_cons_succ:=@List.getElem_cons_succ
theorem qyx:type_of% @List.getElem_cons_zero:=@List.getElem_cons_zero
theorem qyy:type_of% @List.getElem_map:=@List.getElem_map
theorem qyz:type_of% @List.getElem_mem:=@List.getElem_mem
theorem qza:type_of% @List.getElem_of_mem:=@List.getElem_of_mem
theorem qzb:type_of% @List.getElem_set:=@List.getElem_set
theorem qzc:type_of% @List.getElem_toArray:=@List.getElem_toArray
theorem qzd:type_of% @List.length_append:=@List.length_append
theorem qze:type_of% @List.length_cons:=@List.length_cons
theorem qzf:type_of% @List.length_drop:=@List.length_drop
theorem qzg:type_of% @List.length_map:=@List.length_map
theorem qzh:type_of% @List.length_nil:=@List.length_nil
theorem qzi:type_of% @List.length_replicate:=@List.length_replicate
theorem qzj:type_of% @List.length_set:=@List.length_set
theorem qzk:type_of% @List.length_take:=@List.length_take
theorem qzl:type_of% @List.map_append:=@List.map_append
theorem qzm:type_of% @List.map_cons:=@List.map_cons
theorem qzn:type_of% @List.map_map:=@List.map_map
theorem qzo:type_of% @List.map_nil:=@List.map_nil
theorem qzp:type_of% @List.map_toArray:=@List.map_toArray
theorem qzq:type_of% @List.mem_append:=@List.mem_append
theorem qzr:type_of% @List.mem_cons:=@List.mem_cons
theorem qzs:type_of% @List.mem_cons_of_mem:=@List.mem_cons_of_mem
theorem qzt:type_of% @List.mem_cons_self:=@List.mem_cons_self
theorem qzu:type_of% @List.mem_flatMap:=@List.mem_flatMap
theorem qzv:type_of% @List.mem_map:=@List.mem_map
theorem qzw:type_of% @List.mem_of_mem_erase:=@List.mem_of_mem_erase
theorem qzx:type_of% @List.mem_range:=@List.mem_range
theorem qzy:type_of% @List.mem_singleton:=@List.mem_singleton
theorem qzz:type_of% @List.nil_append:=@List.nil_append
theorem qXa:type_of% @List.nodup_append:=@List.nodup_append
theorem qXb:type_of% @List.nodup_cons:=@List.nodup_cons
theorem qXc:type_of% @List.nodup_nil:=@List.nodup_nil
theorem qXd:type_of% @List.not_mem_nil:=@List.not_mem_nil
theorem qXe:type_of% @List.pairwise_iff_getElem:=@List.pairwise_iff_getElem
theorem qXf:type_of% @List.pairwise_map:=@List.pairwise_map
theorem qXg:type_of% @List.push_toArray:=@List.push_toArray
theorem qXh:type_of% @List.range_succ:=@List.range_succ
theorem qXi:type_of% @List.setIfInBounds_toArray:=@List.setIfInBounds_toArray
theorem qXj:type_of% @List.set_append_right:=@List.set_append_right
theorem qXk:type_of% @List.set_cons_succ:=@List.set_cons_succ
theorem qXl:type_of% @List.set_cons_zero:=@List.set_cons_zero
theorem qXm:type_of% @List.size_toArray:=@List.size_toArray
theorem qXn:type_of% @List.suffix_refl:=@List.suffix_refl
theorem qXo:type_of% @List.take_append_drop:=@List.take_append_drop
theorem qXp:type_of% @List.take_of_length_le:=@List.take_of_length_le
theorem qXq:type_of% @List.take_succ_eq_append_getElem:=@List.take_succ_eq_append_getElem
theorem qXr:type_of% @Nat.add_assoc:=@Nat.add_assoc
theorem qXs:type_of% @Nat.add_zero:=@Nat.add_zero
theorem qXt:type_of% @Nat.eq_zero_or_pos:=@Nat.eq_zero_or_pos
theorem qXu:type_of% @Nat.le_add_right:=@Nat.le_add_right
theorem qXv:type_of% @Nat.le_refl:=@Nat.le_refl
theorem qXw:type_of% @Nat.le_succ:=@Nat.le_succ
theorem qXx:type_of% @Nat.le_trans:=@Nat.le_trans
theorem qXy:type_of% @Nat.lt_of_lt_of_le:=@Nat.lt_of_lt_of_le
theorem qXz:type_of% @Nat.mod_eq_of_lt:=@Nat.mod_eq_of_lt
theorem qYa:type_of% @Nat.mod_lt:=@Nat.mod_lt
theorem qYb:type_of% @Nat.mul_le_mul_right:=@Nat.mul_le_mul_right
theorem qYc:type_of% @Nat.ne_of_gt:=@Nat.ne_of_gt
theorem qYd:type_of% @Nat.ne_of_lt:=@Nat.ne_of_lt
theorem qYe:type_of% @Nat.zero_add:=@Nat.zero_add
theorem qYf:type_of% @Nat.zero_le:=@Nat.zero_le
theorem qYg:type_of% @Nat.zero_mul:=@Nat.zero_mul
theorem qYh:type_of% @Oper.semAt_some:=@Oper.semAt_some
theorem qYi:type_of% @Option.map_eq_some_iff:=@Option.map_eq_some_iff
theorem qYj:type_of% @Option.some.inj:=@Option.some.inj
theorem qYk:type_of% @Prod.mk.injEq:=@Prod.mk.injEq
theorem qYl:type_of% @Result.andThen_ok:=@Result.andThen_ok
theorem qYm:type_of% @Sem.run_bind:=@Sem.run_bind
theorem qYn:type_of% @World.block_lt_of_cell?:=@World.block_lt_of_cell?
theorem qYo:type_of% @World.cell?_drew:=@World.cell?_drew
theorem qYp:type_of% @World.rangeAt_alloc:=@World.rangeAt_alloc
theorem qYq:type_of% @World.rangeAt_drew:=@World.rangeAt_drew
theorem qYr:type_of% @World.rangeAt_setCells_same:=@World.rangeAt_setCells_same
theorem qYs:type_of% @World.size_alloc:=@World.size_alloc
theorem qYt:type_of% @World.there_alloc:=@World.there_alloc
theorem qYu:type_of% @all_oneCell_toArray:=@all_oneCell_toArray
theorem qYv:type_of% @beq_eq_false_iff_ne:=@beq_eq_false_iff_ne
theorem qYw:type_of% @bodyPost_ret:=@bodyPost_ret
theorem qYx:type_of% @decide_eq_false_iff_not:=@decide_eq_false_iff_not
theorem qYy:type_of% @decide_eq_true:=@decide_eq_true
theorem qYz:type_of% @decide_eq_true_eq:=@decide_eq_true_eq
theorem qZa:type_of% @info_parts:=@info_parts
theorem qZb:type_of% @or_false:=@or_false
theorem qZc:type_of% @results_none:=@results_none
theorem qZd:type_of% @run_underlying:=@run_underlying
theorem qZe:type_of% @wpAnyH_ready:=@wpAnyH_ready
theorem qZf:type_of% @wpAnyH_take:=@wpAnyH_take
theorem qZg:type_of% @wpList_load_mid:=@wpList_load_mid
theorem qZh:type_of% @wpList_plain:=@wpList_plain
theorem qZi:type_of% @wpList_store_mid:=@wpList_store_mid
theorem qZj:type_of% @wp_region_held_drew:=@wp_region_held_drew
theorem qZk:type_of% @wp_store_mid:=@wp_store_mid
theorem qZl:type_of% @yieldsIf_load_mid:=@yieldsIf_load_mid
end Go.Proofs.YtfhfbpmlnjdfoaaGreatDoor
