/- Short names of types, of rules and of steps; no condition beyond those written. -/
import Derived.OrdersHeld
import Derived.ProofKit
import Derived.Below
import Derived.Shelf.Lay
import Derived.Below
import Derived.Calls
import Derived.Deep.MidRow
import Derived.Deep.RegionHeld3
import Derived.Great.BuildSlice
import Derived.IntWalk
import Derived.Laws.AppendOwn
import Derived.Laws.Bits64
import Derived.Laws.Bits64b
import Derived.Laws.BitsAllLaws
import Derived.Laws.BitsLemmas
import Derived.Laws.Rows
import Derived.Lib.LaidTab
import Derived.Shelf.Bits.Mul64
import Derived.Still
import Derived.Tactics
import Derived.Test.YtoifhhljfaoejaaGreatDoorProg
set_option maxRecDepth 100000
set_option linter.unusedVariables false
namespace Go.Proofs.YtoifhhljfaoejaaGreatDoor
open Go Go.RowKit
abbrev Γ:=BitVec 8
abbrev Δ:=List Γ
abbrev Φ:=Nat→Γ
abbrev Ψ:=Array Value
theorem ϕ{p:Prop}(h:p:=by rfl):p:=h
theorem Ω{p:Prop}(h:p:=by omega):p:=h
theorem Ξ{p:Prop}(h:p:=by decide):p:=h
theorem Θ{p:Prop}(h:p:=by kernel_rfl):p:=h
theorem Ϡ{p:Prop}(h:p:=by simp):p:=h
theorem Ϟ{p:Prop}(h:p:=by simp;omega):p:=h
theorem Ϛ{p:Prop}(h:p:=by decide +kernel):p:=h
theorem Λ{p:Prop}(h:p:=by exact bodyPost_ret (aj rfl I rfl) rfl ⟨rfl,I.bel⟩):p:=h
abbrev Υ(w Z:World):Prop:=Below w.heap.size w Z
theorem Χ{c:Prop}{h:Decidable c}(n:¬c){α}{t e:α}:ite c t e=e:=if_neg n
theorem Ρ{c:Prop}{h:Decidable c}(n:c){α}{t e:α}:ite c t e=t:=if_pos n
abbrev Ϙ.{u}:=@inferInstance.{u}
abbrev Ϣ:=@bodyPost_ret
theorem ϖ{p:Prop}(h:p:=by first|omega|(simp;omega)|simp):p:=h
abbrev ϐ(g:Nat):Option Addr:=some ⟨g,0,none⟩
abbrev ϑ:=World
abbrev ϊ:=Option Addr
abbrev ϋ:=TypeId
abbrev ό:=Value
theorem ϔ{p:Prop}(h:p:=by simp[ai]):p:=h
theorem Ϯ{G' G:Prop}(k:G')(h:G'→G:=by
    intro k; (with_reducible show wpList _ _ _ (⟨_,.call _,_,_,_,_⟩::_) _ _)
    first|refine lC2 I rfl rfl rfl rfl ?_|refine lC1 I rfl rfl rfl ?_|refine lC3 I rfl rfl rfl rfl ?_|refine lC4 I rfl rfl rfl rfl ?_|refine lC0 I rfl rfl ?_|refine lC5 I rfl rfl rfl ?_
    intro J hx; try simp only [Act.put, List.setIfInBounds_toArray, List.set_cons_zero, List.set_cons_succ]
    revert J hx; exact k):G:=h k
theorem ϗ(x:Op){d:Option Tmp}{P:Program}{ops:Array Oper}{Q:Exit→Act→World→Prop}{a:Act}{w:World}{rest:List Oper}{op:Op}{t:TypeId}{ps:String}{af:Array Edge}{gd:_}(k:wpList P ops Q (⟨d,op,t,ps,af,gd⟩::rest) a w)(hd:op=x:=by rfl):wpList P ops Q (⟨d,op,t,ps,af,gd⟩::rest) a w:=k
theorem ϝ{p:Prop}(h:p:=by simp[intOf];omega):p:=h
theorem ϙ{C G' G:Prop}(hc:C)(k:G')(h:C→G'→G:=by
    intro hc k; refine lU I rfl rfl hc rfl ?_
    intro J hx; try simp only [Act.put, List.setIfInBounds_toArray, List.set_cons_zero, List.set_cons_succ]
    revert J hx; exact k):G:=h hc k
theorem ϒ{p:Prop}(h:p:=by first|exact I|exact I.pop|exact I.pop.pop|exact I.pop.pop.pop|exact I.right|exact I.pop.right|exact I.right.pop|exact I.right.right.right|exact I.pop.right.right.right|exact I.right.right.right.pop|exact I.drew|exact I.drew.pop|exact I.drew.pop.pop|exact I.drew.pop.pop.pop|exact I.drew.right|exact I.drew.pop.right|exact I.drew.right.pop|exact I.drew.right.right.right|exact I.drew.pop.right.right.right|exact I.drew.right.right.right.pop):p:=h
abbrev ϓ:=Calls Go.Proofs.Tryz.prog
theorem Ϥ{L G' G:Prop}(l:L)(k:G')(h:L→G'→G:=by
    intro Y k; (try dsimp only at Y); (try simp only [Nat.reduceAdd, Nat.reduceSub] at Y); refine ⟨_, rfl, ?_⟩
    try simp only [Act.put, List.setIfInBounds_toArray, List.set_cons_zero, List.set_cons_succ]
    revert Y; exact k):G:=h l k
theorem Ϧ{L G' G:Prop}(l:L)(k:G')(h:L→G'→G:=by
    intro Y k; (try simp only [List.cons_append, List.nil_append, List.append_assoc] at Y)
    try simp only [Act.put, List.setIfInBounds_toArray, List.set_cons_zero, List.set_cons_succ]
    revert Y; exact k):G:=h l k
theorem Ϩ{L G' G:Prop}(l:L)(k:G')(h:L→G'→G:=by
    intro Y k; (try simp only [List.cons_append, List.nil_append, List.append_assoc] at Y); refine ⟨_, rfl, ?_⟩
    try simp only [Act.put, List.setIfInBounds_toArray, List.set_cons_zero, List.set_cons_succ]
    revert Y; exact k):G:=h l k
theorem Ϫ{L G' G:Prop}(l:L)(k:G')(h:L→G'→G:=by
    intro Y k; (try dsimp only at Y); (try simp only [Nat.reduceAdd, Nat.reduceSub] at Y)
    revert Y; exact k):G:=h l k
abbrev W3:=@Go.IntWalk.i64_in
abbrev Xa:=@List.length_append
abbrev Xb:=@Array.append_assoc
abbrev Xc:=@List.append_assoc
abbrev Xd:=@Nat.mod_eq_of_lt
abbrev Xe:=@Go.heap_alloc_new
abbrev Xf:=@Go.RowKit.Below.heap_alloc
abbrev Xg:=@Nat.two_pow_pos
abbrev Xh:=@Go.heap_setCell_other
abbrev Xi:=@Go.frozen_of_row
abbrev Xj:=@Nat.div_div_eq_div_mul
abbrev Xk:=@Nat.pow_add
abbrev Xl:=@Nat.lt_of_lt_of_le
abbrev Xm:=@Array.setIfInBounds_append_left
abbrev Xn:=@Nat.le_refl
abbrev Xo:=@List.take_succ_eq_append_getElem
abbrev Xp:=@Nat.div_eq_of_lt
abbrev Xq:=@List.take_of_length_le
abbrev Xr:=@List.length_take
abbrev Xs:=@Bool.and_eq_true
abbrev Xt:=@Go.wpList_plain
abbrev Xu:=@Go.wpList_store_rowTo
abbrev Xv:=@BitVec.toNat_ofNat
abbrev Xw:=@decide_eq_true
abbrev Xx:=@Nat.pow_le_pow_right
abbrev Xy:=@Nat.add_mul_div_left
abbrev Xz:=@List.length_drop
abbrev XA:=@Nat.zero_add
abbrev XB:=@decide_eq_false
abbrev XC:=@of_decide_eq_true
abbrev XD:=@Nat.add_mul_mod_self_left
abbrev XE:=@Go.RowKit.Below.refl
abbrev XF:=@Int.tmod_eq_emod_of_nonneg
abbrev XG:=@List.eq_nil_of_length_eq_zero
abbrev XH:=@congrArg
abbrev XI:=@Nat.lt_or_ge
abbrev XJ:=@Nat.mod_lt
abbrev XK:=@Nat.mul_assoc
abbrev XL:=@List.mem_append_left
abbrev XM:=@Go.IntKind.wrap_u64
abbrev XO:=@Nat.mul_zero
abbrev XP:=@List.flatten_cons
abbrev XQ:=@List.map_append
abbrev XR:=@List.mem_append_right
abbrev XS:=@Nat.mul_one
abbrev XT:=@Nat.add_assoc
abbrev XU:=@Nat.mul_comm
abbrev XV:=@Go.IntKind.wrap_i64
abbrev XW:=@Go.wpList_load_row
abbrev XZ:=@List.length_cons
abbrev X4:=@Nat.eq_zero_or_pos
abbrev X5:=@Nat.and_two_pow_sub_one_eq_mod
abbrev X6:=@Int.tdiv_eq_ediv_of_nonneg
abbrev X7:=@Go.IntKind.wrap_u8
abbrev X8:=@Bool.false_eq_true
abbrev X9:=@BitVec.toNat_ofInt
abbrev Ya:=@Go.cell_of_row
abbrev Yb:=@Nat.zero_le
abbrev Yc:=@List.not_mem_nil
abbrev Yd:=@List.nil_sublist
abbrev Ye:=@Int.natCast_emod
abbrev Yf:=@List.append_nil
abbrev Yg:=@Int.natCast_mul
abbrev Yh:=@Nat.pow_zero
abbrev Yi:=@BitVec.eq_of_toNat_eq
abbrev Yj:=@Nat.div_one
abbrev Yk:=@Array.setIfInBounds_append_right
abbrev Yl:=@Go.wp_buildSlice
abbrev Ym:=@List.mem_cons
abbrev Yn:=@Nat.div_lt_iff_lt_mul
abbrev Yo:=@Nat.lt_trans
abbrev Yp:=@Go.World.ownsRow.alloc
abbrev Yq:=@Array.length_toList
abbrev Yr:=@Int.mul_le_mul_of_nonneg_right
abbrev Ys:=@Int.toNat_natCast
abbrev Yt:=@Nat.shiftLeft_add_eq_or_of_lt
abbrev Yu:=@Nat.mul_succ
abbrev Yv:=@Nat.mod_eq_sub_mod
abbrev Yw:=@Nat.lt_of_le_of_lt
abbrev Yx:=@List.pairwise_cons
abbrev Yy:=@Go.results_cell_row
abbrev Yz:=@List.flatten_nil
abbrev YA:=@BitVec.toNat_and
abbrev YB:=@List.getElem_append_left
abbrev YC:=@Go.wpStill_nil
abbrev YD:=@Nat.mul_add
abbrev YE:=@Nat.mul_le_mul_left
abbrev YF:=@Int.toNat_of_nonneg
abbrev YG:=@Int.eq_ofNat_of_zero_le
abbrev YH:=@Nat.mod_one
abbrev YI:=@Nat.mul_le_mul_right
abbrev YJ:=@Array.toList_append
abbrev YK:=@Array.size_append
abbrev YL:=@BitVec.toNat_setWidth
abbrev YM:=@Int.natCast_pow
abbrev YN:=@Int.natCast_add
abbrev YO:=@Array.toArray_toList
abbrev YP:=@Nat.add_sub_cancel_left
abbrev YQ:=@List.drop_drop
abbrev YR:=@Int.mul_nonneg
abbrev YS:=@List.size_toArray
abbrev YT:=@List.sublist_cons_self
abbrev YU:=@Nat.add_mul_mod_self_right
abbrev YV:=@Nat.mod_mul
abbrev YW:=@Nat.shiftRight_eq_div_pow
abbrev YX:=@Classical.byContradiction
abbrev YZ:=@List.Perm.append_left
abbrev Y0:=@Classical.choose_spec
abbrev Y3:=@Nat.shiftLeft_eq
abbrev Za:=@Array.empty_append
abbrev Zb:=@Nat.pow_succ
abbrev Zc:=@BitVec.toNat_ushiftRight
abbrev Zd:=@Go.NoPanic.normal
abbrev Ze:=@List.take_left
abbrev Zf:=@List.pairwise_append
abbrev Zg:=@List.nodup_append
abbrev Zh:=@List.Sublist.refl
abbrev Zi:=@Go.Lib.tabIs_of_head
abbrev Zj:=@List.mem_append
abbrev Zk:=@List.dropLast_concat_getLast
abbrev Zl:=@beq_eq_false_iff_ne
abbrev Zm:=@Nat.add_zero
abbrev Zn:=@Nat.mod_eq_zero_of_dvd
abbrev Zo:=@Nat.mul_mod
abbrev Zp:=@Go.bits_and_u64_nat
abbrev Zq:=@List.perm_middle
abbrev Zr:=@List.ext_getElem
abbrev Zs:=@Int.natCast_ediv
abbrev Zt:=@Array.all_append
abbrev Zu:=@List.Perm.refl
abbrev Zv:=@Array.any_eq_true'
abbrev Zw:=@Go.wpList_buildFlatArrTo
abbrev Zx:=@List.length_replicate
abbrev Zy:=@List.getElem_append_right
abbrev Zz:=@Go.Oper.upon_enter
abbrev ZA:=@Nat.mod_add_div
abbrev ZB:=@List.length_nil
abbrev ZC:=@List.foldl_cons
abbrev ZD:=@Nat.le_trans
abbrev ZE:=@Nat.le_of_lt
abbrev ZF:=@Nat.add_mod_right
abbrev ZG:=@List.replicate_succ'
abbrev ZH:=@List.sublist_append_left
abbrev ZI:=@List.flatten_append
abbrev ZJ:=@Array.toList_map
abbrev ZK:=@Array.toList_inj
abbrev ZL:=@Nat.add_mul
abbrev ZM:=@Fin.ext
abbrev ZN:=@of_decide_eq_false
abbrev ZO:=@decide_eq_true_iff
abbrev ZP:=@if_false
abbrev ZQ:=@Go.wpList_load_mid
abbrev ZR:=@Nat.div_le_self
abbrev ZS:=@Nat.div_add_mod
abbrev ZT:=@List.length_map
abbrev ZU:=@BitVec.toNat_or
abbrev ZV:=@if_true
abbrev ZW:=@decide_eq_true_eq
abbrev ZX:=@List.length_range
abbrev ZY:=@Go.IntKind.wrap_u32'
abbrev ZZ:=@Go.Proofs.Mul64.wrapN
abbrev Z1:=@Nat.mul_le_mul
abbrev Z3:=@Fin.mul_zero
abbrev zaa:=@Go.Addr.add_mid
end Go.Proofs.YtoifhhljfaoejaaGreatDoor
