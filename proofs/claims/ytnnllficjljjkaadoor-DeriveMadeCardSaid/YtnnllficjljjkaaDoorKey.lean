/-
  The walks of Key, of both: a name's bytes, a key expanded to 32 bytes.
-/
import Derived.Test.YtnnllficjljjkaaDoorRefDerive
import Derived.Laws.IdiomStrings
namespace Go.Proofs.YtnnllficjljjkaaDoor
open Go.RowKit
set_option linter.unusedVariables false
set_option linter.unusedSimpArgs false

/-- A string's bytes. -/
def bytesOf (s : ByteArray) : List (BitVec 8) := s.data.toList.map fun b => BitVec.ofNat 8 b.toNat
theorem strB_bytesOf (s : ByteArray) : strB (bytesOf s) = s := by
  unfold strB bytesOf
  rw [List.map_map]
  have : ((fun x : BitVec 8 => UInt8.ofNat x.toNat) ∘ fun b : UInt8 => BitVec.ofNat 8 b.toNat) = id := by
    funext b
    have hb : b.toNat < 256 := b.toNat_lt
    simp only [Function.comp_apply, BitVec.toNat_ofNat, id]
    rw [Nat.mod_eq_of_lt hb]
    simp
  rw [this, List.map_id]
theorem bytesOf_length (s : ByteArray) : (bytesOf s).length = s.size := by simp [bytesOf]

/-- '[]byte(s)'. -/
theorem conv_B (l : List (BitVec 8)) (w : World) : ∃ c w', (convert 9 25 (.string (strB l))).run Tryd.prog w = .ok (.slice (some ⟨w.heap.size, 0, none⟩) l.length c) w' ∧ BRow w' (.slice (some ⟨w.heap.size, 0, none⟩) l.length c) l ∧ w.grownBy w' none := by
  have h := run_bytes_of_string (P := Tryd.prog) w 9 25 5 (strB l) Tryd.underlying9 Tryd.underlying25 Tryd.underlying5
  have hsz : (strB l).size = l.length := by simp [strB, ByteArray.size]
  rw [hsz] at h
  refine ⟨_, _, h, ?_, grown_alloc (grown_drew (grown_refl _ _)) _⟩
  refine ⟨_, _, rfl, nofun, fun h0 => ⟨w.heap.size, 0, rfl, by show _ < (w.heap.push _).size; rw [Array.size_push]; omega, fun i hi => ?_⟩⟩
  have hg := heap_alloc_new w.drew (.cells (bytesRow (strB l) (grownCap w l.length 0 5)) 5 ((bytesRow (strB l) (grownCap w l.length 0 5)).size, (bytesRow (strB l) (grownCap w l.length 0 5)).size + 1))
  have hj : i < (strB l).data.size := by simpa [strB] using hi
  have hc := bytesRow_at (strB l) (grownCap w l.length 0 5) i hj
  have hv : (((strB l).data[i]).toNat : Int) = B8 l[i] := by
    have hx := l[i].isLt
    simp only [strB, List.getElem_toArray, List.getElem_map]
    unfold B8
    rw [UInt8.toNat_ofNat_of_lt' (by simpa [UInt8.size] using hx)]
  rw [hv] at hc
  rw [Nat.zero_add]
  have hg' : (w.drew.alloc (.cells (bytesRow (strB l) (grownCap w l.length 0 5)) 5 ((bytesRow (strB l) (grownCap w l.length 0 5)).size, (bytesRow (strB l) (grownCap w l.length 0 5)).size + 1))).heap[w.heap.size]? = some (.cells (bytesRow (strB l) (grownCap w l.length 0 5)) 5 ((bytesRow (strB l) (grownCap w l.length 0 5)).size, (bytesRow (strB l) (grownCap w l.length 0 5)).size + 1)) := hg
  simp only [World.cell?, hg', hc]
  first | rfl | simp [hc]

theorem expS_32 (f : Nat → BitVec 8) (info : List (BitVec 8)) : expS ((List.range 32).map f) info 32 = (List.range 32).map (macS ((List.range 32).map f) (info ++ [1])) := by
  have : expS ((List.range 32).map f) info 32 = ((expO ((List.range 32).map f) info 1).take 32) := rfl
  rw [this, List.take_of_length_le (by rw [expO_length]; decide)]
  show [] ++ expT _ _ 1 = _
  rw [List.nil_append]
  show (List.range 32).map (macS _ ([] ++ info ++ [BitVec.ofNat 8 (0 + 1)])) = _
  rw [List.nil_append]
  rfl

theorem run_arrayAt (b off c : Nat) (w : World) : (Instr.arrayAt 28 (.slice (some ⟨b, off, none⟩) 32 c)).run Tryd.prog w = .ok (.pointer (some ⟨b, off, none⟩)) w := by
  unfold Instr.arrayAt
  simp [Sem.run_bind, run_underlying Tryd.underlying28]
theorem loadRow {w : World} {b off n c : Nat} {f : Nat → BitVec 8} (h : BRow w (.slice (some ⟨b, off, none⟩) n c) ((List.range 32).map f)) : (Instr.loadAt 28 (.pointer (some ⟨b, off, none⟩))).run Tryd.prog w = .ok (.agg (rowB 32 f)) w := by
  obtain ⟨a, c', e, _, hp⟩ := h
  simp only [Value.slice.injEq] at e
  obtain ⟨rfl, _, _⟩ := e
  obtain ⟨b', off', e, _, hc⟩ := hp (by simp)
  simp only [Option.some.injEq, Addr.mk.injEq] at e
  obtain ⟨rfl, rfl, _⟩ := e
  have h1 := run_loadAt_mid (P := Tryd.prog) w b off 28 (rowB 32 f).toList _ (fun j v hv => by
    rw [rowB_toList] at hv
    have hj : j < 32 := by
      rcases Nat.lt_or_ge j 32 with h | h
      · exact h
      · rw [List.getElem?_eq_none (by simpa using h)] at hv; cases hv
    rw [hc j (by simpa using hj)]
    simpa [hj] using hv) Tryd.underlying28 rfl (by rw [size32]; simp [rowB_size])
  rw [h1, Array.toArray_toList]
theorem BRow.some {w : World} {a : Option Addr} {n c : Nat} {l : List (BitVec 8)} (h : BRow w (.slice a n c) l) (h0 : 0 < l.length) : ∃ b off, a = some ⟨b, off, none⟩ := by
  obtain ⟨a', c', e, _, hp⟩ := h
  simp only [Value.slice.injEq] at e
  obtain ⟨rfl, _, _⟩ := e
  obtain ⟨b, off, e, _⟩ := hp h0
  exact ⟨b, off, e⟩

theorem wpList_load_brow {ops : Array Oper} {rest : List Oper} {o : Oper} {a : Act} {w : World} {Q : Exit → Act → World → Prop} (hgd : o.guard = none) (x : Operand) (ho : o.op = .load 28 x)
    (b off n c : Nat) (f : Nat → BitVec 8) (hx : a.eval x = .pointer (some ⟨b, off, none⟩)) (hb : BRow w (.slice (some ⟨b, off, none⟩) n c) ((List.range 32).map f))
    (h : wpList Tryd.prog ops Q rest (a.put o.dst (.agg (rowB 32 f))) w) : wpList Tryd.prog ops Q (o :: rest) a w := by
  refine wpList_plain hgd fun K hK => ?_
  unfold Oper.wp
  have hl := loadRow hb
  simp [execOp, ho, hx, hl, Result.andThen]
  exact hK _ _ h

/-- What a name's key is. -/
def keyF (f : Nat → BitVec 8) (name : List (BitVec 8)) : Nat → BitVec 8 := macS ((List.range 32).map f) (name ++ [1])

set_option maxRecDepth 100000 in
set_option maxHeartbeats 1000000 in
theorem key_any (f : Nat → BitVec 8) (name : List (BitVec 8)) (w : World) (hn : name.length ≤ 1000) :
    Calls Tryd.prog 35 #[.agg (rowB 32 f), .string (strB name)] w fun e w' => e = .returned (.agg (rowB 32 (keyF f name))) ∧ Below w.heap.size w w' := by
  have HN := Lib.hid hn
  clear hn
  have HB2 := Lib.hid (show Below w.heap.size w ((w.alloc (.cells (rowB 32 f) 28)).alloc (.cells (row 32 fun _ => .int .u8 0) 28)) from below_allocS (below_allocS (Below.refl _ _) _) _)
  have HF2 := Lib.hid (show ((w.alloc (.cells (rowB 32 f) 28)).alloc (.cells (row 32 fun _ => .int .u8 0) 28)).heap[w.heap.size]? = some (.cells (rowB 32 f) 28 (0, 0)) from heap_alloc2_old _ _ _)
  have HR2 := Lib.hid (show ((w.alloc (.cells (rowB 32 f) 28)).alloc (.cells (row 32 fun _ => .int .u8 0) 28)).heap[w.heap.size + 1]? = some (.cells (row 32 fun _ => .int .u8 0) 28 (0, 0)) from heap_alloc2_new _ _ _)
  obtain ⟨c, w3, hconv, hrow, hgr⟩ := conv_B name ((w.alloc (.cells (rowB 32 f) 28)).alloc (.cells (row 32 fun _ => .int .u8 0) 28))
  obtain ⟨gn, egn⟩ : ∃ gn, gn = ((w.alloc (.cells (rowB 32 f) 28)).alloc (.cells (row 32 fun _ => .int .u8 0) 28)).heap.size := ⟨_, rfl⟩
  rw [← egn] at hconv hrow
  have HROW := Lib.hid hrow
  have HGR := Lib.hid hgr
  have HSZ := Lib.hid (show (Tryd.prog.info? 28).map (·.size) = some (rowB 32 f).size by rw [size32, rowB_size])
  have HEX := Lib.hid (expS_32 f name)
  obtain ⟨k, hk⟩ : ∃ k, k = keyF f name := ⟨_, rfl⟩
  rw [show macS ((List.range 32).map f) (name ++ [1]) = k from hk.symm] at HEX
  rw [← hk]
  clear hrow hgr egn hk
  go_enter Tryd.func35, Tryd.ntmps35
  go_wp2_with (first
    | (with_reducible refine wpList_alloc_row rfl 28 rfl 32 _ info32 ?_; generalize (w.alloc (.cells (rowB 32 f) 28)).alloc (.cells (row 32 fun _ => .int .u8 0) 28) = w2 at *)
    | ((with_reducible show wpList _ _ _ (⟨_, .load 28 _, _, _, _, _⟩ :: _) _ _); refine wpList_load_row rfl 28 _ rfl w.heap.size rfl 28 (rowB 32 f) (0, 0) _ HF2.out Tryd.underlying28 rfl HSZ.out ?_))
  refine (expand_any f _ name 32 w3 HROW.out (by have := HN.out; omega) (by decide)).mono ?_
  rintro e w4 ⟨⟨a4, rfl, hr4⟩, hb4⟩
  rw [HEX.out] at hr4
  obtain ⟨b4, off4, rfl⟩ := hr4.some (by simp)
  have harr := run_arrayAt b4 off4 32 w4
  have HR5 := Lib.hid hr4
  have HB4 := Lib.hid (show Below w.heap.size w w4 from below_keep (HB2.out.grown HGR.out HB2.out.size (fun k hk => by cases hk)) hb4)
  have HR4 := Lib.hid ((hb4.block _ (by have := HGR.out.size; have := (Array.getElem?_eq_some_iff.1 HR2.out).1; omega)).trans ((HGR.out.block _ (Array.getElem?_eq_some_iff.1 HR2.out).1 nofun).trans HR2.out))
  have HZ4 := Lib.hid (show (Tryd.prog.info? 28).map (·.size) = some (rowB 32 k).size by rw [size32, rowB_size])
  clear hb4 hr4
  go_wp2_with (first
    | ((with_reducible show wpList _ _ _ (⟨_, .load 28 _, _, _, _, _⟩ :: _) _ _); refine wpList_load_brow rfl _ rfl b4 off4 32 32 k rfl HR5.out ?_)
    | ((with_reducible show wpList _ _ _ (⟨_, .store 28 _ _, _, _, _, _⟩ :: _) _ _); refine wpList_store_rowTo rfl 28 _ _ rfl rfl (w.heap.size + 1) (rowB 32 k) rfl rfl 28 _ HR4.out HZ4.out (by rw [row_size, rowB_size]) (rowB_oneCell _ _) ?_))
  refine bodyPost_ret (results_cell_row rfl _ _ (w.heap.size + 1) 28 (rowB 32 k) (0, 0) _ rfl (heap_setRow_at HR4.out) Tryd.underlying28 rfl HZ4.out) rfl ?_
  exact ⟨rfl, below_setRow HB4.out (by omega) _⟩

theorem wp_conv_B {o : Oper} {a : Act} {w : World} {K : Act → World → Prop} {Q : Exit → Act → World → Prop} (x : Operand) (ho : o.op = .convert 9 25 x)
    (l : List (BitVec 8)) (hx : a.eval x = .string (strB l))
    (h : ∀ g c w', g = w.heap.size → BRow w' (.slice (some ⟨g, 0, none⟩) l.length c) l → w.grownBy w' none → K (a.put o.dst (.slice (some ⟨g, 0, none⟩) l.length c)) w') : o.wp Tryd.prog a w K Q := by
  obtain ⟨c, w', hrun, hr, hg⟩ := conv_B l w
  unfold Oper.wp execOp
  simp only [ho, hx, Sem.run_bind, hrun, Result.andThen_ok, Sem.run_pure]
  exact h _ _ _ rfl hr hg
/-- 32 bytes are copied into a row of a hash. -/
theorem wp_copy_num {o : Oper} {a : Act} {w : World} {K : Act → World → Prop} {Q : Exit → Act → World → Prop} (d s : Operand)
    (ho : o.op = .call { callee := .builtin .copy, args := #[d, s], argTypes := #[25, 25] }) (g : Nat) (k : Nat → BitVec 8) (S : Nat → Value)
    (hd : a.eval d = .slice (some ⟨g, 0, none⟩) 32 32) (hs : BRow w (a.eval s) ((List.range 32).map k)) (hg : w.heap[g]? = some (.cells (row 32 S) 28 (0, 0)))
    (h : ∀ w', w'.heap[g]? = some (.cells (rowB 32 k) 28 (0, 0)) → w.grownBy w' (some g) → K (a.put o.dst (goInt 32)) w') : o.wp Tryd.prog a w K Q := by
  obtain ⟨ad, c, e, hn, hp⟩ := hs
  obtain ⟨b, off, rfl, hlt, hc⟩ := hp (by simp)
  have hlen : ((List.range 32).map k).length = 32 := by simp
  rw [hlen] at e
  have hle : ((rowB 32 k).toList).length = 32 := by simp [rowB_size]
  have hrun := run_copy_row (P := Tryd.prog) w 25 25 o.type 5 g 0 32 32 ⟨b, off, none⟩ 32 c (row 32 S) 28 (rowB 32 k).toList Tryd.underlying25 info_one hg (by rw [hle]; rfl) (fun j v hj => by
    rw [rowB_toList] at hj
    have hj2 : j < 32 := by
      rcases Nat.lt_or_ge j 32 with h | h
      · exact h
      · rw [List.getElem?_eq_none (by simpa using h)] at hj; cases hj
    rw [Addr.add_mid, hc j (by simpa using hj2)]
    simpa [hj2] using hj) (by rw [hle, row_size]; decide) (fun v hv => by
      rw [rowB_toList] at hv
      obtain ⟨x, _, rfl⟩ := List.mem_map.1 hv
      rfl)
  rw [hle] at hrun
  have hfin : ((row 32 S).toList.take 0 ++ ((rowB 32 k).toList ++ (row 32 S).toList.drop (0 + 32))).toArray = rowB 32 k := by
    have : (row 32 S).toList.drop (0 + 32) = [] := List.drop_eq_nil_of_le (by simp [row_size])
    rw [this, List.take_zero, List.nil_append, List.append_nil, Array.toArray_toList]
  rw [List.append_assoc, hfin] at hrun
  unfold Oper.wp
  simp [execOp, ho, resolve, invoke, builtin, hd, e, hrun, Result.andThen]
  exact h _ (heap_setRow_at hg) (grown_setRow (grown_refl _ _) (.inr rfl) _)

set_option maxRecDepth 100000 in
set_option maxHeartbeats 1000000 in
theorem refKey_any (f : Nat → BitVec 8) (name : List (BitVec 8)) (w : World) (hn : name.length ≤ 1000) (hka : KAt w) :
    Calls Tryd.prog 36 #[.agg (rowB 32 f), .string (strB name)] w fun e w' => e = .returned (.agg (rowB 32 (keyF f name))) ∧ Below w.heap.size w w' := by
  have HN := Lib.hid hn
  have HKA := Lib.hid hka
  have HEX := Lib.hid (expS_32 f name)
  obtain ⟨k, hk⟩ : ∃ k, k = keyF f name := ⟨_, rfl⟩
  rw [show macS ((List.range 32).map f) (name ++ [1]) = k from hk.symm] at HEX
  rw [← hk]
  clear hn hka hk
  go_enter Tryd.func36, Tryd.ntmps36
  go_wp2_with (with_reducible refine wpList_alloc_row rfl 28 rfl 32 _ info32 ?_)
  have hs1 : (w.alloc (.cells (rowB 32 f) 28)).heap.size = w.heap.size + 1 := by simp
  have hs2 : ((w.alloc (.cells (rowB 32 f) 28)).alloc (.cells (row 32 fun _ => .int .u8 0) 28)).heap.size = w.heap.size + 2 := by simp
  simp only [Act.put, List.setIfInBounds_toArray, List.set_cons_zero, List.set_cons_succ, hs1, hs2]
  have hb2 : Below w.heap.size w ((w.alloc (.cells (rowB 32 f) 28)).alloc (.cells (row 32 fun _ => .int .u8 0) 28)) := below_allocS (below_allocS (Below.refl _ _) _) _
  have HB3 := Lib.hid (show Below w.heap.size w (((w.alloc (.cells (rowB 32 f) 28)).alloc (.cells (row 32 fun _ => .int .u8 0) 28)).alloc (.cells (row 32 fun _ => .int .u8 0) 28)) from below_allocS hb2 _)
  have hup := fun o => (show Below ((w.alloc (.cells (rowB 32 f) 28)).alloc (.cells (row 32 fun _ => .int .u8 0) 28)).heap.size ((w.alloc (.cells (rowB 32 f) 28)).alloc (.cells (row 32 fun _ => .int .u8 0) 28)) (((w.alloc (.cells (rowB 32 f) 28)).alloc (.cells (row 32 fun _ => .int .u8 0) 28)).alloc o) from below_allocS (Below.refl _ _) _)
  have HF3 := Lib.hid (show (((w.alloc (.cells (rowB 32 f) 28)).alloc (.cells (row 32 fun _ => .int .u8 0) 28)).alloc (.cells (row 32 fun _ => .int .u8 0) 28)).heap[w.heap.size]? = some (.cells (rowB 32 f) 28 (0, 0)) from ((hup _).block _ (by rw [hs2]; omega)).trans (heap_alloc2_old _ _ _))
  have HR3 := Lib.hid (show (((w.alloc (.cells (rowB 32 f) 28)).alloc (.cells (row 32 fun _ => .int .u8 0) 28)).alloc (.cells (row 32 fun _ => .int .u8 0) 28)).heap[w.heap.size + 1]? = some (.cells (row 32 fun _ => .int .u8 0) 28 (0, 0)) from ((hup _).block _ (by rw [hs2]; omega)).trans (heap_alloc2_new _ _ _))
  have HT3 := Lib.hid (show (((w.alloc (.cells (rowB 32 f) 28)).alloc (.cells (row 32 fun _ => .int .u8 0) 28)).alloc (.cells (row 32 fun _ => .int .u8 0) 28)).heap[w.heap.size + 2]? = some (.cells (row 32 fun _ => .int .u8 0) 28 (0, 0)) from by rw [← hs2]; exact heap_alloc_new _ _)
  clear hb2 hup hs1 hs2
  generalize ((w.alloc (.cells (rowB 32 f) 28)).alloc (.cells (row 32 fun _ => .int .u8 0) 28)).alloc (.cells (row 32 fun _ => .int .u8 0) 28) = W at *
  have hlf := (Array.getElem?_eq_some_iff.1 HF3.out).1
  have hlt := (Array.getElem?_eq_some_iff.1 HT3.out).1
  have hcell : ∀ (w' : World), W.grownBy w' (some (w.heap.size + 2)) → w'.heap[w.heap.size]? = some (.cells (rowB 32 f) 28 (0, 0)) := fun w' hg => (hg.block _ hlf (by intro e; injection e with e; omega)).trans HF3.out
  have hrg : ∀ (w' : World), W.grownBy w' (some (w.heap.size + 2)) → w'.rangeAt w.heap.size 0 (rowB 32 f).toList := fun w' hg j v hv => by
    rw [Nat.zero_add, cell_of_row w' _ j _ _ _ (hcell w' hg)]; simpa using hv
  have hka : ∀ (w' : World), W.grownBy w' none → Below w.heap.size w w' := fun w' hg => HB3.out.grown hg HB3.out.size (fun k hk => by cases hk)
  have hu := Tryd.underlying28
  have hi : (Tryd.prog.info? 28).map (·.size) = some (rowB 32 f).toList.length := by rw [size32]; simp [rowB_size]
  refine wp_region_plan (S := fun w' => W.grownBy w' (some (w.heap.size + 2))) [0, 1, 2, 3, 4, 5] [true, true, true, false, false, false] (by kernel_rfl) (by kernel_rfl) (grown_drew (grown_refl _ _)) (fun _ => ?_)
  simp only [List.filterMap_cons, List.filterMap_nil, List.getElem?_toArray, List.getElem?_cons_zero, List.getElem?_cons_succ]
  refine seqH_take (v := ?_) (Or.inl ⟨by rfl, ?_⟩) ?_
  rotate_left
  · (intro w hSw; go_simp; first | done | with_reducible rfl)
  try simp only [Act.put, List.setIfInBounds_toArray, List.set_cons_zero, List.set_cons_succ]
  refine seqH_take (yieldsIf_load_mid (by rfl) _ _ rfl _ _ rfl _ _ (fun w hw => hrg w hw) hu rfl hi) ?_
  try simp only [Act.put, List.setIfInBounds_toArray, List.set_cons_zero, List.set_cons_succ, rowB_back]
  refine seqH_take (v := ?_) (Or.inl ⟨by rfl, ?_⟩) ?_
  rotate_left
  · (intro w hSw; go_simp; first | done | with_reducible rfl)
  try simp only [Act.put, List.setIfInBounds_toArray, List.set_cons_zero, List.set_cons_succ]
  refine seqH_go (fun K hK => ?_)
  rw [if_pos (by rfl)]
  refine wp_conv_B (.tmp 8) rfl name rfl ?_; intro gn cn w4 egn hrow4 hg4; clear egn; have hg04 : W.grownBy w4 none := grown_trans (grown_drew (grown_refl _ _)) hg4
  refine hK.out _ _ (⟨hg04.os, hg04.tape, hg04.output, hg04.size, fun k hk _ => hg04.block k hk nofun⟩) (fun _ => ?_)
  clear hK K
  try simp only [Act.put, List.setIfInBounds_toArray, List.set_cons_zero, List.set_cons_succ]
  refine seqH_go (fun K hK => ?_)
  rw [if_pos (by rfl)]
  go_simp; refine (refExpand_any f _ name 32 w4 hrow4 (by have := HN.out; omega) (by decide) (HKA.out.below (hka w4 hg04))).mono ?_; rintro e w5 ⟨⟨a5, c5, rfl, hr5⟩, hb5⟩; dsimp only; rw [HEX.out] at hr5; have hg05 : W.grownBy w5 none := grown_trans hg04 (grown_of_below hb5)
  refine hK.out _ _ (⟨hg05.os, hg05.tape, hg05.output, hg05.size, fun k hk _ => hg05.block k hk nofun⟩) (fun _ => ?_)
  clear hK K
  try simp only [Act.put, List.setIfInBounds_toArray, List.set_cons_zero, List.set_cons_succ]
  refine seqH_go (fun K hK => ?_)
  rw [if_pos (by rfl)]
  refine wp_copy_num (.tmp 6) (.tmp 10) rfl (w.heap.size + 2) k (fun _ => .int .u8 0) rfl hr5 ((hg05.block _ hlt nofun).trans HT3.out) ?_; intro w6 h6 hg6
  refine hK.out _ _ (grown_trans (⟨hg05.os, hg05.tape, hg05.output, hg05.size, fun k hk _ => hg05.block k hk nofun⟩) hg6) (fun _ => ?_)
  clear hK K
  try simp only [Act.put, List.setIfInBounds_toArray, List.set_cons_zero, List.set_cons_succ]
  refine seqH_nil (NoPanic.normal ?_)
  have hg06 : W.grownBy w6 (some (w.heap.size + 2)) := grown_trans (⟨hg05.os, hg05.tape, hg05.output, hg05.size, fun k hk _ => hg05.block k hk nofun⟩) hg6
  have HB6 := Lib.hid (HB3.out.grown hg06 HB3.out.size (fun k hk => by cases hk; omega))
  have HG6 := Lib.hid h6
  have HR6 := Lib.hid ((hg06.block _ (Array.getElem?_eq_some_iff.1 HR3.out).1 (by intro e; injection e with e; omega)).trans HR3.out)
  have HZ6 := Lib.hid (show (Tryd.prog.info? 28).map (·.size) = some (rowB 32 k).size by rw [size32, rowB_size])
  clear hb5 hr5 hg04 hg05 hg06 hg4 hg6 h6 hi hu hrg hcell hka hrow4 HKA HF3 HR3 HT3 HB3 HEX
  go_wp2_with (first
    | ((with_reducible show wpList _ _ _ (⟨_, .load 28 _, _, _, _, _⟩ :: _) _ _); refine wpList_load_row rfl 28 _ rfl (w.heap.size + 2) rfl 28 (rowB 32 k) (0, 0) _ HG6.out Tryd.underlying28 rfl HZ6.out ?_)
    | ((with_reducible show wpList _ _ _ (⟨_, .store 28 _ _, _, _, _, _⟩ :: _) _ _); refine wpList_store_rowTo rfl 28 _ _ rfl rfl (w.heap.size + 1) (rowB 32 k) rfl rfl 28 _ HR6.out HZ6.out (by rw [row_size, rowB_size]) (rowB_oneCell _ _) ?_))
  refine bodyPost_ret (results_cell_row rfl _ _ (w.heap.size + 1) 28 (rowB 32 k) (0, 0) _ rfl (heap_setRow_at HR6.out) Tryd.underlying28 rfl HZ6.out) rfl ?_
  exact ⟨rfl, below_setRow HB6.out (by omega) _⟩

end Go.Proofs.YtnnllficjljjkaaDoor
