/-
  The walks of the laws ChachaBlocks and ChachaCounts, and of the example.
-/
import Derived.Test.YtdcndfcdjlpecaaRefTurn
import Derived.Test.YtdcndfcdjlpecaaPlan
import Derived.Test.YtdcndfcdjlpecaaEq
import Derived.Lib.SlBytesConst
namespace Go.Proofs.Ytdcndfcdjlpecaa
open Go.RowKit
set_option linter.unusedVariables false
set_option linter.unusedSimpArgs false

/-- Are two signatures alike? -/
def eqS (f g : Nat → BitVec 8) : Bool := eqN 64 (fun i => B8 (f i)) fun i => B8 (g i)
theorem eqS_self (f : Nat → BitVec 8) : eqS f f = true := eqN_self _ _
theorem eqlSig (f g : Nat → BitVec 8) (w : World) : (binOp .eql 28 (.agg (rowB 64 f)) (.agg (rowB 64 g))).run Try.prog w = .ok (.bool (eqS f g)) w := by
  rw [run_eql_struct]
  have := run_equalIn_row (P := Try.prog) (t := 28) (e := 5) (n := 64) (k := .u8) (d := 9998) (fun i => B8 (f i)) (fun i => B8 (g i)) Try.underlying28 (by kernel_rfl) Try.underlying5 (fun w => by kernel_rfl) w
  rw [show 9998 + 2 = 10000 from rfl] at this
  show Result.andThen ((Op.equalIn 10000 28 (.agg (row 64 fun i => .int .u8 (B8 (f i)))) (.agg (row 64 fun i => .int .u8 (B8 (g i))))).run Try.prog w) _ = _
  rw [this]; rfl
theorem yieldsIf_eqlSig {ops : Array Oper} {S : World → Prop} {op : Oper} {a : Act} (hw : Region.wanted op (yielded ops a.tmps) = true) (x y : Operand) (ho : op.op = .binOp .eql 28 x y 28) (f g : Nat → BitVec 8)
    (hx : a.eval x = .agg (rowB 64 f)) (hy : a.eval y = .agg (rowB 64 g)) : YieldsIf Try.prog ops S op (.bool (eqS f g)) a :=
  .inl ⟨hw, fun w _ => by
    have hg : (eqGuard .eql 28 x y (.agg (rowB 64 f)) (.agg (rowB 64 g))).run Try.prog w = .ok () w := run_eqGuard_agg _ _ _ _ _ _ _ (by kernel_rfl)
    unfold execOp
    simp only [ho, hx, hy, Sem.run_bind, hg, eqlSig, Result.andThen_ok, Sem.run_pure]⟩
theorem yieldsIf_sameSig {ops : Array Oper} {S : World → Prop} {op : Oper} {a : Act} (hw : Region.wanted op (yielded ops a.tmps) = true) (x y : Operand) (ho : op.op = .binOp .eql 28 x y 28) (f : Nat → BitVec 8)
    (hx : a.eval x = .agg (rowB 64 f)) (hy : a.eval y = .agg (rowB 64 f)) : YieldsIf Try.prog ops S op (.bool true) a := by
  have := yieldsIf_eqlSig (S := S) hw x y ho f f hx hy
  rwa [eqS_self] at this
theorem range_row {W : World} {g n : Nat} {f : Nat → BitVec 8} {t : TypeId} {fr : Nat × Nat} (h : W.heap[g]? = some (.cells (rowB n f) t fr)) : ∀ w', Below W.heap.size W w' → w'.rangeAt g 0 (rowB n f).toList := fun w' hb j v hv => by
  have hj : j < n := by
    rcases Nat.lt_or_ge j n with h | h
    · exact h
    · rw [List.getElem?_eq_none (by simp [rowB_size]; exact h)] at hv; cases hv
  have hlt := (Array.getElem?_eq_some_iff.1 h).1
  rw [hb.cell (p := ⟨g, 0 + j, none⟩) hlt, Nat.zero_add, cell_rowB h hj]
  simpa [rowB, row, hj] using hv
theorem rowB_back (n : Nat) (f : Nat → BitVec 8) : (rowB n f).toList.toArray = rowB n f := Array.toArray_toList
theorem brow_mk {w : World} {g c : Nat} {t : TypeId} {fr : Nat × Nat} (l : List (BitVec 8)) (h : w.heap[g]? = some (.cells (l.map fun x => Value.int .u8 (B8 x)).toArray t fr)) : BRow w (.slice (some ⟨g, 0, none⟩) l.length c) l :=
  ⟨_, c, rfl, (fun hc => by cases hc), fun _ => ⟨g, 0, rfl, (Array.getElem?_eq_some_iff.1 h).1, fun i hi => by
    rw [Nat.zero_add, cell_of_row w g _ _ _ _ h]
    simp [hi]⟩⟩
theorem sizeK (f : Nat → BitVec 8) : (Try.prog.info? 23).map (·.size) = some (rowB 32 f).toList.length := by simp only [Array.length_toList, rowB_size]; kernel_rfl
theorem sizeN (f : Nat → BitVec 8) : (Try.prog.info? 25).map (·.size) = some (rowB 12 f).toList.length := by simp only [Array.length_toList, rowB_size]; kernel_rfl

/-! ### The example -/
def sevenK : Nat → BitVec 8 := fun i => if i = 0 then 7 else 0
theorem built_seven : Try.prog.built 23 [(0, Value.int .u8 7)] = some (rowB 32 sevenK) := by kernel_rfl
theorem built_nonce : Try.prog.built 25 [] = some (rowB 12 fun _ => 0) := by kernel_rfl
def textB : List (BitVec 8) := [97, 32, 108, 111, 110, 103, 101, 114, 32, 116, 101, 120, 116, 32, 116, 104, 97, 110, 32, 116, 104, 97, 116]
theorem text_turned : turnC sevenK 1 (fun _ => 0) textB ≠ textB := by
  intro h
  have h0 := congrArg (fun l => l.getD 0 0) h
  have e : (turnC sevenK 1 (fun _ => 0) textB).getD 0 0 = 97 ^^^ strm sevenK 1 (fun _ => 0) 0 := rfl
  have h1 : (97 : BitVec 8) ^^^ strm sevenK 1 (fun _ => 0) 0 = 97 := e.symm.trans h0
  have h2 : strm sevenK 1 (fun _ => 0) 0 = 0 := by
    have h3 := congrArg (fun x => 97 ^^^ x) h1
    simp only [← BitVec.xor_assoc, BitVec.xor_self, BitVec.zero_xor] at h3
    exact h3
  have h4 : strm sevenK 1 (fun _ => 0) 0 = blockC sevenK 1 (fun _ => 0) 0 := rfl
  rw [h4, blockC_at sevenK 1 (fun _ => 0) _ rfl (by decide)] at h2
  exact seven_turns h2

set_option maxRecDepth 100000 in
set_option maxHeartbeats 1000000 in
theorem alive9_any (w : World) : Calls Try.prog 11 #[] w fun e w' => e = .returned (.bool true) ∧ Below w.heap.size w w' := by
  have kc := fun (w : World) (C : Array Value) (n c : Nat) => Lib.run_convert_bytes_const (P := Try.prog) w 31 5 C n c Try.underlying31 Try.underlying5
  go_enter Try.func11, Try.ntmps11
  go_wp2_with (first
    | (refine wpList_buildTo rfl 23 #[(0, .const (.int .u8 7))] rfl _ rfl (rowB 32 sevenK) built_seven ?_)
    | (refine wpList_buildTo rfl 25 #[] rfl _ rfl (rowB 12 fun _ => 0) built_nonce ?_)
    | fail)
  have HT0 := Lib.hid (show BRow (w.alloc (.cells (textB.map fun x => Value.int .u8 (B8 x)).toArray 5 (23, 24))) (.slice (some ⟨w.heap.size, 0, none⟩) 23 23) textB from brow_mk textB (heap_alloc_new _ _))
  have HB0 := Lib.hid (show Below w.heap.size w (w.alloc (.cells (textB.map fun x => Value.int .u8 (B8 x)).toArray 5 (23, 24))) from below_allocS (Below.refl _ _) _)
  refine (turn_any sevenK (fun _ => 0) 1 _ textB _ HT0.out (by decide)).mono ?_
  rintro e w1 ⟨⟨v1, rfl, hv1⟩, hb1⟩
  rw [show BitVec.ofInt 32 1 = 1 from rfl] at hv1
  have HV1 := Lib.hid hv1
  have HB1 := Lib.hid (below_keep HB0.out hb1)
  have HT1 := Lib.hid (HT0.out.below hb1)
  obtain ⟨a1, c1, e1, _, _⟩ := hv1
  rw [turnC_length] at e1
  change v1 = .slice a1 23 c1 at e1
  subst e1
  clear hb1 kc
  go_wp2_with fail
  have hst : ∀ w', Below w1.heap.size w1 w' → (convert 31 9 (.slice (some ⟨w.heap.size, 0, none⟩) 23 23)).run Try.prog w' = .ok (.string (strB textB)) w' := fun w' h => run_string (HT1.out.below h) Try.underlying31 Try.underlying5 Try.underlying9
  have hsc : ∀ w', Below w1.heap.size w1 w' → (convert 31 9 (.slice a1 23 c1)).run Try.prog w' = .ok (.string (strB (turnC sevenK 1 (fun _ => 0) textB))) w' := fun w' h => run_string (HV1.out.below h) Try.underlying31 Try.underlying5 Try.underlying9
  have hne : ((strB (turnC sevenK 1 (fun _ => 0) textB)).toList == (strB textB).toList) = false := by rw [strB_beq]; exact decide_eq_false text_turned
  generalize strB (turnC sevenK 1 (fun _ => 0) textB) = sc at *
  generalize hstB : strB textB = st at *
  have HSTB := Lib.hid hstB
  clear hstB
  refine wp_region_plan (S := fun w' => Below w1.heap.size w1 w') [0, 1, 2, 5, 6, 3, 4, 7, 8, 9, 10, 11, 12, 13, 14, 15] [true, true, true, true, true, false, false, true, true, true, true, true, true, true, true, true] (by kernel_rfl) (by kernel_rfl) (Below.refl _ _).drew (fun hHeld => ?_)
  simp only [List.filterMap_cons, List.filterMap_nil, List.getElem?_toArray, List.getElem?_cons_zero, List.getElem?_cons_succ]
  refine seqH_take (v := ?_) (Or.inl ⟨by rfl, ?_⟩) ?_
  rotate_left
  · (intro w hSw; go_simp; first | done | with_reducible rfl)
  try simp only [Act.put, List.setIfInBounds_toArray, List.set_cons_zero, List.set_cons_succ]
  refine seqH_take (v := ?_) (Or.inl ⟨by rfl, ?_⟩) ?_
  rotate_left
  · (intro w hSw; go_simp; first | done | with_reducible rfl)
  try simp only [Act.put, List.setIfInBounds_toArray, List.set_cons_zero, List.set_cons_succ]
  refine seqH_take (v := ?_) (Or.inl ⟨by rfl, ?_⟩) ?_
  rotate_left
  · (intro w hSw; go_simp; first | done | with_reducible rfl)
  try simp only [Act.put, List.setIfInBounds_toArray, List.set_cons_zero, List.set_cons_succ]
  refine seqH_take (v := ?_) (Or.inl ⟨by rfl, ?_⟩) ?_
  rotate_left
  · (intro w hSw; go_simp; first | done | with_reducible rfl)
  try simp only [Act.put, List.setIfInBounds_toArray, List.set_cons_zero, List.set_cons_succ]
  refine seqH_take (v := ?_) (Or.inl ⟨by rfl, ?_⟩) ?_
  rotate_left
  · (intro w hSw; go_simp; first | done | with_reducible rfl)
  try simp only [Act.put, List.setIfInBounds_toArray, List.set_cons_zero, List.set_cons_succ]
  refine seqH_go (fun K hK => ?_)
  rw [if_pos (by rfl)]
  go_simp
  refine (turn_any sevenK (fun _ => 0) 1 _ _ _ (HV1.out.below hHeld) (by rw [turnC_length]; decide)).mono ?_; rintro e w2 ⟨⟨v2, rfl, hv2⟩, hbc⟩; rw [show BitVec.ofInt 32 1 = 1 from rfl, turnC_twice] at hv2; have hs2 := run_string hv2 Try.underlying31 Try.underlying5 Try.underlying9; rw [HSTB.out] at hs2; obtain ⟨a2, c2, e2, _, _⟩ := hv2; subst e2
  try dsimp only
  refine hK.out _ _ (below_keep hHeld hbc) (fun hHeld2 => ?_)
  clear hK K hHeld
  have hHeld := hHeld2
  clear hHeld2
  try simp only [Act.put, List.setIfInBounds_toArray, List.set_cons_zero, List.set_cons_succ]
  refine seqH_go (fun K hK => ?_)
  rw [if_pos (by rfl)]
  go_simp
  skip
  try dsimp only
  refine hK.out _ _ hHeld (fun hHeld2 => ?_)
  clear hK K hHeld
  have hHeld := hHeld2
  clear hHeld2
  try simp only [Act.put, List.setIfInBounds_toArray, List.set_cons_zero, List.set_cons_succ]
  refine seqH_take (v := ?_) (Or.inl ⟨by rfl, ?_⟩) ?_
  rotate_left
  · (intro w hSw; go_simp; first | done | with_reducible rfl)
  try simp only [Act.put, List.setIfInBounds_toArray, List.set_cons_zero, List.set_cons_succ]
  refine seqH_take (v := ?_) (Or.inl ⟨by rfl, ?_⟩) ?_
  rotate_left
  · (intro w hSw; go_simp; first | done | with_reducible rfl)
  try simp only [Act.put, List.setIfInBounds_toArray, List.set_cons_zero, List.set_cons_succ]
  refine seqH_take (v := ?_) (Or.inl ⟨by rfl, ?_⟩) ?_
  rotate_left
  · (intro w hSw; go_simp; first | done | with_reducible rfl)
  try simp only [Act.put, List.setIfInBounds_toArray, List.set_cons_zero, List.set_cons_succ]
  refine seqH_take (v := ?_) (Or.inl ⟨by rfl, ?_⟩) ?_
  rotate_left
  · (intro w hSw; go_simp; first | done | with_reducible rfl)
  try simp only [Act.put, List.setIfInBounds_toArray, List.set_cons_zero, List.set_cons_succ]
  refine seqH_take (v := ?_) (Or.inl ⟨by rfl, ?_⟩) ?_
  rotate_left
  · (intro w hSw; go_simp; first | done | with_reducible rfl)
  try simp only [Act.put, List.setIfInBounds_toArray, List.set_cons_zero, List.set_cons_succ]
  refine seqH_take (v := ?_) (Or.inl ⟨by rfl, ?_⟩) ?_
  rotate_left
  · (intro w hSw; go_simp; first | done | with_reducible rfl)
  try simp only [Act.put, List.setIfInBounds_toArray, List.set_cons_zero, List.set_cons_succ]
  refine seqH_take (v := ?_) (Or.inl ⟨by rfl, ?_⟩) ?_
  rotate_left
  · (intro w hSw; go_simp; first | done | with_reducible rfl)
  try simp only [Act.put, List.setIfInBounds_toArray, List.set_cons_zero, List.set_cons_succ]
  refine seqH_take (v := ?_) (Or.inl ⟨by rfl, ?_⟩) ?_
  rotate_left
  · (intro w hSw; go_simp; first | done | with_reducible rfl)
  try simp only [Act.put, List.setIfInBounds_toArray, List.set_cons_zero, List.set_cons_succ]
  refine seqH_take (v := ?_) (Or.inl ⟨by rfl, ?_⟩) ?_
  rotate_left
  · (intro w hSw; go_simp; first | done | with_reducible rfl)
  try simp only [Act.put, List.setIfInBounds_toArray, List.set_cons_zero, List.set_cons_succ]
  refine seqH_nil (NoPanic.normal ?_)
  go_wp2
  go_ret
  exact ⟨rfl, below_keep HB1.out hHeld⟩

/-! ### ChachaBlocks -/
set_option maxRecDepth 100000 in
set_option maxHeartbeats 1000000 in
theorem chachaBlocks_walk {w : World} (key : Nat → BitVec 8) (n : Int) (hn : (Lit.int .i64 n).wf = true) (nonce : Nat → BitVec 8) :
    Calls Try.prog 3 #[.agg (rowB 32 key), .int .i64 n, .agg (rowB 12 nonce)] w fun e w' => e = .returned (.bool true) ∧ Below w.heap.size w w' := by
  have heq := eqlSig
  have hself := eqS_self
  have hb1 := block_any key nonce n
  have hb2 := refBlock_any key nonce n
  generalize blockC key (BitVec.ofInt 32 n) nonce = B at *
  have HBL := Lib.hid hb1
  have HBR := Lib.hid hb2
  clear hn hb1 hb2
  go_enter Try.func3, Try.ntmps3
  go_wp2_with (go_at_call 11; refine (alive9_any _).mono ?_; rintro e w1 ⟨rfl, hb1⟩)
  have HB1 := Lib.hid (below_keep (below_allocS (below_allocS (Below.refl w.heap.size w) (.cells (rowB 32 key) 23)) (.cells (rowB 12 nonce) 25)) hb1)
  have HK := Lib.hid (show w1.heap[w.heap.size]? = some (.cells (rowB 32 key) 23 (0, 0)) from (hb1.block _ (by simp; omega)).trans ((Below.heap_alloc _ _ _ (by simp)).trans (heap_alloc_new _ _)))
  have HN := Lib.hid (show w1.heap[w.heap.size + 1]? = some (.cells (rowB 12 nonce) 25 (0, 0)) from by
    refine (hb1.block _ (by simp)).trans ?_
    have := heap_alloc_new (w.alloc (.cells (rowB 32 key) 23)) (.cells (rowB 12 nonce) 25)
    simpa using this)
  clear hb1
  have hrk := range_row HK.out
  have hrn := range_row HN.out
  have hik := sizeK key
  have hin := sizeN nonce
  have huk := Try.underlying23
  have hun := Try.underlying25
  try simp only [Act.put, List.setIfInBounds_toArray, List.set_cons_zero, List.set_cons_succ]
  refine wp_region_plan (S := fun w' => Below w1.heap.size w1 w') [0, 1, 2, 3, 4, 6, 7, 8, 5, 9, 10, 11, 12] [true, true, true, true, true, true, true, true, false, false, true, true, true] (by kernel_rfl) (by kernel_rfl) (Below.refl _ _).drew (fun hHeld => ?_)
  simp only [List.filterMap_cons, List.filterMap_nil, List.getElem?_toArray, List.getElem?_cons_zero, List.getElem?_cons_succ]
  refine seqH_take (v := ?_) (Or.inl ⟨by rfl, ?_⟩) ?_
  rotate_left
  · (intro w hSw; go_simp; first | done | with_reducible rfl)
  try simp only [Act.put, List.setIfInBounds_toArray, List.set_cons_zero, List.set_cons_succ]
  refine seqH_take (v := ?_) (Or.inl ⟨by rfl, ?_⟩) ?_
  rotate_left
  · (intro w hSw; go_simp; first | done | with_reducible rfl)
  try simp only [Act.put, List.setIfInBounds_toArray, List.set_cons_zero, List.set_cons_succ]
  refine seqH_take (yieldsIf_load_mid (by rfl) _ _ rfl _ _ rfl _ _ (fun w hw => hrk w hw) huk rfl hik) ?_
  try simp only [Act.put, List.setIfInBounds_toArray, List.set_cons_zero, List.set_cons_succ, rowB_back]
  refine seqH_take (v := ?_) (Or.inl ⟨by rfl, ?_⟩) ?_
  rotate_left
  · (intro w hSw; go_simp; first | done | with_reducible rfl)
  try simp only [Act.put, List.setIfInBounds_toArray, List.set_cons_zero, List.set_cons_succ]
  refine seqH_take (yieldsIf_load_mid (by rfl) _ _ rfl _ _ rfl _ _ (fun w hw => hrn w hw) hun rfl hin) ?_
  try simp only [Act.put, List.setIfInBounds_toArray, List.set_cons_zero, List.set_cons_succ, rowB_back]
  refine seqH_take (yieldsIf_load_mid (by rfl) _ _ rfl _ _ rfl _ _ (fun w hw => hrk w hw) huk rfl hik) ?_
  try simp only [Act.put, List.setIfInBounds_toArray, List.set_cons_zero, List.set_cons_succ, rowB_back]
  refine seqH_take (v := ?_) (Or.inl ⟨by rfl, ?_⟩) ?_
  rotate_left
  · (intro w hSw; go_simp; first | done | with_reducible rfl)
  try simp only [Act.put, List.setIfInBounds_toArray, List.set_cons_zero, List.set_cons_succ]
  refine seqH_take (yieldsIf_load_mid (by rfl) _ _ rfl _ _ rfl _ _ (fun w hw => hrn w hw) hun rfl hin) ?_
  try simp only [Act.put, List.setIfInBounds_toArray, List.set_cons_zero, List.set_cons_succ, rowB_back]
  refine seqH_go (fun K hK => ?_)
  rw [if_pos (by rfl)]
  go_simp
  refine (HBL.out _).mono ?_; rintro e w4 ⟨rfl, hbc⟩
  try dsimp only
  refine hK.out _ _ (below_keep hHeld hbc) (fun hHeld2 => ?_)
  clear hK K hHeld
  have hHeld := hHeld2
  clear hHeld2
  try simp only [Act.put, List.setIfInBounds_toArray, List.set_cons_zero, List.set_cons_succ]
  refine seqH_go (fun K hK => ?_)
  rw [if_pos (by rfl)]
  go_simp
  refine (HBR.out _).mono ?_; rintro e w5 ⟨rfl, hbc⟩
  try dsimp only
  refine hK.out _ _ (below_keep hHeld hbc) (fun hHeld2 => ?_)
  clear hK K hHeld
  have hHeld := hHeld2
  clear hHeld2
  try simp only [Act.put, List.setIfInBounds_toArray, List.set_cons_zero, List.set_cons_succ]
  refine seqH_take (yieldsIf_sameSig (by rfl) _ _ rfl B rfl rfl) ?_
  try simp only [Act.put, List.setIfInBounds_toArray, List.set_cons_zero, List.set_cons_succ]
  refine seqH_take (v := ?_) (Or.inl ⟨by rfl, ?_⟩) ?_
  rotate_left
  · (intro w hSw; go_simp; first | done | with_reducible rfl)
  try simp only [Act.put, List.setIfInBounds_toArray, List.set_cons_zero, List.set_cons_succ]
  refine seqH_take (v := ?_) (Or.inl ⟨by rfl, ?_⟩) ?_
  rotate_left
  · (intro w hSw; go_simp; first | done | with_reducible rfl)
  try simp only [Act.put, List.setIfInBounds_toArray, List.set_cons_zero, List.set_cons_succ]
  refine seqH_nil (NoPanic.normal ?_)
  go_wp2
  go_ret
  exact ⟨rfl, below_keep HB1.out hHeld⟩

end Go.Proofs.Ytdcndfcdjlpecaa
