/-
  The walk of Check (package merkle).
-/
import Derived.Test.YtnnllficjljjkaaMerkP
import Derived.WalkMore
namespace Go.Proofs.Ytnnllficjljjkaa
open Go.RowKit
set_option linter.unusedVariables false
set_option linter.unusedSimpArgs false

theorem climb_zero (i : Nat) (h : Nat → Byte) (p : List (Nat → Byte)) : climb 0 i h p = if p = [] then some h else none := by rw [climb.eq_def, dif_pos rfl]
theorem climb_up2 {last i : Nat} (h : Nat → Byte) (p : List (Nat → Byte)) (hl : last ≠ 0) (hc : i % 2 = 0 ∧ i = last) : climb last i h p = climb (last / 2) (i / 2) h p := by rw [climb.eq_def, dif_neg hl, if_pos hc]
theorem climb_nil {last i : Nat} (h : Nat → Byte) (hl : last ≠ 0) (hc : ¬ (i % 2 = 0 ∧ i = last)) : climb last i h [] = none := by rw [climb.eq_def, dif_neg hl, if_neg hc]
theorem climb_cons {last i : Nat} (h o : Nat → Byte) (p : List (Nat → Byte)) (hl : last ≠ 0) (hc : ¬ (i % 2 = 0 ∧ i = last)) : climb last i h (o :: p) = climb (last / 2) (i / 2) (if i % 2 = 1 then nodeS o h else nodeS h o) p := by rw [climb.eq_def, dif_neg hl, if_neg hc]

def cutN32 (A : Option Addr) (c i : Nat) : Option Addr := if c = i then A else A.map (·.add (i * 32))
theorem slice_loN {A : Option Addr} {n c i : Nat} (h1 : i ≤ n) (w : World) : (Instr.sliceAt 33 (.slice A n c) (some (.int .i64 i)) none none).run Try.prog w = .ok (.slice (cutN32 A c i) (n - i) (c - i)) w := by
  rw [run_sliceAt_slice _ _ _ _ _ _ elem_N, run_slice_l _ _ _ _ _ elem_N _ _ (by omega) (by omega), size_N]
  rfl
theorem NRow.tail {w : World} {A : Option Addr} {n c : Nat} {o : Nat → BitVec 8} {l : List (Nat → BitVec 8)} (h : NRow w (.slice A n c) (o :: l)) (hc : n ≤ c) : NRow w (.slice (cutN32 A c 1) (n - 1) (c - 1)) l := by
  obtain ⟨a, c', e, hn, hp⟩ := h
  cases e
  obtain ⟨b, off, rfl, hb, hcell⟩ := hp (by simp)
  refine ⟨cutN32 (some ⟨b, off, none⟩) c 1, c - 1, by simp, fun hz => ?_, fun h0 => ?_⟩
  · unfold cutN32 at hz; split at hz <;> cases hz
  · refine ⟨b, off + 32, ?_, hb, fun i hi j hj => ?_⟩
    · unfold cutN32
      have : ¬ c = 1 := by simp at hc; omega
      rw [if_neg this]
      show some ((⟨b, off, none⟩ : Addr).add (1 * 32)) = _
      rw [add_spot rfl]
    · have := hcell (i + 1) (by simpa using hi) j hj
      rw [show off + (i + 1) * 32 + j = off + 32 + i * 32 + j by omega] at this
      simpa using this
theorem NRow.range1 {w : World} {A : Option Addr} {n c : Nat} {o : Nat → BitVec 8} {l : List (Nat → BitVec 8)} (h : NRow w (.slice A n c) (o :: l)) : ∃ b off, A = some ⟨b, off, none⟩ ∧ b < w.heap.size ∧ w.rangeAt b off (rowB 32 o).toList := by
  obtain ⟨a, c', e, hn, hp⟩ := h
  cases e
  obtain ⟨b, off, rfl, hb, hcell⟩ := hp (by simp)
  refine ⟨b, off, rfl, hb, fun j v hv => ?_⟩
  rw [rowB_toList] at hv
  have hj : j < 32 := by
    rcases Nat.lt_or_ge j 32 with h | h
    · exact h
    · rw [List.getElem?_eq_none (by simpa using h)] at hv; cases hv
  have h1 := hcell 0 (by simp) j hj
  simp only [Nat.zero_mul, Nat.add_zero, List.getElem_cons_zero] at h1
  rw [h1]
  simpa [hj] using hv

def ansS (root : Nat → BitVec 8) (R : Option (Nat → BitVec 8)) : Bool := match R with
  | some h => eqB h root
  | none => false
/-- What Check answers. -/
def checkS (root : Nat → BitVec 8) (n i : Int) (b : List (BitVec 8)) (p : List (Nat → BitVec 8)) : Bool :=
  if n > 1048576 ∨ i < 0 ∨ n ≤ i then false else ansS root (climb (n.toNat - 1) i.toNat (leafS b) p)

set_option maxHeartbeats 1000000 in
theorem check_out (f : Nat → BitVec 8) (n i : Int) (v4 : Value) (a : Option Addr) (k c : Nat) (w : World) (h : n > 1048576 ∨ i < 0 ∨ n ≤ i) :
    Calls Try.prog 15 #[.agg (rowB 32 f), .int .i64 n, .int .i64 i, .slice a k c, v4] w fun e w' => e = .returned (.bool false) ∧ Below w.heap.size w w' := by
  have HB1 := Lib.hid (show Below w.heap.size w (w.alloc (.cells (rowB 32 f) 25)) from below_allocS (Below.refl _ _) _)
  by_cases h1 : n > 1048576
  · clear h
    go_enter Try.func15, Try.ntmps15
    go_wp2
    refine wp_scope_from 0 (fun _ _ => False) (fun _ _ => 0) rfl (fun _ _ h => h.elim) ?_
    intro _
    go_wp2_with fail
    simp only [Exit.jump]
    go_ret
    exact ⟨rfl, HB1.out⟩
  · by_cases h2 : i < 0
    · clear h
      go_enter Try.func15, Try.ntmps15
      go_wp2
      refine wp_scope_from 0 (fun _ _ => False) (fun _ _ => 0) rfl (fun _ _ h => h.elim) ?_
      intro _
      go_wp2_with fail
      simp only [Exit.jump]
      go_ret
      exact ⟨rfl, HB1.out⟩
    · have h3 : n ≤ i := by omega
      clear h
      go_enter Try.func15, Try.ntmps15
      go_wp2
      refine wp_scope_from 0 (fun _ _ => False) (fun _ _ => 0) rfl (fun _ _ h => h.elim) ?_
      intro _
      go_wp2_with fail
      simp only [Exit.jump]
      go_ret
      exact ⟨rfl, HB1.out⟩

/-- A whole row is loaded by an operation whose guard holds. -/
theorem wpList_taken_load {ops : Array Oper} {rest : List Oper} {o : Oper} {a : Act} {w : World} {Q : Exit → Act → World → Prop} (hw : Region.wanted o (yielded ops a.tmps) = true) (x : Operand) (ho : o.op = .load 25 x)
    (g : Nat) (hx : a.eval x = .pointer (some ⟨g, 0, none⟩)) (t : TypeId) (f : Nat → BitVec 8) (hg : w.heap[g]? = some (.cells (rowB 32 f) t (0, 0)))
    (h : wpList Try.prog ops Q rest (a.put o.dst (.agg (rowB 32 f))) w) : wpList Try.prog ops Q (o :: rest) a w :=
  wpList_step fun K hK => by
    rw [if_pos hw]
    exact wp_load_row 25 x ho g hx t (rowB 32 f) (0, 0) _ hg Try.underlying25 rfl (by rw [size32, rowB_size]) (hK _ _ h)

/-- The state at the label. -/
def CheckAt (root : Nat → BitVec 8) (n : Nat) (a : Option Addr) (b : List (BitVec 8)) (cb gr : Nat) (R : Option (Nat → BitVec 8)) (w : World) (av : Act) (wr : World) : Prop :=
  ∃ (gh last i P c : Nat) (A : Option Addr) (h : Nat → BitVec 8) (ps : List (Nat → BitVec 8)) (u : Nat → Value), w.heap.size ≤ gh ∧ gr ≠ gh ∧ last ≤ 1048576 ∧ i ≤ last ∧ climb last i h ps = R ∧ P = ps.length ∧ P ≤ c ∧ NRow w (.slice A P c) ps ∧
    av = { tmps := #[.agg (rowB 32 root), .int .i64 (n : Int), .int .i64 (i : Int), .slice a b.length cb, .slice A P c, .pointer (some ⟨gr, 0, none⟩), undef, undef, undef, undef, .bool false, .pointer (some ⟨gh, 0, none⟩), .int .i64 (last : Int), u 13, u 14, u 15, u 16, u 17, u 18, u 19, u 20, u 21, u 22, u 23, u 24, u 25, u 26, u 27, u 28, u 29, u 30, u 31, u 32, u 33, u 34, u 35, u 36, u 37, u 38, u 39, u 40, u 41, u 42, u 43, u 44, u 45, u 46, u 47, u 48, u 49, u 50, u 51, u 52, u 53, u 54, u 55, u 56, u 57, u 58, u 59, u 60, u 61, u 62, u 63, u 64, u 65, u 66, u 67, u 68, u 69, u 70, u 71], defers := [] } ∧
    wr.heap[gr]? = some (.cells (rowB 32 root) 25 (0, 0)) ∧ wr.heap[gh]? = some (.cells (rowB 32 h) 25 (0, 0)) ∧ Below w.heap.size w wr

theorem checkAt_mk {root : Nat → BitVec 8} {n : Nat} {a : Option Addr} {b : List (BitVec 8)} {cb gr : Nat} {R : Option (Nat → BitVec 8)} {w : World} {av : Act} {wr : World} (gh last i P c : Nat) (A : Option Addr) (h : Nat → BitVec 8) (ps : List (Nat → BitVec 8))
    (h1 : w.heap.size ≤ gh) (h2 : gr ≠ gh) (h3 : last ≤ 1048576) (h4 : i ≤ last) (h5 : climb last i h ps = R) (h6 : P = ps.length) (h7 : P ≤ c) (h8 : NRow w (.slice A P c) ps)
    (hav : av = { tmps := #[.agg (rowB 32 root), .int .i64 (n : Int), .int .i64 (i : Int), .slice a b.length cb, .slice A P c, .pointer (some ⟨gr, 0, none⟩), undef, undef, undef, undef, .bool false, .pointer (some ⟨gh, 0, none⟩), .int .i64 (last : Int), av.tmps.getD 13 undef, av.tmps.getD 14 undef, av.tmps.getD 15 undef, av.tmps.getD 16 undef, av.tmps.getD 17 undef, av.tmps.getD 18 undef, av.tmps.getD 19 undef, av.tmps.getD 20 undef, av.tmps.getD 21 undef, av.tmps.getD 22 undef, av.tmps.getD 23 undef, av.tmps.getD 24 undef, av.tmps.getD 25 undef, av.tmps.getD 26 undef, av.tmps.getD 27 undef, av.tmps.getD 28 undef, av.tmps.getD 29 undef, av.tmps.getD 30 undef, av.tmps.getD 31 undef, av.tmps.getD 32 undef, av.tmps.getD 33 undef, av.tmps.getD 34 undef, av.tmps.getD 35 undef, av.tmps.getD 36 undef, av.tmps.getD 37 undef, av.tmps.getD 38 undef, av.tmps.getD 39 undef, av.tmps.getD 40 undef, av.tmps.getD 41 undef, av.tmps.getD 42 undef, av.tmps.getD 43 undef, av.tmps.getD 44 undef, av.tmps.getD 45 undef, av.tmps.getD 46 undef, av.tmps.getD 47 undef, av.tmps.getD 48 undef, av.tmps.getD 49 undef, av.tmps.getD 50 undef, av.tmps.getD 51 undef, av.tmps.getD 52 undef, av.tmps.getD 53 undef, av.tmps.getD 54 undef, av.tmps.getD 55 undef, av.tmps.getD 56 undef, av.tmps.getD 57 undef, av.tmps.getD 58 undef, av.tmps.getD 59 undef, av.tmps.getD 60 undef, av.tmps.getD 61 undef, av.tmps.getD 62 undef, av.tmps.getD 63 undef, av.tmps.getD 64 undef, av.tmps.getD 65 undef, av.tmps.getD 66 undef, av.tmps.getD 67 undef, av.tmps.getD 68 undef, av.tmps.getD 69 undef, av.tmps.getD 70 undef, av.tmps.getD 71 undef], defers := [] })
    (h9 : wr.heap[gr]? = some (.cells (rowB 32 root) 25 (0, 0))) (h10 : wr.heap[gh]? = some (.cells (rowB 32 h) 25 (0, 0))) (h11 : Below w.heap.size w wr) : CheckAt root n a b cb gr R w av wr :=
  ⟨gh, last, i, P, c, A, h, ps, fun k => av.tmps.getD k undef, h1, h2, h3, h4, h5, h6, h7, h8, hav, h9, h10, h11⟩

set_option maxRecDepth 100000 in
set_option maxHeartbeats 4000000 in
theorem check_in (root : Nat → BitVec 8) (n i0 : Nat) (a A0 : Option Addr) (cb P0 c0 : Nat) (b : List (BitVec 8)) (p : List (Nat → BitVec 8)) (w : World) (hb : BRow w (.slice a b.length cb) b) (hbl : b.length ≤ 99999900) (hp : NRow w (.slice A0 P0 c0) p) (hP : P0 = p.length) (hc : P0 ≤ c0) (hn : n ≤ 1048576) (hi : i0 < n) (R : Option (Nat → BitVec 8)) (hR : climb (n - 1) i0 (leafS b) p = R) :
    Calls Try.prog 15 #[.agg (rowB 32 root), .int .i64 (n : Int), .int .i64 (i0 : Int), .slice a b.length cb, .slice A0 P0 c0] w fun e w' => e = .returned (.bool (ansS root R)) ∧ Below w.heap.size w w' := by
  obtain ⟨rb, hrb⟩ : ∃ rb : Bool, rb = (ansS root R) := ⟨_, rfl⟩
  rw [← hrb]
  have HRB := Lib.hid hrb
  have HB := Lib.hid hb
  have HP := Lib.hid hp
  have HPL := Lib.hid hP
  have HC := Lib.hid hc
  have HR := Lib.hid hR
  have hn1 : (n : Int) ≤ 1048576 := by omega
  have hi0 : (0 : Int) ≤ (i0 : Int) := by omega
  have hi1 : (i0 : Int) < (n : Int) := by omega
  have HLF := Lib.hid (fun w hb => leaf_any (.slice a b.length cb) b w hb (by omega))
  have HBA := Lib.hid (show Below w.heap.size w (w.alloc (.cells (rowB 32 root) 25)) from below_allocS (Below.refl _ _) _)
  have HGA := Lib.hid (show (w.alloc (.cells (rowB 32 root) 25)).heap[w.heap.size]? = some (.cells (rowB 32 root) 25 (0, 0)) from heap_alloc_new _ _)
  clear hb hp hP hc hR hrb
  go_enter Try.func15, Try.ntmps15
  go_wp2
  refine wp_scope_from 0 (CheckAt root n a b cb w.heap.size R w) (fun a' _ => (intOf (a'.tmps.getD 12 undef)).toNat) rfl ?_ ?_
  · rintro a' wr ⟨gh, last, i, P, c, A, h, ps, u, hgh, hne, hl, hil, hcl, hP, hPc, hnr, rfl, hgr, hhg, hbw⟩
    have HGR := Lib.hid hgr
    have HHG := Lib.hid hhg
    have HBW := Lib.hid hbw
    have HPS := Lib.hid hP
    have HPC := Lib.hid hPc
    have HNR := Lib.hid hnr
    have HCL := Lib.hid hcl
    have hl0 : (0 : Int) ≤ (last : Int) := by omega
    have hi0' : (0 : Int) ≤ (i : Int) := by omega
    have hl1 : (last : Int) ≤ 1048576 := by omega
    have hi1' : (i : Int) ≤ (last : Int) := by omega
    have HZR := Lib.hid (show (Try.prog.info? 25).map (·.size) = some (rowB 32 root).size by rw [size32, rowB_size])
    have HZH := Lib.hid (show (Try.prog.info? 25).map (·.size) = some (rowB 32 h).size by rw [size32, rowB_size])
    clear hgr hhg hbw hP hPc hnr hcl
    by_cases hl00 : last = 0
    · subst hl00
      obtain rfl : i = 0 := by omega
      by_cases hP0 : P = 0
      · subst hP0
        have hps : ps = [] := List.eq_nil_of_length_eq_zero HPS.out.symm
        have heq : eqB h root = rb := by
          rw [HRB.out, ← HCL.out, hps, climb_zero, if_pos rfl]; rfl
        have HEQ := Lib.hid heq
        have hel := eqlNum
        clear hps heq
        go_wp2_with (first
          | ((with_reducible show wpList _ _ _ (⟨some 34, .load 25 _, _, _, _, _⟩ :: _) _ _); refine wpList_taken_load (by rfl) _ rfl gh rfl 25 h HHG.out ?_)
          | ((with_reducible show wpList _ _ _ (⟨some 35, .load 25 _, _, _, _, _⟩ :: _) _ _); refine wpList_taken_load (by rfl) _ rfl w.heap.size rfl 25 root HGR.out ?_))
        rw [HEQ.out]
        simp only [Exit.jump]
        go_ret
        exact ⟨rfl, HBW.out⟩
      · have hps : ps ≠ [] := fun e => hP0 (by rw [HPS.out, e]; rfl)
        have hrf : rb = false := by rw [HRB.out, ← HCL.out, climb_zero, if_neg hps]; rfl
        have HRF := Lib.hid hrf
        have hP1 : ¬ ((P : Int) = 0) := by omega
        clear hps hrf
        go_wp2_with fail
        simp only [Exit.jump]
        go_ret
        exact ⟨by rw [HRF.out]; rfl, HBW.out⟩
    · have hl01 : ¬ ((last : Int) = 0) := by omega
      by_cases hup : i % 2 = 0 ∧ i = last
      · obtain ⟨hu1, hu2⟩ := hup
        have hcl2 := climb_up2 h ps hl00 ⟨hu1, hu2⟩
        rw [HCL.out] at hcl2
        have HC2 := Lib.hid hcl2
        subst hu2
        have hm1 : (i : Int) % 2 = 0 := by omega
        clear hcl2
        go_wp2_with fail
        go_step3
        rw [show ((i : Int) / 2) = ((i / 2 : Nat) : Int) by omega]
        refine ⟨rfl, checkAt_mk gh (i / 2) (i / 2) P c A h ps hgh hne (by omega) (Nat.le_refl _) HC2.out.symm HPS.out HPC.out HNR.out rfl HGR.out HHG.out HBW.out, ?_⟩
        simp [intOf]
        omega
      · have hup1 : ¬ ((i : Int) % 2 = 0 ∧ (i : Int) = (last : Int)) := by omega
        by_cases hP0 : P = 0
        · subst hP0
          have hps : ps = [] := List.eq_nil_of_length_eq_zero HPS.out.symm
          have hrf : rb = false := by rw [HRB.out, ← HCL.out, hps, climb_nil h hl00 hup]; rfl
          have HRF := Lib.hid hrf
          clear hps hrf
          have hcase : ((i : Int) % 2 = 0 ∧ ¬ (i : Int) = (last : Int)) ∨ (i : Int) % 2 = 1 := by omega
          rcases hcase with ⟨hm1, hm2⟩ | hm1
          · go_wp2_with fail
            simp only [Exit.jump]
            go_ret
            exact ⟨by rw [HRF.out]; rfl, HBW.out⟩
          · go_wp2_with fail
            simp only [Exit.jump]
            go_ret
            exact ⟨by rw [HRF.out]; rfl, HBW.out⟩
        · obtain ⟨o, q, rfl⟩ : ∃ o q, ps = o :: q := by
            cases ps with
            | nil => exact absurd HPS.out hP0
            | cons o q => exact ⟨o, q, rfl⟩
          have hP1 : ¬ ((P : Int) = 0) := by omega
          have hP2 : (0 : Int) < (P : Int) := by omega
          have hP3 : 0 < P := by omega
          obtain ⟨pb, off, rfl, hpb, hrp⟩ := HNR.out.range1
          have hlgh := (Array.getElem?_eq_some_iff.1 HHG.out).1
          have hrg : ∀ w', wr.grownBy w' (some gh) → w'.rangeAt pb off (rowB 32 o).toList := fun w' hg j v hv =>
            ((HBW.out.grown hg HBW.out.size (fun k hk => by cases hk; exact hgh)).cell (p := ⟨pb, off + j, none⟩) hpb).trans (hrp j v hv)
          have hu := Try.underlying25
          have hi : (Try.prog.info? 25).map (·.size) = some (rowB 32 o).toList.length := by rw [size32]; simp [rowB_size]
          have hsl : ∀ w, (Instr.sliceAt 33 (.slice (some ⟨pb, off, none⟩) P c) (some (.int .i64 1)) none none).run Try.prog w = .ok (.slice (cutN32 (some ⟨pb, off, none⟩) c 1) (P - 1) (c - 1)) w := slice_loN (i := 1) (by omega)
          clear hrp
          by_cases hodd : i % 2 = 1
          · obtain ⟨h2, hh2⟩ : ∃ f, f = nodeS o h := ⟨_, rfl⟩
            have hcl2 := climb_cons (last := last) (i := i) h o q hl00 hup
            rw [if_pos hodd, ← hh2, HCL.out] at hcl2
            have HC2 := Lib.hid hcl2
            have HND := Lib.hid (show ∀ w, Calls Try.prog 23 #[.agg (rowB 32 o), .agg (rowB 32 h)] w fun e w' => e = .returned (.agg (rowB 32 h2)) ∧ Below w.heap.size w w' from fun w => by rw [hh2]; exact node_any o h w)
            have hm1 : (i : Int) % 2 = 1 := by omega
            clear hcl2 hh2
            go_wp2_with fail
            refine wp_region_plan (S := fun w' => wr.grownBy w' (some gh)) [0, 1, 2, 3, 4, 5] [true, true, true, false, false, false] (by kernel_rfl) (by kernel_rfl) (grown_drew (grown_refl _ _)) (fun _ => ?_)
            simp only [List.filterMap_cons, List.filterMap_nil, List.getElem?_toArray, List.getElem?_cons_zero, List.getElem?_cons_succ]
            refine seqH_take (v := ?_) (Or.inl ⟨by rfl, ?_⟩) ?_
            rotate_left
            · (intro w hSw; go_simp; first | done | with_reducible rfl)
            try simp only [Act.put, List.setIfInBounds_toArray, List.set_cons_zero, List.set_cons_succ]
            refine seqH_take (v := ?_) (Or.inl ⟨by rfl, ?_⟩) ?_
            rotate_left
            · (intro w hSw; go_simp; first | done | with_reducible rfl)
            try simp only [Act.put, List.setIfInBounds_toArray, List.set_cons_zero, List.set_cons_succ]
            refine seqH_take (yieldsIf_load_mid (by rfl) _ _ rfl _ _ rfl _ _ (fun w hw => hrg w hw) hu rfl hi) ?_
            try simp only [Act.put, List.setIfInBounds_toArray, List.set_cons_zero, List.set_cons_succ, rowB_back]
            refine seqH_go (fun K hK => ?_)
            rw [if_pos (by rfl)]
            refine wp_load_row 25 (.tmp 11) rfl gh rfl 25 (rowB 32 h) (0, 0) _ HHG.out Try.underlying25 rfl HZH.out ?_
            refine hK.out _ _ (grown_drew (grown_refl _ _)) (fun _ => ?_)
            clear hK K
            try simp only [Act.put, List.setIfInBounds_toArray, List.set_cons_zero, List.set_cons_succ]
            refine seqH_go (fun K hK => ?_)
            rw [if_pos (by rfl)]
            go_simp
            refine (HND.out _).mono ?_; rintro e w4 ⟨rfl, hb4⟩; have hg4 : wr.grownBy w4 (some gh) := grown_trans (grown_drew (grown_refl _ _)) (grown_of_below hb4)
            try dsimp only
            refine hK.out _ _ (hg4) (fun _ => ?_)
            clear hK K
            try simp only [Act.put, List.setIfInBounds_toArray, List.set_cons_zero, List.set_cons_succ]
            refine seqH_go (fun K hK => ?_)
            rw [if_pos (by rfl)]
            refine wpm_store (.tmp 11) (.tmp 60) rfl gh h2 rfl rfl 25 _ ((hb4.block gh hlgh).trans HHG.out) ?_; intro w5 h5 hg5
            refine hK.out _ _ (grown_trans hg4 hg5) (fun _ => ?_)
            clear hK K
            try simp only [Act.put, List.setIfInBounds_toArray, List.set_cons_zero, List.set_cons_succ]
            refine seqH_nil (NoPanic.normal ?_)
            have hg05 : wr.grownBy w5 (some gh) := grown_trans hg4 hg5
            have HH5 := Lib.hid h5
            have HB5 := Lib.hid (HBW.out.grown hg05 HBW.out.size (fun k hk => by cases hk; exact hgh))
            have HR5 := Lib.hid ((hg05.block _ (Array.getElem?_eq_some_iff.1 HGR.out).1 (by intro e; injection e with e; exact hne e)).trans HGR.out)
            clear hb4 hg4 hg5 hg05 h5 hrg hi hu
            go_wp2_with fail
            go_step3
            rw [show ((i : Int) / 2) = ((i / 2 : Nat) : Int) by omega, show ((last : Int) / 2) = ((last / 2 : Nat) : Int) by omega]
            refine ⟨rfl, checkAt_mk gh (last / 2) (i / 2) (P - 1) (c - 1) _ h2 q hgh hne (by omega) (by omega) HC2.out.symm (by have := HPS.out; simp at this; omega) (by have := HPC.out; omega) (HNR.out.tail HPC.out) rfl HR5.out HH5.out HB5.out, ?_⟩
            simp [intOf]
            omega
          · have hne2 : ¬ (i : Int) = (last : Int) := by omega
            obtain ⟨h2, hh2⟩ : ∃ f, f = nodeS h o := ⟨_, rfl⟩
            have hcl2 := climb_cons (last := last) (i := i) h o q hl00 hup
            rw [if_neg hodd, ← hh2, HCL.out] at hcl2
            have HC2 := Lib.hid hcl2
            have HND := Lib.hid (show ∀ w, Calls Try.prog 23 #[.agg (rowB 32 h), .agg (rowB 32 o)] w fun e w' => e = .returned (.agg (rowB 32 h2)) ∧ Below w.heap.size w w' from fun w => by rw [hh2]; exact node_any h o w)
            have hm1 : (i : Int) % 2 = 0 := by omega
            clear hcl2 hh2
            go_wp2_with fail
            refine wp_region_plan (S := fun w' => wr.grownBy w' (some gh)) [1, 2, 3, 0, 4, 5] [true, true, true, false, false, false] (by kernel_rfl) (by kernel_rfl) (grown_drew (grown_refl _ _)) (fun _ => ?_)
            simp only [List.filterMap_cons, List.filterMap_nil, List.getElem?_toArray, List.getElem?_cons_zero, List.getElem?_cons_succ]
            refine seqH_take (v := ?_) (Or.inl ⟨by rfl, ?_⟩) ?_
            rotate_left
            · (intro w hSw; go_simp; first | done | with_reducible rfl)
            try simp only [Act.put, List.setIfInBounds_toArray, List.set_cons_zero, List.set_cons_succ]
            refine seqH_take (v := ?_) (Or.inl ⟨by rfl, ?_⟩) ?_
            rotate_left
            · (intro w hSw; go_simp; first | done | with_reducible rfl)
            try simp only [Act.put, List.setIfInBounds_toArray, List.set_cons_zero, List.set_cons_succ]
            refine seqH_take (yieldsIf_load_mid (by rfl) _ _ rfl _ _ rfl _ _ (fun w hw => hrg w hw) hu rfl hi) ?_
            try simp only [Act.put, List.setIfInBounds_toArray, List.set_cons_zero, List.set_cons_succ, rowB_back]
            refine seqH_go (fun K hK => ?_)
            rw [if_pos (by rfl)]
            refine wp_load_row 25 (.tmp 11) rfl gh rfl 25 (rowB 32 h) (0, 0) _ HHG.out Try.underlying25 rfl HZH.out ?_
            refine hK.out _ _ (grown_drew (grown_refl _ _)) (fun _ => ?_)
            clear hK K
            try simp only [Act.put, List.setIfInBounds_toArray, List.set_cons_zero, List.set_cons_succ]
            refine seqH_go (fun K hK => ?_)
            rw [if_pos (by rfl)]
            go_simp
            refine (HND.out _).mono ?_; rintro e w4 ⟨rfl, hb4⟩; have hg4 : wr.grownBy w4 (some gh) := grown_trans (grown_drew (grown_refl _ _)) (grown_of_below hb4)
            try dsimp only
            refine hK.out _ _ (hg4) (fun _ => ?_)
            clear hK K
            try simp only [Act.put, List.setIfInBounds_toArray, List.set_cons_zero, List.set_cons_succ]
            refine seqH_go (fun K hK => ?_)
            rw [if_pos (by rfl)]
            refine wpm_store (.tmp 11) (.tmp 65) rfl gh h2 rfl rfl 25 _ ((hb4.block gh hlgh).trans HHG.out) ?_; intro w5 h5 hg5
            refine hK.out _ _ (grown_trans hg4 hg5) (fun _ => ?_)
            clear hK K
            try simp only [Act.put, List.setIfInBounds_toArray, List.set_cons_zero, List.set_cons_succ]
            refine seqH_nil (NoPanic.normal ?_)
            have hg05 : wr.grownBy w5 (some gh) := grown_trans hg4 hg5
            have HH5 := Lib.hid h5
            have HB5 := Lib.hid (HBW.out.grown hg05 HBW.out.size (fun k hk => by cases hk; exact hgh))
            have HR5 := Lib.hid ((hg05.block _ (Array.getElem?_eq_some_iff.1 HGR.out).1 (by intro e; injection e with e; exact hne e)).trans HGR.out)
            clear hb4 hg4 hg5 hg05 h5 hrg hi hu
            go_wp2_with fail
            go_step3
            rw [show ((i : Int) / 2) = ((i / 2 : Nat) : Int) by omega, show ((last : Int) / 2) = ((last / 2 : Nat) : Int) by omega]
            refine ⟨rfl, checkAt_mk gh (last / 2) (i / 2) (P - 1) (c - 1) _ h2 q hgh hne (by omega) (by omega) HC2.out.symm (by have := HPS.out; simp at this; omega) (by have := HPC.out; omega) (HNR.out.tail HPC.out) rfl HR5.out HH5.out HB5.out, ?_⟩
            simp [intOf]
            omega
  · intro hrest
    have HREST := Lib.hid hrest
    have HBB := Lib.hid (HB.out.below HBA.out)
    have HZL := Lib.hid (show (Try.prog.info? 25).map (·.size) = some (rowB 32 (leafS b)).size by rw [size32, rowB_size])
    have hlw := (Array.getElem?_eq_some_iff.1 HGA.out).1
    clear hrest
    generalize w.alloc (.cells (rowB 32 root) 25) = w1 at *
    go_wp2_with (first
      | (go_at_call 21; refine (HLF.out _ HBB.out).mono ?_; rintro e w2 ⟨rfl, hb2⟩; have HB2 := Lib.hid (below_keep HBA.out hb2); have HG2 := Lib.hid ((hb2.block _ hlw).trans HGA.out); have hsz2 := hb2.size; clear hb2)
      | (with_reducible refine wpList_alloc_row rfl 25 rfl 32 _ info32 ?_)
      | ((with_reducible show wpList _ _ _ (⟨_, .store 25 _ _, _, _, _, _⟩ :: _) _ _); refine wpList_store_rowTo rfl 25 _ _ rfl rfl w2.heap.size (rowB 32 (leafS b)) rfl rfl 25 _ (heap_alloc_new _ _) HZL.out (by rw [row_size, rowB_size]) (rowB_oneCell _ _) ?_))
    go_step3
    go_step
    go_step
    have hcast : ((n : Int) - 1) = ((n - 1 : Nat) : Int) := by omega
    simp only [hcast]
    have HB3 := below_setRow (below_allocS HB2.out (.cells (row 32 fun _ => .int .u8 0) 25)) HB2.out.size (rowB 32 (leafS b))
    have hlt2 := (Array.getElem?_eq_some_iff.1 HG2.out).1
    exact HREST.out _ _ (checkAt_mk w2.heap.size (n - 1) i0 P0 c0 A0 (leafS b) p HB2.out.size (by omega) (by omega) (by omega) HR.out HPL.out HC.out HP.out rfl ((heap_setRow_far (by omega)).trans ((Below.heap_alloc _ _ _ hlt2).trans HG2.out)) (heap_setRow_at (heap_alloc_new _ _)) HB3)

theorem check_any (root : Nat → BitVec 8) (n i : Int) (a A0 : Option Addr) (cb P0 c0 : Nat) (b : List (BitVec 8)) (p : List (Nat → BitVec 8)) (w : World) (hb : BRow w (.slice a b.length cb) b) (hbl : b.length ≤ 99999900) (hp : NRow w (.slice A0 P0 c0) p) (hP : P0 = p.length) (hc : P0 ≤ c0) :
    Calls Try.prog 15 #[.agg (rowB 32 root), .int .i64 n, .int .i64 i, .slice a b.length cb, .slice A0 P0 c0] w fun e w' => e = .returned (.bool (checkS root n i b p)) ∧ Below w.heap.size w w' := by
  unfold checkS
  by_cases h : n > 1048576 ∨ i < 0 ∨ n ≤ i
  · rw [if_pos h]
    exact check_out root n i _ a _ cb w h
  · rw [if_neg h]
    have := check_in root n.toNat i.toNat a A0 cb P0 c0 b p w hb hbl hp hP hc (by omega) (by omega) _ rfl
    rw [show ((n.toNat : Nat) : Int) = n by omega, show ((i.toNat : Nat) : Int) = i by omega] at this
    exact this

end Go.Proofs.Ytnnllficjljjkaa
