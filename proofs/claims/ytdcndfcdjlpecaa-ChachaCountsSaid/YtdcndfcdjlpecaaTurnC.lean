/-
  The walks of Turn, of the program and of the document's own.
-/
import Derived.Test.YtdcndfcdjlpecaaRefBlock
import Derived.Test.YtdcndfcdjlpecaaMake
namespace Go.Proofs.Ytdcndfcdjlpecaa
open Go.RowKit
set_option linter.unusedVariables false
set_option linter.unusedSimpArgs false

/-- The stream's block at hand at the head of round k; the counter. -/
def sAt (key : Nat → BitVec 8) (c : BitVec 32) (nonce : Nat → BitVec 8) (k : Nat) : Nat → BitVec 8 := if k = 0 then fun _ => 0 else blockC key (c + BitVec.ofNat 32 ((k - 1) / 64)) nonce
def cAt (c : BitVec 32) (k : Nat) : BitVec 32 := c + BitVec.ofNat 32 ((k + 63) / 64)
theorem sAt_next (key : Nat → BitVec 8) (c : BitVec 32) (nonce : Nat → BitVec 8) (k : Nat) : sAt key c nonce (k + 1) = blockC key (c + BitVec.ofNat 32 (k / 64)) nonce := by unfold sAt; rw [if_neg (by omega)]; rfl
theorem sAt_stay (key : Nat → BitVec 8) (c : BitVec 32) (nonce : Nat → BitVec 8) {k : Nat} (h : k % 64 ≠ 0) : sAt key c nonce (k + 1) = sAt key c nonce k := by
  rw [sAt_next]; unfold sAt
  rw [if_neg (by intro e; subst e; exact h rfl), show (k - 1) / 64 = k / 64 by omega]
theorem cAt_here (c : BitVec 32) {k : Nat} (h : k % 64 = 0) : cAt c k = c + BitVec.ofNat 32 (k / 64) := by unfold cAt; rw [show (k + 63) / 64 = k / 64 by omega]
theorem cAt_next (c : BitVec 32) {k : Nat} (h : k % 64 = 0) : cAt c (k + 1) = cAt c k + 1 := by
  rw [cAt_here c h]; unfold cAt
  rw [show (k + 1 + 63) / 64 = k / 64 + 1 by omega, BitVec.add_assoc]
  congr 1
  apply BitVec.eq_of_toNat_eq
  simp [BitVec.toNat_add, BitVec.toNat_ofNat]
theorem cAt_stay (c : BitVec 32) {k : Nat} (h : k % 64 ≠ 0) : cAt c (k + 1) = cAt c k := by unfold cAt; rw [show (k + 1 + 63) / 64 = (k + 63) / 64 by omega]
/-- What has been turned. -/
def outT (key : Nat → BitVec 8) (c : BitVec 32) (nonce : Nat → BitVec 8) (l : List (BitVec 8)) (k : Nat) : Nat → BitVec 8 := fun i => if i < k then l.getD i 0 ^^^ strm key c nonce i else 0
theorem outT_step (key : Nat → BitVec 8) (c : BitVec 32) (nonce : Nat → BitVec 8) (l : List (BitVec 8)) (k : Nat) (h : k < l.length) : upd (outT key c nonce l k) k (l[k] ^^^ sAt key c nonce (k + 1) (k % 64)) = outT key c nonce l (k + 1) := by
  rw [sAt_next]
  funext i
  unfold upd outT
  by_cases e : i = k
  · subst e; simp [h, strm]
  · rw [if_neg e]
    by_cases hi : i < k
    · rw [if_pos hi, if_pos (by omega)]
    · rw [if_neg hi, if_neg (by omega)]
theorem outT_full (key : Nat → BitVec 8) (c : BitVec 32) (nonce : Nat → BitVec 8) (l : List (BitVec 8)) : (List.range l.length).map (outT key c nonce l l.length) = turnC key c nonce l := by
  apply List.ext_getElem
  · simp [turnC_length]
  · intro i h1 h2
    have hi : i < l.length := by simpa using h1
    simp [outT, turnC, hi]

theorem brow_row {w : World} {g n c : Nat} {f : Nat → BitVec 8} {t : TypeId} {fr : Nat × Nat} (h : w.heap[g]? = some (.cells (rowB n f) t fr)) : BRow w (.slice (some ⟨g, 0, none⟩) n c) ((List.range n).map f) :=
  ⟨_, c, by simp, (fun hc => by cases hc), fun _ => ⟨g, 0, rfl, (Array.getElem?_eq_some_iff.1 h).1, fun i hi => by
    have hi' : i < n := by simpa using hi
    rw [Nat.zero_add, cell_rowB h hi']
    simp⟩⟩

/-- The blocks of Turn. -/
structure TrnAt (w : World) (key nonce : Nat → BitVec 8) (n : Nat) (o s : Nat → BitVec 8) (wr : World) : Prop where
  hk : wr.heap[w.heap.size]? = some (.cells (rowB 32 key) 23 (0, 0))
  hn : wr.heap[w.heap.size + 1]? = some (.cells (rowB 12 nonce) 25 (0, 0))
  ho : wr.heap[w.heap.size + 2]? = some (.cells (rowB n o) 5 (0, 0))
  hs : wr.heap[w.heap.size + 3]? = some (.cells (rowB 64 s) 28 (0, 0))
  hb : Below w.heap.size w wr
theorem TrnAt.keep {w wr w' : World} {key nonce o s : Nat → BitVec 8} {n : Nat} (h : TrnAt w key nonce n o s wr) (hb : Below wr.heap.size wr w') : TrnAt w key nonce n o s w' :=
  ⟨(hb.block _ (Array.getElem?_eq_some_iff.1 h.hk).1).trans h.hk, (hb.block _ (Array.getElem?_eq_some_iff.1 h.hn).1).trans h.hn, (hb.block _ (Array.getElem?_eq_some_iff.1 h.ho).1).trans h.ho, (hb.block _ (Array.getElem?_eq_some_iff.1 h.hs).1).trans h.hs, below_keep h.hb hb⟩
theorem TrnAt.setS {w wr : World} {key nonce o s : Nat → BitVec 8} {n : Nat} (h : TrnAt w key nonce n o s wr) (s' : Nat → BitVec 8) : TrnAt w key nonce n o s' (wr.setRow (w.heap.size + 1 + 1 + 1) (rowB 64 s')) :=
  ⟨(heap_setRow_far (by omega)).trans h.hk, (heap_setRow_far (by omega)).trans h.hn, (heap_setRow_far (by omega)).trans h.ho, heap_setRow_at h.hs, below_setRow h.hb (by omega) _⟩
theorem TrnAt.setO {w wr : World} {key nonce o s : Nat → BitVec 8} {n : Nat} (h : TrnAt w key nonce n o s wr) {i : Nat} (x : BitVec 8) (hi : i < n) : TrnAt w key nonce n (upd o i x) s (wr.setCell ⟨w.heap.size + 1 + 1, i, none⟩ (.int .u8 (B8 x))) :=
  ⟨(heap_setCell_other _ _ _ _ (by simp; omega)).trans h.hk, (heap_setCell_other _ _ _ _ (by simp)).trans h.hn, heap_set_rowB _ h.ho hi, (heap_setCell_other _ _ _ _ (by simp)).trans h.hs, h.hb.setCell (by simp; omega) _⟩
theorem TrnAt.drew {w wr : World} {key nonce o s : Nat → BitVec 8} {n : Nat} (h : TrnAt w key nonce n o s wr) : TrnAt w key nonce n o s wr.drew := ⟨h.hk, h.hn, h.ho, h.hs, h.hb.drew⟩

set_option maxRecDepth 100000 in
set_option maxHeartbeats 2000000 in
theorem turn_any (key nonce : Nat → BitVec 8) (n : Int) (v : Value) (l : List (BitVec 8)) (w : World) (hv : BRow w v l) (hl : l.length ≤ 1000000000) :
    Calls Try.prog 14 #[.agg (rowB 32 key), .int .i64 n, .agg (rowB 12 nonce), v] w fun e w' => (∃ v', e = .returned v' ∧ BRow w' v' (turnC key (BitVec.ofInt 32 n) nonce l)) ∧ Below w.heap.size w w' := by
  have hcv := U_ofInt' n
  obtain ⟨a, c, rfl, hnil, hp⟩ := hv
  have HP := Lib.hid hp
  have HL := Lib.hid hl
  have hmk := make_B l.length hl
  clear hp hl hnil
  generalize BitVec.ofInt 32 n = c0 at *
  go_enter Try.func14, Try.ntmps14
  go_wp2_with (with_reducible refine wpList_alloc_row rfl 28 rfl 64 _ info64 ?_)
  have HA := Lib.hid (show TrnAt w key nonce l.length (outT key c0 nonce l 0) (sAt key c0 nonce 0) ((((w.alloc (.cells (rowB 32 key) 23)).alloc (.cells (rowB 12 nonce) 25)).alloc (.cells (rowB l.length fun _ => 0) 5)).alloc (.cells (row 64 fun _ => .int .u8 0) 28)) from by
    refine ⟨?_, ?_, ?_, ?_, below_allocS (below_allocS (below_allocS (below_allocS (Below.refl _ _) _) _) _) _⟩
    · refine (Below.heap_alloc _ _ _ (by simp; omega)).trans ((Below.heap_alloc _ _ _ (by simp; omega)).trans ((Below.heap_alloc _ _ _ (by simp)).trans (heap_alloc_new _ _)))
    · refine (Below.heap_alloc _ _ _ (by simp)).trans ((Below.heap_alloc _ _ _ (by simp)).trans ?_)
      have := heap_alloc_new (w.alloc (.cells (rowB 32 key) 23)) (.cells (rowB 12 nonce) 25)
      simpa using this
    · refine (Below.heap_alloc _ _ _ (by simp)).trans ?_
      have := heap_alloc_new ((w.alloc (.cells (rowB 32 key) 23)).alloc (.cells (rowB 12 nonce) 25)) (.cells (rowB l.length fun _ => 0) 5)
      have e : rowB l.length (outT key c0 nonce l 0) = rowB l.length fun _ => 0 := row_congr fun i _ => by simp [outT]
      rw [e]
      simpa using this
    · have := heap_alloc_new (((w.alloc (.cells (rowB 32 key) 23)).alloc (.cells (rowB 12 nonce) 25)).alloc (.cells (rowB l.length fun _ => 0) 5)) (.cells (row 64 fun _ => .int .u8 0) 28)
      have e : rowB 64 (sAt key c0 nonce 0) = row 64 fun _ => .int .u8 0 := rfl
      rw [e]
      simpa using this)
  generalize (((w.alloc (.cells (rowB 32 key) 23)).alloc (.cells (rowB 12 nonce) 25)).alloc (.cells (rowB l.length fun _ => 0) 5)).alloc (.cells (row 64 fun _ => .int .u8 0) 28) = W at *
  have hadd' := U_add'
  clear hmk hcv
  have HC0 := Lib.hid (show c0 = cAt c0 0 from by simp [cAt])
  go_loopw [11, 21] (fun cc i wr => ∃ k : Nat, k ≤ l.length ∧ i = .int .i64 k ∧ cc = .int .u32 (U (cAt c0 k)) ∧ TrnAt w key nonce l.length (outT key c0 nonce l k) (sAt key c0 nonce k) wr) (fun _ i _ => l.length - (intOf i).toNat)
  case atStart => exact ⟨0, Nat.zero_le _, rfl, by rw [← HC0.out], HA.out⟩
  case round =>
    clear HA
    obtain ⟨k, hk, rfl, rfl, hA⟩ := hrel
    have HA := Lib.hid hA
    clear hA
    by_cases hlt : k < l.length
    · obtain ⟨b, off, ha, hbl, hcells⟩ := HP.out (by omega)
      subst ha
      have hk0 : (0 : Int) ≤ (k : Int) := by omega
      have hk1 : (k : Int) < (l.length : Int) := by omega
      have hk2 : (k : Int) < 1000000000 := by have := HL.out; omega
      have ci := (HA.out.hb.cell (p := ⟨b, off + k, none⟩) hbl).trans (hcells k hlt)
      have HCI := Lib.hid ci
      clear hcells
      by_cases hm : k % 64 = 0
      · have hm0 : (k : Int) % 64 = 0 := by omega
        have HOS := Lib.hid (outT_step key c0 nonce l k hlt)
        rw [hm] at HOS
        have HSN := Lib.hid (sAt_next key c0 nonce k)
        have HCH := Lib.hid (cAt_here c0 hm)
        have HCN := Lib.hid (cAt_next c0 hm)
        have HBK := Lib.hid (fun w => block_any key nonce (U (cAt c0 k)) w)
        rw [ofInt_U, HCH.out, ← HSN.out] at HBK
        have HZ32 := Lib.hid (show (Try.prog.info? 23).map (·.size) = some (rowB 32 key).size by rw [rowB_size]; kernel_rfl)
        have HZ12 := Lib.hid (show (Try.prog.info? 25).map (·.size) = some (rowB 12 nonce).size by rw [rowB_size]; kernel_rfl)
        have HZ64 := Lib.hid (show (Try.prog.info? 28).map (·.size) = some (rowB 64 (sAt key c0 nonce (k + 1))).size by rw [rowB_size, size64])
        obtain ⟨u0, u1⟩ := U_bd (cAt c0 k)
        clear hm
        rw [← HCH.out] at HBK
        generalize sAt key c0 nonce (k + 1) = s1 at *
        generalize l[k] = x at *
        have hci := HCI.out
        go_wp2_with (first
          | ((with_reducible show wpList _ _ _ (⟨_, .load 23 _, _, _, _, _⟩ :: _) _ _); refine wpList_load_row rfl 23 _ rfl w.heap.size rfl 23 (rowB 32 key) (0, 0) _ HA.out.hk Try.underlying23 rfl HZ32.out ?_)
          | ((with_reducible show wpList _ _ _ (⟨_, .load 25 _, _, _, _, _⟩ :: _) _ _); refine wpList_load_row rfl 25 _ rfl (w.heap.size + 1) rfl 25 (rowB 12 nonce) (0, 0) _ HA.out.hn Try.underlying25 rfl HZ12.out ?_))
        refine (HBK.out _).mono ?_
        rintro e w2 ⟨rfl, hb2⟩
        have HA2 := Lib.hid (HA.out.keep hb2)
        have HB2 := Lib.hid (below_keep HA.out.hb hb2)
        clear hb2 ci hci
        have hx := B8_xor x (s1 0)
        have hc1 : IntKind.u32.wrap (U (cAt c0 k) + 1) = U (cAt c0 (k + 1)) := by rw [HCN.out]; exact U_add _ 1
        have hc2 : (U (cAt c0 k) + 1) % 4294967296 = U (cAt c0 (k + 1)) := by rw [HCN.out]; exact U_add' _ 1
        go_wp2_with ((with_reducible show wpList _ _ _ (⟨_, .store 28 _ _, _, _, _, _⟩ :: _) _ _); refine wpList_store_rowTo rfl 28 _ _ rfl rfl (w.heap.size + 1 + 1 + 1) (rowB 64 s1) rfl rfl 28 _ HA2.out.hs HZ64.out (by rw [rowB_size, rowB_size]) (rowB_oneCell _ _) ?_; have HA3 := Lib.hid (HA2.out.setS s1); generalize w2.setRow (w.heap.size + 1 + 1 + 1) (rowB 64 s1) = w3 at *; have cs : w3.cell? ⟨w.heap.size + 1 + 1 + 1, 0, none⟩ = some (.int .u8 (B8 (s1 0))) := cell_rowB HA3.out.hs (by decide); have co : w3.cell? ⟨w.heap.size + 1 + 1, k, none⟩ = some (.int .u8 (B8 (outT key c0 nonce l k k))) := cell_rowB HA3.out.ho hlt; have fo : w3.frozen? ⟨w.heap.size + 1 + 1, k, none⟩ = false := frozen_of_row w3 _ _ _ _ HA3.out.ho)
        go_roundw
        case rel => exact ⟨k + 1, by omega, by go_num, rfl, by rw [← HOS.out, sAt_next, ← HSN.out]; exact HA3.out.setO _ hlt⟩
        case measure => simp [intOf]; omega
      · have hm0 : ((k : Int) % 64 == 0) = false := by
          rw [beq_eq_false_iff_ne]; omega
        have hm1 : ((k : Int) % 64 = 0) = False := eq_false (by omega)
        have HOS := Lib.hid (outT_step key c0 nonce l k hlt)
        rw [sAt_stay key c0 nonce hm] at HOS
        have HSN := Lib.hid (sAt_stay key c0 nonce hm)
        have HCN := Lib.hid (cAt_stay c0 hm)
        clear hm
        generalize l[k] = x at *
        generalize sAt key c0 nonce k = s1 at *
        have cs : wr.cell? ⟨w.heap.size + 1 + 1 + 1, k % 64, none⟩ = some (.int .u8 (B8 (s1 (k % 64)))) := cell_rowB HA.out.hs (by omega)
        have co : wr.cell? ⟨w.heap.size + 1 + 1, k, none⟩ = some (.int .u8 (B8 (outT key c0 nonce l k k))) := cell_rowB HA.out.ho hlt
        have fo : wr.frozen? ⟨w.heap.size + 1 + 1, k, none⟩ = false := frozen_of_row wr _ _ _ _ HA.out.ho
        have hx := B8_xor x (s1 (k % 64))
        go_wp2_with fail
        go_roundw
        case rel => exact ⟨k + 1, by omega, by go_num, by rw [HCN.out], by rw [← HOS.out, HSN.out]; exact HA.out.setO _ hlt⟩
        case measure => simp [intOf]; omega
    · obtain rfl : k = l.length := by omega
      go_wp2_with fail
      go_ret
      exact ⟨⟨_, rfl, by rw [← outT_full]; exact brow_row HA.out.ho⟩, HA.out.hb⟩

end Go.Proofs.Ytdcndfcdjlpecaa
