/-
  The walk of the document's own Turn.
-/
import Derived.Test.YtdcndfcdjlpecaaTurnC
namespace Go.Proofs.Ytdcndfcdjlpecaa
open Go.RowKit
set_option linter.unusedVariables false
set_option linter.unusedSimpArgs false

theorem cell_of_heap {w w' : World} {b o : Nat} (h : w'.heap[b]? = w.heap[b]?) : w'.cell? ⟨b, o, none⟩ = w.cell? ⟨b, o, none⟩ := by
  unfold World.cell?
  simp only [h]
theorem frozen_of_heap {w w' : World} {b o : Nat} (h : w'.heap[b]? = w.heap[b]?) : w'.frozen? ⟨b, o, none⟩ = w.frozen? ⟨b, o, none⟩ := by
  unfold World.frozen?
  simp only [h]

/-- A row that a call owns, with room behind it. -/
def RoomAt (lo hi : Nat) (a : Option Addr) (n cap : Nat) (o : Nat → BitVec 8) (wr : World) : Prop :=
  0 < n → ∃ g S, a = some ⟨g, 0, none⟩ ∧ lo ≤ g ∧ g < hi ∧ n ≤ cap ∧ wr.heap[g]? = some (.cells (row cap S) 5 (0, 0)) ∧ ∀ i, i < n → S i = .int .u8 (B8 (o i))
theorem OwnB.room {w : World} {base : Nat} {v : Value} {l : List (BitVec 8)} (h : OwnB w base v l) : ∃ a cap, v = .slice a l.length cap ∧ (a = none → cap = 0) ∧ RoomAt base w.heap.size a l.length cap (fun i => l.getD i 0) w := by
  have hlt := World.ownsRow.lt h
  rcases h.2 with ⟨rfl, h1⟩ | ⟨g, cap, cur, rfl, hb, hg, hn, hm, hs, ht⟩
  · exact ⟨none, 0, by rw [h1], fun _ => rfl, fun hc => by omega⟩
  · refine ⟨_, cap, rfl, (fun hc => by cases hc), fun h0 => ⟨g, fun i => cur[i]?.getD undef, rfl, hb, (hlt g rfl).2, hn, ?_, fun i hi => ?_⟩⟩
    · rw [hg]
      congr 2
      apply Array.ext'
      apply List.ext_getElem
      · simp [row, hs]
      · intro i h1 h2
        have : i < cur.size := by simpa using h1
        simp [row, this]
    · have h2 : (cur.toList.take (l.length * 1))[i]? = (encB l)[i]? := by rw [ht]
      rw [List.getElem?_take_of_lt (by omega)] at h2
      rw [Array.getElem?_toList] at h2
      show cur[i]?.getD undef = _
      rw [h2]
      simp [encB, hi]
theorem RoomAt.keep {lo hi : Nat} {a : Option Addr} {n cap : Nat} {o : Nat → BitVec 8} {wr w' : World} (h : RoomAt lo hi a n cap o wr) (hk : ∀ g, g < hi → w'.heap[g]? = wr.heap[g]?) : RoomAt lo hi a n cap o w' := fun h0 => by
  obtain ⟨g, S, h1, h2, h3, h4, h5, h6⟩ := h h0
  exact ⟨g, S, h1, h2, h3, h4, (hk g h3).trans h5, h6⟩
theorem RoomAt.brow {lo hi : Nat} {a : Option Addr} {n cap : Nat} {o : Nat → BitVec 8} {wr : World} (h : RoomAt lo hi a n cap o wr) (hn : a = none → cap = 0) : BRow wr (.slice a n cap) ((List.range n).map o) := by
  refine ⟨a, cap, by simp, hn, fun h0 => ?_⟩
  have h0 : 0 < n := by simpa using h0
  obtain ⟨g, S, rfl, h2, h3, h4, h5, h6⟩ := h h0
  refine ⟨g, 0, rfl, (Array.getElem?_eq_some_iff.1 h5).1, fun i hi => ?_⟩
  have hi : i < n := by simpa using hi
  rw [Nat.zero_add, cell_row h5 (by omega), h6 i hi]
  simp

/-- What has been turned in place. -/
def outR (key : Nat → BitVec 8) (c : BitVec 32) (nonce : Nat → BitVec 8) (l : List (BitVec 8)) (k : Nat) : Nat → BitVec 8 := fun i => if i < k then l.getD i 0 ^^^ strm key c nonce i else l.getD i 0
theorem outR_step (key : Nat → BitVec 8) (c : BitVec 32) (nonce : Nat → BitVec 8) (l : List (BitVec 8)) (k : Nat) (h : k < l.length) : upd (outR key c nonce l k) k (l[k] ^^^ sAt key c nonce (k + 1) (k % 64)) = outR key c nonce l (k + 1) := by
  rw [sAt_next]
  funext i
  unfold upd outR
  by_cases e : i = k
  · subst e; simp [h, strm]
  · rw [if_neg e]
    by_cases hi : i < k
    · rw [if_pos hi, if_pos (by omega)]
    · rw [if_neg hi, if_neg (by omega)]
theorem outR_here (key : Nat → BitVec 8) (c : BitVec 32) (nonce : Nat → BitVec 8) (l : List (BitVec 8)) (k : Nat) (h : k < l.length) : outR key c nonce l k k = l[k] := by simp [outR, h]
theorem outR_full (key : Nat → BitVec 8) (c : BitVec 32) (nonce : Nat → BitVec 8) (l : List (BitVec 8)) : (List.range l.length).map (outR key c nonce l l.length) = turnC key c nonce l := by
  apply List.ext_getElem
  · simp [turnC_length]
  · intro i h1 h2
    have hi : i < l.length := by simpa using h1
    simp [outR, turnC, hi]

/-- The blocks of the reference's Turn. -/
structure RtnAt (w : World) (key nonce : Nat → BitVec 8) (a : Option Addr) (n cap gs : Nat) (o s : Nat → BitVec 8) (wr : World) : Prop where
  hk : wr.heap[w.heap.size]? = some (.cells (rowB 32 key) 23 (0, 0))
  hn : wr.heap[w.heap.size + 1]? = some (.cells (rowB 12 nonce) 25 (0, 0))
  ho : RoomAt (w.heap.size + 2) gs a n cap o wr
  hs : wr.heap[gs]? = some (.cells (rowB 64 s) 28 (0, 0))
  lg : w.heap.size + 2 ≤ gs
  hb : Below w.heap.size w wr
theorem RtnAt.keep {w wr w' : World} {key nonce o s : Nat → BitVec 8} {a : Option Addr} {n cap gs : Nat} (h : RtnAt w key nonce a n cap gs o s wr) (hb : Below wr.heap.size wr w') : RtnAt w key nonce a n cap gs o s w' := by
  have hlt := (Array.getElem?_eq_some_iff.1 h.hs).1
  exact ⟨(hb.block _ (Array.getElem?_eq_some_iff.1 h.hk).1).trans h.hk, (hb.block _ (Array.getElem?_eq_some_iff.1 h.hn).1).trans h.hn, h.ho.keep fun g hg => hb.block g (by omega), (hb.block _ hlt).trans h.hs, h.lg, below_keep h.hb hb⟩
theorem RtnAt.setS {w wr : World} {key nonce o s : Nat → BitVec 8} {a : Option Addr} {n cap gs : Nat} (h : RtnAt w key nonce a n cap gs o s wr) (s' : Nat → BitVec 8) : RtnAt w key nonce a n cap gs o s' (wr.setRow gs (rowB 64 s')) := by
  have hlg := h.lg
  exact ⟨(heap_setRow_far (by omega)).trans h.hk, (heap_setRow_far (by omega)).trans h.hn, h.ho.keep fun g hg => heap_setRow_far (by omega), heap_setRow_at h.hs, h.lg, below_setRow h.hb (by omega) _⟩
theorem RtnAt.setO {w wr : World} {key nonce o s : Nat → BitVec 8} {g n cap gs : Nat} (h : RtnAt w key nonce (some ⟨g, 0, none⟩) n cap gs o s wr) {i : Nat} (x : BitVec 8) (hi : i < n) (m : Nat) : RtnAt w key nonce (some ⟨g, 0, none⟩) n cap gs (upd o i x) s ((wr.setCell ⟨g, i, none⟩ (.int .u8 (B8 x))).drewN m) := by
  obtain ⟨g', S, e, h2, h3, h4, h5, h6⟩ := h.ho (by omega)
  cases e
  refine ⟨(heap_setCell_other _ _ _ _ (by simp; omega)).trans h.hk, (heap_setCell_other _ _ _ _ (by simp; omega)).trans h.hn, fun _ => ⟨g, _, rfl, h2, h3, h4, heap_set_row _ h5 (by omega), fun j hj => ?_⟩, (heap_setCell_other _ _ _ _ (by simp; omega)).trans h.hs, h.lg, below_draws (h.hb.setCell (by simp; omega) _) m⟩
  unfold upd
  by_cases e : j = i
  · rw [if_pos e, if_pos e]
  · rw [if_neg e, if_neg e]; exact h6 j hj

set_option maxRecDepth 100000 in
set_option maxHeartbeats 2000000 in
theorem refTurn_any (key nonce : Nat → BitVec 8) (n : Int) (v : Value) (l : List (BitVec 8)) (w : World) (hv : BRow w v l) (hl : l.length ≤ 1000000000) :
    Calls Try.prog 15 #[.agg (rowB 32 key), .int .i64 n, .agg (rowB 12 nonce), v] w fun e w' => (∃ v', e = .returned v' ∧ BRow w' v' (turnC key (BitVec.ofInt 32 n) nonce l)) ∧ Below w.heap.size w w' := by
  have hand := and_low n
  have hcv2 : n % 4294967296 = U (BitVec.ofInt 32 n) := by rw [U_ofInt]
  rw [hcv2] at hand
  have HV := Lib.hid hv
  obtain ⟨a, c, rfl, hnil, hp⟩ := hv
  have HL := Lib.hid hl
  clear hp hl hnil hcv2
  generalize BitVec.ofInt 32 n = c0 at *
  go_enter Try.func15, Try.ntmps15
  go_wp2_with (first
    | (at_builtin; refine wpList_append_B rfl (.const (.slice none 0 0)) (.tmp 13) rfl _ _ [] l rfl (World.ownsRow_nil _ _ _ _) (HV.out.below (below_allocS (below_allocS (Below.refl _ _) _) _)) (by have := HL.out; simp; omega) (Nat.le_refl _) ?_; intro v1 w1 hown1 hg1; rw [List.nil_append] at hown1; have HO1 := Lib.hid hown1; have HG1 := Lib.hid hg1; clear hown1 hg1; obtain ⟨a1, cap1, rfl, hn1, hr1⟩ := HO1.out.room; have HN1 := Lib.hid hn1; have HR1 := Lib.hid hr1; clear hn1 hr1)
    | (with_reducible refine wpList_alloc_row rfl 28 rfl 64 _ info64 ?_))
  obtain ⟨gs, egs⟩ : ∃ gs, gs = w1.heap.size := ⟨_, rfl⟩
  have hb1 : Below w.heap.size w w1 := (below_allocS (below_allocS (Below.refl w.heap.size w) (.cells (rowB 32 key) 23)) (.cells (rowB 12 nonce) 25)).grown HG1.out (by simp; omega) (fun k hk => by cases hk)
  have HA := Lib.hid (show RtnAt w key nonce a1 l.length cap1 gs (outR key c0 nonce l 0) (sAt key c0 nonce 0) (w1.alloc (.cells (row 64 fun _ => .int .u8 0) 28)) from by
    have hg1 := HG1.out
    have hz := hg1.size
    have e0 : outR key c0 nonce l 0 = fun i => l.getD i 0 := by funext i; simp [outR]
    simp only [World.size_alloc] at hz
    subst egs
    refine ⟨?_, ?_, ?_, heap_alloc_new _ _, by omega, below_allocS hb1 _⟩
    · refine (Below.heap_alloc _ _ _ (by omega)).trans ((hg1.block _ (by simp; omega) nofun).trans ((Below.heap_alloc _ _ _ (by simp)).trans (heap_alloc_new _ _)))
    · refine (Below.heap_alloc _ _ _ (by omega)).trans ((hg1.block _ (by simp) nofun).trans ?_)
      have := heap_alloc_new (w.alloc (.cells (rowB 32 key) 23)) (.cells (rowB 12 nonce) 25)
      simpa using this
    · rw [e0]
      have hr := HR1.out
      simp only [World.size_alloc] at hr
      exact hr.keep fun g hg => Below.heap_alloc _ _ _ hg)
  generalize w1.alloc (.cells (row 64 fun _ => .int .u8 0) 28) = W at *
  rw [← egs]
  clear egs hb1 hand HG1 HO1 HR1
  obtain ⟨uc0, uc1⟩ := U_bd c0
  go_loopw [12] (fun i wr => ∃ k : Nat, k ≤ l.length ∧ i = .int .i64 k ∧ RtnAt w key nonce a1 l.length cap1 gs (outR key c0 nonce l k) (sAt key c0 nonce k) wr) (fun i _ => l.length - (intOf i).toNat)
  case atStart => exact ⟨0, Nat.zero_le _, rfl, HA.out⟩
  case round =>
    clear HA
    obtain ⟨k, hk, rfl, hA⟩ := hrel
    have HA := Lib.hid hA
    clear hA
    by_cases hlt : k < l.length
    · obtain ⟨g, S, ha, hg1, hg2, hcap, hgh, hS⟩ := HA.out.ho (by omega)
      subst ha
      have hk0 : (0 : Int) ≤ (k : Int) := by omega
      have hk1 : (k : Int) < (l.length : Int) := by omega
      have hk2 : (k : Int) < 1000000000 := by have := HL.out; omega
      have hS1 := hS k hlt
      rw [outR_here key c0 nonce l k hlt] at hS1
      have ci : wr.cell? ⟨g, k, none⟩ = some (.int .u8 (B8 l[k])) := by rw [cell_row hgh (by omega), hS1]
      have fi : wr.frozen? ⟨g, k, none⟩ = false := frozen_of_row wr _ _ _ _ hgh
      have HGH := Lib.hid hgh
      clear hgh hS hS1
      by_cases hm : k % 64 = 0
      · have hm0 : (k : Int) % 64 = 0 := by omega
        have HOS := Lib.hid (outR_step key c0 nonce l k hlt)
        rw [hm] at HOS
        have HSN := Lib.hid (sAt_next key c0 nonce k)
        have HBK := Lib.hid (fun w => refBlock_any key nonce (U c0 + (k : Int) / 64) w)
        rw [show U c0 + (k : Int) / 64 = U c0 + ((k / 64 : Nat) : Int) by omega, ofInt_add, ofInt_U, ← HSN.out, show U c0 + ((k / 64 : Nat) : Int) = U c0 + (k : Int) / 64 by omega] at HBK
        have HZ32 := Lib.hid (show (Try.prog.info? 23).map (·.size) = some (rowB 32 key).size by rw [rowB_size]; kernel_rfl)
        have HZ12 := Lib.hid (show (Try.prog.info? 25).map (·.size) = some (rowB 12 nonce).size by rw [rowB_size]; kernel_rfl)
        have HZ64 := Lib.hid (show (Try.prog.info? 28).map (·.size) = some (rowB 64 (sAt key c0 nonce (k + 1))).size by rw [rowB_size, size64])
        clear hm
        generalize sAt key c0 nonce (k + 1) = s1 at *
        generalize l[k] = x at *
        have HCI := Lib.hid ci
        have HFI := Lib.hid fi
        clear ci fi
        go_wp2_with (first
          | ((with_reducible show wpList _ _ _ (⟨_, .load 23 _, _, _, _, _⟩ :: _) _ _); refine wpList_load_row rfl 23 _ rfl w.heap.size rfl 23 (rowB 32 key) (0, 0) _ HA.out.hk Try.underlying23 rfl HZ32.out ?_)
          | ((with_reducible show wpList _ _ _ (⟨_, .load 25 _, _, _, _, _⟩ :: _) _ _); refine wpList_load_row rfl 25 _ rfl (w.heap.size + 1) rfl 25 (rowB 12 nonce) (0, 0) _ HA.out.hn Try.underlying25 rfl HZ12.out ?_))
        refine (HBK.out _).mono ?_
        rintro e w2 ⟨rfl, hb2⟩
        have HA2 := Lib.hid (HA.out.keep hb2)
        have ci2 := (hb2.cell (p := ⟨g, k, none⟩) (Array.getElem?_eq_some_iff.1 HGH.out).1).trans HCI.out
        have fi2 := (hb2.frozen (p := ⟨g, k, none⟩) (Array.getElem?_eq_some_iff.1 HGH.out).1).trans HFI.out
        have HCI2 := Lib.hid ci2
        have HFI2 := Lib.hid fi2
        clear hb2 ci2 fi2
        have hx := B8_xor x (s1 0)
        go_wp2_with ((with_reducible show wpList _ _ _ (⟨_, .store 28 _ _, _, _, _, _⟩ :: _) _ _); refine wpList_store_rowTo rfl 28 _ _ rfl rfl gs (rowB 64 s1) rfl rfl 28 _ HA2.out.hs HZ64.out (by rw [rowB_size, rowB_size]) (rowB_oneCell _ _) ?_; have HA3 := Lib.hid (HA2.out.setS s1); have cs : (w2.setRow gs (rowB 64 s1)).cell? ⟨gs, 0, none⟩ = some (.int .u8 (B8 (s1 0))) := cell_rowB HA3.out.hs (by decide); have co : (w2.setRow gs (rowB 64 s1)).cell? ⟨g, k, none⟩ = some (.int .u8 (B8 x)) := ((cell_of_heap (heap_setRow_far (by omega))).trans HCI2.out); have fo : (w2.setRow gs (rowB 64 s1)).frozen? ⟨g, k, none⟩ = false := ((frozen_of_heap (heap_setRow_far (by omega))).trans HFI2.out); generalize w2.setRow gs (rowB 64 s1) = w3 at *)
        have t3 : ((k : Int)).tmod 64 = 0 := by rw [Int.tmod_eq_emod_of_nonneg hk0]; exact hm0
        go_still_tail 12, (by kernel_rfl)
        clear t3
        change wpList _ _ _ _ _ w3.drew
        go_wp2_with fail
        go_roundw
        case rel => exact ⟨k + 1, by omega, by go_num, by rw [← HOS.out, sAt_next, ← HSN.out]; exact HA3.out.setO _ hlt 1⟩
        case measure => simp [intOf]; omega
      · have hm0 : ((k : Int) % 64 == 0) = false := by
          rw [beq_eq_false_iff_ne]; omega
        have hm1 : ((k : Int) % 64 = 0) = False := eq_false (by omega)
        have HOS := Lib.hid (outR_step key c0 nonce l k hlt)
        rw [sAt_stay key c0 nonce hm] at HOS
        have HSN := Lib.hid (sAt_stay key c0 nonce hm)
        clear hm
        generalize l[k] = x at *
        generalize sAt key c0 nonce k = s1 at *
        have cs : wr.cell? ⟨gs, k % 64, none⟩ = some (.int .u8 (B8 (s1 (k % 64)))) := cell_rowB HA.out.hs (by omega)
        have hx := B8_xor x (s1 (k % 64))
        go_wp2_with fail
        have t3 : ((k : Int)).tmod 64 = (k : Int) % 64 := by rw [Int.tmod_eq_emod_of_nonneg hk0]
        have t4 : (0 : Int) ≤ (k : Int) % 64 := by omega
        have t5 : (k : Int) % 64 < 64 := by omega
        have t6 : ((k : Int) % 64).toNat = k % 64 := by omega
        go_still_tail 12, (by kernel_rfl)
        clear t3 t4 t5 t6
        change wpList _ _ _ _ _ wr.drew
        go_wp2_with fail
        go_roundw
        case rel => exact ⟨k + 1, by omega, by go_num, by rw [← HOS.out, HSN.out]; exact HA.out.setO _ hlt 1⟩
        case measure => simp [intOf]; omega
    · obtain rfl : k = l.length := by omega
      go_wp2_with fail
      go_ret
      exact ⟨⟨_, rfl, by rw [← outR_full]; exact HA.out.ho.brow HN1.out⟩, HA.out.hb⟩

end Go.Proofs.Ytdcndfcdjlpecaa
