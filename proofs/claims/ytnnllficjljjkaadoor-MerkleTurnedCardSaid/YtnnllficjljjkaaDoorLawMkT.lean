/-
  The law MerkleTurned joined.
-/
import Derived.Test.YtnnllficjljjkaaDoorLawMkT1
import Derived.Test.YtnnllficjljjkaaDoorLawMkT2
import Derived.Test.YtnnllficjljjkaaDoorLawMkT3
namespace Go.Proofs.YtnnllficjljjkaaDoor
open Go.RowKit
set_option linter.unusedVariables false
set_option linter.unusedSimpArgs false

theorem merkleTurned_walk {w : World} (v : Value) (l : List (List (BitVec 8))) (hv : BRows w v l) (hq : CapOk v) (i : Int) (_hi : -9223372036854775808 ≤ i ∧ i ≤ 9223372036854775807) (what : Int) (_hw : -9223372036854775808 ≤ what ∧ what ≤ 9223372036854775807) (at_ : Int) (ha : -9223372036854775808 ≤ at_ ∧ at_ ≤ 9223372036854775807) (y : BitVec 8) (hk : KAt w) :
    Calls Tryd.prog 20 #[v, .int .i64 i, .int .i64 what, .int .i64 at_, .int .u8 (B8 y)] w fun e w' => e = .returned (.bool true) ∧ Below w.heap.size w w' := by
  obtain ⟨a, c, rfl⟩ := hv.shape
  have hc := (hq _ _ _ rfl).1
  cases h : bigB l with
  | true => exact merkleTurned_big a _ c i what at_ _ l w hv h
  | false =>
    by_cases hx : i < 0 ∨ (l.length : Int) ≤ i ∨ at_ < 0
    · exact merkleTurned_out a _ c i what at_ _ l w hv h hx
    · obtain ⟨j, rfl⟩ : ∃ j : Nat, i = (j : Int) := ⟨i.toNat, by omega⟩
      obtain ⟨n, rfl⟩ : ∃ n : Nat, at_ = (n : Int) := ⟨at_.toNat, by omega⟩
      have hj : j < l.length := by omega
      have hn : n ≤ 9223372036854775807 := by omega
      by_cases h0 : what = 0
      · subst h0
        by_cases hp : pathS l j = []
        · exact merkleTurned_zeroNone a _ c l j 0 n y w rfl hv hc h hj hn hp hk
        · exact merkleTurned_zero a _ c l j 0 n y w rfl hv hc h hj hn hp hk
      · by_cases h1 : what = 1
        · subst h1; exact merkleTurned_one a _ c l j 1 n y w rfl hv hc h hj hn hk
        · by_cases h2 : what = 2
          · subst h2; exact merkleTurned_two a _ c l j 2 n y w rfl hv hc h hj hn hk
          · by_cases h3 : what = 3
            · subst h3; exact merkleTurned_three a _ c l j 3 n y w rfl hv hc h hj hn hk
            · by_cases h4 : what = 4
              · subst h4; exact merkleTurned_four a _ c l j 4 n y w rfl hv hc h hj hn hk
              · exact merkleTurned_none a _ c l j what n y w rfl hv hc h hj hn (by omega) hk

end Go.Proofs.YtnnllficjljjkaaDoor
