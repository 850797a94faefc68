/-
  A law of a walk over any program: a region that draws its order is walked along one given order, if at each point what is next either yields its value in every world that meets S, or is the one operation that may come up.
-/
import Derived.Test.YtnnllficjljjkaaLaws
import Derived.Deep.RegionHeld3
namespace Go.Proofs.Ytnnllficjljjkaa

section
variable {P : Program} {ops : Array Oper} {Q : Exit → Act → World → Prop} {S : World → Prop}

def planGo (ops : Array Oper) : List Nat → List Bool → Array Bool → Bool
  | [], _, listed => (Region.ready .any ops listed) == []
  | i :: ord, b :: fl, listed =>
    decide (i < ops.size) && (if b then Region.free .any ops listed i && (Region.ready .any ops listed).contains i else (Region.ready .any ops listed) == [i]) && planGo ops ord fl (listed.setIfInBounds i true)
  | _ :: _, [], _ => false
def planB (ops : Array Oper) (ord : List Nat) (fl : List Bool) : Bool := Region.noSelect ops && (ord.length == ops.size) && planGo ops ord fl (Array.replicate ops.size false)

/-- The walk along the given order. -/
def seqH (P : Program) (ops : Array Oper) (Q : Exit → Act → World → Prop) (S : World → Prop) : List Bool → List Oper → Act → World → Prop
  | true :: fl, o :: l, a, w => ∃ v, YieldsIf P ops S o v a ∧ seqH P ops Q S fl l (a.put o.dst v) w
  | false :: fl, o :: l, a, w => ∀ K : Act → World → Prop, Shut (∀ a w, S w → (S w → seqH P ops Q S fl l a w) → K a w) → if Region.wanted o (yielded ops a.tmps) = true then Oper.wp P o a w K Q else K (a.put o.dst undef) w
  | _, _, a, w => Q .normal a w

theorem seqH_take {fl : List Bool} {o : Oper} {l : List Oper} {a : Act} {w : World} {v : Value} (hy : YieldsIf P ops S o v a) (h : seqH P ops Q S fl l (a.put o.dst v) w) : seqH P ops Q S (true :: fl) (o :: l) a w := ⟨v, hy, h⟩
theorem seqH_go {fl : List Bool} {o : Oper} {l : List Oper} {a : Act} {w : World} (h : ∀ K : Act → World → Prop, Shut (∀ a w, S w → (S w → seqH P ops Q S fl l a w) → K a w) → if Region.wanted o (yielded ops a.tmps) = true then Oper.wp P o a w K Q else K (a.put o.dst undef) w) :
    seqH P ops Q S (false :: fl) (o :: l) a w := h
theorem seqH_nil {fl : List Bool} {a : Act} {w : World} (h : Q .normal a w) : seqH P ops Q S fl [] a w := by
  rcases fl with _ | ⟨_ | _, _⟩ <;> exact h

theorem yieldsIf_slice {op : Oper} {a : Act} (hw : Region.wanted op (yielded ops a.tmps) = true) (t : TypeId) (x : Operand) (lo hi : Option Operand) (ho : op.op = .slice t x lo hi none) (v : Value)
    (hrun : ∀ w, S w → (Instr.sliceAt t (a.eval x) (lo.map a.eval) (hi.map a.eval) none).run P w = .ok v w) : YieldsIf P ops S op v a :=
  .inl ⟨hw, fun w hw' => by
    unfold execOp
    simp only [ho, Sem.run_bind, Option.map_none, hrun w hw', Result.andThen_ok, Sem.run_pure]⟩

theorem plan_all (hs : Region.noSelect ops = true) (hQ : ∀ c d v a w, Q (.panic c) (a.put d v) w → Q (.panic c) a w) : ∀ (ord : List Nat) (fl : List Bool) (listed : Array Bool) (a : Act) (w : World),
    planGo ops ord fl listed = true → S w → seqH P ops Q S fl (ord.filterMap (ops[·]?)) a w → wpAnyH P .any ops Q S ord.length listed a w
  | [], fl, listed, a, w, hc, _, h => by
    have hq : Q .normal a w := by rcases fl with _ | ⟨_ | _, _⟩ <;> exact h
    exact wpAnyH_done (by simpa [planGo] using hc) hq _
  | i :: ord, [], listed, a, w, hc, _, _ => by simp [planGo] at hc
  | i :: ord, b :: fl, listed, a, w, hc, hS, h => by
    unfold planGo at hc
    rw [Bool.and_eq_true, Bool.and_eq_true] at hc
    obtain ⟨⟨h1, h2⟩, h3⟩ := hc
    have hlt : i < ops.size := of_decide_eq_true h1
    have hi : ops[i]? = some ops[i] := Array.getElem?_eq_getElem hlt
    rw [List.filterMap_cons, hi] at h
    cases b with
    | true =>
      obtain ⟨v, hy, hr⟩ := h
      simp only [if_true] at h2
      rw [Bool.and_eq_true] at h2
      exact wpAnyH_take hi hs h2.1 h2.2 (fun c a w => hQ c _ _ a w) hy hS (plan_all hs hQ ord fl _ _ _ h3 hS hr)
    | false =>
      simp only [Bool.false_eq_true, if_false] at h2
      refine wpAnyH_ready (rs := [i]) (by simpa using h2) (by simp) (AllReadyH.cons hi (fun K hK => ?_) AllReadyH.nil)
      exact h K (fun a w hS hW => hK.out a w hS fun hS => plan_all hs hQ ord fl _ _ _ h3 hS (hW hS))

theorem wp_region_plan {id : Nat} {a : Act} {w : World} (ord : List Nat) (fl : List Bool) (hm : P.follows .mixedOrders = true) (hc : planB ops ord fl = true) (hS : S w.drew)
    (h : S w.drew → seqH P ops (NoPanic Q) S fl (ord.filterMap (ops[·]?)) a w.drew) : (Code.region id ops true).wp P Q a w := by
  unfold planB at hc
  rw [Bool.and_eq_true, Bool.and_eq_true] at hc
  obtain ⟨⟨h1, h2⟩, h3⟩ := hc
  have hl : ord.length = ops.size := by simpa using h2
  refine wp_region_noPanic (wp_region_held_drew hm hS fun hS => ?_)
  rw [← hl]
  exact plan_all h1 (fun _ _ _ _ _ h => h) ord fl _ a _ (by rw [hl]; exact h3) hS (h hS)
end

end Go.Proofs.Ytnnllficjljjkaa
