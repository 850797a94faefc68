/-
  Lemmas of the law, part 2: the walks of the functions that it calls and the plain facts about them. No condition beyond those written.
-/
import Derived.Test.YtoifhhljfaoejaaGreatDoorRows
import Derived.Great.Ranges
import Derived.Great.BuildSlice
import Derived.Test.YtoifhhljfaoejaaGreatDoorPkAA
namespace Go.Proofs.YtoifhhljfaoejaaGreatDoor
open Go.RowKit
set_option linter.unusedVariables false
set_option linter.unusedSectionVars false
class RowTy (t:TypeId) (n:outParam Nat):Prop where
 und:∃ d,Tryz.prog.underlying t=some d∧d.isRow=true
 size:(Tryz.prog.info? t).map (·.size)=some n
class RowZ (t:TypeId) (r:outParam (Array Value)):Prop where
 zero:(Tryz.prog.info? t).map (·.zero)=some (some (.agg r))
class Row1 (r:Array Value) (n:outParam Nat):Prop where
 size:r.size=n
 one:r.all (·.oneCell')=true
abbrev Mem:=List (Nat×Array Value×TypeId)
structure Loc (w0 w:World) (M:Mem):Prop where
 bel:Below w0.heap.size w0 w
 ok:∀ b r t,(b,r,t)∈M→w0.heap.size≤b∧w.heap[b]?=some (.cells r t (0,0))
 nd:(M.map (·.1)).Pairwise (· ≠ ·)
theorem Loc.nil (w:World):Loc w w []:=⟨Below.refl _ _,fun _ _ _ h=>(List.not_mem_nil h).elim,List.Pairwise.nil⟩
theorem Loc.get {w0 w:World} {M:Mem} (h:Loc w0 w M) {b:Nat} {r:Array Value} {t:TypeId} (hm:(b,r,t)∈M):w.heap[b]?=some (.cells r t (0,0)):=(h.ok _ _ _ hm).2
theorem Loc.lt {w0 w:World} {M:Mem} (h:Loc w0 w M) {b:Nat} {r:Array Value} {t:TypeId} (hm:(b,r,t)∈M):b<w.heap.size:=(Array.getElem?_eq_some_iff.1 (h.get hm)).1
theorem Loc.ge {w0 w:World} {M:Mem} (h:Loc w0 w M) {b:Nat} {r:Array Value} {t:TypeId} (hm:(b,r,t)∈M):w0.heap.size≤b:=(h.ok _ _ _ hm).1
theorem Loc.keep {w0 w w':World} {M:Mem} (h:Loc w0 w M) (hb:Below w.heap.size w w'):Loc w0 w' M :=
 ⟨h.bel.trans (hb.mono h.bel.size),fun b r t hm=>⟨h.ge hm,(hb.block b (h.lt hm)).trans (h.get hm)⟩,h.nd⟩
theorem Loc.drew {w0 w:World} {M:Mem} (h:Loc w0 w M):Loc w0 w.drew M:=⟨h.bel.drew,h.ok,h.nd⟩
theorem Loc.alloc {w0 w:World} {M:Mem} (h:Loc w0 w M) (r:Array Value) (t:TypeId):Loc w0 (w.alloc (.cells r t)) ((w.heap.size,r,t) :: M):=by
 refine ⟨h.bel.alloc h.bel.size _,fun b r' t' hm=>?_,?_⟩
 ·cases hm with
  | head=>exact ⟨h.bel.size,heap_alloc_new _ _⟩
  | tail _ hm=>exact ⟨h.ge hm,(Below.heap_alloc _ _ _ (h.lt hm)).trans (h.get hm)⟩
 ·refine List.Pairwise.cons (fun b hb=>?_) h.nd
  obtain ⟨⟨b',r',t'⟩,hm,rfl⟩:=List.mem_map.1 hb
  have:=h.lt hm
  simp only
  omega
theorem Loc.pop {w0 w:World} {M:Mem} {e:Nat×Array Value×TypeId} (h:Loc w0 w (e :: M)):Loc w0 w M:=⟨h.bel,fun b r t hm=>h.ok b r t (.tail _ hm),by have:=h.nd;simp only [List.map_cons,List.pairwise_cons] at this;exact this.2⟩
inductive Upd:Mem→Nat→Array Value→Mem→Prop
 | head (M:Mem) (b:Nat) (r r':Array Value) (t:TypeId):Upd ((b,r,t) :: M) b r' ((b,r',t) :: M)
 | tail {M M':Mem} {b:Nat} {r':Array Value} (e:Nat×Array Value×TypeId) (h:Upd M b r' M'):Upd (e :: M) b r' (e :: M')
theorem Upd.fst {M M':Mem} {b:Nat} {r:Array Value} (h:Upd M b r M'):M'.map (·.1)=M.map (·.1):=by
 induction h with
 | head=>rfl
 | tail e _ ih=>simp only [List.map_cons,ih]
theorem Upd.mem {M M':Mem} {b:Nat} {r':Array Value} (h:Upd M b r' M'):∃ r t,(b,r,t)∈M:=by
 induction h with
 | head M b r r' t=>exact ⟨r,t,.head _⟩
 | tail e _ ih=>obtain ⟨r,t,hm⟩:=ih;exact ⟨r,t,.tail _ hm⟩
theorem Upd.back {M M':Mem} {b:Nat} {r':Array Value} (h:Upd M b r' M') (nd:(M.map (·.1)).Pairwise (· ≠ ·)):∀ c r t,(c,r,t)∈M'→(c=b∧r=r'∧∃ r0,(b,r0,t)∈M)∨(c≠b∧(c,r,t)∈M):=by
 induction h with
 | head M b r r' t =>
  intro c s u hm
  simp only [List.map_cons,List.pairwise_cons] at nd
  cases hm with
  | head=>exact .inl ⟨rfl,rfl,r,.head _⟩
  | tail _ hm=>exact .inr ⟨fun e=>nd.1 c (List.mem_map.2 ⟨_,hm,rfl⟩) e.symm,.tail _ hm⟩
 | @tail M M' b r' e h ih =>
  intro c s u hm
  simp only [List.map_cons,List.pairwise_cons] at nd
  cases hm with
  | head =>
   obtain ⟨r0,t0,h0⟩:=h.mem
   exact .inr ⟨nd.1 b (List.mem_map.2 ⟨_,h0,rfl⟩),.head _⟩
  | tail _ hm =>
   rcases ih nd.2 c s u hm with ⟨e1,e2,r0,h0⟩ | ⟨e1,h0⟩
   ·exact .inl ⟨e1,e2,r0,.tail _ h0⟩
   ·exact .inr ⟨e1,.tail _ h0⟩
theorem Loc.setRow {w0 w:World} {M M':Mem} (h:Loc w0 w M) {b:Nat} {r':Array Value} (hu:Upd M b r' M'):Loc w0 (w.setRow b r') M':=by
 obtain ⟨r0,t0,h0⟩:=hu.mem
 refine ⟨below_setRow h.bel (h.ge h0) _,fun c r t hm=>?_,by rw [hu.fst];exact h.nd⟩
 rcases hu.back h.nd c r t hm with ⟨rfl,rfl,r1,h1⟩ | ⟨hne,h1⟩
 ·exact ⟨h.ge h1,heap_setRow_at (h.get h1)⟩
 ·exact ⟨h.ge h1,(heap_setRow_far hne).trans (h.get h1)⟩
theorem Loc.setCell {w0 w:World} {M M':Mem} (h:Loc w0 w M) {b n k:Nat} {S:Nat→Value} {t:TypeId} (v:Value) (hm:(b,row n S,t)∈M) (hk:k<n) (hu:Upd M b (row n (upd S k v)) M'):Loc w0 (w.setCell ⟨b,k,none⟩ v) M':=by
 refine ⟨h.bel.setCell (h.ge hm) _,fun c r t' hm'=>?_,by rw [hu.fst];exact h.nd⟩
 rcases hu.back h.nd c r t' hm' with ⟨rfl,rfl,r1,h1⟩ | ⟨hne,h1⟩
 ·refine ⟨h.ge h1,?_⟩
  have e:r1=row n S∧t'=t:=by
   have a1:=h.get h1
   rw [h.get hm] at a1
   cases a1
   exact ⟨rfl,rfl⟩
  obtain ⟨rfl,rfl⟩:=e
  exact heap_set_row _ (h.get hm) hk
 ·exact ⟨h.ge h1,(heap_setCell_other _ _ _ _ hne).trans (h.get h1)⟩
class At (M:Mem) (b:Nat) (r:outParam (Array Value)) (t:outParam TypeId):Prop where
 mem:(b,r,t)∈M
instance iLoc1 (e:Nat×Array Value×TypeId) (M:Mem) (b:Nat) (r:Array Value) (t:TypeId) [h:At M b r t]:At (e :: M) b r t:=⟨.tail _ h.mem⟩
instance iLoc2 (M:Mem) (b:Nat) (r:Array Value) (t:TypeId):At ((b,r,t) :: M) b r t:=⟨.head _⟩
class Ups (M:Mem) (b:Nat) (r:Array Value) (M':outParam Mem):Prop where
 upd:Upd M b r M'
instance iLoc3 (e:Nat×Array Value×TypeId) (M M':Mem) (b:Nat) (r:Array Value) [h:Ups M b r M']:Ups (e :: M) b r (e :: M'):=⟨.tail _ h.upd⟩
instance iLoc4 (M:Mem) (b:Nat) (r r':Array Value) (t:TypeId):Ups ((b,r,t) :: M) b r' ((b,r',t) :: M):=⟨.head _ _ _ _ _⟩
section
variable {ops:Array Oper} {rest:List Oper} {o:Oper} {a:Act} {w0 w:World} {M M':Mem} {Q:Exit→Act→World→Prop}
theorem wpList_box_loc (hL:Loc w0 w M) (hg:o.guard=none) {t:TypeId} {x:Operand} (ho:o.op= .box t x) {r:Array Value} (hx:a.eval x= .agg r)
 (h:∀ b w',Loc w0 w' ((b,r,t) :: M)→wpList Tryz.prog ops Q rest (a.put o.dst (.pointer (some ⟨b,0,none⟩))) w'):wpList Tryz.prog ops Q (o :: rest) a w :=
 Go.Great.wpList_boxTo hg t x ho o.dst rfl _ rfl r (by rw [hx];rfl) (h _ _ (hL.alloc r t))
theorem run_alloc_z {t:TypeId} {r:Array Value} (hz:(Tryz.prog.info? t).map (·.zero)=some (some (.agg r))) (w:World) (v:Value) :
 (Instr.alloc t true v).run Tryz.prog w= .ok (.pointer (some ⟨w.heap.size,0,none⟩)) (w.alloc (.cells r t)):=by
 cases hi:Tryz.prog.info? t with
 | none=>rw [hi] at hz;cases hz
 | some i =>
  rw [hi] at hz
  have hs:i.zero=some (.agg r):=by simpa using hz
  have h:=(zero_of_info (P:=Tryz.prog) (t:=t) (v:= .agg r) (n:=i.size) (by rw [hi];simp [hs])).1 w
  unfold Instr.alloc
  simp only [Sem.run_bind,h,Result.andThen_ok,newVar,newRow,newObj,Sem.run,Sem.run_pure,Value.cells]
  rfl
theorem wpList_alloc_loc (hL:Loc w0 w M) (hg:o.guard=none) {t:TypeId} (ho:o.op= .alloc t) {r:Array Value} [hz:RowZ t r]
 (h:∀ b w',Loc w0 w' ((b,r,t) :: M)→wpList Tryz.prog ops Q rest (a.put o.dst (.pointer (some ⟨b,0,none⟩))) w'):wpList Tryz.prog ops Q (o :: rest) a w :=
 wpList_plain hg fun _ hK=>by
  unfold Oper.wp execOp
  simp only [ho,Sem.run_bind,run_alloc_z hz.zero,Result.andThen_ok]
  exact hK _ _ (h _ _ (hL.alloc r t))
theorem wpList_load_loc (hL:Loc w0 w M) (hg:o.guard=none) {t:TypeId} {x:Operand} (ho:o.op= .load t x) {b:Nat} (hx:a.eval x= .pointer (some ⟨b,0,none⟩)) {r:Array Value} {n:Nat} [ht:RowTy t n] [hm:At M b r t] [hr:Row1 r n]
 (h:wpList Tryz.prog ops Q rest (a.put o.dst (.agg r)) w):wpList Tryz.prog ops Q (o :: rest) a w:=by
 obtain ⟨d,h1,h2⟩:=ht.und
 exact wpList_load_row hg t x ho b hx t r (0,0) d (hL.get hm.mem) h1 (by cases d <;> first | rfl | cases h2) (by rw [ht.size,hr.size]) h
theorem wpList_store_loc (hL:Loc w0 w M) (hg:o.guard=none) {t:TypeId} {x y:Operand} (ho:o.op= .store t x y) (hd:o.dst=none) {b:Nat} (hx:a.eval x= .pointer (some ⟨b,0,none⟩)) {r:Array Value} (hy:a.eval y= .agg r) {n:Nat} [hr:Row1 r n] [ht:RowTy t n]
 {old:Array Value} [hm:At M b old t] [hs:Row1 old n] [hu:Ups M b r M']
 (h:∀ w',Loc w0 w' M'→wpList Tryz.prog ops Q rest a w'):wpList Tryz.prog ops Q (o :: rest) a w :=
 wpList_store_rowTo hg t x y ho hd b r hx hy t old (hL.get hm.mem) (by rw [ht.size,hr.size]) (by rw [hs.size,hr.size]) hr.one (h _ (hL.setRow hu.upd))
theorem rangeAt_of_row {b:Nat} {r:Array Value} {t:TypeId} {fr:Nat×Nat} (hg:w.heap[b]?=some (.cells r t fr)) {k:Nat} {cs:List Value} (hc:∀ j v,cs[j]?=some v→r[k+j]?=some v):w.rangeAt b k cs:=fun j v hv=>by
 rw [cell_of_row w b (k+j) _ _ _ hg]
 exact hc j v hv
end
theorem results_loc2 {fn:Func} {p q:Tmp} {t:TypeId} (h:fn.results= #[.cell p t,.tmp q]) {w0 w:World} {M:Mem} (hL:Loc w0 w M) {tmps:Array Value} {b:Nat} (hp:tmps.getD p undef= .pointer (some ⟨b,0,none⟩)) {v:Value} (hv:tmps.getD q undef=v) {r:Array Value} {n:Nat} [ht:RowTy t n] [hm:At M b r t] [hr:Row1 r n] :
 (results fn tmps).run Tryz.prog w= .ok (.tuple #[.agg r,v]) w:=by
 obtain ⟨d,h1,h2⟩:=ht.und
 have hp':tmps[p]?.getD undef= .pointer (some ⟨b,0,none⟩):=by simpa using hp
 have hv':tmps[q]?.getD undef=v:=by simpa using hv
 have hl:=run_loadVar_row w b t t r (0,0) d (hL.get hm.mem) h1 (by cases d <;> first | rfl | cases h2) (by rw [ht.size,hr.size])
 simp [results,h,hp',hv',asAddr,hl]
theorem results_loc {fn:Func} {p:Tmp} {t:TypeId} (h:fn.results= #[.cell p t]) {w0 w:World} {M:Mem} (hL:Loc w0 w M) {tmps:Array Value} {b:Nat} (hp:tmps.getD p undef= .pointer (some ⟨b,0,none⟩)) {r:Array Value} {n:Nat} [ht:RowTy t n] [hm:At M b r t] [hr:Row1 r n] :
 (results fn tmps).run Tryz.prog w= .ok (.agg r) w:=by
 obtain ⟨d,h1,h2⟩:=ht.und
 exact results_cell_row h tmps w b t r (0,0) d hp (hL.get hm.mem) h1 (by cases d <;> first | rfl | cases h2) (by rw [ht.size,hr.size])
end Go.Proofs.YtoifhhljfaoejaaGreatDoor
