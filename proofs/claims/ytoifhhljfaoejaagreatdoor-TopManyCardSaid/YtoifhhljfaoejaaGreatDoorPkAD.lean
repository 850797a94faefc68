/-
  Lemmas of the law, part 4: the walks of the functions that it calls and the plain facts about them. No condition beyond those written.
-/
import Derived.Shelf.Abstract
import Derived.Test.YtoifhhljfaoejaaGreatDoorPkAC
namespace Go.Proofs.YtoifhhljfaoejaaGreatDoor
open Go.RowKit Go.Shelf
set_option linter.unusedVariables false
class Ent (f:FuncId):Prop where
 enter:Enters Tryz.prog f
class FnC (f:FuncId) (args:Array Value) (v:outParam Value):Prop where
 calls:∀ w,Calls Tryz.prog f args w fun e w'=>e= .returned v∧Below w.heap.size w w'
theorem Ent.of {f:FuncId} {fn:Func} {c:Code} (hf:Tryz.prog.funcs[f]?=some fn) (hname:(fn.name == "runtime.NumGoroutine")=false) (hb:fn.body=some c):Ent f:=⟨enters_of hf hname hb⟩
theorem run_fn {o:Oper} {ev:Operand→Value} {f:FuncId} {xs:Array Operand} {ts:Array TypeId} (ho:o.op= .call { callee:= .value (.func f),args:=xs,argTypes:=ts }) (hf:ev (.func f)= .func (.func f) #[] #[]) [he:Ent f] (w:World) :
 (execOp ev o).run Tryz.prog w= .ok (.enter f (xs.map ev)) w:=by
 unfold execOp
 simp only [ho,resolve,hf,Deferred.ofValue,Sem.run_bind,Sem.run_pure,Result.andThen_ok,invoke,Array.append_empty,Array.empty_append]
 exact he.enter (xs.map ev) w
class Part (r:Array Value) (u:TypeId) (k:Nat) (t:TypeId) (s:outParam (Array Value)):Prop where
 part:∀ (j:Nat) (v:Value),s.toList[j]?=some v→r[k+j]?=some v
instance iFn1 (r:Array Value) (u:TypeId):Part r u 0 u r:=⟨fun j v h=>by simpa using h⟩
section
variable {ops:Array Oper} {rest:List Oper} {o:Oper} {a:Act} {w0 w:World} {M M':Mem} {Q:Exit→Act→World→Prop}
theorem lB (hL:Loc w0 w M) (hg:o.guard=none) {t:TypeId} {x:Operand} (ho:o.op= .box t x) {r:Array Value} (hx:a.eval x= .agg r)
 (h:∀ b w',Loc w0 w' ((b,r,t) :: M)→wpList Tryz.prog ops Q rest (a.put o.dst (.pointer (some ⟨b,0,none⟩))) w'):wpList Tryz.prog ops Q (o :: rest) a w:=wpList_box_loc hL hg ho hx h
theorem lA (hL:Loc w0 w M) (hg:o.guard=none) {t:TypeId} (ho:o.op= .alloc t) {r:Array Value} [hz:RowZ t r]
 (h:∀ b w',Loc w0 w' ((b,r,t) :: M)→wpList Tryz.prog ops Q rest (a.put o.dst (.pointer (some ⟨b,0,none⟩))) w'):wpList Tryz.prog ops Q (o :: rest) a w:=wpList_alloc_loc hL hg ho h
theorem lL (hL:Loc w0 w M) (hg:o.guard=none) {t:TypeId} {x:Operand} (ho:o.op= .load t x) {b k:Nat} (hx:a.eval x= .pointer (some ⟨b,k,none⟩)) {r s:Array Value} {u:TypeId} {n:Nat} [ht:RowTy t n] [hm:At M b r u] [hp:Part r u k t s] [hr:Row1 s n]
 (h:∀ w',Loc w0 w' M→wpList Tryz.prog ops Q rest (a.put o.dst (.agg s)) w'):wpList Tryz.prog ops Q (o :: rest) a w:=by
 obtain ⟨d,h1,h2⟩:=ht.und
 have:=wpList_load_mid (ops:=ops) (rest:=rest) (Q:=Q) hg t x ho b k hx s.toList d (rangeAt_of_row (hL.get hm.mem) fun j v hv=>hp.part j v hv) h1 h2 (by rw [ht.size,Array.length_toList,hr.size])
 simp only [Array.toArray_toList] at this
 exact this (h w hL)
theorem lS (hL:Loc w0 w M) (hg:o.guard=none) {t:TypeId} {x y:Operand} (ho:o.op= .store t x y) (hd:o.dst=none) {b:Nat} (hx:a.eval x= .pointer (some ⟨b,0,none⟩)) {r:Array Value} (hy:a.eval y= .agg r) {n:Nat} [hr:Row1 r n] [ht:RowTy t n]
 {old:Array Value} [hm:At M b old t] [hs:Row1 old n] [hu:Ups M b r M']
 (h:∀ w',Loc w0 w' M'→wpList Tryz.prog ops Q rest a w'):wpList Tryz.prog ops Q (o :: rest) a w:=wpList_store_loc hL hg ho hd hx hy h
theorem lC (hL:Loc w0 w M) (hg:o.guard=none) {f:FuncId} {xs:Array Operand} {ts:Array TypeId} (ho:o.op= .call { callee:= .value (.func f),args:=xs,argTypes:=ts }) {args:Array Value} (hx:xs.map a.eval=args) [he:Ent f] {v:Value} [hf:FnC f args v]
 (h:∀ w',Loc w0 w' M→wpList Tryz.prog ops Q rest (a.put o.dst v) w'):wpList Tryz.prog ops Q (o :: rest) a w :=
 wpList_plain hg fun K hK=>by
  unfold Oper.wp
  rw [run_fn ho rfl w,hx,Oper.upon_enter]
  refine (hf.calls w).mono fun e w' hh=>?_
  obtain ⟨rfl,hb⟩:=hh
  exact hK _ _ (h w' (hL.keep hb))
theorem lC0 (hL:Loc w0 w M) (hg:o.guard=none) {f:FuncId} {ts:Array TypeId} (ho:o.op= .call { callee:= .value (.func f),args:= #[],argTypes:=ts }) [he:Ent f] {v:Value} [hf:FnC f #[] v]
 (h:∀ w',Loc w0 w' M→wpList Tryz.prog ops Q rest (a.put o.dst v) w'):wpList Tryz.prog ops Q (o :: rest) a w:=lC (args:= #[]) hL hg ho (by simp) h
theorem lC1 (hL:Loc w0 w M) (hg:o.guard=none) {f:FuncId} {x:Operand} {ts:Array TypeId} (ho:o.op= .call { callee:= .value (.func f),args:= #[x],argTypes:=ts }) {r:Array Value} (hx:a.eval x= .agg r) [he:Ent f] {v:Value} [hf:FnC f #[.agg r] v]
 (h:∀ w',Loc w0 w' M→wpList Tryz.prog ops Q rest (a.put o.dst v) w'):wpList Tryz.prog ops Q (o :: rest) a w:=lC (args:= #[.agg r]) hL hg ho (by simp [hx]) h
theorem lC2 (hL:Loc w0 w M) (hg:o.guard=none) {f:FuncId} {x y:Operand} {ts:Array TypeId} (ho:o.op= .call { callee:= .value (.func f),args:= #[x,y],argTypes:=ts }) {r s:Array Value} (hx:a.eval x= .agg r) (hy:a.eval y= .agg s) [he:Ent f] {v:Value} [hf:FnC f #[.agg r,.agg s] v]
 (h:∀ w',Loc w0 w' M→wpList Tryz.prog ops Q rest (a.put o.dst v) w'):wpList Tryz.prog ops Q (o :: rest) a w:=lC (args:= #[.agg r,.agg s]) hL hg ho (by simp [hx,hy]) h
theorem lC3 (hL:Loc w0 w M) (hg:o.guard=none) {f:FuncId} {x y:Operand} {ts:Array TypeId} (ho:o.op= .call { callee:= .value (.func f),args:= #[x,y],argTypes:=ts }) {r:Array Value} {k:IntKind} {n:Int} (hx:a.eval x= .agg r) (hy:a.eval y= .int k n) [he:Ent f] {v:Value} [hf:FnC f #[.agg r,.int k n] v]
 (h:∀ w',Loc w0 w' M→wpList Tryz.prog ops Q rest (a.put o.dst v) w'):wpList Tryz.prog ops Q (o :: rest) a w:=lC (args:= #[.agg r,.int k n]) hL hg ho (by simp [hx,hy]) h
theorem lVa (hL:Loc w0 w M) (hg:o.guard=none) {x:Operand} (ho:o.op= .assign x) {r:Array Value} (hx:a.eval x= .agg r)
 (h:∀ w',Loc w0 w' M→wpList Tryz.prog ops Q rest (a.put o.dst (.agg r)) w'):wpList Tryz.prog ops Q (o :: rest) a w :=
 wpList_plain hg fun K hK=>by
  unfold Oper.wp execOp
  simp only [ho,hx,Sem.run_pure]
  exact hK _ _ (h w hL)
theorem lVi (hL:Loc w0 w M) (hg:o.guard=none) {x:Operand} (ho:o.op= .assign x) {k:IntKind} {n:Int} (hx:a.eval x= .int k n)
 (h:∀ w',Loc w0 w' M→wpList Tryz.prog ops Q rest (a.put o.dst (.int k n)) w'):wpList Tryz.prog ops Q (o :: rest) a w :=
 wpList_plain hg fun K hK=>by
  unfold Oper.wp execOp
  simp only [ho,hx,Sem.run_pure]
  exact hK _ _ (h w hL)
theorem lVb (hL:Loc w0 w M) (hg:o.guard=none) {x:Operand} (ho:o.op= .assign x) {c:Bool} (hx:a.eval x= .bool c)
 (h:∀ w',Loc w0 w' M→wpList Tryz.prog ops Q rest (a.put o.dst (.bool c)) w'):wpList Tryz.prog ops Q (o :: rest) a w :=
 wpList_plain hg fun K hK=>by
  unfold Oper.wp execOp
  simp only [ho,hx,Sem.run_pure]
  exact hK _ _ (h w hL)
theorem lVp (hL:Loc w0 w M) (hg:o.guard=none) {x:Operand} (ho:o.op= .assign x) {p:Option Addr} (hx:a.eval x= .pointer p)
 (h:∀ w',Loc w0 w' M→wpList Tryz.prog ops Q rest (a.put o.dst (.pointer p)) w'):wpList Tryz.prog ops Q (o :: rest) a w :=
 wpList_plain hg fun K hK=>by
  unfold Oper.wp execOp
  simp only [ho,hx,Sem.run_pure]
  exact hK _ _ (h w hL)
theorem lVs (hL:Loc w0 w M) (hg:o.guard=none) {x:Operand} (ho:o.op= .assign x) {p:Option Addr} {n c:Nat} (hx:a.eval x= .slice p n c)
 (h:∀ w',Loc w0 w' M→wpList Tryz.prog ops Q rest (a.put o.dst (.slice p n c)) w'):wpList Tryz.prog ops Q (o :: rest) a w :=
 wpList_plain hg fun K hK=>by
  unfold Oper.wp execOp
  simp only [ho,hx,Sem.run_pure]
  exact hK _ _ (h w hL)
theorem lVt (hL:Loc w0 w M) (hg:o.guard=none) {x:Operand} (ho:o.op= .assign x) {r:Array Value} (hx:a.eval x= .tuple r)
 (h:∀ w',Loc w0 w' M→wpList Tryz.prog ops Q rest (a.put o.dst (.tuple r)) w'):wpList Tryz.prog ops Q (o :: rest) a w :=
 wpList_plain hg fun K hK=>by
  unfold Oper.wp execOp
  simp only [ho,hx,Sem.run_pure]
  exact hK _ _ (h w hL)
end
section
variable {ops:Array Oper} {l:List (Oper×Bool)} {a:Act} {R:Act→Prop} {w0:World} {M:Mem} {o:Oper}
theorem sL (hg:o.guard=none) {t:TypeId} {x:Operand} (ho:o.op= .load t x) {b k:Nat} (hx:a.eval x= .pointer (some ⟨b,k,none⟩)) {r s:Array Value} {u:TypeId} {n:Nat} [ht:RowTy t n] [hm:At M b r u] [hp:Part r u k t s] [hr:Row1 s n]
 (h:seqO Tryz.prog ops (fun w=>Loc w0 w M) l (a.put o.dst (.agg s)) R):seqO Tryz.prog ops (fun w=>Loc w0 w M) ((o,false) :: l) a R:=by
 obtain ⟨d,h1,h2⟩:=ht.und
 have hy:=yieldsIf_load_mid (P:=Tryz.prog) (ops:=ops) (S:=fun w=>Loc w0 w M) (op:=o) (a:=a) (by simp [Region.wanted,hg]) t x ho b k hx s.toList d (fun w h=>rangeAt_of_row (h.get hm.mem) fun j v hv=>hp.part j v hv) h1 h2 (by rw [ht.size,Array.length_toList,hr.size])
 simp only [Array.toArray_toList] at hy
 rcases hy with ⟨hw,hv⟩ | ⟨_,h0⟩
 ·exact ⟨_,⟨hw,fun w hS=> .inl (hv w hS)⟩,h⟩
 ·cases h0
theorem sC (hg:o.guard=none) {f:FuncId} {xs:Array Operand} {ts:Array TypeId} (ho:o.op= .call { callee:= .value (.func f),args:=xs,argTypes:=ts }) {args:Array Value} (hx:xs.map a.eval=args) [he:Ent f] {v:Value} [hf:FnC f args v]
 (h:seqO Tryz.prog ops (fun w=>Loc w0 w M) l (a.put o.dst v) R):seqO Tryz.prog ops (fun w=>Loc w0 w M) ((o,false) :: l) a R :=
 seqO_call hg (fun w=>by rw [run_fn ho rfl w,hx]) (fun w _=>hf.calls w) h
theorem sC0 (hg:o.guard=none) {f:FuncId} {ts:Array TypeId} (ho:o.op= .call { callee:= .value (.func f),args:= #[],argTypes:=ts }) [he:Ent f] {v:Value} [hf:FnC f #[] v]
 (h:seqO Tryz.prog ops (fun w=>Loc w0 w M) l (a.put o.dst v) R):seqO Tryz.prog ops (fun w=>Loc w0 w M) ((o,false) :: l) a R:=sC (args:= #[]) hg ho (by simp) h
theorem sC1 (hg:o.guard=none) {f:FuncId} {x:Operand} {ts:Array TypeId} (ho:o.op= .call { callee:= .value (.func f),args:= #[x],argTypes:=ts }) {r:Array Value} (hx:a.eval x= .agg r) [he:Ent f] {v:Value} [hf:FnC f #[.agg r] v]
 (h:seqO Tryz.prog ops (fun w=>Loc w0 w M) l (a.put o.dst v) R):seqO Tryz.prog ops (fun w=>Loc w0 w M) ((o,false) :: l) a R:=sC (args:= #[.agg r]) hg ho (by simp [hx]) h
theorem sC2 (hg:o.guard=none) {f:FuncId} {x y:Operand} {ts:Array TypeId} (ho:o.op= .call { callee:= .value (.func f),args:= #[x,y],argTypes:=ts }) {r s:Array Value} (hx:a.eval x= .agg r) (hy:a.eval y= .agg s) [he:Ent f] {v:Value} [hf:FnC f #[.agg r,.agg s] v]
 (h:seqO Tryz.prog ops (fun w=>Loc w0 w M) l (a.put o.dst v) R):seqO Tryz.prog ops (fun w=>Loc w0 w M) ((o,false) :: l) a R:=sC (args:= #[.agg r,.agg s]) hg ho (by simp [hx,hy]) h
theorem sC3 (hg:o.guard=none) {f:FuncId} {x y:Operand} {ts:Array TypeId} (ho:o.op= .call { callee:= .value (.func f),args:= #[x,y],argTypes:=ts }) {r:Array Value} {k:IntKind} {n:Int} (hx:a.eval x= .agg r) (hy:a.eval y= .int k n) [he:Ent f] {v:Value} [hf:FnC f #[.agg r,.int k n] v]
 (h:seqO Tryz.prog ops (fun w=>Loc w0 w M) l (a.put o.dst v) R):seqO Tryz.prog ops (fun w=>Loc w0 w M) ((o,false) :: l) a R:=sC (args:= #[.agg r,.int k n]) hg ho (by simp [hx,hy]) h
end
class ScTy (t:TypeId):Prop where
 agg:∀ w,(isAgg t).run Tryz.prog w= .ok false w
 size:(Tryz.prog.info? t).map (·.size)=some 1
class Cell (r:Array Value) (k:Nat) (v:outParam Value):Prop where
 cell:r[k]?=some v
class Put (r:Array Value) (k:Nat) (v:Value) (s:outParam (Array Value)):Prop where
 put:r.setIfInBounds k v=s
 lt:k<r.size
theorem run_load_sc {t:TypeId} [ht:ScTy t] {w:World} {b k:Nat} {v:Value} (hc:w.cell? ⟨b,k,none⟩=some v):(loadVar t ⟨b,k,none⟩).run Tryz.prog w= .ok v w:=by
 unfold loadVar
 simp [Sem.run_bind,ht.agg,load,Sem.run,hc]
theorem run_store_sc {t:TypeId} [ht:ScTy t] {w:World} {b k:Nat} {v:Value} (hc:(w.cell? ⟨b,k,none⟩).isSome=true) (hf:w.frozen? ⟨b,k,none⟩=false) (h1:v.oneCell'=true) :
 (storeVar t ⟨b,k,none⟩ v).run Tryz.prog w= .ok () (w.setCell ⟨b,k,none⟩ v):=by
 have hv:v.cells= #[v]:=by cases v <;> first | rfl | cases h1
 have:=run_storeCells_cells (P:=Tryz.prog) b k [v] 0 w (fun j hj=>by
  obtain rfl:j=0:=by simpa using hj
  simpa using hc) (fun j hj=>by
  obtain rfl:j=0:=by simpa using hj
  simpa using hf) (fun x hx=>by simp at hx;subst hx;exact h1)
 cases hq:Tryz.prog.info? t with
 | none=>have:=ht.size;rw [hq] at this;cases this
 | some i =>
  have hs:i.size=1:=by have:=ht.size;rw [hq] at this;simpa using this
  simp only [Nat.add_zero] at this
  simp [storeVar,sizeOf,typeInfo,hq,hv,hs,this]
  rfl
theorem Loc.put {w0 w:World} {M M':Mem} (h:Loc w0 w M) {b k:Nat} {r:Array Value} {t:TypeId} (v:Value) (hm:(b,r,t)∈M) (hu:Upd M b (r.setIfInBounds k v) M'):Loc w0 (w.setCell ⟨b,k,none⟩ v) M':=by
 refine ⟨h.bel.setCell (h.ge hm) _,fun c r' t' hm'=>?_,by rw [hu.fst];exact h.nd⟩
 rcases hu.back h.nd c r' t' hm' with ⟨rfl,rfl,r1,h1⟩ | ⟨hne,h1⟩
 ·refine ⟨h.ge h1,?_⟩
  have e:r1=r∧t'=t:=by
   have a1:=h.get h1
   rw [h.get hm] at a1
   cases a1
   exact ⟨rfl,rfl⟩
  obtain ⟨rfl,rfl⟩:=e
  exact heap_setCell_same w c k r1 t' v (h.get hm)
 ·exact ⟨h.ge h1,(heap_setCell_other _ _ _ _ hne).trans (h.get h1)⟩
instance iFn2:ScTy 227:=⟨fun w=>by kernel_rfl,by kernel_rfl⟩
instance iFn3:ScTy 5:=⟨fun w=>by kernel_rfl,by kernel_rfl⟩
instance iFn4:ScTy 3:=⟨fun w=>by kernel_rfl,by kernel_rfl⟩
section
variable {ops:Array Oper} {rest:List Oper} {l:List (Oper×Bool)} {R:Act→Prop} {o:Oper} {a:Act} {w0 w:World} {M M':Mem} {Q:Exit→Act→World→Prop}
theorem lI (hL:Loc w0 w M) (hg:o.guard=none) {t:TypeId} {x:Operand} (ho:o.op= .load t x) {b k:Nat} (hx:a.eval x= .pointer (some ⟨b,k,none⟩)) {r:Array Value} {u:TypeId} {v:Value} [ht:ScTy t] [hm:At M b r u] [hc:Cell r k v]
 (h:∀ w',Loc w0 w' M→wpList Tryz.prog ops Q rest (a.put o.dst v) w'):wpList Tryz.prog ops Q (o :: rest) a w :=
 wpList_plain hg fun K hK=>by
  unfold Oper.wp execOp
  have:=run_load_sc (t:=t) (w:=w) (b:=b) (k:=k) (v:=v) (by rw [cell_of_row w b k _ _ _ (hL.get hm.mem)];exact hc.cell)
  simp only [ho,hx,Instr.loadAt,Instr.sureAddr,Sem.run_bind,Sem.run_pure,Result.andThen_ok,this]
  exact hK _ _ (h w hL)
theorem sI (hg:o.guard=none) {t:TypeId} {x:Operand} (ho:o.op= .load t x) {b k:Nat} (hx:a.eval x= .pointer (some ⟨b,k,none⟩)) {r:Array Value} {u:TypeId} {v:Value} [ht:ScTy t] [hm:At M b r u] [hc:Cell r k v]
 (h:seqO Tryz.prog ops (fun w=>Loc w0 w M) l (a.put o.dst v) R):seqO Tryz.prog ops (fun w=>Loc w0 w M) ((o,false) :: l) a R :=
 seqO_keep hg (fun w hS=>by
  unfold execOp
  have:=run_load_sc (t:=t) (w:=w) (b:=b) (k:=k) (v:=v) (by rw [cell_of_row w b k _ _ _ (hS.get hm.mem)];exact hc.cell)
  simp only [ho,hx,Instr.loadAt,Instr.sureAddr,Sem.run_bind,Sem.run_pure,Result.andThen_ok,this]) h
theorem lT (hL:Loc w0 w M) (hg:o.guard=none) {t:TypeId} {x y:Operand} (ho:o.op= .store t x y) (hd:o.dst=none) {b k:Nat} (hx:a.eval x= .pointer (some ⟨b,k,none⟩)) {d:IntKind} {n:Int} (hy:a.eval y= .int d n) {r s:Array Value} {u:TypeId} [ht:ScTy t] [hm:At M b r u] [hp:Put r k (.int d n) s] [hu:Ups M b s M']
 (h:∀ w',Loc w0 w' M'→wpList Tryz.prog ops Q rest a w'):wpList Tryz.prog ops Q (o :: rest) a w :=
 wpList_plain hg fun K hK=>by
  unfold Oper.wp execOp
  have hs:=run_store_sc (t:=t) (w:=w) (b:=b) (k:=k) (v:= .int d n) (by rw [cell_of_row w b k _ _ _ (hL.get hm.mem),Array.getElem?_eq_getElem hp.lt];rfl) (frozen_of_row w _ _ _ _ (hL.get hm.mem)) rfl
  simp only [ho,hx,hy,Instr.storeAt,Instr.sureAddr,Sem.run_bind,Sem.run_pure,Result.andThen_ok,hs]
  have:=h _ (hL.put (.int d n) hm.mem (by rw [hp.put];exact hu.upd))
  refine hK _ _ ?_
  rw [hd]
  exact this
theorem lC4 (hL:Loc w0 w M) (hg:o.guard=none) {f:FuncId} {x y:Operand} {ts:Array TypeId} (ho:o.op= .call { callee:= .value (.func f),args:= #[x,y],argTypes:=ts }) {d k:IntKind} {m n:Int} (hx:a.eval x= .int d m) (hy:a.eval y= .int k n) [he:Ent f] {v:Value} [hf:FnC f #[.int d m,.int k n] v]
 (h:∀ w',Loc w0 w' M→wpList Tryz.prog ops Q rest (a.put o.dst v) w'):wpList Tryz.prog ops Q (o :: rest) a w:=lC (args:= #[.int d m,.int k n]) hL hg ho (by simp [hx,hy]) h
theorem sC4 (hg:o.guard=none) {f:FuncId} {x y:Operand} {ts:Array TypeId} (ho:o.op= .call { callee:= .value (.func f),args:= #[x,y],argTypes:=ts }) {d k:IntKind} {m n:Int} (hx:a.eval x= .int d m) (hy:a.eval y= .int k n) [he:Ent f] {v:Value} [hf:FnC f #[.int d m,.int k n] v]
 (h:seqO Tryz.prog ops (fun w=>Loc w0 w M) l (a.put o.dst v) R):seqO Tryz.prog ops (fun w=>Loc w0 w M) ((o,false) :: l) a R:=sC (args:= #[.int d m,.int k n]) hg ho (by simp [hx,hy]) h
end
section
variable {ops:Array Oper} {rest:List Oper} {l:List (Oper×Bool)} {R:Act→Prop} {S:World→Prop} {o:Oper} {a:Act} {w0 w:World} {M M':Mem} {Q:Exit→Act→World→Prop}
theorem lU (hL:Loc w0 w M) (hg:o.guard=none) {t:TypeId} {ps:Array (Nat×Operand)} (ho:o.op= .build t ps) {vs:Array (Nat×Value)} {r:Array Value} (hb:∀ w,(Instr.build t vs).run Tryz.prog w= .ok (.agg r) w) (hv:(ps.toList.map fun x=>(x.1,a.eval x.2))=vs.toList)
 (h:∀ w',Loc w0 w' M→wpList Tryz.prog ops Q rest (a.put o.dst (.agg r)) w'):wpList Tryz.prog ops Q (o :: rest) a w :=
 wpList_plain hg fun K hK=>by
  have hv:(ps.map fun x=>(x.1,a.eval x.2))=vs:=by rw [← Array.toList_inj,Array.toList_map];exact hv
  subst hv
  unfold Oper.wp execOp
  simp only [ho,Sem.run_bind,hb,Result.andThen_ok,Sem.run_pure]
  exact hK _ _ (h w hL)
theorem sU (hg:o.guard=none) {t:TypeId} {ps:Array (Nat×Operand)} (ho:o.op= .build t ps) {vs:Array (Nat×Value)} {r:Array Value} (hb:∀ w,(Instr.build t vs).run Tryz.prog w= .ok (.agg r) w) (hv:(ps.toList.map fun x=>(x.1,a.eval x.2))=vs.toList)
 (h:seqO Tryz.prog ops S l (a.put o.dst (.agg r)) R):seqO Tryz.prog ops S ((o,true) :: l) a R:=seqO_pure hg (fun w=>by
 have hv:(ps.map fun x=>(x.1,a.eval x.2))=vs:=by rw [← Array.toList_inj,Array.toList_map];exact hv
 subst hv
 unfold execOp
 simp only [ho,Sem.run_bind,hb,Result.andThen_ok,Sem.run_pure]) h
end
section
variable {ops:Array Oper} {rest:List Oper} {l:List (Oper×Bool)} {R:Act→Prop} {o:Oper} {a:Act} {w0 w:World} {M M':Mem} {Q:Exit→Act→World→Prop}
theorem lC5 (hL:Loc w0 w M) (hg:o.guard=none) {f:FuncId} {x:Operand} {ts:Array TypeId} (ho:o.op= .call { callee:= .value (.func f),args:= #[x],argTypes:=ts }) {k:IntKind} {n:Int} (hx:a.eval x= .int k n) [he:Ent f] {v:Value} [hf:FnC f #[.int k n] v]
 (h:∀ w',Loc w0 w' M→wpList Tryz.prog ops Q rest (a.put o.dst v) w'):wpList Tryz.prog ops Q (o :: rest) a w:=lC (args:= #[.int k n]) hL hg ho (by simp [hx]) h
theorem sC5 (hg:o.guard=none) {f:FuncId} {x:Operand} {ts:Array TypeId} (ho:o.op= .call { callee:= .value (.func f),args:= #[x],argTypes:=ts }) {k:IntKind} {n:Int} (hx:a.eval x= .int k n) [he:Ent f] {v:Value} [hf:FnC f #[.int k n] v]
 (h:seqO Tryz.prog ops (fun w=>Loc w0 w M) l (a.put o.dst v) R):seqO Tryz.prog ops (fun w=>Loc w0 w M) ((o,false) :: l) a R:=sC (args:= #[.int k n]) hg ho (by simp [hx]) h
end
theorem row_cell {n k:Nat} (S:Nat→Value) (h:k<n):Cell (row n S) k (S k):=⟨row_get S h⟩
theorem row_put {n k:Nat} {S:Nat→Value} {v:Value} {r:Array Value} (h:k<n) (e:row n (upd S k v)=r):Put (row n S) k v r:=⟨(row_set S v h).trans e,by rw [row_size];exact h⟩
end Go.Proofs.YtoifhhljfaoejaaGreatDoor
