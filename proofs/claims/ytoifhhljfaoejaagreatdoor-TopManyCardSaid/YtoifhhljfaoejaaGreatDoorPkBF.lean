/-
  Lemmas of the law, part 32: the walks of the functions that it calls and the plain facts about them. No condition beyond those written.
-/
import Derived.Test.YtoifhhljfaoejaaGreatDoorPkBE
import Derived.Test.YtoifhhljfaoejaaGreatDoorPkAA
namespace Go.Proofs.YtoifhhljfaoejaaGreatDoor
open Go Go.RowKit Go.Shelf
set_option linter.unusedVariables false
set_option linter.unusedSectionVars false
class One (v:Value):Prop where
 one:v.oneCell'=true
instance iObj1 (d:IntKind) (n:Int):One (.int d n):=⟨rfl⟩
instance iObj2 (p:Option Addr) (n c:Nat):One (.slice p n c):=⟨rfl⟩
instance iObj3 (b:Bool):One (.bool b):=⟨rfl⟩
class CellL (l:List Value) (k:Nat) (v:outParam Value):Prop where
 cell:l[k]?=some v
instance iObj5 (a:Value) (l:List Value):CellL (a :: l) 0 a:=⟨rfl⟩
instance iObj6 (a:Value) (l:List Value) (k:Nat) (v:Value) [h:CellL l k v]:CellL (a :: l) (k+1) v:=⟨by simpa using h.cell⟩
instance iObj7 (l:List Value) (k:Nat) (v:Value) [h:CellL l k v]:Cell l.toArray k v:=⟨by simpa using h.cell⟩
class PutL (l:List Value) (k:Nat) (v:Value) (l':outParam (List Value)):Prop where
 put:l.set k v=l'
 lt:k<l.length
instance iObj8 (a v:Value) (l:List Value):PutL (a :: l) 0 v (v :: l):=⟨rfl,by simp⟩
instance iObj9 (a v:Value) (l l':List Value) (k:Nat) [h:PutL l k v l']:PutL (a :: l) (k+1) v (a :: l'):=⟨by simp [h.put],by have:=h.lt;simp;omega⟩
instance iObj10 (l l':List Value) (k:Nat) (v:Value) [h:PutL l k v l']:Put l.toArray k v l'.toArray:=⟨by simp [h.put],by simpa using h.lt⟩
class RowL (l:List Value) (n:outParam Nat):Prop where
 len:l.length=n
 one:∀ u∈l,u.oneCell'=true
instance iObj11:RowL [] 0:=⟨rfl,fun u hu=>(List.not_mem_nil hu).elim⟩
instance iObj12 (a:Value) (l:List Value) (n:Nat) [ha:One a] [h:RowL l n]:RowL (a :: l) (n+1):=⟨by simp [h.len],fun u hu=>by
 rcases List.mem_cons.1 hu with rfl | hu
 ·exact ha.one
 ·exact h.one u hu⟩
theorem row1_of {l:List Value} {n:Nat} [h:RowL l n]:Row1 l.toArray n:=⟨by simpa using h.len,by simpa using h.one⟩
instance iObj13 (a:Value) (l:List Value) (n:Nat) [h:RowL (a :: l) n]:Row1 (a :: l).toArray n:=row1_of
instance iObj14:ScTy 4:=⟨fun w=>by kernel_rfl,by kernel_rfl⟩
instance iObj15:ScTy 29:=⟨fun w=>by kernel_rfl,by kernel_rfl⟩
instance iObj16:ScTy 53:=⟨fun w=>by kernel_rfl,by kernel_rfl⟩
section
variable {ops:Array Oper} {rest:List Oper} {o:Oper} {a:Act} {w0 w:World} {M M':Mem} {Q:Exit→Act→World→Prop}
theorem lTg (hL:Loc w0 w M) (hg:o.guard=none) {t:TypeId} {x y:Operand} (ho:o.op= .store t x y) (hd:o.dst=none) {b k:Nat} (hx:a.eval x= .pointer (some ⟨b,k,none⟩)) {v:Value} (hy:a.eval y=v) (h1:v.oneCell'=true) {r s:Array Value} {u:TypeId} [ht:ScTy t] [hm:At M b r u] [hp:Put r k v s] [hu:Ups M b s M']
 (h:∀ w',Loc w0 w' M'→wpList Tryz.prog ops Q rest a w'):wpList Tryz.prog ops Q (o :: rest) a w :=
 wpList_plain hg fun K hK=>by
  unfold Oper.wp execOp
  have hs:=run_store_sc (t:=t) (w:=w) (b:=b) (k:=k) (v:=v) (by rw [cell_of_row w b k _ _ _ (hL.get hm.mem),Array.getElem?_eq_getElem hp.lt];rfl) (frozen_of_row w _ _ _ _ (hL.get hm.mem)) h1
  simp only [ho,hx,hy,Instr.storeAt,Instr.sureAddr,Sem.run_bind,Sem.run_pure,Result.andThen_ok,hs]
  have:=h _ (hL.put v hm.mem (by rw [hp.put];exact hu.upd))
  refine hK _ _ ?_
  rw [hd]
  exact this
theorem lTs (hL:Loc w0 w M) (hg:o.guard=none) {t:TypeId} {x y:Operand} (ho:o.op= .store t x y) (hd:o.dst=none) {b k:Nat} (hx:a.eval x= .pointer (some ⟨b,k,none⟩)) {p:Option Addr} {n c:Nat} (hy:a.eval y= .slice p n c) {r s:Array Value} {u:TypeId} [ht:ScTy t] [hm:At M b r u] [hp:Put r k (.slice p n c) s] [hu:Ups M b s M']
 (h:∀ w',Loc w0 w' M'→wpList Tryz.prog ops Q rest a w'):wpList Tryz.prog ops Q (o :: rest) a w:=lTg hL hg ho hd hx hy rfl h
theorem lTb (hL:Loc w0 w M) (hg:o.guard=none) {t:TypeId} {x y:Operand} (ho:o.op= .store t x y) (hd:o.dst=none) {b k:Nat} (hx:a.eval x= .pointer (some ⟨b,k,none⟩)) {d:Bool} (hy:a.eval y= .bool d) {r s:Array Value} {u:TypeId} [ht:ScTy t] [hm:At M b r u] [hp:Put r k (.bool d) s] [hu:Ups M b s M']
 (h:∀ w',Loc w0 w' M'→wpList Tryz.prog ops Q rest a w'):wpList Tryz.prog ops Q (o :: rest) a w:=lTg hL hg ho hd hx hy rfl h
theorem lTp (hL:Loc w0 w M) (hg:o.guard=none) {t:TypeId} {x y:Operand} (ho:o.op= .store t x y) (hd:o.dst=none) {b k:Nat} (hx:a.eval x= .pointer (some ⟨b,k,none⟩)) {p:Option Addr} (hy:a.eval y= .pointer p) {r s:Array Value} {u:TypeId} [ht:ScTy t] [hm:At M b r u] [hp:Put r k (.pointer p) s] [hu:Ups M b s M']
 (h:∀ w',Loc w0 w' M'→wpList Tryz.prog ops Q rest a w'):wpList Tryz.prog ops Q (o :: rest) a w:=lTg hL hg ho hd hx hy rfl h
end
section
variable {ops:Array Oper} {rest:List Oper} {o:Oper} {a:Act} {w0 w:World} {M M':Mem} {Q:Exit→Act→World→Prop}
theorem lCall (hg:o.guard=none) {f:FuncId} {xs:Array Operand} {ts:Array TypeId} (ho:o.op= .call { callee:= .value (.func f),args:=xs,argTypes:=ts }) [he:Ent f] {l:List Value}
 (hc:Calls Tryz.prog f l.toArray w fun e w'=>∃ v,e= .returned v∧wpList Tryz.prog ops Q rest (a.put o.dst v) w') (hx:xs.toList.map a.eval=l):wpList Tryz.prog ops Q (o :: rest) a w :=
 wpList_plain hg fun K hK=>by
  unfold Oper.wp
  have e:xs.map a.eval=l.toArray:=by rw [← Array.toList_inj,Array.toList_map];exact hx
  rw [run_fn ho rfl w,e,Oper.upon_enter]
  refine hc.mono fun e w' hh=>?_
  obtain ⟨v,rfl,h⟩:=hh
  exact hK _ _ h
end
theorem Loc.join {w0 w w':World} {M N:Mem} (h:Loc w0 w M) (hN:Loc w w' N):Loc w0 w' (N ++ M):=by
 refine ⟨h.bel.trans (hN.bel.mono h.bel.size),fun b r t hm=>?_,?_⟩
 ·rcases List.mem_append.1 hm with hm | hm
  ·exact ⟨Nat.le_trans h.bel.size (hN.ge hm),hN.get hm⟩
  ·exact ⟨h.ge hm,(hN.bel.block b (h.lt hm)).trans (h.get hm)⟩
 ·rw [List.map_append,List.pairwise_append]
  refine ⟨hN.nd,h.nd,fun x hx y hy=>?_⟩
  obtain ⟨⟨b,r,t⟩,hb,rfl⟩:=List.mem_map.1 hx
  obtain ⟨⟨c,s,u⟩,hc,rfl⟩:=List.mem_map.1 hy
  have:=hN.ge hb
  have:=h.lt hc
  simp only
  omega
theorem Seg.drop {r:Array Value} {off n:Nat} {l:List (BitVec 8)} (h:Seg r off n (encB l)) (m:Nat) (hm:m≤n):Seg r (off+m) (n - m) (encB (l.drop m)) where
 len:=by have:=h.len;rw [encB_length] at *; rw [List.length_drop,this]
 one:=encB_one' _
 seg:=fun i hi=>by
  rw [encB_length,List.length_drop] at hi
  have:=h.seg (m+i) (by rw [encB_length];omega)
  rw [Nat.add_assoc,this]
  simp [encB]
theorem Seg.take {r:Array Value} {off n:Nat} {l:List (BitVec 8)} (h:Seg r off n (encB l)) (m:Nat) (hm:m≤n):Seg r off m (encB (l.take m)) where
 len:=by have:=h.len;rw [encB_length] at *; rw [List.length_take,this];omega
 one:=encB_one' _
 seg:=fun i hi=>by
  rw [encB_length,List.length_take] at hi
  have:=h.seg i (by rw [encB_length];omega)
  rw [this]
  simp [encB]
theorem OwnR.segB {cur:Array Value} {n cap:Nat} {l:List (BitVec 8)} (h:OwnR cur n cap (encB l)):Seg cur 0 n (encB l):=by
 have:=h.seg 0 n (by omega)
 have hl:=h.1
 rw [List.drop_zero,List.take_of_length_le (by omega)] at this
 exact this
def Onward (rest:Code) (l:Nat) (Q:Exit→Act→World→Prop) (a:Act) (w:World):Prop:=rest.wp Tryz.prog (Exit.jump l (fun _ _=>False) Q) a w
theorem wp_scope_once {c rest:Code} {Q:Exit→Act→World→Prop} {a:Act} {w:World} (l:Nat) (hf:findLabel c l=some (Code.skip.seq rest))
 (h:c.wp Tryz.prog (Exit.jump l (Onward rest l Q) Q) a w):(Code.scope c).wp Tryz.prog Q a w :=
 wp_scope_from l (Onward rest l Q) (fun _ _=>0) hf (fun a w hJ=>Code.wp_mono (fun e a w q=>by
  cases e with
  | goto l'=>exact q.2.elim
  | normal=>exact q
  | exit id=>exact q
  | ret=>exact q
  | panic ch=>exact q
  | outgrown=>exact q) hJ) (fun _=>h)
class Held (S:World→Prop) (b:Nat) (r:outParam (Array Value)) (u:outParam TypeId):Prop where
 get:∀ w,S w→w.heap[b]?=some (.cells r u (0,0))
instance held0 (w0:World) (M:Mem) (b:Nat) (r:Array Value) (u:TypeId) [h:At M b r u]:Held (fun w=>Loc w0 w M) b r u:=⟨fun w hS=>hS.get h.mem⟩
instance held1 (w0:World) (M:Array Value→Mem) (b:Nat) (r:Array Value) (u:TypeId) [h:∀ x,At (M x) b r u]:Held (fun w=>∃ x,Loc w0 w (M x)) b r u:=⟨fun w ⟨x,hS⟩=>hS.get (h x).mem⟩
section
variable {ops:Array Oper} {o:Oper} {a:Act} {w0 w:World} {M M' M1:Mem} {S:World→Prop} {Q:Exit→Act→World→Prop} {K:Act→World→Prop}
theorem zL (hw:Region.wanted o (yielded ops a.tmps)=true) {t:TypeId} {x:Operand} (ho:o.op= .load t x) {b k:Nat} (hx:a.eval x= .pointer (some ⟨b,k,none⟩)) {r s:Array Value} {u:TypeId} {n:Nat} [ht:RowTy t n] [hm:Held S b r u] [hp:Part r u k t s] [hr:Row1 s n] :
 YieldsIf Tryz.prog ops S o (.agg s) a:=by
 obtain ⟨d,h1,h2⟩:=ht.und
 have:=yieldsIf_load_mid (P:=Tryz.prog) (ops:=ops) (S:=S) (op:=o) (a:=a) hw t x ho b k hx s.toList d (fun w h=>rangeAt_of_row (hm.get w h) fun j v hv=>hp.part j v hv) h1 h2 (by rw [ht.size,Array.length_toList,hr.size])
 simpa only [Array.toArray_toList] using this
theorem zI (hw:Region.wanted o (yielded ops a.tmps)=true) {t:TypeId} {x:Operand} (ho:o.op= .load t x) {b k:Nat} (hx:a.eval x= .pointer (some ⟨b,k,none⟩)) {r:Array Value} {u:TypeId} {v:Value} [ht:ScTy t] [hm:Held S b r u] [hc:Cell r k v] :
 YieldsIf Tryz.prog ops S o v a:= .inl ⟨hw,fun w hS=>by
 unfold execOp
 have:=run_load_sc (t:=t) (w:=w) (b:=b) (k:=k) (v:=v) (by rw [cell_of_row w b k _ _ _ (hm.get w hS)];exact hc.cell)
 simp only [ho,hx,Instr.loadAt,Instr.sureAddr,Sem.run_bind,Sem.run_pure,Result.andThen_ok,this]⟩
theorem zU (hw:Region.wanted o (yielded ops a.tmps)=true) {t:TypeId} {ps:Array (Nat×Operand)} (ho:o.op= .build t ps) {vs:Array (Nat×Value)} {r:Array Value} (hb:∀ w,(Instr.build t vs).run Tryz.prog w= .ok (.agg r) w) (hv:(ps.toList.map fun x=>(x.1,a.eval x.2))=vs.toList) :
 YieldsIf Tryz.prog ops S o (.agg r) a:= .inl ⟨hw,fun w _=>by
 have hv:(ps.map fun x=>(x.1,a.eval x.2))=vs:=by rw [← Array.toList_inj,Array.toList_map];exact hv
 subst hv
 unfold execOp
 simp only [ho,Sem.run_bind,hb,Result.andThen_ok,Sem.run_pure]⟩
theorem eB (hL:Loc w0 w M) {t:TypeId} {x:Operand} (ho:o.op= .box t x) {r:Array Value} (hx:a.eval x= .agg r)
 (h:∀ b w',Loc w0 w' ((b,r,t) :: M)→K (a.put o.dst (.pointer (some ⟨b,0,none⟩))) w'):o.wp Tryz.prog a w K Q:=by
 unfold Oper.wp execOp
 simp only [ho,hx,Sem.run_bind,Instr.box,newVar,newRow,run_newObj_alloc,Sem.run_pure,Result.andThen_ok]
 exact h _ _ (hL.alloc r t)
theorem eTg (hL:Loc w0 w M) {t:TypeId} {x y:Operand} (ho:o.op= .store t x y) {b k:Nat} (hx:a.eval x= .pointer (some ⟨b,k,none⟩)) {v:Value} (hy:a.eval y=v) (h1:v.oneCell'=true) {r s:Array Value} {u:TypeId} [ht:ScTy t] [hm:At M b r u] [hp:Put r k v s] [hu:Ups M b s M']
 (h:∀ w',Loc w0 w' M'→K (a.put o.dst undef) w'):o.wp Tryz.prog a w K Q:=by
 have hs:=run_store_sc (t:=t) (w:=w) (b:=b) (k:=k) (v:=v) (by rw [cell_of_row w b k _ _ _ (hL.get hm.mem),Array.getElem?_eq_getElem hp.lt];rfl) (frozen_of_row w _ _ _ _ (hL.get hm.mem)) h1
 unfold Oper.wp execOp
 simp only [ho,hx,hy,Instr.storeAt,Instr.sureAddr,Sem.run_bind,Sem.run_pure,Result.andThen_ok,hs]
 exact h _ (hL.put v hm.mem (by rw [hp.put];exact hu.upd))
theorem eT (hL:Loc w0 w M) {t:TypeId} {x y:Operand} (ho:o.op= .store t x y) {b k:Nat} (hx:a.eval x= .pointer (some ⟨b,k,none⟩)) {d:IntKind} {n:Int} (hy:a.eval y= .int d n) {r s:Array Value} {u:TypeId} [ht:ScTy t] [hm:At M b r u] [hp:Put r k (.int d n) s] [hu:Ups M b s M']
 (h:∀ w',Loc w0 w' M'→K (a.put o.dst undef) w'):o.wp Tryz.prog a w K Q:=eTg hL ho hx hy rfl h
theorem eTs (hL:Loc w0 w M) {t:TypeId} {x y:Operand} (ho:o.op= .store t x y) {b k:Nat} (hx:a.eval x= .pointer (some ⟨b,k,none⟩)) {p:Option Addr} {n c:Nat} (hy:a.eval y= .slice p n c) {r s:Array Value} {u:TypeId} [ht:ScTy t] [hm:At M b r u] [hp:Put r k (.slice p n c) s] [hu:Ups M b s M']
 (h:∀ w',Loc w0 w' M'→K (a.put o.dst undef) w'):o.wp Tryz.prog a w K Q:=eTg hL ho hx hy rfl h
theorem eTb (hL:Loc w0 w M) {t:TypeId} {x y:Operand} (ho:o.op= .store t x y) {b k:Nat} (hx:a.eval x= .pointer (some ⟨b,k,none⟩)) {d:Bool} (hy:a.eval y= .bool d) {r s:Array Value} {u:TypeId} [ht:ScTy t] [hm:At M b r u] [hp:Put r k (.bool d) s] [hu:Ups M b s M']
 (h:∀ w',Loc w0 w' M'→K (a.put o.dst undef) w'):o.wp Tryz.prog a w K Q:=eTg hL ho hx hy rfl h
theorem eTp (hL:Loc w0 w M) {t:TypeId} {x y:Operand} (ho:o.op= .store t x y) {b k:Nat} (hx:a.eval x= .pointer (some ⟨b,k,none⟩)) {p:Option Addr} (hy:a.eval y= .pointer p) {r s:Array Value} {u:TypeId} [ht:ScTy t] [hm:At M b r u] [hp:Put r k (.pointer p) s] [hu:Ups M b s M']
 (h:∀ w',Loc w0 w' M'→K (a.put o.dst undef) w'):o.wp Tryz.prog a w K Q:=eTg hL ho hx hy rfl h
theorem lBS2i (hL:Loc w0 w M) {rest:List Oper} (hg:o.guard=none) {t e:TypeId} {x y:Operand} (ho:o.op= .buildSlice t 2 #[(0,x),(1,y)]) [he:Elt t e] {d d':IntKind} {n n':Int} (hx:a.eval x= .int d n) (hy:a.eval y= .int d' n')
 (h:∀ b w',Loc w0 w' ((b, #[.int d n,.int d' n'],e) :: M)→wpList Tryz.prog ops Q rest (a.put o.dst (.slice (some ⟨b,0,none⟩) 2 2)) w'):wpList Tryz.prog ops Q (o :: rest) a w:=lBS2 hL hg ho hx hy rfl rfl h
theorem eBS2i (hL:Loc w0 w M) {t e:TypeId} {x y:Operand} (ho:o.op= .buildSlice t 2 #[(0,x),(1,y)]) [he:Elt t e] {d d':IntKind} {n n':Int} (hx:a.eval x= .int d n) (hy:a.eval y= .int d' n')
 (h:∀ b w',Loc w0 w' ((b, #[.int d n,.int d' n'],e) :: M)→K (a.put o.dst (.slice (some ⟨b,0,none⟩) 2 2)) w'):o.wp Tryz.prog a w K Q:=by
 obtain ⟨i,z,hi,hz,hs1,hb,hzs⟩:=he.info
 refine wp_buildSlice t e 2 #[(0,x),(1,y)] ho #[.int d n,.int d' n'] i z he.und hi hz (by rw [hs1];decide) (by rw [hs1];decide) ?_ (h _ _ (hL.alloc #[.int d n,.int d' n'] e))
 rw [hs1]
 have e:(Array.map (fun (y:Nat×Operand)=>(y.1,a.eval y.2)) #[(0,x),(1,y)]).toList=[(0,Value.int d n),(1,Value.int d' n')]:=by simp [hx,hy]
 rw [e]
 have e1:Array.range 2= #[0,1]:=rfl
 simp [Instr.fill,Value.cells,e1]
end
end Go.Proofs.YtoifhhljfaoejaaGreatDoor
namespace Go.Proofs.YtoifhhljfaoejaaGreatDoor
open Go Go.RowKit Go.Shelf
set_option linter.unusedVariables false
set_option linter.unusedSimpArgs false
set_option linter.unusedSectionVars false
theorem build_cur (p:Option Addr) (n c:Nat) (w:World):(Instr.build 274 #[(0,.slice p n c)]).run Tryz.prog w= .ok (.agg #[.slice p n c,.bool false]) w:=by kernel_rfl
set_option maxRecDepth 100000 in
theorem packNew_any (v:Value) (l:List (BitVec 8)) (w:World) (hv:BRow w v l) (h0:0<l.length) (h1:l.length≤1000000) :
 Calls Tryz.prog 149 #[v] w fun e w'=>∃ b g cap cur,e= .returned (.pointer (some ⟨b,0,none⟩))∧OwnR cur l.length cap (encB l)∧Loc w w' [(b, #[.slice (some ⟨g,0,none⟩) l.length cap,.bool false],274),(g,cur,5)]:=by
 have hL:=Loc.nil w
 have HC:=Lib.hid (clone_any v l w hv h0 h1)
 clear hv
 go_enter Tryz.func149,Tryz.ntmps149
 go_wp2_with (first | refine aV ?_ | ((with_reducible refine gS 6 ?_);refine aBp ?_;clear hL;intro b6 w1 hL) | (go_at_call 94;go_loud (refine (HC.out).mono ?_);rintro e w1 ⟨g4,cap4,cur4,rfl,hr4,hg4,hc4,hb4⟩;have hL1:=hL.fresh hb4 hg4 hc4;clear hb4 hg4 hc4;clear hL;have hL:=hL1;clear hL1;refine p4 ?_) | ((with_reducible show wpList _ _ _ (⟨some 5,.build _ _,_,_,_,_⟩ :: _) _ _);refine lU hL rfl rfl (build_cur _ _ _) rfl ?_;clear hL;intro w1 hL;refine p4 ?_) | (refine aL3S5p ?_;clear hL;intro w1 hL))
 go_ret
 exact ⟨b6,g4,cap4,cur4,rfl,hr4,hL⟩
instance iCur1:Ent 149:=Ent.of Tryz.func149 (by kernel_rfl) rfl
set_option maxRecDepth 100000 in
theorem packNew_nil (w:World) :
 Calls Tryz.prog 149 #[.slice none 0 0] w fun e w'=>∃ b,e= .returned (.pointer (some ⟨b,0,none⟩))∧Loc w w' [(b, #[.slice none 0 0,.bool false],274)]:=by
 have hL:=Loc.nil w
 go_enter Tryz.func149,Tryz.ntmps149
 go_wp2_with (first | refine aV ?_ | ((with_reducible refine gS 6 ?_);refine aBp ?_;clear hL;intro b6 w1 hL) | ((go_at_call 94;go_loud (refine (clone_nil _).mono ?_);rintro e w1 ⟨rfl,rfl⟩;refine p4 ?_)) | ((with_reducible show wpList _ _ _ (⟨some 5,.build _ _,_,_,_,_⟩ :: _) _ _);refine lU hL rfl rfl (build_cur _ _ _) rfl ?_;clear hL;intro w1 hL;refine p4 ?_) | (refine aL3S5p ?_;clear hL;intro w1 hL))
 go_ret
 exact ⟨b6,rfl,hL⟩
section
variable {w0 w:World} {F:Array Value→Mem} {bc:Nat} [hA:∀ x,At (F x) bc x 274] [hU:∀ x y,Ups (F x) bc y (F y)]
set_option maxRecDepth 100000 in
theorem raw_ok {g off m cap n:Nat} {l:List (BitVec 8)} [hS:∀ x,See w0 (F x) (.slice (some ⟨g,off,none⟩) m cap) (encB l)] (hn0:0<n) (hn:n≤m) (hc:m≤cap) (hm:m≤1000000)
 (hT:∀ w x,Loc w0 w (F x)→BRow w (.slice (some ⟨g,off,none⟩) n cap) (l.take n)) (hlen:(l.take n).length=n)
 (hL:Loc w0 w (F #[.slice (some ⟨g,off,none⟩) m cap,.bool false])) :
 Calls Tryz.prog 150 #[.pointer (some ⟨bc,0,none⟩),.int .i64 n] w fun e w'=>∃ g' cap' cur' p,e= .returned (.slice (some ⟨g',0,none⟩) n cap')∧OwnR cur' n cap' (encB (l.take n))∧(n<m→p=some ⟨g,off+n,none⟩) ∧
  Loc w0 w' ((g',cur',5) :: F #[.slice p (m - n) (cap - n),.bool false]):=by
 have hcl:∀ w1,Loc w0 w1 (F #[.slice (some ⟨g,off,none⟩) m cap,.bool false])→Calls Tryz.prog 94 #[.slice (some ⟨g,off,none⟩) n cap] w1 fun e w'=>Fresh w1 (l.take n) e w':=fun w1 h1=>clone_any _ _ w1 (hT w1 _ h1) (by omega) (by omega)
 have HC:=Lib.hid hcl
 have HT:=Lib.hid hlen
 clear hcl hT hlen
 generalize l.take n=lt at *
 have e1:((m:Int) - n).toNat=m - n:=by omega
 have e2:((cap:Int) - n).toNat=cap - n:=by omega
 have q1:¬ (m:Int)<n:=by omega
 have q2:¬ (n:Int)<0:=by omega
 have q3:(n:Int)≤cap:=by omega
 have q4:(n:Int)≤m:=by omega
 go_enter Tryz.func150,Tryz.ntmps150
 go_wp2_with (first | refine aV ?_ | (refine aL3S5p ?_;clear hL;intro w1 hL))
 refine wp_scope_once 0 rfl ?_
 go_wp2_with (first | refine aV ?_ | (go_at_call 94;go_loud (refine (HC.out _ hL).mono ?_);rintro e w1 ⟨g27,cap27,cur27,rfl,hr27,hg27,hc27,hb27⟩;have hL1:=hL.fresh hb27 hg27 hc27;clear hb27 hg27 hc27;clear hL;have hL:=hL1;clear hL1;refine p4 ?_) | (refine aL3S5p ?_;clear hL;intro w1 hL))
 all_goals simp only [Exit.jump]
 all_goals obtain ⟨p,hp,hq⟩:∃ p:Option Addr,(if cap=n then some (⟨g,off,none⟩:Addr) else some ⟨g,off+n,none⟩)=p∧(n<m→p=some ⟨g,off+n,none⟩):=⟨_,rfl,fun h=>if_neg (by omega)⟩
 all_goals simp only [hp] at hL ⊢
 all_goals go_ret
 all_goals rw [HT.out] at hr27
 ·exact ⟨g27,cap27,cur27,p,by first | rfl | (rw [HT.out];rfl),hr27,hq,hL⟩
 ·exact ⟨g27,cap27,cur27,p,by first | rfl | (rw [HT.out];rfl),hr27,hq,hL⟩
set_option maxRecDepth 100000 in
theorem raw_bad {p:Option Addr} {m cap n:Nat} (hn:m<n) (hL:Loc w0 w (F #[.slice p m cap,.bool false])) :
 Calls Tryz.prog 150 #[.pointer (some ⟨bc,0,none⟩),.int .i64 n] w fun e w'=>e= .returned (.slice none 0 0)∧Loc w0 w' (F #[.slice none 0 0,.bool true]):=by
 have q2:¬ (n:Int)<0:=by omega
 have q1:(m:Int)<n:=by omega
 go_enter Tryz.func150,Tryz.ntmps150
 go_wp2_with (first | refine aV ?_ | (refine aL3S5p ?_;clear hL;intro w1 hL))
 refine wp_scope_once 0 rfl ?_
 go_wp2_with (first | refine aV ?_ | (refine aL3S5p ?_;clear hL;intro w1 hL))
 go_step3
 refine ⟨rfl,?_⟩
 unfold Onward
 go_wp2_with (first | refine aV ?_ | (refine aL3S5p ?_;clear hL;intro w1 hL))
 simp only [Exit.jump]
 go_ret
 exact ⟨rfl,hL⟩
set_option maxRecDepth 100000 in
theorem raw_dead {p:Option Addr} {m cap:Nat} {n:Int} (hL:Loc w0 w (F #[.slice p m cap,.bool true])) :
 Calls Tryz.prog 150 #[.pointer (some ⟨bc,0,none⟩),.int .i64 n] w fun e w'=>e= .returned (.slice none 0 0)∧Loc w0 w' (F #[.slice p m cap,.bool true]):=by
 go_enter Tryz.func150,Tryz.ntmps150
 go_wp2_with (first | refine aV ?_ | (refine aL3S5p ?_;clear hL;intro w1 hL))
 refine wp_scope_once 0 rfl ?_
 go_wp2_with (first | refine aV ?_ | (refine aL3S5p ?_;clear hL;intro w1 hL))
 simp only [Exit.jump]
 go_ret
 exact ⟨rfl,hL⟩
set_option maxRecDepth 100000 in
theorem end_any {p:Option Addr} {m cap:Nat} {bad:Bool} (hL:Loc w0 w (F #[.slice p m cap,.bool bad])) :
 Calls Tryz.prog 153 #[.pointer (some ⟨bc,0,none⟩)] w fun e w'=>e= .returned (.bool (!bad && decide (m=0)))∧Loc w0 w' (F #[.slice p m cap,.bool bad]):=by
 cases bad
 ·go_enter Tryz.func153,Tryz.ntmps153
  go_wp2_with (first | refine aV ?_ | (refine aL3S5p ?_;clear hL;intro w1 hL))
  go_ret
  exact ⟨by simp;rw [Bool.eq_iff_iff];simp,hL⟩
 ·go_enter Tryz.func153,Tryz.ntmps153
  go_wp2_with (first | refine aV ?_ | (refine aL3S5p ?_;clear hL;intro w1 hL))
  go_ret
  exact ⟨by simp,hL⟩
end
instance iCur2:Ent 150:=Ent.of Tryz.func150 (by kernel_rfl) rfl
instance iCur3:Ent 153:=Ent.of Tryz.func153 (by kernel_rfl) rfl
def bigN (l:List (BitVec 8)):Nat:=l.foldl (fun u x=>u*256+x.toNat) 0
theorem bigN_snoc (l:List (BitVec 8)) (x:BitVec 8):bigN (l ++ [x])=bigN l*256+x.toNat:=by unfold bigN;rw [List.foldl_append];rfl
theorem bigN_from:∀ (l:List (BitVec 8)) (u:Nat),l.foldl (fun u x=>u*256+x.toNat) u<(u+1)*256 ^ l.length
 | [],u=>by simp
 | x :: l,u=>by
  have h:=bigN_from l (u*256+x.toNat)
  have hx:=x.isLt
  rw [List.foldl_cons,List.length_cons,Nat.pow_succ,Nat.mul_comm (256 ^ l.length),← Nat.mul_assoc]
  exact Nat.lt_of_lt_of_le h (Nat.mul_le_mul_right _ (by omega))
theorem bigN_lt (l:List (BitVec 8)):bigN l<256 ^ l.length:=by have:=bigN_from l 0;rwa [Nat.zero_add,Nat.one_mul] at this
theorem u64_or_nat (a b:Nat) (ha:a<2 ^ 64) (hb:b<2 ^ 64):bits .or .u64 (a:Int) (b:Int)=((a ||| b:Nat):Int):=by
 have hor:a ||| b<2 ^ 64:=Nat.or_lt_two_pow ha hb
 show IntKind.u64.wrap ((BitVec.ofInt 64 (a:Int) ||| BitVec.ofInt 64 (b:Int)).toNat:Nat)=_
 rw [BitVec.toNat_or,BitVec.toNat_ofInt,BitVec.toNat_ofInt]
 have e1:((a:Int) % ((2 ^ 64:Nat):Int)).toNat=a:=by omega
 have e2:((b:Int) % ((2 ^ 64:Nat):Int)).toNat=b:=by omega
 rw [e1,e2,IntKind.wrap_u64]
 omega
theorem or_low (u:Nat) (x:BitVec 8) (h:u<2 ^ 56):bits .or .u64 ((u:Int)*256) (IntKind.u64.wrap (B8 x))=((u*256+x.toNat:Nat):Int):=by
 have hx:=x.isLt
 have e1:(u:Int)*256=((u*256:Nat):Int):=by omega
 have e2:IntKind.u64.wrap (B8 x)=((x.toNat:Nat):Int):=by rw [IntKind.wrap_u64];show ((x.toNat:Nat):Int) % _=_;omega
 rw [e1,e2]
 have e3:u*256 ||| x.toNat=u*256+x.toNat:=by
  have:=Nat.shiftLeft_add_eq_or_of_lt (i:=8) (b:=x.toNat) (by omega) u
  rw [Nat.shiftLeft_eq] at this
  exact this.symm
 rw [← e3]
 exact u64_or_nat _ _ (by omega) (by omega)
theorem bigN_packI (n:Int):(bigN (packI n):Int)=n % 18446744073709551616:=by
 have hb:∀ j,((p8 n j).toNat:Int)=n / 2 ^ (8*(7 - j)) % 256:=fun j=>B8_p8 n j
 have e:packI n=[p8 n 0,p8 n 1,p8 n 2,p8 n 3,p8 n 4,p8 n 5,p8 n 6,p8 n 7]:=rfl
 have h0:=hb 0
 have h1:=hb 1
 have h2:=hb 2
 have h3:=hb 3
 have h4:=hb 4
 have h5:=hb 5
 have h6:=hb 6
 have h7:=hb 7
 rw [e]
 simp only [bigN,List.foldl_cons,List.foldl_nil]
 simp only [Nat.reduceSub,Nat.reduceMul,Int.reducePow] at *
 omega
def intV (l:List (BitVec 8)):Int:=wrap64 (bigN l:Int)
theorem intV_packI (n:Int) (h: -9223372036854775808≤n∧n≤9223372036854775807):intV (packI n)=n:=by
 unfold intV
 rw [bigN_packI]
 unfold wrap64
 omega
section
variable {w0 w:World} {F:Array Value→Mem} {bc:Nat} [hA:∀ x,At (F x) bc x 274] [hU:∀ x y,Ups (F x) bc y (F y)]
set_option maxRecDepth 100000 in
theorem int_ok {g off m cap:Nat} {l:List (BitVec 8)} [hS:∀ x,See w0 (F x) (.slice (some ⟨g,off,none⟩) m cap) (encB l)] (hn:8≤m) (hc:m≤cap) (hm:m≤1000000)
 (hT:∀ w x,Loc w0 w (F x)→BRow w (.slice (some ⟨g,off,none⟩) 8 cap) (l.take 8)) (hlen:(l.take 8).length=8)
 (hL:Loc w0 w (F #[.slice (some ⟨g,off,none⟩) m cap,.bool false])) :
 Calls Tryz.prog 151 #[.pointer (some ⟨bc,0,none⟩)] w fun e w'=>∃ p,e= .returned (.int .i64 (intV (l.take 8)))∧(8<m→p=some ⟨g,off+8,none⟩) ∧
  Loc w0 w' (F #[.slice p (m - 8) (cap - 8),.bool false]):=by
 have HC:=Lib.hid (raw_ok (F:=F) (bc:=bc) (n:=8) (l:=l) (by omega) hn hc hm hT hlen hL)
 have HLEN:=Lib.hid hlen
 clear hT hlen hL
 generalize l.take 8=lt at *
 go_enter Tryz.func151,Tryz.ntmps151
 go_wp2_with (go_at_call 150;go_loud (refine HC.out.mono ?_);rintro e w1 ⟨g7,cap7,cur7,p,rfl,hr7,hp,hL⟩)
 clear HC
 have hs:=segOwn cur7 8 cap7 (encB lt)
 have hlt:=HLEN.out
 have H8:=Lib.hid (show lt.take 8=lt from List.take_of_length_le (by omega))
 have HB:∀ k,(hk:k<lt.length)→bigN (lt.take (k+1))=bigN (lt.take k)*256+lt[k].toNat:=fun k hk=>by rw [List.take_succ_eq_append_getElem hk,bigN_snoc]
 have HBB:=Lib.hid HB
 clear HB hlt
 go_loopw [3,9] (fun u kk wr=>∃ k:Nat,k≤8∧kk= .int .i64 k∧u= .int .u64 (bigN (lt.take k):Int)∧Loc w0 wr ((g7,cur7,5) :: F #[.slice p (m - 8) (cap - 8),.bool false])) (fun _ kk _=>8 - (intOf kk).toNat)
 case atStart=>exact ⟨0,by omega,rfl,rfl,hL⟩
 case round =>
  clear hL
  obtain ⟨k,hk,rfl,rfl,hL⟩:=hrel
  by_cases hlt:k<8
  ·have hk0:(0:Int)≤(k:Int):=by omega
   have hk1:(k:Int)<8:=by omega
   have hlt':k<lt.length:=by rw [HLEN.out];exact hlt
   have hb:=HBB.out k hlt'
   haveI g1:Cell cur7 k (.int .u8 (B8 lt[k])):=hr7.cellB hlt'
   have hu:bigN (lt.take k)<2 ^ 56:=by
    have h1:=bigN_lt (lt.take k)
    have h2:(lt.take k).length≤7:=by rw [List.length_take];omega
    have h3:256 ^ (lt.take k).length≤256 ^ 7:=Nat.pow_le_pow_right (by omega) h2
    omega
   have ho:=or_low (bigN (lt.take k)) lt[k] hu
   rw [← hb] at ho
   have HO:=Lib.hid ho
   generalize lt[k]=bb at *
   clear hb ho hlt'
   generalize bigN (lt.take k)=u at *
   go_wp2_with (first | refine aV ?_ | (refine aL3S5p ?_;clear hL;intro w1 hL))
   go_roundw
   case rel=>exact ⟨k+1,by omega,by go_num,by rw [← HO.out],hL⟩
   case measure=>simp [intOf];omega
  ·obtain rfl:k=8:=by omega
   rw [H8.out]
   go_wp2_with (first | refine aV ?_ | (refine aL3S5p ?_;clear hL;intro w1 hL))
   go_ret
   refine ⟨p,?_,hp,Loc.rem g7 hL⟩
   unfold intV
   rfl
set_option maxRecDepth 100000 in
theorem int_none (c c':Array Value) (hR:∀ w,Loc w0 w (F c)→Calls Tryz.prog 150 #[.pointer (some ⟨bc,0,none⟩),.int .i64 8] w fun e w'=>e= .returned (.slice none 0 0)∧Loc w0 w' (F c')) (hL:Loc w0 w (F c)) :
 Calls Tryz.prog 151 #[.pointer (some ⟨bc,0,none⟩)] w fun e w'=>e= .returned (.int .i64 0)∧Loc w0 w' (F c'):=by
 have HC:=Lib.hid (hR w hL)
 clear hR hL
 go_enter Tryz.func151,Tryz.ntmps151
 go_wp2_with (go_at_call 150;go_loud (refine HC.out.mono ?_);rintro e w1 ⟨rfl,hL⟩)
 go_loopw [3,9] (fun u kk wr=>kk= .int .i64 0∧u= .int .u64 0∧Loc w0 wr (F c')) (fun _ kk _=>0)
 case atStart=>exact ⟨rfl,rfl,hL⟩
 case round =>
  clear hL
  obtain ⟨rfl,rfl,hL⟩:=hrel
  go_wp2_with (first | refine aV ?_ | (refine aL3S5p ?_;clear hL;intro w1 hL))
  go_ret
  exact ⟨rfl,hL⟩
end
instance iCur4:Ent 151:=Ent.of Tryz.func151 (by kernel_rfl) rfl
theorem Seg.see {w0:World} {M:Mem} {g off n cap:Nat} {cur:Array Value} {ys:List Value} (hs:Seg cur off n ys) [hm:At M g cur 5]:See w0 M (.slice (some ⟨g,off,none⟩) n cap) ys:=inferInstance
section
variable {w0 w:World} {F:Array Value→Mem} {bc:Nat} [hA:∀ x,At (F x) bc x 274] [hU:∀ x y,Ups (F x) bc y (F y)] {g off m cap n:Nat} {l:List (BitVec 8)} {cur:Array Value} [hG:∀ x,At (F x) g cur 5]
theorem raw_at (hs:Seg cur off m (encB l)) (n:Nat) (hn0:0<n) (hn:n≤m) (hc:m≤cap) (hm:m≤1000000) (hL:Loc w0 w (F #[.slice (some ⟨g,off,none⟩) m cap,.bool false])) :
 Calls Tryz.prog 150 #[.pointer (some ⟨bc,0,none⟩),.int .i64 n] w fun e w'=>∃ g' cap' cur' p,e= .returned (.slice (some ⟨g',0,none⟩) n cap')∧OwnR cur' n cap' (encB (l.take n))∧(n<m→p=some ⟨g,off+n,none⟩) ∧
  Loc w0 w' ((g',cur',5) :: F #[.slice p (m - n) (cap - n),.bool false]):=by
 haveI hS:∀ x,See w0 (F x) (.slice (some ⟨g,off,none⟩) m cap) (encB l):=fun x=>hs.see
 have hlen:l.length=m:=by have:=hs.len;rwa [encB_length] at this
 exact raw_ok (l:=l) hn0 hn hc hm (fun w x h=>by haveI:See w0 (F x) (.slice (some ⟨g,off,none⟩) n cap) (encB (l.take n)):=(hs.take n hn).see;exact See.bytes h) (by rw [List.length_take];omega) hL
theorem raw_lt (hs:Seg cur off m (encB l)) (n:Nat) (hn0:0<n) (hn:n<m) (hc:m≤cap) (hm:m≤1000000) (hL:Loc w0 w (F #[.slice (some ⟨g,off,none⟩) m cap,.bool false])) :
 Calls Tryz.prog 150 #[.pointer (some ⟨bc,0,none⟩),.int .i64 n] w fun e w'=>∃ g' cap' cur',e= .returned (.slice (some ⟨g',0,none⟩) n cap')∧OwnR cur' n cap' (encB (l.take n)) ∧
  Loc w0 w' ((g',cur',5) :: F #[.slice (some ⟨g,off+n,none⟩) (m - n) (cap - n),.bool false]) :=
 (raw_at hs n hn0 (by omega) hc hm hL).mono fun e w' ⟨g',cap',cur',p,h1,h2,h3,h4⟩=>⟨g',cap',cur',h1,h2,by rw [← h3 hn];exact h4⟩
theorem int_lt (hs:Seg cur off m (encB l)) (hn:8<m) (hc:m≤cap) (hm:m≤1000000) (hL:Loc w0 w (F #[.slice (some ⟨g,off,none⟩) m cap,.bool false])) :
 Calls Tryz.prog 151 #[.pointer (some ⟨bc,0,none⟩)] w fun e w'=>e= .returned (.int .i64 (intV (l.take 8)))∧Loc w0 w' (F #[.slice (some ⟨g,off+8,none⟩) (m - 8) (cap - 8),.bool false]):=by
 haveI hS:∀ x,See w0 (F x) (.slice (some ⟨g,off,none⟩) m cap) (encB l):=fun x=>hs.see
 have hlen:l.length=m:=by have:=hs.len;rwa [encB_length] at this
 exact (int_ok (l:=l) (by omega) hc hm (fun w x h=>by haveI:See w0 (F x) (.slice (some ⟨g,off,none⟩) 8 cap) (encB (l.take 8)):=(hs.take 8 (by omega)).see;exact See.bytes h) (by rw [List.length_take];omega) hL).mono fun e w' ⟨p,h1,h2,h3⟩=>⟨h1,by rw [← h2 hn];exact h3⟩
end
end Go.Proofs.YtoifhhljfaoejaaGreatDoor
