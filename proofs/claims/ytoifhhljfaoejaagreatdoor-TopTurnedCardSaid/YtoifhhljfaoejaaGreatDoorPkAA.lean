/- Lemmas of the law: walks of functions that it calls, plain facts about them; no condition beyond those written. -/
import Derived.Test.YtoifhhljfaoejaaGreatDoorPkA
import Derived.OrdersHeld
import Derived.Deep.RegionHeld3
import Derived.ProofKit
import Derived.Lib.Hide
import Derived.Below
import Derived.Test.YtoifhhljfaoejaaGreatDoorProg
import Derived.Great.Ranges
import Derived.Laws.BitsAllLaws
import Derived.Laws.Bits64
import Derived.Laws.Rows
import Derived.WalkArith
import Derived.WalkKit
import Derived.WalkSpells
import Derived.WalkLawsBesides
import Derived.Deep.MidRow
import Derived.Deep.WholeRow
import Derived.Great.BuildSlice
import Derived.LoopTactic
import Derived.ChangeKeysEq
import Derived.ScopeJumps
import Derived.WalkMore
import Derived.Test.YtoifhhljfaoejaaGreatDoorRows
import Derived.Shelf.Abstract
import Derived.Shelf.Bits.Mul64
import Derived.Shelf.Spec.BitsCarry
import Derived.StillTailTactics
import Derived.IntWalk
set_option maxRecDepth 100000
set_option maxHeartbeats 8000000
set_option linter.unusedVariables false
set_option linter.unusedSimpArgs false
set_option linter.unusedSectionVars false
namespace Go.Proofs.YtoifhhljfaoejaaGreatDoor
open Go.Proofs.Tryz Go Go.RowKit Go.Shelf
theorem p4{G' G:Prop}(k:G')(h:G'→G:=by
 intro k;try simp only[Act.put,List.setIfInBounds_toArray,List.set_cons_zero,List.set_cons_succ]
 exact k):G:=h k
theorem p7{G' G:Prop}(k:G')(h:G'→G:=by
 intro k;try simp only[Act.put,List.getElem_toArray,List.getElem_cons_zero,List.getElem_cons_succ,List.setIfInBounds_toArray,List.set_cons_zero,List.set_cons_succ]
 exact k):G:=h k
theorem pF{G' G:Prop}(k:G')(h:G'→G:=by
 intro k;simp only[List.filterMap_cons,List.filterMap_nil,List.getElem?_toArray,List.getElem?_cons_zero,List.getElem?_cons_succ,Option.map_some];exact k):G:=h k
theorem pG{G' G:Prop}(k:G')(h:G'→G:=by
 intro k;try simp only[List.filterMap_cons,List.filterMap_nil,List.getElem?_toArray,List.getElem?_cons_zero,List.getElem?_cons_succ]
 exact k):G:=h k
theorem rN{G' G:Prop}(k:G')(h:G'→G:=by
 intro k;(with_reducible show bC _ _ _ (_::_) _ _)
 first
  | refine sN rfl rfl rfl rfl ?_
  | refine sL rfl rfl rfl ?_
  | refine sI rfl rfl rfl ?_
  | refine sC2 rfl rfl rfl rfl ?_
  | refine sC1 rfl rfl rfl ?_
  | refine sC3 rfl rfl rfl rfl ?_
  | refine sC4 rfl rfl rfl rfl ?_
  | refine sC0 rfl rfl ?_
  | refine sC5 rfl rfl rfl ?_
  | refine sR rfl rfl rfl ?_
  | refine sG2 rfl rfl rfl rfl ?_
  | refine sG1 rfl rfl rfl ?_
  | refine sG0 rfl rfl ?_
  | (refine iJ rfl (v:=?_) ?_ ?_;rotate_left;(intro w;go_simp;first|done|with_reducible rfl))
 simp only[Act.put,List.setIfInBounds_toArray,List.set_cons_zero,List.set_cons_succ];exact k):G:=h k
theorem rS{G' G:Prop}(k:G')(h:G'→G:=by
 intro k;(with_reducible show bC _ _ _ (_::_) _ _)
 first
  | refine sL rfl rfl rfl ?_
  | refine sI rfl rfl rfl ?_
  | refine sC2 rfl rfl rfl rfl ?_
  | refine sC1 rfl rfl rfl ?_
  | refine sC3 rfl rfl rfl rfl ?_
  | refine sC4 rfl rfl rfl rfl ?_
  | refine sC0 rfl rfl ?_
  | refine sC5 rfl rfl rfl ?_
  | refine sR rfl rfl rfl ?_
  | refine sG2 rfl rfl rfl rfl ?_
  | refine sG1 rfl rfl rfl ?_
  | refine sG0 rfl rfl ?_
  | (refine iJ rfl (v:=?_) ?_ ?_;rotate_left;(intro w;go_simp;first|done|with_reducible rfl))
 simp only[Act.put,List.setIfInBounds_toArray,List.set_cons_zero,List.set_cons_succ];exact k):G:=h k
theorem rW{G' G:Prop}(k:G')(h:G'→G:=by
 intro k;(with_reducible show wpList _ _ _ (_::_) _ _)
 first|refine lS I rfl rfl rfl rfl rfl ?_|refine lT I rfl rfl rfl rfl rfl ?_|refine lVa I rfl rfl rfl ?_|refine lVi I rfl rfl rfl ?_|refine lVb I rfl rfl rfl ?_|refine lVp I rfl rfl rfl ?_|refine lVs I rfl rfl rfl ?_|refine lVt I rfl rfl rfl ?_
 intro J hx;try simp only[Act.put,List.setIfInBounds_toArray,List.set_cons_zero,List.set_cons_succ]
 revert J hx;exact k):G:=h k
theorem cY{G' G:Prop}(k:G')(h:G'→G:=by
 intro k
 first|refine eT I rfl rfl rfl ?_|refine eTs I rfl rfl rfl ?_|refine eTb I rfl rfl rfl ?_|refine eTp I rfl rfl rfl ?_|refine eS I rfl rfl rfl ?_|refine eSp I rfl rfl rfl ?_
 exact k):G:=h k
theorem aE{G' G:Prop}(k:G')(h:G'→G:=by
 intro k Y;(try dsimp only at Y);(try simp only[Nat.reduceAdd,Nat.reduceSub]at Y);refine⟨_,rfl,?_⟩
 try simp only[Act.put,List.setIfInBounds_toArray,List.set_cons_zero,List.set_cons_succ]
 revert Y;exact k):G:=h k
theorem aU{G' G:Prop}(k:G')(h:G'→G:=by
 intro k;first|(with_reducible show wpList _ _ _ (⟨_,.load _ _,_,_,_,some _⟩::_) _ _)|(with_reducible show wpList _ _ _ (⟨_,.call _,_,_,_,some _⟩::_) _ _)
 refine bU rfl rfl rfl ?_;exact k):G:=h k
theorem aV{G' G:Prop}(k:G')(h:G'→G:=by
 intro k;(with_reducible show wpList _ _ _ (⟨_,_,_,_,_,some _⟩::_) _ _);refine jY rfl ?_;exact k):G:=h k
theorem aP{G' G:Prop}(k:G')(h:G'→G:=by
 intro k
 first
  | ((with_reducible show wpList _ _ _ (⟨_,.load _ _,_,_,_,_⟩::_) _ _);first|refine lL I rfl rfl rfl ?_|refine lI I rfl rfl rfl ?_|refine lW I rfl rfl rfl ?_)
  | ((with_reducible show wpList _ _ _ (⟨_,.store _ _ _,_,_,_,_⟩::_) _ _);first|refine lT I rfl rfl rfl rfl rfl ?_|refine lTs I rfl rfl rfl rfl rfl ?_|refine lTb I rfl rfl rfl rfl rfl ?_|refine lTp I rfl rfl rfl rfl rfl ?_|refine lS I rfl rfl rfl rfl rfl ?_)
 intro J hx
 try simp only[Act.put,List.setIfInBounds_toArray,List.set_cons_zero,List.set_cons_succ]
 revert J hx;exact k):G:=h k
theorem ab{G' G:Prop}(k:G')(h:G'→G:=by
 intro k
 first
  | ((with_reducible show wpList _ _ _ (⟨_,.load _ _,_,_,_,_⟩::_) _ _);first|refine lL I rfl rfl rfl ?_|refine lI I rfl rfl rfl ?_|refine lW I rfl rfl rfl ?_)
  | ((with_reducible show wpList _ _ _ (⟨_,.store _ _ _,_,_,_,_⟩::_) _ _);first|refine lT I rfl rfl rfl rfl rfl ?_|refine lTs I rfl rfl rfl rfl rfl ?_|refine lTb I rfl rfl rfl rfl rfl ?_|refine lTp I rfl rfl rfl rfl rfl ?_|refine lS I rfl rfl rfl rfl rfl ?_|refine lSp I rfl rfl rfl rfl rfl ?_)
 intro J hx
 try simp only[Act.put,List.setIfInBounds_toArray,List.set_cons_zero,List.set_cons_succ]
 revert J hx;exact k):G:=h k
theorem aJ{G' G:Prop}(k:G')(h:G'→G:=by
 intro k Y;(try simp only[List.cons_append,List.nil_append,Xc]at Y)
 try simp only[Act.put,List.setIfInBounds_toArray,List.set_cons_zero,List.set_cons_succ]
 revert Y;exact k):G:=h k
theorem aH{G' G:Prop}(k:G')(h:G'→G:=by
 intro k Y;(try simp only[List.cons_append,List.nil_append,Xc]at Y);refine⟨_,rfl,?_⟩
 try simp only[Act.put,List.setIfInBounds_toArray,List.set_cons_zero,List.set_cons_succ]
 revert Y;exact k):G:=h k
theorem aN{G' G:Prop}(k:G')(h:G'→G:=by
 intro k Y;(try dsimp only at Y);(try simp only[Nat.reduceAdd,Nat.reduceSub]at Y);revert Y;exact k):G:=h k
theorem eCp{G' G:Prop}(k:G')(h:G'→G:=by
 intro k;refine BM I rfl rfl rfl (by clear k;first|omega|(simp;omega)|simp) (by clear k;first|omega|(simp;omega)|simp) ?_;exact k):G:=h k
theorem eAp{G' G:Prop}(k:G')(h:G'→G:=by
 intro k;refine qP I rfl rfl rfl (by clear k;first|omega|(simp;omega)|simp) ?_;intro g W E J hr Y;(try dsimp only at Y);revert g W E J hr Y;exact k):G:=h k
theorem eAn{G' G:Prop}(k:G')(h:G'→G:=by
 intro k;refine FP I rfl rfl rfl (by clear k;first|decide|omega|(simp;omega)|simp) (by clear k;first|omega|(simp;omega)|simp) ?_;exact k):G:=h k
theorem eBS{G' G:Prop}(k:G')(h:G'→G:=by
 intro k
 first|refine M3 I rfl rfl ?_|refine M4 I rfl rfl ?_|refine M5 I rfl rfl rfl ?_|refine M6 I rfl rfl rfl rfl ?_|refine Nn I rfl rfl rfl ?_
 exact k):G:=h k
theorem eCl{G' G:Prop}(k:G')(h:G'→G:=by
 intro k
 first|refine eC2 I rfl rfl rfl ?_|refine eC1 I rfl rfl ?_|refine eC0 I rfl ?_|refine eG2 I rfl rfl rfl ?_|refine eG1 I rfl rfl ?_|refine eG0 I rfl ?_
 exact k):G:=h k
theorem aA{G' G:Prop}(k:G')(h:G'→G:=by
 intro k;refine Mt I rfl rfl rfl rfl (by clear k;first|omega|(simp;omega)|simp) ?_;intro g W E J hr Y;(try dsimp only at Y)
 try simp only[Act.put,List.setIfInBounds_toArray,List.set_cons_zero,List.set_cons_succ]
 revert g W E J hr Y;exact k):G:=h k
theorem aNb{G' G:Prop}(k:G')(h:G'→G:=by
 intro k;refine lP I rfl rfl rfl rfl (by clear k;first|decide|omega|(simp;omega)|simp) (by clear k;first|omega|(simp;omega)|simp) ?_;intro g W E J hr Y
 try simp only[Act.put,List.setIfInBounds_toArray,List.set_cons_zero,List.set_cons_succ]
 revert g W E J hr Y;exact k):G:=h k
theorem aL{G' G:Prop}(k:G')(h:G'→G:=by
 intro k
 first|refine wP I rfl rfl rfl ?_|refine Bs I rfl rfl rfl ?_|refine Mw I rfl rfl rfl rfl ?_|refine Mx I rfl rfl rfl rfl rfl ?_
 intro b J Y
 try simp only[Act.put,List.setIfInBounds_toArray,List.set_cons_zero,List.set_cons_succ]
 revert b J Y;exact k):G:=h k
theorem aQq{G' G:Prop}(k:G')(h:G'→G:=by
 intro k
 first
  | (((with_reducible show wpList _ _ _ (⟨_,.load _ _,_,_,_,_⟩::_) _ _);first|refine lL I rfl rfl rfl ?_|refine lI I rfl rfl rfl ?_|refine lW I rfl rfl rfl ?_|refine lR I rfl rfl rfl ?_);intro J hx;revert J hx;exact(fun(f:Nat→_)=>f 0) k)
  | (((with_reducible show wpList _ _ _ (⟨_,.store _ _ _,_,_,_,_⟩::_) _ _);first|refine lS I rfl rfl rfl rfl rfl ?_|refine lT I rfl rfl rfl rfl rfl ?_);intro J hx;revert J hx;exact(fun(f:Nat→_)=>f 0) k)
  | (((with_reducible show wpList _ _ _ (⟨_,.call _,_,_,_,_⟩::_) _ _);first|refine lC2 I rfl rfl rfl rfl ?_|refine lC1 I rfl rfl rfl ?_|refine lC3 I rfl rfl rfl rfl ?_|refine lC4 I rfl rfl rfl rfl ?_|refine lC0 I rfl rfl ?_|refine lC5 I rfl rfl rfl ?_|refine lG2 I rfl rfl rfl rfl ?_|refine lG1 I rfl rfl rfl ?_|refine lG0 I rfl rfl ?_);intro J hx;revert J hx;exact(fun(f:Nat→_)=>f 0) k)
  | (((with_reducible show wpList _ _ _ (⟨_,.box _ _,_,_,_,_⟩::_) _ _);first|refine lB I rfl rfl rfl ?_);intro b J hx;revert b J hx;exact k)
  | (((with_reducible show wpList _ _ _ (⟨_,.alloc _,_,_,_,_⟩::_) _ _);first|refine lA I rfl rfl ?_);intro b J hx;revert b J hx;exact k)):G:=h k
theorem aQp{G' G:Prop}(k:G')(h:G'→G:=by
 intro k
 first
  | (((with_reducible show wpList _ _ _ (⟨_,.load _ _,_,_,_,_⟩::_) _ _);first|refine lL I rfl rfl rfl ?_|refine lI I rfl rfl rfl ?_|refine lW I rfl rfl rfl ?_|refine lR I rfl rfl rfl ?_);intro J hx;(try simp only[Act.put,List.setIfInBounds_toArray,List.set_cons_zero,List.set_cons_succ]);revert J hx;exact(fun(f:Nat→_)=>f 0) k)
  | (((with_reducible show wpList _ _ _ (⟨_,.store _ _ _,_,_,_,_⟩::_) _ _);first|refine lS I rfl rfl rfl rfl rfl ?_|refine lT I rfl rfl rfl rfl rfl ?_);intro J hx;(try simp only[Act.put,List.setIfInBounds_toArray,List.set_cons_zero,List.set_cons_succ]);revert J hx;exact(fun(f:Nat→_)=>f 0) k)
  | (((with_reducible show wpList _ _ _ (⟨_,.call _,_,_,_,_⟩::_) _ _);first|refine lC2 I rfl rfl rfl rfl ?_|refine lC1 I rfl rfl rfl ?_|refine lC3 I rfl rfl rfl rfl ?_|refine lC4 I rfl rfl rfl rfl ?_|refine lC0 I rfl rfl ?_|refine lC5 I rfl rfl rfl ?_|refine lG2 I rfl rfl rfl rfl ?_|refine lG1 I rfl rfl rfl ?_|refine lG0 I rfl rfl ?_);intro J hx;(try simp only[Act.put,List.setIfInBounds_toArray,List.set_cons_zero,List.set_cons_succ]);revert J hx;exact(fun(f:Nat→_)=>f 0) k)
  | (((with_reducible show wpList _ _ _ (⟨_,.box _ _,_,_,_,_⟩::_) _ _);first|refine lB I rfl rfl rfl ?_);intro b J hx;(try simp only[Act.put,List.setIfInBounds_toArray,List.set_cons_zero,List.set_cons_succ]);revert b J hx;exact k)
  | (((with_reducible show wpList _ _ _ (⟨_,.alloc _,_,_,_,_⟩::_) _ _);first|refine lA I rfl rfl ?_);intro b J hx;(try simp only[Act.put,List.setIfInBounds_toArray,List.set_cons_zero,List.set_cons_succ]);revert b J hx;exact k)):G:=h k
theorem fA{G' G:Prop}(k:G')(h:G'→G:=by
 intro k;repeat refine rS ?_
 refine aK ?_;exact k):G:=h k
theorem fB{G' G:Prop}(k:G')(h:G'→G:=by
 intro k;refine wB fun J I=>?_;simp only[List.cons_append,List.nil_append]at I;refine p4 ?_;refine pG ?_
 repeat(refine rW fun J I=>?_)
 refine wpList_nil (Zd ?_);revert J I;exact k):G:=h k
theorem fC{G' G:Prop}(k:G')(h:G'→G:=by
 intro k;refine wB fun J I=>?_;simp only[List.cons_append,List.nil_append]at I;refine p4 ?_;refine wpList_nil (Zd ?_);revert J I;exact k):G:=h k
theorem lKk{C G' G:Prop}(hc:C)(k:G')(h:C→G'→G:=by
 intro hc k;refine mZ rfl rfl (hc.mono ?_) rfl;exact k):G:=h hc k
theorem eK{C G' G:Prop}(hc:C)(k:G')(h:C→G'→G:=by
 intro hc k;refine xu rfl (by simp only[List.map_toArray,List.map_cons,List.map_nil];rfl) (hc.mono ?_);exact k):G:=h hc k
theorem pm{C G:Prop}(hc:C)(h:C→G:=by
 intro hc;first|exact hc|(intros;apply hc <;> first|assumption|(refine Loc.perm (by assumption) ?_;first|exact List.Perm.swap _ _ _|exact List.Perm.cons _ (List.Perm.swap _ _ _)|exact ry _ _ _ _ _))):G:=h hc
theorem lO{C G' G:Prop}(hc:C)(k:G')(h:C→G'→G:=by
 intro hc k;refine mZ rfl rfl (hc.mono ?_) rfl;rintro e J⟨rfl,Y⟩;(try dsimp only at Y);(try simp only[Nat.reduceAdd,Nat.reduceSub]at Y);refine⟨_,rfl,?_⟩
 try simp only[Act.put,List.setIfInBounds_toArray,List.set_cons_zero,List.set_cons_succ]
 revert J Y;exact k):G:=h hc k
theorem lV{C L G' G:Prop}(hc:C)(I:L)(k:G')(h:C→L→G'→G:=by
 intro hc I k;refine mZ rfl rfl (hc.mono ?_) rfl;rintro e J⟨rfl,V⟩;have Y:=I.keep V;clear I V;refine⟨_,rfl,?_⟩
 try simp only[Act.put,List.setIfInBounds_toArray,List.set_cons_zero,List.set_cons_succ]
 revert J Y;exact k):G:=h hc I k
theorem eVv{C L G' G:Prop}(hc:C)(I:L)(k:G')(h:C→L→G'→G:=by
 intro hc I k;refine xu rfl (by simp only[List.map_toArray,List.map_cons,List.map_nil];rfl) (hc.mono ?_);rintro e J⟨rfl,V⟩;have Y:=I.keep V;clear I V;refine⟨_,rfl,?_⟩;revert J Y;exact k):G:=h hc I k
theorem gN(n:Tmp){d:Option Tmp}{P:Program}{ops:Array Oper}{Q:Exit→Act→ϑ→Prop}{a:Act}{w:ϑ}{rest:List Oper}{op:Op}{t:ϋ}{ps:String}{af:Array Edge}{gd:_}(k:wpList P ops Q (⟨d,op,t,ps,af,gd⟩::rest) a w)(hd:d=some n:=by rfl):wpList P ops Q (⟨d,op,t,ps,af,gd⟩::rest) a w:=k
theorem gBp(n:Tmp){d:Option Tmp}{P:Program}{ops:Array Oper}{Q:Exit→Act→ϑ→Prop}{a:Act}{w:ϑ}{rest:List Oper}{op:Op}{t:ϋ}{ps:String}{af:Array Edge}{gd:_}{G':Prop}(k:G')(hd:d=some n:=by rfl)(h:G'→wpList P ops Q (⟨d,op,t,ps,af,gd⟩::rest) a w:=by
 intro k;first|refine lB I rfl rfl rfl ?_|refine lA I rfl rfl ?_
 intro b J hx;try simp only[Act.put,List.setIfInBounds_toArray,List.set_cons_zero,List.set_cons_succ]
 revert b J hx;exact k):wpList P ops Q (⟨d,op,t,ps,af,gd⟩::rest) a w:=h k
abbrev Rt(f:FuncId)(args:Array Value)(w:ϑ)(v:ό):Prop:=ϓ f args w fun e Z=>e= .returned v∧Below w.heap.size w Z
theorem Hd{p:Prop}(h:p):RowKit.Hid p:=Lib.hid h
section
variable {P:Program} {ops:Array Oper} {Q:Exit→Act→ϑ→Prop} {md:Region.Mode} {S:ϑ→Prop}
theorem tk(i:Nat){oi:Oper}{v:ό}{fuel:Nat}{listed:Array Bool}{a:Act}{w:ϑ}(hi:ops[i]?=some oi)(hy:YieldsIf P ops S oi v a)(hS:S w)(h:wpAnyH P md ops Q S fuel (listed.setIfInBounds i true) (a.put oi.dst v) w)(hs:Region.noSelect ops=true:=by kernel_rfl)(hf:Region.free md ops listed i=true:=by kernel_rfl)(hr:(Region.ready md ops listed).contains i=true:=by kernel_rfl)(hQ:∀c a w,Q (.panic c) (a.put oi.dst v) w→Q (.panic c) a w:=by exact fun _ _ _ h=>h):wpAnyH P md ops Q S (fuel+1) listed a w :=
 wpAnyH_take hi hs hf hr hQ hy hS h
theorem uT(i:Nat){oi:Oper}{v:ό}{fuel:Nat}{listed:Array Bool}{a:Act}{w:ϑ}(hy:YieldsIf P ops S oi v a){G':Prop}(k:G')(hS:S w:=by exact H)(hi:ops[i]?=some oi:=by rfl)(hs:Region.noSelect ops=true:=by kernel_rfl)(hf:Region.free md ops listed i=true:=by kernel_rfl)(hr:(Region.ready md ops listed).contains i=true:=by kernel_rfl)(hQ:∀c a w,Q (.panic c) (a.put oi.dst v) w→Q (.panic c) a w:=by exact fun _ _ _ h=>h)(h:G'→wpAnyH P md ops Q S fuel (listed.setIfInBounds i true) (a.put oi.dst v) w:=by
  intro k;try simp only[Act.put,List.getElem_toArray,List.getElem_cons_zero,List.getElem_cons_succ,List.setIfInBounds_toArray,List.set_cons_zero,List.set_cons_succ]
  exact k):wpAnyH P md ops Q S (fuel+1) listed a w :=
 wpAnyH_take hi hs hf hr hQ hy hS (h k)
theorem uG(i:Nat){oi:Oper}{v:ό}{fuel:Nat}{listed:Array Bool}{a:Act}{w:ϑ}{G':Prop}(k:G')(hS:S w:=by exact H)(hi:ops[i]?=some oi:=by rfl)(hy:YieldsIf P ops S oi v a:=by refine Or.inl ⟨by rfl,?_⟩;intro w hSw;go_simp;first|done|with_reducible rfl)(hs:Region.noSelect ops=true:=by kernel_rfl)(hf:Region.free md ops listed i=true:=by kernel_rfl)(hr:(Region.ready md ops listed).contains i=true:=by kernel_rfl)(hQ:∀c a w,Q (.panic c) (a.put oi.dst v) w→Q (.panic c) a w:=by exact fun _ _ _ h=>h)(h:G'→wpAnyH P md ops Q S fuel (listed.setIfInBounds i true) (a.put oi.dst v) w:=by
  intro k;try simp only[Act.put,List.getElem_toArray,List.getElem_cons_zero,List.getElem_cons_succ,List.setIfInBounds_toArray,List.set_cons_zero,List.set_cons_succ]
  exact k):wpAnyH P md ops Q S (fuel+1) listed a w :=
 wpAnyH_take hi hs hf hr hQ hy hS (h k)
theorem uZ(i:Nat){oi:Oper}{v:ό}{fuel:Nat}{listed:Array Bool}{a:Act}{w:ϑ}{G':Prop}(k:G')(hS:S w:=by exact H)(hi:ops[i]?=some oi:=by rfl)(hy:YieldsIf P ops S oi v a:=by first|exact zL (by rfl) rfl rfl|exact zI (by rfl) rfl rfl|exact zC (by rfl) rfl rfl|exact yW rfl rfl rfl)(hs:Region.noSelect ops=true:=by kernel_rfl)(hf:Region.free md ops listed i=true:=by kernel_rfl)(hr:(Region.ready md ops listed).contains i=true:=by kernel_rfl)(hQ:∀c a w,Q (.panic c) (a.put oi.dst v) w→Q (.panic c) a w:=by exact fun _ _ _ h=>h)(h:G'→wpAnyH P md ops Q S fuel (listed.setIfInBounds i true) (a.put oi.dst v) w:=by
  intro k;try simp only[Act.put,List.getElem_toArray,List.getElem_cons_zero,List.getElem_cons_succ,List.setIfInBounds_toArray,List.set_cons_zero,List.set_cons_succ]
  exact k):wpAnyH P md ops Q S (fuel+1) listed a w :=
 wpAnyH_take hi hs hf hr hQ hy hS (h k)
theorem uS(i:Nat){oi:Oper}{v:ό}{fuel:Nat}{listed:Array Bool}{a:Act}{w:ϑ}{G':Prop}(k:G')(hS:S w:=by exact H)(hi:ops[i]?=some oi:=by rfl)(hy:YieldsIf P ops S oi v a:=by first|exact Or.inr ⟨by rfl,rfl⟩|(refine Or.inl ⟨by rfl,?_⟩;intro w hSw;go_simp;first|done|with_reducible rfl))(hs:Region.noSelect ops=true:=by kernel_rfl)(hf:Region.free md ops listed i=true:=by kernel_rfl)(hr:(Region.ready md ops listed).contains i=true:=by kernel_rfl)(hQ:∀c a w,Q (.panic c) (a.put oi.dst v) w→Q (.panic c) a w:=by exact fun _ _ _ h=>h)(h:G'→wpAnyH P md ops Q S fuel (listed.setIfInBounds i true) (a.put oi.dst v) w:=by
  intro k;try simp only[Act.put,List.getElem_toArray,List.getElem_cons_zero,List.getElem_cons_succ,List.setIfInBounds_toArray,List.set_cons_zero,List.set_cons_succ]
  exact k):wpAnyH P md ops Q S (fuel+1) listed a w :=
 wpAnyH_take hi hs hf hr hQ hy hS (h k)
theorem uL(i:Nat){oi:Oper}{v:ό}{fuel:Nat}{listed:Array Bool}{a:Act}{w:ϑ}{G':Prop}(k:G')(hS:S w:=by exact H)(hi:ops[i]?=some oi:=by rfl)(hy:YieldsIf P ops S oi v a:=by first|exact Or.inr ⟨by rfl,rfl⟩|exact zL (by rfl) rfl rfl|exact zI (by rfl) rfl rfl|exact zC (by rfl) rfl rfl|exact yW rfl rfl rfl)(hs:Region.noSelect ops=true:=by kernel_rfl)(hf:Region.free md ops listed i=true:=by kernel_rfl)(hr:(Region.ready md ops listed).contains i=true:=by kernel_rfl)(hQ:∀c a w,Q (.panic c) (a.put oi.dst v) w→Q (.panic c) a w:=by exact fun _ _ _ h=>h)(h:G'→wpAnyH P md ops Q S fuel (listed.setIfInBounds i true) (a.put oi.dst v) w:=by
  intro k;try simp only[Act.put,List.getElem_toArray,List.getElem_cons_zero,List.getElem_cons_succ,List.setIfInBounds_toArray,List.set_cons_zero,List.set_cons_succ]
  exact k):wpAnyH P md ops Q S (fuel+1) listed a w :=
 wpAnyH_take hi hs hf hr hQ hy hS (h k)
theorem rd1(j1:Nat){o1:Oper}{fuel:Nat}{listed:Array Bool}{a:Act}{w:ϑ}(k1:∀K':Act→ϑ→Prop,Shut (∀a w,S w→(S w→wpAnyH P md ops Q S fuel (listed.setIfInBounds j1 true) a w)→K' a w)→Oper.wp P o1 a w K' Q)(ho1:ops[j1]?=some o1:=by rfl)(hw1:Region.wanted o1 (yielded ops a.tmps)=true:=by rfl)(hr:Region.ready md ops listed=[j1]:=by kernel_rfl):wpAnyH P md ops Q S (fuel+1) listed a w :=
 wpAnyH_ready hr (by simp) (.cons ho1 (fun K T=>by rw[if_pos hw1];exact k1 K T) .nil)
theorem rd2(j1 j2:Nat){o1 o2:Oper}{fuel:Nat}{listed:Array Bool}{a:Act}{w:ϑ}(k1:∀K':Act→ϑ→Prop,Shut (∀a w,S w→(S w→wpAnyH P md ops Q S fuel (listed.setIfInBounds j1 true) a w)→K' a w)→Oper.wp P o1 a w K' Q)(k2:∀K':Act→ϑ→Prop,Shut (∀a w,S w→(S w→wpAnyH P md ops Q S fuel (listed.setIfInBounds j2 true) a w)→K' a w)→Oper.wp P o2 a w K' Q)(ho1:ops[j1]?=some o1:=by rfl)(hw1:Region.wanted o1 (yielded ops a.tmps)=true:=by rfl)(ho2:ops[j2]?=some o2:=by rfl)(hw2:Region.wanted o2 (yielded ops a.tmps)=true:=by rfl)(hr:Region.ready md ops listed=[j1,j2]:=by kernel_rfl):wpAnyH P md ops Q S (fuel+1) listed a w :=
 wpAnyH_ready hr (by simp) (.cons ho1 (fun K T=>by rw[if_pos hw1];exact k1 K T) (.cons ho2 (fun K T=>by rw[if_pos hw2];exact k2 K T) .nil))
theorem kO{a:Act}{w:ϑ}{R:Act→ϑ→Prop}{K:Act→ϑ→Prop}(T:Shut (∀a w,S w→(S w→R a w)→K a w))(hS:S w){G':Prop}(k:S w→G')(h:G'→R a w:=by
  intro k;try simp only[Act.put,List.getElem_toArray,List.getElem_cons_zero,List.getElem_cons_succ,List.setIfInBounds_toArray,List.set_cons_zero,List.set_cons_succ]
  exact k):K a w:=T.out a w hS fun hs=>h (k hs)
theorem wD{listed:Array Bool}{a:Act}{w:ϑ}{fuel:Nat}(h:Q .normal a w)(hr:Region.ready md ops listed=[]:=by kernel_rfl):wpAnyH P md ops (NoPanic Q) S fuel listed a w:=wpAnyH_done hr (Zd h) _
end
def U(x:BitVec 32):Int:=(x.toNat:Int)
def B8(x:Γ):Int:=(x.toNat:Int)
def Q(x:BitVec 64):Int:=(x.toNat:Int)
theorem kX(x:BitVec 32):0≤U x∧U x<4294967296:=⟨Int.natCast_nonneg _,by have:=x.isLt;unfold U;omega⟩
theorem bP(x:Γ):0≤B8 x∧B8 x<256:=⟨Int.natCast_nonneg _,by have:=x.isLt;unfold B8;omega⟩
theorem jH(x:BitVec 64):0≤Q x∧Q x<18446744073709551616:=⟨Int.natCast_nonneg _,by have:=x.isLt;unfold Q;omega⟩
theorem Jz{x y:BitVec 32}(h:U x=U y):x=y:=Yi (Int.ofNat_inj.1 h)
theorem JY{x y:Γ}(h:B8 x=B8 y):x=y:=Yi (Int.ofNat_inj.1 h)
theorem mA(a b:BitVec 32):bits .xor .u32 (U a) (U b)=U (a^^^b):=by
 unfold U;rw[u32_xor_nat _ _ a.isLt b.isLt,BitVec.toNat_xor]
theorem Eb(a b:BitVec 32):bits .and .u32 (U a) (U b)=U (a&&&b):=by
 unfold U;rw[u32_and_nat _ _ a.isLt b.isLt,YA]
theorem y9(a b:BitVec 32):bits .or .u32 (U a) (U b)=U (a|||b):=by
 unfold U;rw[u32_or_nat _ _ a.isLt b.isLt,ZU]
theorem JA(a:BitVec 32):bits .xor .u32 (if IntKind.u32.signed=true then -1 else IntKind.u32.max) (U a)=U (~~~a):=by
 have e:(if IntKind.u32.signed=true then(-1:Int)else IntKind.u32.max)=U (BitVec.allOnes 32):=Ξ;rw[e,mA,BitVec.allOnes_xor]
theorem iI(a b:BitVec 32):IntKind.u32.wrap (U a+U b)=U (a+b):=by
 unfold U;rw[ZY,BitVec.toNat_add];omega
theorem gH(a b:BitVec 32):(U a+U b)%(4294967296:Int)=U (a+b):=by
 unfold U;rw[BitVec.toNat_add];omega
theorem ov(a b:BitVec 64):IntKind.u64.wrap (Q a+Q b)=Q (a+b):=by
 unfold Q;rw[XM,BitVec.toNat_add];omega
theorem un(n:Nat)(h:n≤1000000000):Q (BitVec.ofNat 64 n)=(n:Int):=by
 unfold Q;rw[Xv];omega
theorem zc(a:BitVec 64)(n:Nat)(h:n≤1000000000):IntKind.u64.wrap (Q a+(n:Int))=Q (a+BitVec.ofNat 64 n):=by
 rw[← un n h,ov]
theorem A7(a:BitVec 64)(n:Nat)(h:n≤1000000000):(Q a+(n:Int))%(18446744073709551616:Int)=Q (a+BitVec.ofNat 64 n):=by
 rw[← zc a n h,XM]
theorem je(a b:Γ):bits .xor .u8 (B8 a) (B8 b)=B8 (a^^^b):=by
 unfold B8;rw[u8_xor_nat _ _ a.isLt b.isLt,BitVec.toNat_xor]
theorem LG(a b:Γ):bits .or .u8 (B8 a) (B8 b)=B8 (a|||b):=by
 unfold B8;rw[u8_or_nat _ _ a.isLt b.isLt,ZU]
theorem tn(a:BitVec 32)(n:Nat):U a/((2^n:Nat):Int)=U (a>>>n):=by
 unfold U;rw[Zc,YW];norm_cast
theorem ow(a:BitVec 32)(n:Nat):U a*((2^n:Nat):Int)%4294967296=U (a<<<n):=by
 unfold U;rw[BitVec.toNat_shiftLeft,Y3,Ye,Yg];rfl
theorem A8(y:Γ):B8 y=U (y.setWidth 32):=by
 unfold B8 U;rw[YL];have:=y.isLt;omega
theorem JZ(x:BitVec 32):U x/(8:Int)=U (x>>>3):=tn x 3
theorem Hs(x:BitVec 32):U x/(1024:Int)=U (x>>>10):=tn x 10
theorem uq(x:BitVec 32):U x*(256:Int)%(4294967296:Int)=U (x<<<8):=ow x 8
theorem we(a b:Nat)(ha:a<9223372036854775808)(hb:b<9223372036854775808):bits .and .i64 (a:Int) (b:Int)=((a&&&b:Nat):Int):=by
 have hx:a&&&b<2^63:=Nat.and_lt_two_pow _ Ω;show IntKind.i64.wrap ((BitVec.ofInt 64 (a:Int)&&&BitVec.ofInt 64 (b:Int)).toNat:Int)=_;rw[YA,ofInt_u64 a Ω,ofInt_u64 b Ω,XV];omega
theorem dK(n:Nat)(h:n<9223372036854775808):bits .and .i64 (n:Int) (255:Int)=((n%256:Nat):Int):=by
 have:=we n 255 h Ω;rw[nat_mask8]at this;exact this
def row(n:Nat)(S:Nat→ό):Ψ:=((List.range n).map S).toArray
def upd{α:Type}(f:Nat→α)(i:Nat)(v:α):Nat→α:=fun j=>if j=i then v else f j
theorem aS(n:Nat)(S:Nat→ό):(row n S).size=n:=by simp[row]
theorem bG{n i:Nat}(S:Nat→ό)(h:i<n):(row n S)[i]?=some (S i):=by simp[row,h]
theorem am{n:Nat}{S S':Nat→ό}(h:∀i,i<n→S i=S' i):row n S=row n S':=by
 unfold row;congr 1;exact List.map_congr_left fun i hi=>h i (List.mem_range.1 hi)
theorem A9{n i:Nat}(S:Nat→ό)(v:ό)(h:i<n):(row n S).setIfInBounds i v=row n (upd S i v):=by
 apply Array.ext';apply List.ext_getElem?;intro j;simp only[row,Array.toList_setIfInBounds,List.getElem?_set,ZT,ZX,List.getElem?_map];by_cases hj:j<n
 ·rw[List.getElem?_range hj]
  by_cases e:i=j
  ·subst e;simp[upd,h]
  ·rw[Χ e];simp[upd,Ne.symm e]
 ·rw[List.getElem?_eq_none (l:=List.range n) (by simpa using hj)]
  by_cases e:i=j
  ·omega
  ·rw[Χ e];rfl
theorem aR{w:ϑ}{g n i:Nat}{S:Nat→ό}{t:ϋ}{fr:Nat×Nat}(hg:w.heap[g]?=some (.cells (row n S) t fr))(h:i<n):w.cell? ⟨g,i,none⟩=some (S i):=by
 rw[Ya w g i _ t fr hg];exact bG S h
theorem bH{w:ϑ}{g n i:Nat}{S:Nat→ό}{t:ϋ}(v:ό)(hg:w.heap[g]?=some (.cells (row n S) t (0,0)))(h:i<n) :
 (w.setCell ⟨g,i,none⟩ v).heap[g]?=some (.cells (row n (upd S i v)) t (0,0)):=by
 rw[heap_setCell_same w g i _ t v hg,A9 S v h]
def bg(n:Nat)(f:Nat→BitVec 32):Ψ:=row n fun i=> .int .u32 (U (f i))
def aa(n:Nat)(f:Φ):Ψ:=row n fun i=> .int .u8 (B8 (f i))
theorem a8(n:Nat)(f:Nat→BitVec 32):(bg n f).size=n:=aS _ _
theorem ai(n:Nat)(f:Φ):(aa n f).size=n:=aS _ _
theorem ar{w:ϑ}{g n i:Nat}{f:Nat→BitVec 32}{t:ϋ}{fr:Nat×Nat}(hg:w.heap[g]?=some (.cells (bg n f) t fr))(h:i<n):w.cell? ⟨g,i,none⟩=some (.int .u32 (U (f i))):=aR hg h
theorem a9{w:ϑ}{g n i:Nat}{f:Φ}{t:ϋ}{fr:Nat×Nat}(hg:w.heap[g]?=some (.cells (aa n f) t fr))(h:i<n):w.cell? ⟨g,i,none⟩=some (.int .u8 (B8 (f i))):=aR hg h
theorem cu{w:ϑ}{g n i:Nat}{f:Nat→BitVec 32}{t:ϋ}(x:BitVec 32)(hg:w.heap[g]?=some (.cells (bg n f) t (0,0)))(h:i<n) :
 (w.setCell ⟨g,i,none⟩ (.int .u32 (U x))).heap[g]?=some (.cells (bg n (upd f i x)) t (0,0)):=by
 rw[bH _ hg h];congr 2;exact am fun j _=>by unfold upd;split <;> rfl
theorem bv{w:ϑ}{g n i:Nat}{f:Φ}{t:ϋ}(x:Γ)(hg:w.heap[g]?=some (.cells (aa n f) t (0,0)))(h:i<n) :
 (w.setCell ⟨g,i,none⟩ (.int .u8 (B8 x))).heap[g]?=some (.cells (aa n (upd f i x)) t (0,0)):=by
 rw[bH _ hg h];congr 2;exact am fun j _=>by unfold upd;split <;> rfl
section
variable {P:Program}
theorem it{c rest:Code}{Q:Exit→Act→ϑ→Prop}{a:Act}{w:ϑ}(l:Nat)(Jzq:Act→ϑ→Prop)(μ:Act→ϑ→Nat)(hf:findLabel c l=some (Code.skip.seq rest))(pass:∀a w,Jzq a w→rest.wp P (Exit.jump l (fun a' Z=>Jzq a' Z∧μ a' Z<μ a w) Q) a w)(first:(∀a w,Jzq a w→rest.wp P (Exit.jump l Jzq Q) a w)→c.wp P (Exit.jump l Jzq Q) a w):(Code.scope c).wp P Q a w :=
 wp_scope_jumps l Jzq μ hf (first fun a w h=>Code.wp_mono (fun e a w q=>by
  cases e with
  | goto l'=>exact⟨q.1,q.2.1⟩
  | normal=>exact q
  | exit id=>exact q
  | ret=>exact q
  | panic ch=>exact q
  | outgrown=>exact q) (pass a w h)) fun a w h=>wp_seq_k fun K T=>wp_skip (T _ _ (pass a w h))
theorem sw{t:ϋ}{n:Nat}{S:Nat→ό}(hz:(P.info? t).map (fun i=>(i.zero,i.size))=some (some (.agg (row n S)),n))(w:ϑ)(v:ό) :
 (Instr.alloc t true v).run P w= .ok (.pointer (some ⟨w.heap.size,0,none⟩)) (w.alloc (.cells (row n S) t)):=by
 have h:=(zero_of_info (P:=P) hz).1 w;unfold Instr.alloc;simp only[Sem.run_bind,h,Result.andThen_ok,newVar,newRow,newObj,Sem.run,Sem.run_pure,Value.cells];rfl
theorem az{ops:Array Oper}{rest:List Oper}{o:Oper}{a:Act}{w:ϑ}{Q:Exit→Act→ϑ→Prop}(hg:o.guard=none)(t:ϋ)(ho:o.op= .alloc t)(n:Nat)(S:Nat→ό)(hz:(P.info? t).map (fun i=>(i.zero,i.size))=some (some (.agg (row n S)),n))(h:wpList P ops Q rest (a.put o.dst (.pointer (some ⟨w.heap.size,0,none⟩))) (w.alloc (.cells (row n S) t))):wpList P ops Q (o::rest) a w :=
 Xt hg fun _ T=>by
  unfold Oper.wp execOp;simp only[ho,Sem.run_bind,sw hz,Result.andThen_ok];exact T _ _ h
theorem iu{t e:ϋ}{n k:Nat}(S:Nat→ό)(ht:P.underlying t=some (.array n e))(he:(P.info? e).map (·.size)=some 1)(hr:∀w,(isAgg e).run P w= .ok false w)(hk:k<n)(w:ϑ):(Instr.index t (.agg (row n S)) (.int .i64 k)).run P w= .ok (S k) w:=by
 cases hi:P.info? e with
 | none=>rw[hi]at he;cases he
 | some i =>
  have hs:i.size=1:=by simpa[hi] using he
  have h0:(0:Int)≤(k:Int)∧(k:Int)<(n:Int):=Ω;simp only[Instr.index,asIntOf,Sem.run_bind,Sem.run_pure,Result.andThen_ok,run_underlying ht,Ρ h0,sizeOf,run_typeInfo _ hi,hs,part,hr,X8,ZP,Ys,XS,bG S hk]
theorem ie{w:ϑ}{b o n m:Nat}{S:Nat→ό}{t:ϋ}{fr:Nat×Nat}(hg:w.heap[b]?=some (.cells (row m S) t fr))(h:o+n≤m) :
 w.rangeAt b o (row n fun i=>S (o+i)).toList:=fun j v hv=>by
 have hj:j<n:=by
  rcases XI j n with h|h
  ·exact h
  ·rw[List.getElem?_eq_none (by simp[aS];exact h)]at hv;cases hv
 have e:(row n fun i=>S (o+i)).toList[j]?=some (S (o+j)):=by
  rw[Array.getElem?_toList];exact bG _ hj
 rw[e]at hv;cases hv
 exact aR hg Ω
end
theorem bW(n:Nat)(f:Nat→BitVec 32):(bg n f).all (·.oneCell')=true:=by
 simp[bg,row,Value.oneCell']
theorem bS(n:Nat)(f:Φ):(aa n f).all (·.oneCell')=true:=by
 simp[aa,row,Value.oneCell']
theorem aF{w:ϑ}{g:Nat}{c c':Ψ}{t:ϋ}{fr:Nat×Nat}(hg:w.heap[g]?=some (.cells c t fr)):(w.setRow g c').heap[g]?=some (.cells c' t fr):=by
 simp only[World.setRow,Array.getElem?_modify,Ρ trivial,hg,Option.map_some]
theorem ax{w:ϑ}{g k:Nat}{c':Ψ}(h:k≠g):(w.setRow g c').heap[k]?=w.heap[k]?:=by
 simp only[World.setRow,Array.getElem?_modify];rw[Χ (Ne.symm h)]
theorem aZ{B:Nat}{a w:ϑ}(h:Below B a w){g:Nat}(hg:B≤g)(c:Ψ):Below B a (w.setRow g c) :=
 h.trans ⟨rfl,rfl,rfl,Ϡ,fun k hk=>ax Ω⟩
theorem jM{w Z:ϑ}{r:Option Nat}(h:Υ w Z):w.grownBy Z r:=⟨h.os,h.tape,h.output,h.size,fun k hk _=>h.block k hk⟩
theorem cH(w:ϑ)(r:Option Nat):w.grownBy w r:=⟨rfl,rfl,rfl,Xn _,fun _ _ _=>rfl⟩
theorem ox{a b c:ϑ}{r:Option Nat}(h:a.grownBy b r)(k:b.grownBy c r):a.grownBy c r :=
 ⟨k.os.trans h.os,k.tape.trans h.tape,k.output.trans h.output,ZD h.size k.size,fun i hi hr=>(k.block i (Xl hi h.size) hr).trans (h.block i hi hr)⟩
theorem oy{a b:ϑ}{r:Option Nat}(h:a.grownBy b r)(n:Nat):a.grownBy (b.drewN n) r:=⟨h.os,h.tape,h.output,h.size,h.block⟩
theorem dL{a b:ϑ}{r:Option Nat}(h:a.grownBy b r):a.grownBy b.drew r:=⟨h.os,h.tape,h.output,h.size,h.block⟩
theorem dM{a b:ϑ}{r:Option Nat}(h:a.grownBy b r)(o:Obj):a.grownBy (b.alloc o) r :=
 ⟨h.os,h.tape,h.output,by have:=h.size;simp;omega,fun k hk hr=>(Xf b o k (Xl hk h.size)).trans (h.block k hk hr)⟩
theorem dU{a b:ϑ}{r:Option Nat}(h:a.grownBy b r){g:Nat}(hg:a.heap.size≤g∨r=some g)(c:Ψ):a.grownBy (b.setRow g c) r :=
 ⟨h.os,h.tape,h.output,by have:=h.size;simpa using this,fun k hk hr=>(ax (fun e=>by subst e;exact hg.elim (fun h=>by omega) (fun h=>hr h.symm))).trans (h.block k hk hr)⟩
theorem bz{a b:ϑ}{r:Option Nat}(h:a.grownBy b r){x:Addr}(hx:a.heap.size≤x.block∨r=some x.block)(v:ό):a.grownBy (b.setCell x v) r :=
 ⟨h.os,h.tape,h.output,by have:=h.size;simpa[World.setCell] using this,fun k hk hr=>(Xh b x k v (fun e=>by subst e;exact hx.elim (fun h=>by omega) (fun h=>hr h.symm))).trans (h.block k hk hr)⟩
section
variable {P:Program} {ops:Array Oper} {Q:Exit→Act→ϑ→Prop} {S:ϑ→Prop}
def nK(ops:Array Oper):List Nat→List Bool→Array Bool→Bool
 | [],_,listed=>(Region.ready .any ops listed)==[]
 | i::ord,b::fl,listed =>
  decide (i<ops.size)&&(if b then Region.free .any ops listed i&&(Region.ready .any ops listed).contains i else(Region.ready .any ops listed)==[i])&&nK ops ord fl (listed.setIfInBounds i true)
 | _::_,[],_=>false
def JB(ops:Array Oper)(ord:List Nat)(fl:List Bool):Bool:=Region.noSelect ops&&(ord.length==ops.size)&&nK ops ord fl (Array.replicate ops.size false)
def ur(P:Program)(ops:Array Oper)(Q:Exit→Act→ϑ→Prop)(S:ϑ→Prop):List Bool→List Oper→Act→ϑ→Prop
 | true::fl,o::l,a,w=>∃v,YieldsIf P ops S o v a∧ur P ops Q S fl l (a.put o.dst v) w
 | false::fl,o::l,a,w=>∀K:Act→ϑ→Prop,Shut (∀a w,S w→(S w→ur P ops Q S fl l a w)→K a w)→if Region.wanted o (yielded ops a.tmps)=true then Oper.wp P o a w K Q else K (a.put o.dst undef) w
 | _,_,a,w=>Q .normal a w
theorem be{fl:List Bool}{o:Oper}{l:List Oper}{a:Act}{w:ϑ}{v:ό}(hy:YieldsIf P ops S o v a)(h:ur P ops Q S fl l (a.put o.dst v) w):ur P ops Q S (true::fl) (o::l) a w:=⟨v,hy,h⟩
theorem Ba{fl:List Bool}{o:Oper}{l:List Oper}{a:Act}{w:ϑ}(h:∀K:Act→ϑ→Prop,Shut (∀a w,S w→(S w→ur P ops Q S fl l a w)→K a w)→if Region.wanted o (yielded ops a.tmps)=true then Oper.wp P o a w K Q else K (a.put o.dst undef) w) :
 ur P ops Q S (false::fl) (o::l) a w:=h
theorem wg{fl:List Bool}{a:Act}{w:ϑ}(h:Q .normal a w):ur P ops Q S fl [] a w:=by
 rcases fl with _|⟨_|_,_⟩ <;> exact h
theorem pR(hs:Region.noSelect ops=true)(hQ:∀c d v a w,Q (.panic c) (a.put d v) w→Q (.panic c) a w):∀(ord:List Nat) (fl:List Bool) (listed:Array Bool) (a:Act) (w:ϑ),
 nK ops ord fl listed=true→S w→ur P ops Q S fl (ord.filterMap (ops[·]?)) a w→wpAnyH P .any ops Q S ord.length listed a w
 | [],fl,listed,a,w,hc,_,h=>by
  have hq:Q .normal a w:=by rcases fl with _|⟨_|_,_⟩ <;> exact h
  exact wpAnyH_done (by simpa[nK] using hc) hq _
 | i::ord,[],listed,a,w,hc,_,_=>by simp[nK]at hc
 | i::ord,b::fl,listed,a,w,hc,hS,h=>by
  unfold nK at hc;rw[Xs,Xs]at hc;obtain⟨⟨h1,h2⟩,h3⟩:=hc;have hlt:i<ops.size:=XC h1;have hi:ops[i]?=some ops[i]:=Array.getElem?_eq_getElem hlt;rw[List.filterMap_cons,hi]at h;cases b with
  | true =>
   obtain⟨v,hy,hr⟩:=h;simp only[ZV]at h2;rw[Xs]at h2;exact wpAnyH_take hi hs h2.1 h2.2 (fun c a w=>hQ c _ _ a w) hy hS (pR hs hQ ord fl _ _ _ h3 hS hr)
  | false =>
   simp only[X8,ZP]at h2;refine wpAnyH_ready (rs:=[i]) (by simpa using h2) Ϡ (AllReadyH.cons hi (fun K T=>?_) AllReadyH.nil);exact h K (fun a w hS hW=>T.out a w hS fun hS=>pR hs hQ ord fl _ _ _ h3 hS (hW hS))
theorem jN{id:Nat}{a:Act}{w:ϑ}(ord:List Nat)(fl:List Bool)(hm:P.follows .mixedOrders=true)(hc:JB ops ord fl=true)(hS:S w.drew)(h:S w.drew→ur P ops (NoPanic Q) S fl (ord.filterMap (ops[·]?)) a w.drew):(Code.region id ops true).wp P Q a w:=by
 unfold JB at hc;rw[Xs,Xs]at hc;obtain⟨⟨h1,h2⟩,h3⟩:=hc;have hl:ord.length=ops.size:=by simpa using h2
 refine wp_region_noPanic (wp_region_held_drew hm hS fun hS=>?_);rw[← hl];exact pR h1 (fun _ _ _ _ _ h=>h) ord fl _ a _ (by rw[hl];exact h3) hS (h hS)
end
class RowTy(t:ϋ)(n:outParam Nat):Prop where
 und:∃d,prog.underlying t=some d∧d.isRow=true
 size:(prog.info? t).map (·.size)=some n
class RowZ(t:ϋ)(r:outParam Ψ):Prop where
 zero:(prog.info? t).map (·.zero)=some (some (.agg r))
class Row1(r:Ψ)(n:outParam Nat):Prop where
 size:r.size=n
 one:r.all (·.oneCell')=true
abbrev Mem:=List (Nat×Ψ×ϋ)
structure Loc(D w:ϑ)(M:Mem):Prop where
 bel:Υ D w
 ok:∀b r t,(b,r,t)∈M→D.heap.size≤b∧w.heap[b]?=some (.cells r t (0,0))
 nd:(M.map (·.1)).Pairwise (· ≠ ·)
theorem Loc.nil(w:ϑ):Loc w w []:=⟨XE _ _,fun _ _ _ h=>(Yc h).elim,List.Pairwise.nil⟩
theorem Loc.get{D w:ϑ}{M:Mem}(h:Loc D w M){b:Nat}{r:Ψ}{t:ϋ}(hm:(b,r,t)∈M):w.heap[b]?=some (.cells r t (0,0)):=(h.ok _ _ _ hm).2
theorem Loc.lt{D w:ϑ}{M:Mem}(h:Loc D w M){b:Nat}{r:Ψ}{t:ϋ}(hm:(b,r,t)∈M):b<w.heap.size:=(Array.getElem?_eq_some_iff.1 (h.get hm)).1
theorem Loc.ge{D w:ϑ}{M:Mem}(h:Loc D w M){b:Nat}{r:Ψ}{t:ϋ}(hm:(b,r,t)∈M):D.heap.size≤b:=(h.ok _ _ _ hm).1
theorem Loc.keep{D w Z:ϑ}{M:Mem}(h:Loc D w M)(hb:Υ w Z):Loc D Z M :=
 ⟨h.bel.trans (hb.mono h.bel.size),fun b r t hm=>⟨h.ge hm,(hb.block b (h.lt hm)).trans (h.get hm)⟩,h.nd⟩
theorem Loc.drew{D w:ϑ}{M:Mem}(h:Loc D w M):Loc D w.drew M:=⟨h.bel.drew,h.ok,h.nd⟩
theorem Loc.alloc{D w:ϑ}{M:Mem}(h:Loc D w M)(r:Ψ)(t:ϋ):Loc D (w.alloc (.cells r t)) ((w.heap.size,r,t)::M):=by
 refine⟨h.bel.alloc h.bel.size _,fun b r' t' hm=>?_,?_⟩
 ·cases hm with
  | head=>exact⟨h.bel.size,Xe _ _⟩
  | tail _ hm=>exact⟨h.ge hm,(Xf _ _ _ (h.lt hm)).trans (h.get hm)⟩
 ·refine List.Pairwise.cons (fun b hb=>?_) h.nd
  obtain⟨⟨b',r',t'⟩,hm,rfl⟩:=List.mem_map.1 hb;have:=h.lt hm;simp only;omega
theorem Loc.pop{D w:ϑ}{M:Mem}{e:Nat×Ψ×ϋ}(h:Loc D w (e::M)):Loc D w M:=⟨h.bel,fun b r t hm=>h.ok b r t (.tail _ hm),by have:=h.nd;simp only[List.map_cons,Yx]at this;exact this.2⟩
inductive Upd:Mem→Nat→Ψ→Mem→Prop
 | head (M:Mem) (b:Nat) (r r':Ψ) (t:ϋ):Upd ((b,r,t)::M) b r' ((b,r',t)::M)
 | tail {M M':Mem} {b:Nat} {r':Ψ} (e:Nat×Ψ×ϋ) (h:Upd M b r' M'):Upd (e::M) b r' (e::M')
theorem Upd.fst{M M':Mem}{b:Nat}{r:Ψ}(h:Upd M b r M'):M'.map (·.1)=M.map (·.1):=by
 induction h with
 | head=>rfl
 | tail e _ ih=>simp only[List.map_cons,ih]
theorem Upd.mem{M M':Mem}{b:Nat}{r':Ψ}(h:Upd M b r' M'):∃r t,(b,r,t)∈M:=by
 induction h with
 | head M b r r' t=>exact⟨r,t,.head _⟩
 | tail e _ ih=>obtain⟨r,t,hm⟩:=ih;exact⟨r,t,.tail _ hm⟩
theorem Upd.back{M M':Mem}{b:Nat}{r':Ψ}(h:Upd M b r' M')(nd:(M.map (·.1)).Pairwise (· ≠ ·)):∀c r t,(c,r,t)∈M'→(c=b∧r=r'∧∃r0,(b,r0,t)∈M)∨(c≠b∧(c,r,t)∈M):=by
 induction h with
 | head M b r r' t =>
  intro c s u hm;simp only[List.map_cons,Yx]at nd;cases hm with
  | head=>exact .inl ⟨rfl,rfl,r,.head _⟩
  | tail _ hm=>exact .inr ⟨fun e=>nd.1 c (List.mem_map.2 ⟨_,hm,rfl⟩) e.symm,.tail _ hm⟩
 | @tail M M' b r' e h ih =>
  intro c s u hm;simp only[List.map_cons,Yx]at nd;cases hm with
  | head =>
   obtain⟨r0,t0,h0⟩:=h.mem;exact .inr ⟨nd.1 b (List.mem_map.2 ⟨_,h0,rfl⟩),.head _⟩
  | tail _ hm =>
   rcases ih nd.2 c s u hm with⟨e1,e2,r0,h0⟩|⟨e1,h0⟩
   ·exact .inl ⟨e1,e2,r0,.tail _ h0⟩
   ·exact .inr ⟨e1,.tail _ h0⟩
theorem Loc.setRow{D w:ϑ}{M M':Mem}(h:Loc D w M){b:Nat}{r':Ψ}(hu:Upd M b r' M'):Loc D (w.setRow b r') M':=by
 obtain⟨r0,t0,h0⟩:=hu.mem;refine⟨aZ h.bel (h.ge h0) _,fun c r t hm=>?_,by rw[hu.fst];exact h.nd⟩;rcases hu.back h.nd c r t hm with⟨rfl,rfl,r1,h1⟩|⟨hne,h1⟩
 ·exact⟨h.ge h1,aF (h.get h1)⟩
 ·exact⟨h.ge h1,(ax hne).trans (h.get h1)⟩
theorem Loc.setCell{D w:ϑ}{M M':Mem}(h:Loc D w M){b n k:Nat}{S:Nat→ό}{t:ϋ}(v:ό)(hm:(b,row n S,t)∈M)(hk:k<n)(hu:Upd M b (row n (upd S k v)) M'):Loc D (w.setCell ⟨b,k,none⟩ v) M':=by
 refine⟨h.bel.setCell (h.ge hm) _,fun c r t' hm'=>?_,by rw[hu.fst];exact h.nd⟩;rcases hu.back h.nd c r t' hm' with⟨rfl,rfl,r1,h1⟩|⟨hne,h1⟩
 ·refine⟨h.ge h1,?_⟩
  have e:r1=row n S∧t'=t:=by
   have a1:=h.get h1;rw[h.get hm]at a1;cases a1
   exact⟨rfl,rfl⟩
  obtain⟨rfl,rfl⟩:=e;exact bH _ (h.get hm) hk
 ·exact⟨h.ge h1,(Xh _ _ _ _ hne).trans (h.get h1)⟩
class At(M:Mem)(b:Nat)(r:outParam Ψ)(t:outParam TypeId):Prop where
 mem:(b,r,t)∈M
instance QE(e:Nat×Ψ×ϋ)(M:Mem)(b:Nat)(r:Ψ)(t:ϋ)[h:At M b r t]:At (e::M) b r t:=⟨.tail _ h.mem⟩
instance QF(M:Mem)(b:Nat)(r:Ψ)(t:ϋ):At ((b,r,t)::M) b r t:=⟨.head _⟩
class Ups(M:Mem)(b:Nat)(r:Ψ)(M':outParam Mem):Prop where
 upd:Upd M b r M'
instance QG(e:Nat×Ψ×ϋ)(M M':Mem)(b:Nat)(r:Ψ)[h:Ups M b r M']:Ups (e::M) b r (e::M'):=⟨.tail _ h.upd⟩
instance QH(M:Mem)(b:Nat)(r r':Ψ)(t:ϋ):Ups ((b,r,t)::M) b r' ((b,r',t)::M):=⟨.head _ _ _ _ _⟩
section
variable {ops:Array Oper} {rest:List Oper} {o:Oper} {a:Act} {D w:ϑ} {M M':Mem} {Q:Exit→Act→ϑ→Prop}
theorem dN(I:Loc D w M)(hg:o.guard=none){t:ϋ}{x:Operand}(ho:o.op= .box t x){r:Ψ}(hx:a.eval x= .agg r)(h:∀b Z,Loc D Z ((b,r,t)::M)→wpList prog ops Q rest (a.put o.dst (.pointer (ϐ b))) Z):wpList prog ops Q (o::rest) a w :=
 Go.Great.wpList_boxTo hg t x ho o.dst rfl _ rfl r (by rw[hx];rfl) (h _ _ (I.alloc r t))
theorem jO{t:ϋ}{r:Ψ}(hz:(prog.info? t).map (·.zero)=some (some (.agg r)))(w:ϑ)(v:ό) :
 (Instr.alloc t true v).run prog w= .ok (.pointer (some ⟨w.heap.size,0,none⟩)) (w.alloc (.cells r t)):=by
 cases hi:prog.info? t with
 | none=>rw[hi]at hz;cases hz
 | some i =>
  rw[hi]at hz;have hs:i.zero=some (.agg r):=by simpa using hz
  have h:=(zero_of_info (P:=prog) (t:=t) (v:= .agg r) (n:=i.size) (by rw[hi];simp[hs])).1 w;unfold Instr.alloc;simp only[Sem.run_bind,h,Result.andThen_ok,newVar,newRow,newObj,Sem.run,Sem.run_pure,Value.cells];rfl
theorem dp(I:Loc D w M)(hg:o.guard=none){t:ϋ}(ho:o.op= .alloc t){r:Ψ}[hz:RowZ t r](h:∀b Z,Loc D Z ((b,r,t)::M)→wpList prog ops Q rest (a.put o.dst (.pointer (ϐ b))) Z):wpList prog ops Q (o::rest) a w :=
 Xt hg fun _ T=>by
  unfold Oper.wp execOp;simp only[ho,Sem.run_bind,jO hz.zero,Result.andThen_ok];exact T _ _ (h _ _ (I.alloc r t))
theorem jE(I:Loc D w M)(hg:o.guard=none){t:ϋ}{x:Operand}(ho:o.op= .load t x){b:Nat}(hx:a.eval x= .pointer (ϐ b)){r:Ψ}{n:Nat}[ht:RowTy t n][hm:At M b r t][hr:Row1 r n](h:wpList prog ops Q rest (a.put o.dst (.agg r)) w):wpList prog ops Q (o::rest) a w:=by
 obtain⟨d,h1,h2⟩:=ht.und;exact XW hg t x ho b hx t r (0,0) d (I.get hm.mem) h1 (by cases d <;> first|rfl|cases h2) (by rw[ht.size,hr.size]) h
theorem fE(I:Loc D w M)(hg:o.guard=none){t:ϋ}{x y:Operand}(ho:o.op= .store t x y)(hd:o.dst=none){b:Nat}(hx:a.eval x= .pointer (ϐ b)){r:Ψ}(hy:a.eval y= .agg r){n:Nat}[hr:Row1 r n][ht:RowTy t n]{old:Ψ}[hm:At M b old t][hs:Row1 old n][hu:Ups M b r M'](h:∀Z,Loc D Z M'→wpList prog ops Q rest a Z):wpList prog ops Q (o::rest) a w :=
 Xu hg t x y ho hd b r hx hy t old (I.get hm.mem) (by rw[ht.size,hr.size]) (by rw[hs.size,hr.size]) hr.one (h _ (I.setRow hu.upd))
theorem eJ{b:Nat}{r:Ψ}{t:ϋ}{fr:Nat×Nat}(hg:w.heap[b]?=some (.cells r t fr)){k:Nat}{cs:List Value}(hc:∀j v,cs[j]?=some v→r[k+j]?=some v):w.rangeAt b k cs:=fun j v hv=>by
 rw[Ya w b (k+j) _ _ _ hg];exact hc j v hv
end
theorem ao{fn:Func}{p q:Tmp}{t:ϋ}(h:fn.results= #[.cell p t,.tmp q]){D w:ϑ}{M:Mem}(I:Loc D w M){tmps:Ψ}{b:Nat}(hp:tmps.getD p undef= .pointer (ϐ b)){v:ό}(hv:tmps.getD q undef=v){r:Ψ}{n:Nat}[ht:RowTy t n][hm:At M b r t][hr:Row1 r n] :
 (results fn tmps).run prog w= .ok (.tuple #[.agg r,v]) w:=by
 obtain⟨d,h1,h2⟩:=ht.und;have hp':tmps[p]?.getD undef= .pointer (ϐ b):=by simpa using hp
 have hv':tmps[q]?.getD undef=v:=by simpa using hv
 have hl:=run_loadVar_row w b t t r (0,0) d (I.get hm.mem) h1 (by cases d <;> first|rfl|cases h2) (by rw[ht.size,hr.size]);simp[results,h,hp',hv',asAddr,hl]
theorem aj{fn:Func}{p:Tmp}{t:ϋ}(h:fn.results= #[.cell p t]){D w:ϑ}{M:Mem}(I:Loc D w M){tmps:Ψ}{b:Nat}(hp:tmps.getD p undef= .pointer (ϐ b)){r:Ψ}{n:Nat}[ht:RowTy t n][hm:At M b r t][hr:Row1 r n] :
 (results fn tmps).run prog w= .ok (.agg r) w:=by
 obtain⟨d,h1,h2⟩:=ht.und;exact Yy h tmps w b t r (0,0) d hp (I.get hm.mem) h1 (by cases d <;> first|rfl|cases h2) (by rw[ht.size,hr.size])
theorem Loc.perm{D w:ϑ}{M M':Mem}(h:Loc D w M)(hp:M.Perm M'):Loc D w M' :=
 ⟨h.bel,fun b r t hm=>h.ok b r t (hp.mem_iff.2 hm),(hp.map (·.1)).pairwise h.nd (fun h=>Ne.symm h)⟩
section
variable {P:Program} {ops:Array Oper} {Q:Exit→Act→ϑ→Prop} {S:ϑ→Prop}
def Steps(P:Program)(o:Oper)(ev:Operand→ό)(v:ό)(w:ϑ):Prop :=
 (execOp ev o).run P w= .ok (.value v) w∨∃f args,(execOp ev o).run P w= .ok (.enter f args) w∧Calls P f args w fun e Z=>e= .returned v∧Υ w Z
theorem Steps.wp{o:Oper}{a:Act}{v:ό}{w:ϑ}{K:Act→ϑ→Prop}(h:Steps P o a.eval v w)(T:∀Z,Υ w Z→K (a.put o.dst v) Z):o.wp P a w K Q:=by
 unfold Oper.wp;rcases h with h|⟨f,args,h,hc⟩
 ·rw[h];exact T w (XE _ _)
 ·rw[h,Zz]
  refine hc.mono fun e w'' hh=>?_;obtain⟨rfl,hb⟩:=hh;exact T _ hb
def okB(P:Program)(ops:Array Oper)(S:ϑ→Prop)(p:Bool)(o:Oper)(v:ό)(a:Act):Prop :=
 if p then Yields P ops o v a else Region.wanted o (yielded ops a.tmps)=true∧∀w,S w→Steps P o a.eval v w
theorem ut{p:Bool}{o:Oper}(hs:∀cs b,o.op≠ .select cs b){v u:ό}{a:Act}{dst:Option Tmp}(h:∀d,dst=some d→d ∉ o.looksAt ops):okB P ops S p o v (a.put dst u)↔okB P ops S p o v a:=by
 unfold okB Yields Steps;rw[execOp_put o hs a dst u h,wanted_put o a dst u h]
theorem okB.wpOp{p:Bool}{i:Nat}{o:Oper}(hi:ops[i]?=some o){v:ό}{a:Act}{w:ϑ}(h:okB P ops S p o v a)(hS:S w){K:Act→ϑ→Prop}(T:∀Z,Υ w Z→K (a.put o.dst v) Z):wpOp P ops Q i K a w:=by
 unfold okB at h;cases p with
 | true=>exact Yields.wpOp hi h (T w (XE _ _))
 | false =>
  obtain⟨hw,h⟩:=h;unfold Go.wpOp;simp only[hi,hw,ZV];exact .inl ((h w hS).wp T)
def sx(P:Program)(ops:Array Oper)(S:ϑ→Prop):List (Nat×Bool)→Act→(Act→Prop)→Prop
 | [],a,R=>R a
 | (i,p)::l,a,R=>∃o v,ops[i]?=some o∧okB P ops S p o v a∧sx P ops S l (a.put o.dst v) R
theorem tp{R R':Act→Prop}(h:∀a,R a→R' a):∀(l:List (Nat×Bool)) (a:Act),sx P ops S l a R→sx P ops S l a R'
 | [],a,hR=>h a hR
 | (i,p)::l,a,⟨o,v,h1,h2,h3⟩=>⟨o,v,h1,h2,tp h l _ h3⟩
theorem wh(hsel:∀(j:Nat) (o:Oper) cs b,ops[j]?=some o→o.op≠ .select cs b){dst:Option Tmp}{u:ό}{R R':Act→Prop}(hR:∀a,R a→R' (a.put dst u)) :
 ∀(l:List (Nat×Bool)) (a:Act),(∀x∈l,∀o,ops[x.1]?=some o→(∀d,dst=some d→d ∉ o.looksAt ops)∧∀d,o.dst=some d→dst≠some d) →
 sx P ops S l a R→sx P ops S l (a.put dst u) R'
 | [],a,_,h=>hR a h
 | (i,p)::l,a,hx,⟨o,v,h1,h2,h3⟩=>by
  obtain⟨hl,hd⟩:=hx (i,p) (.head _) o h1;refine⟨o,v,h1,(ut (hsel i o · · h1) hl).2 h2,?_⟩;rw[← Act.put_comm a v u hd];exact wh hsel hR l _ (fun x hm=>hx x (.tail _ hm)) h3
theorem nL(hsel:∀(j:Nat) (o:Oper) cs b,ops[j]?=some o→o.op≠ .select cs b){j:Nat}{p:Bool}{oj:Oper}(hj:ops[j]?=some oj){R:Act→Prop}(l2:List (Nat×Bool)) :
 ∀(l1:List (Nat×Bool)) (a:Act),(∀x∈l1,∀o,ops[x.1]?=some o→oj.apart ops o=true) →
 sx P ops S (l1++(j,p)::l2) a R→∃v,okB P ops S p oj v a∧sx P ops S (l1++l2) (a.put oj.dst v) R
 | [],a,_,⟨o,v,h1,h2,h3⟩=>by
  rw[hj]at h1;cases h1
  exact⟨v,h2,h3⟩
 | (i,q)::l1,a,hx,⟨o,v,h1,h2,h3⟩=>by
  obtain⟨v',h4,h5⟩:=nL hsel hj l2 l1 _ (fun x hm=>hx x (.tail _ hm)) h3;obtain⟨a1,a2,a3⟩:=Oper.apart_spec (hx (i,q) (.head _) o h1);refine⟨v',(ut (hsel j oj · · hj) a3).1 h4,o,v,h1,(ut (hsel i o · · h1) a1).2 h2,?_⟩;rw[Act.put_comm a v' v a2];exact h5
abbrev mB:=List (Nat×Ψ×TypeId×Option Nat)
def uu(ops:Array Oper):mB→Act→Mem→(Mem→Act→Prop)→Prop
 | [],a,Dzq,R=>R Dzq a
 | (i,z,t,some b)::l,a,Dzq,R=>uu ops l a ((b,z,t)::Dzq) R
 | (i,z,t,none)::l,a,Dzq,R=>∀o,ops[i]?=some o→∀b:Nat,uu ops l (a.put o.dst (.pointer (ϐ b))) ((b,z,t)::Dzq) R
def cZ(l:mB):List Nat:=(l.filter (·.2.2.2.isNone)).map (·.1)
def gI:mB→Mem
 | []=>[]
 | (i,z,t,some b)::l=>(b,z,t)::gI l
 | (i,z,t,none)::l=>gI l
theorem gh:∀l1 l2:mB,gI (l1++l2)=gI l1++gI l2
 | [],_=>rfl
 | (i,z,t,some b)::l,l2=>by show _::gI (l++l2)=_;rw[gh l l2];rfl
 | (i,z,t,none)::l,l2=>gh l l2
theorem oz(l1 l2:mB):cZ (l1++l2)=cZ l1++cZ l2:=by simp[cZ]
theorem nM:∀(l:mB) (a:Act) (Dzq:Mem) (R:Mem→Act→Prop),cZ l=[]→uu ops l a Dzq R→R ((gI l).reverse++Dzq) a
 | [],a,Dzq,R,_,h=>h
 | (i,z,t,some b)::l,a,Dzq,R,hp,h=>by
  have:=nM l a ((b,z,t)::Dzq) R (by simpa[cZ] using hp) h;simpa[gI] using this
 | (i,z,t,none)::l,a,Dzq,R,hp,h=>by simp[cZ]at hp
theorem nN{j:Nat}{oj:Oper}(hj:ops[j]?=some oj){z:Ψ}{t:ϋ}(b:Nat){R:Mem→Act→Prop}(l2:mB) :
 ∀(l1:mB) (a:Act) (Dzq:Mem),(∀x∈l1,∀o,ops[x.1]?=some o→∀d,o.dst=some d→oj.dst≠some d) →
 uu ops (l1++(j,z,t,none)::l2) a Dzq R→uu ops (l1++(j,z,t,some b)::l2) (a.put oj.dst (.pointer (ϐ b))) Dzq R
 | [],a,Dzq,_,h=>h oj hj b
 | (i,z',t',some b')::l1,a,Dzq,hx,h=>nN hj b l2 l1 a _ (fun x hm=>hx x (.tail _ hm)) h
 | (i,z',t',none)::l1,a,Dzq,hx,h=>fun o ho b'=>by
  rw[← Act.put_comm a _ _ (hx _ (.head _) o ho)];exact nN hj b l2 l1 _ _ (fun x hm=>hx x (.tail _ hm)) (h o ho b')
def cU(o:Oper)(j:Nat):Bool:=o.after.any fun e=>Region.binds .any e&&e.on==j
inductive Reach (ops:Array Oper):Nat→Nat→Prop
 | one {i j:Nat} {o:Oper} (ho:ops[i]?=some o) (h:cU o j=true):Reach ops i j
 | step {i j k:Nat} {o:Oper} (ho:ops[i]?=some o) (h:cU o k=true) (r:Reach ops k j):Reach ops i j
def uw(ops:Array Oper):Nat→Nat→Nat→Bool
 | 0,_,_=>false
 | f+1,i,j=>match ops[i]? with
  | none=>false
  | some o=>cU o j || o.after.any fun e=>Region.binds .any e&&uw ops f e.on j
theorem wj{ops:Array Oper}:∀(f i j:Nat),uw ops f i j=true→Reach ops i j
 | 0,_,_,h=>by cases h
 | f+1,i,j,h=>by
  unfold uw at h;cases ho:ops[i]? with
  | none=>rw[ho]at h;cases h
  | some o =>
   rw[ho]at h;simp only[Bool.or_eq_true]at h;rcases h with h|h
   ·exact .one ho h
   ·rw[Zv]at h
    obtain⟨e,he,hb⟩:=h;rw[Xs]at hb;refine .step ho ?_ (wj f e.on j hb.2);unfold cU;rw[Zv];exact⟨e,he,by simp[hb.1]⟩
theorem Reach.out{ops:Array Oper}{rem:List Nat}(hc:∀(i:Nat) (o:Oper),ops[i]?=some o→i ∉ rem→∀k,cU o k=true→k ∉ rem){i j:Nat}(r:Reach ops i j):i ∉ rem→j ∉ rem:=by
 induction r with
 | one ho h=>exact fun hi=>hc _ _ ho hi _ h
 | step ho h _ ih=>exact fun hi=>ih (hc _ _ ho hi _ h)
def lu(ops:Array Oper):List Nat→Array Bool→Bool
 | [],L=>Region.ready .any ops L==[]
 | i::l,L=>(Region.ready .any ops L==[i])&&lu ops l (L.setIfInBounds i true)
theorem jP(hsz:∀i,i∈([]:List Nat)→True):∀(Tzq:List Nat) (L:Array Bool) (a:Act) (w:ϑ),lu ops Tzq L=true→wpList P ops Q (Tzq.filterMap (ops[·]?)) a w→wpAny P .any ops Q Tzq.length L a w
 | [],L,a,w,hf,h=>⟨by simpa[lu] using hf,h⟩
 | i::Tzq,L,a,w,hf,h=>by
  simp only[lu,Xs,beq_iff_eq]at hf;refine⟨fun h0=>(by rw[hf.1]at h0;cases h0),fun j hj=>?_⟩;rw[hf.1]at hj;obtain rfl:j=i:=by simpa using hj
  have hr:j∈Region.ready .any ops L:=by rw[hf.1];exact .head _
  obtain⟨_,o,ho,_⟩:=mem_ready.1 hr;rw[List.filterMap_cons,ho]at h;simp only at h;unfold wpOp;simp only[ho];unfold wpList at h;split
  ·rename_i hw
   rw[Ρ hw]at h;exact h.imp (Oper.wp_mono fun a w h=>jP hsz Tzq _ a w hf.2 h) id
  ·rename_i hw
   rw[Χ hw]at h;exact jP hsz Tzq _ _ w hf.2 h
def Ec(ops:Array Oper)(B:List (Nat×Bool))(A Tzq:List Nat):Bool :=
 let all:=B.map (·.1)++A++Tzq
 let get:=fun i=>(ops[i]?).getD default
 Region.noSelect ops&&all.all (fun i=>decide (i<ops.size))&&decide all.Nodup&&(List.range ops.size).all (all.contains ·) &&
 (List.range ops.size).all (fun i=>(get i).after.all fun e=>decide (e.on<ops.size) && !(Region.binds .any e&&e.on==i)) &&
 decide (all.Pairwise fun i j=>cU (get i) j=false) &&
 (B.map (·.1)++A).all (fun i=>all.all fun j=>i==j || cU (get i) j || cU (get j) i || (get i).apart ops (get j)) &&
 A.all (fun i=>A.all fun j=>i==j || (get i).apart ops (get j)) &&
 Tzq.all (fun t=>((B.filter (!·.2)).map (·.1)++A).all (uw ops ops.size t ·) || Tzq.any fun t'=>cU (get t) t') &&
 lu ops Tzq (Array.ofFn (n:=ops.size) fun i=> !Tzq.contains i.1)
theorem Ed{o:Oper}{j:Nat}{e:Edge}(he:e∈o.after)(hb:Region.binds .any e=true)(hj:e.on=j):cU o j=true:=by
 unfold cU;rw[Zv];exact⟨e,he,by simp[hb,hj]⟩
theorem Bb{L:Array Bool}{rem rem':List Nat}(I:∀i,L.getD i true=false↔i∈rem){j:Nat}(hj:j∈rem)(h:∀i,i∈rem'↔i∈rem∧i≠j)(i:Nat):(L.setIfInBounds j true).getD i true=false↔i∈rem':=by
 by_cases e:j=i
 ·subst e
  rw[h];have hlt:j<L.size:=by
   rcases XI j L.size with h'|h'
   ·exact h'
   ·have:=(I j).2 hj
    simp[Array.getElem?_eq_none h']at this
  simp[hlt]
 ·rw[getD_set_ne true e,I,h]
  exact⟨fun h=>⟨h,fun h'=>e h'.symm⟩,fun h=>h.1⟩
theorem jQ{L:Array Bool}{rem:List Nat}(I:∀i,L.getD i true=false↔i∈rem){j k:Nat}(hr:j∈Region.ready .any ops L){o:Oper}(ho:ops[j]?=some o)(hw:cU o k=true):k ∉ rem:=fun hk=>by
 obtain⟨_,o',ho',hall⟩:=mem_ready.1 hr;rw[ho]at ho';cases ho'
 unfold cU at hw;rw[Zv]at hw;obtain⟨e,he,hb⟩:=hw;simp only[Xs,beq_iff_eq]at hb;have h1:=hall e he hb.1;rw[hb.2]at h1;have h2:=(I k).2 hk;rcases XI k L.size with h'|h'
 ·simp[h']at h1 h2
  rw[h1]at h2;cases h2
 ·simp[Array.getElem?_eq_none h']at h1
theorem wn{L:Array Bool}{rem rest:List Nat}{x:Nat}(I:∀i,L.getD i true=false↔i∈rem)(hsz:L.size=ops.size)(hx:rem=x::rest)(hin:∀(i:Nat) (o:Oper),ops[i]?=some o→∀e∈o.after,e.on<ops.size)(hself:∀(i:Nat) (o:Oper),ops[i]?=some o→cU o i=false)(htop:rem.Pairwise (fun i j=>∀o,ops[i]?=some o→cU o j=false)):x∈Region.ready .any ops L:=by
 have h0:L.getD x true=false:=(I x).2 (by rw[hx];exact .head _);have hlt:x<ops.size:=by
  rcases XI x L.size with h'|h'
  ·omega
  ·simp[Array.getElem?_eq_none h']at h0
 refine mem_ready.2 ⟨h0,ops[x],Array.getElem?_eq_getElem hlt,fun e he hb=>?_⟩;have hlt2:=hin x _ (Array.getElem?_eq_getElem hlt) e he;have hnot:e.on ∉ rem:=by
  rw[hx];intro hm;have hw:=Ed he hb rfl;cases hm with
  | head=>rw[hself _ _ (Array.getElem?_eq_getElem hlt)]at hw;cases hw
  | tail _ hm =>
   rw[hx,Yx]at htop;rw[htop.1 _ hm _ (Array.getElem?_eq_getElem hlt)]at hw;cases hw
 have h1:¬L.getD e.on true=false:=fun h=>hnot ((I _).1 h);have h2:e.on<L.size:=Ω;simp[h2]at h1 ⊢;exact h1
theorem Ee(hsel:Region.noSelect ops=true)(hQ:∀c d v a w,Q (.panic c) (Act.put a d v) w→Q (.panic c) a w)(hin:∀(i:Nat) (o:Oper),ops[i]?=some o→∀e∈o.after,e.on<ops.size)(hself:∀(i:Nat) (o:Oper),ops[i]?=some o→cU o i=false)(B:List Nat)(A:List Nat)(Tzq:List Nat)(hpair:∀i∈B++A,∀j∈B++A++Tzq,i≠j→∀o o',ops[i]?=some o→ops[j]?=some o'→cU o j=true∨cU o' i=true∨o.apart ops o'=true)(LT:Array Bool)(hLT:LT.size=ops.size)(hLT2:∀i,LT.getD i true=false↔i∈Tzq)(hforce:lu ops Tzq LT=true){D:ϑ}{M0:Mem}(R:Mem→Act→Prop)(hR:∀Dzq a,R Dzq a→∀w,Loc D w (Dzq++M0)→wpList P ops Q (Tzq.filterMap (ops[·]?)) a w) :
 ∀(fuel:Nat) (lB:List (Nat×Bool)) (lA:mB) (L:Array Bool) (a:Act) (w:ϑ),
  fuel=lB.length+(cZ lA).length+Tzq.length→L.size=ops.size→(∀i,L.getD i true=false↔i∈lB.map (·.1)++cZ lA++Tzq) →
  (lB.map (·.1)++cZ lA++Tzq).Pairwise (fun i j=>∀o,ops[i]?=some o→cU o j=false)→(lB.map (·.1)++cZ lA++Tzq).Nodup →
  (∀i∈lB.map (·.1),i∈B)→(∀i∈lA.map (·.1),i∈A)→(lA.map (·.1)).Nodup →
  (∀x∈lA,∀o,ops[x.1]?=some o→o.op= .alloc x.2.2.1∧o.guard=none∧∀w v,(Instr.alloc x.2.2.1 true v).run P w= .ok (.pointer (some ⟨w.heap.size,0,none⟩)) (w.alloc (.cells x.2.1 x.2.2.1))) →
  (∀t∈Tzq,∀o,ops[t]?=some o→(∀i∈(lB.filter (!·.2)).map (·.1)++cZ lA,Reach ops t i)∨∃t'∈Tzq,cU o t'=true) →
  (∀(i:Nat) (o:Oper),ops[i]?=some o→i ∉ lB.map (·.1)++cZ lA++Tzq→∀k,cU o k=true→k ∉ lB.map (·.1)++cZ lA++Tzq) →
  (∀x∈lA,∀y∈lA,x.1≠y.1→∀o o',ops[x.1]?=some o→ops[y.1]?=some o'→∀d,o.dst=some d→o'.dst≠some d) →
  Loc D w (gI lA++M0)→sx P ops (fun w=>Loc D w M0) lB a (fun a'=>uu ops lA a' [] R)→wpAny P .any ops Q fuel L a w:=by
 intro fuel;have hs:=Region.noSelect_spec hsel
 induction fuel with
 | zero =>
  intro lB lA L a w hf hsz I _ _ _ _ _ _ _ _ _ hloc hseq;have h1:lB=[]:=XG Ω;have h2:cZ lA=[]:=XG Ω;have h3:Tzq=[]:=XG Ω;subst h1;have:=hR _ _ (nM lA a [] R h2 hseq) w (hloc.perm (by simpa using((List.reverse_perm _).symm.append_right M0)));rw[h3]at this;have hLe:L=LT:=Array.ext (by rw[hsz,hLT]) fun i hi1 hi2=>by
   have e1:=I i;have e2:=hLT2 i;rw[h2,h3]at *
   simp only[List.map_nil,Yf,Yc,iff_false]at e1 e2;simp[hi1]at e1;simp[hi2]at e2;rw[e1,e2]
  subst hLe;rw[h3]at hforce;exact⟨by simpa[lu] using hforce,this⟩
 | succ fuel ih =>
  intro lB lA L a w hf hsz I htop hnd hB hA hAn hAl hTw hcl hAd hloc hseq;have closed:∀(rem':List Nat) (j:Nat),j∈Region.ready .any ops L→(∀i,i∈rem'↔i∈lB.map (·.1)++cZ lA++Tzq∧i≠j)→∀(i:Nat) (o:Oper),ops[i]?=some o→i ∉ rem'→∀k,cU o k=true→k ∉ rem':=by
   intro rem' j hr hrem i o ho hi k hw hk;have hk':=((hrem k).1 hk).1;by_cases e:i=j
   ·subst e
    exact jQ I hr ho hw hk'
   ·exact hcl i o ho (fun h=>hi ((hrem i).2 ⟨h,e⟩)) k hw hk'
  have rdy:∀{x:Nat} {rest:List Nat},lB.map (·.1)++cZ lA++Tzq=x::rest→x∈Region.ready .any ops L:=fun hx=>wn I hsz hx hin hself htop;have inB:∀{x:Nat×Bool},x∈lB→x.1∈lB.map (·.1)++cZ lA++Tzq:=fun hx=>XL _ (XL _ (List.mem_map.2 ⟨_,hx,rfl⟩));have inA:∀{j:Nat},j∈cZ lA→j∈lB.map (·.1)++cZ lA++Tzq:=fun hx=>XL _ (XR _ hx);have pA:∀{j:Nat},j∈cZ lA→j∈A:=fun hx=>by
   obtain⟨x,hm,rfl⟩:=List.mem_map.1 hx;exact hA _ (List.mem_map.2 ⟨x,(List.mem_filter.1 hm).1,rfl⟩)
  have go:∀(l1 l2:List (Nat×Bool)) (j:Nat) (p:Bool),lB=l1++(j,p)::l2→j∈Region.ready .any ops L→∀(a':Act) (Z:ϑ),Loc D Z (gI lA++M0)→sx P ops (fun w=>Loc D w M0) (l1++l2) a' (fun a'=>uu ops lA a' [] R) →
   wpAny P .any ops Q fuel (L.setIfInBounds j true) a' Z:=by
   intro l1 l2 j p hl hrj a' Z hloc' hseq';have hsub:((l1++l2).map (·.1)++cZ lA++Tzq).Sublist (lB.map (·.1)++cZ lA++Tzq):=by
    rw[hl];refine((List.Sublist.map _ ?_).append_right _).append_right _;exact(YT _ _).append_left _
   have hiff:∀i,i∈(l1++l2).map (·.1)++cZ lA++Tzq↔i∈lB.map (·.1)++cZ lA++Tzq∧i≠j:=fun i=>by
    rw[hl]at hnd ⊢;simp only[XQ,List.map_cons,Zj,Ym,Xc]at hnd ⊢;rw[Zg]at hnd;obtain⟨_,n2,n3⟩:=hnd;rw[List.cons_append,List.nodup_cons]at n2;constructor
    ·intro h
     refine⟨by rcases h with h|h|h|h <;> simp[h],?_⟩;rintro rfl;rcases h with h|h|h|h
     ·exact n3 _ h _ (.head _) rfl
     ·exact n2.1 (by simp[h])
     ·exact n2.1 (by simp[h])
     ·exact n2.1 (by simp[h])
    ·rintro⟨h,hne⟩
     rcases h with h|(h|h)|h|h
     ·exact .inl h
     ·exact absurd h hne
     ·exact .inr (.inl h)
     ·exact .inr (.inr (.inl h))
     ·exact .inr (.inr (.inr h))
   refine ih (l1++l2) lA _ a' Z ?_ (by simpa using hsz) (Bb I (by rw[hl];simp) hiff) (htop.sublist hsub) (hnd.sublist hsub) ?_ hA hAn hAl ?_ (closed _ j hrj hiff) hAd hloc' hseq'
   ·rw[hl]at hf;simp only[Xa,XZ]at hf ⊢; omega
   ·intro i hi
    refine hB i ?_;rw[hl];simp only[XQ,List.map_cons,Zj,Ym]at hi ⊢;rcases hi with h|h
    ·exact .inl h
    ·exact .inr (.inr h)
   ·intro t ht o ho
    refine(hTw t ht o ho).imp (fun h i hi=>h i ?_) id;rw[hl];simp only[List.filter_append,XQ,Zj]at hi ⊢;rcases hi with(h|h)|h
    ·exact .inl (.inl h)
    ·refine .inl (.inr ?_)
     rw[List.filter_cons];split
     ·exact List.mem_cons_of_mem _ h
     ·exact h
    ·exact .inr h
  have apB:∀{j:Nat} {oj:Oper},ops[j]?=some oj→j∈Region.ready .any ops L→j∈B++A→∀k∈lB.map (·.1)++cZ lA++Tzq,j≠k→∀o,ops[k]?=some o→cU o j=false→oj.apart ops o=true:=by
   intro j oj hj hr hjB k hk hne o ho hw;have hkA:k∈B++A++Tzq:=by
    rcases List.mem_append.1 hk with h|h
    ·rcases List.mem_append.1 h with h|h
     ·exact XL _ (XL _ (hB _ h))
     ·exact XL _ (XR _ (pA h))
    ·exact XR _ h
   rcases hpair j hjB k hkA hne oj o hj ho with h|h|h
   ·exact absurd hk (jQ I hr hj h)
   ·rw[h]at hw;cases hw
   ·exact h
  by_cases hfin:lB=[]∧cZ lA=[]
  ·obtain⟨h1,h2⟩:=hfin
   subst h1;have hh:=hR _ _ (nM lA a [] R h2 hseq) w (hloc.perm (by simpa using((List.reverse_perm _).symm.append_right M0)));have hLe:L=LT:=Array.ext (by rw[hsz,hLT]) fun i hi1 hi2=>by
    have e1:=I i;have e2:=hLT2 i;rw[h2]at e1;simp only[List.map_nil,List.nil_append]at e1;rw[← e2]at e1;simp only[Array.getD_eq_getD_getElem?,Array.getElem?_eq_getElem hi1,Array.getElem?_eq_getElem hi2,Option.getD_some]at e1;cases hx:L[i] <;> cases hy:LT[i] <;> simp[hx,hy]at e1 ⊢
   subst hLe;have χ:fuel+1=Tzq.length:=by rw[hf,h2];simp
   rw[χ];exact jP (fun _ _=>trivial) Tzq L a w hforce hh
  ·by_cases hp:∃l1 j l2,lB=l1++(j,true)::l2∧j∈Region.ready .any ops L
   ·obtain⟨l1,j,l2,hl,hr⟩:=hp
    obtain⟨_,oj,hj,_⟩:=mem_ready.1 hr;have hjB:j∈B++A:=XL _ (hB j (by rw[hl];simp));have hjnd:∀x∈l1,x.1≠j:=by
     intro x hx e;rw[hl]at hnd;simp only[XQ,List.map_cons,Xc]at hnd;rw[Zg]at hnd;exact hnd.2.2 _ (List.mem_map.2 ⟨x,hx,rfl⟩) _ (.head _) e
    have hbef:∀x∈l1,∀o,ops[x.1]?=some o→cU o j=false:=by
     intro x hx o ho;rw[hl]at htop;simp only[XQ,List.map_cons,Xc]at htop;rw[Zf]at htop;exact htop.2.2 _ (List.mem_map.2 ⟨x,hx,rfl⟩) _ (.head _) o ho
    rw[hl]at hseq;obtain⟨v,hok,hrest⟩:=nL hs hj l2 l1 a (fun x hx o ho=>apB hj hr hjB x.1 (inB (by rw[hl];simp[hx])) (fun e=>hjnd x hx e.symm) o ho (hbef x hx o ho)) hseq;refine wpAny_first hj hs (fun c a w=>hQ c _ _ a w) fuel L a w (fun k ok hk hne hun hno=>?_) hr hok (go l1 l2 j true hl hr _ w hloc hrest);refine apB hj hr hjB k ((I k).1 hun) (Ne.symm hne) ok hk ?_;cases hw:cU ok j with
    | false=>rfl
    | true =>
     unfold cU at hw;rw[Zv]at hw;obtain⟨e,he,hb⟩:=hw;simp only[Xs,beq_iff_eq]at hb;exact absurd hb.2 (hno e he hb.1)
   ·refine⟨fun h0=>?_,fun j hr=>?_⟩
    ·exfalso
     cases hrem:lB.map (·.1)++cZ lA++Tzq with
     | nil =>
      simp only[List.append_eq_nil_iff,List.map_eq_nil_iff]at hrem;exact hfin hrem.1
     | cons x rest =>
      have:=rdy hrem;rw[h0]at this;cases this
    ·obtain⟨hun,oj,hj,_⟩:=mem_ready.1 hr
     have hm:=(I j).1 hun;rcases List.mem_append.1 hm with hm|hm
     ·rcases List.mem_append.1 hm with hm|hm
      ·obtain⟨⟨j',p⟩,hx,rfl⟩:=List.mem_map.1 hm
       obtain⟨l1,l2,hl⟩:=List.append_of_mem hx;have hjB:j'∈B++A:=XL _ (hB j' hm);have hjnd:∀x∈l1,x.1≠j':=by
        intro x hx e;rw[hl]at hnd;simp only[XQ,List.map_cons,Xc]at hnd;rw[Zg]at hnd;exact hnd.2.2 _ (List.mem_map.2 ⟨x,hx,rfl⟩) _ (.head _) e
       have hbef:∀x∈l1,∀o,ops[x.1]?=some o→cU o j'=false:=by
        intro x hx o ho;rw[hl]at htop;simp only[XQ,List.map_cons,Xc]at htop;rw[Zf]at htop;exact htop.2.2 _ (List.mem_map.2 ⟨x,hx,rfl⟩) _ (.head _) o ho
       rw[hl]at hseq;obtain⟨v,hok,hrest⟩:=nL hs hj l2 l1 a (fun x hx o ho=>apB hj hr hjB x.1 (inB (by rw[hl];simp[hx])) (fun e=>hjnd x hx e.symm) o ho (hbef x hx o ho)) hseq;have hM0:Loc D w M0:=by
        have:∀(Dzq:Mem),Loc D w (Dzq++M0)→Loc D w M0:=by
         intro Dzq
         induction Dzq with
         | nil=>exact id
         | cons e Dzq ih=>exact fun h=>ih h.pop
        exact this _ hloc
       exact hok.wpOp hj hM0 fun Z hb=>go l1 l2 j' p hl hr _ Z (hloc.keep hb) hrest
      ·obtain⟨⟨j',z,t,ob⟩,hx,rfl⟩:=List.mem_map.1 hm
       obtain⟨hx1,hx2⟩:=List.mem_filter.1 hx;have hob:ob=none:=by simpa using hx2
       subst hob;obtain⟨l1,l2,hl⟩:=List.append_of_mem hx1;obtain⟨hop,hg,hrun⟩:=hAl _ hx1 oj hj;have hjA:j'∈B++A:=XR _ (pA hm);have hpe:cZ lA=cZ l1++j'::cZ l2:=by rw[hl,oz];simp[cZ]
       have hpe':cZ (l1++(j',z,t,some w.heap.size)::l2)=cZ l1++cZ l2:=by rw[oz];simp[cZ]
       have hmap:(l1++(j',z,t,some w.heap.size)::l2).map (·.1)=lA.map (·.1):=by rw[hl];simp
       have hsub:(lB.map (·.1)++cZ (l1++(j',z,t,some w.heap.size)::l2)++Tzq).Sublist (lB.map (·.1)++cZ lA++Tzq):=by
        rw[hpe,hpe'];refine(List.Sublist.append_left ?_ _).append_right _;exact(YT _ _).append_left _
       unfold wpOp;simp only[hj,Region.wanted,hg,ZV];refine .inl ?_;unfold Oper.wp execOp;simp only[hop,Sem.run_bind,hrun,Result.andThen_ok];show wpAny P .any ops Q fuel _ (a.put oj.dst _) _;have hiff:∀i,i∈lB.map (·.1)++cZ (l1++(j',z,t,some w.heap.size)::l2)++Tzq↔i∈lB.map (·.1)++cZ lA++Tzq∧i≠j':=fun i=>by
        rw[hpe]at hnd ⊢;rw[hpe'];simp only[Zj,Ym,Xc]at hnd ⊢;rw[Zg,Zg]at hnd;obtain⟨_,⟨_,n2,n3⟩,n4⟩:=hnd;rw[List.cons_append,List.nodup_cons]at n2;constructor
        ·intro h
         refine⟨by rcases h with h|h|h|h <;> simp[h],?_⟩;rintro rfl;rcases h with h|h|h|h
         ·exact n4 _ h _ Ϡ rfl
         ·exact n3 _ h _ (.head _) rfl
         ·exact n2.1 (by simp[h])
         ·exact n2.1 (by simp[h])
        ·rintro⟨h,hne⟩
         rcases h with h|h|(h|h)|h
         ·exact .inl h
         ·exact .inr (.inl h)
         ·exact absurd h hne
         ·exact .inr (.inr (.inl h))
         ·exact .inr (.inr (.inr h))
       refine ih lB (l1++(j',z,t,some w.heap.size)::l2) _ _ _ ?_ (by simpa using hsz) (Bb I (inA hm) hiff) (htop.sublist hsub) (hnd.sublist hsub) hB (by rw[hmap];exact hA) (by rw[hmap];exact hAn) ?_ ?_ (closed _ j' hr hiff) ?_ ?_ ?_
       ·rw[hpe]at hf;rw[hpe'];simp only[Xa,XZ]at hf ⊢; omega
       ·intro x hx o ho
        simp only[Zj,Ym]at hx;rcases hx with h|h|h
        ·exact hAl x (by rw[hl];simp[h]) o ho
        ·subst h;exact hAl (j',z,t,none) hx1 o ho
        ·exact hAl x (by rw[hl];simp[h]) o ho
       ·intro t' ht o ho
        refine(hTw t' ht o ho).imp (fun h i hi=>h i ?_) id;rw[hpe']at hi;rw[hpe];simp only[Zj,Ym]at hi ⊢;rcases hi with h|h|h
        ·exact .inl h
        ·exact .inr (.inl h)
        ·exact .inr (.inr (.inr h))
       ·have κ:∀x∈l1++(j',z,t,some w.heap.size)::l2,∃y∈lA,y.1=x.1:=by
         intro x hx;simp only[Zj,Ym]at hx;rcases hx with h|h|h
         ·exact⟨x,by rw[hl];simp[h],rfl⟩
         ·subst h;exact⟨_,hx1,rfl⟩
         ·exact⟨x,by rw[hl];simp[h],rfl⟩
        intro x hx y hy hne;obtain⟨x',hx',ex⟩:=κ x hx;obtain⟨y',hy',ey⟩:=κ y hy;rw[← ex,← ey]at hne ⊢;exact hAd x' hx' y' hy' hne
       ·refine(hloc.alloc z t).perm ?_
        rw[hl,gh,gh];show((w.heap.size,z,t)::(gI l1++gI l2++M0)).Perm (gI l1++(w.heap.size,z,t)::gI l2++M0);rw[Xc,Xc];exact List.perm_middle.symm
       ·refine wh hs (R:=fun a'=>uu ops lA a' [] R) (fun a' h=>?_) lB a (fun x hx o ho=>?_) hseq
        ·rw[hl]at h
         refine nN hj _ l2 l1 a' [] (fun x hx o ho d hd=>?_) h;have hxl:x∈lA:=by rw[hl];simp[hx]
         refine hAd x hxl _ hx1 ?_ o oj ho hj d hd;intro e;rw[hl]at hAn;simp only[XQ,List.map_cons]at hAn;rw[Zg]at hAn;exact hAn.2.2 _ (List.mem_map.2 ⟨x,hx,rfl⟩) _ (.head _) e
        ·have hne:j'≠x.1:=by
          intro e;rw[Xc,Zg]at hnd;exact hnd.2.2 _ (List.mem_map.2 ⟨x,hx,rfl⟩) _ (XL _ hm) e.symm
         have hw:cU o j'=false:=by
          rw[Xc,Zf]at htop;exact htop.2.2 _ (List.mem_map.2 ⟨x,hx,rfl⟩) _ (XL _ hm) o ho
         obtain⟨b1,b2,b3⟩:=Oper.apart_spec (apB hj hr hjA x.1 (inB hx) hne o ho hw);refine⟨b1,fun d hd e=>?_⟩;exact b2 d e hd
     ·exfalso
      have rout:∀{i:Nat},Reach ops j i→i ∉ lB.map (·.1)++cZ lA++Tzq:=fun r=>by
       cases r with
       | one ho h=>rw[hj]at ho;cases ho;exact jQ I hr hj h
       | step ho h r=>rw[hj]at ho;cases ho;exact r.out hcl (jQ I hr hj h)
      rcases hTw j hm oj hj with h|⟨t',ht',h⟩
      ·have hpl:cZ lA=[]:=by
        refine List.eq_nil_iff_forall_not_mem.2 fun i hi=>?_;exact rout (h i (XR _ hi)) (inA hi)
       cases hlB:lB with
       | nil=>exact hfin ⟨hlB,hpl⟩
       | cons x rest =>
        obtain⟨i,p⟩:=x;have hxm:(i,p)∈lB:=by rw[hlB];exact .head _
        cases p with
        | true=>exact hp ⟨[],i,rest,by rw[hlB];rfl,rdy (x:=i) (rest:=rest.map (·.1)++cZ lA++Tzq) (by rw[hlB];rfl)⟩
        | false=>exact rout (h i (XL _ (List.mem_map.2 ⟨_,List.mem_filter.2 ⟨hxm,rfl⟩,rfl⟩))) (inB hxm)
      ·exact jQ I hr hj h (XR _ ht')
abbrev jR:=List (Nat×Ψ×ϋ)
def okA(ops:Array Oper):jR→Prop
 | []=>True
 | (i,z,t)::l=>(∃o,ops[i]?=some o∧o.op= .alloc t∧o.guard=none)∧RowZ t z∧okA ops l
theorem ux:∀(l:jR),okA ops l→∀x∈l,(∃o,ops[x.1]?=some o∧o.op= .alloc x.2.2∧o.guard=none)∧RowZ x.2.2 x.2.1
 | [],_,x,hx=>by cases hx
 | (i,z,t)::l,⟨h1,h2,h3⟩,x,hx=>by
  cases hx with
  | head=>exact⟨h1,h2⟩
  | tail _ hx=>exact ux l h3 x hx
def J0(ops:Array Oper):jR→Act→Mem→(Mem→Act→Prop)→Prop
 | [],a,Dzq,R=>R Dzq a
 | (i,z,t)::l,a,Dzq,R=>∃o,ops[i]?=some o∧∀b:Nat,J0 ops l (a.put o.dst (.pointer (ϐ b))) ((b,z,t)::Dzq) R
theorem mC{R:Mem→Act→Prop}:∀(l:jR) (a:Act) (Dzq:Mem),J0 ops l a Dzq R→uu ops (l.map fun x=>(x.1,x.2.1,x.2.2,none)) a Dzq R
 | [],_,_,h=>h
 | (i,z,t)::l,a,Dzq,⟨o,ho,h⟩=>fun o' ho' b=>by
  rw[ho]at ho';cases ho'
  exact mC l _ _ (h b)
end
theorem wA:∀A:jR,cZ (A.map fun x=>(x.1,x.2.1,x.2.2,(none:Option Nat)))=A.map (·.1)
 | []=>rfl
 | x::A=>XH (x.1 :: ·) (wA A)
theorem tq:∀A:jR,gI (A.map fun x=>(x.1,x.2.1,x.2.2,(none:Option Nat)))=[]
 | []=>rfl
 | _::A=>tq A
def bC(P:Program)(ops:Array Oper)(S:ϑ→Prop):List (Oper×Bool)→Act→(Act→Prop)→Prop
 | [],a,R=>R a
 | (o,p)::l,a,R=>∃v,okB P ops S p o v a∧bC P ops S l (a.put o.dst v) R
theorem mD{P:Program}{ops:Array Oper}{S:ϑ→Prop}{R:Act→Prop}:∀(B:List (Nat×Bool)) (a:Act),(∀x∈B,x.1<ops.size)→bC P ops S (B.filterMap fun x=>(ops[x.1]?).map fun o=>(o,x.2)) a R→sx P ops S B a R
 | [],_,_,h=>h
 | (i,p)::B,a,hx,h=>by
  have hlt:=hx (i,p) (.head _);have ho:ops[i]?=some (ops[i]'hlt):=Array.getElem?_eq_getElem hlt;rw[List.filterMap_cons,ho]at h;obtain⟨v,h1,h2⟩:=h;exact⟨_,v,ho,h1,mD B _ (fun x hm=>hx x (.tail _ hm)) h2⟩
def zd:List (Oper×Ψ×ϋ)→Act→Mem→(Mem→Act→Prop)→Prop
 | [],a,Dzq,R=>R Dzq a
 | (o,z,t)::l,a,Dzq,R=>∀b:Nat,zd l (a.put o.dst (.pointer (ϐ b))) ((b,z,t)::Dzq) R
theorem mE{ops:Array Oper}{R:Mem→Act→Prop}:∀(A:jR) (a:Act) (Dzq:Mem),(∀x∈A,x.1<ops.size)→zd (A.filterMap fun x=>(ops[x.1]?).map fun o=>(o,x.2)) a Dzq R→J0 ops A a Dzq R
 | [],_,_,_,h=>h
 | (i,z,t)::A,a,Dzq,hx,h=>by
  have hlt:=hx (i,z,t) (.head _);have ho:ops[i]?=some (ops[i]'hlt):=Array.getElem?_eq_getElem hlt;rw[List.filterMap_cons,ho]at h;exact⟨_,ho,fun b=>mE A _ _ (fun x hm=>hx x (.tail _ hm)) (h b)⟩
theorem gJ{n:Nat}{p:Nat→Bool}(h:(List.range n).all p=true){i:Nat}(hi:i<n):p i=true:=List.all_eq_true.1 h i (List.mem_range.2 hi)
theorem au{ops:Array Oper}{Q:Exit→Act→ϑ→Prop}{id:Nat}{a:Act}{D w:ϑ}{M0:Mem}(B:List (Nat×Bool))(A:jR)(Tzq:List Nat)(hm:prog.follows .mixedOrders=true)(hc:Ec ops B (A.map (·.1)) Tzq=true)(hA:okA ops A)(I:Loc D w M0)(h:bC prog ops (fun w=>Loc D w M0) (B.filterMap fun x=>(ops[x.1]?).map fun o=>(o,x.2)) a fun a'=>zd (A.filterMap fun x=>(ops[x.1]?).map fun o=>(o,x.2)) a' [] fun Dzq a=>∀w,Loc D w (Dzq++M0)→wpList prog ops (NoPanic Q) (Tzq.filterMap (ops[·]?)) a w) :
 (Code.region id ops true).wp prog Q a w:=by
 refine wp_region_noPanic (wp_region_any hm ?_);unfold Ec at hc;simp only[Xs]at hc;obtain⟨⟨⟨⟨⟨⟨⟨⟨⟨c1,c2⟩,cn⟩,c3⟩,c4⟩,c5⟩,c6⟩,ca⟩,c7⟩,c8⟩:=hc;have cn':=XC cn;have c5':=XC c5;have getD_of:∀{i:Nat} {o:Oper},ops[i]?=some o→(ops[i]?).getD default=o:=fun h=>by rw[h];rfl
 have hlt:∀{i:Nat} {o:Oper},ops[i]?=some o→i<ops.size:=fun h=>(Array.getElem?_eq_some_iff.1 h).1;have hpend:=wA A;have hdone:=tq A;have hmapA:(A.map fun x=>(x.1,x.2.1,x.2.2,(none:Option Nat))).map (·.1)=A.map (·.1):=by rw[List.map_map];rfl
 have hcnt:ops.size=B.length+(cZ (A.map fun x=>(x.1,x.2.1,x.2.2,(none:Option Nat)))).length+Tzq.length:=by
  have h1:(List.range ops.size).Perm (B.map (·.1)++A.map (·.1)++Tzq):=by
   refine(List.perm_ext_iff_of_nodup List.nodup_range cn').2 fun i=>⟨fun hi=>?_,fun hi=>?_⟩
   ·have:=gJ c3 (List.mem_range.1 hi)
    simpa using this
   ·exact List.mem_range.2 (XC (List.all_eq_true.1 c2 i hi))
  have:=h1.length_eq;rw[ZX]at this;rw[this,hpend];simp only[Xa,ZT]
 have hL0:∀i,(Array.replicate ops.size false).getD i true=false↔i∈B.map (·.1)++A.map (·.1)++Tzq:=fun i=>by
  constructor
  ·intro hi
   have hi':i<ops.size:=by
    rcases XI i ops.size with h'|h'
    ·exact h'
    ·simp[Array.getElem?_eq_none (xs:=Array.replicate ops.size false) (by simpa using h')]at hi
   have:=gJ c3 hi';simpa using this
  ·intro hi
   have hi':i<ops.size:=XC (List.all_eq_true.1 c2 i hi);simp[hi']
 refine Ee (D:=D) (M0:=M0) c1 (fun _ _ _ _ _ h=>h) ?_ ?_ (B.map (·.1)) (A.map (·.1)) Tzq ?_ (Array.ofFn (n:=ops.size) fun i=> !Tzq.contains i.1) Ϡ ?_ c8 _ (fun Dzq a h=>h) ops.size B
  (A.map fun x=>(x.1,x.2.1,x.2.2,none)) _ a _ hcnt Ϡ (by rw[hpend];exact hL0) ?_ (by rw[hpend];exact cn') (fun _ h=>h) (fun i h=>by rwa[hmapA]at h) (by rw[hmapA];exact(List.nodup_append.1 (List.nodup_append.1 cn').1).2.1) ?_ ?_ ?_ ?_ ?_ ?_
 ·intro i o ho e he
  have:=Array.all_eq_true_iff_forall_mem.1 (gJ c4 (hlt ho)) e (by rw[getD_of ho];exact he);simp only[Xs]at this;exact XC this.1
 ·intro i o ho
  cases hw:cU o i with
  | false=>rfl
  | true =>
   unfold cU at hw;rw[Zv]at hw;obtain⟨e,he,hb⟩:=hw;have:=Array.all_eq_true_iff_forall_mem.1 (gJ c4 (hlt ho)) e (by rw[getD_of ho];exact he);simp only[Xs,Bool.not_eq_true']at this;rw[Xs]at hb;rw[hb.1,hb.2]at this;exact absurd this.2 Ξ
 ·intro i hi j hj hne o o' ho ho'
  have:=List.all_eq_true.1 (List.all_eq_true.1 c6 i hi) j hj;rw[getD_of ho,getD_of ho']at this;simp only[Bool.or_eq_true,beq_iff_eq]at this;rcases this with((h|h)|h)|h
  ·exact absurd h hne
  ·exact .inl h
  ·exact .inr (.inl h)
  ·exact .inr (.inr h)
 ·intro i
  by_cases hi:i<ops.size
  ·simp[hi]
  ·have:i ∉ Tzq:=fun h=>hi (XC (List.all_eq_true.1 c2 i (XR _ h)))
   simp[hi,this]
 ·rw[hpend]
  exact c5'.imp fun h o ho=>by rw[← getD_of ho];exact h
 ·intro x hx o ho
  obtain⟨y,hy,rfl⟩:=List.mem_map.1 hx;obtain⟨⟨o',ho',h1,h2⟩,h3⟩:=ux A hA y hy;rw[ho]at ho';cases ho'
  exact⟨h1,h2,fun w v=>jO h3.zero w v⟩
 ·intro t ht o ho
  have:=List.all_eq_true.1 c7 t ht;rw[getD_of ho,Bool.or_eq_true]at this;rcases this with h|h
  ·exact .inl fun i hi=>wj _ _ _ (List.all_eq_true.1 h i (by rw[hpend]at hi;exact hi))
  ·obtain⟨t',ht',hw⟩:=List.any_eq_true.1 h
   exact .inr ⟨t',ht',hw⟩
 ·intro i o ho hi
  exact absurd (by have:=gJ c3 (hlt ho);rw[hpend];simpa using this) hi
 ·intro x hx y hy hne o o' ho ho'
  obtain⟨x',hx',rfl⟩:=List.mem_map.1 hx;obtain⟨y',hy',rfl⟩:=List.mem_map.1 hy;have:=List.all_eq_true.1 (List.all_eq_true.1 ca x'.1 (List.mem_map.2 ⟨x',hx',rfl⟩)) y'.1 (List.mem_map.2 ⟨y',hy',rfl⟩);rw[getD_of ho,getD_of ho']at this;simp only[Bool.or_eq_true,beq_iff_eq]at this;rcases this with h|h
  ·exact absurd h hne
  ·exact(Oper.apart_spec h).2.1
 ·rw[hdone];exact I.drew
 ·have hin:∀i,i∈B.map (·.1)++A.map (·.1)++Tzq→i<ops.size:=fun i h=>XC (List.all_eq_true.1 c2 i h)
  refine tp (fun a' h=>mC A a' [] (mE A a' [] (fun x hx=>hin _ ?_) h)) B a (mD B a (fun x hx=>hin _ ?_) h)
  ·exact XL _ (XR _ (List.mem_map.2 ⟨x,hx,rfl⟩))
  ·exact XL _ (XL _ (List.mem_map.2 ⟨x,hx,rfl⟩))
section
variable {ops:Array Oper} {S:ϑ→Prop} {l:List (Oper×Bool)} {o:Oper} {a:Act} {R:Act→Prop}
theorem wf{ops:Array Oper}{Q:Exit→Act→ϑ→Prop}{id:Nat}{a:Act}{D w:ϑ}{M0:Mem}(B:List (Nat×Bool))(A:jR)(Tzq:List Nat)(I:Loc D w M0){G':Prop}(k:G')(hA:okA ops A:=by trivial)(hm:prog.follows .mixedOrders=true:=by kernel_rfl)(hc:Ec ops B (A.map (·.1)) Tzq=true:=by kernel_rfl)(h:G'→bC prog ops (fun w=>Loc D w M0) (B.filterMap fun x=>(ops[x.1]?).map fun o=>(o,x.2)) a fun a'=>zd (A.filterMap fun x=>(ops[x.1]?).map fun o=>(o,x.2)) a' [] fun Dzq a=>∀w,Loc D w (Dzq++M0)→wpList prog ops (NoPanic Q) (Tzq.filterMap (ops[·]?)) a w:=by
  intro k;simp only[List.filterMap_cons,List.filterMap_nil,List.getElem?_toArray,List.getElem?_cons_zero,List.getElem?_cons_succ,Option.map_some];exact k):(Code.region id ops true).wp prog Q a w:=au B A Tzq hm hc hA I (h k)
theorem aK(h:R a):bC prog ops S [] a R:=h
theorem iJ{v:ό}(hg:o.guard=none)(hv:∀w,(execOp a.eval o).run prog w= .ok (.value v) w)(h:bC prog ops S l (a.put o.dst v) R):bC prog ops S ((o,true)::l) a R :=
 ⟨v,.inl ⟨by simp[Region.wanted,hg],hv⟩,h⟩
theorem tr{v:ό}(hg:o.guard=none)(hv:∀w,S w→(execOp a.eval o).run prog w= .ok (.value v) w)(h:bC prog ops S l (a.put o.dst v) R):bC prog ops S ((o,false)::l) a R :=
 ⟨v,⟨by simp[Region.wanted,hg],fun w hS=> .inl (hv w hS)⟩,h⟩
theorem nO{v:ό}{f:FuncId}{args:Ψ}(hg:o.guard=none)(he:∀w,(execOp a.eval o).run prog w= .ok (.enter f args) w)(hc:∀w,S w→ϓ f args w fun e Z=>e= .returned v∧Υ w Z)(h:bC prog ops S l (a.put o.dst v) R):bC prog ops S ((o,false)::l) a R :=
 ⟨v,⟨by simp[Region.wanted,hg],fun w hS=> .inr ⟨f,args,he w,hc w hS⟩⟩,h⟩
theorem wB{Dzq:Mem}{R:Mem→Act→Prop}(h:R Dzq a):zd [] a Dzq R:=h
theorem aC{z:Ψ}{t:ϋ}{l:List (Oper×Ψ×ϋ)}{Dzq:Mem}{R:Mem→Act→Prop}(h:∀b:Nat,zd l (a.put o.dst (.pointer (ϐ b))) ((b,z,t)::Dzq) R):zd ((o,z,t)::l) a Dzq R:=h
theorem cN{f:FuncId}{args:Ψ}{w:ϑ}{v:ό}(h:ϓ f args w fun e Z=>e= .returned v∧w=Z):ϓ f args w fun e Z=>e= .returned v∧Υ w Z :=
 h.mono fun e Z ⟨h1,h2⟩=>⟨h1,h2 ▸ XE _ _⟩
end
class Ent(f:FuncId):Prop where
 enter:Enters prog f
class FnC(f:FuncId)(args:Ψ)(v:outParam Value):Prop where
 calls:∀w,ϓ f args w fun e Z=>e= .returned v∧Υ w Z
theorem eo{f:FuncId}{fn:Func}{c:Code}(hf:prog.funcs[f]?=some fn)(hname:(fn.name == "runtime.NumGoroutine")=false:=by kernel_rfl) (hb:fn.body=some c:=by rfl):Ent f:=⟨enters_of hf hname hb⟩
theorem Ent.of{f:FuncId}{fn:Func}{c:Code}(hf:prog.funcs[f]?=some fn)(hname:(fn.name == "runtime.NumGoroutine")=false) (hb:fn.body=some c):Ent f:=⟨enters_of hf hname hb⟩
theorem lx{o:Oper}{ev:Operand→ό}{f:FuncId}{xs:Array Operand}{ts:Array TypeId}(ho:o.op= .call { callee:= .value (.func f),args:=xs,argTypes:=ts })(hf:ev (.func f)= .func (.func f) #[] #[])[he:Ent f](w:ϑ) :
 (execOp ev o).run prog w= .ok (.enter f (xs.map ev)) w:=by
 unfold execOp;simp only[ho,resolve,hf,Deferred.ofValue,Sem.run_bind,Sem.run_pure,Result.andThen_ok,invoke,Array.append_empty,Za];exact he.enter (xs.map ev) w
class Part(r:Ψ)(u:ϋ)(k:Nat)(t:ϋ)(s:outParam Ψ):Prop where
 part:∀(j:Nat) (v:ό),s.toList[j]?=some v→r[k+j]?=some v
instance WD(r:Ψ)(u:ϋ):Part r u 0 u r:=⟨fun j v h=>by simpa using h⟩
section
variable {ops:Array Oper} {rest:List Oper} {o:Oper} {a:Act} {D w:ϑ} {M M':Mem} {Q:Exit→Act→ϑ→Prop}
theorem lB(I:Loc D w M)(hg:o.guard=none){t:ϋ}{x:Operand}(ho:o.op= .box t x){r:Ψ}(hx:a.eval x= .agg r)(h:∀b Z,Loc D Z ((b,r,t)::M)→wpList prog ops Q rest (a.put o.dst (.pointer (ϐ b))) Z):wpList prog ops Q (o::rest) a w:=dN I hg ho hx h
theorem lA(I:Loc D w M)(hg:o.guard=none){t:ϋ}(ho:o.op= .alloc t){r:Ψ}[hz:RowZ t r](h:∀b Z,Loc D Z ((b,r,t)::M)→wpList prog ops Q rest (a.put o.dst (.pointer (ϐ b))) Z):wpList prog ops Q (o::rest) a w:=dp I hg ho h
theorem lL(I:Loc D w M)(hg:o.guard=none){t:ϋ}{x:Operand}(ho:o.op= .load t x){b k:Nat}(hx:a.eval x= .pointer (some ⟨b,k,none⟩)){r s:Ψ}{u:ϋ}{n:Nat}[ht:RowTy t n][hm:At M b r u][hp:Part r u k t s][hr:Row1 s n](h:∀Z,Loc D Z M→wpList prog ops Q rest (a.put o.dst (.agg s)) Z):wpList prog ops Q (o::rest) a w:=by
 obtain⟨d,h1,h2⟩:=ht.und;have:=ZQ (ops:=ops) (rest:=rest) (Q:=Q) hg t x ho b k hx s.toList d (eJ (I.get hm.mem) fun j v hv=>hp.part j v hv) h1 h2 (by rw[ht.size,Yq,hr.size]);simp only[YO]at this;exact this (h w I)
theorem lS(I:Loc D w M)(hg:o.guard=none){t:ϋ}{x y:Operand}(ho:o.op= .store t x y)(hd:o.dst=none){b:Nat}(hx:a.eval x= .pointer (ϐ b)){r:Ψ}(hy:a.eval y= .agg r){n:Nat}[hr:Row1 r n][ht:RowTy t n]{old:Ψ}[hm:At M b old t][hs:Row1 old n][hu:Ups M b r M'](h:∀Z,Loc D Z M'→wpList prog ops Q rest a Z):wpList prog ops Q (o::rest) a w:=fE I hg ho hd hx hy h
theorem lC(I:Loc D w M)(hg:o.guard=none){f:FuncId}{xs:Array Operand}{ts:Array TypeId}(ho:o.op= .call { callee:= .value (.func f),args:=xs,argTypes:=ts }){args:Ψ}(hx:xs.map a.eval=args)[he:Ent f]{v:ό}[hf:FnC f args v](h:∀Z,Loc D Z M→wpList prog ops Q rest (a.put o.dst v) Z):wpList prog ops Q (o::rest) a w :=
 Xt hg fun K T=>by
  unfold Oper.wp;rw[lx ho rfl w,hx,Zz];refine(hf.calls w).mono fun e Z hh=>?_;obtain⟨rfl,hb⟩:=hh;exact T _ _ (h Z (I.keep hb))
theorem lC0(I:Loc D w M)(hg:o.guard=none){f:FuncId}{ts:Array TypeId}(ho:o.op= .call { callee:= .value (.func f),args:= #[],argTypes:=ts })[he:Ent f]{v:ό}[hf:FnC f #[] v](h:∀Z,Loc D Z M→wpList prog ops Q rest (a.put o.dst v) Z):wpList prog ops Q (o::rest) a w:=lC (args:= #[]) I hg ho Ϡ h
theorem lC1(I:Loc D w M)(hg:o.guard=none){f:FuncId}{x:Operand}{ts:Array TypeId}(ho:o.op= .call { callee:= .value (.func f),args:= #[x],argTypes:=ts }){r:Ψ}(hx:a.eval x= .agg r)[he:Ent f]{v:ό}[hf:FnC f #[.agg r] v](h:∀Z,Loc D Z M→wpList prog ops Q rest (a.put o.dst v) Z):wpList prog ops Q (o::rest) a w:=lC (args:= #[.agg r]) I hg ho (by simp[hx]) h
theorem lC2(I:Loc D w M)(hg:o.guard=none){f:FuncId}{x y:Operand}{ts:Array TypeId}(ho:o.op= .call { callee:= .value (.func f),args:= #[x,y],argTypes:=ts }){r s:Ψ}(hx:a.eval x= .agg r)(hy:a.eval y= .agg s)[he:Ent f]{v:ό}[hf:FnC f #[.agg r,.agg s] v](h:∀Z,Loc D Z M→wpList prog ops Q rest (a.put o.dst v) Z):wpList prog ops Q (o::rest) a w:=lC (args:= #[.agg r,.agg s]) I hg ho (by simp[hx,hy]) h
theorem lC3(I:Loc D w M)(hg:o.guard=none){f:FuncId}{x y:Operand}{ts:Array TypeId}(ho:o.op= .call { callee:= .value (.func f),args:= #[x,y],argTypes:=ts }){r:Ψ}{k:IntKind}{n:Int}(hx:a.eval x= .agg r)(hy:a.eval y= .int k n)[he:Ent f]{v:ό}[hf:FnC f #[.agg r,.int k n] v](h:∀Z,Loc D Z M→wpList prog ops Q rest (a.put o.dst v) Z):wpList prog ops Q (o::rest) a w:=lC (args:= #[.agg r,.int k n]) I hg ho (by simp[hx,hy]) h
theorem lVa(I:Loc D w M)(hg:o.guard=none){x:Operand}(ho:o.op= .assign x){r:Ψ}(hx:a.eval x= .agg r)(h:∀Z,Loc D Z M→wpList prog ops Q rest (a.put o.dst (.agg r)) Z):wpList prog ops Q (o::rest) a w :=
 Xt hg fun K T=>by
  unfold Oper.wp execOp;simp only[ho,hx,Sem.run_pure];exact T _ _ (h w I)
theorem lVi(I:Loc D w M)(hg:o.guard=none){x:Operand}(ho:o.op= .assign x){k:IntKind}{n:Int}(hx:a.eval x= .int k n)(h:∀Z,Loc D Z M→wpList prog ops Q rest (a.put o.dst (.int k n)) Z):wpList prog ops Q (o::rest) a w :=
 Xt hg fun K T=>by
  unfold Oper.wp execOp;simp only[ho,hx,Sem.run_pure];exact T _ _ (h w I)
theorem lVb(I:Loc D w M)(hg:o.guard=none){x:Operand}(ho:o.op= .assign x){c:Bool}(hx:a.eval x= .bool c)(h:∀Z,Loc D Z M→wpList prog ops Q rest (a.put o.dst (.bool c)) Z):wpList prog ops Q (o::rest) a w :=
 Xt hg fun K T=>by
  unfold Oper.wp execOp;simp only[ho,hx,Sem.run_pure];exact T _ _ (h w I)
theorem lVp(I:Loc D w M)(hg:o.guard=none){x:Operand}(ho:o.op= .assign x){p:ϊ}(hx:a.eval x= .pointer p)(h:∀Z,Loc D Z M→wpList prog ops Q rest (a.put o.dst (.pointer p)) Z):wpList prog ops Q (o::rest) a w :=
 Xt hg fun K T=>by
  unfold Oper.wp execOp;simp only[ho,hx,Sem.run_pure];exact T _ _ (h w I)
theorem lVs(I:Loc D w M)(hg:o.guard=none){x:Operand}(ho:o.op= .assign x){p:ϊ}{n c:Nat}(hx:a.eval x= .slice p n c)(h:∀Z,Loc D Z M→wpList prog ops Q rest (a.put o.dst (.slice p n c)) Z):wpList prog ops Q (o::rest) a w :=
 Xt hg fun K T=>by
  unfold Oper.wp execOp;simp only[ho,hx,Sem.run_pure];exact T _ _ (h w I)
theorem lVt(I:Loc D w M)(hg:o.guard=none){x:Operand}(ho:o.op= .assign x){r:Ψ}(hx:a.eval x= .tuple r)(h:∀Z,Loc D Z M→wpList prog ops Q rest (a.put o.dst (.tuple r)) Z):wpList prog ops Q (o::rest) a w :=
 Xt hg fun K T=>by
  unfold Oper.wp execOp;simp only[ho,hx,Sem.run_pure];exact T _ _ (h w I)
end
section
variable {ops:Array Oper} {l:List (Oper×Bool)} {a:Act} {R:Act→Prop} {D:ϑ} {M:Mem} {o:Oper}
theorem sL(hg:o.guard=none){t:ϋ}{x:Operand}(ho:o.op= .load t x){b k:Nat}(hx:a.eval x= .pointer (some ⟨b,k,none⟩)){r s:Ψ}{u:ϋ}{n:Nat}[ht:RowTy t n][hm:At M b r u][hp:Part r u k t s][hr:Row1 s n](h:bC prog ops (fun w=>Loc D w M) l (a.put o.dst (.agg s)) R):bC prog ops (fun w=>Loc D w M) ((o,false)::l) a R:=by
 obtain⟨d,h1,h2⟩:=ht.und;have hy:=yieldsIf_load_mid (P:=prog) (ops:=ops) (S:=fun w=>Loc D w M) (op:=o) (a:=a) (by simp[Region.wanted,hg]) t x ho b k hx s.toList d (fun w h=>eJ (h.get hm.mem) fun j v hv=>hp.part j v hv) h1 h2 (by rw[ht.size,Yq,hr.size]);simp only[YO]at hy;rcases hy with⟨hw,hv⟩|⟨_,h0⟩
 ·exact⟨_,⟨hw,fun w hS=> .inl (hv w hS)⟩,h⟩
 ·cases h0
theorem sC(hg:o.guard=none){f:FuncId}{xs:Array Operand}{ts:Array TypeId}(ho:o.op= .call { callee:= .value (.func f),args:=xs,argTypes:=ts }){args:Ψ}(hx:xs.map a.eval=args)[he:Ent f]{v:ό}[hf:FnC f args v](h:bC prog ops (fun w=>Loc D w M) l (a.put o.dst v) R):bC prog ops (fun w=>Loc D w M) ((o,false)::l) a R :=
 nO hg (fun w=>by rw[lx ho rfl w,hx]) (fun w _=>hf.calls w) h
theorem sC0(hg:o.guard=none){f:FuncId}{ts:Array TypeId}(ho:o.op= .call { callee:= .value (.func f),args:= #[],argTypes:=ts })[he:Ent f]{v:ό}[hf:FnC f #[] v](h:bC prog ops (fun w=>Loc D w M) l (a.put o.dst v) R):bC prog ops (fun w=>Loc D w M) ((o,false)::l) a R:=sC (args:= #[]) hg ho Ϡ h
theorem sC1(hg:o.guard=none){f:FuncId}{x:Operand}{ts:Array TypeId}(ho:o.op= .call { callee:= .value (.func f),args:= #[x],argTypes:=ts }){r:Ψ}(hx:a.eval x= .agg r)[he:Ent f]{v:ό}[hf:FnC f #[.agg r] v](h:bC prog ops (fun w=>Loc D w M) l (a.put o.dst v) R):bC prog ops (fun w=>Loc D w M) ((o,false)::l) a R:=sC (args:= #[.agg r]) hg ho (by simp[hx]) h
theorem sC2(hg:o.guard=none){f:FuncId}{x y:Operand}{ts:Array TypeId}(ho:o.op= .call { callee:= .value (.func f),args:= #[x,y],argTypes:=ts }){r s:Ψ}(hx:a.eval x= .agg r)(hy:a.eval y= .agg s)[he:Ent f]{v:ό}[hf:FnC f #[.agg r,.agg s] v](h:bC prog ops (fun w=>Loc D w M) l (a.put o.dst v) R):bC prog ops (fun w=>Loc D w M) ((o,false)::l) a R:=sC (args:= #[.agg r,.agg s]) hg ho (by simp[hx,hy]) h
theorem sC3(hg:o.guard=none){f:FuncId}{x y:Operand}{ts:Array TypeId}(ho:o.op= .call { callee:= .value (.func f),args:= #[x,y],argTypes:=ts }){r:Ψ}{k:IntKind}{n:Int}(hx:a.eval x= .agg r)(hy:a.eval y= .int k n)[he:Ent f]{v:ό}[hf:FnC f #[.agg r,.int k n] v](h:bC prog ops (fun w=>Loc D w M) l (a.put o.dst v) R):bC prog ops (fun w=>Loc D w M) ((o,false)::l) a R:=sC (args:= #[.agg r,.int k n]) hg ho (by simp[hx,hy]) h
end
class ScTy(t:ϋ):Prop where
 agg:∀w,(isAgg t).run prog w= .ok false w
 size:(prog.info? t).map (·.size)=some 1
class Cell(r:Ψ)(k:Nat)(v:outParam Value):Prop where
 cell:r[k]?=some v
class Put(r:Ψ)(k:Nat)(v:ό)(s:outParam Ψ):Prop where
 put:r.setIfInBounds k v=s
 lt:k<r.size
theorem cO{t:ϋ}[ht:ScTy t]{w:ϑ}{b k:Nat}{v:ό}(hc:w.cell? ⟨b,k,none⟩=some v):(loadVar t ⟨b,k,none⟩).run prog w= .ok v w:=by
 unfold loadVar;simp[Sem.run_bind,ht.agg,load,Sem.run,hc]
theorem jf{t:ϋ}[ht:ScTy t]{w:ϑ}{b k:Nat}{v:ό}(hc:(w.cell? ⟨b,k,none⟩).isSome=true)(hf:w.frozen? ⟨b,k,none⟩=false)(h1:v.oneCell'=true) :
 (storeVar t ⟨b,k,none⟩ v).run prog w= .ok () (w.setCell ⟨b,k,none⟩ v):=by
 have hv:v.cells= #[v]:=by cases v <;> first|rfl|cases h1
 have:=run_storeCells_cells (P:=prog) b k [v] 0 w (fun j hj=>by
  obtain rfl:j=0:=by simpa using hj
  simpa using hc) (fun j hj=>by
  obtain rfl:j=0:=by simpa using hj
  simpa using hf) (fun x hx=>by simp at hx;subst hx;exact h1)
 cases hq:prog.info? t with
 | none=>have:=ht.size;rw[hq]at this;cases this
 | some i =>
  have hs:i.size=1:=by have:=ht.size;rw[hq]at this;simpa using this
  simp only[Zm]at this;simp[storeVar,sizeOf,typeInfo,hq,hv,hs,this];rfl
theorem Loc.put{D w:ϑ}{M M':Mem}(h:Loc D w M){b k:Nat}{r:Ψ}{t:ϋ}(v:ό)(hm:(b,r,t)∈M)(hu:Upd M b (r.setIfInBounds k v) M'):Loc D (w.setCell ⟨b,k,none⟩ v) M':=by
 refine⟨h.bel.setCell (h.ge hm) _,fun c r' t' hm'=>?_,by rw[hu.fst];exact h.nd⟩;rcases hu.back h.nd c r' t' hm' with⟨rfl,rfl,r1,h1⟩|⟨hne,h1⟩
 ·refine⟨h.ge h1,?_⟩
  have e:r1=r∧t'=t:=by
   have a1:=h.get h1;rw[h.get hm]at a1;cases a1
   exact⟨rfl,rfl⟩
  obtain⟨rfl,rfl⟩:=e;exact heap_setCell_same w c k r1 t' v (h.get hm)
 ·exact⟨h.ge h1,(Xh _ _ _ _ hne).trans (h.get h1)⟩
instance WE:ScTy 227:=⟨fun w=>by kernel_rfl,Θ⟩
instance WF:ScTy 5:=⟨fun w=>by kernel_rfl,Θ⟩
instance WG:ScTy 3:=⟨fun w=>by kernel_rfl,Θ⟩
section
variable {ops:Array Oper} {rest:List Oper} {l:List (Oper×Bool)} {R:Act→Prop} {o:Oper} {a:Act} {D w:ϑ} {M M':Mem} {Q:Exit→Act→ϑ→Prop}
theorem lI(I:Loc D w M)(hg:o.guard=none){t:ϋ}{x:Operand}(ho:o.op= .load t x){b k:Nat}(hx:a.eval x= .pointer (some ⟨b,k,none⟩)){r:Ψ}{u:ϋ}{v:ό}[ht:ScTy t][hm:At M b r u][hc:Cell r k v](h:∀Z,Loc D Z M→wpList prog ops Q rest (a.put o.dst v) Z):wpList prog ops Q (o::rest) a w :=
 Xt hg fun K T=>by
  unfold Oper.wp execOp;have:=cO (t:=t) (w:=w) (b:=b) (k:=k) (v:=v) (by rw[Ya w b k _ _ _ (I.get hm.mem)];exact hc.cell);simp only[ho,hx,Instr.loadAt,Instr.sureAddr,Sem.run_bind,Sem.run_pure,Result.andThen_ok,this];exact T _ _ (h w I)
theorem sI(hg:o.guard=none){t:ϋ}{x:Operand}(ho:o.op= .load t x){b k:Nat}(hx:a.eval x= .pointer (some ⟨b,k,none⟩)){r:Ψ}{u:ϋ}{v:ό}[ht:ScTy t][hm:At M b r u][hc:Cell r k v](h:bC prog ops (fun w=>Loc D w M) l (a.put o.dst v) R):bC prog ops (fun w=>Loc D w M) ((o,false)::l) a R :=
 tr hg (fun w hS=>by
  unfold execOp;have:=cO (t:=t) (w:=w) (b:=b) (k:=k) (v:=v) (by rw[Ya w b k _ _ _ (hS.get hm.mem)];exact hc.cell);simp only[ho,hx,Instr.loadAt,Instr.sureAddr,Sem.run_bind,Sem.run_pure,Result.andThen_ok,this]) h
theorem lT(I:Loc D w M)(hg:o.guard=none){t:ϋ}{x y:Operand}(ho:o.op= .store t x y)(hd:o.dst=none){b k:Nat}(hx:a.eval x= .pointer (some ⟨b,k,none⟩)){d:IntKind}{n:Int}(hy:a.eval y= .int d n){r s:Ψ}{u:ϋ}[ht:ScTy t][hm:At M b r u][hp:Put r k (.int d n) s][hu:Ups M b s M'](h:∀Z,Loc D Z M'→wpList prog ops Q rest a Z):wpList prog ops Q (o::rest) a w :=
 Xt hg fun K T=>by
  unfold Oper.wp execOp;have hs:=jf (t:=t) (w:=w) (b:=b) (k:=k) (v:= .int d n) (by rw[Ya w b k _ _ _ (I.get hm.mem),Array.getElem?_eq_getElem hp.lt];rfl) (Xi w _ _ _ _ (I.get hm.mem)) rfl;simp only[ho,hx,hy,Instr.storeAt,Instr.sureAddr,Sem.run_bind,Sem.run_pure,Result.andThen_ok,hs];have:=h _ (I.put (.int d n) hm.mem (by rw[hp.put];exact hu.upd));refine T _ _ ?_;rw[hd];exact this
theorem lC4(I:Loc D w M)(hg:o.guard=none){f:FuncId}{x y:Operand}{ts:Array TypeId}(ho:o.op= .call { callee:= .value (.func f),args:= #[x,y],argTypes:=ts }){d k:IntKind}{m n:Int}(hx:a.eval x= .int d m)(hy:a.eval y= .int k n)[he:Ent f]{v:ό}[hf:FnC f #[.int d m,.int k n] v](h:∀Z,Loc D Z M→wpList prog ops Q rest (a.put o.dst v) Z):wpList prog ops Q (o::rest) a w:=lC (args:= #[.int d m,.int k n]) I hg ho (by simp[hx,hy]) h
theorem sC4(hg:o.guard=none){f:FuncId}{x y:Operand}{ts:Array TypeId}(ho:o.op= .call { callee:= .value (.func f),args:= #[x,y],argTypes:=ts }){d k:IntKind}{m n:Int}(hx:a.eval x= .int d m)(hy:a.eval y= .int k n)[he:Ent f]{v:ό}[hf:FnC f #[.int d m,.int k n] v](h:bC prog ops (fun w=>Loc D w M) l (a.put o.dst v) R):bC prog ops (fun w=>Loc D w M) ((o,false)::l) a R:=sC (args:= #[.int d m,.int k n]) hg ho (by simp[hx,hy]) h
end
section
variable {ops:Array Oper} {rest:List Oper} {l:List (Oper×Bool)} {R:Act→Prop} {S:ϑ→Prop} {o:Oper} {a:Act} {D w:ϑ} {M M':Mem} {Q:Exit→Act→ϑ→Prop}
theorem lU(I:Loc D w M)(hg:o.guard=none){t:ϋ}{ps:Array (Nat×Operand)}(ho:o.op= .build t ps){vs:Array (Nat×ό)}{r:Ψ}(hb:∀w,(Instr.build t vs).run prog w= .ok (.agg r) w)(hv:(ps.toList.map fun x=>(x.1,a.eval x.2))=vs.toList)(h:∀Z,Loc D Z M→wpList prog ops Q rest (a.put o.dst (.agg r)) Z):wpList prog ops Q (o::rest) a w :=
 Xt hg fun K T=>by
  have hv:(ps.map fun x=>(x.1,a.eval x.2))=vs:=by rw[← ZK,ZJ];exact hv
  subst hv;unfold Oper.wp execOp;simp only[ho,Sem.run_bind,hb,Result.andThen_ok,Sem.run_pure];exact T _ _ (h w I)
theorem sU(hg:o.guard=none){t:ϋ}{ps:Array (Nat×Operand)}(ho:o.op= .build t ps){vs:Array (Nat×ό)}{r:Ψ}(hb:∀w,(Instr.build t vs).run prog w= .ok (.agg r) w)(hv:(ps.toList.map fun x=>(x.1,a.eval x.2))=vs.toList)(h:bC prog ops S l (a.put o.dst (.agg r)) R):bC prog ops S ((o,true)::l) a R:=iJ hg (fun w=>by
 have hv:(ps.map fun x=>(x.1,a.eval x.2))=vs:=by rw[← ZK,ZJ];exact hv
 subst hv;unfold execOp;simp only[ho,Sem.run_bind,hb,Result.andThen_ok,Sem.run_pure]) h
end
section
variable {ops:Array Oper} {rest:List Oper} {l:List (Oper×Bool)} {R:Act→Prop} {o:Oper} {a:Act} {D w:ϑ} {M M':Mem} {Q:Exit→Act→ϑ→Prop}
theorem lC5(I:Loc D w M)(hg:o.guard=none){f:FuncId}{x:Operand}{ts:Array TypeId}(ho:o.op= .call { callee:= .value (.func f),args:= #[x],argTypes:=ts }){k:IntKind}{n:Int}(hx:a.eval x= .int k n)[he:Ent f]{v:ό}[hf:FnC f #[.int k n] v](h:∀Z,Loc D Z M→wpList prog ops Q rest (a.put o.dst v) Z):wpList prog ops Q (o::rest) a w:=lC (args:= #[.int k n]) I hg ho (by simp[hx]) h
theorem sC5(hg:o.guard=none){f:FuncId}{x:Operand}{ts:Array TypeId}(ho:o.op= .call { callee:= .value (.func f),args:= #[x],argTypes:=ts }){k:IntKind}{n:Int}(hx:a.eval x= .int k n)[he:Ent f]{v:ό}[hf:FnC f #[.int k n] v](h:bC prog ops (fun w=>Loc D w M) l (a.put o.dst v) R):bC prog ops (fun w=>Loc D w M) ((o,false)::l) a R:=sC (args:= #[.int k n]) hg ho (by simp[hx]) h
end
theorem aO{n k:Nat}(S:Nat→ό)(h:k<n):Cell (row n S) k (S k):=⟨bG S h⟩
theorem bm{n k:Nat}{S:Nat→ό}{v:ό}{r:Ψ}(h:k<n)(e:row n (upd S k v)=r):Put (row n S) k v r:=⟨(A9 S v h).trans e,by rw[aS];exact h⟩
def lw(n i:Nat):Nat:=n/2^(64*i)%18446744073709551616
def lv(n i:Nat):Value:= .int .u64 (lw n i:Nat)
def an(n:Nat):Ψ:=row 4 (lv n)
def oA(n k:Nat):Ψ:=row 4 fun i=>if i<k then lv n i else .int .u64 0
theorem ly(n:Nat):oA n 0=an 0:=am fun i _=>by rw[Χ Ω];unfold lv lw;simp
theorem lD(n:Nat):oA n 4=an n:=am fun i hi=>by rw[Ρ hi]
theorem lE(n k:Nat):row 4 (upd (fun i=>if i<k then lv n i else .int .u64 0) k (.int .u64 (lw n k:Nat)))=oA n (k+1):=am fun i _=>by
 unfold upd;by_cases e:i=k
 ·subst e;rw[Ρ rfl,Ρ Ω];rfl
 ·rw[Χ e]
  show(if i<k then lv n i else Value.int .u64 0)=_;by_cases h:i<k
  ·rw[Ρ h,Ρ Ω]
  ·rw[Χ h,Χ Ω]
theorem dC(n i:Nat):lw n i<18446744073709551616:=XJ _ Ω
instance Ot:RowTy 311 4:=⟨⟨_,underlying311,rfl⟩,Θ⟩
instance Ou:RowZ 311 (an 0):=⟨Θ⟩
instance Ov(n:Nat):Row1 (an n) 4:=⟨aS _ _,by simp[an,row,lv,Value.oneCell']⟩
instance Ow:RowTy 24 32:=⟨⟨_,underlying24,rfl⟩,Θ⟩
instance Ox:RowZ 24 (aa 32 fun _=>0):=⟨Θ⟩
instance Oy(n:Nat)(f:Φ):Row1 (aa n f) n:=⟨ai _ _,bS _ _⟩
def cy(n m k:Nat):Nat:=(n%2^(64*k)+m%2^(64*k))/2^(64*k)
def bw(n m k:Nat):Nat:=if n%2^(64*k)<m%2^(64*k)then 1 else 0
theorem k4{k:Nat}(h:k<4):k=0∨k=1∨k=2∨k=3:=Ω
theorem LH(n m k:Nat):cy n m k≤1:=by
 unfold cy;have h:=Xg (64*k);have h1:=XJ n h;have h2:=XJ m h;generalize 2^(64*k)=N at *
 exact Nat.lt_succ_iff.1 ((Yn h).2 Ω)
theorem LI(n m k:Nat):bw n m k≤1:=by unfold bw;split <;> omega
theorem Ht(n m:Nat):cy n m 0=0:=by simp[cy,YH]
theorem Hu(n m:Nat):bw n m 0=0:=by simp[bw,YH]
theorem LJ(n m:Nat){k:Nat}(h:k<4):(lw n k+lw m k+cy n m k)%18446744073709551616=lw (n+m) k:=by
 unfold lw cy;rcases k4 h with rfl|rfl|rfl|rfl <;> simp only[XO,XS,Nat.reduceMul,Nat.reducePow] <;> omega
theorem LK(n m:Nat){k:Nat}(h:k<4):(lw n k+lw m k+cy n m k)/18446744073709551616=cy n m (k+1):=by
 unfold lw cy;rcases k4 h with rfl|rfl|rfl|rfl <;> simp only[XO,XS,Nat.reduceMul,Nat.reduceAdd,Nat.reducePow] <;> omega
theorem LL(n m:Nat){k:Nat}(hn:n<2^256)(hm:m<2^256)(h:k<4):(lw n k+18446744073709551616-lw m k-bw n m k)%18446744073709551616=lw (n+2^256-m) k:=by
 unfold lw bw;simp only[Nat.reducePow]at hn hm ⊢;rcases k4 h with rfl|rfl|rfl|rfl <;> simp only[XO,XS,Nat.reduceMul,Nat.reducePow] <;> split <;> omega
theorem LM(n m:Nat){k:Nat}(h:k<4):(if lw n k<lw m k+bw n m k then 1 else 0)=bw n m (k+1):=by
 unfold lw bw;rcases k4 h with rfl|rfl|rfl|rfl <;> simp only[XO,XS,Nat.reduceMul,Nat.reduceAdd,Nat.reducePow] <;> split <;> split <;> split <;> omega
theorem gA(x y c:Nat)(hc:c≤1)(w:ϑ):(callFunc 299 #[.int .u64 x,.int .u64 y,.int .u64 c]).run prog w =
 .ok (.value (.tuple #[.int .u64 (((x+y+c)%18446744073709551616:Nat):Int),.int .u64 (((x+y+c)/18446744073709551616:Nat):Int)])) w:=by
 rw[run_callFunc_extern func299 Θ Θ Θ (e:=add64Entry) Θ,run_add64 x y c Ω Ω Ω Ω];simp only[Result.andThen];congr 5 <;> omega
theorem Cm(x y b:Nat)(hb:b≤1)(w:ϑ):(callFunc 316 #[.int .u64 x,.int .u64 y,.int .u64 b]).run prog w =
 .ok (.value (.tuple #[.int .u64 (((x+18446744073709551616-y-b)%18446744073709551616:Nat):Int),.int .u64 ((if x<y+b then 1 else 0:Nat):Int)])) w:=by
 rw[run_callFunc_extern func316 Θ Θ Θ (e:=sub64Entry) Θ,run_sub64 x y b hb];rfl
theorem ze(n m:Nat){k:Nat}(h:k<4)(w:ϑ):(callFunc 299 #[.int .u64 (lw n k:Nat),.int .u64 (lw m k:Nat),.int .u64 (cy n m k:Nat)]).run prog w= .ok (.value (.tuple #[.int .u64 (lw (n+m) k:Nat),.int .u64 (cy n m (k+1):Nat)])) w:=by
 rw[gA _ _ _ (LH n m k),LJ n m h,LK n m h]
theorem zf(n m:Nat)(hn:n<2^256)(hm:m<2^256){k:Nat}(h:k<4)(w:ϑ):(callFunc 316 #[.int .u64 (lw n k:Nat),.int .u64 (lw m k:Nat),.int .u64 (bw n m k:Nat)]).run prog w= .ok (.value (.tuple #[.int .u64 (lw (n+2^256-m) k:Nat),.int .u64 (bw n m (k+1):Nat)])) w:=by
 rw[Cm _ _ _ (LI n m k),LL n m hn hm h,LM n m h]
theorem zg(n k:Nat)(h:k<4):lw (n%2^256) k=lw n k:=by
 unfold lw;simp only[Nat.reducePow];rcases k4 h with rfl|rfl|rfl|rfl <;> simp only[XO,XS,Nat.reduceMul,Nat.reducePow] <;> omega
theorem dZ(n:Nat):an (n%2^256)=an n:=am fun i hi=>by unfold lv;rw[zg n i hi]
theorem jS{w:ϑ}{b n k:Nat}{t:ϋ}(h:w.heap[b]?=some (.cells (an n) t (0,0)))(hk:k<4):w.cell? ⟨b,k,none⟩=some (.int .u64 (lw n k:Nat)):=aR h hk
theorem jg(n m:Nat)(w:ϑ) :
 Rt 301 #[.agg (an n),.agg (an m)] w (.tuple #[.agg (an (n+m)),.int .u64 (cy n m 4:Nat)]):=by
 have I:=Loc.nil w;go_enter func301,ntmps301;go_wp2_with (first
  | ((refine gN 2 ?_);refine dN I rfl rfl rfl (fun b2 J Y=>?_);clear I;have I:=Y;clear Y)
  | ((refine gN 3 ?_);refine dN I rfl rfl rfl (fun b3 J Y=>?_);clear I;have I:=Y;clear Y)
  | ((refine gN 4 ?_);refine dp I rfl rfl (fun b4 J Y=>?_);clear I;have I:=Y;clear Y)
  | ((refine gN 6 ?_);refine dp I rfl rfl (fun b6 J Y=>?_);clear I;have I:=Y;clear Y))
 go_loopw [7,9] (fun c i wr=>∃k:Nat,k≤4∧i= .int .i64 k∧c= .int .u64 (cy n m k:Nat)∧Loc w wr [(b6,oA (n+m) k,311),(b4,an 0,311),(b3,an m,311),(b2,an n,311)]) (fun _ i _=>4-(intOf i).toNat);case atStart=>exact⟨0,Ω,rfl,by rw[Ht];rfl,by rw[ly];exact I⟩
 case round =>
  clear I;obtain⟨k,hk,rfl,rfl,I⟩:=hrel;by_cases hlt:k<4
  ·have hk0:(0:Int)≤(k:Int):=Ω
   have hk1:(k:Int)<4:=Ω;have hc1:=jS (I.get (.tail _ (.tail _ (.tail _ (.head _))))) hlt;have hc2:=jS (I.get (.tail _ (.tail _ (.head _)))) hlt;have hc6:wr.cell? ⟨b6,k,none⟩=some (.int .u64 0):=(aR (I.get (.head _)) hlt).trans (by rw[Χ Ω]);have hf:wr.frozen? ⟨b6,k,none⟩=false:=Xi wr _ _ _ _ (I.get (.head _));have hadd:=ze n m  hlt;have hS:=I.drew.setCell (.int .u64 (lw (n+m) k:Nat)) (.head _) hlt (by rw[lE];exact .head _ _ _ _ _);clear I;go_wp2_with fail;refine jN (S:=(fun Z=>Z.cell? ⟨b2,k,none⟩=some (.int .u64 (lw n k:Nat))∧Z.cell? ⟨b3,k,none⟩=some (.int .u64 (lw m k:Nat)))) [0,1,2,3,4,5,6,7,8,9,10,11,12,13,14] [true,true,true,true,true,true,true,true,true,true,true,true,true,false,true] Θ Θ (⟨hc1,hc2⟩) (fun _=>?_);simp only[List.filterMap_cons,List.filterMap_nil,List.getElem?_toArray,List.getElem?_cons_zero,List.getElem?_cons_succ];refine be (v:=?_) (Or.inl ⟨ϕ,?_⟩) ?_;rotate_left
   ·(intro w hSw;go_simp;first|done|with_reducible rfl)
   refine p4 ?_;refine be (v:=?_) (Or.inl ⟨ϕ,?_⟩) ?_;rotate_left
   ·(intro w hSw;go_simp;first|done|with_reducible rfl)
   refine p4 ?_;refine be (v:=?_) (Or.inl ⟨ϕ,?_⟩) ?_;rotate_left
   ·(intro w hSw;go_simp;first|done|with_reducible rfl)
   refine p4 ?_;refine be (v:=?_) (Or.inl ⟨ϕ,?_⟩) ?_;rotate_left
   ·(intro w hSw;obtain⟨hSw1,hSw2⟩:=hSw;go_simp;first|done|with_reducible rfl)
   refine p4 ?_;refine be (v:=?_) (Or.inl ⟨ϕ,?_⟩) ?_;rotate_left
   ·(intro w hSw;go_simp;first|done|with_reducible rfl)
   refine p4 ?_;refine be (v:=?_) (Or.inl ⟨ϕ,?_⟩) ?_;rotate_left
   ·(intro w hSw;go_simp;first|done|with_reducible rfl)
   refine p4 ?_;refine be (v:=?_) (Or.inl ⟨ϕ,?_⟩) ?_;rotate_left
   ·(intro w hSw;obtain⟨hSw1,hSw2⟩:=hSw;go_simp;first|done|with_reducible rfl)
   refine p4 ?_;refine be (v:=?_) (Or.inl ⟨ϕ,?_⟩) ?_;rotate_left
   ·(intro w hSw;go_simp;first|done|with_reducible rfl)
   refine p4 ?_;refine be (v:=?_) (Or.inl ⟨ϕ,?_⟩) ?_;rotate_left
   ·(intro w hSw;go_simp;first|done|with_reducible rfl)
   refine p4 ?_;refine be (v:=?_) (Or.inl ⟨ϕ,?_⟩) ?_;rotate_left
   ·(intro w hSw;go_simp;first|done|with_reducible rfl)
   refine p4 ?_;refine be (v:=?_) (Or.inl ⟨ϕ,?_⟩) ?_;rotate_left
   ·(intro w hSw;go_simp;first|done|with_reducible rfl)
   refine p4 ?_;refine be (v:=?_) (Or.inl ⟨ϕ,?_⟩) ?_;rotate_left
   ·(intro w hSw;go_simp;first|done|with_reducible rfl)
   refine p4 ?_;refine be (v:=?_) (Or.inl ⟨ϕ,?_⟩) ?_;rotate_left
   ·(intro w hSw;go_simp;first|done|with_reducible rfl)
   refine p4 ?_;refine Ba (fun K T=>?_);rw[Ρ ϕ];go_simp;refine T.out _ _ (⟨jS (hS.get (.tail _ (.tail _ (.tail _ (.head _))))) hlt,jS (hS.get (.tail _ (.tail _ (.head _)))) hlt⟩) (fun _=>?_);clear T K;refine p4 ?_;refine be (v:=?_) (Or.inl ⟨ϕ,?_⟩) ?_;rotate_left
   ·(intro w hSw;go_simp;first|done|with_reducible rfl)
   refine p4 ?_;refine wg (Zd ?_);go_wp2_with fail;go_roundw;case rel=>exact⟨k+1,Ω,by go_num,rfl,hS⟩
   case measure=>exact ϝ
  ·obtain rfl:k=4:=Ω
   rw[lD]at I;go_wp2_with (first
    | ((with_reducible show wpList _ _ _ (⟨some _,.load _ _,_,_,_,_⟩::_) _ _);refine jE I rfl rfl rfl ?_)
    | ((with_reducible show wpList _ _ _ (⟨none,.store _ _ _,_,_,_,_⟩::_) _ _);refine fE I rfl rfl rfl rfl rfl (fun J Y=>?_);clear I;have I:=Y;clear Y))
   refine Ϣ (ao rfl I rfl rfl) rfl ?_;exact⟨rfl,I.bel⟩
theorem gi(n m:Nat)(hn:n<2^256)(hm:m<2^256)(w:ϑ) :
 Rt 296 #[.agg (an n),.agg (an m)] w (.tuple #[.agg (an (n+2^256-m)),.int .u64 (bw n m 4:Nat)]):=by
 have I:=Loc.nil w;go_enter func296,ntmps296;go_wp2_with (first
  | ((refine gN 2 ?_);refine dN I rfl rfl rfl (fun b2 J Y=>?_);clear I;have I:=Y;clear Y)
  | ((refine gN 3 ?_);refine dN I rfl rfl rfl (fun b3 J Y=>?_);clear I;have I:=Y;clear Y)
  | ((refine gN 4 ?_);refine dp I rfl rfl (fun b4 J Y=>?_);clear I;have I:=Y;clear Y)
  | ((refine gN 6 ?_);refine dp I rfl rfl (fun b6 J Y=>?_);clear I;have I:=Y;clear Y))
 go_loopw [7,9] (fun c i wr=>∃k:Nat,k≤4∧i= .int .i64 k∧c= .int .u64 (bw n m k:Nat)∧Loc w wr [(b6,oA (n+2^256-m) k,311),(b4,an 0,311),(b3,an m,311),(b2,an n,311)]) (fun _ i _=>4-(intOf i).toNat);case atStart=>exact⟨0,Ω,rfl,by rw[Hu];rfl,by rw[ly];exact I⟩
 case round =>
  clear I;obtain⟨k,hk,rfl,rfl,I⟩:=hrel;by_cases hlt:k<4
  ·have hk0:(0:Int)≤(k:Int):=Ω
   have hk1:(k:Int)<4:=Ω;have hc1:=jS (I.get (.tail _ (.tail _ (.tail _ (.head _))))) hlt;have hc2:=jS (I.get (.tail _ (.tail _ (.head _)))) hlt;have hc6:wr.cell? ⟨b6,k,none⟩=some (.int .u64 0):=(aR (I.get (.head _)) hlt).trans (by rw[Χ Ω]);have hf:wr.frozen? ⟨b6,k,none⟩=false:=Xi wr _ _ _ _ (I.get (.head _));have hadd:=zf n m hn hm hlt;have hS:=I.drew.setCell (.int .u64 (lw (n+2^256-m) k:Nat)) (.head _) hlt (by rw[lE];exact .head _ _ _ _ _);clear I;go_wp2_with fail;refine jN (S:=(fun Z=>Z.cell? ⟨b2,k,none⟩=some (.int .u64 (lw n k:Nat))∧Z.cell? ⟨b3,k,none⟩=some (.int .u64 (lw m k:Nat)))) [0,1,2,3,4,5,6,7,8,9,10,11,12,13,14] [true,true,true,true,true,true,true,true,true,true,true,true,true,false,true] Θ Θ (⟨hc1,hc2⟩) (fun _=>?_);simp only[List.filterMap_cons,List.filterMap_nil,List.getElem?_toArray,List.getElem?_cons_zero,List.getElem?_cons_succ];refine be (v:=?_) (Or.inl ⟨ϕ,?_⟩) ?_;rotate_left
   ·(intro w hSw;go_simp;first|done|with_reducible rfl)
   refine p4 ?_;refine be (v:=?_) (Or.inl ⟨ϕ,?_⟩) ?_;rotate_left
   ·(intro w hSw;go_simp;first|done|with_reducible rfl)
   refine p4 ?_;refine be (v:=?_) (Or.inl ⟨ϕ,?_⟩) ?_;rotate_left
   ·(intro w hSw;go_simp;first|done|with_reducible rfl)
   refine p4 ?_;refine be (v:=?_) (Or.inl ⟨ϕ,?_⟩) ?_;rotate_left
   ·(intro w hSw;obtain⟨hSw1,hSw2⟩:=hSw;go_simp;first|done|with_reducible rfl)
   refine p4 ?_;refine be (v:=?_) (Or.inl ⟨ϕ,?_⟩) ?_;rotate_left
   ·(intro w hSw;go_simp;first|done|with_reducible rfl)
   refine p4 ?_;refine be (v:=?_) (Or.inl ⟨ϕ,?_⟩) ?_;rotate_left
   ·(intro w hSw;go_simp;first|done|with_reducible rfl)
   refine p4 ?_;refine be (v:=?_) (Or.inl ⟨ϕ,?_⟩) ?_;rotate_left
   ·(intro w hSw;obtain⟨hSw1,hSw2⟩:=hSw;go_simp;first|done|with_reducible rfl)
   refine p4 ?_;refine be (v:=?_) (Or.inl ⟨ϕ,?_⟩) ?_;rotate_left
   ·(intro w hSw;go_simp;first|done|with_reducible rfl)
   refine p4 ?_;refine be (v:=?_) (Or.inl ⟨ϕ,?_⟩) ?_;rotate_left
   ·(intro w hSw;go_simp;first|done|with_reducible rfl)
   refine p4 ?_;refine be (v:=?_) (Or.inl ⟨ϕ,?_⟩) ?_;rotate_left
   ·(intro w hSw;go_simp;first|done|with_reducible rfl)
   refine p4 ?_;refine be (v:=?_) (Or.inl ⟨ϕ,?_⟩) ?_;rotate_left
   ·(intro w hSw;go_simp;first|done|with_reducible rfl)
   refine p4 ?_;refine be (v:=?_) (Or.inl ⟨ϕ,?_⟩) ?_;rotate_left
   ·(intro w hSw;go_simp;first|done|with_reducible rfl)
   refine p4 ?_;refine be (v:=?_) (Or.inl ⟨ϕ,?_⟩) ?_;rotate_left
   ·(intro w hSw;go_simp;first|done|with_reducible rfl)
   refine p4 ?_;refine Ba (fun K T=>?_);rw[Ρ ϕ];go_simp;refine T.out _ _ (⟨jS (hS.get (.tail _ (.tail _ (.tail _ (.head _))))) hlt,jS (hS.get (.tail _ (.tail _ (.head _)))) hlt⟩) (fun _=>?_);clear T K;refine p4 ?_;refine be (v:=?_) (Or.inl ⟨ϕ,?_⟩) ?_;rotate_left
   ·(intro w hSw;go_simp;first|done|with_reducible rfl)
   refine p4 ?_;refine wg (Zd ?_);go_wp2_with fail;go_roundw;case rel=>exact⟨k+1,Ω,by go_num,rfl,hS⟩
   case measure=>exact ϝ
  ·obtain rfl:k=4:=Ω
   rw[lD]at I;go_wp2_with (first
    | ((with_reducible show wpList _ _ _ (⟨some _,.load _ _,_,_,_,_⟩::_) _ _);refine jE I rfl rfl rfl ?_)
    | ((with_reducible show wpList _ _ _ (⟨none,.store _ _ _,_,_,_,_⟩::_) _ _);refine fE I rfl rfl rfl rfl rfl (fun J Y=>?_);clear I;have I:=Y;clear Y))
   refine Ϣ (ao rfl I rfl rfl) rfl ?_;exact⟨rfl,I.bel⟩
def Pr(n:Nat):Prop:=2≤n∧∀d,d∣n→d=1∨d=n
theorem Pr.coprime{p a:Nat}(hp:Pr p)(h:¬p∣a):Nat.Coprime p a:=by
 rcases hp.2 _ (Nat.gcd_dvd_left p a)with e|e
 ·exact e
 ·exact absurd (e ▸ Nat.gcd_dvd_right p a) h
theorem Pr.euclid{p a b:Nat}(hp:Pr p)(h:p∣a*b):p∣a∨p∣b:=by
 by_cases ha:p∣a
 ·exact .inl ha
 ·exact .inr ((hp.coprime ha).dvd_of_dvd_mul_left h)
def ch:Nat→Nat→Nat
 | _,0=>1
 | 0,_+1=>0
 | n+1,k+1=>ch n k+ch n (k+1)
theorem uy(n:Nat):ch n 0=1:=by cases n <;> rfl
theorem uz:∀n k,(k+1)*ch (n+1) (k+1)=(n+1)*ch n k
 | 0,0=>rfl
 | 0,k+1=>by show(k+2)*(ch 0 (k+1)+ch 0 (k+2))=1*0;simp[ch]
 | n+1,0=>by
  have h:=uz n 0;show 1*(ch (n+1) 0+ch (n+1) 1)=(n+2)*ch (n+1) 0;rw[uy]at *
  simp at h;omega
 | n+1,k+1=>by
  have h1:=uz n k;have h2:=uz n (k+1);have e:ch (n+2) (k+2)=ch (n+1) (k+1)+ch (n+1) (k+2):=rfl;have e':ch (n+1) (k+1)=ch n k+ch n (k+1):=rfl;rw[e,YD,h2];have:(k+1+1)*ch (n+1) (k+1)=(k+1)*ch (n+1) (k+1)+ch (n+1) (k+1):=by rw[ZL (k+1) 1,Nat.one_mul]
  rw[this,h1,e',ZL (n+1) 1,Nat.one_mul,YD];omega
theorem Ef:∀n k,n<k→ch n k=0
 | 0,k+1,_=>rfl
 | n+1,k+1,h=>by
  show ch n k+ch n (k+1)=0;rw[Ef n k Ω,Ef n (k+1) Ω]
theorem pi:∀n,ch n n=1
 | 0=>rfl
 | n+1=>by show ch n n+ch n (n+1)=1;rw[pi n,Ef n (n+1) Ω]
def bs(n a:Nat):Nat→Nat
 | 0=>0
 | m+1=>bs n a m+ch n m*a^m
theorem Bc(n a:Nat):∀m,(a+1)*bs n a (m+1)=bs (n+1) a (m+1)+ch n m*a^(m+1)
 | 0=>by simp[bs,uy];omega
 | m+1=>by
  have ih:=Bc n a m;have e:bs n a (m+2)=bs n a (m+1)+ch n (m+1)*a^(m+1):=rfl;have e':bs (n+1) a (m+2)=bs (n+1) a (m+1)+(ch n m+ch n (m+1))*a^(m+1):=rfl;rw[e,e',YD,ih];generalize bs (n+1) a (m+1)=X;generalize ch n m=c;generalize ch n (m+1)=d;rw[Zb a (m+1)];generalize a^(m+1)=z;grind
theorem JC(a:Nat):∀n,(a+1)^n=bs n a (n+1)
 | 0=>by simp[bs,ch]
 | n+1=>by
  rw[Zb,JC a n,XU,Bc];show _=bs (n+1) a (n+1)+ch (n+1) (n+1)*a^(n+1);rw[pi,pi]
theorem Pr.dvd_ch{p k:Nat}(hp:Pr p)(h0:0<k)(h1:k<p):p∣ch p k:=by
 obtain⟨n,rfl⟩:∃n,p=n+1:=⟨p-1,by have:=hp.1;omega⟩;obtain⟨j,rfl⟩:∃j,k=j+1:=⟨k-1,Ω⟩;have h:=uz n j;rcases hp.euclid (a:=j+1) (b:=ch (n+1) (j+1)) (h ▸ Nat.dvd_mul_right _ _)with h'|h'
 ·exact absurd (Nat.le_of_dvd Ω h') Ω
 ·exact h'
theorem Pr.mod_bs{p:Nat}(hp:Pr p)(a:Nat):∀m,m<p→bs p a (m+1)%p=1%p
 | 0,_=>by simp[bs,uy]
 | m+1,h=>by
  show(bs p a (m+1)+ch p (m+1)*a^(m+1))%p=_;obtain⟨c,hc⟩:=hp.dvd_ch (k:=m+1) Ω h;rw[hc,XK,XD];exact hp.mod_bs a m Ω
theorem Pr.pow{p:Nat}(hp:Pr p):∀a,a^p%p=a%p
 | 0=>by rw[Nat.zero_pow (by have:=hp.1;omega)]
 | a+1=>by
  rw[JC];show(bs p a p+ch p p*a^p)%p=_;obtain⟨n,hn⟩:∃n,p=n+1:=⟨p-1,by have:=hp.1;omega⟩;have h:=hp.mod_bs a n Ω;rw[← hn]at h;rw[pi,Nat.one_mul,Nat.add_mod,h,hp.pow a,← Nat.add_mod,Nat.add_comm]
theorem Pr.fermat{p a:Nat}(hp:Pr p)(h:¬p∣a):a^(p-1)%p=1:=by
 have h2:=hp.1;have ha:0<a:=by
  rcases X4 a with e|e
  ·exact absurd (e ▸ Nat.dvd_zero p) h
  ·exact e
 have hpos:0<a^(p-1):=Nat.pow_pos ha;have e:a^p=a*a^(p-1):=by rw[← Nat.pow_succ'];congr 1;omega
 have hd:p∣a^p-a:=by
  refine(Nat.dvd_iff_mod_eq_zero).2 ?_;exact Nat.sub_mod_eq_zero_of_mod_eq (hp.pow a)
 have:a^p-a=a*(a^(p-1)-1):=by rw[e,Nat.mul_sub,XS]
 rw[this]at hd;rcases hp.euclid hd with h'|h'
 ·exact absurd h' h
 ·obtain⟨c,hc⟩:=h'
  have:a^(p-1)=1+p*c:=Ω;rw[this,XD,Xd Ω]
theorem Hv{b s:Nat}(m n:Nat)(hm:b^m%s=1%s)(hn:b^n%s=1%s):b^Nat.gcd m n%s=1%s:=by
 induction m,n using Nat.gcd.induction with
 | H0 n=>simpa using hn
 | H1 m n _ ih =>
  rw[Nat.gcd_rec];refine ih ?_ hm;have e:b^n=b^(n%m)*(b^m)^(n/m):=by rw[← Nat.pow_mul,← Xk,ZA]
  rw[e,Zo,Nat.pow_mod (b^m),hm,← Nat.pow_mod,Nat.one_pow,← Zo,XS]at hn;exact hn
theorem Pr.order{s q b:Nat}(hs:Pr s)(hq:Pr q)(h1:b^q%s=1)(h2:b%s≠1):q∣s-1:=by
 have h2s:=hs.1;have e1:1%s=1:=Xd Ω;by_cases h:q∣s-1
 ·exact h
 ·have hb:¬s∣b:=by
   intro hd;have:=Nat.dvd_trans hd (Nat.dvd_mul_right b (b^(q-1)));rw[← Nat.pow_succ',show(q-1).succ=q from by have:=hq.1;omega]at this;rw[Zn this]at h1;omega
  have hf:=hs.fermat hb;have:=Hv (b:=b) (s:=s) q (s-1) (by rw[h1,e1]) (by rw[hf,e1]);rw[show Nat.gcd q (s-1)=1 from hq.coprime h,Nat.pow_one,e1]at this;exact absurd this h2
theorem sy:∀n,2≤n→∃s,Pr s∧s∣n:=by
 intro n
 induction n using Nat.strongRecOn with
 | _ n ih =>
  intro h;by_cases hp:Pr n
  ·exact⟨n,hp,Nat.dvd_refl n⟩
  ·have:∃d,d∣n∧d≠1∧d≠n:=by
    refine YX fun hc=>hp ⟨h,fun d hd=>?_⟩;by_cases e1:d=1
    ·exact .inl e1
    ·by_cases e2:d=n
     ·exact .inr e2
     ·exact absurd ⟨d,hd,e1,e2⟩ hc
   obtain⟨d,hd,h1,h2⟩:=this;have hle:=Nat.le_of_dvd Ω hd;have h0:d≠0:=by rintro rfl;have:=Nat.eq_zero_of_zero_dvd hd;omega
   obtain⟨s,hs,hsd⟩:=ih d Ω Ω;exact⟨s,hs,Nat.dvd_trans hsd hd⟩
theorem ig{N F:Nat}(hN:2≤N)(hF:N<F*F)(h:∀s,Pr s→s∣N→F∣s-1):Pr N:=by
 refine⟨hN,fun d hd=>?_⟩;refine YX fun hc=>?_;obtain⟨e,rfl⟩:=hd;have hd1:d≠1:=fun x=>hc (.inl x);have he1:e≠1:=fun x=>hc (.inr (by rw[x,XS]));have hd0:d≠0:=by rintro rfl;simp at hN
 have he0:e≠0:=by rintro rfl;simp at hN
 have big:∀x,2≤x→x∣d*e→F≤x:=by
  intro x hx hxd;obtain⟨s,hs,hsx⟩:=sy x hx;have h1:=Nat.le_of_dvd (by have:=hs.1;omega) (h s hs (Nat.dvd_trans hsx hxd));have h2:=Nat.le_of_dvd Ω hsx;omega
 have:=Z1 (big d Ω (Nat.dvd_mul_right d e)) (big e Ω (Nat.dvd_mul_left e d));omega
def uA(m:Nat):Nat→Nat→Nat→Nat
 | 0,_,_=>1%m
 | f+1,a,e=>match Nat.beq (e%2) 1 with
  | true=>a*uA m f (a*a%m) (e/2)%m
  | false=>uA m f (a*a%m) (e/2)
theorem pn(m:Nat):∀f a e,e<2^f→uA m f a e=a^e%m
 | 0,a,e,h=>by
  obtain rfl:e=0:=by simpa using h
  rfl
 | f+1,a,e,h=>by
  have ih:=pn m f (a*a%m) (e/2) (by rw[Zb]at h;omega);have e2:(a*a%m)^(e/2)%m=a^(2*(e/2))%m:=by rw[← Nat.pow_mod,Nat.pow_mul,Nat.pow_two]
  rw[e2]at ih;unfold uA;by_cases ho:e%2=1
  ·rw[ho]
   show a*uA m f (a*a%m) (e/2)%m=_;rw[ih,Zo,Nat.mod_mod,← Zo,← Nat.pow_succ',show(2*(e/2)).succ=e from by omega]
  ·rw[show e%2=0 from by omega]
   show uA m f (a*a%m) (e/2)=_;rw[ih,show 2*(e/2)=e from by omega]
def pT(N q f:Nat):Bool :=
 Nat.ble 2 N&&Nat.beq ((N-1)%q) 0&&Nat.blt N (2^f)&&Nat.beq (uA N f 2 (N-1)) 1&&Nat.beq (Nat.gcd (uA N f 2 ((N-1)/q)+N-1) N) 1
theorem J1{N q f s:Nat}(hq:Pr q)(hB:pT N q f=true)(hs:Pr s)(hd:s∣N):q∣s-1:=by
 unfold pT at hB;simp only[Xs,Nat.beq_eq,Nat.ble_eq,Nat.blt_eq]at hB;obtain⟨⟨⟨⟨h2,h3⟩,h4⟩,h5⟩,h6⟩:=hB;have hs2:=hs.1;rw[pn _ _ _ _ Ω]at h5;rw[pn _ _ _ _ (by have:=ZR (N-1) q;omega)]at h6;have hqd:q*((N-1)/q)=N-1:=Nat.mul_div_cancel' (Nat.dvd_of_mod_eq_zero h3);refine hs.order (b:=2^((N-1)/q)) hq ?_ ?_
 ·rw[← Nat.pow_mul,XU,hqd,← Nat.mod_mod_of_dvd _ hd,h5]
  exact Xd Ω
 ·intro h
  rw[← Nat.mod_mod_of_dvd _ hd]at h;have hs1:s∣2^((N-1)/q)%N+N-1:=by
   have hdv:s∣2^((N-1)/q)%N-1:=Nat.dvd_of_mod_eq_zero (Nat.sub_mod_eq_zero_of_mod_eq (by rw[h,Xd Ω]));have hpos:0<2^((N-1)/q)%N:=by
    rcases X4 (2^((N-1)/q)%N)with e|e
    ·rw[e,Nat.zero_mod]at h;omega
    ·exact e
   rw[show 2^((N-1)/q)%N+N-1=(2^((N-1)/q)%N-1)+N from by omega];exact Nat.dvd_add hdv hd
  have:=Nat.dvd_gcd hs1 hd;rw[h6]at this;have:=Nat.le_of_dvd Ω this;omega
theorem oB{N q f:Nat}(hq:Pr q)(hB:pT N q f=true)(hF:Nat.blt N (q*q)=true):Pr N:=by
 have h2:2≤N:=by unfold pT at hB;simp only[Xs,Nat.ble_eq]at hB;exact hB.1.1.1.1
 exact ig h2 (by simpa using hF) fun s hs hd=>J1 hq hB hs hd
theorem tt{N q r f:Nat}(hq:Pr q)(hr:Pr r)(hne:Nat.beq q r=false)(hB:pT N q f=true)(hC:pT N r f=true)(hF:Nat.blt N (q*r*(q*r))=true):Pr N:=by
 have h2:2≤N:=by unfold pT at hB;simp only[Xs,Nat.ble_eq]at hB;exact hB.1.1.1.1
 refine ig h2 (by simpa using hF) fun s hs hd=>?_;have hc:Nat.Coprime q r:=hq.coprime fun hx=>by
  rcases hr.2 q hx with e|e
  ·have:=hq.1;omega
  ·rw[e]at hne;simp at hne
 exact hc.mul_dvd_of_dvd_of_dvd (J1 hq hB hs hd) (J1 hr hC hs hd)
def Eg(n:Nat):Nat→Nat→Bool
 | 0,d=>Nat.blt n (d*d)
 | f+1,d=>Nat.blt n (d*d) || (!(Nat.beq (n%d) 0)&&Eg n f (d+1))
theorem zh{n:Nat}:∀f d,Eg n f d=true→∀x,d≤x→x*x≤n→¬x∣n
 | 0,d,h,x,hx,hxx=>by
  have:n<d*d:=by simpa[Eg] using h
  have:=Z1 hx hx;omega
 | f+1,d,h,x,hx,hxx=>by
  unfold Eg at h;simp only[Bool.or_eq_true,Xs,Nat.blt_eq,Bool.not_eq_true']at h;rcases h with h|⟨h1,h2⟩
  ·have:=Z1 hx hx
   omega
  ·by_cases e:x=d
   ·subst e
    intro hd;rw[Zn hd]at h1;cases h1
   ·exact zh f (d+1) h2 x Ω hxx
theorem tri{n:Nat}(f:Nat)(h2:Nat.ble 2 n=true)(h:Eg n f 2=true):Pr n:=by
 have h2:2≤n:=by simpa using h2
 refine⟨h2,fun d hd=>?_⟩;refine YX fun hc=>?_;obtain⟨e,rfl⟩:=hd;have hd1:d≠1:=fun x=>hc (.inl x);have he1:e≠1:=fun x=>hc (.inr (by rw[x,XS]));have hd0:d≠0:=by rintro rfl;simp at h2
 have he0:e≠0:=by rintro rfl;simp at h2
 rcases Nat.le_total d e with hle|hle
 ·exact zh f 2 h d Ω (YE d hle) (Nat.dvd_mul_right d e)
 ·exact zh f 2 h e Ω (YI e hle) (Nat.dvd_mul_left e d)
theorem J2:Pr 103:=tri 12 Ϛ Ϛ
theorem J3:Pr 127:=tri 13 Ϛ Ϛ
theorem J4:Pr 991:=tri 33 Ϛ Ϛ
theorem Hw:Pr 4153:=tri 66 Ϛ Ϛ
theorem Cn:Pr 430751:=tri 658 Ϛ Ϛ
theorem Co:Pr 531581:=tri 731 Ϛ Ϛ
theorem Cp:Pr 569003:=tri 756 Ϛ Ϛ
theorem zi:Pr 1224481:=tri 1108 Ϛ Ϛ
theorem zj:Pr 8574133:=tt (f:=24) J4 J2 Ϛ Ϛ Ϛ Ϛ
theorem sA:Pr 2773320623:=oB (f:=32) Cp Ϛ Ϛ
theorem pU:Pr 72106336199:=oB (f:=37) sA Ϛ Ϛ
theorem kY:Pr 1257559732178653:=tt (f:=51) zi Co Ϛ Ϛ Ϛ Ϛ
theorem kZ:Pr 1919519569386763:=tt (f:=51) zj J3 Ϛ Ϛ Ϛ Ϛ
theorem jT:Pr 31757755568855353:=tt (f:=55) Cn Hw Ϛ Ϛ Ϛ Ϛ
theorem jh:Pr 4434155615661930479:=oB (f:=62) kY Ϛ Ϛ
theorem fF:Pr 172054593956031949258510691:=oB (f:=88) jh Ϛ Ϛ
theorem dO:Pr 75445702479781427272750846543864801:=tt (f:=116) kZ pU Ϛ Ϛ Ϛ Ϛ
theorem dq:Pr 19757330305831588566944191468367130476339:=oB (f:=134) fF Ϛ Ϛ
theorem dn:Pr 276602624281642239937218680557139826668747:=oB (f:=138) dq Ϛ Ϛ
theorem Oz:Pr 74058212732561358302231226437062788676166966415465897661863160754340907:=tt (f:=236) dO jT Ϛ Ϛ Ϛ Ϛ
theorem OA:Pr 7237005577332262213973186563042994240857116359379907606001950938285454250989:=oB (f:=253) dn Ϛ Ϛ
theorem OB:Pr 57896044618658097711785492504343953926634992332820282019728792003956564819949:=oB (f:=255) Oz Ϛ Ϛ
def P:Nat:=57896044618658097711785492504343953926634992332820282019728792003956564819949
theorem P_prime:Pr P:=OB
theorem tu:0<P:=Ϛ
instance QI:NeZero P:=⟨Ϛ⟩
abbrev F:=Fin P
def fe(n:Nat):F:=Fin.ofNat P n
theorem zk(n:Nat):(fe n).val=n%P:=rfl
theorem fG(a:F):fe a.val=a:=ZM (Xd a.isLt)
theorem gK{a b:F}(h:a*b=0):a=0∨b=0:=by
 have h':(a.val*b.val)%P=0:=by have:=XH Fin.val h;simpa[Fin.val_mul] using this
 rcases P_prime.euclid (Nat.dvd_of_mod_eq_zero h')with h|h
 ·refine .inl (ZM ?_)
  rw[← Xd a.isLt,Zn h];rfl
 ·refine .inr (ZM ?_)
  rw[← Xd b.isLt,Zn h];rfl
theorem bj{a b:F}(ha:a≠0)(hb:b≠0):a*b≠0:=fun h=>(gK h).elim ha hb
theorem dD{a b c:F}(hc:c≠0)(h:a*c=b*c):a=b:=by
 have:(a-b)*c=0:=by grind
 rcases gK this with e|e
 ·grind
 ·exact absurd e hc
def pw(a:F):Nat→F
 | 0=>1
 | n+1=>pw a n*a
theorem nP(a:F)(m:Nat):∀n,pw a (m+n)=pw a m*pw a n
 | 0=>by show pw a m=pw a m*1;grind
 | n+1=>by show pw a (m+n)*a=pw a m*(pw a n*a);rw[nP a m n];grind
theorem zl(a:F)(m:Nat):∀n,pw a (m*n)=pw (pw a m) n
 | 0=>rfl
 | n+1=>by rw[Yu,nP,zl a m n];rfl
theorem zm(a:F):∀n,(pw a n).val=a.val^n%P
 | 0=>rfl
 | n+1=>by
  show(pw a n*a).val=_;rw[Fin.val_mul,zm a n,Zb,Nat.mod_mul_mod]
theorem mF:∀n,0<n→pw (0:F) n=0
 | n+1,_=>by show pw (0:F) n*0=0;grind
theorem pV{a:F}(h:a≠0):pw a (P-1)=1:=by
 refine ZM ?_;rw[zm];refine(P_prime.fermat fun hd=>h (ZM ?_)).trans Ϛ;rw[← Xd a.isLt,Zn hd];rfl
noncomputable def Eh(x:F):F:=Classical.choose (⟨x,rfl⟩:∃y,y=x)
theorem uB(x:F):Eh x=x:=Y0 (⟨x,rfl⟩:∃y,y=x)
noncomputable def inv(a:F):F:=Eh (pw a (P-2))
theorem uC(a:F):inv a=pw a (P-2):=uB _
theorem eL{a:F}(h:a≠0):a*inv a=1:=by
 have:=pV h;rw[show P-1=(P-2)+1 from by decide +kernel]at this;have e:pw a (P-2+1)=inv a*a:=by rw[uC];rfl
 grind
theorem Ei:inv 0=0:=by rw[uC];exact mF _ Ϛ
theorem Ej{a:F}(h:a≠0):inv a≠0:=fun e=>by
 have:=eL h;rw[e]at this;have h01:(0:F)≠1:=Ϛ;grind
theorem pW{a b c:F}(hb:b≠0)(h:a*b=c):a=c*inv b:=by
 have:=eL hb;grind
theorem jU:(2:F)≠0:=Ϛ
theorem pX:(1:F)≠0:=Ϛ
def dF:F:=fe 37095705934669439343138083508754565189542113879843219016388785533085940283555
def iF:F:=fe 19681161376707505956807079304988542015446066515923890162744021073123829784752
theorem LN:iF*iF= -1:=Ϛ
theorem Cq:(uA P 255 (P-dF.val) ((P-1)/2)==1)=false:=Ϛ
theorem Ek:(-dF).val=P-dF.val:=Ϛ
theorem Em{u v:F}(h:u*u= -dF*(v*v)):v=0:=by
 refine YX fun hv=>?_;have hd:(u*inv v)*(u*inv v)= -dF:=by
  have:=eL hv;grind
 have hu:u*inv v≠0:=by
  intro e;rw[e]at hd;have hd0:dF≠0:=Ϛ;grind
 have hf:=pV hu;rw[show P-1=2*((P-1)/2)from by decide +kernel,zl]at hf;have e2:pw (u*inv v) 2= -dF:=by
  have:pw (u*inv v) 2=1*(u*inv v)*(u*inv v):=rfl;grind
 rw[e2]at hf;have hval:=XH Fin.val hf;rw[zm,Ek,← pn P 255 _ _ Ϛ]at hval;have h2:=Cq;rw[hval]at h2;exact absurd h2 Ϛ
structure Pt where
 x:F
 y:F
def On(p:Pt):Prop:=p.y*p.y-p.x*p.x=1+dF*p.x*p.x*p.y*p.y
theorem Hx(ε i:F):2*ε*ε*i*i=2*(ε*ε)*(i*i):=by grind
theorem Hy(a:F)(h:a*1* -1=0):a=0:=by grind
theorem J5(d x y:F):1+d*x*0*y*1=1:=by
 have:d*x*0*y*1=0:=by grind
 rw[this];rfl
theorem J6(d x y:F):1-d*x*0*y*1=1:=by
 have:d*x*0*y*1=0:=by grind
 rw[this];rfl
theorem J7(x y d:F)(h:y*y-x*x=1+d*x*x*y*y):y*y+x* -x=1*(1-d*x* -x*y*y):=by grind
theorem wC{p q:Pt}(hp:On p)(hq:On q)(h:(dF*p.x*q.x*p.y*q.y)*(dF*p.x*q.x*p.y*q.y)=1):False:=by
 obtain⟨x1,y1⟩:=p;obtain⟨x2,y2⟩:=q;unfold On at hp hq;simp only at hp hq h;have hi:=LN;generalize iF=i at *
 generalize he:dF*x1*x2*y1*y2=ε at *
 have s1:(i*x1+ε*y1)*(i*x1+ε*y1)= -dF*((i*x1*y1*(i*x2+y2))*(i*x1*y1*(i*x2+y2))):=by subst he;grind
 have s2:(i*x1-ε*y1)*(i*x1-ε*y1)= -dF*((i*x1*y1*(i*x2-y2))*(i*x1*y1*(i*x2-y2))):=by subst he;grind
 have z1:=Em s1;have z2:=Em s2;have h3:(2:F)*ε*ε*i*i=0:=by grind
 rw[Hx,h,hi]at h3;exact jU (Hy _ h3)
theorem ij{p q:Pt}(hp:On p)(hq:On q):1+dF*p.x*q.x*p.y*q.y≠0:=fun h=>wC hp hq (by grind)
theorem ej{p q:Pt}(hp:On p)(hq:On q):1-dF*p.x*q.x*p.y*q.y≠0:=fun h=>wC hp hq (by grind)
noncomputable def cI(p q:Pt):Pt:=⟨(p.x*q.y+p.y*q.x)*inv (1+dF*p.x*q.x*p.y*q.y),(p.y*q.y+p.x*q.x)*inv (1-dF*p.x*q.x*p.y*q.y)⟩
def pO:Pt:=⟨0,1⟩
def jV(p:Pt):Pt:=⟨-p.x,p.y⟩
theorem Pt.ext'{p q:Pt}(h1:p.x=q.x)(h2:p.y=q.y):p=q:=by cases p;cases q;cases h1;cases h2;rfl
theorem OC:On pO:=by unfold On pO;simp only;grind
theorem lF{p:Pt}(h:On p):On (jV p):=by unfold On jV at *; simp only;grind
theorem lH{p q:Pt}(hp:On p)(hq:On q):(cI p q).x*(1+dF*p.x*q.x*p.y*q.y)=p.x*q.y+p.y*q.x:=by
 have:=eL (ij hp hq);unfold cI;simp only;grind
theorem gL{p q:Pt}(hp:On p)(hq:On q):(cI p q).y*(1-dF*p.x*q.x*p.y*q.y)=p.y*q.y+p.x*q.x:=by
 have:=eL (ej hp hq);unfold cI;simp only;grind
theorem Cr(x1 y1 x2 y2 d:F)(h1:y1*y1-x1*x1=1+d*x1*x1*y1*y1)(h2:y2*y2-x2*x2=1+d*x2*x2*y2*y2) :
 (y1*y2+x1*x2)*(y1*y2+x1*x2)*((1+d*x1*x2*y1*y2)*(1+d*x1*x2*y1*y2))-(x1*y2+y1*x2)*(x1*y2+y1*x2)*((1-d*x1*x2*y1*y2)*(1-d*x1*x2*y1*y2))=(1-d*x1*x2*y1*y2)*(1-d*x1*x2*y1*y2)*((1+d*x1*x2*y1*y2)*(1+d*x1*x2*y1*y2))+d*(y1*y2+x1*x2)*(y1*y2+x1*x2)*(x1*y2+y1*x2)*(x1*y2+y1*x2):=by grind
theorem uD{p q:Pt}(hp:On p)(hq:On q):On (cI p q):=by
 have hx:=lH hp hq;have hy:=gL hp hq;have n1:=ij hp hq;have n2:=ej hp hq;have hid:=Cr p.x p.y q.x q.y dF hp hq;show(cI p q).y*(cI p q).y-(cI p q).x*(cI p q).x=1+dF*(cI p q).x*(cI p q).x*(cI p q).y*(cI p q).y;generalize(cI p q).x=X at *
 generalize(cI p q).y=Yzq at *
 generalize 1+dF*p.x*q.x*p.y*q.y=m1 at *
 generalize 1-dF*p.x*q.x*p.y*q.y=m2 at *
 rw[← hx,← hy]at hid;refine dD (bj (bj n1 n1) (bj n2 n2)) ?_;grind
theorem nQ(p q:Pt):cI p q=cI q p:=by
 unfold cI;refine Pt.ext' ?_ ?_
 ·simp only
  rw[show dF*p.x*q.x*p.y*q.y=dF*q.x*p.x*q.y*p.y from by grind];grind
 ·simp only
  rw[show dF*p.x*q.x*p.y*q.y=dF*q.x*p.x*q.y*p.y from by grind];grind
theorem Hz:inv 1=1:=by have:=eL pX;grind
theorem uE(p:Pt):cI p pO=p:=by
 unfold cI pO;have h:=Hz;refine Pt.ext' ?_ ?_
 ·simp only
  rw[J5,h];grind
 ·simp only
  rw[J6,h];grind
theorem Eo(p:Pt):cI pO p=p:=by rw[nQ,uE]
theorem Ep{p:Pt}(hp:On p):cI p (jV p)=pO:=by
 have hx:=lH hp (lF hp);have hy:=gL hp (lF hp);have n1:=ij hp (lF hp);have n2:=ej hp (lF hp);refine Pt.ext' ?_ ?_
 ·refine dD n1 (hx.trans ?_)
  unfold jV pO;simp only;grind
 ·refine dD n2 (hy.trans ?_)
  exact J7 _ _ _ hp
theorem H9(x1 y1 x2 y2 x3 y3 d n1 n2 m1 m2 k1 k2 l1 l2:F)(h1:y1*y1-x1*x1=1+d*x1*x1*y1*y1)(h2:y2*y2-x2*x2=1+d*x2*x2*y2*y2)(h3:y3*y3-x3*x3=1+d*x3*x3*y3*y3)(hn1:n1=x1*y2+y1*x2)(hn2:n2=y1*y2+x1*x2)(hm1:m1=1+d*x1*x2*y1*y2)(hm2:m2=1-d*x1*x2*y1*y2)(hk1:k1=x2*y3+y2*x3)(hk2:k2=y2*y3+x2*x3)(hl1:l1=1+d*x2*x3*y2*y3)(hl2:l2=1-d*x2*x3*y2*y3) :
 (n1*m2*y3+n2*m1*x3)*(l1*l2+d*x1*y1*k1*k2)=(x1*k2*l1+y1*k1*l2)*(m1*m2+d*n1*n2*x3*y3):=by subst hn1 hn2 hm1 hm2 hk1 hk2 hl1 hl2;grind
theorem Ia(x1 y1 x2 y2 x3 y3 d n1 n2 m1 m2 k1 k2 l1 l2:F)(h1:y1*y1-x1*x1=1+d*x1*x1*y1*y1)(h2:y2*y2-x2*x2=1+d*x2*x2*y2*y2)(h3:y3*y3-x3*x3=1+d*x3*x3*y3*y3)(hn1:n1=x1*y2+y1*x2)(hn2:n2=y1*y2+x1*x2)(hm1:m1=1+d*x1*x2*y1*y2)(hm2:m2=1-d*x1*x2*y1*y2)(hk1:k1=x2*y3+y2*x3)(hk2:k2=y2*y3+x2*x3)(hl1:l1=1+d*x2*x3*y2*y3)(hl2:l2=1-d*x2*x3*y2*y3) :
 (n2*m1*y3+n1*m2*x3)*(l1*l2-d*x1*y1*k1*k2)=(y1*k2*l1+x1*k1*l2)*(m1*m2-d*n1*n2*x3*y3):=by subst hn1 hn2 hm1 hm2 hk1 hk2 hl1 hl2;grind
theorem pY{p q r:Pt}(hp:On p)(hq:On q)(hr:On r):cI (cI p q) r=cI p (cI q r):=by
 have hpq:=uD hp hq;have hqr:=uD hq hr;have a1:=lH hp hq;have a2:=gL hp hq;have b1:=lH hq hr;have b2:=gL hq hr;have m1:=ij hp hq;have m2:=ej hp hq;have l1:=ij hq hr;have l2:=ej hq hr;have ix:=H9 p.x p.y q.x q.y r.x r.y dF _ _ _ _ _ _ _ _ hp hq hr rfl rfl rfl rfl rfl rfl rfl rfl;have iy:=Ia p.x p.y q.x q.y r.x r.y dF _ _ _ _ _ _ _ _ hp hq hr rfl rfl rfl rfl rfl rfl rfl rfl;have c1:=lH hpq hr;have c2:=gL hpq hr;have e1:=lH hp hqr;have e2:=gL hp hqr;have N1:=ij hpq hr;have N2:=ej hpq hr;have L1:=ij hp hqr;have L2:=ej hp hqr;generalize cI (cI p q) r=S at *
 generalize cI p (cI q r)=Tzq at *
 generalize cI p q=U at *
 generalize cI q r=Vzq at *
 rw[← a1,← a2,← b1,← b2]at ix iy;generalize 1+dF*p.x*q.x*p.y*q.y=M1 at *
 generalize 1-dF*p.x*q.x*p.y*q.y=M2 at *
 generalize 1+dF*q.x*r.x*q.y*r.y=K1 at *
 generalize 1-dF*q.x*r.x*q.y*r.y=K2 at *
 clear a1 a2 b1 b2 hp hq hr hpq hqr;refine Pt.ext' ?_ ?_
 ·clear iy c2 e2 N2 L2
  refine dD (bj (bj (bj N1 L1) (bj m1 m2)) (bj l1 l2)) ?_;generalize hA:1+dF*U.x*r.x*U.y*r.y=A at *
  generalize hB:1+dF*p.x*Vzq.x*p.y*Vzq.y=B at *
  have iA:U.x*M1*M2*r.y+U.y*M2*M1*r.x=S.x*A*(M1*M2):=by rw[c1];grind
  have iB:p.x*(Vzq.y*K2)*K1+p.y*(Vzq.x*K1)*K2=Tzq.x*B*(K1*K2):=by rw[e1];grind
  have iC:K1*K2+dF*p.x*p.y*(Vzq.x*K1)*(Vzq.y*K2)=B*(K1*K2):=by rw[← hB];grind
  have iD:M1*M2+dF*(U.x*M1)*(U.y*M2)*r.x*r.y=A*(M1*M2):=by rw[← hA];grind
  rw[iA,iB,iC,iD]at ix;clear iA iB iC iD c1 e1 hA hB;grind
 ·clear ix c1 e1 N1 L1
  refine dD (bj (bj (bj N2 L2) (bj m1 m2)) (bj l1 l2)) ?_;generalize hA:1-dF*U.x*r.x*U.y*r.y=A at *
  generalize hB:1-dF*p.x*Vzq.x*p.y*Vzq.y=B at *
  have iA:U.y*M2*M1*r.y+U.x*M1*M2*r.x=S.y*A*(M1*M2):=by rw[c2];grind
  have iB:p.y*(Vzq.y*K2)*K1+p.x*(Vzq.x*K1)*K2=Tzq.y*B*(K1*K2):=by rw[e2];grind
  have iC:K1*K2-dF*p.x*p.y*(Vzq.x*K1)*(Vzq.y*K2)=B*(K1*K2):=by rw[← hB];grind
  have iD:M1*M2-dF*(U.x*M1)*(U.y*M2)*r.x*r.y=A*(M1*M2):=by rw[← hA];grind
  rw[iA,iB,iC,iD]at iy;clear iA iB iC iD c2 e2 hA hB;grind
end Go.Proofs.YtoifhhljfaoejaaGreatDoor
