/-
  Lemmas of the law, part 1: the walks of the functions that it calls and the plain facts about them. No condition beyond those written.
-/
import Derived.OrdersHeld
import Derived.Deep.RegionHeld3
import Derived.ProofKit
import Derived.Lib.Hide
import Derived.Below
import Derived.Test.YtoifhhljfaoejaaGreatDoorProg
import Derived.Great.Ranges
import Derived.Laws.BitsAllLaws
import Derived.Laws.Bits64
import Derived.Laws.Rows
import Derived.WalkArith
import Derived.WalkKit
import Derived.WalkSpells
import Derived.WalkLawsBesides
import Derived.Deep.MidRow
import Derived.Deep.WholeRow
import Derived.Great.BuildSlice
import Derived.LoopTactic
import Derived.ChangeKeysEq
import Derived.ScopeJumps
import Derived.WalkMore
import Derived.Test.YtoifhhljfaoejaaGreatDoorRows
set_option maxRecDepth 100000
set_option maxHeartbeats 8000000
set_option linter.unusedVariables false
set_option linter.unusedSimpArgs false
set_option linter.unusedSectionVars false
namespace Go.Proofs.YtoifhhljfaoejaaGreatDoor
open Go.Proofs.Tryz
section
open Go Go.RowKit Go.Shelf
theorem p4{G' G:Prop}(k:G')(h:G'→G:=by
 intro k;try simp only[Act.put,List.setIfInBounds_toArray,List.set_cons_zero,List.set_cons_succ]
 exact k):G:=h k
theorem p7{G' G:Prop}(k:G')(h:G'→G:=by
 intro k;try simp only[Act.put,List.getElem_toArray,List.getElem_cons_zero,List.getElem_cons_succ,List.setIfInBounds_toArray,List.set_cons_zero,List.set_cons_succ]
 exact k):G:=h k
theorem pF{G' G:Prop}(k:G')(h:G'→G:=by
 intro k;simp only[List.filterMap_cons,List.filterMap_nil,List.getElem?_toArray,List.getElem?_cons_zero,List.getElem?_cons_succ,Option.map_some];exact k):G:=h k
theorem pG{G' G:Prop}(k:G')(h:G'→G:=by
 intro k;try simp only[List.filterMap_cons,List.filterMap_nil,List.getElem?_toArray,List.getElem?_cons_zero,List.getElem?_cons_succ]
 exact k):G:=h k
theorem rN{G' G:Prop}(k:G')(h:G'→G:=by
 intro k;(with_reducible show bu _ _ _ (_::_) _ _)
 first
  | refine sN rfl rfl rfl rfl ?_
  | refine sL rfl rfl rfl ?_
  | refine sI rfl rfl rfl ?_
  | refine sC2 rfl rfl rfl rfl ?_
  | refine sC1 rfl rfl rfl ?_
  | refine sC3 rfl rfl rfl rfl ?_
  | refine sC4 rfl rfl rfl rfl ?_
  | refine sC0 rfl rfl ?_
  | refine sC5 rfl rfl rfl ?_
  | refine sR rfl rfl rfl ?_
  | refine sG2 rfl rfl rfl rfl ?_
  | refine sG1 rfl rfl rfl ?_
  | refine sG0 rfl rfl ?_
  | (refine gO rfl (v:=?_) ?_ ?_;rotate_left;(intro w;go_simp;first|done|with_reducible rfl))
 simp only[Act.put,List.setIfInBounds_toArray,List.set_cons_zero,List.set_cons_succ];exact k):G:=h k
theorem rS{G' G:Prop}(k:G')(h:G'→G:=by
 intro k;(with_reducible show bu _ _ _ (_::_) _ _)
 first
  | refine sL rfl rfl rfl ?_
  | refine sI rfl rfl rfl ?_
  | refine sC2 rfl rfl rfl rfl ?_
  | refine sC1 rfl rfl rfl ?_
  | refine sC3 rfl rfl rfl rfl ?_
  | refine sC4 rfl rfl rfl rfl ?_
  | refine sC0 rfl rfl ?_
  | refine sC5 rfl rfl rfl ?_
  | refine sR rfl rfl rfl ?_
  | refine sG2 rfl rfl rfl rfl ?_
  | refine sG1 rfl rfl rfl ?_
  | refine sG0 rfl rfl ?_
  | (refine gO rfl (v:=?_) ?_ ?_;rotate_left;(intro w;go_simp;first|done|with_reducible rfl))
 simp only[Act.put,List.setIfInBounds_toArray,List.set_cons_zero,List.set_cons_succ];exact k):G:=h k
theorem rW{G' G:Prop}(k:G')(h:G'→G:=by
 intro k;(with_reducible show wpList _ _ _ (_::_) _ _)
 first|refine lS hL rfl rfl rfl rfl rfl ?_|refine lT hL rfl rfl rfl rfl rfl ?_|refine lVa hL rfl rfl rfl ?_|refine lVi hL rfl rfl rfl ?_|refine lVb hL rfl rfl rfl ?_|refine lVp hL rfl rfl rfl ?_|refine lVs hL rfl rfl rfl ?_|refine lVt hL rfl rfl rfl ?_
 intro w1 hx;try simp only[Act.put,List.setIfInBounds_toArray,List.set_cons_zero,List.set_cons_succ]
 revert w1 hx;exact k):G:=h k
theorem eJ{G' G:Prop}(k:G')(h:G'→G:=by
 intro k
 first|refine eT hL rfl rfl rfl ?_|refine eTs hL rfl rfl rfl ?_|refine eTb hL rfl rfl rfl ?_|refine eTp hL rfl rfl rfl ?_|refine eS hL rfl rfl rfl ?_|refine eSp hL rfl rfl rfl ?_
 exact k):G:=h k
theorem aE{G' G:Prop}(k:G')(h:G'→G:=by
 intro k hL1;(try dsimp only at hL1);(try simp only[Nat.reduceAdd,Nat.reduceSub]at hL1);refine⟨_,rfl,?_⟩
 try simp only[Act.put,List.setIfInBounds_toArray,List.set_cons_zero,List.set_cons_succ]
 revert hL1;exact k):G:=h k
theorem aU{G' G:Prop}(k:G')(h:G'→G:=by
 intro k;first|(with_reducible show wpList _ _ _ (⟨_,.load _ _,_,_,_,some _⟩::_) _ _)|(with_reducible show wpList _ _ _ (⟨_,.call _,_,_,_,some _⟩::_) _ _)
 refine dk rfl rfl rfl ?_;exact k):G:=h k
theorem aV{G' G:Prop}(k:G')(h:G'→G:=by
 intro k;(with_reducible show wpList _ _ _ (⟨_,_,_,_,_,some _⟩::_) _ _);refine jh rfl ?_;exact k):G:=h k
theorem aM{G' G:Prop}(k:G')(h:G'→G:=by
 intro k
 first
  | ((with_reducible show wpList _ _ _ (⟨_,.load _ _,_,_,_,_⟩::_) _ _);first|refine lL hL rfl rfl rfl ?_|refine lI hL rfl rfl rfl ?_|refine lW hL rfl rfl rfl ?_)
  | ((with_reducible show wpList _ _ _ (⟨_,.store _ _ _,_,_,_,_⟩::_) _ _);first|refine lT hL rfl rfl rfl rfl rfl ?_|refine lTs hL rfl rfl rfl rfl rfl ?_|refine lTb hL rfl rfl rfl rfl rfl ?_|refine lTp hL rfl rfl rfl rfl rfl ?_|refine lS hL rfl rfl rfl rfl rfl ?_)
 intro w1 hx
 try simp only[Act.put,List.setIfInBounds_toArray,List.set_cons_zero,List.set_cons_succ]
 revert w1 hx;exact k):G:=h k
theorem ah{G' G:Prop}(k:G')(h:G'→G:=by
 intro k
 first
  | ((with_reducible show wpList _ _ _ (⟨_,.load _ _,_,_,_,_⟩::_) _ _);first|refine lL hL rfl rfl rfl ?_|refine lI hL rfl rfl rfl ?_|refine lW hL rfl rfl rfl ?_)
  | ((with_reducible show wpList _ _ _ (⟨_,.store _ _ _,_,_,_,_⟩::_) _ _);first|refine lT hL rfl rfl rfl rfl rfl ?_|refine lTs hL rfl rfl rfl rfl rfl ?_|refine lTb hL rfl rfl rfl rfl rfl ?_|refine lTp hL rfl rfl rfl rfl rfl ?_|refine lS hL rfl rfl rfl rfl rfl ?_|refine lSp hL rfl rfl rfl rfl rfl ?_)
 intro w1 hx
 try simp only[Act.put,List.setIfInBounds_toArray,List.set_cons_zero,List.set_cons_succ]
 revert w1 hx;exact k):G:=h k
theorem aJ{G' G:Prop}(k:G')(h:G'→G:=by
 intro k hL1;(try simp only[List.cons_append,List.nil_append,List.append_assoc]at hL1)
 try simp only[Act.put,List.setIfInBounds_toArray,List.set_cons_zero,List.set_cons_succ]
 revert hL1;exact k):G:=h k
theorem aH{G' G:Prop}(k:G')(h:G'→G:=by
 intro k hL1;(try simp only[List.cons_append,List.nil_append,List.append_assoc]at hL1);refine⟨_,rfl,?_⟩
 try simp only[Act.put,List.setIfInBounds_toArray,List.set_cons_zero,List.set_cons_succ]
 revert hL1;exact k):G:=h k
theorem aN{G' G:Prop}(k:G')(h:G'→G:=by
 intro k hL1;(try dsimp only at hL1);(try simp only[Nat.reduceAdd,Nat.reduceSub]at hL1);revert hL1;exact k):G:=h k
theorem eCp{G' G:Prop}(k:G')(h:G'→G:=by
 intro k;refine zk hL rfl rfl rfl (by clear k;first|omega|(simp;omega)|simp) (by clear k;first|omega|(simp;omega)|simp) ?_;exact k):G:=h k
theorem eAp{G' G:Prop}(k:G')(h:G'→G:=by
 intro k;refine oV hL rfl rfl rfl (by clear k;first|omega|(simp;omega)|simp) ?_;intro g cap cur w1 hr hL1;(try dsimp only at hL1);revert g cap cur w1 hr hL1;exact k):G:=h k
theorem eAn{G' G:Prop}(k:G')(h:G'→G:=by
 intro k;refine Df hL rfl rfl rfl (by clear k;first|decide|omega|(simp;omega)|simp) (by clear k;first|omega|(simp;omega)|simp) ?_;exact k):G:=h k
theorem eBS{G' G:Prop}(k:G')(h:G'→G:=by
 intro k
 first|refine JS hL rfl rfl ?_|refine JT hL rfl rfl ?_|refine JU hL rfl rfl rfl ?_|refine JV hL rfl rfl rfl rfl ?_|refine Ka hL rfl rfl rfl ?_
 exact k):G:=h k
theorem eCl{G' G:Prop}(k:G')(h:G'→G:=by
 intro k
 first|refine eC2 hL rfl rfl rfl ?_|refine eC1 hL rfl rfl ?_|refine eC0 hL rfl ?_|refine eG2 hL rfl rfl rfl ?_|refine eG1 hL rfl rfl ?_|refine eG0 hL rfl ?_
 exact k):G:=h k
theorem aA{G' G:Prop}(k:G')(h:G'→G:=by
 intro k;refine Jo hL rfl rfl rfl rfl (by clear k;first|omega|(simp;omega)|simp) ?_;intro g cap cur w1 hr hL1;(try dsimp only at hL1)
 try simp only[Act.put,List.setIfInBounds_toArray,List.set_cons_zero,List.set_cons_succ]
 revert g cap cur w1 hr hL1;exact k):G:=h k
theorem aNb{G' G:Prop}(k:G')(h:G'→G:=by
 intro k;refine mG hL rfl rfl rfl rfl (by clear k;first|decide|omega|(simp;omega)|simp) (by clear k;first|omega|(simp;omega)|simp) ?_;intro g cap cur w1 hr hL1
 try simp only[Act.put,List.setIfInBounds_toArray,List.set_cons_zero,List.set_cons_succ]
 revert g cap cur w1 hr hL1;exact k):G:=h k
theorem aL{G' G:Prop}(k:G')(h:G'→G:=by
 intro k
 first|refine Gn hL rfl rfl rfl ?_|refine yO hL rfl rfl rfl ?_|refine Jr hL rfl rfl rfl rfl ?_|refine Js hL rfl rfl rfl rfl rfl ?_
 intro b w1 hL1
 try simp only[Act.put,List.setIfInBounds_toArray,List.set_cons_zero,List.set_cons_succ]
 revert b w1 hL1;exact k):G:=h k
theorem aQq{G' G:Prop}(k:G')(h:G'→G:=by
 intro k
 first
  | (((with_reducible show wpList _ _ _ (⟨_,.load _ _,_,_,_,_⟩::_) _ _);first|refine lL hL rfl rfl rfl ?_|refine lI hL rfl rfl rfl ?_|refine lW hL rfl rfl rfl ?_|refine lR hL rfl rfl rfl ?_);intro w1 hx;revert w1 hx;exact(fun(f:Nat→_)=>f 0) k)
  | (((with_reducible show wpList _ _ _ (⟨_,.store _ _ _,_,_,_,_⟩::_) _ _);first|refine lS hL rfl rfl rfl rfl rfl ?_|refine lT hL rfl rfl rfl rfl rfl ?_);intro w1 hx;revert w1 hx;exact(fun(f:Nat→_)=>f 0) k)
  | (((with_reducible show wpList _ _ _ (⟨_,.call _,_,_,_,_⟩::_) _ _);first|refine lC2 hL rfl rfl rfl rfl ?_|refine lC1 hL rfl rfl rfl ?_|refine lC3 hL rfl rfl rfl rfl ?_|refine lC4 hL rfl rfl rfl rfl ?_|refine lC0 hL rfl rfl ?_|refine lC5 hL rfl rfl rfl ?_|refine lG2 hL rfl rfl rfl rfl ?_|refine lG1 hL rfl rfl rfl ?_|refine lG0 hL rfl rfl ?_);intro w1 hx;revert w1 hx;exact(fun(f:Nat→_)=>f 0) k)
  | (((with_reducible show wpList _ _ _ (⟨_,.box _ _,_,_,_,_⟩::_) _ _);first|refine lB hL rfl rfl rfl ?_);intro b w1 hx;revert b w1 hx;exact k)
  | (((with_reducible show wpList _ _ _ (⟨_,.alloc _,_,_,_,_⟩::_) _ _);first|refine lA hL rfl rfl ?_);intro b w1 hx;revert b w1 hx;exact k)):G:=h k
theorem aQp{G' G:Prop}(k:G')(h:G'→G:=by
 intro k
 first
  | (((with_reducible show wpList _ _ _ (⟨_,.load _ _,_,_,_,_⟩::_) _ _);first|refine lL hL rfl rfl rfl ?_|refine lI hL rfl rfl rfl ?_|refine lW hL rfl rfl rfl ?_|refine lR hL rfl rfl rfl ?_);intro w1 hx;(try simp only[Act.put,List.setIfInBounds_toArray,List.set_cons_zero,List.set_cons_succ]);revert w1 hx;exact(fun(f:Nat→_)=>f 0) k)
  | (((with_reducible show wpList _ _ _ (⟨_,.store _ _ _,_,_,_,_⟩::_) _ _);first|refine lS hL rfl rfl rfl rfl rfl ?_|refine lT hL rfl rfl rfl rfl rfl ?_);intro w1 hx;(try simp only[Act.put,List.setIfInBounds_toArray,List.set_cons_zero,List.set_cons_succ]);revert w1 hx;exact(fun(f:Nat→_)=>f 0) k)
  | (((with_reducible show wpList _ _ _ (⟨_,.call _,_,_,_,_⟩::_) _ _);first|refine lC2 hL rfl rfl rfl rfl ?_|refine lC1 hL rfl rfl rfl ?_|refine lC3 hL rfl rfl rfl rfl ?_|refine lC4 hL rfl rfl rfl rfl ?_|refine lC0 hL rfl rfl ?_|refine lC5 hL rfl rfl rfl ?_|refine lG2 hL rfl rfl rfl rfl ?_|refine lG1 hL rfl rfl rfl ?_|refine lG0 hL rfl rfl ?_);intro w1 hx;(try simp only[Act.put,List.setIfInBounds_toArray,List.set_cons_zero,List.set_cons_succ]);revert w1 hx;exact(fun(f:Nat→_)=>f 0) k)
  | (((with_reducible show wpList _ _ _ (⟨_,.box _ _,_,_,_,_⟩::_) _ _);first|refine lB hL rfl rfl rfl ?_);intro b w1 hx;(try simp only[Act.put,List.setIfInBounds_toArray,List.set_cons_zero,List.set_cons_succ]);revert b w1 hx;exact k)
  | (((with_reducible show wpList _ _ _ (⟨_,.alloc _,_,_,_,_⟩::_) _ _);first|refine lA hL rfl rfl ?_);intro b w1 hx;(try simp only[Act.put,List.setIfInBounds_toArray,List.set_cons_zero,List.set_cons_succ]);revert b w1 hx;exact k)):G:=h k
theorem fA{G' G:Prop}(k:G')(h:G'→G:=by
 intro k;repeat refine rS ?_
 refine aG ?_;exact k):G:=h k
theorem fB{G' G:Prop}(k:G')(h:G'→G:=by
 intro k;refine tR fun w1 hL=>?_;simp only[List.cons_append,List.nil_append]at hL;refine p4 ?_;refine pG ?_
 repeat(refine rW ?_;clear hL;intro w1 hL)
 refine wpList_nil (NoPanic.normal ?_);revert w1 hL;exact k):G:=h k
theorem fC{G' G:Prop}(k:G')(h:G'→G:=by
 intro k;refine tR fun w1 hL=>?_;simp only[List.cons_append,List.nil_append]at hL;refine p4 ?_;refine wpList_nil (NoPanic.normal ?_);revert w1 hL;exact k):G:=h k
theorem lKk{C G' G:Prop}(hc:C)(k:G')(h:C→G'→G:=by
 intro hc k;refine lq rfl rfl (hc.mono ?_) rfl;exact k):G:=h hc k
theorem eK{C G' G:Prop}(hc:C)(k:G')(h:C→G'→G:=by
 intro hc k;refine zj rfl (by simp only[List.map_toArray,List.map_cons,List.map_nil];rfl) (hc.mono ?_);exact k):G:=h hc k
theorem pm{C G:Prop}(hc:C)(h:C→G:=by
 intro hc;first|exact hc|(intros;apply hc <;> first|assumption|(refine Loc.perm (by assumption) ?_;first|exact List.Perm.swap _ _ _|exact List.Perm.cons _ (List.Perm.swap _ _ _)|exact xP _ _ _ _ _))):G:=h hc
theorem lO{C G' G:Prop}(hc:C)(k:G')(h:C→G'→G:=by
 intro hc k;refine lq rfl rfl (hc.mono ?_) rfl;rintro e w1⟨rfl,hL1⟩;(try dsimp only at hL1);(try simp only[Nat.reduceAdd,Nat.reduceSub]at hL1);refine⟨_,rfl,?_⟩
 try simp only[Act.put,List.setIfInBounds_toArray,List.set_cons_zero,List.set_cons_succ]
 revert w1 hL1;exact k):G:=h hc k
theorem lV{C L G' G:Prop}(hc:C)(hL:L)(k:G')(h:C→L→G'→G:=by
 intro hc hL k;refine lq rfl rfl (hc.mono ?_) rfl;rintro e w1⟨rfl,hb1⟩;have hL1:=hL.keep hb1;clear hL hb1;refine⟨_,rfl,?_⟩
 try simp only[Act.put,List.setIfInBounds_toArray,List.set_cons_zero,List.set_cons_succ]
 revert w1 hL1;exact k):G:=h hc hL k
theorem eVv{C L G' G:Prop}(hc:C)(hL:L)(k:G')(h:C→L→G'→G:=by
 intro hc hL k;refine zj rfl (by simp only[List.map_toArray,List.map_cons,List.map_nil];rfl) (hc.mono ?_);rintro e w1⟨rfl,hb1⟩;have hL1:=hL.keep hb1;clear hL hb1;refine⟨_,rfl,?_⟩;revert w1 hL1;exact k):G:=h hc hL k
theorem gN(n:Tmp){d:Option Tmp}{P:Program}{ops:Array Oper}{Q:Exit→Act→World→Prop}{a:Act}{w:World}{rest:List Oper}{op:Op}{t:TypeId}{ps:String}{af:Array Edge}{gd:_}(k:wpList P ops Q (⟨d,op,t,ps,af,gd⟩::rest) a w)(hd:d=some n:=by rfl):wpList P ops Q (⟨d,op,t,ps,af,gd⟩::rest) a w:=k
theorem gBp(n:Tmp){d:Option Tmp}{P:Program}{ops:Array Oper}{Q:Exit→Act→World→Prop}{a:Act}{w:World}{rest:List Oper}{op:Op}{t:TypeId}{ps:String}{af:Array Edge}{gd:_}{G':Prop}(k:G')(hd:d=some n:=by rfl)(h:G'→wpList P ops Q (⟨d,op,t,ps,af,gd⟩::rest) a w:=by
 intro k;first|refine lB hL rfl rfl rfl ?_|refine lA hL rfl rfl ?_
 intro b w1 hx;try simp only[Act.put,List.setIfInBounds_toArray,List.set_cons_zero,List.set_cons_succ]
 revert b w1 hx;exact k):wpList P ops Q (⟨d,op,t,ps,af,gd⟩::rest) a w:=h k
abbrev Rt(f:FuncId)(args:Array Value)(w:World)(v:Value):Prop:=Calls prog f args w fun e w'=>e= .returned v∧Below w.heap.size w w'
theorem Hd{p:Prop}(h:p):RowKit.Hid p:=Lib.hid h
section
variable {P:Program} {ops:Array Oper} {Q:Exit→Act→World→Prop} {md:Region.Mode} {S:World→Prop}
theorem tk(i:Nat){oi:Oper}{v:Value}{fuel:Nat}{listed:Array Bool}{a:Act}{w:World}(hi:ops[i]?=some oi)(hy:YieldsIf P ops S oi v a)(hS:S w)(h:wpAnyH P md ops Q S fuel (listed.setIfInBounds i true) (a.put oi.dst v) w)(hs:Region.noSelect ops=true:=by kernel_rfl)(hf:Region.free md ops listed i=true:=by kernel_rfl)(hr:(Region.ready md ops listed).contains i=true:=by kernel_rfl)(hQ:∀c a w,Q (.panic c) (a.put oi.dst v) w→Q (.panic c) a w:=by exact fun _ _ _ h=>h):wpAnyH P md ops Q S (fuel+1) listed a w :=
 wpAnyH_take hi hs hf hr hQ hy hS h
theorem uT(i:Nat){oi:Oper}{v:Value}{fuel:Nat}{listed:Array Bool}{a:Act}{w:World}(hy:YieldsIf P ops S oi v a){G':Prop}(k:G')(hS:S w:=by exact hHeld)(hi:ops[i]?=some oi:=by rfl)(hs:Region.noSelect ops=true:=by kernel_rfl)(hf:Region.free md ops listed i=true:=by kernel_rfl)(hr:(Region.ready md ops listed).contains i=true:=by kernel_rfl)(hQ:∀c a w,Q (.panic c) (a.put oi.dst v) w→Q (.panic c) a w:=by exact fun _ _ _ h=>h)(h:G'→wpAnyH P md ops Q S fuel (listed.setIfInBounds i true) (a.put oi.dst v) w:=by
  intro k;try simp only[Act.put,List.getElem_toArray,List.getElem_cons_zero,List.getElem_cons_succ,List.setIfInBounds_toArray,List.set_cons_zero,List.set_cons_succ]
  exact k):wpAnyH P md ops Q S (fuel+1) listed a w :=
 wpAnyH_take hi hs hf hr hQ hy hS (h k)
theorem uG(i:Nat){oi:Oper}{v:Value}{fuel:Nat}{listed:Array Bool}{a:Act}{w:World}{G':Prop}(k:G')(hS:S w:=by exact hHeld)(hi:ops[i]?=some oi:=by rfl)(hy:YieldsIf P ops S oi v a:=by refine Or.inl ⟨by rfl,?_⟩;intro w hSw;go_simp;first|done|with_reducible rfl)(hs:Region.noSelect ops=true:=by kernel_rfl)(hf:Region.free md ops listed i=true:=by kernel_rfl)(hr:(Region.ready md ops listed).contains i=true:=by kernel_rfl)(hQ:∀c a w,Q (.panic c) (a.put oi.dst v) w→Q (.panic c) a w:=by exact fun _ _ _ h=>h)(h:G'→wpAnyH P md ops Q S fuel (listed.setIfInBounds i true) (a.put oi.dst v) w:=by
  intro k;try simp only[Act.put,List.getElem_toArray,List.getElem_cons_zero,List.getElem_cons_succ,List.setIfInBounds_toArray,List.set_cons_zero,List.set_cons_succ]
  exact k):wpAnyH P md ops Q S (fuel+1) listed a w :=
 wpAnyH_take hi hs hf hr hQ hy hS (h k)
theorem uZ(i:Nat){oi:Oper}{v:Value}{fuel:Nat}{listed:Array Bool}{a:Act}{w:World}{G':Prop}(k:G')(hS:S w:=by exact hHeld)(hi:ops[i]?=some oi:=by rfl)(hy:YieldsIf P ops S oi v a:=by first|exact zL (by rfl) rfl rfl|exact zI (by rfl) rfl rfl|exact zC (by rfl) rfl rfl|exact yW rfl rfl rfl)(hs:Region.noSelect ops=true:=by kernel_rfl)(hf:Region.free md ops listed i=true:=by kernel_rfl)(hr:(Region.ready md ops listed).contains i=true:=by kernel_rfl)(hQ:∀c a w,Q (.panic c) (a.put oi.dst v) w→Q (.panic c) a w:=by exact fun _ _ _ h=>h)(h:G'→wpAnyH P md ops Q S fuel (listed.setIfInBounds i true) (a.put oi.dst v) w:=by
  intro k;try simp only[Act.put,List.getElem_toArray,List.getElem_cons_zero,List.getElem_cons_succ,List.setIfInBounds_toArray,List.set_cons_zero,List.set_cons_succ]
  exact k):wpAnyH P md ops Q S (fuel+1) listed a w :=
 wpAnyH_take hi hs hf hr hQ hy hS (h k)
theorem uS(i:Nat){oi:Oper}{v:Value}{fuel:Nat}{listed:Array Bool}{a:Act}{w:World}{G':Prop}(k:G')(hS:S w:=by exact hHeld)(hi:ops[i]?=some oi:=by rfl)(hy:YieldsIf P ops S oi v a:=by first|exact Or.inr ⟨by rfl,rfl⟩|(refine Or.inl ⟨by rfl,?_⟩;intro w hSw;go_simp;first|done|with_reducible rfl))(hs:Region.noSelect ops=true:=by kernel_rfl)(hf:Region.free md ops listed i=true:=by kernel_rfl)(hr:(Region.ready md ops listed).contains i=true:=by kernel_rfl)(hQ:∀c a w,Q (.panic c) (a.put oi.dst v) w→Q (.panic c) a w:=by exact fun _ _ _ h=>h)(h:G'→wpAnyH P md ops Q S fuel (listed.setIfInBounds i true) (a.put oi.dst v) w:=by
  intro k;try simp only[Act.put,List.getElem_toArray,List.getElem_cons_zero,List.getElem_cons_succ,List.setIfInBounds_toArray,List.set_cons_zero,List.set_cons_succ]
  exact k):wpAnyH P md ops Q S (fuel+1) listed a w :=
 wpAnyH_take hi hs hf hr hQ hy hS (h k)
theorem uL(i:Nat){oi:Oper}{v:Value}{fuel:Nat}{listed:Array Bool}{a:Act}{w:World}{G':Prop}(k:G')(hS:S w:=by exact hHeld)(hi:ops[i]?=some oi:=by rfl)(hy:YieldsIf P ops S oi v a:=by first|exact Or.inr ⟨by rfl,rfl⟩|exact zL (by rfl) rfl rfl|exact zI (by rfl) rfl rfl|exact zC (by rfl) rfl rfl|exact yW rfl rfl rfl)(hs:Region.noSelect ops=true:=by kernel_rfl)(hf:Region.free md ops listed i=true:=by kernel_rfl)(hr:(Region.ready md ops listed).contains i=true:=by kernel_rfl)(hQ:∀c a w,Q (.panic c) (a.put oi.dst v) w→Q (.panic c) a w:=by exact fun _ _ _ h=>h)(h:G'→wpAnyH P md ops Q S fuel (listed.setIfInBounds i true) (a.put oi.dst v) w:=by
  intro k;try simp only[Act.put,List.getElem_toArray,List.getElem_cons_zero,List.getElem_cons_succ,List.setIfInBounds_toArray,List.set_cons_zero,List.set_cons_succ]
  exact k):wpAnyH P md ops Q S (fuel+1) listed a w :=
 wpAnyH_take hi hs hf hr hQ hy hS (h k)
theorem rd1(j1:Nat){o1:Oper}{fuel:Nat}{listed:Array Bool}{a:Act}{w:World}(k1:∀K':Act→World→Prop,Shut (∀a w,S w→(S w→wpAnyH P md ops Q S fuel (listed.setIfInBounds j1 true) a w)→K' a w)→Oper.wp P o1 a w K' Q)(ho1:ops[j1]?=some o1:=by rfl)(hw1:Region.wanted o1 (yielded ops a.tmps)=true:=by rfl)(hr:Region.ready md ops listed=[j1]:=by kernel_rfl):wpAnyH P md ops Q S (fuel+1) listed a w :=
 wpAnyH_ready hr (by simp) (.cons ho1 (fun K hK=>by rw[if_pos hw1];exact k1 K hK) .nil)
theorem rd2(j1 j2:Nat){o1 o2:Oper}{fuel:Nat}{listed:Array Bool}{a:Act}{w:World}(k1:∀K':Act→World→Prop,Shut (∀a w,S w→(S w→wpAnyH P md ops Q S fuel (listed.setIfInBounds j1 true) a w)→K' a w)→Oper.wp P o1 a w K' Q)(k2:∀K':Act→World→Prop,Shut (∀a w,S w→(S w→wpAnyH P md ops Q S fuel (listed.setIfInBounds j2 true) a w)→K' a w)→Oper.wp P o2 a w K' Q)(ho1:ops[j1]?=some o1:=by rfl)(hw1:Region.wanted o1 (yielded ops a.tmps)=true:=by rfl)(ho2:ops[j2]?=some o2:=by rfl)(hw2:Region.wanted o2 (yielded ops a.tmps)=true:=by rfl)(hr:Region.ready md ops listed=[j1,j2]:=by kernel_rfl):wpAnyH P md ops Q S (fuel+1) listed a w :=
 wpAnyH_ready hr (by simp) (.cons ho1 (fun K hK=>by rw[if_pos hw1];exact k1 K hK) (.cons ho2 (fun K hK=>by rw[if_pos hw2];exact k2 K hK) .nil))
theorem kO{a:Act}{w:World}{R:Act→World→Prop}{K:Act→World→Prop}(hK:Shut (∀a w,S w→(S w→R a w)→K a w))(hS:S w){G':Prop}(k:S w→G')(h:G'→R a w:=by
  intro k;try simp only[Act.put,List.getElem_toArray,List.getElem_cons_zero,List.getElem_cons_succ,List.setIfInBounds_toArray,List.set_cons_zero,List.set_cons_succ]
  exact k):K a w:=hK.out a w hS fun hs=>h (k hs)
theorem wD{listed:Array Bool}{a:Act}{w:World}{fuel:Nat}(h:Q .normal a w)(hr:Region.ready md ops listed=[]:=by kernel_rfl):wpAnyH P md ops (NoPanic Q) S fuel listed a w:=wpAnyH_done hr (NoPanic.normal h) _
end
end
section
open Go.RowKit
def U(x:BitVec 32):Int:=(x.toNat:Int)
def B8(x:BitVec 8):Int:=(x.toNat:Int)
def Q(x:BitVec 64):Int:=(x.toNat:Int)
theorem j8(x:BitVec 32):0≤U x∧U x<4294967296:=⟨Int.natCast_nonneg _,by have:=x.isLt;unfold U;omega⟩
theorem bK(x:BitVec 8):0≤B8 x∧B8 x<256:=⟨Int.natCast_nonneg _,by have:=x.isLt;unfold B8;omega⟩
theorem iW(x:BitVec 64):0≤Q x∧Q x<18446744073709551616:=⟨Int.natCast_nonneg _,by have:=x.isLt;unfold Q;omega⟩
theorem Gf{x y:BitVec 32}(h:U x=U y):x=y:=BitVec.eq_of_toNat_eq (Int.ofNat_inj.1 h)
theorem GE{x y:BitVec 8}(h:B8 x=B8 y):x=y:=BitVec.eq_of_toNat_eq (Int.ofNat_inj.1 h)
theorem kV(a b:BitVec 32):bits .xor .u32 (U a) (U b)=U (a^^^b):=by
 unfold U;rw[u32_xor_nat _ _ a.isLt b.isLt,BitVec.toNat_xor]
theorem BF(a b:BitVec 32):bits .and .u32 (U a) (U b)=U (a&&&b):=by
 unfold U;rw[u32_and_nat _ _ a.isLt b.isLt,BitVec.toNat_and]
theorem wn(a b:BitVec 32):bits .or .u32 (U a) (U b)=U (a|||b):=by
 unfold U;rw[u32_or_nat _ _ a.isLt b.isLt,BitVec.toNat_or]
theorem Gg(a:BitVec 32):bits .xor .u32 (if IntKind.u32.signed=true then -1 else IntKind.u32.max) (U a)=U (~~~a):=by
 have e:(if IntKind.u32.signed=true then(-1:Int)else IntKind.u32.max)=U (BitVec.allOnes 32):=by decide
 rw[e,kV,BitVec.allOnes_xor]
theorem gM(a b:BitVec 32):IntKind.u32.wrap (U a+U b)=U (a+b):=by
 unfold U;rw[IntKind.wrap_u32',BitVec.toNat_add];omega
theorem fN(a b:BitVec 32):(U a+U b)%(4294967296:Int)=U (a+b):=by
 unfold U;rw[BitVec.toNat_add];omega
theorem mW(a b:BitVec 64):IntKind.u64.wrap (Q a+Q b)=Q (a+b):=by
 unfold Q;rw[IntKind.wrap_u64,BitVec.toNat_add];omega
theorem rO(n:Nat)(h:n≤1000000000):Q (BitVec.ofNat 64 n)=(n:Int):=by
 unfold Q;rw[BitVec.toNat_ofNat];omega
theorem wA(a:BitVec 64)(n:Nat)(h:n≤1000000000):IntKind.u64.wrap (Q a+(n:Int))=Q (a+BitVec.ofNat 64 n):=by
 rw[← rO n h,mW]
theorem yp(a:BitVec 64)(n:Nat)(h:n≤1000000000):(Q a+(n:Int))%(18446744073709551616:Int)=Q (a+BitVec.ofNat 64 n):=by
 rw[← wA a n h,IntKind.wrap_u64]
theorem i4(a b:BitVec 8):bits .xor .u8 (B8 a) (B8 b)=B8 (a^^^b):=by
 unfold B8;rw[u8_xor_nat _ _ a.isLt b.isLt,BitVec.toNat_xor]
theorem IF(a b:BitVec 8):bits .or .u8 (B8 a) (B8 b)=B8 (a|||b):=by
 unfold B8;rw[u8_or_nat _ _ a.isLt b.isLt,BitVec.toNat_or]
theorem qI(a:BitVec 32)(n:Nat):U a/((2^n:Nat):Int)=U (a>>>n):=by
 unfold U;rw[BitVec.toNat_ushiftRight,Nat.shiftRight_eq_div_pow];norm_cast
theorem mY(a:BitVec 32)(n:Nat):U a*((2^n:Nat):Int)%4294967296=U (a<<<n):=by
 unfold U;rw[BitVec.toNat_shiftLeft,Nat.shiftLeft_eq,Int.natCast_emod,Int.natCast_mul];rfl
theorem yq(y:BitVec 8):B8 y=U (y.setWidth 32):=by
 unfold B8 U;rw[BitVec.toNat_setWidth];have:=y.isLt;omega
theorem GF(x:BitVec 32):U x/(8:Int)=U (x>>>3):=qI x 3
theorem EG(x:BitVec 32):U x/(1024:Int)=U (x>>>10):=qI x 10
theorem rP(x:BitVec 32):U x*(256:Int)%(4294967296:Int)=U (x<<<8):=mY x 8
theorem tJ(a b:Nat)(ha:a<9223372036854775808)(hb:b<9223372036854775808):bits .and .i64 (a:Int) (b:Int)=((a&&&b:Nat):Int):=by
 have hx:a&&&b<2^63:=Nat.and_lt_two_pow _ (by omega);show IntKind.i64.wrap ((BitVec.ofInt 64 (a:Int)&&&BitVec.ofInt 64 (b:Int)).toNat:Int)=_;rw[BitVec.toNat_and,ofInt_u64 a (by omega),ofInt_u64 b (by omega),IntKind.wrap_i64];omega
theorem dy(n:Nat)(h:n<9223372036854775808):bits .and .i64 (n:Int) (255:Int)=((n%256:Nat):Int):=by
 have:=tJ n 255 h (by omega);rw[nat_mask8]at this;exact this
def row(n:Nat)(S:Nat→Value):Array Value:=((List.range n).map S).toArray
def upd{α:Type}(f:Nat→α)(i:Nat)(v:α):Nat→α:=fun j=>if j=i then v else f j
theorem aQ(n:Nat)(S:Nat→Value):(row n S).size=n:=by simp[row]
theorem bI{n i:Nat}(S:Nat→Value)(h:i<n):(row n S)[i]?=some (S i):=by simp[row,h]
theorem ak{n:Nat}{S S':Nat→Value}(h:∀i,i<n→S i=S' i):row n S=row n S':=by
 unfold row;congr 1;exact List.map_congr_left fun i hi=>h i (List.mem_range.1 hi)
theorem yr{n i:Nat}(S:Nat→Value)(v:Value)(h:i<n):(row n S).setIfInBounds i v=row n (upd S i v):=by
 apply Array.ext';apply List.ext_getElem?;intro j;simp only[row,Array.toList_setIfInBounds,List.getElem?_set,List.length_map,List.length_range,List.getElem?_map];by_cases hj:j<n
 ·rw[List.getElem?_range hj]
  by_cases e:i=j
  ·subst e;simp[upd,h]
  ·rw[if_neg e];simp[upd,Ne.symm e]
 ·rw[List.getElem?_eq_none (l:=List.range n) (by simpa using hj)]
  by_cases e:i=j
  ·omega
  ·rw[if_neg e];rfl
theorem aP{w:World}{g n i:Nat}{S:Nat→Value}{t:TypeId}{fr:Nat×Nat}(hg:w.heap[g]?=some (.cells (row n S) t fr))(h:i<n):w.cell? ⟨g,i,none⟩=some (S i):=by
 rw[cell_of_row w g i _ t fr hg];exact bI S h
theorem bB{w:World}{g n i:Nat}{S:Nat→Value}{t:TypeId}(v:Value)(hg:w.heap[g]?=some (.cells (row n S) t (0,0)))(h:i<n) :
 (w.setCell ⟨g,i,none⟩ v).heap[g]?=some (.cells (row n (upd S i v)) t (0,0)):=by
 rw[heap_setCell_same w g i _ t v hg,yr S v h]
def a6(n:Nat)(f:Nat→BitVec 32):Array Value:=row n fun i=> .int .u32 (U (f i))
def aa(n:Nat)(f:Nat→BitVec 8):Array Value:=row n fun i=> .int .u8 (B8 (f i))
theorem aZ(n:Nat)(f:Nat→BitVec 32):(a6 n f).size=n:=aQ _ _
theorem aj(n:Nat)(f:Nat→BitVec 8):(aa n f).size=n:=aQ _ _
theorem ap{w:World}{g n i:Nat}{f:Nat→BitVec 32}{t:TypeId}{fr:Nat×Nat}(hg:w.heap[g]?=some (.cells (a6 n f) t fr))(h:i<n):w.cell? ⟨g,i,none⟩=some (.int .u32 (U (f i))):=aP hg h
theorem a4{w:World}{g n i:Nat}{f:Nat→BitVec 8}{t:TypeId}{fr:Nat×Nat}(hg:w.heap[g]?=some (.cells (aa n f) t fr))(h:i<n):w.cell? ⟨g,i,none⟩=some (.int .u8 (B8 (f i))):=aP hg h
theorem bZ{w:World}{g n i:Nat}{f:Nat→BitVec 32}{t:TypeId}(x:BitVec 32)(hg:w.heap[g]?=some (.cells (a6 n f) t (0,0)))(h:i<n) :
 (w.setCell ⟨g,i,none⟩ (.int .u32 (U x))).heap[g]?=some (.cells (a6 n (upd f i x)) t (0,0)):=by
 rw[bB _ hg h];congr 2;exact ak fun j _=>by unfold upd;split <;> rfl
theorem bm{w:World}{g n i:Nat}{f:Nat→BitVec 8}{t:TypeId}(x:BitVec 8)(hg:w.heap[g]?=some (.cells (aa n f) t (0,0)))(h:i<n) :
 (w.setCell ⟨g,i,none⟩ (.int .u8 (B8 x))).heap[g]?=some (.cells (aa n (upd f i x)) t (0,0)):=by
 rw[bB _ hg h];congr 2;exact ak fun j _=>by unfold upd;split <;> rfl
end
section
open Go.RowKit
section
variable {P:Program}
theorem gF{c rest:Code}{Q:Exit→Act→World→Prop}{a:Act}{w:World}(l:Nat)(J:Act→World→Prop)(μ:Act→World→Nat)(hf:findLabel c l=some (Code.skip.seq rest))(pass:∀a w,J a w→rest.wp P (Exit.jump l (fun a' w'=>J a' w'∧μ a' w'<μ a w) Q) a w)(first:(∀a w,J a w→rest.wp P (Exit.jump l J Q) a w)→c.wp P (Exit.jump l J Q) a w):(Code.scope c).wp P Q a w :=
 wp_scope_jumps l J μ hf (first fun a w h=>Code.wp_mono (fun e a w q=>by
  cases e with
  | goto l'=>exact⟨q.1,q.2.1⟩
  | normal=>exact q
  | exit id=>exact q
  | ret=>exact q
  | panic ch=>exact q
  | outgrown=>exact q) (pass a w h)) fun a w h=>wp_seq_k fun K hK=>wp_skip (hK _ _ (pass a w h))
theorem qj{t:TypeId}{n:Nat}{S:Nat→Value}(hz:(P.info? t).map (fun i=>(i.zero,i.size))=some (some (.agg (row n S)),n))(w:World)(v:Value) :
 (Instr.alloc t true v).run P w= .ok (.pointer (some ⟨w.heap.size,0,none⟩)) (w.alloc (.cells (row n S) t)):=by
 have h:=(zero_of_info (P:=P) hz).1 w;unfold Instr.alloc;simp only[Sem.run_bind,h,Result.andThen_ok,newVar,newRow,newObj,Sem.run,Sem.run_pure,Value.cells];rfl
theorem aw{ops:Array Oper}{rest:List Oper}{o:Oper}{a:Act}{w:World}{Q:Exit→Act→World→Prop}(hg:o.guard=none)(t:TypeId)(ho:o.op= .alloc t)(n:Nat)(S:Nat→Value)(hz:(P.info? t).map (fun i=>(i.zero,i.size))=some (some (.agg (row n S)),n))(h:wpList P ops Q rest (a.put o.dst (.pointer (some ⟨w.heap.size,0,none⟩))) (w.alloc (.cells (row n S) t))):wpList P ops Q (o::rest) a w :=
 wpList_plain hg fun _ hK=>by
  unfold Oper.wp execOp;simp only[ho,Sem.run_bind,qj hz,Result.andThen_ok];exact hK _ _ h
theorem gG{t e:TypeId}{n k:Nat}(S:Nat→Value)(ht:P.underlying t=some (.array n e))(he:(P.info? e).map (·.size)=some 1)(hr:∀w,(isAgg e).run P w= .ok false w)(hk:k<n)(w:World):(Instr.index t (.agg (row n S)) (.int .i64 k)).run P w= .ok (S k) w:=by
 cases hi:P.info? e with
 | none=>rw[hi]at he;cases he
 | some i =>
  have hs:i.size=1:=by simpa[hi] using he
  have h0:(0:Int)≤(k:Int)∧(k:Int)<(n:Int):=by omega
  simp only[Instr.index,asIntOf,Sem.run_bind,Sem.run_pure,Result.andThen_ok,run_underlying ht,if_pos h0,sizeOf,run_typeInfo _ hi,hs,part,hr,Bool.false_eq_true,if_false,Int.toNat_natCast,Nat.mul_one,bI S hk]
theorem gx{w:World}{b o n m:Nat}{S:Nat→Value}{t:TypeId}{fr:Nat×Nat}(hg:w.heap[b]?=some (.cells (row m S) t fr))(h:o+n≤m) :
 w.rangeAt b o (row n fun i=>S (o+i)).toList:=fun j v hv=>by
 have hj:j<n:=by
  rcases Nat.lt_or_ge j n with h|h
  ·exact h
  ·rw[List.getElem?_eq_none (by simp[aQ];exact h)]at hv;cases hv
 have e:(row n fun i=>S (o+i)).toList[j]?=some (S (o+j)):=by
  rw[Array.getElem?_toList];exact bI _ hj
 rw[e]at hv;cases hv
 exact aP hg (by omega)
end
theorem bP(n:Nat)(f:Nat→BitVec 32):(a6 n f).all (·.oneCell')=true:=by
 simp[a6,row,Value.oneCell']
theorem bU(n:Nat)(f:Nat→BitVec 8):(aa n f).all (·.oneCell')=true:=by
 simp[aa,row,Value.oneCell']
theorem aC{w:World}{g:Nat}{c c':Array Value}{t:TypeId}{fr:Nat×Nat}(hg:w.heap[g]?=some (.cells c t fr)):(w.setRow g c').heap[g]?=some (.cells c' t fr):=by
 simp only[World.setRow,Array.getElem?_modify,if_pos trivial,hg,Option.map_some]
theorem au{w:World}{g k:Nat}{c':Array Value}(h:k≠g):(w.setRow g c').heap[k]?=w.heap[k]?:=by
 simp only[World.setRow,Array.getElem?_modify];rw[if_neg (Ne.symm h)]
theorem aW{B:Nat}{a w:World}(h:Below B a w){g:Nat}(hg:B≤g)(c:Array Value):Below B a (w.setRow g c) :=
 h.trans ⟨rfl,rfl,rfl,by simp,fun k hk=>au (by omega)⟩
theorem i5{w w':World}{r:Option Nat}(h:Below w.heap.size w w'):w.grownBy w' r:=⟨h.os,h.tape,h.output,h.size,fun k hk _=>h.block k hk⟩
theorem cq(w:World)(r:Option Nat):w.grownBy w r:=⟨rfl,rfl,rfl,Nat.le_refl _,fun _ _ _=>rfl⟩
theorem mZ{a b c:World}{r:Option Nat}(h:a.grownBy b r)(k:b.grownBy c r):a.grownBy c r :=
 ⟨k.os.trans h.os,k.tape.trans h.tape,k.output.trans h.output,Nat.le_trans h.size k.size,fun i hi hr=>(k.block i (Nat.lt_of_lt_of_le hi h.size) hr).trans (h.block i hi hr)⟩
theorem m6{a b:World}{r:Option Nat}(h:a.grownBy b r)(n:Nat):a.grownBy (b.drewN n) r:=⟨h.os,h.tape,h.output,h.size,h.block⟩
theorem dz{a b:World}{r:Option Nat}(h:a.grownBy b r):a.grownBy b.drew r:=⟨h.os,h.tape,h.output,h.size,h.block⟩
theorem dA{a b:World}{r:Option Nat}(h:a.grownBy b r)(o:Obj):a.grownBy (b.alloc o) r :=
 ⟨h.os,h.tape,h.output,by have:=h.size;simp;omega,fun k hk hr=>(Below.heap_alloc b o k (Nat.lt_of_lt_of_le hk h.size)).trans (h.block k hk hr)⟩
theorem dJ{a b:World}{r:Option Nat}(h:a.grownBy b r){g:Nat}(hg:a.heap.size≤g∨r=some g)(c:Array Value):a.grownBy (b.setRow g c) r :=
 ⟨h.os,h.tape,h.output,by have:=h.size;simpa using this,fun k hk hr=>(au (fun e=>by subst e;exact hg.elim (fun h=>by omega) (fun h=>hr h.symm))).trans (h.block k hk hr)⟩
theorem bn{a b:World}{r:Option Nat}(h:a.grownBy b r){x:Addr}(hx:a.heap.size≤x.block∨r=some x.block)(v:Value):a.grownBy (b.setCell x v) r :=
 ⟨h.os,h.tape,h.output,by have:=h.size;simpa[World.setCell] using this,fun k hk hr=>(heap_setCell_other b x k v (fun e=>by subst e;exact hx.elim (fun h=>by omega) (fun h=>hr h.symm))).trans (h.block k hk hr)⟩
end
section
section
variable {P:Program} {ops:Array Oper} {Q:Exit→Act→World→Prop} {S:World→Prop}
def mq(ops:Array Oper):List Nat→List Bool→Array Bool→Bool
 | [],_,listed=>(Region.ready .any ops listed)==[]
 | i::ord,b::fl,listed =>
  decide (i<ops.size)&&(if b then Region.free .any ops listed i&&(Region.ready .any ops listed).contains i else(Region.ready .any ops listed)==[i])&&mq ops ord fl (listed.setIfInBounds i true)
 | _::_,[],_=>false
def Gh(ops:Array Oper)(ord:List Nat)(fl:List Bool):Bool:=Region.noSelect ops&&(ord.length==ops.size)&&mq ops ord fl (Array.replicate ops.size false)
def rQ(P:Program)(ops:Array Oper)(Q:Exit→Act→World→Prop)(S:World→Prop):List Bool→List Oper→Act→World→Prop
 | true::fl,o::l,a,w=>∃v,YieldsIf P ops S o v a∧rQ P ops Q S fl l (a.put o.dst v) w
 | false::fl,o::l,a,w=>∀K:Act→World→Prop,Shut (∀a w,S w→(S w→rQ P ops Q S fl l a w)→K a w)→if Region.wanted o (yielded ops a.tmps)=true then Oper.wp P o a w K Q else K (a.put o.dst undef) w
 | _,_,a,w=>Q .normal a w
theorem a5{fl:List Bool}{o:Oper}{l:List Oper}{a:Act}{w:World}{v:Value}(hy:YieldsIf P ops S o v a)(h:rQ P ops Q S fl l (a.put o.dst v) w):rQ P ops Q S (true::fl) (o::l) a w:=⟨v,hy,h⟩
theorem yt{fl:List Bool}{o:Oper}{l:List Oper}{a:Act}{w:World}(h:∀K:Act→World→Prop,Shut (∀a w,S w→(S w→rQ P ops Q S fl l a w)→K a w)→if Region.wanted o (yielded ops a.tmps)=true then Oper.wp P o a w K Q else K (a.put o.dst undef) w) :
 rQ P ops Q S (false::fl) (o::l) a w:=h
theorem tK{fl:List Bool}{a:Act}{w:World}(h:Q .normal a w):rQ P ops Q S fl [] a w:=by
 rcases fl with _|⟨_|_,_⟩ <;> exact h
theorem nV(hs:Region.noSelect ops=true)(hQ:∀c d v a w,Q (.panic c) (a.put d v) w→Q (.panic c) a w):∀(ord:List Nat) (fl:List Bool) (listed:Array Bool) (a:Act) (w:World),
 mq ops ord fl listed=true→S w→rQ P ops Q S fl (ord.filterMap (ops[·]?)) a w→wpAnyH P .any ops Q S ord.length listed a w
 | [],fl,listed,a,w,hc,_,h=>by
  have hq:Q .normal a w:=by rcases fl with _|⟨_|_,_⟩ <;> exact h
  exact wpAnyH_done (by simpa[mq] using hc) hq _
 | i::ord,[],listed,a,w,hc,_,_=>by simp[mq]at hc
 | i::ord,b::fl,listed,a,w,hc,hS,h=>by
  unfold mq at hc;rw[Bool.and_eq_true,Bool.and_eq_true]at hc;obtain⟨⟨h1,h2⟩,h3⟩:=hc;have hlt:i<ops.size:=of_decide_eq_true h1;have hi:ops[i]?=some ops[i]:=Array.getElem?_eq_getElem hlt;rw[List.filterMap_cons,hi]at h;cases b with
  | true =>
   obtain⟨v,hy,hr⟩:=h;simp only[if_true]at h2;rw[Bool.and_eq_true]at h2;exact wpAnyH_take hi hs h2.1 h2.2 (fun c a w=>hQ c _ _ a w) hy hS (nV hs hQ ord fl _ _ _ h3 hS hr)
  | false =>
   simp only[Bool.false_eq_true,if_false]at h2;refine wpAnyH_ready (rs:=[i]) (by simpa using h2) (by simp) (AllReadyH.cons hi (fun K hK=>?_) AllReadyH.nil);exact h K (fun a w hS hW=>hK.out a w hS fun hS=>nV hs hQ ord fl _ _ _ h3 hS (hW hS))
theorem i6{id:Nat}{a:Act}{w:World}(ord:List Nat)(fl:List Bool)(hm:P.follows .mixedOrders=true)(hc:Gh ops ord fl=true)(hS:S w.drew)(h:S w.drew→rQ P ops (NoPanic Q) S fl (ord.filterMap (ops[·]?)) a w.drew):(Code.region id ops true).wp P Q a w:=by
 unfold Gh at hc;rw[Bool.and_eq_true,Bool.and_eq_true]at hc;obtain⟨⟨h1,h2⟩,h3⟩:=hc;have hl:ord.length=ops.size:=by simpa using h2
 refine wp_region_noPanic (wp_region_held_drew hm hS fun hS=>?_);rw[← hl];exact nV h1 (fun _ _ _ _ _ h=>h) ord fl _ a _ (by rw[hl];exact h3) hS (h hS)
end
end
section
open Go.RowKit
class RowTy(t:TypeId)(n:outParam Nat):Prop where
 und:∃d,prog.underlying t=some d∧d.isRow=true
 size:(prog.info? t).map (·.size)=some n
class RowZ(t:TypeId)(r:outParam (Array Value)):Prop where
 zero:(prog.info? t).map (·.zero)=some (some (.agg r))
class Row1(r:Array Value)(n:outParam Nat):Prop where
 size:r.size=n
 one:r.all (·.oneCell')=true
abbrev Mem:=List (Nat×Array Value×TypeId)
structure Loc(w0 w:World)(M:Mem):Prop where
 bel:Below w0.heap.size w0 w
 ok:∀b r t,(b,r,t)∈M→w0.heap.size≤b∧w.heap[b]?=some (.cells r t (0,0))
 nd:(M.map (·.1)).Pairwise (· ≠ ·)
theorem Loc.nil(w:World):Loc w w []:=⟨Below.refl _ _,fun _ _ _ h=>(List.not_mem_nil h).elim,List.Pairwise.nil⟩
theorem Loc.get{w0 w:World}{M:Mem}(h:Loc w0 w M){b:Nat}{r:Array Value}{t:TypeId}(hm:(b,r,t)∈M):w.heap[b]?=some (.cells r t (0,0)):=(h.ok _ _ _ hm).2
theorem Loc.lt{w0 w:World}{M:Mem}(h:Loc w0 w M){b:Nat}{r:Array Value}{t:TypeId}(hm:(b,r,t)∈M):b<w.heap.size:=(Array.getElem?_eq_some_iff.1 (h.get hm)).1
theorem Loc.ge{w0 w:World}{M:Mem}(h:Loc w0 w M){b:Nat}{r:Array Value}{t:TypeId}(hm:(b,r,t)∈M):w0.heap.size≤b:=(h.ok _ _ _ hm).1
theorem Loc.keep{w0 w w':World}{M:Mem}(h:Loc w0 w M)(hb:Below w.heap.size w w'):Loc w0 w' M :=
 ⟨h.bel.trans (hb.mono h.bel.size),fun b r t hm=>⟨h.ge hm,(hb.block b (h.lt hm)).trans (h.get hm)⟩,h.nd⟩
theorem Loc.drew{w0 w:World}{M:Mem}(h:Loc w0 w M):Loc w0 w.drew M:=⟨h.bel.drew,h.ok,h.nd⟩
theorem Loc.alloc{w0 w:World}{M:Mem}(h:Loc w0 w M)(r:Array Value)(t:TypeId):Loc w0 (w.alloc (.cells r t)) ((w.heap.size,r,t)::M):=by
 refine⟨h.bel.alloc h.bel.size _,fun b r' t' hm=>?_,?_⟩
 ·cases hm with
  | head=>exact⟨h.bel.size,heap_alloc_new _ _⟩
  | tail _ hm=>exact⟨h.ge hm,(Below.heap_alloc _ _ _ (h.lt hm)).trans (h.get hm)⟩
 ·refine List.Pairwise.cons (fun b hb=>?_) h.nd
  obtain⟨⟨b',r',t'⟩,hm,rfl⟩:=List.mem_map.1 hb;have:=h.lt hm;simp only;omega
theorem Loc.pop{w0 w:World}{M:Mem}{e:Nat×Array Value×TypeId}(h:Loc w0 w (e::M)):Loc w0 w M:=⟨h.bel,fun b r t hm=>h.ok b r t (.tail _ hm),by have:=h.nd;simp only[List.map_cons,List.pairwise_cons]at this;exact this.2⟩
inductive Upd:Mem→Nat→Array Value→Mem→Prop
 | head (M:Mem) (b:Nat) (r r':Array Value) (t:TypeId):Upd ((b,r,t)::M) b r' ((b,r',t)::M)
 | tail {M M':Mem} {b:Nat} {r':Array Value} (e:Nat×Array Value×TypeId) (h:Upd M b r' M'):Upd (e::M) b r' (e::M')
theorem Upd.fst{M M':Mem}{b:Nat}{r:Array Value}(h:Upd M b r M'):M'.map (·.1)=M.map (·.1):=by
 induction h with
 | head=>rfl
 | tail e _ ih=>simp only[List.map_cons,ih]
theorem Upd.mem{M M':Mem}{b:Nat}{r':Array Value}(h:Upd M b r' M'):∃r t,(b,r,t)∈M:=by
 induction h with
 | head M b r r' t=>exact⟨r,t,.head _⟩
 | tail e _ ih=>obtain⟨r,t,hm⟩:=ih;exact⟨r,t,.tail _ hm⟩
theorem Upd.back{M M':Mem}{b:Nat}{r':Array Value}(h:Upd M b r' M')(nd:(M.map (·.1)).Pairwise (· ≠ ·)):∀c r t,(c,r,t)∈M'→(c=b∧r=r'∧∃r0,(b,r0,t)∈M)∨(c≠b∧(c,r,t)∈M):=by
 induction h with
 | head M b r r' t =>
  intro c s u hm;simp only[List.map_cons,List.pairwise_cons]at nd;cases hm with
  | head=>exact .inl ⟨rfl,rfl,r,.head _⟩
  | tail _ hm=>exact .inr ⟨fun e=>nd.1 c (List.mem_map.2 ⟨_,hm,rfl⟩) e.symm,.tail _ hm⟩
 | @tail M M' b r' e h ih =>
  intro c s u hm;simp only[List.map_cons,List.pairwise_cons]at nd;cases hm with
  | head =>
   obtain⟨r0,t0,h0⟩:=h.mem;exact .inr ⟨nd.1 b (List.mem_map.2 ⟨_,h0,rfl⟩),.head _⟩
  | tail _ hm =>
   rcases ih nd.2 c s u hm with⟨e1,e2,r0,h0⟩|⟨e1,h0⟩
   ·exact .inl ⟨e1,e2,r0,.tail _ h0⟩
   ·exact .inr ⟨e1,.tail _ h0⟩
theorem Loc.setRow{w0 w:World}{M M':Mem}(h:Loc w0 w M){b:Nat}{r':Array Value}(hu:Upd M b r' M'):Loc w0 (w.setRow b r') M':=by
 obtain⟨r0,t0,h0⟩:=hu.mem;refine⟨aW h.bel (h.ge h0) _,fun c r t hm=>?_,by rw[hu.fst];exact h.nd⟩;rcases hu.back h.nd c r t hm with⟨rfl,rfl,r1,h1⟩|⟨hne,h1⟩
 ·exact⟨h.ge h1,aC (h.get h1)⟩
 ·exact⟨h.ge h1,(au hne).trans (h.get h1)⟩
theorem Loc.setCell{w0 w:World}{M M':Mem}(h:Loc w0 w M){b n k:Nat}{S:Nat→Value}{t:TypeId}(v:Value)(hm:(b,row n S,t)∈M)(hk:k<n)(hu:Upd M b (row n (upd S k v)) M'):Loc w0 (w.setCell ⟨b,k,none⟩ v) M':=by
 refine⟨h.bel.setCell (h.ge hm) _,fun c r t' hm'=>?_,by rw[hu.fst];exact h.nd⟩;rcases hu.back h.nd c r t' hm' with⟨rfl,rfl,r1,h1⟩|⟨hne,h1⟩
 ·refine⟨h.ge h1,?_⟩
  have e:r1=row n S∧t'=t:=by
   have a1:=h.get h1;rw[h.get hm]at a1;cases a1
   exact⟨rfl,rfl⟩
  obtain⟨rfl,rfl⟩:=e;exact bB _ (h.get hm) hk
 ·exact⟨h.ge h1,(heap_setCell_other _ _ _ _ hne).trans (h.get h1)⟩
class At(M:Mem)(b:Nat)(r:outParam (Array Value))(t:outParam TypeId):Prop where
 mem:(b,r,t)∈M
instance MY(e:Nat×Array Value×TypeId)(M:Mem)(b:Nat)(r:Array Value)(t:TypeId)[h:At M b r t]:At (e::M) b r t:=⟨.tail _ h.mem⟩
instance MZ(M:Mem)(b:Nat)(r:Array Value)(t:TypeId):At ((b,r,t)::M) b r t:=⟨.head _⟩
class Ups(M:Mem)(b:Nat)(r:Array Value)(M':outParam Mem):Prop where
 upd:Upd M b r M'
instance M3(e:Nat×Array Value×TypeId)(M M':Mem)(b:Nat)(r:Array Value)[h:Ups M b r M']:Ups (e::M) b r (e::M'):=⟨.tail _ h.upd⟩
instance M4(M:Mem)(b:Nat)(r r':Array Value)(t:TypeId):Ups ((b,r,t)::M) b r' ((b,r',t)::M):=⟨.head _ _ _ _ _⟩
section
variable {ops:Array Oper} {rest:List Oper} {o:Oper} {a:Act} {w0 w:World} {M M':Mem} {Q:Exit→Act→World→Prop}
theorem dB(hL:Loc w0 w M)(hg:o.guard=none){t:TypeId}{x:Operand}(ho:o.op= .box t x){r:Array Value}(hx:a.eval x= .agg r)(h:∀b w',Loc w0 w' ((b,r,t)::M)→wpList prog ops Q rest (a.put o.dst (.pointer (some ⟨b,0,none⟩))) w'):wpList prog ops Q (o::rest) a w :=
 Go.Great.wpList_boxTo hg t x ho o.dst rfl _ rfl r (by rw[hx];rfl) (h _ _ (hL.alloc r t))
theorem i8{t:TypeId}{r:Array Value}(hz:(prog.info? t).map (·.zero)=some (some (.agg r)))(w:World)(v:Value) :
 (Instr.alloc t true v).run prog w= .ok (.pointer (some ⟨w.heap.size,0,none⟩)) (w.alloc (.cells r t)):=by
 cases hi:prog.info? t with
 | none=>rw[hi]at hz;cases hz
 | some i =>
  rw[hi]at hz;have hs:i.zero=some (.agg r):=by simpa using hz
  have h:=(zero_of_info (P:=prog) (t:=t) (v:= .agg r) (n:=i.size) (by rw[hi];simp[hs])).1 w;unfold Instr.alloc;simp only[Sem.run_bind,h,Result.andThen_ok,newVar,newRow,newObj,Sem.run,Sem.run_pure,Value.cells];rfl
theorem dc(hL:Loc w0 w M)(hg:o.guard=none){t:TypeId}(ho:o.op= .alloc t){r:Array Value}[hz:RowZ t r](h:∀b w',Loc w0 w' ((b,r,t)::M)→wpList prog ops Q rest (a.put o.dst (.pointer (some ⟨b,0,none⟩))) w'):wpList prog ops Q (o::rest) a w :=
 wpList_plain hg fun _ hK=>by
  unfold Oper.wp execOp;simp only[ho,Sem.run_bind,i8 hz.zero,Result.andThen_ok];exact hK _ _ (h _ _ (hL.alloc r t))
theorem iU(hL:Loc w0 w M)(hg:o.guard=none){t:TypeId}{x:Operand}(ho:o.op= .load t x){b:Nat}(hx:a.eval x= .pointer (some ⟨b,0,none⟩)){r:Array Value}{n:Nat}[ht:RowTy t n][hm:At M b r t][hr:Row1 r n](h:wpList prog ops Q rest (a.put o.dst (.agg r)) w):wpList prog ops Q (o::rest) a w:=by
 obtain⟨d,h1,h2⟩:=ht.und;exact wpList_load_row hg t x ho b hx t r (0,0) d (hL.get hm.mem) h1 (by cases d <;> first|rfl|cases h2) (by rw[ht.size,hr.size]) h
theorem eL(hL:Loc w0 w M)(hg:o.guard=none){t:TypeId}{x y:Operand}(ho:o.op= .store t x y)(hd:o.dst=none){b:Nat}(hx:a.eval x= .pointer (some ⟨b,0,none⟩)){r:Array Value}(hy:a.eval y= .agg r){n:Nat}[hr:Row1 r n][ht:RowTy t n]{old:Array Value}[hm:At M b old t][hs:Row1 old n][hu:Ups M b r M'](h:∀w',Loc w0 w' M'→wpList prog ops Q rest a w'):wpList prog ops Q (o::rest) a w :=
 wpList_store_rowTo hg t x y ho hd b r hx hy t old (hL.get hm.mem) (by rw[ht.size,hr.size]) (by rw[hs.size,hr.size]) hr.one (h _ (hL.setRow hu.upd))
theorem eh{b:Nat}{r:Array Value}{t:TypeId}{fr:Nat×Nat}(hg:w.heap[b]?=some (.cells r t fr)){k:Nat}{cs:List Value}(hc:∀j v,cs[j]?=some v→r[k+j]?=some v):w.rangeAt b k cs:=fun j v hv=>by
 rw[cell_of_row w b (k+j) _ _ _ hg];exact hc j v hv
end
theorem ay{fn:Func}{p q:Tmp}{t:TypeId}(h:fn.results= #[.cell p t,.tmp q]){w0 w:World}{M:Mem}(hL:Loc w0 w M){tmps:Array Value}{b:Nat}(hp:tmps.getD p undef= .pointer (some ⟨b,0,none⟩)){v:Value}(hv:tmps.getD q undef=v){r:Array Value}{n:Nat}[ht:RowTy t n][hm:At M b r t][hr:Row1 r n] :
 (results fn tmps).run prog w= .ok (.tuple #[.agg r,v]) w:=by
 obtain⟨d,h1,h2⟩:=ht.und;have hp':tmps[p]?.getD undef= .pointer (some ⟨b,0,none⟩):=by simpa using hp
 have hv':tmps[q]?.getD undef=v:=by simpa using hv
 have hl:=run_loadVar_row w b t t r (0,0) d (hL.get hm.mem) h1 (by cases d <;> first|rfl|cases h2) (by rw[ht.size,hr.size]);simp[results,h,hp',hv',asAddr,hl]
theorem ai{fn:Func}{p:Tmp}{t:TypeId}(h:fn.results= #[.cell p t]){w0 w:World}{M:Mem}(hL:Loc w0 w M){tmps:Array Value}{b:Nat}(hp:tmps.getD p undef= .pointer (some ⟨b,0,none⟩)){r:Array Value}{n:Nat}[ht:RowTy t n][hm:At M b r t][hr:Row1 r n] :
 (results fn tmps).run prog w= .ok (.agg r) w:=by
 obtain⟨d,h1,h2⟩:=ht.und;exact results_cell_row h tmps w b t r (0,0) d hp (hL.get hm.mem) h1 (by cases d <;> first|rfl|cases h2) (by rw[ht.size,hr.size])
end
end Go.Proofs.YtoifhhljfaoejaaGreatDoor
