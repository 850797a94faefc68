/-
  Lemmas of the law, part 5: the walks of the functions that it calls and the plain facts about them. No condition beyond those written.
-/
import Derived.Shelf.Bits.Mul64
import Derived.Shelf.Spec.BitsCarry
import Derived.StillTailTactics
import Derived.LoopTactic
import Derived.IntWalk
import Derived.Test.YtoifhhljfaoejaaGreatDoorPkAA
import Derived.Test.YtoifhhljfaoejaaGreatDoorPkAB
namespace Go.Proofs.YtoifhhljfaoejaaGreatDoor
open Go.RowKit
set_option linter.unusedVariables false
set_option linter.unusedSimpArgs false
def lw (n i:Nat):Nat:=n / 2 ^ (64*i) % 18446744073709551616
def lv (n i:Nat):Value:= .int .u64 (lw n i:Nat)
def rowL (n:Nat):Array Value:=row 4 (lv n)
def rowLk (n k:Nat):Array Value:=row 4 fun i=>if i<k then lv n i else .int .u64 0
theorem rowLk_zero (n:Nat):rowLk n 0=rowL 0:=row_congr fun i _=>by rw [if_neg (by omega)];unfold lv lw;simp
theorem rowLk_full (n:Nat):rowLk n 4=rowL n:=row_congr fun i hi=>by rw [if_pos hi]
theorem rowLk_step (n k:Nat):row 4 (upd (fun i=>if i<k then lv n i else .int .u64 0) k (.int .u64 (lw n k:Nat)))=rowLk n (k+1):=row_congr fun i _=>by
 unfold upd
 by_cases e:i=k
 ·subst e;rw [if_pos rfl,if_pos (by omega)];rfl
 ·rw [if_neg e]
  show (if i<k then lv n i else Value.int .u64 0)=_
  by_cases h:i<k
  ·rw [if_pos h,if_pos (by omega)]
  ·rw [if_neg h,if_neg (by omega)]
theorem lw_lt (n i:Nat):lw n i<18446744073709551616:=Nat.mod_lt _ (by omega)
instance iLimb1:RowTy 311 4:=⟨⟨_,Tryz.underlying311,rfl⟩,by kernel_rfl⟩
instance iLimb2:RowZ 311 (rowL 0):=⟨by kernel_rfl⟩
instance iLimb3 (n:Nat):Row1 (rowL n) 4:=⟨row_size _ _,by simp [rowL,row,lv,Value.oneCell']⟩
instance iLimb5:RowTy 24 32:=⟨⟨_,Tryz.underlying24,rfl⟩,by kernel_rfl⟩
instance iLimb6:RowZ 24 (rowB 32 fun _=>0):=⟨by kernel_rfl⟩
instance iLimb7 (n:Nat) (f:Nat→BitVec 8):Row1 (rowB n f) n:=⟨rowB_size _ _,rowB_oneCell _ _⟩
def cy (n m k:Nat):Nat:=(n % 2 ^ (64*k)+m % 2 ^ (64*k)) / 2 ^ (64*k)
def bw (n m k:Nat):Nat:=if n % 2 ^ (64*k)<m % 2 ^ (64*k) then 1 else 0
theorem k4 {k:Nat} (h:k<4):k=0∨k=1∨k=2∨k=3:=by omega
theorem cy_le (n m k:Nat):cy n m k≤1:=by
 unfold cy
 have h:=Nat.two_pow_pos (64*k)
 have h1:=Nat.mod_lt n h
 have h2:=Nat.mod_lt m h
 generalize 2 ^ (64*k)=N at *
 exact Nat.lt_succ_iff.1 ((Nat.div_lt_iff_lt_mul h).2 (by omega))
theorem bw_le (n m k:Nat):bw n m k≤1:=by unfold bw;split <;> omega
theorem cy_zero (n m:Nat):cy n m 0=0:=by simp [cy,Nat.mod_one]
theorem bw_zero (n m:Nat):bw n m 0=0:=by simp [bw,Nat.mod_one]
theorem cy_lo (n m:Nat) {k:Nat} (h:k<4):(lw n k+lw m k+cy n m k) % 18446744073709551616=lw (n+m) k:=by
 unfold lw cy
 rcases k4 h with rfl | rfl | rfl | rfl <;> simp only [Nat.mul_zero,Nat.mul_one,Nat.reduceMul,Nat.reducePow] <;> omega
theorem cy_hi (n m:Nat) {k:Nat} (h:k<4):(lw n k+lw m k+cy n m k) / 18446744073709551616=cy n m (k+1):=by
 unfold lw cy
 rcases k4 h with rfl | rfl | rfl | rfl <;> simp only [Nat.mul_zero,Nat.mul_one,Nat.reduceMul,Nat.reduceAdd,Nat.reducePow] <;> omega
theorem bw_lo (n m:Nat) {k:Nat} (hn:n<2 ^ 256) (hm:m<2 ^ 256) (h:k<4):(lw n k+18446744073709551616 - lw m k - bw n m k) % 18446744073709551616=lw (n+2 ^ 256 - m) k:=by
 unfold lw bw
 simp only [Nat.reducePow] at hn hm ⊢
 rcases k4 h with rfl | rfl | rfl | rfl <;> simp only [Nat.mul_zero,Nat.mul_one,Nat.reduceMul,Nat.reducePow] <;> split <;> omega
theorem bw_hi (n m:Nat) {k:Nat} (h:k<4):(if lw n k<lw m k+bw n m k then 1 else 0)=bw n m (k+1):=by
 unfold lw bw
 rcases k4 h with rfl | rfl | rfl | rfl <;> simp only [Nat.mul_zero,Nat.mul_one,Nat.reduceMul,Nat.reduceAdd,Nat.reducePow] <;> split <;> split <;> split <;> omega
theorem add64_run (x y c:Nat) (hc:c≤1) (w:World):(callFunc 299 #[.int .u64 x,.int .u64 y,.int .u64 c]).run Tryz.prog w =
 .ok (.value (.tuple #[.int .u64 (((x+y+c) % 18446744073709551616:Nat):Int),.int .u64 (((x+y+c) / 18446744073709551616:Nat):Int)])) w:=by
 rw [run_callFunc_extern Tryz.func299 (by kernel_rfl) (by kernel_rfl) (by kernel_rfl) (e:=add64Entry) (by kernel_rfl),run_add64 x y c (by omega) (by omega) (by omega) (by omega)]
 simp only [Result.andThen]
 congr 5 <;> omega
theorem sub64_run (x y b:Nat) (hb:b≤1) (w:World):(callFunc 316 #[.int .u64 x,.int .u64 y,.int .u64 b]).run Tryz.prog w =
 .ok (.value (.tuple #[.int .u64 (((x+18446744073709551616 - y - b) % 18446744073709551616:Nat):Int),.int .u64 ((if x<y+b then 1 else 0:Nat):Int)])) w:=by
 rw [run_callFunc_extern Tryz.func316 (by kernel_rfl) (by kernel_rfl) (by kernel_rfl) (e:=sub64Entry) (by kernel_rfl),run_sub64 x y b hb]
 rfl
theorem add64_step (n m:Nat) {k:Nat} (h:k<4) (w:World):(callFunc 299 #[.int .u64 (lw n k:Nat),.int .u64 (lw m k:Nat),.int .u64 (cy n m k:Nat)]).run Tryz.prog w= .ok (.value (.tuple #[.int .u64 (lw (n+m) k:Nat),.int .u64 (cy n m (k+1):Nat)])) w:=by
 rw [add64_run _ _ _ (cy_le n m k),cy_lo n m h,cy_hi n m h]
theorem sub64_step (n m:Nat) (hn:n<2 ^ 256) (hm:m<2 ^ 256) {k:Nat} (h:k<4) (w:World):(callFunc 316 #[.int .u64 (lw n k:Nat),.int .u64 (lw m k:Nat),.int .u64 (bw n m k:Nat)]).run Tryz.prog w= .ok (.value (.tuple #[.int .u64 (lw (n+2 ^ 256 - m) k:Nat),.int .u64 (bw n m (k+1):Nat)])) w:=by
 rw [sub64_run _ _ _ (bw_le n m k),bw_lo n m hn hm h,bw_hi n m h]
theorem lw_mod (n k:Nat) (h:k<4):lw (n % 2 ^ 256) k=lw n k:=by
 unfold lw
 simp only [Nat.reducePow]
 rcases k4 h with rfl | rfl | rfl | rfl <;> simp only [Nat.mul_zero,Nat.mul_one,Nat.reduceMul,Nat.reducePow] <;> omega
theorem rowL_mod (n:Nat):rowL (n % 2 ^ 256)=rowL n:=row_congr fun i hi=>by unfold lv;rw [lw_mod n i hi]
theorem cell_L {w:World} {b n k:Nat} {t:TypeId} (h:w.heap[b]?=some (.cells (rowL n) t (0,0))) (hk:k<4):w.cell? ⟨b,k,none⟩=some (.int .u64 (lw n k:Nat)):=cell_row h hk
set_option maxRecDepth 100000 in
set_option maxHeartbeats 1000000 in
theorem add_any (n m:Nat)  (w:World) :
 Calls Tryz.prog 301 #[.agg (rowL n),.agg (rowL m)] w fun e w'=>e= .returned (.tuple #[.agg (rowL (n+m)),.int .u64 (cy n m 4:Nat)])∧Below w.heap.size w w':=by
 have hL:=Loc.nil w
 go_enter Tryz.func301,Tryz.ntmps301
 go_wp2_with (first
  | ((with_reducible show wpList _ _ _ (⟨some 2,.box _ _,_,_,_,_⟩ :: _) _ _);refine wpList_box_loc hL rfl rfl rfl (fun b2 w1 hL1=>?_);clear hL;have hL:=hL1;clear hL1)
  | ((with_reducible show wpList _ _ _ (⟨some 3,.box _ _,_,_,_,_⟩ :: _) _ _);refine wpList_box_loc hL rfl rfl rfl (fun b3 w1 hL1=>?_);clear hL;have hL:=hL1;clear hL1)
  | ((with_reducible show wpList _ _ _ (⟨some 4,.alloc _,_,_,_,_⟩ :: _) _ _);refine wpList_alloc_loc hL rfl rfl (fun b4 w1 hL1=>?_);clear hL;have hL:=hL1;clear hL1)
  | ((with_reducible show wpList _ _ _ (⟨some 6,.alloc _,_,_,_,_⟩ :: _) _ _);refine wpList_alloc_loc hL rfl rfl (fun b6 w1 hL1=>?_);clear hL;have hL:=hL1;clear hL1))
 go_loopw [7,9] (fun c i wr=>∃ k:Nat,k≤4∧i= .int .i64 k∧c= .int .u64 (cy n m k:Nat)∧Loc w wr [(b6,rowLk (n+m) k,311),(b4,rowL 0,311),(b3,rowL m,311),(b2,rowL n,311)]) (fun _ i _=>4 - (intOf i).toNat)
 case atStart=>exact ⟨0,by omega,rfl,by rw [cy_zero];rfl,by rw [rowLk_zero];exact hL⟩
 case round =>
  clear hL
  obtain ⟨k,hk,rfl,rfl,hL⟩:=hrel
  by_cases hlt:k<4
  ·have hk0:(0:Int)≤(k:Int):=by omega
   have hk1:(k:Int)<4:=by omega
   have hc1:=cell_L (hL.get (.tail _ (.tail _ (.tail _ (.head _))))) hlt
   have hc2:=cell_L (hL.get (.tail _ (.tail _ (.head _)))) hlt
   have hc6:wr.cell? ⟨b6,k,none⟩=some (.int .u64 0):=(cell_row (hL.get (.head _)) hlt).trans (by rw [if_neg (by omega)])
   have hf:wr.frozen? ⟨b6,k,none⟩=false:=frozen_of_row wr _ _ _ _ (hL.get (.head _))
   have hadd:=add64_step n m  hlt
   have hS:=hL.drew.setCell (.int .u64 (lw (n+m) k:Nat)) (.head _) hlt (by rw [rowLk_step];exact .head _ _ _ _ _)
   clear hL
   go_wp2_with fail
   refine wp_region_plan (S:=(fun w'=>w'.cell? ⟨b2,k,none⟩=some (.int .u64 (lw n k:Nat))∧w'.cell? ⟨b3,k,none⟩=some (.int .u64 (lw m k:Nat)))) [0,1,2,3,4,5,6,7,8,9,10,11,12,13,14] [true,true,true,true,true,true,true,true,true,true,true,true,true,false,true] (by kernel_rfl) (by kernel_rfl) (⟨hc1,hc2⟩) (fun _=>?_)
   simp only [List.filterMap_cons,List.filterMap_nil,List.getElem?_toArray,List.getElem?_cons_zero,List.getElem?_cons_succ]
   refine seqH_take (v:=?_) (Or.inl ⟨by rfl,?_⟩) ?_
   rotate_left
   ·(intro w hSw;go_simp;first | done | with_reducible rfl)
   refine p4 ?_
   refine seqH_take (v:=?_) (Or.inl ⟨by rfl,?_⟩) ?_
   rotate_left
   ·(intro w hSw;go_simp;first | done | with_reducible rfl)
   refine p4 ?_
   refine seqH_take (v:=?_) (Or.inl ⟨by rfl,?_⟩) ?_
   rotate_left
   ·(intro w hSw;go_simp;first | done | with_reducible rfl)
   refine p4 ?_
   refine seqH_take (v:=?_) (Or.inl ⟨by rfl,?_⟩) ?_
   rotate_left
   ·(intro w hSw;obtain ⟨hSw1,hSw2⟩:=hSw;go_simp;first | done | with_reducible rfl)
   refine p4 ?_
   refine seqH_take (v:=?_) (Or.inl ⟨by rfl,?_⟩) ?_
   rotate_left
   ·(intro w hSw;go_simp;first | done | with_reducible rfl)
   refine p4 ?_
   refine seqH_take (v:=?_) (Or.inl ⟨by rfl,?_⟩) ?_
   rotate_left
   ·(intro w hSw;go_simp;first | done | with_reducible rfl)
   refine p4 ?_
   refine seqH_take (v:=?_) (Or.inl ⟨by rfl,?_⟩) ?_
   rotate_left
   ·(intro w hSw;obtain ⟨hSw1,hSw2⟩:=hSw;go_simp;first | done | with_reducible rfl)
   refine p4 ?_
   refine seqH_take (v:=?_) (Or.inl ⟨by rfl,?_⟩) ?_
   rotate_left
   ·(intro w hSw;go_simp;first | done | with_reducible rfl)
   refine p4 ?_
   refine seqH_take (v:=?_) (Or.inl ⟨by rfl,?_⟩) ?_
   rotate_left
   ·(intro w hSw;go_simp;first | done | with_reducible rfl)
   refine p4 ?_
   refine seqH_take (v:=?_) (Or.inl ⟨by rfl,?_⟩) ?_
   rotate_left
   ·(intro w hSw;go_simp;first | done | with_reducible rfl)
   refine p4 ?_
   refine seqH_take (v:=?_) (Or.inl ⟨by rfl,?_⟩) ?_
   rotate_left
   ·(intro w hSw;go_simp;first | done | with_reducible rfl)
   refine p4 ?_
   refine seqH_take (v:=?_) (Or.inl ⟨by rfl,?_⟩) ?_
   rotate_left
   ·(intro w hSw;go_simp;first | done | with_reducible rfl)
   refine p4 ?_
   refine seqH_take (v:=?_) (Or.inl ⟨by rfl,?_⟩) ?_
   rotate_left
   ·(intro w hSw;go_simp;first | done | with_reducible rfl)
   refine p4 ?_
   refine seqH_go (fun K hK=>?_)
   rw [if_pos (by rfl)]
   go_simp
   refine hK.out _ _ (⟨cell_L (hS.get (.tail _ (.tail _ (.tail _ (.head _))))) hlt,cell_L (hS.get (.tail _ (.tail _ (.head _)))) hlt⟩) (fun _=>?_)
   clear hK K
   refine p4 ?_
   refine seqH_take (v:=?_) (Or.inl ⟨by rfl,?_⟩) ?_
   rotate_left
   ·(intro w hSw;go_simp;first | done | with_reducible rfl)
   refine p4 ?_
   refine seqH_nil (NoPanic.normal ?_)
   go_wp2_with fail
   go_roundw
   case rel=>exact ⟨k+1,by omega,by go_num,rfl,hS⟩
   case measure=>simp [intOf];omega
  ·obtain rfl:k=4:=by omega
   rw [rowLk_full] at hL
   go_wp2_with (first
    | ((with_reducible show wpList _ _ _ (⟨some _,.load _ _,_,_,_,_⟩ :: _) _ _);refine wpList_load_loc hL rfl rfl rfl ?_)
    | ((with_reducible show wpList _ _ _ (⟨none,.store _ _ _,_,_,_,_⟩ :: _) _ _);refine wpList_store_loc hL rfl rfl rfl rfl rfl (fun w1 hL1=>?_);clear hL;have hL:=hL1;clear hL1))
   refine bodyPost_ret (results_loc2 rfl hL rfl rfl) rfl ?_
   exact ⟨rfl,hL.bel⟩
set_option maxRecDepth 100000 in
set_option maxHeartbeats 1000000 in
theorem sub_any (n m:Nat) (hn:n<2 ^ 256) (hm:m<2 ^ 256) (w:World) :
 Calls Tryz.prog 296 #[.agg (rowL n),.agg (rowL m)] w fun e w'=>e= .returned (.tuple #[.agg (rowL (n+2 ^ 256 - m)),.int .u64 (bw n m 4:Nat)])∧Below w.heap.size w w':=by
 have hL:=Loc.nil w
 go_enter Tryz.func296,Tryz.ntmps296
 go_wp2_with (first
  | ((with_reducible show wpList _ _ _ (⟨some 2,.box _ _,_,_,_,_⟩ :: _) _ _);refine wpList_box_loc hL rfl rfl rfl (fun b2 w1 hL1=>?_);clear hL;have hL:=hL1;clear hL1)
  | ((with_reducible show wpList _ _ _ (⟨some 3,.box _ _,_,_,_,_⟩ :: _) _ _);refine wpList_box_loc hL rfl rfl rfl (fun b3 w1 hL1=>?_);clear hL;have hL:=hL1;clear hL1)
  | ((with_reducible show wpList _ _ _ (⟨some 4,.alloc _,_,_,_,_⟩ :: _) _ _);refine wpList_alloc_loc hL rfl rfl (fun b4 w1 hL1=>?_);clear hL;have hL:=hL1;clear hL1)
  | ((with_reducible show wpList _ _ _ (⟨some 6,.alloc _,_,_,_,_⟩ :: _) _ _);refine wpList_alloc_loc hL rfl rfl (fun b6 w1 hL1=>?_);clear hL;have hL:=hL1;clear hL1))
 go_loopw [7,9] (fun c i wr=>∃ k:Nat,k≤4∧i= .int .i64 k∧c= .int .u64 (bw n m k:Nat)∧Loc w wr [(b6,rowLk (n+2 ^ 256 - m) k,311),(b4,rowL 0,311),(b3,rowL m,311),(b2,rowL n,311)]) (fun _ i _=>4 - (intOf i).toNat)
 case atStart=>exact ⟨0,by omega,rfl,by rw [bw_zero];rfl,by rw [rowLk_zero];exact hL⟩
 case round =>
  clear hL
  obtain ⟨k,hk,rfl,rfl,hL⟩:=hrel
  by_cases hlt:k<4
  ·have hk0:(0:Int)≤(k:Int):=by omega
   have hk1:(k:Int)<4:=by omega
   have hc1:=cell_L (hL.get (.tail _ (.tail _ (.tail _ (.head _))))) hlt
   have hc2:=cell_L (hL.get (.tail _ (.tail _ (.head _)))) hlt
   have hc6:wr.cell? ⟨b6,k,none⟩=some (.int .u64 0):=(cell_row (hL.get (.head _)) hlt).trans (by rw [if_neg (by omega)])
   have hf:wr.frozen? ⟨b6,k,none⟩=false:=frozen_of_row wr _ _ _ _ (hL.get (.head _))
   have hadd:=sub64_step n m hn hm hlt
   have hS:=hL.drew.setCell (.int .u64 (lw (n+2 ^ 256 - m) k:Nat)) (.head _) hlt (by rw [rowLk_step];exact .head _ _ _ _ _)
   clear hL
   go_wp2_with fail
   refine wp_region_plan (S:=(fun w'=>w'.cell? ⟨b2,k,none⟩=some (.int .u64 (lw n k:Nat))∧w'.cell? ⟨b3,k,none⟩=some (.int .u64 (lw m k:Nat)))) [0,1,2,3,4,5,6,7,8,9,10,11,12,13,14] [true,true,true,true,true,true,true,true,true,true,true,true,true,false,true] (by kernel_rfl) (by kernel_rfl) (⟨hc1,hc2⟩) (fun _=>?_)
   simp only [List.filterMap_cons,List.filterMap_nil,List.getElem?_toArray,List.getElem?_cons_zero,List.getElem?_cons_succ]
   refine seqH_take (v:=?_) (Or.inl ⟨by rfl,?_⟩) ?_
   rotate_left
   ·(intro w hSw;go_simp;first | done | with_reducible rfl)
   refine p4 ?_
   refine seqH_take (v:=?_) (Or.inl ⟨by rfl,?_⟩) ?_
   rotate_left
   ·(intro w hSw;go_simp;first | done | with_reducible rfl)
   refine p4 ?_
   refine seqH_take (v:=?_) (Or.inl ⟨by rfl,?_⟩) ?_
   rotate_left
   ·(intro w hSw;go_simp;first | done | with_reducible rfl)
   refine p4 ?_
   refine seqH_take (v:=?_) (Or.inl ⟨by rfl,?_⟩) ?_
   rotate_left
   ·(intro w hSw;obtain ⟨hSw1,hSw2⟩:=hSw;go_simp;first | done | with_reducible rfl)
   refine p4 ?_
   refine seqH_take (v:=?_) (Or.inl ⟨by rfl,?_⟩) ?_
   rotate_left
   ·(intro w hSw;go_simp;first | done | with_reducible rfl)
   refine p4 ?_
   refine seqH_take (v:=?_) (Or.inl ⟨by rfl,?_⟩) ?_
   rotate_left
   ·(intro w hSw;go_simp;first | done | with_reducible rfl)
   refine p4 ?_
   refine seqH_take (v:=?_) (Or.inl ⟨by rfl,?_⟩) ?_
   rotate_left
   ·(intro w hSw;obtain ⟨hSw1,hSw2⟩:=hSw;go_simp;first | done | with_reducible rfl)
   refine p4 ?_
   refine seqH_take (v:=?_) (Or.inl ⟨by rfl,?_⟩) ?_
   rotate_left
   ·(intro w hSw;go_simp;first | done | with_reducible rfl)
   refine p4 ?_
   refine seqH_take (v:=?_) (Or.inl ⟨by rfl,?_⟩) ?_
   rotate_left
   ·(intro w hSw;go_simp;first | done | with_reducible rfl)
   refine p4 ?_
   refine seqH_take (v:=?_) (Or.inl ⟨by rfl,?_⟩) ?_
   rotate_left
   ·(intro w hSw;go_simp;first | done | with_reducible rfl)
   refine p4 ?_
   refine seqH_take (v:=?_) (Or.inl ⟨by rfl,?_⟩) ?_
   rotate_left
   ·(intro w hSw;go_simp;first | done | with_reducible rfl)
   refine p4 ?_
   refine seqH_take (v:=?_) (Or.inl ⟨by rfl,?_⟩) ?_
   rotate_left
   ·(intro w hSw;go_simp;first | done | with_reducible rfl)
   refine p4 ?_
   refine seqH_take (v:=?_) (Or.inl ⟨by rfl,?_⟩) ?_
   rotate_left
   ·(intro w hSw;go_simp;first | done | with_reducible rfl)
   refine p4 ?_
   refine seqH_go (fun K hK=>?_)
   rw [if_pos (by rfl)]
   go_simp
   refine hK.out _ _ (⟨cell_L (hS.get (.tail _ (.tail _ (.tail _ (.head _))))) hlt,cell_L (hS.get (.tail _ (.tail _ (.head _)))) hlt⟩) (fun _=>?_)
   clear hK K
   refine p4 ?_
   refine seqH_take (v:=?_) (Or.inl ⟨by rfl,?_⟩) ?_
   rotate_left
   ·(intro w hSw;go_simp;first | done | with_reducible rfl)
   refine p4 ?_
   refine seqH_nil (NoPanic.normal ?_)
   go_wp2_with fail
   go_roundw
   case rel=>exact ⟨k+1,by omega,by go_num,rfl,hS⟩
   case measure=>simp [intOf];omega
  ·obtain rfl:k=4:=by omega
   rw [rowLk_full] at hL
   go_wp2_with (first
    | ((with_reducible show wpList _ _ _ (⟨some _,.load _ _,_,_,_,_⟩ :: _) _ _);refine wpList_load_loc hL rfl rfl rfl ?_)
    | ((with_reducible show wpList _ _ _ (⟨none,.store _ _ _,_,_,_,_⟩ :: _) _ _);refine wpList_store_loc hL rfl rfl rfl rfl rfl (fun w1 hL1=>?_);clear hL;have hL:=hL1;clear hL1))
   refine bodyPost_ret (results_loc2 rfl hL rfl rfl) rfl ?_
   exact ⟨rfl,hL.bel⟩
end Go.Proofs.YtoifhhljfaoejaaGreatDoor
namespace Go.Proofs.YtoifhhljfaoejaaGreatDoor
def Pr (n:Nat):Prop:=2≤n∧∀ d,d∣n→d=1∨d=n
theorem Pr.coprime {p a:Nat} (hp:Pr p) (h:¬ p∣a):Nat.Coprime p a:=by
 rcases hp.2 _ (Nat.gcd_dvd_left p a) with e | e
 ·exact e
 ·exact absurd (e ▸ Nat.gcd_dvd_right p a) h
theorem Pr.euclid {p a b:Nat} (hp:Pr p) (h:p∣a*b):p∣a∨p∣b:=by
 by_cases ha:p∣a
 ·exact .inl ha
 ·exact .inr ((hp.coprime ha).dvd_of_dvd_mul_left h)
def ch:Nat→Nat→Nat
 | _,0=>1
 | 0,_+1=>0
 | n+1,k+1=>ch n k+ch n (k+1)
theorem ch_zero (n:Nat):ch n 0=1:=by cases n <;> rfl
theorem ch_mul:∀ n k,(k+1)*ch (n+1) (k+1)=(n+1)*ch n k
 | 0,0=>rfl
 | 0,k+1=>by show (k+2)*(ch 0 (k+1)+ch 0 (k+2))=1*0;simp [ch]
 | n+1,0=>by
  have h:=ch_mul n 0
  show 1*(ch (n+1) 0+ch (n+1) 1)=(n+2)*ch (n+1) 0
  rw [ch_zero] at *
  simp at h
  omega
 | n+1,k+1=>by
  have h1:=ch_mul n k
  have h2:=ch_mul n (k+1)
  have e:ch (n+2) (k+2)=ch (n+1) (k+1)+ch (n+1) (k+2):=rfl
  have e':ch (n+1) (k+1)=ch n k+ch n (k+1):=rfl
  rw [e,Nat.mul_add,h2]
  have:(k+1+1)*ch (n+1) (k+1)=(k+1)*ch (n+1) (k+1)+ch (n+1) (k+1):=by rw [Nat.add_mul (k+1) 1,Nat.one_mul]
  rw [this,h1,e',Nat.add_mul (n+1) 1,Nat.one_mul,Nat.mul_add]
  omega
theorem ch_gt:∀ n k,n<k→ch n k=0
 | 0,k+1,_=>rfl
 | n+1,k+1,h=>by
  show ch n k+ch n (k+1)=0
  rw [ch_gt n k (by omega),ch_gt n (k+1) (by omega)]
theorem ch_self:∀ n,ch n n=1
 | 0=>rfl
 | n+1=>by show ch n n+ch n (n+1)=1;rw [ch_self n,ch_gt n (n+1) (by omega)]
def bs (n a:Nat):Nat→Nat
 | 0=>0
 | m+1=>bs n a m+ch n m*a ^ m
theorem bs_step (n a:Nat):∀ m,(a+1)*bs n a (m+1)=bs (n+1) a (m+1)+ch n m*a ^ (m+1)
 | 0=>by simp [bs,ch_zero];omega
 | m+1=>by
  have ih:=bs_step n a m
  have e:bs n a (m+2)=bs n a (m+1)+ch n (m+1)*a ^ (m+1):=rfl
  have e':bs (n+1) a (m+2)=bs (n+1) a (m+1)+(ch n m+ch n (m+1))*a ^ (m+1):=rfl
  rw [e,e',Nat.mul_add,ih]
  generalize bs (n+1) a (m+1)=X
  generalize ch n m=c
  generalize ch n (m+1)=d
  rw [Nat.pow_succ a (m+1)]
  generalize a ^ (m+1)=z
  grind
theorem binom (a:Nat):∀ n,(a+1) ^ n=bs n a (n+1)
 | 0=>by simp [bs,ch]
 | n+1=>by
  rw [Nat.pow_succ,binom a n,Nat.mul_comm,bs_step]
  show _=bs (n+1) a (n+1)+ch (n+1) (n+1)*a ^ (n+1)
  rw [ch_self,ch_self]
theorem Pr.dvd_ch {p k:Nat} (hp:Pr p) (h0:0<k) (h1:k<p):p∣ch p k:=by
 obtain ⟨n,rfl⟩:∃ n,p=n+1:=⟨p - 1,by have:=hp.1;omega⟩
 obtain ⟨j,rfl⟩:∃ j,k=j+1:=⟨k - 1,by omega⟩
 have h:=ch_mul n j
 rcases hp.euclid (a:=j+1) (b:=ch (n+1) (j+1)) (h ▸ Nat.dvd_mul_right _ _) with h' | h'
 ·exact absurd (Nat.le_of_dvd (by omega) h') (by omega)
 ·exact h'
theorem Pr.mod_bs {p:Nat} (hp:Pr p) (a:Nat):∀ m,m<p→bs p a (m+1) % p=1 % p
 | 0,_=>by simp [bs,ch_zero]
 | m+1,h=>by
  show (bs p a (m+1)+ch p (m+1)*a ^ (m+1)) % p=_
  obtain ⟨c,hc⟩:=hp.dvd_ch (k:=m+1) (by omega) h
  rw [hc,Nat.mul_assoc,Nat.add_mul_mod_self_left]
  exact hp.mod_bs a m (by omega)
theorem Pr.pow {p:Nat} (hp:Pr p):∀ a,a ^ p % p=a % p
 | 0=>by rw [Nat.zero_pow (by have:=hp.1;omega)]
 | a+1=>by
  rw [binom]
  show (bs p a p+ch p p*a ^ p) % p=_
  obtain ⟨n,hn⟩:∃ n,p=n+1:=⟨p - 1,by have:=hp.1;omega⟩
  have h:=hp.mod_bs a n (by omega)
  rw [← hn] at h
  rw [ch_self,Nat.one_mul,Nat.add_mod,h,hp.pow a,← Nat.add_mod,Nat.add_comm]
theorem Pr.fermat {p a:Nat} (hp:Pr p) (h:¬ p∣a):a ^ (p - 1) % p=1:=by
 have h2:=hp.1
 have ha:0<a:=by
  rcases Nat.eq_zero_or_pos a with e | e
  ·exact absurd (e ▸ Nat.dvd_zero p) h
  ·exact e
 have hpos:0<a ^ (p - 1):=Nat.pow_pos ha
 have e:a ^ p=a*a ^ (p - 1):=by rw [← Nat.pow_succ'];congr 1;omega
 have hd:p∣a ^ p - a:=by
  refine (Nat.dvd_iff_mod_eq_zero).2 ?_
  exact Nat.sub_mod_eq_zero_of_mod_eq (hp.pow a)
 have:a ^ p - a=a*(a ^ (p - 1) - 1):=by rw [e,Nat.mul_sub,Nat.mul_one]
 rw [this] at hd
 rcases hp.euclid hd with h' | h'
 ·exact absurd h' h
 ·obtain ⟨c,hc⟩:=h'
  have:a ^ (p - 1)=1+p*c:=by omega
  rw [this,Nat.add_mul_mod_self_left,Nat.mod_eq_of_lt (by omega)]
theorem pow_gcd {b s:Nat} (m n:Nat) (hm:b ^ m % s=1 % s) (hn:b ^ n % s=1 % s):b ^ Nat.gcd m n % s=1 % s:=by
 induction m,n using Nat.gcd.induction with
 | H0 n=>simpa using hn
 | H1 m n _ ih =>
  rw [Nat.gcd_rec]
  refine ih ?_ hm
  have e:b ^ n=b ^ (n % m)*(b ^ m) ^ (n / m):=by rw [← Nat.pow_mul,← Nat.pow_add,Nat.mod_add_div]
  rw [e,Nat.mul_mod,Nat.pow_mod (b ^ m),hm,← Nat.pow_mod,Nat.one_pow,← Nat.mul_mod,Nat.mul_one] at hn
  exact hn
theorem Pr.order {s q b:Nat} (hs:Pr s) (hq:Pr q) (h1:b ^ q % s=1) (h2:b % s≠1):q∣s - 1:=by
 have h2s:=hs.1
 have e1:1 % s=1:=Nat.mod_eq_of_lt (by omega)
 by_cases h:q∣s - 1
 ·exact h
 ·have hb:¬ s∣b:=by
   intro hd
   have:=Nat.dvd_trans hd (Nat.dvd_mul_right b (b ^ (q - 1)))
   rw [← Nat.pow_succ',show (q - 1).succ=q from by have:=hq.1;omega] at this
   rw [Nat.mod_eq_zero_of_dvd this] at h1
   omega
  have hf:=hs.fermat hb
  have:=pow_gcd (b:=b) (s:=s) q (s - 1) (by rw [h1,e1]) (by rw [hf,e1])
  rw [show Nat.gcd q (s - 1)=1 from hq.coprime h,Nat.pow_one,e1] at this
  exact absurd this h2
theorem prime_divisor:∀ n,2≤n→∃ s,Pr s∧s∣n:=by
 intro n
 induction n using Nat.strongRecOn with
 | _ n ih =>
  intro h
  by_cases hp:Pr n
  ·exact ⟨n,hp,Nat.dvd_refl n⟩
  ·have:∃ d,d∣n∧d≠1∧d≠n:=by
    refine Classical.byContradiction fun hc=>hp ⟨h,fun d hd=>?_⟩
    by_cases e1:d=1
    ·exact .inl e1
    ·by_cases e2:d=n
     ·exact .inr e2
     ·exact absurd ⟨d,hd,e1,e2⟩ hc
   obtain ⟨d,hd,h1,h2⟩:=this
   have hle:=Nat.le_of_dvd (by omega) hd
   have h0:d≠0:=by rintro rfl;have:=Nat.eq_zero_of_zero_dvd hd;omega
   obtain ⟨s,hs,hsd⟩:=ih d (by omega) (by omega)
   exact ⟨s,hs,Nat.dvd_trans hsd hd⟩
theorem prime_of_divisors {N F:Nat} (hN:2≤N) (hF:N<F*F) (h:∀ s,Pr s→s∣N→F∣s - 1):Pr N:=by
 refine ⟨hN,fun d hd=>?_⟩
 refine Classical.byContradiction fun hc=>?_
 obtain ⟨e,rfl⟩:=hd
 have hd1:d≠1:=fun x=>hc (.inl x)
 have he1:e≠1:=fun x=>hc (.inr (by rw [x,Nat.mul_one]))
 have hd0:d≠0:=by rintro rfl;simp at hN
 have he0:e≠0:=by rintro rfl;simp at hN
 have big:∀ x,2≤x→x∣d*e→F≤x:=by
  intro x hx hxd
  obtain ⟨s,hs,hsx⟩:=prime_divisor x hx
  have h1:=Nat.le_of_dvd (by have:=hs.1;omega) (h s hs (Nat.dvd_trans hsx hxd))
  have h2:=Nat.le_of_dvd (by omega) hsx
  omega
 have:=Nat.mul_le_mul (big d (by omega) (Nat.dvd_mul_right d e)) (big e (by omega) (Nat.dvd_mul_left e d))
 omega
def powF (m:Nat):Nat→Nat→Nat→Nat
 | 0,_,_=>1 % m
 | f+1,a,e=>match Nat.beq (e % 2) 1 with
  | true=>a*powF m f (a*a % m) (e / 2) % m
  | false=>powF m f (a*a % m) (e / 2)
theorem powF_eq (m:Nat):∀ f a e,e<2 ^ f→powF m f a e=a ^ e % m
 | 0,a,e,h=>by
  obtain rfl:e=0:=by simpa using h
  rfl
 | f+1,a,e,h=>by
  have ih:=powF_eq m f (a*a % m) (e / 2) (by rw [Nat.pow_succ] at h;omega)
  have e2:(a*a % m) ^ (e / 2) % m=a ^ (2*(e / 2)) % m:=by rw [← Nat.pow_mod,Nat.pow_mul,Nat.pow_two]
  rw [e2] at ih
  unfold powF
  by_cases ho:e % 2=1
  ·rw [ho]
   show a*powF m f (a*a % m) (e / 2) % m=_
   rw [ih,Nat.mul_mod,Nat.mod_mod,← Nat.mul_mod,← Nat.pow_succ',show (2*(e / 2)).succ=e from by omega]
  ·rw [show e % 2=0 from by omega]
   show powF m f (a*a % m) (e / 2)=_
   rw [ih,show 2*(e / 2)=e from by omega]
def pockB (N q f:Nat):Bool :=
 Nat.ble 2 N && Nat.beq ((N - 1) % q) 0 && Nat.blt N (2 ^ f) && Nat.beq (powF N f 2 (N - 1)) 1 && Nat.beq (Nat.gcd (powF N f 2 ((N - 1) / q)+N - 1) N) 1
theorem pock {N q f s:Nat} (hq:Pr q) (hB:pockB N q f=true) (hs:Pr s) (hd:s∣N):q∣s - 1:=by
 unfold pockB at hB
 simp only [Bool.and_eq_true,Nat.beq_eq,Nat.ble_eq,Nat.blt_eq] at hB
 obtain ⟨⟨⟨⟨h2,h3⟩,h4⟩,h5⟩,h6⟩:=hB
 have hs2:=hs.1
 rw [powF_eq _ _ _ _ (by omega)] at h5
 rw [powF_eq _ _ _ _ (by have:=Nat.div_le_self (N - 1) q;omega)] at h6
 have hqd:q*((N - 1) / q)=N - 1:=Nat.mul_div_cancel' (Nat.dvd_of_mod_eq_zero h3)
 refine hs.order (b:=2 ^ ((N - 1) / q)) hq ?_ ?_
 ·rw [← Nat.pow_mul,Nat.mul_comm,hqd,← Nat.mod_mod_of_dvd _ hd,h5]
  exact Nat.mod_eq_of_lt (by omega)
 ·intro h
  rw [← Nat.mod_mod_of_dvd _ hd] at h
  have hs1:s∣2 ^ ((N - 1) / q) % N+N - 1:=by
   have hdv:s∣2 ^ ((N - 1) / q) % N - 1:=Nat.dvd_of_mod_eq_zero (Nat.sub_mod_eq_zero_of_mod_eq (by rw [h,Nat.mod_eq_of_lt (by omega)]))
   have hpos:0<2 ^ ((N - 1) / q) % N:=by
    rcases Nat.eq_zero_or_pos (2 ^ ((N - 1) / q) % N) with e | e
    ·rw [e,Nat.zero_mod] at h;omega
    ·exact e
   rw [show 2 ^ ((N - 1) / q) % N+N - 1=(2 ^ ((N - 1) / q) % N - 1)+N from by omega]
   exact Nat.dvd_add hdv hd
  have:=Nat.dvd_gcd hs1 hd
  rw [h6] at this
  have:=Nat.le_of_dvd (by omega) this
  omega
theorem pock1 {N q f:Nat} (hq:Pr q) (hB:pockB N q f=true) (hF:Nat.blt N (q*q)=true):Pr N:=by
 have h2:2≤N:=by unfold pockB at hB;simp only [Bool.and_eq_true,Nat.ble_eq] at hB;exact hB.1.1.1.1
 exact prime_of_divisors h2 (by simpa using hF) fun s hs hd=>pock hq hB hs hd
theorem pock2 {N q r f:Nat} (hq:Pr q) (hr:Pr r) (hne:Nat.beq q r=false) (hB:pockB N q f=true) (hC:pockB N r f=true) (hF:Nat.blt N (q*r*(q*r))=true):Pr N:=by
 have h2:2≤N:=by unfold pockB at hB;simp only [Bool.and_eq_true,Nat.ble_eq] at hB;exact hB.1.1.1.1
 refine prime_of_divisors h2 (by simpa using hF) fun s hs hd=>?_
 have hc:Nat.Coprime q r:=hq.coprime fun hx=>by
  rcases hr.2 q hx with e | e
  ·have:=hq.1;omega
  ·rw [e] at hne;simp at hne
 exact hc.mul_dvd_of_dvd_of_dvd (pock hq hB hs hd) (pock hr hC hs hd)
def triB (n:Nat):Nat→Nat→Bool
 | 0,d=>Nat.blt n (d*d)
 | f+1,d=>Nat.blt n (d*d) || (!(Nat.beq (n % d) 0) && triB n f (d+1))
theorem tri_no {n:Nat}:∀ f d,triB n f d=true→∀ x,d≤x→x*x≤n→¬ x∣n
 | 0,d,h,x,hx,hxx=>by
  have:n<d*d:=by simpa [triB] using h
  have:=Nat.mul_le_mul hx hx
  omega
 | f+1,d,h,x,hx,hxx=>by
  unfold triB at h
  simp only [Bool.or_eq_true,Bool.and_eq_true,Nat.blt_eq,Bool.not_eq_true'] at h
  rcases h with h | ⟨h1,h2⟩
  ·have:=Nat.mul_le_mul hx hx
   omega
  ·by_cases e:x=d
   ·subst e
    intro hd
    rw [Nat.mod_eq_zero_of_dvd hd] at h1
    cases h1
   ·exact tri_no f (d+1) h2 x (by omega) hxx
theorem tri {n:Nat} (f:Nat) (h2:Nat.ble 2 n=true) (h:triB n f 2=true):Pr n:=by
 have h2:2≤n:=by simpa using h2
 refine ⟨h2,fun d hd=>?_⟩
 refine Classical.byContradiction fun hc=>?_
 obtain ⟨e,rfl⟩:=hd
 have hd1:d≠1:=fun x=>hc (.inl x)
 have he1:e≠1:=fun x=>hc (.inr (by rw [x,Nat.mul_one]))
 have hd0:d≠0:=by rintro rfl;simp at h2
 have he0:e≠0:=by rintro rfl;simp at h2
 rcases Nat.le_total d e with hle | hle
 ·exact tri_no f 2 h d (by omega) (Nat.mul_le_mul_left d hle) (Nat.dvd_mul_right d e)
 ·exact tri_no f 2 h e (by omega) (Nat.mul_le_mul_right e hle) (Nat.dvd_mul_left e d)
theorem pr_103:Pr 103:=tri 12 (by decide +kernel) (by decide +kernel)
theorem pr_127:Pr 127:=tri 13 (by decide +kernel) (by decide +kernel)
theorem pr_991:Pr 991:=tri 33 (by decide +kernel) (by decide +kernel)
theorem pr_4153:Pr 4153:=tri 66 (by decide +kernel) (by decide +kernel)
theorem pr_430751:Pr 430751:=tri 658 (by decide +kernel) (by decide +kernel)
theorem pr_569003:Pr 569003:=tri 756 (by decide +kernel) (by decide +kernel)
theorem pr_8574133:Pr 8574133:=pock2 (f:=24) pr_991 pr_103 (by decide +kernel) (by decide +kernel) (by decide +kernel) (by decide +kernel)
theorem pr_2773320623:Pr 2773320623:=pock1 (f:=32) pr_569003 (by decide +kernel) (by decide +kernel)
theorem pr_72106336199:Pr 72106336199:=pock1 (f:=37) pr_2773320623 (by decide +kernel) (by decide +kernel)
theorem pr_1919519569386763:Pr 1919519569386763:=pock2 (f:=51) pr_8574133 pr_127 (by decide +kernel) (by decide +kernel) (by decide +kernel) (by decide +kernel)
theorem pr_31757755568855353:Pr 31757755568855353:=pock2 (f:=55) pr_430751 pr_4153 (by decide +kernel) (by decide +kernel) (by decide +kernel) (by decide +kernel)
theorem pr_75445702479781427272750846543864801:Pr 75445702479781427272750846543864801:=pock2 (f:=116) pr_1919519569386763 pr_72106336199 (by decide +kernel) (by decide +kernel) (by decide +kernel) (by decide +kernel)
theorem pr_R:Pr 74058212732561358302231226437062788676166966415465897661863160754340907:=pock2 (f:=236) pr_75445702479781427272750846543864801 pr_31757755568855353 (by decide +kernel) (by decide +kernel) (by decide +kernel) (by decide +kernel)
theorem pr_P:Pr 57896044618658097711785492504343953926634992332820282019728792003956564819949:=pock1 (f:=255) pr_R (by decide +kernel) (by decide +kernel)
end Go.Proofs.YtoifhhljfaoejaaGreatDoor
