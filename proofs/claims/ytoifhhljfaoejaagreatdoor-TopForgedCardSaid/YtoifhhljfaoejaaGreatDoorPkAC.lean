/-
  Lemmas of the law, part 3: the walks of the functions that it calls and the plain facts about them. No condition beyond those written.
-/
import Derived.Shelf.Bits.Mul64
import Derived.Shelf.Spec.BitsCarry
import Derived.StillTailTactics
import Derived.LoopTactic
import Derived.IntWalk
import Derived.Test.YtoifhhljfaoejaaGreatDoorPkAA
import Derived.Test.YtoifhhljfaoejaaGreatDoorPkAB
set_option maxRecDepth 100000
set_option maxHeartbeats 8000000
set_option linter.unusedVariables false
set_option linter.unusedSimpArgs false
set_option linter.unusedSectionVars false
namespace Go.Proofs.YtoifhhljfaoejaaGreatDoor
open Go.Proofs.Tryz
section
open Go.RowKit
def lw(n i:Nat):Nat:=n/2^(64*i)%18446744073709551616
def lv(n i:Nat):Value:= .int .u64 (lw n i:Nat)
def am(n:Nat):Array Value:=row 4 (lv n)
def m8(n k:Nat):Array Value:=row 4 fun i=>if i<k then lv n i else .int .u64 0
theorem kz(n:Nat):m8 n 0=am 0:=ak fun i _=>by rw[if_neg (by omega)];unfold lv lw;simp
theorem kA(n:Nat):m8 n 4=am n:=ak fun i hi=>by rw[if_pos hi]
theorem kB(n k:Nat):row 4 (upd (fun i=>if i<k then lv n i else .int .u64 0) k (.int .u64 (lw n k:Nat)))=m8 n (k+1):=ak fun i _=>by
 unfold upd;by_cases e:i=k
 ·subst e;rw[if_pos rfl,if_pos (by omega)];rfl
 ·rw[if_neg e]
  show(if i<k then lv n i else Value.int .u64 0)=_;by_cases h:i<k
  ·rw[if_pos h,if_pos (by omega)]
  ·rw[if_neg h,if_neg (by omega)]
theorem dn(n i:Nat):lw n i<18446744073709551616:=Nat.mod_lt _ (by omega)
instance KZ:RowTy 311 4:=⟨⟨_,underlying311,rfl⟩,by kernel_rfl⟩
instance K0:RowZ 311 (am 0):=⟨by kernel_rfl⟩
instance K3(n:Nat):Row1 (am n) 4:=⟨aQ _ _,by simp[am,row,lv,Value.oneCell']⟩
instance K4:RowTy 24 32:=⟨⟨_,underlying24,rfl⟩,by kernel_rfl⟩
instance K5:RowZ 24 (aa 32 fun _=>0):=⟨by kernel_rfl⟩
instance K6(n:Nat)(f:Nat→BitVec 8):Row1 (aa n f) n:=⟨aj _ _,bU _ _⟩
def cy(n m k:Nat):Nat:=(n%2^(64*k)+m%2^(64*k))/2^(64*k)
def bw(n m k:Nat):Nat:=if n%2^(64*k)<m%2^(64*k)then 1 else 0
theorem k4{k:Nat}(h:k<4):k=0∨k=1∨k=2∨k=3:=by omega
theorem IG(n m k:Nat):cy n m k≤1:=by
 unfold cy;have h:=Nat.two_pow_pos (64*k);have h1:=Nat.mod_lt n h;have h2:=Nat.mod_lt m h;generalize 2^(64*k)=N at *
 exact Nat.lt_succ_iff.1 ((Nat.div_lt_iff_lt_mul h).2 (by omega))
theorem IH(n m k:Nat):bw n m k≤1:=by unfold bw;split <;> omega
theorem EH(n m:Nat):cy n m 0=0:=by simp[cy,Nat.mod_one]
theorem EI(n m:Nat):bw n m 0=0:=by simp[bw,Nat.mod_one]
theorem II(n m:Nat){k:Nat}(h:k<4):(lw n k+lw m k+cy n m k)%18446744073709551616=lw (n+m) k:=by
 unfold lw cy;rcases k4 h with rfl|rfl|rfl|rfl <;> simp only[Nat.mul_zero,Nat.mul_one,Nat.reduceMul,Nat.reducePow] <;> omega
theorem IJ(n m:Nat){k:Nat}(h:k<4):(lw n k+lw m k+cy n m k)/18446744073709551616=cy n m (k+1):=by
 unfold lw cy;rcases k4 h with rfl|rfl|rfl|rfl <;> simp only[Nat.mul_zero,Nat.mul_one,Nat.reduceMul,Nat.reduceAdd,Nat.reducePow] <;> omega
theorem IK(n m:Nat){k:Nat}(hn:n<2^256)(hm:m<2^256)(h:k<4):(lw n k+18446744073709551616-lw m k-bw n m k)%18446744073709551616=lw (n+2^256-m) k:=by
 unfold lw bw;simp only[Nat.reducePow]at hn hm ⊢;rcases k4 h with rfl|rfl|rfl|rfl <;> simp only[Nat.mul_zero,Nat.mul_one,Nat.reduceMul,Nat.reducePow] <;> split <;> omega
theorem IL(n m:Nat){k:Nat}(h:k<4):(if lw n k<lw m k+bw n m k then 1 else 0)=bw n m (k+1):=by
 unfold lw bw;rcases k4 h with rfl|rfl|rfl|rfl <;> simp only[Nat.mul_zero,Nat.mul_one,Nat.reduceMul,Nat.reduceAdd,Nat.reducePow] <;> split <;> split <;> split <;> omega
theorem fE(x y c:Nat)(hc:c≤1)(w:World):(callFunc 299 #[.int .u64 x,.int .u64 y,.int .u64 c]).run prog w =
 .ok (.value (.tuple #[.int .u64 (((x+y+c)%18446744073709551616:Nat):Int),.int .u64 (((x+y+c)/18446744073709551616:Nat):Int)])) w:=by
 rw[run_callFunc_extern func299 (by kernel_rfl) (by kernel_rfl) (by kernel_rfl) (e:=add64Entry) (by kernel_rfl),run_add64 x y c (by omega) (by omega) (by omega) (by omega)];simp only[Result.andThen];congr 5 <;> omega
theorem zY(x y b:Nat)(hb:b≤1)(w:World):(callFunc 316 #[.int .u64 x,.int .u64 y,.int .u64 b]).run prog w =
 .ok (.value (.tuple #[.int .u64 (((x+18446744073709551616-y-b)%18446744073709551616:Nat):Int),.int .u64 ((if x<y+b then 1 else 0:Nat):Int)])) w:=by
 rw[run_callFunc_extern func316 (by kernel_rfl) (by kernel_rfl) (by kernel_rfl) (e:=sub64Entry) (by kernel_rfl),run_sub64 x y b hb];rfl
theorem wC(n m:Nat){k:Nat}(h:k<4)(w:World):(callFunc 299 #[.int .u64 (lw n k:Nat),.int .u64 (lw m k:Nat),.int .u64 (cy n m k:Nat)]).run prog w= .ok (.value (.tuple #[.int .u64 (lw (n+m) k:Nat),.int .u64 (cy n m (k+1):Nat)])) w:=by
 rw[fE _ _ _ (IG n m k),II n m h,IJ n m h]
theorem wE(n m:Nat)(hn:n<2^256)(hm:m<2^256){k:Nat}(h:k<4)(w:World):(callFunc 316 #[.int .u64 (lw n k:Nat),.int .u64 (lw m k:Nat),.int .u64 (bw n m k:Nat)]).run prog w= .ok (.value (.tuple #[.int .u64 (lw (n+2^256-m) k:Nat),.int .u64 (bw n m (k+1):Nat)])) w:=by
 rw[zY _ _ _ (IH n m k),IK n m hn hm h,IL n m h]
theorem wF(n k:Nat)(h:k<4):lw (n%2^256) k=lw n k:=by
 unfold lw;simp only[Nat.reducePow];rcases k4 h with rfl|rfl|rfl|rfl <;> simp only[Nat.mul_zero,Nat.mul_one,Nat.reduceMul,Nat.reducePow] <;> omega
theorem dQ(n:Nat):am (n%2^256)=am n:=ak fun i hi=>by unfold lv;rw[wF n i hi]
theorem jc{w:World}{b n k:Nat}{t:TypeId}(h:w.heap[b]?=some (.cells (am n) t (0,0)))(hk:k<4):w.cell? ⟨b,k,none⟩=some (.int .u64 (lw n k:Nat)):=aP h hk
theorem iq(n m:Nat)(w:World) :
 Rt 301 #[.agg (am n),.agg (am m)] w (.tuple #[.agg (am (n+m)),.int .u64 (cy n m 4:Nat)]):=by
 have hL:=Loc.nil w;go_enter func301,ntmps301;go_wp2_with (first
  | ((with_reducible show wpList _ _ _ (⟨some 2,.box _ _,_,_,_,_⟩::_) _ _);refine dB hL rfl rfl rfl (fun b2 w1 hL1=>?_);clear hL;have hL:=hL1;clear hL1)
  | ((with_reducible show wpList _ _ _ (⟨some 3,.box _ _,_,_,_,_⟩::_) _ _);refine dB hL rfl rfl rfl (fun b3 w1 hL1=>?_);clear hL;have hL:=hL1;clear hL1)
  | ((with_reducible show wpList _ _ _ (⟨some 4,.alloc _,_,_,_,_⟩::_) _ _);refine dc hL rfl rfl (fun b4 w1 hL1=>?_);clear hL;have hL:=hL1;clear hL1)
  | ((with_reducible show wpList _ _ _ (⟨some 6,.alloc _,_,_,_,_⟩::_) _ _);refine dc hL rfl rfl (fun b6 w1 hL1=>?_);clear hL;have hL:=hL1;clear hL1))
 go_loopw [7,9] (fun c i wr=>∃k:Nat,k≤4∧i= .int .i64 k∧c= .int .u64 (cy n m k:Nat)∧Loc w wr [(b6,m8 (n+m) k,311),(b4,am 0,311),(b3,am m,311),(b2,am n,311)]) (fun _ i _=>4-(intOf i).toNat);case atStart=>exact⟨0,by omega,rfl,by rw[EH];rfl,by rw[kz];exact hL⟩
 case round =>
  clear hL;obtain⟨k,hk,rfl,rfl,hL⟩:=hrel;by_cases hlt:k<4
  ·have hk0:(0:Int)≤(k:Int):=by omega
   have hk1:(k:Int)<4:=by omega
   have hc1:=jc (hL.get (.tail _ (.tail _ (.tail _ (.head _))))) hlt;have hc2:=jc (hL.get (.tail _ (.tail _ (.head _)))) hlt;have hc6:wr.cell? ⟨b6,k,none⟩=some (.int .u64 0):=(aP (hL.get (.head _)) hlt).trans (by rw[if_neg (by omega)]);have hf:wr.frozen? ⟨b6,k,none⟩=false:=frozen_of_row wr _ _ _ _ (hL.get (.head _));have hadd:=wC n m  hlt;have hS:=hL.drew.setCell (.int .u64 (lw (n+m) k:Nat)) (.head _) hlt (by rw[kB];exact .head _ _ _ _ _);clear hL;go_wp2_with fail;refine i6 (S:=(fun w'=>w'.cell? ⟨b2,k,none⟩=some (.int .u64 (lw n k:Nat))∧w'.cell? ⟨b3,k,none⟩=some (.int .u64 (lw m k:Nat)))) [0,1,2,3,4,5,6,7,8,9,10,11,12,13,14] [true,true,true,true,true,true,true,true,true,true,true,true,true,false,true] (by kernel_rfl) (by kernel_rfl) (⟨hc1,hc2⟩) (fun _=>?_);simp only[List.filterMap_cons,List.filterMap_nil,List.getElem?_toArray,List.getElem?_cons_zero,List.getElem?_cons_succ];refine a5 (v:=?_) (Or.inl ⟨by rfl,?_⟩) ?_;rotate_left
   ·(intro w hSw;go_simp;first|done|with_reducible rfl)
   refine p4 ?_;refine a5 (v:=?_) (Or.inl ⟨by rfl,?_⟩) ?_;rotate_left
   ·(intro w hSw;go_simp;first|done|with_reducible rfl)
   refine p4 ?_;refine a5 (v:=?_) (Or.inl ⟨by rfl,?_⟩) ?_;rotate_left
   ·(intro w hSw;go_simp;first|done|with_reducible rfl)
   refine p4 ?_;refine a5 (v:=?_) (Or.inl ⟨by rfl,?_⟩) ?_;rotate_left
   ·(intro w hSw;obtain⟨hSw1,hSw2⟩:=hSw;go_simp;first|done|with_reducible rfl)
   refine p4 ?_;refine a5 (v:=?_) (Or.inl ⟨by rfl,?_⟩) ?_;rotate_left
   ·(intro w hSw;go_simp;first|done|with_reducible rfl)
   refine p4 ?_;refine a5 (v:=?_) (Or.inl ⟨by rfl,?_⟩) ?_;rotate_left
   ·(intro w hSw;go_simp;first|done|with_reducible rfl)
   refine p4 ?_;refine a5 (v:=?_) (Or.inl ⟨by rfl,?_⟩) ?_;rotate_left
   ·(intro w hSw;obtain⟨hSw1,hSw2⟩:=hSw;go_simp;first|done|with_reducible rfl)
   refine p4 ?_;refine a5 (v:=?_) (Or.inl ⟨by rfl,?_⟩) ?_;rotate_left
   ·(intro w hSw;go_simp;first|done|with_reducible rfl)
   refine p4 ?_;refine a5 (v:=?_) (Or.inl ⟨by rfl,?_⟩) ?_;rotate_left
   ·(intro w hSw;go_simp;first|done|with_reducible rfl)
   refine p4 ?_;refine a5 (v:=?_) (Or.inl ⟨by rfl,?_⟩) ?_;rotate_left
   ·(intro w hSw;go_simp;first|done|with_reducible rfl)
   refine p4 ?_;refine a5 (v:=?_) (Or.inl ⟨by rfl,?_⟩) ?_;rotate_left
   ·(intro w hSw;go_simp;first|done|with_reducible rfl)
   refine p4 ?_;refine a5 (v:=?_) (Or.inl ⟨by rfl,?_⟩) ?_;rotate_left
   ·(intro w hSw;go_simp;first|done|with_reducible rfl)
   refine p4 ?_;refine a5 (v:=?_) (Or.inl ⟨by rfl,?_⟩) ?_;rotate_left
   ·(intro w hSw;go_simp;first|done|with_reducible rfl)
   refine p4 ?_;refine yt (fun K hK=>?_);rw[if_pos (by rfl)];go_simp;refine hK.out _ _ (⟨jc (hS.get (.tail _ (.tail _ (.tail _ (.head _))))) hlt,jc (hS.get (.tail _ (.tail _ (.head _)))) hlt⟩) (fun _=>?_);clear hK K;refine p4 ?_;refine a5 (v:=?_) (Or.inl ⟨by rfl,?_⟩) ?_;rotate_left
   ·(intro w hSw;go_simp;first|done|with_reducible rfl)
   refine p4 ?_;refine tK (NoPanic.normal ?_);go_wp2_with fail;go_roundw;case rel=>exact⟨k+1,by omega,by go_num,rfl,hS⟩
   case measure=>simp[intOf];omega
  ·obtain rfl:k=4:=by omega
   rw[kA]at hL;go_wp2_with (first
    | ((with_reducible show wpList _ _ _ (⟨some _,.load _ _,_,_,_,_⟩::_) _ _);refine iU hL rfl rfl rfl ?_)
    | ((with_reducible show wpList _ _ _ (⟨none,.store _ _ _,_,_,_,_⟩::_) _ _);refine eL hL rfl rfl rfl rfl rfl (fun w1 hL1=>?_);clear hL;have hL:=hL1;clear hL1))
   refine bodyPost_ret (ay rfl hL rfl rfl) rfl ?_;exact⟨rfl,hL.bel⟩
theorem fy(n m:Nat)(hn:n<2^256)(hm:m<2^256)(w:World) :
 Rt 296 #[.agg (am n),.agg (am m)] w (.tuple #[.agg (am (n+2^256-m)),.int .u64 (bw n m 4:Nat)]):=by
 have hL:=Loc.nil w;go_enter func296,ntmps296;go_wp2_with (first
  | ((with_reducible show wpList _ _ _ (⟨some 2,.box _ _,_,_,_,_⟩::_) _ _);refine dB hL rfl rfl rfl (fun b2 w1 hL1=>?_);clear hL;have hL:=hL1;clear hL1)
  | ((with_reducible show wpList _ _ _ (⟨some 3,.box _ _,_,_,_,_⟩::_) _ _);refine dB hL rfl rfl rfl (fun b3 w1 hL1=>?_);clear hL;have hL:=hL1;clear hL1)
  | ((with_reducible show wpList _ _ _ (⟨some 4,.alloc _,_,_,_,_⟩::_) _ _);refine dc hL rfl rfl (fun b4 w1 hL1=>?_);clear hL;have hL:=hL1;clear hL1)
  | ((with_reducible show wpList _ _ _ (⟨some 6,.alloc _,_,_,_,_⟩::_) _ _);refine dc hL rfl rfl (fun b6 w1 hL1=>?_);clear hL;have hL:=hL1;clear hL1))
 go_loopw [7,9] (fun c i wr=>∃k:Nat,k≤4∧i= .int .i64 k∧c= .int .u64 (bw n m k:Nat)∧Loc w wr [(b6,m8 (n+2^256-m) k,311),(b4,am 0,311),(b3,am m,311),(b2,am n,311)]) (fun _ i _=>4-(intOf i).toNat);case atStart=>exact⟨0,by omega,rfl,by rw[EI];rfl,by rw[kz];exact hL⟩
 case round =>
  clear hL;obtain⟨k,hk,rfl,rfl,hL⟩:=hrel;by_cases hlt:k<4
  ·have hk0:(0:Int)≤(k:Int):=by omega
   have hk1:(k:Int)<4:=by omega
   have hc1:=jc (hL.get (.tail _ (.tail _ (.tail _ (.head _))))) hlt;have hc2:=jc (hL.get (.tail _ (.tail _ (.head _)))) hlt;have hc6:wr.cell? ⟨b6,k,none⟩=some (.int .u64 0):=(aP (hL.get (.head _)) hlt).trans (by rw[if_neg (by omega)]);have hf:wr.frozen? ⟨b6,k,none⟩=false:=frozen_of_row wr _ _ _ _ (hL.get (.head _));have hadd:=wE n m hn hm hlt;have hS:=hL.drew.setCell (.int .u64 (lw (n+2^256-m) k:Nat)) (.head _) hlt (by rw[kB];exact .head _ _ _ _ _);clear hL;go_wp2_with fail;refine i6 (S:=(fun w'=>w'.cell? ⟨b2,k,none⟩=some (.int .u64 (lw n k:Nat))∧w'.cell? ⟨b3,k,none⟩=some (.int .u64 (lw m k:Nat)))) [0,1,2,3,4,5,6,7,8,9,10,11,12,13,14] [true,true,true,true,true,true,true,true,true,true,true,true,true,false,true] (by kernel_rfl) (by kernel_rfl) (⟨hc1,hc2⟩) (fun _=>?_);simp only[List.filterMap_cons,List.filterMap_nil,List.getElem?_toArray,List.getElem?_cons_zero,List.getElem?_cons_succ];refine a5 (v:=?_) (Or.inl ⟨by rfl,?_⟩) ?_;rotate_left
   ·(intro w hSw;go_simp;first|done|with_reducible rfl)
   refine p4 ?_;refine a5 (v:=?_) (Or.inl ⟨by rfl,?_⟩) ?_;rotate_left
   ·(intro w hSw;go_simp;first|done|with_reducible rfl)
   refine p4 ?_;refine a5 (v:=?_) (Or.inl ⟨by rfl,?_⟩) ?_;rotate_left
   ·(intro w hSw;go_simp;first|done|with_reducible rfl)
   refine p4 ?_;refine a5 (v:=?_) (Or.inl ⟨by rfl,?_⟩) ?_;rotate_left
   ·(intro w hSw;obtain⟨hSw1,hSw2⟩:=hSw;go_simp;first|done|with_reducible rfl)
   refine p4 ?_;refine a5 (v:=?_) (Or.inl ⟨by rfl,?_⟩) ?_;rotate_left
   ·(intro w hSw;go_simp;first|done|with_reducible rfl)
   refine p4 ?_;refine a5 (v:=?_) (Or.inl ⟨by rfl,?_⟩) ?_;rotate_left
   ·(intro w hSw;go_simp;first|done|with_reducible rfl)
   refine p4 ?_;refine a5 (v:=?_) (Or.inl ⟨by rfl,?_⟩) ?_;rotate_left
   ·(intro w hSw;obtain⟨hSw1,hSw2⟩:=hSw;go_simp;first|done|with_reducible rfl)
   refine p4 ?_;refine a5 (v:=?_) (Or.inl ⟨by rfl,?_⟩) ?_;rotate_left
   ·(intro w hSw;go_simp;first|done|with_reducible rfl)
   refine p4 ?_;refine a5 (v:=?_) (Or.inl ⟨by rfl,?_⟩) ?_;rotate_left
   ·(intro w hSw;go_simp;first|done|with_reducible rfl)
   refine p4 ?_;refine a5 (v:=?_) (Or.inl ⟨by rfl,?_⟩) ?_;rotate_left
   ·(intro w hSw;go_simp;first|done|with_reducible rfl)
   refine p4 ?_;refine a5 (v:=?_) (Or.inl ⟨by rfl,?_⟩) ?_;rotate_left
   ·(intro w hSw;go_simp;first|done|with_reducible rfl)
   refine p4 ?_;refine a5 (v:=?_) (Or.inl ⟨by rfl,?_⟩) ?_;rotate_left
   ·(intro w hSw;go_simp;first|done|with_reducible rfl)
   refine p4 ?_;refine a5 (v:=?_) (Or.inl ⟨by rfl,?_⟩) ?_;rotate_left
   ·(intro w hSw;go_simp;first|done|with_reducible rfl)
   refine p4 ?_;refine yt (fun K hK=>?_);rw[if_pos (by rfl)];go_simp;refine hK.out _ _ (⟨jc (hS.get (.tail _ (.tail _ (.tail _ (.head _))))) hlt,jc (hS.get (.tail _ (.tail _ (.head _)))) hlt⟩) (fun _=>?_);clear hK K;refine p4 ?_;refine a5 (v:=?_) (Or.inl ⟨by rfl,?_⟩) ?_;rotate_left
   ·(intro w hSw;go_simp;first|done|with_reducible rfl)
   refine p4 ?_;refine tK (NoPanic.normal ?_);go_wp2_with fail;go_roundw;case rel=>exact⟨k+1,by omega,by go_num,rfl,hS⟩
   case measure=>simp[intOf];omega
  ·obtain rfl:k=4:=by omega
   rw[kA]at hL;go_wp2_with (first
    | ((with_reducible show wpList _ _ _ (⟨some _,.load _ _,_,_,_,_⟩::_) _ _);refine iU hL rfl rfl rfl ?_)
    | ((with_reducible show wpList _ _ _ (⟨none,.store _ _ _,_,_,_,_⟩::_) _ _);refine eL hL rfl rfl rfl rfl rfl (fun w1 hL1=>?_);clear hL;have hL:=hL1;clear hL1))
   refine bodyPost_ret (ay rfl hL rfl rfl) rfl ?_;exact⟨rfl,hL.bel⟩
end
section
def Pr(n:Nat):Prop:=2≤n∧∀d,d∣n→d=1∨d=n
theorem Pr.coprime{p a:Nat}(hp:Pr p)(h:¬p∣a):Nat.Coprime p a:=by
 rcases hp.2 _ (Nat.gcd_dvd_left p a)with e|e
 ·exact e
 ·exact absurd (e ▸ Nat.gcd_dvd_right p a) h
theorem Pr.euclid{p a b:Nat}(hp:Pr p)(h:p∣a*b):p∣a∨p∣b:=by
 by_cases ha:p∣a
 ·exact .inl ha
 ·exact .inr ((hp.coprime ha).dvd_of_dvd_mul_left h)
def ch:Nat→Nat→Nat
 | _,0=>1
 | 0,_+1=>0
 | n+1,k+1=>ch n k+ch n (k+1)
theorem rX(n:Nat):ch n 0=1:=by cases n <;> rfl
theorem rY:∀n k,(k+1)*ch (n+1) (k+1)=(n+1)*ch n k
 | 0,0=>rfl
 | 0,k+1=>by show(k+2)*(ch 0 (k+1)+ch 0 (k+2))=1*0;simp[ch]
 | n+1,0=>by
  have h:=rY n 0;show 1*(ch (n+1) 0+ch (n+1) 1)=(n+2)*ch (n+1) 0;rw[rX]at *
  simp at h;omega
 | n+1,k+1=>by
  have h1:=rY n k;have h2:=rY n (k+1);have e:ch (n+2) (k+2)=ch (n+1) (k+1)+ch (n+1) (k+2):=rfl;have e':ch (n+1) (k+1)=ch n k+ch n (k+1):=rfl;rw[e,Nat.mul_add,h2];have:(k+1+1)*ch (n+1) (k+1)=(k+1)*ch (n+1) (k+1)+ch (n+1) (k+1):=by rw[Nat.add_mul (k+1) 1,Nat.one_mul]
  rw[this,h1,e',Nat.add_mul (n+1) 1,Nat.one_mul,Nat.mul_add];omega
theorem BJ:∀n k,n<k→ch n k=0
 | 0,k+1,_=>rfl
 | n+1,k+1,h=>by
  show ch n k+ch n (k+1)=0;rw[BJ n k (by omega),BJ n (k+1) (by omega)]
theorem nC:∀n,ch n n=1
 | 0=>rfl
 | n+1=>by show ch n n+ch n (n+1)=1;rw[nC n,BJ n (n+1) (by omega)]
def bs(n a:Nat):Nat→Nat
 | 0=>0
 | m+1=>bs n a m+ch n m*a^m
theorem yw(n a:Nat):∀m,(a+1)*bs n a (m+1)=bs (n+1) a (m+1)+ch n m*a^(m+1)
 | 0=>by simp[bs,rX];omega
 | m+1=>by
  have ih:=yw n a m;have e:bs n a (m+2)=bs n a (m+1)+ch n (m+1)*a^(m+1):=rfl;have e':bs (n+1) a (m+2)=bs (n+1) a (m+1)+(ch n m+ch n (m+1))*a^(m+1):=rfl;rw[e,e',Nat.mul_add,ih];generalize bs (n+1) a (m+1)=X;generalize ch n m=c;generalize ch n (m+1)=d;rw[Nat.pow_succ a (m+1)];generalize a^(m+1)=z;grind
theorem Gi(a:Nat):∀n,(a+1)^n=bs n a (n+1)
 | 0=>by simp[bs,ch]
 | n+1=>by
  rw[Nat.pow_succ,Gi a n,Nat.mul_comm,yw];show _=bs (n+1) a (n+1)+ch (n+1) (n+1)*a^(n+1);rw[nC,nC]
theorem Pr.dvd_ch{p k:Nat}(hp:Pr p)(h0:0<k)(h1:k<p):p∣ch p k:=by
 obtain⟨n,rfl⟩:∃n,p=n+1:=⟨p-1,by have:=hp.1;omega⟩;obtain⟨j,rfl⟩:∃j,k=j+1:=⟨k-1,by omega⟩;have h:=rY n j;rcases hp.euclid (a:=j+1) (b:=ch (n+1) (j+1)) (h ▸ Nat.dvd_mul_right _ _)with h'|h'
 ·exact absurd (Nat.le_of_dvd (by omega) h') (by omega)
 ·exact h'
theorem Pr.mod_bs{p:Nat}(hp:Pr p)(a:Nat):∀m,m<p→bs p a (m+1)%p=1%p
 | 0,_=>by simp[bs,rX]
 | m+1,h=>by
  show(bs p a (m+1)+ch p (m+1)*a^(m+1))%p=_;obtain⟨c,hc⟩:=hp.dvd_ch (k:=m+1) (by omega) h;rw[hc,Nat.mul_assoc,Nat.add_mul_mod_self_left];exact hp.mod_bs a m (by omega)
theorem Pr.pow{p:Nat}(hp:Pr p):∀a,a^p%p=a%p
 | 0=>by rw[Nat.zero_pow (by have:=hp.1;omega)]
 | a+1=>by
  rw[Gi];show(bs p a p+ch p p*a^p)%p=_;obtain⟨n,hn⟩:∃n,p=n+1:=⟨p-1,by have:=hp.1;omega⟩;have h:=hp.mod_bs a n (by omega);rw[← hn]at h;rw[nC,Nat.one_mul,Nat.add_mod,h,hp.pow a,← Nat.add_mod,Nat.add_comm]
theorem Pr.fermat{p a:Nat}(hp:Pr p)(h:¬p∣a):a^(p-1)%p=1:=by
 have h2:=hp.1;have ha:0<a:=by
  rcases Nat.eq_zero_or_pos a with e|e
  ·exact absurd (e ▸ Nat.dvd_zero p) h
  ·exact e
 have hpos:0<a^(p-1):=Nat.pow_pos ha;have e:a^p=a*a^(p-1):=by rw[← Nat.pow_succ'];congr 1;omega
 have hd:p∣a^p-a:=by
  refine(Nat.dvd_iff_mod_eq_zero).2 ?_;exact Nat.sub_mod_eq_zero_of_mod_eq (hp.pow a)
 have:a^p-a=a*(a^(p-1)-1):=by rw[e,Nat.mul_sub,Nat.mul_one]
 rw[this]at hd;rcases hp.euclid hd with h'|h'
 ·exact absurd h' h
 ·obtain⟨c,hc⟩:=h'
  have:a^(p-1)=1+p*c:=by omega
  rw[this,Nat.add_mul_mod_self_left,Nat.mod_eq_of_lt (by omega)]
theorem EJ{b s:Nat}(m n:Nat)(hm:b^m%s=1%s)(hn:b^n%s=1%s):b^Nat.gcd m n%s=1%s:=by
 induction m,n using Nat.gcd.induction with
 | H0 n=>simpa using hn
 | H1 m n _ ih =>
  rw[Nat.gcd_rec];refine ih ?_ hm;have e:b^n=b^(n%m)*(b^m)^(n/m):=by rw[← Nat.pow_mul,← Nat.pow_add,Nat.mod_add_div]
  rw[e,Nat.mul_mod,Nat.pow_mod (b^m),hm,← Nat.pow_mod,Nat.one_pow,← Nat.mul_mod,Nat.mul_one]at hn;exact hn
theorem Pr.order{s q b:Nat}(hs:Pr s)(hq:Pr q)(h1:b^q%s=1)(h2:b%s≠1):q∣s-1:=by
 have h2s:=hs.1;have e1:1%s=1:=Nat.mod_eq_of_lt (by omega);by_cases h:q∣s-1
 ·exact h
 ·have hb:¬s∣b:=by
   intro hd;have:=Nat.dvd_trans hd (Nat.dvd_mul_right b (b^(q-1)));rw[← Nat.pow_succ',show(q-1).succ=q from by have:=hq.1;omega]at this;rw[Nat.mod_eq_zero_of_dvd this]at h1;omega
  have hf:=hs.fermat hb;have:=EJ (b:=b) (s:=s) q (s-1) (by rw[h1,e1]) (by rw[hf,e1]);rw[show Nat.gcd q (s-1)=1 from hq.coprime h,Nat.pow_one,e1]at this;exact absurd this h2
theorem ql:∀n,2≤n→∃s,Pr s∧s∣n:=by
 intro n
 induction n using Nat.strongRecOn with
 | _ n ih =>
  intro h;by_cases hp:Pr n
  ·exact⟨n,hp,Nat.dvd_refl n⟩
  ·have:∃d,d∣n∧d≠1∧d≠n:=by
    refine Classical.byContradiction fun hc=>hp ⟨h,fun d hd=>?_⟩;by_cases e1:d=1
    ·exact .inl e1
    ·by_cases e2:d=n
     ·exact .inr e2
     ·exact absurd ⟨d,hd,e1,e2⟩ hc
   obtain⟨d,hd,h1,h2⟩:=this;have hle:=Nat.le_of_dvd (by omega) hd;have h0:d≠0:=by rintro rfl;have:=Nat.eq_zero_of_zero_dvd hd;omega
   obtain⟨s,hs,hsd⟩:=ih d (by omega) (by omega);exact⟨s,hs,Nat.dvd_trans hsd hd⟩
theorem gy{N F:Nat}(hN:2≤N)(hF:N<F*F)(h:∀s,Pr s→s∣N→F∣s-1):Pr N:=by
 refine⟨hN,fun d hd=>?_⟩;refine Classical.byContradiction fun hc=>?_;obtain⟨e,rfl⟩:=hd;have hd1:d≠1:=fun x=>hc (.inl x);have he1:e≠1:=fun x=>hc (.inr (by rw[x,Nat.mul_one]));have hd0:d≠0:=by rintro rfl;simp at hN
 have he0:e≠0:=by rintro rfl;simp at hN
 have big:∀x,2≤x→x∣d*e→F≤x:=by
  intro x hx hxd;obtain⟨s,hs,hsx⟩:=ql x hx;have h1:=Nat.le_of_dvd (by have:=hs.1;omega) (h s hs (Nat.dvd_trans hsx hxd));have h2:=Nat.le_of_dvd (by omega) hsx;omega
 have:=Nat.mul_le_mul (big d (by omega) (Nat.dvd_mul_right d e)) (big e (by omega) (Nat.dvd_mul_left e d));omega
def rZ(m:Nat):Nat→Nat→Nat→Nat
 | 0,_,_=>1%m
 | f+1,a,e=>match Nat.beq (e%2) 1 with
  | true=>a*rZ m f (a*a%m) (e/2)%m
  | false=>rZ m f (a*a%m) (e/2)
theorem nD(m:Nat):∀f a e,e<2^f→rZ m f a e=a^e%m
 | 0,a,e,h=>by
  obtain rfl:e=0:=by simpa using h
  rfl
 | f+1,a,e,h=>by
  have ih:=nD m f (a*a%m) (e/2) (by rw[Nat.pow_succ]at h;omega);have e2:(a*a%m)^(e/2)%m=a^(2*(e/2))%m:=by rw[← Nat.pow_mod,Nat.pow_mul,Nat.pow_two]
  rw[e2]at ih;unfold rZ;by_cases ho:e%2=1
  ·rw[ho]
   show a*rZ m f (a*a%m) (e/2)%m=_;rw[ih,Nat.mul_mod,Nat.mod_mod,← Nat.mul_mod,← Nat.pow_succ',show(2*(e/2)).succ=e from by omega]
  ·rw[show e%2=0 from by omega]
   show rZ m f (a*a%m) (e/2)=_;rw[ih,show 2*(e/2)=e from by omega]
def nW(N q f:Nat):Bool :=
 Nat.ble 2 N&&Nat.beq ((N-1)%q) 0&&Nat.blt N (2^f)&&Nat.beq (rZ N f 2 (N-1)) 1&&Nat.beq (Nat.gcd (rZ N f 2 ((N-1)/q)+N-1) N) 1
theorem GH{N q f s:Nat}(hq:Pr q)(hB:nW N q f=true)(hs:Pr s)(hd:s∣N):q∣s-1:=by
 unfold nW at hB;simp only[Bool.and_eq_true,Nat.beq_eq,Nat.ble_eq,Nat.blt_eq]at hB;obtain⟨⟨⟨⟨h2,h3⟩,h4⟩,h5⟩,h6⟩:=hB;have hs2:=hs.1;rw[nD _ _ _ _ (by omega)]at h5;rw[nD _ _ _ _ (by have:=Nat.div_le_self (N-1) q;omega)]at h6;have hqd:q*((N-1)/q)=N-1:=Nat.mul_div_cancel' (Nat.dvd_of_mod_eq_zero h3);refine hs.order (b:=2^((N-1)/q)) hq ?_ ?_
 ·rw[← Nat.pow_mul,Nat.mul_comm,hqd,← Nat.mod_mod_of_dvd _ hd,h5]
  exact Nat.mod_eq_of_lt (by omega)
 ·intro h
  rw[← Nat.mod_mod_of_dvd _ hd]at h;have hs1:s∣2^((N-1)/q)%N+N-1:=by
   have hdv:s∣2^((N-1)/q)%N-1:=Nat.dvd_of_mod_eq_zero (Nat.sub_mod_eq_zero_of_mod_eq (by rw[h,Nat.mod_eq_of_lt (by omega)]));have hpos:0<2^((N-1)/q)%N:=by
    rcases Nat.eq_zero_or_pos (2^((N-1)/q)%N)with e|e
    ·rw[e,Nat.zero_mod]at h;omega
    ·exact e
   rw[show 2^((N-1)/q)%N+N-1=(2^((N-1)/q)%N-1)+N from by omega];exact Nat.dvd_add hdv hd
  have:=Nat.dvd_gcd hs1 hd;rw[h6]at this;have:=Nat.le_of_dvd (by omega) this;omega
theorem m9{N q f:Nat}(hq:Pr q)(hB:nW N q f=true)(hF:Nat.blt N (q*q)=true):Pr N:=by
 have h2:2≤N:=by unfold nW at hB;simp only[Bool.and_eq_true,Nat.ble_eq]at hB;exact hB.1.1.1.1
 exact gy h2 (by simpa using hF) fun s hs hd=>GH hq hB hs hd
theorem qM{N q r f:Nat}(hq:Pr q)(hr:Pr r)(hne:Nat.beq q r=false)(hB:nW N q f=true)(hC:nW N r f=true)(hF:Nat.blt N (q*r*(q*r))=true):Pr N:=by
 have h2:2≤N:=by unfold nW at hB;simp only[Bool.and_eq_true,Nat.ble_eq]at hB;exact hB.1.1.1.1
 refine gy h2 (by simpa using hF) fun s hs hd=>?_;have hc:Nat.Coprime q r:=hq.coprime fun hx=>by
  rcases hr.2 q hx with e|e
  ·have:=hq.1;omega
  ·rw[e]at hne;simp at hne
 exact hc.mul_dvd_of_dvd_of_dvd (GH hq hB hs hd) (GH hr hC hs hd)
def BK(n:Nat):Nat→Nat→Bool
 | 0,d=>Nat.blt n (d*d)
 | f+1,d=>Nat.blt n (d*d) || (!(Nat.beq (n%d) 0)&&BK n f (d+1))
theorem wG{n:Nat}:∀f d,BK n f d=true→∀x,d≤x→x*x≤n→¬x∣n
 | 0,d,h,x,hx,hxx=>by
  have:n<d*d:=by simpa[BK] using h
  have:=Nat.mul_le_mul hx hx;omega
 | f+1,d,h,x,hx,hxx=>by
  unfold BK at h;simp only[Bool.or_eq_true,Bool.and_eq_true,Nat.blt_eq,Bool.not_eq_true']at h;rcases h with h|⟨h1,h2⟩
  ·have:=Nat.mul_le_mul hx hx
   omega
  ·by_cases e:x=d
   ·subst e
    intro hd;rw[Nat.mod_eq_zero_of_dvd hd]at h1;cases h1
   ·exact wG f (d+1) h2 x (by omega) hxx
theorem tri{n:Nat}(f:Nat)(h2:Nat.ble 2 n=true)(h:BK n f 2=true):Pr n:=by
 have h2:2≤n:=by simpa using h2
 refine⟨h2,fun d hd=>?_⟩;refine Classical.byContradiction fun hc=>?_;obtain⟨e,rfl⟩:=hd;have hd1:d≠1:=fun x=>hc (.inl x);have he1:e≠1:=fun x=>hc (.inr (by rw[x,Nat.mul_one]));have hd0:d≠0:=by rintro rfl;simp at h2
 have he0:e≠0:=by rintro rfl;simp at h2
 rcases Nat.le_total d e with hle|hle
 ·exact wG f 2 h d (by omega) (Nat.mul_le_mul_left d hle) (Nat.dvd_mul_right d e)
 ·exact wG f 2 h e (by omega) (Nat.mul_le_mul_right e hle) (Nat.dvd_mul_left e d)
theorem GI:Pr 103:=tri 12 (by decide +kernel) (by decide +kernel)
theorem GJ:Pr 127:=tri 13 (by decide +kernel) (by decide +kernel)
theorem GK:Pr 991:=tri 33 (by decide +kernel) (by decide +kernel)
theorem EK:Pr 4153:=tri 66 (by decide +kernel) (by decide +kernel)
theorem zZ:Pr 430751:=tri 658 (by decide +kernel) (by decide +kernel)
theorem z5:Pr 531581:=tri 731 (by decide +kernel) (by decide +kernel)
theorem z6:Pr 569003:=tri 756 (by decide +kernel) (by decide +kernel)
theorem wH:Pr 1224481:=tri 1108 (by decide +kernel) (by decide +kernel)
theorem wI:Pr 8574133:=qM (f:=24) GK GI (by decide +kernel) (by decide +kernel) (by decide +kernel) (by decide +kernel)
theorem qo:Pr 2773320623:=m9 (f:=32) z6 (by decide +kernel) (by decide +kernel)
theorem nX:Pr 72106336199:=m9 (f:=37) qo (by decide +kernel) (by decide +kernel)
theorem j9:Pr 1257559732178653:=qM (f:=51) wH z5 (by decide +kernel) (by decide +kernel) (by decide +kernel) (by decide +kernel)
theorem ka:Pr 1919519569386763:=qM (f:=51) wI GJ (by decide +kernel) (by decide +kernel) (by decide +kernel) (by decide +kernel)
theorem jd:Pr 31757755568855353:=qM (f:=55) zZ EK (by decide +kernel) (by decide +kernel) (by decide +kernel) (by decide +kernel)
theorem ir:Pr 4434155615661930479:=m9 (f:=62) j9 (by decide +kernel) (by decide +kernel)
theorem eM:Pr 172054593956031949258510691:=m9 (f:=88) ir (by decide +kernel) (by decide +kernel)
theorem dC:Pr 75445702479781427272750846543864801:=qM (f:=116) ka nX (by decide +kernel) (by decide +kernel) (by decide +kernel) (by decide +kernel)
theorem de:Pr 19757330305831588566944191468367130476339:=m9 (f:=134) eM (by decide +kernel) (by decide +kernel)
theorem db:Pr 276602624281642239937218680557139826668747:=m9 (f:=138) de (by decide +kernel) (by decide +kernel)
theorem K7:Pr 74058212732561358302231226437062788676166966415465897661863160754340907:=qM (f:=236) dC jd (by decide +kernel) (by decide +kernel) (by decide +kernel) (by decide +kernel)
theorem K8:Pr 7237005577332262213973186563042994240857116359379907606001950938285454250989:=m9 (f:=253) db (by decide +kernel) (by decide +kernel)
theorem K9:Pr 57896044618658097711785492504343953926634992332820282019728792003956564819949:=m9 (f:=255) K7 (by decide +kernel) (by decide +kernel)
end
section
def P:Nat:=57896044618658097711785492504343953926634992332820282019728792003956564819949
theorem P_prime:Pr P:=K9
theorem qN:0<P:=by decide +kernel
instance M5:NeZero P:=⟨by decide +kernel⟩
abbrev F:=Fin P
def fe(n:Nat):F:=Fin.ofNat P n
theorem wJ(n:Nat):(fe n).val=n%P:=rfl
theorem eN(a:F):fe a.val=a:=Fin.ext (Nat.mod_eq_of_lt a.isLt)
theorem fQ{a b:F}(h:a*b=0):a=0∨b=0:=by
 have h':(a.val*b.val)%P=0:=by have:=congrArg Fin.val h;simpa[Fin.val_mul] using this
 rcases P_prime.euclid (Nat.dvd_of_mod_eq_zero h')with h|h
 ·refine .inl (Fin.ext ?_)
  rw[← Nat.mod_eq_of_lt a.isLt,Nat.mod_eq_zero_of_dvd h];rfl
 ·refine .inr (Fin.ext ?_)
  rw[← Nat.mod_eq_of_lt b.isLt,Nat.mod_eq_zero_of_dvd h];rfl
theorem a8{a b:F}(ha:a≠0)(hb:b≠0):a*b≠0:=fun h=>(fQ h).elim ha hb
theorem dp{a b c:F}(hc:c≠0)(h:a*c=b*c):a=b:=by
 have:(a-b)*c=0:=by grind
 rcases fQ this with e|e
 ·grind
 ·exact absurd e hc
def pw(a:F):Nat→F
 | 0=>1
 | n+1=>pw a n*a
theorem mw(a:F)(m:Nat):∀n,pw a (m+n)=pw a m*pw a n
 | 0=>by show pw a m=pw a m*1;grind
 | n+1=>by show pw a (m+n)*a=pw a m*(pw a n*a);rw[mw a m n];grind
theorem wK(a:F)(m:Nat):∀n,pw a (m*n)=pw (pw a m) n
 | 0=>rfl
 | n+1=>by rw[Nat.mul_succ,mw,wK a m n];rfl
theorem wL(a:F):∀n,(pw a n).val=a.val^n%P
 | 0=>rfl
 | n+1=>by
  show(pw a n*a).val=_;rw[Fin.val_mul,wL a n,Nat.pow_succ,Nat.mod_mul_mod]
theorem k6:∀n,0<n→pw (0:F) n=0
 | n+1,_=>by show pw (0:F) n*0=0;grind
theorem nY{a:F}(h:a≠0):pw a (P-1)=1:=by
 refine Fin.ext ?_;rw[wL];refine(P_prime.fermat fun hd=>h (Fin.ext ?_)).trans (by decide +kernel);rw[← Nat.mod_eq_of_lt a.isLt,Nat.mod_eq_zero_of_dvd hd];rfl
noncomputable def BM(x:F):F:=Classical.choose (⟨x,rfl⟩:∃y,y=x)
theorem r6(x:F):BM x=x:=Classical.choose_spec (⟨x,rfl⟩:∃y,y=x)
noncomputable def inv(a:F):F:=BM (pw a (P-2))
theorem r7(a:F):inv a=pw a (P-2):=r6 _
theorem ei{a:F}(h:a≠0):a*inv a=1:=by
 have:=nY h;rw[show P-1=(P-2)+1 from by decide +kernel]at this;have e:pw a (P-2+1)=inv a*a:=by rw[r7];rfl
 grind
theorem BN:inv 0=0:=by rw[r7];exact k6 _ (by decide +kernel)
theorem BO{a:F}(h:a≠0):inv a≠0:=fun e=>by
 have:=ei h;rw[e]at this;have h01:(0:F)≠1:=by decide +kernel
 grind
theorem nZ{a b c:F}(hb:b≠0)(h:a*b=c):a=c*inv b:=by
 have:=ei hb;grind
theorem je:(2:F)≠0:=by decide +kernel
theorem n6:(1:F)≠0:=by decide +kernel
def dF:F:=fe 37095705934669439343138083508754565189542113879843219016388785533085940283555
def iF:F:=fe 19681161376707505956807079304988542015446066515923890162744021073123829784752
theorem IM:iF*iF= -1:=by decide +kernel
theorem z8:(rZ P 255 (P-dF.val) ((P-1)/2)==1)=false:=by decide +kernel
theorem BP:(-dF).val=P-dF.val:=by decide +kernel
theorem BQ{u v:F}(h:u*u= -dF*(v*v)):v=0:=by
 refine Classical.byContradiction fun hv=>?_;have hd:(u*inv v)*(u*inv v)= -dF:=by
  have:=ei hv;grind
 have hu:u*inv v≠0:=by
  intro e;rw[e]at hd;have hd0:dF≠0:=by decide +kernel
  grind
 have hf:=nY hu;rw[show P-1=2*((P-1)/2)from by decide +kernel,wK]at hf;have e2:pw (u*inv v) 2= -dF:=by
  have:pw (u*inv v) 2=1*(u*inv v)*(u*inv v):=rfl;grind
 rw[e2]at hf;have hval:=congrArg Fin.val hf;rw[wL,BP,← nD P 255 _ _ (by decide +kernel)]at hval;have h2:=z8;rw[hval]at h2;exact absurd h2 (by decide +kernel)
structure Pt where
 x:F
 y:F
def On(p:Pt):Prop:=p.y*p.y-p.x*p.x=1+dF*p.x*p.x*p.y*p.y
theorem EL(ε i:F):2*ε*ε*i*i=2*(ε*ε)*(i*i):=by grind
theorem EM(a:F)(h:a*1* -1=0):a=0:=by grind
theorem GL(d x y:F):1+d*x*0*y*1=1:=by
 have:d*x*0*y*1=0:=by grind
 rw[this];rfl
theorem GM(d x y:F):1-d*x*0*y*1=1:=by
 have:d*x*0*y*1=0:=by grind
 rw[this];rfl
theorem GN(x y d:F)(h:y*y-x*x=1+d*x*x*y*y):y*y+x* -x=1*(1-d*x* -x*y*y):=by grind
theorem tS{p q:Pt}(hp:On p)(hq:On q)(h:(dF*p.x*q.x*p.y*q.y)*(dF*p.x*q.x*p.y*q.y)=1):False:=by
 obtain⟨x1,y1⟩:=p;obtain⟨x2,y2⟩:=q;unfold On at hp hq;simp only at hp hq h;have hi:=IM;generalize iF=i at *
 generalize he:dF*x1*x2*y1*y2=ε at *
 have s1:(i*x1+ε*y1)*(i*x1+ε*y1)= -dF*((i*x1*y1*(i*x2+y2))*(i*x1*y1*(i*x2+y2))):=by subst he;grind
 have s2:(i*x1-ε*y1)*(i*x1-ε*y1)= -dF*((i*x1*y1*(i*x2-y2))*(i*x1*y1*(i*x2-y2))):=by subst he;grind
 have z1:=BQ s1;have z2:=BQ s2;have h3:(2:F)*ε*ε*i*i=0:=by grind
 rw[EL,h,hi]at h3;exact je (EM _ h3)
theorem gz{p q:Pt}(hp:On p)(hq:On q):1+dF*p.x*q.x*p.y*q.y≠0:=fun h=>tS hp hq (by grind)
theorem dV{p q:Pt}(hp:On p)(hq:On q):1-dF*p.x*q.x*p.y*q.y≠0:=fun h=>tS hp hq (by grind)
noncomputable def cu(p q:Pt):Pt:=⟨(p.x*q.y+p.y*q.x)*inv (1+dF*p.x*q.x*p.y*q.y),(p.y*q.y+p.x*q.x)*inv (1-dF*p.x*q.x*p.y*q.y)⟩
def pO:Pt:=⟨0,1⟩
def jf(p:Pt):Pt:=⟨-p.x,p.y⟩
theorem Pt.ext'{p q:Pt}(h1:p.x=q.x)(h2:p.y=q.y):p=q:=by cases p;cases q;cases h1;cases h2;rfl
theorem La:On pO:=by unfold On pO;simp only;grind
theorem kC{p:Pt}(h:On p):On (jf p):=by unfold On jf at *; simp only;grind
theorem kD{p q:Pt}(hp:On p)(hq:On q):(cu p q).x*(1+dF*p.x*q.x*p.y*q.y)=p.x*q.y+p.y*q.x:=by
 have:=ei (gz hp hq);unfold cu;simp only;grind
theorem fR{p q:Pt}(hp:On p)(hq:On q):(cu p q).y*(1-dF*p.x*q.x*p.y*q.y)=p.y*q.y+p.x*q.x:=by
 have:=ei (dV hp hq);unfold cu;simp only;grind
theorem z9(x1 y1 x2 y2 d:F)(h1:y1*y1-x1*x1=1+d*x1*x1*y1*y1)(h2:y2*y2-x2*x2=1+d*x2*x2*y2*y2) :
 (y1*y2+x1*x2)*(y1*y2+x1*x2)*((1+d*x1*x2*y1*y2)*(1+d*x1*x2*y1*y2))-(x1*y2+y1*x2)*(x1*y2+y1*x2)*((1-d*x1*x2*y1*y2)*(1-d*x1*x2*y1*y2))=(1-d*x1*x2*y1*y2)*(1-d*x1*x2*y1*y2)*((1+d*x1*x2*y1*y2)*(1+d*x1*x2*y1*y2))+d*(y1*y2+x1*x2)*(y1*y2+x1*x2)*(x1*y2+y1*x2)*(x1*y2+y1*x2):=by grind
theorem r9{p q:Pt}(hp:On p)(hq:On q):On (cu p q):=by
 have hx:=kD hp hq;have hy:=fR hp hq;have n1:=gz hp hq;have n2:=dV hp hq;have hid:=z9 p.x p.y q.x q.y dF hp hq;show(cu p q).y*(cu p q).y-(cu p q).x*(cu p q).x=1+dF*(cu p q).x*(cu p q).x*(cu p q).y*(cu p q).y;generalize(cu p q).x=X at *
 generalize(cu p q).y=Y at *
 generalize 1+dF*p.x*q.x*p.y*q.y=m1 at *
 generalize 1-dF*p.x*q.x*p.y*q.y=m2 at *
 rw[← hx,← hy]at hid;refine dp (a8 (a8 n1 n1) (a8 n2 n2)) ?_;grind
theorem mx(p q:Pt):cu p q=cu q p:=by
 unfold cu;refine Pt.ext' ?_ ?_
 ·simp only
  rw[show dF*p.x*q.x*p.y*q.y=dF*q.x*p.x*q.y*p.y from by grind];grind
 ·simp only
  rw[show dF*p.x*q.x*p.y*q.y=dF*q.x*p.x*q.y*p.y from by grind];grind
theorem EN:inv 1=1:=by have:=ei n6;grind
theorem sa(p:Pt):cu p pO=p:=by
 unfold cu pO;have h:=EN;refine Pt.ext' ?_ ?_
 ·simp only
  rw[GL,h];grind
 ·simp only
  rw[GM,h];grind
theorem BR(p:Pt):cu pO p=p:=by rw[mx,sa]
theorem BS{p:Pt}(hp:On p):cu p (jf p)=pO:=by
 have hx:=kD hp (kC hp);have hy:=fR hp (kC hp);have n1:=gz hp (kC hp);have n2:=dV hp (kC hp);refine Pt.ext' ?_ ?_
 ·refine dp n1 (hx.trans ?_)
  unfold jf pO;simp only;grind
 ·refine dp n2 (hy.trans ?_)
  exact GN _ _ _ hp
theorem EO(x1 y1 x2 y2 x3 y3 d n1 n2 m1 m2 k1 k2 l1 l2:F)(h1:y1*y1-x1*x1=1+d*x1*x1*y1*y1)(h2:y2*y2-x2*x2=1+d*x2*x2*y2*y2)(h3:y3*y3-x3*x3=1+d*x3*x3*y3*y3)(hn1:n1=x1*y2+y1*x2)(hn2:n2=y1*y2+x1*x2)(hm1:m1=1+d*x1*x2*y1*y2)(hm2:m2=1-d*x1*x2*y1*y2)(hk1:k1=x2*y3+y2*x3)(hk2:k2=y2*y3+x2*x3)(hl1:l1=1+d*x2*x3*y2*y3)(hl2:l2=1-d*x2*x3*y2*y3) :
 (n1*m2*y3+n2*m1*x3)*(l1*l2+d*x1*y1*k1*k2)=(x1*k2*l1+y1*k1*l2)*(m1*m2+d*n1*n2*x3*y3):=by subst hn1 hn2 hm1 hm2 hk1 hk2 hl1 hl2;grind
theorem EP(x1 y1 x2 y2 x3 y3 d n1 n2 m1 m2 k1 k2 l1 l2:F)(h1:y1*y1-x1*x1=1+d*x1*x1*y1*y1)(h2:y2*y2-x2*x2=1+d*x2*x2*y2*y2)(h3:y3*y3-x3*x3=1+d*x3*x3*y3*y3)(hn1:n1=x1*y2+y1*x2)(hn2:n2=y1*y2+x1*x2)(hm1:m1=1+d*x1*x2*y1*y2)(hm2:m2=1-d*x1*x2*y1*y2)(hk1:k1=x2*y3+y2*x3)(hk2:k2=y2*y3+x2*x3)(hl1:l1=1+d*x2*x3*y2*y3)(hl2:l2=1-d*x2*x3*y2*y3) :
 (n2*m1*y3+n1*m2*x3)*(l1*l2-d*x1*y1*k1*k2)=(y1*k2*l1+x1*k1*l2)*(m1*m2-d*n1*n2*x3*y3):=by subst hn1 hn2 hm1 hm2 hk1 hk2 hl1 hl2;grind
theorem n7{p q r:Pt}(hp:On p)(hq:On q)(hr:On r):cu (cu p q) r=cu p (cu q r):=by
 have hpq:=r9 hp hq;have hqr:=r9 hq hr;have a1:=kD hp hq;have a2:=fR hp hq;have b1:=kD hq hr;have b2:=fR hq hr;have m1:=gz hp hq;have m2:=dV hp hq;have l1:=gz hq hr;have l2:=dV hq hr;have ix:=EO p.x p.y q.x q.y r.x r.y dF _ _ _ _ _ _ _ _ hp hq hr rfl rfl rfl rfl rfl rfl rfl rfl;have iy:=EP p.x p.y q.x q.y r.x r.y dF _ _ _ _ _ _ _ _ hp hq hr rfl rfl rfl rfl rfl rfl rfl rfl;have c1:=kD hpq hr;have c2:=fR hpq hr;have e1:=kD hp hqr;have e2:=fR hp hqr;have N1:=gz hpq hr;have N2:=dV hpq hr;have L1:=gz hp hqr;have L2:=dV hp hqr;generalize cu (cu p q) r=S at *
 generalize cu p (cu q r)=T at *
 generalize cu p q=U at *
 generalize cu q r=V at *
 rw[← a1,← a2,← b1,← b2]at ix iy;generalize 1+dF*p.x*q.x*p.y*q.y=M1 at *
 generalize 1-dF*p.x*q.x*p.y*q.y=M2 at *
 generalize 1+dF*q.x*r.x*q.y*r.y=K1 at *
 generalize 1-dF*q.x*r.x*q.y*r.y=K2 at *
 clear a1 a2 b1 b2 hp hq hr hpq hqr;refine Pt.ext' ?_ ?_
 ·clear iy c2 e2 N2 L2
  refine dp (a8 (a8 (a8 N1 L1) (a8 m1 m2)) (a8 l1 l2)) ?_;generalize hA:1+dF*U.x*r.x*U.y*r.y=A at *
  generalize hB:1+dF*p.x*V.x*p.y*V.y=B at *
  have iA:U.x*M1*M2*r.y+U.y*M2*M1*r.x=S.x*A*(M1*M2):=by rw[c1];grind
  have iB:p.x*(V.y*K2)*K1+p.y*(V.x*K1)*K2=T.x*B*(K1*K2):=by rw[e1];grind
  have iC:K1*K2+dF*p.x*p.y*(V.x*K1)*(V.y*K2)=B*(K1*K2):=by rw[← hB];grind
  have iD:M1*M2+dF*(U.x*M1)*(U.y*M2)*r.x*r.y=A*(M1*M2):=by rw[← hA];grind
  rw[iA,iB,iC,iD]at ix;clear iA iB iC iD c1 e1 hA hB;grind
 ·clear ix c1 e1 N1 L1
  refine dp (a8 (a8 (a8 N2 L2) (a8 m1 m2)) (a8 l1 l2)) ?_;generalize hA:1-dF*U.x*r.x*U.y*r.y=A at *
  generalize hB:1-dF*p.x*V.x*p.y*V.y=B at *
  have iA:U.y*M2*M1*r.y+U.x*M1*M2*r.x=S.y*A*(M1*M2):=by rw[c2];grind
  have iB:p.y*(V.y*K2)*K1+p.x*(V.x*K1)*K2=T.y*B*(K1*K2):=by rw[e2];grind
  have iC:K1*K2-dF*p.x*p.y*(V.x*K1)*(V.y*K2)=B*(K1*K2):=by rw[← hB];grind
  have iD:M1*M2-dF*(U.x*M1)*(U.y*M2)*r.x*r.y=A*(M1*M2):=by rw[← hA];grind
  rw[iA,iB,iC,iD]at iy;clear iA iB iC iD c2 e2 hA hB;grind
end
section
open Go.RowKit
instance KA:Ent 301:=eo func301
instance KB(n m:Nat):FnC 301 #[.agg (am n),.agg (am m)] (.tuple #[.agg (am (n+m)),.int .u64 (cy n m 4:Nat)]):=⟨iq n m⟩
instance KC:Ent 296:=eo func296
instance KD(k:IntKind)(a b c d:Int):Row1 #[.int k a,.int k b,.int k c,.int k d] 4:=⟨rfl,by simp[Value.oneCell']⟩
theorem BT: #[Value.int .u64 18446744073709551597,Value.int .u64 18446744073709551615,Value.int .u64 18446744073709551615,Value.int .u64 9223372036854775807]=am P:=by kernel_rfl
theorem Aa(w:World):Rt 297 #[] w (.agg (am P)):=by
 have hL:=Loc.nil w;have hP:=Hd BT;go_enter func297,ntmps297;go_wp2_with (first|(refine aQq ?_;clear hL;intro _ w1 hL));rw[hP.out]at hL;exact bodyPost_ret (ai rfl hL rfl) rfl ⟨rfl,hL.bel⟩
instance KE:Ent 297:=eo func297
instance KF:FnC 297 #[] (.agg (am P)):=⟨Aa⟩
def eF(n:Nat):Nat→Nat
 | 0=>n
 | k+1=>if eF n k<P then eF n k else eF n k-P
theorem tT(n:Nat):∀k,eF n k≤n
 | 0=>Nat.le_refl _
 | k+1=>by unfold eF;have:=tT n k;split <;> omega
theorem Lb:2^256≤3*P:=by decide +kernel
theorem IN:P<2^255:=by decide +kernel
theorem Ab(n:Nat)(h:n<2^256):eF n 2=n%P:=by
 have h1:=Lb;have hp:=qN;have e:eF n 2=if eF n 1<P then eF n 1 else eF n 1-P:=rfl;have e1:eF n 1=if n<P then n else n-P:=rfl;rw[e,e1];generalize(2:Nat)^256=W,P=p at *
 by_cases a:n<p
 ·rw[if_pos a,if_pos a,Nat.mod_eq_of_lt a]
 ·rw[if_neg a]
  by_cases b:n-p<p
  ·rw[if_pos b,Nat.mod_eq_sub_mod (by omega),Nat.mod_eq_of_lt b]
  ·rw[if_neg b,Nat.mod_eq_sub_mod (by omega),Nat.mod_eq_sub_mod (by omega),Nat.mod_eq_of_lt (by omega)]
theorem tU{n:Nat}(h:n<2^256):bw n P 4=if n<P then 1 else 0:=by
 unfold bw;rw[show 64*4=256 from rfl,Nat.mod_eq_of_lt h,Nat.mod_eq_of_lt (by have:=IN;omega)]
theorem EQ{n:Nat}(h:¬n<P):am (n+2^256-P)=am (n-P):=by
 rw[← dQ (n+2^256-P),← dQ (n-P),show n+2^256-P=n-P+2^256 from by omega,Nat.add_mod_right]
theorem kE(n:Nat)(hn:n<2^256)(w:World):Rt 271 #[.agg (am n)] w (.agg (am (n%P))):=by
 have hL:=Loc.nil w;go_enter func271,ntmps271;go_wp2_with (first|(refine gBp 1 ?_;clear hL;intro b1 w1 hL)|(refine gBp 2 ?_;clear hL;intro b2 w1 hL)|(refine aQq ?_;clear hL;intro _ w1 hL));go_loopw [5] (fun i wr=>∃k:Nat,k≤2∧i= .int .i64 k∧Loc w wr [(b2,am 0,311),(b1,am (eF n k),311)]) (fun i _=>2-(intOf i).toNat);case atStart=>exact⟨0,by omega,rfl,hL⟩
 case round =>
  clear hL;obtain⟨k,hk,rfl,hL⟩:=hrel;by_cases hlt:k<2
  ·have hk1:(k:Int)<2:=by omega
   have hle:=tT n k;have hm:eF n k<2^256:=by omega
   have HS:eF n (k+1)=if eF n k<P then eF n k else eF n k-P:=rfl;generalize eF n k=m at *
   have hlP:P<2^256:=by have:=IN;omega
   by_cases hmp:m<P
   ·haveI:FnC 296 #[.agg (am m),.agg (am P)] (.tuple #[.agg (am (m+2^256-P)),.int .u64 1]):=⟨fun w=>by
     have:=fy m P hm hlP w;rw[tU hm,if_pos hmp]at this;exact this⟩
    rw[if_pos hmp]at HS;generalize hd:m+2^256-P=d at *
    have HT:=Hd HS;clear HS;clear hm hlP hle hd hmp;go_wp2_with fail;refine ar [(0,false),(1,false),(2,false),(3,true),(4,true),(5,true)] [(6,_,311)] [7,8] (by kernel_rfl) (by kernel_rfl) ⟨⟨_,rfl,rfl,rfl⟩,inferInstance,trivial⟩ hL ?_;refine pF ?_;refine fA ?_;refine az fun b=>?_;refine fB ?_;clear hL;intro w1 hL;go_wp2_with (first|(refine aQq ?_;clear hL;intro _ w1 hL));go_roundw;case rel=>exact⟨k+1,by omega,by go_num,by rw[HT.out];exact hL.pop⟩
    case measure=>simp[intOf];omega
   ·haveI:FnC 296 #[.agg (am m),.agg (am P)] (.tuple #[.agg (am (m-P)),.int .u64 0]):=⟨fun w=>by
     have:=fy m P hm hlP w;rw[tU hm,if_neg hmp,EQ hmp]at this;exact this⟩
    rw[if_neg hmp]at HS;generalize m-P=d at *
    have HT:=Hd HS;clear HS;clear hm hlP hle hmp;go_wp2_with fail;refine ar [(0,false),(1,false),(2,false),(3,true),(4,true),(5,true)] [(6,_,311)] [7,8] (by kernel_rfl) (by kernel_rfl) ⟨⟨_,rfl,rfl,rfl⟩,inferInstance,trivial⟩ hL ?_;refine pF ?_;refine fA ?_;refine az fun b=>?_;refine fB ?_;clear hL;intro w1 hL;go_wp2_with (first|(refine aQq ?_;clear hL;intro _ w1 hL));go_roundw;case rel=>exact⟨k+1,by omega,by go_num,by rw[HT.out];exact hL.pop⟩
    case measure=>simp[intOf];omega
  ·obtain rfl:k=2:=by omega
   rw[Ab n hn]at hL;go_wp2_with (first|(refine aQq ?_;clear hL;intro _ w1 hL));exact bodyPost_ret (ai rfl hL rfl) rfl ⟨rfl,hL.bel⟩
instance KG:Ent 271:=eo func271
theorem n8{x:Nat}(h:x<2^64): #[Value.int .u64 (x:Int),Value.int .u64 0,Value.int .u64 0,Value.int .u64 0]=am x:=by
 have e:∀k,0<k→k<4→lw x k=0:=fun k h0 h4=>by
  unfold lw;rw[Nat.div_eq_of_lt (Nat.lt_of_lt_of_le h (Nat.pow_le_pow_right (by omega) (by omega)))]
 have e0:lw x 0=x:=by unfold lw;simp;omega
 show _= #[lv x 0,lv x 1,lv x 2,lv x 3];unfold lv;rw[e0,e 1 (by omega) (by omega),e 2 (by omega) (by omega),e 3 (by omega) (by omega)];rfl
theorem ER{n m:Nat}(hn:n<2^256)(hm:m<2^256):cy n m 4=(n+m)/2^256:=by
 unfold cy;rw[show 64*4=256 from rfl,Nat.mod_eq_of_lt hn,Nat.mod_eq_of_lt hm]
theorem k7(n m:Nat)(hn:n<2^256)(hm:m<2^256)(w:World):Rt 301 #[.agg (am n),.agg (am m)] w (.tuple #[.agg (am ((n+m)%2^256)),.int .u64 ((n+m)/2^256:Nat)]):=by
 rw[dQ,← ER hn hm];exact iq n m w
theorem ES{n c S1 k1:Nat}(h1:n+38*c=S1+2^256*k1):(S1+38*k1)%P=(n+2^256*c)%P:=by
 have e:2^256=38+2*P:=by decide +kernel
 have e2:n+2^256*c=S1+38*k1+P*(2*c+2*k1):=by
  rw[e]at h1 ⊢;generalize P=p at *
  have a1:(38+2*p)*c=38*c+2*p*c:=by rw[Nat.add_mul]
  have a2:(38+2*p)*k1=38*k1+2*p*k1:=by rw[Nat.add_mul]
  have a3:p*(2*c+2*k1)=2*p*c+2*p*k1:=by grind
  omega
 rw[e2,Nat.add_mul_mod_self_left]
theorem tV(n c:Nat)(hn:n<2^256)(hc:c≤1000)(w:World):Rt 300 #[.agg (am n),.int .u64 c] w (.agg (am ((n+2^256*c)%P))):=by
 have hL:=Loc.nil w;have hb:2^64<2^256:=by decide +kernel
 have hb2:(40000:Nat)<2^64:=by decide +kernel
 obtain⟨S1,hS1⟩:∃S,S=(n+38*c)%2^256:=⟨_,rfl⟩;obtain⟨k1,hk1⟩:∃k,k=(n+38*c)/2^256:=⟨_,rfl⟩;have hd:n+38*c=S1+2^256*k1:=by rw[hS1,hk1,Nat.mod_add_div]
 have hS:S1<2^256:=by rw[hS1];exact Nat.mod_lt _ (Nat.two_pow_pos _)
 have hsum:S1+38*k1<2^256∧k1≤1:=by
  generalize(2:Nat)^256=W,(2:Nat)^64=V at *
  have:k1≤1:=by
   rcases Nat.lt_or_ge k1 2 with h|h
   ·omega
   ·have:=Nat.mul_le_mul_left W h;omega
  rcases Nat.lt_or_ge k1 1 with h|h
  ·obtain rfl:k1=0:=by omega
   exact⟨by omega,by omega⟩
  ·obtain rfl:k1=1:=by omega
   exact⟨by omega,by omega⟩
 obtain⟨hs2,hk⟩:=hsum;haveI f1:FnC 301 #[.agg (am n),.agg #[.int .u64 (38*(c:Int)),.int .u64 0,.int .u64 0,.int .u64 0]] (.tuple #[.agg (am S1),.int .u64 (k1:Int)]):=⟨fun w=>by
  have:=k7 n (38*c) hn (by omega) w;rw[← hS1,← hk1,← n8 (x:=38*c) (by omega)]at this;simpa using this⟩
 haveI f2:FnC 301 #[.agg (am S1),.agg #[.int .u64 (38*(k1:Int)),.int .u64 0,.int .u64 0,.int .u64 0]] (.tuple #[.agg (am (S1+38*k1)),.int .u64 0]):=⟨fun w=>by
  have:=k7 S1 (38*k1) hS (by omega) w;rw[Nat.mod_eq_of_lt hs2,Nat.div_eq_of_lt hs2,← n8 (x:=38*k1) (by omega)]at this;simpa using this⟩
 haveI f3:FnC 271 #[.agg (am (S1+38*k1))] (.agg (am ((n+2^256*c)%P))):=⟨fun w=>by
  have:=kE (S1+38*k1) hs2 w;rw[ES hd]at this;exact this⟩
 have c0:(0:Int)≤(c:Int):=by omega
 have c1:(c:Int)≤1000:=by omega
 have d0:(0:Int)≤(k1:Int):=by omega
 have d1:(k1:Int)≤1:=by omega
 generalize(n+2^256*c)%P=R,S1+38*k1=S2 at *
 clear hs2 hk hS hd hS1 hk1 hb hb2 hn hc;go_enter func300,ntmps300;go_wp2_with (first|(refine aQq ?_;clear hL;intro _ w1 hL));exact bodyPost_ret (ai rfl hL rfl) rfl ⟨rfl,hL.bel⟩
instance KH:Ent 300:=eo func300
theorem tW:P+P<2^256:=by decide +kernel
theorem BU(a b:F)(w:World):Rt 274 #[.agg (am a.val),.agg (am b.val)] w (.agg (am (a+b).val)):=by
 have hL:=Loc.nil w;have ha:=a.isLt;have hb:=b.isLt;have hp:=tW;have hs:a.val+b.val<2^256:=by omega
 haveI f1:FnC 301 #[.agg (am a.val),.agg (am b.val)] (.tuple #[.agg (am (a.val+b.val)),.int .u64 0]):=⟨fun w=>by
  have:=k7 a.val b.val (by omega) (by omega) w;rw[Nat.mod_eq_of_lt hs,Nat.div_eq_of_lt hs]at this;exact this⟩
 haveI f2:FnC 300 #[.agg (am (a.val+b.val)),.int .u64 0] (.agg (am (a+b).val)):=⟨fun w=>by
  have:=tV (a.val+b.val) 0 hs (by omega) w;rw[Nat.mul_zero,Nat.add_zero]at this;rw[Fin.val_add];exact this⟩
 generalize(a+b).val=r,a.val+b.val=n at *
 generalize a.val=x,b.val=y at *
 clear ha hb hp hs;go_enter func274,ntmps274;go_wp2_with (first|(refine aQq ?_;clear hL;intro _ w1 hL));exact bodyPost_ret (ai rfl hL rfl) rfl ⟨rfl,hL.bel⟩
instance KI:Ent 274:=eo func274
instance IP(a b:F):FnC 274 #[.agg (am a.val),.agg (am b.val)] (.agg (am (a+b).val)):=⟨BU a b⟩
theorem mz(a b:F)(w:World):Rt 273 #[.agg (am a.val),.agg (am b.val)] w (.agg (am (a-b).val)):=by
 have hL:=Loc.nil w;have ha:=a.isLt;have hb:=b.isLt;have hp:=tW;have hv:(a-b).val=if a.val<b.val then a.val+P-b.val else a.val-b.val:=by
  have:(a-b).val=(P-b.val+a.val)%P:=by rw[Fin.sub_def]
  rw[this];split
  ·rw[show P-b.val+a.val=a.val+P-b.val from by omega,Nat.mod_eq_of_lt (by omega)]
  ·rw[show P-b.val+a.val=a.val-b.val+P from by omega,Nat.add_mod_right,Nat.mod_eq_of_lt (by omega)]
 have hbw:bw a.val b.val 4=if a.val<b.val then 1 else 0:=by
  unfold bw;rw[show 64*4=256 from rfl,Nat.mod_eq_of_lt (by omega),Nat.mod_eq_of_lt (by omega)]
 have hsub:=fy a.val b.val (by omega) (by omega);by_cases hlt:a.val<b.val
 ·rw[if_pos hlt]at hv hbw
  rw[hbw]at hsub;haveI f1:FnC 296 #[.agg (am a.val),.agg (am b.val)] (.tuple #[.agg (am (a.val+2^256-b.val)),.int .u64 1]):=⟨hsub⟩;haveI f2:FnC 301 #[.agg (am (a.val+2^256-b.val)),.agg (am P)] (.tuple #[.agg (am (a-b).val),.int .u64 1]):=⟨fun w=>by
   have:=k7 (a.val+2^256-b.val) P (by omega) (by omega) w;have e:a.val+2^256-b.val+P=(a-b).val+2^256:=by rw[hv];omega
   rw[e,Nat.add_mod_right,Nat.mod_eq_of_lt (by rw[hv];omega),Nat.add_div_right _ (Nat.two_pow_pos _),Nat.div_eq_of_lt (by rw[hv];omega)]at this;exact this⟩
  generalize(a-b).val=r,a.val+2^256-b.val=n at *
  generalize a.val=x,b.val=y at *
  clear ha hb hp hlt hv hbw hsub;go_enter func273,ntmps273;go_wp2_with (first|(refine aQq ?_;clear hL;intro _ w1 hL));refine wf [(0,false),(1,false),(2,false),(3,true),(4,true),(5,true)] [] [6] hL ?_;refine fA ?_;refine fB ?_;clear hL;intro w1 hL;go_wp2_with (first|(refine aQq ?_;clear hL;intro _ w1 hL));exact bodyPost_ret (ai rfl hL rfl) rfl ⟨rfl,hL.bel⟩
 ·rw[if_neg hlt]at hv hbw
  rw[hbw]at hsub;haveI f1:FnC 296 #[.agg (am a.val),.agg (am b.val)] (.tuple #[.agg (am (a-b).val),.int .u64 0]):=⟨fun w=>by
   have:=hsub w;rw[← dQ (a.val+2^256-b.val),show a.val+2^256-b.val=(a-b).val+2^256 from by rw[hv];omega,Nat.add_mod_right,dQ]at this;exact this⟩
  generalize(a-b).val=r,a.val=x,b.val=y at *
  clear ha hb hp hlt hv hbw hsub;go_enter func273,ntmps273;go_wp2_with (first|(refine aQq ?_;clear hL;intro _ w1 hL));exact bodyPost_ret (ai rfl hL rfl) rfl ⟨rfl,hL.bel⟩
instance IQ:Ent 273:=eo func273
instance IR(a b:F):FnC 273 #[.agg (am a.val),.agg (am b.val)] (.agg (am (a-b).val)):=⟨mz a b⟩
end
section
open Go.RowKit
theorem gP(x y:Nat)(hx:x<18446744073709551616)(hy:y<18446744073709551616)(w:World) :
 Rt 144 #[.int .u64 x,.int .u64 y] w (.tuple #[.int .u64 ((x*y/18446744073709551616:Nat):Int),.int .u64 ((x*y%18446744073709551616:Nat):Int)]):=by
 obtain⟨bd,bt,bw,hhi⟩:=Lib.mul64_hi x y hx hy;have ba:=Lib.half_mul_le (a:=x/4294967296) (b:=y/4294967296) (by omega) (by omega);have bb:=Lib.half_mul_le (a:=x/4294967296) (b:=y%4294967296) (by omega) (by omega);have bc:=Lib.half_mul_le (a:=x%4294967296) (b:=y/4294967296) (by omega) (by omega);have ba':x/4294967296*(y/4294967296)<18446744073709551616:=by omega
 have bb':x/4294967296*(y%4294967296)<18446744073709551616:=by omega
 have bc':x%4294967296*(y/4294967296)<18446744073709551616:=by omega
 have bh1:x/4294967296*(y/4294967296)+(x/4294967296*(y%4294967296)+x%4294967296*(y%4294967296)/4294967296)/4294967296<18446744073709551616:=by omega
 have bh:x/4294967296*(y/4294967296)+(x/4294967296*(y%4294967296)+x%4294967296*(y%4294967296)/4294967296)/4294967296+((x/4294967296*(y%4294967296)+x%4294967296*(y%4294967296)/4294967296)%4294967296+x%4294967296*(y/4294967296))/4294967296<18446744073709551616:=by omega
 go_enter func144,ntmps144;go_wp2;simp only[Mul64.maskN x hx,Mul64.maskN y hy,Mul64.divN,Mul64.mulN,Mul64.addN,Mul64.wrapN _ bd,Mul64.wrapN _ bb',Mul64.wrapN _ bt,Mul64.maskN _ bt,Mul64.wrapN _ bc',Mul64.wrapN _ bw,Mul64.wrapN _ ba',Mul64.wrapN _ bh1,Mul64.wrapN _ bh,Mul64.wrapM (x*y)];rw[hhi];go_ret2;exact⟨rfl,Below.refl _ _⟩
instance M6:Ent 144:=eo func144
def oM(n m i:Nat):Nat:=n%2^(64*i)*m
def vM(n m i j:Nat):Nat:=oM n m i+lw n i*2^(64*i)*(m%2^(64*j))
def cM(n m i j:Nat):Nat:=vM n m i j/2^(64*(i+j))-oM n m i/2^(64*(i+j))
def fM(n m i j:Nat):Nat→Value:=fun k=>if k<i+j then lv (vM n m i j) k else lv (oM n m i) k
def n9(n m i j:Nat):Array Value:=row 8 (fM n m i j)
def k8(x:Nat):Array Value:=row 8 (lv x)
theorem p64(k:Nat):2^(64*(k+1))=2^(64*k)*18446744073709551616:=by rw[Nat.mul_succ,Nat.pow_add]
theorem k9(m j:Nat):m%2^(64*(j+1))=m%2^(64*j)+2^(64*j)*lw m j:=by
 unfold lw;rw[p64,Nat.mod_mul]
theorem sc(n m i j:Nat):vM n m i (j+1)=vM n m i j+2^(64*(i+j))*(lw n i*lw m j):=by
 unfold vM;rw[k9,Nat.mul_add 64 i j,Nat.pow_add,Nat.mul_add];generalize lw n i=x;generalize lw m j=y;generalize 2^(64*i)=E;generalize 2^(64*j)=G;grind
theorem eZ(a E p:Nat)(h:0<E):(a+E*p)/E=a/E+p:=Nat.add_mul_div_left a p h
theorem sd(n m i j:Nat):vM n m i j/2^(64*(i+j))=oM n m i/2^(64*(i+j))+cM n m i j:=by
 unfold cM;have:oM n m i/2^(64*(i+j))≤vM n m i j/2^(64*(i+j)):=Nat.div_le_div_right (by unfold vM;omega);omega
theorem Ac(p d c:Nat):((p%18446744073709551616+d)%18446744073709551616+c)%18446744073709551616=(p+d+c)%18446744073709551616 ∧
 p/18446744073709551616+(p%18446744073709551616+d)/18446744073709551616+((p%18446744073709551616+d)%18446744073709551616+c)/18446744073709551616=(p+d+c)/18446744073709551616:=by omega
theorem IS(n m i j:Nat):lw (vM n m i (j+1)) (i+j)=(lw n i*lw m j+lw (oM n m i) (i+j)+cM n m i j)%18446744073709551616:=by
 show vM n m i (j+1)/2^(64*(i+j))%18446744073709551616=_;rw[sc,eZ _ _ _ (Nat.two_pow_pos _),sd];unfold lw;omega
theorem Gj(n m i j:Nat):cM n m i (j+1)=(lw n i*lw m j+lw (oM n m i) (i+j)+cM n m i j)/18446744073709551616:=by
 have h1:=sd n m i (j+1);rw[← Nat.add_assoc,p64,← Nat.div_div_eq_div_mul,← Nat.div_div_eq_div_mul,sc,eZ _ _ _ (Nat.two_pow_pos _),sd]at h1;unfold lw at *
 omega
theorem GO(n m i j k:Nat)(h:k<i+j):lw (vM n m i (j+1)) k=lw (vM n m i j) k:=by
 obtain⟨e,he⟩:∃e,i+j=k+1+e:=⟨i+j-(k+1),by omega⟩;show vM n m i (j+1)/2^(64*k)%18446744073709551616=vM n m i j/2^(64*k)%18446744073709551616;rw[sc,he,Nat.mul_add,Nat.pow_add,p64];generalize lw n i*lw m j=p;rw[Nat.mul_assoc,Nat.mul_assoc,eZ _ _ _ (Nat.two_pow_pos _),Nat.add_mul_mod_self_left]
theorem yx(n m i:Nat):∀j,cM n m i j<18446744073709551616
 | 0=>by unfold cM vM;simp[Nat.mod_one]
 | j+1=>by
  rw[Gj];have h1:=dn n i;have h2:=dn m j;have h3:=dn (oM n m i) (i+j);have h4:=yx n m i j;have:lw n i*lw m j≤18446744073709551615*18446744073709551615:=Nat.mul_le_mul (by omega) (by omega);omega
theorem qO(n m i:Nat):n9 n m i 0=k8 (oM n m i):=ak fun k _=>by
 unfold fM vM;split
 ·simp[Nat.mod_one]
 ·rfl
theorem Ad(n m i j:Nat):row 8 (upd (fM n m i j) (i+j) (.int .u64 (lw (vM n m i (j+1)) (i+j):Nat)))=n9 n m i (j+1):=ak fun k _=>by
 unfold upd fM;by_cases e:k=i+j
 ·subst e;rw[if_pos rfl,if_pos (by omega)];rfl
 ·rw[if_neg e]
  by_cases h:k<i+j
  ·rw[if_pos h,if_pos (by omega)];unfold lv;rw[GO n m i j k h]
  ·rw[if_neg h,if_neg (by omega)]
theorem yy(n m i:Nat)(hm:m<2^256):vM n m i 4=oM n m (i+1):=by
 unfold vM oM;rw[show 64*4=256 from rfl,Nat.mod_eq_of_lt hm,k9,Nat.add_mul,Nat.mul_comm (lw n i)]
theorem BV(n m i k:Nat)(hm:m<2^256)(hk:i+4≤k):oM n m i<2^(64*k):=by
 unfold oM;have h1:=Nat.mod_lt n (Nat.two_pow_pos (64*i));have:n%2^(64*i)*m<2^(64*i)*2^256:=Nat.mul_lt_mul_of_lt_of_lt h1 hm;rw[← Nat.pow_add]at this;exact Nat.lt_of_lt_of_le this (Nat.pow_le_pow_right (by omega) (by omega))
theorem mC{x k:Nat}(h:x<2^(64*k)):lw x k=0:=by unfold lw;rw[Nat.div_eq_of_lt h]
theorem Ae(n m i:Nat)(hm:m<2^256):row 8 (upd (fM n m i 4) (i+4) (.int .u64 (cM n m i 4:Nat)))=n9 n m (i+1) 0:=ak fun k _=>by
 rw[show fM n m (i+1) 0 k=lv (oM n m (i+1)) k from by
  unfold fM;split
  ·unfold vM;simp[Nat.mod_one]
  ·rfl]
 unfold upd fM;by_cases e:k=i+4
 ·subst e
  rw[if_pos rfl];unfold lv;have h1:=sd n m i 4;rw[Nat.div_eq_of_lt (BV n m i (i+4) hm (Nat.le_refl _)),Nat.zero_add]at h1;have:lw (oM n m (i+1)) (i+4)=cM n m i 4:=by
   rw[← yy n m i hm];show vM n m i 4/2^(64*(i+4))%18446744073709551616=_;rw[h1,Nat.mod_eq_of_lt (yx n m i 4)]
  rw[this]
 ·rw[if_neg e]
  by_cases h:k<i+4
  ·rw[if_pos h,yy n m i hm]
  ·rw[if_neg h]
   unfold lv;rw[mC (BV n m i k hm (by omega)),mC (BV n m (i+1) k hm (by omega))]
theorem BW(n m:Nat)(hn:n<2^256):n9 n m 4 0=k8 (n*m):=by
 rw[qO];unfold oM;rw[show 64*4=256 from rfl,Nat.mod_eq_of_lt hn]
theorem ET(n m:Nat):oM n m 0=0:=by unfold oM;simp[Nat.mod_one]
instance M7:RowTy 261 8:=⟨⟨_,underlying261,rfl⟩,by kernel_rfl⟩
instance M8:RowZ 261 (k8 0):=⟨by kernel_rfl⟩
instance M9(x:Nat):Row1 (k8 x) 8:=⟨aQ _ _,by simp[k8,row,lv,Value.oneCell']⟩
theorem nE(n m:Nat)(hn:n<2^256)(hm:m<2^256)(w:World):Rt 298 #[.agg (am n),.agg (am m)] w (.agg (k8 (n*m))):=by
 have hL:=Loc.nil w;have HE:=Hd (BW n m hn);have HF:=Hd (fun i=>Ae n m i hm);clear hn hm;go_enter func298,ntmps298;go_wp2_with (first|(refine gBp 2 ?_;clear hL;intro b2 w1 hL)|(refine gBp 3 ?_;clear hL;intro b3 w1 hL)|(refine gBp 4 ?_;clear hL;intro b4 w1 hL)|(refine gBp 5 ?_;clear hL;intro b5 w1 hL)|(refine aQq ?_;clear hL;intro _ w1 hL));go_loopw [12] (fun i wr=>∃k:Nat,k≤4∧i= .int .i64 k∧Loc w wr [(b5,n9 n m k 0,261),(b4,k8 0,261),(b3,am m,311),(b2,am n,311)]) (fun i _=>4-(intOf i).toNat);case atStart=>exact⟨0,by omega,rfl,by rw[qO,ET];exact hL⟩
 case round =>
  clear hL;obtain⟨i,hi,rfl,hL⟩:=hrel;by_cases hlt:i<4
  ·have hi0:(0:Int)≤(i:Int):=by omega
   have hi1:(i:Int)<4:=by omega
   have c0:=Hd (show cM n m i 0=0 from by unfold cM vM;simp[Nat.mod_one]);go_wp2_with fail;go_loopw [7,15] (fun c jj wr=>∃j:Nat,j≤4∧jj= .int .i64 j∧c= .int .u64 (cM n m i j:Nat)∧Loc w wr [(b5,n9 n m i j,261),(b4,k8 0,261),(b3,am m,311),(b2,am n,311)]) (fun _ jj _=>4-(intOf jj).toNat);case atStart=>exact⟨0,by omega,rfl,by rw[c0.out];rfl,hL⟩
   case round =>
    clear hL;obtain⟨j,hj,rfl,rfl,hL⟩:=hrel;by_cases hjl:j<4
    ·have hj0:(0:Int)≤(j:Int):=by omega
     have hj1:(j:Int)<4:=by omega
     have hx:=dn n i;have hy:=dn m j;have hdl:=dn (oM n m i) (i+j);have hcl:=yx n m i j;have hcl':=yx n m i (j+1);have hlo:=IS n m i j;have hhi:=Gj n m i j;have hst:=Ad n m i j;obtain⟨q1,q2⟩:=Ac (lw n i*lw m j) (lw (oM n m i) (i+j)) (cM n m i j);rw[← hlo]at q1;rw[← hhi]at q2;haveI g1:Cell (am n) i (.int .u64 (lw n i:Nat)):=aI _ hlt;haveI g2:Cell (am m) j (.int .u64 (lw m j:Nat)):=aI _ hjl;haveI g3:Cell (n9 n m i j) (i+j) (.int .u64 (lw (oM n m i) (i+j):Nat)):=⟨(bI _ (by omega)).trans (by unfold fM;rw[if_neg (by omega)];rfl)⟩;haveI g4:Put (n9 n m i j) (i+j) (.int .u64 (lw (vM n m i (j+1)) (i+j):Nat)) (n9 n m i (j+1)):=a9 (by omega) hst;haveI g5:FnC 144 #[.int .u64 (lw n i:Nat),.int .u64 (lw m j:Nat)] (.tuple #[.int .u64 ((lw n i*lw m j/18446744073709551616:Nat):Int),.int .u64 ((lw n i*lw m j%18446744073709551616:Nat):Int)]):=⟨gP _ _ hx hy⟩;have a1:=fE (lw n i*lw m j%18446744073709551616) (lw (oM n m i) (i+j)) 0 (by omega);have a2:=fE ((lw n i*lw m j%18446744073709551616+lw (oM n m i) (i+j))%18446744073709551616) (cM n m i j) 0 (by omega);simp only[Nat.add_zero]at a1 a2;rw[q1]at a2;generalize hp:lw n i*lw m j=p,lw (vM n m i (j+1)) (i+j)=lo2 at *
     generalize hcc:cM n m i (j+1)=c',lw (oM n m i) (i+j)=d,cM n m i j=c at *
     generalize hh:p/18446744073709551616=hi64 at *
     generalize hlo0:p%18446744073709551616=lo at *
     generalize hx1:(lo+d)/18446744073709551616=x1 at *
     generalize hlo1:(lo+d)%18446744073709551616=lo1 at *
     generalize hx2:(lo1+c)/18446744073709551616=x2 at *
     have w1':IntKind.u64.wrap ((hi64:Int)+(x1:Int))=((hi64+x1:Nat):Int):=by rw[IntKind.wrap_u64];omega
     have w2':IntKind.u64.wrap (((hi64+x1:Nat):Int)+(x2:Int))=(c':Int):=by rw[IntKind.wrap_u64];omega
     have hk:(i:Int)+(j:Int)=((i+j:Nat):Int):=by omega
     generalize hij:i+j=k,hi64+x1=h1 at *
     have hk8:(k:Int)<8:=by omega
     have hk0:(0:Int)≤(k:Int):=by omega
     have a1:∀w,(callFunc 299 #[.int .u64 (lo:Int),.int .u64 (d:Int),.int .u64 0]).run prog w=_:=a1;have a2:∀w,(callFunc 299 #[.int .u64 (lo1:Int),.int .u64 (c:Int),.int .u64 0]).run prog w=_:=a2;have HC:=Hd hcc;clear hcc hx hy hdl hcl hcl' hlo hhi hst q1 q2 hp hh hlo0 hx1 hlo1 hx2 hij c0 hi hj HE;go_wp2_with fail;refine wf [(0,true),(1,true),(2,false),(3,true),(4,true),(5,false),(6,false),(7,true),(8,true),(9,true),(10,true),(11,true)] [] [] hL ?_;refine fA ?_;refine fC ?_;clear hL;intro w1 hL;go_wp2_with (first|(refine aQq ?_;clear hL;intro _ w1 hL));go_roundw;case rel=>exact⟨j+1,by omega,by go_num,by rw[HC.out],hL⟩
     case measure=>simp[intOf];omega
    ·obtain rfl:j=4:=by omega
     haveI g4:Put (n9 n m i 4) (i+4) (.int .u64 (cM n m i 4:Nat)) (n9 n m (i+1) 0):=a9 (by omega) (HF.out i);generalize cM n m i 4=c at *
     clear hj hjl hi HE c0;have hk:(i:Int)+4=((i+4:Nat):Int):=by omega
     generalize hij:i+4=k at *
     have hk8:(k:Int)<8:=by omega
     have hk0:(0:Int)≤(k:Int):=by omega
     clear hij;go_wp2_with (first|(refine aQq ?_;clear hL;intro _ w1 hL));go_roundw;case rel=>exact⟨i+1,by omega,by go_num,hL⟩
     case measure=>simp[intOf];omega
  ·obtain rfl:i=4:=by omega
   rw[HE.out]at hL;go_wp2_with (first|(refine aQq ?_;clear hL;intro _ w1 hL));exact bodyPost_ret (ai rfl hL rfl) rfl ⟨rfl,hL.bel⟩
end
end Go.Proofs.YtoifhhljfaoejaaGreatDoor
