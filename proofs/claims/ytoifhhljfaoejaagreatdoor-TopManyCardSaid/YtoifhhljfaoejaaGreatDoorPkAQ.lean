/-
  Lemmas of the law, part 17: the walks of the functions that it calls and the plain facts about them. No condition beyond those written.
-/
import Derived.Test.YtoifhhljfaoejaaGreatDoorPkAA
import Derived.Test.YtoifhhljfaoejaaGreatDoorPkAP
namespace Go.Proofs.YtoifhhljfaoejaaGreatDoor.R3
open Go Go.Proofs.YtoifhhljfaoejaaGreatDoor Go.RowKit
set_option linter.unusedVariables false
set_option linter.unusedSimpArgs false
def El.carried (x:El):El:=⟨carryF x.f,carry_le fun i hi=>by have:=x.h i hi;omega⟩
instance iElM1 (x:El):FnC 190 #[.agg (rowEl x)] (.agg (rowEl x.carried)):=⟨carry_any _ fun i hi=>by have:=x.h i hi;omega⟩
theorem carry_mul (x y:El):FnC 190 #[.agg (rowI 16 (mulO x y))] (.agg (rowI 16 (mulC x y))):=⟨carry_any _ fun i hi=>by have:=mulO_bd x y i hi;omega⟩
theorem carry_mul2 (x y:El):FnC 190 #[.agg (rowI 16 (mulC x y))] (.agg (rowEl (x.mul y))):=⟨carry_any _ fun i hi=>by
 rcases Nat.eq_zero_or_pos i with e | e
 ·subst e;have:=mulC_bd0 x y;omega
 ·have:=mulC_bd1 x y i e;omega⟩
set_option maxRecDepth 100000 in
set_option maxHeartbeats 2000000 in
theorem mul_any (x y:El) (w:World):Calls Tryz.prog 130 #[.agg (rowEl x),.agg (rowEl y)] w fun e w'=>e= .returned (.agg (rowEl (x.mul y)))∧Below w.heap.size w w':=by
 have hL:=Loc.nil w
 haveI f1:=carry_mul x y
 haveI f2:=carry_mul2 x y
 obtain ⟨T,hT⟩:∃ T,T=tM x.f y.f 16 0:=⟨_,rfl⟩
 have HO:=Lib.hid (show mulO x y=oF T from by rw [hT];rfl)
 have HTB:=Lib.hid (show ∀ j,-274877906944≤T j∧T j≤274877906944 from fun j=>by rw [hT];exact tM_lim x.h y.h 16 0 (by omega) (by omega) (.inr rfl) j)
 have HT:=Lib.hid hT
 clear hT
 have HZ:=Lib.hid (show rowI 31 (fun _=>0)=rowI 31 (tM x.f y.f 0 0) from by rw [tM_zero])
 have HX:=Lib.hid x.h
 have HY:=Lib.hid y.h
 have HLIM:=Lib.hid (tM_lim x.h y.h)
 have HX':=Lib.hid (show rowEl x=rowI 16 x.f from rfl)
 have HY':=Lib.hid (show rowEl y=rowI 16 y.f from rfl)
 rw [HX'.out,HY'.out]
 generalize mulC x y=mc at *
 generalize mulO x y=mo at *
 go_enter Tryz.func130,Tryz.ntmps130
 go_wp2_with (first | ((with_reducible refine gS 2 ?_);refine aBp ?_;clear hL;intro b2 w1 hL) | ((with_reducible refine gS 3 ?_);refine aBp ?_;clear hL;intro b3 w1 hL) | ((with_reducible refine gS 4 ?_);refine aBp ?_;clear hL;intro b4 w1 hL) | ((with_reducible refine gS 5 ?_);refine aBp ?_;clear hL;intro b5 w1 hL) | (refine aL4S2C9q ?_;clear hL;intro w1 hL) | (refine aX1A1q ?_;clear hL;intro b w1 hL))
 rw [HZ.out] at hL
 go_loopw [6] (fun kk wr=>∃ i:Nat,i≤16∧kk= .int .i64 i∧Loc w wr [(b5,rowI 31 (tM x.f y.f i 0),265),(b4,rowI 16 fun _=>0,147),(b3,rowI 16 y.f,147),(b2,rowI 16 x.f,147)]) (fun kk _=>16 - (intOf kk).toNat)
 case atStart=>exact ⟨0,by omega,rfl,hL⟩
 case round =>
  clear hL
  obtain ⟨i,hi,rfl,hL⟩:=hrel
  by_cases hlt:i<16
  ·have hi0:(0:Int)≤(i:Int):=by omega
   have hi1:(i:Int)<16:=by omega
   go_wp2_with (first | (refine aL4S2C9q ?_;clear hL;intro w1 hL) | (refine aX1A1q ?_;clear hL;intro b w1 hL))
   go_loopw [7] (fun kk wr=>∃ k:Nat,k≤16∧kk= .int .i64 k∧Loc w wr [(b5,rowI 31 (tM x.f y.f i k),265),(b4,rowI 16 fun _=>0,147),(b3,rowI 16 y.f,147),(b2,rowI 16 x.f,147)]) (fun kk _=>16 - (intOf kk).toNat)
   case atStart=>exact ⟨0,by omega,rfl,hL⟩
   case round =>
    clear hL
    obtain ⟨k,hk,rfl,hL⟩:=hrel
    by_cases hkl:k<16
    ·have hk0:(0:Int)≤(k:Int):=by omega
     have hk1:(k:Int)<16:=by omega
     have ht:=HLIM.out i k hi (by omega) (.inl hlt) (i+k)
     have hm:=mul_bd (HX.out i hlt) (HY.out k hkl)
     haveI g1:Cell (rowI 31 (tM x.f y.f i k)) (i+k) (.int .i64 (tM x.f y.f i k (i+k))):=cellI _ (by omega)
     haveI g2:Cell (rowI 16 x.f) i (.int .i64 (x.f i)):=cellI _ hlt
     haveI g3:Cell (rowI 16 y.f) k (.int .i64 (y.f k)):=cellI _ hkl
     haveI g4:Put (rowI 31 (tM x.f y.f i k)) (i+k) (.int .i64 (tM x.f y.f i k (i+k)+x.f i*y.f k)) (rowI 31 (tM x.f y.f i (k+1))):=putI (by omega) fun j hj=>by
      rw [tM_step]
      simp only
      by_cases e:j=i+k
      ·subst e;simp only [if_true]
      ·rw [if_neg e,if_neg e]
     generalize tM x.f y.f i k=s at *
     have hik:(i:Int)+(k:Int)=((i+k:Nat):Int):=by omega
     have hk31:((i+k:Nat):Int)<31:=by omega
     have hk30:(0:Int)≤((i+k:Nat):Int):=by omega
     have wk:IntKind.i64.wrap ((i+k:Nat):Int)=((i+k:Nat):Int):=IntWalk.i64_in _ (by omega)
     generalize i+k=q at *
     generalize s q=t at *
     generalize x.f=xf at *
     generalize y.f=yf at *
     generalize hp:xf i*yf k=p at *
     have wp:IntKind.i64.wrap p=p:=IntWalk.i64_in _ (by omega)
     have wt:IntKind.i64.wrap (t+p)=t+p:=IntWalk.i64_in _ (by omega)
     generalize xf i=u at *
     generalize yf k=v at *
     clear HO HTB HT HZ HX HY HLIM HX' HY'
     go_wp2_with fail
     refine wp_region_free [(0,true),(1,true),(2,true),(3,true),(4,true),(5,true),(6,true),(7,false),(8,true),(9,true),(10,false),(11,true),(12,true),(13,false),(14,true),(15,true),(16,true)] [] [17] (by kernel_rfl) (by kernel_rfl) trivial hL ?_
     refine pF ?_
     repeat refine rS ?_
     refine seqO_nil ?_
     refine seqM_nil fun w1 hL1=>?_
     simp only [List.cons_append,List.nil_append] at hL1
     clear hL;have hL:=hL1;clear hL1
     refine p4 ?_
     refine pG ?_
     repeat (refine rW ?_;clear hL;intro w1 hL)
     refine wpList_nil (NoPanic.normal ?_)
     go_wp2_with (first | (refine aL4S2C9q ?_;clear hL;intro w1 hL) | (refine aX1A1q ?_;clear hL;intro b w1 hL))
     go_roundw
     case rel=>exact ⟨k+1,by omega,by go_num,hL⟩
     case measure=>simp [intOf];omega
    ·obtain rfl:k=16:=by omega
     rw [← tM_row] at hL
     go_wp2_with (first | (refine aL4S2C9q ?_;clear hL;intro w1 hL) | (refine aX1A1q ?_;clear hL;intro b w1 hL))
     go_roundw
     case rel=>exact ⟨i+1,by omega,by go_num,hL⟩
     case measure=>simp [intOf];omega
  ·obtain rfl:i=16:=by omega
   rw [← HT.out] at hL
   have HOE:=Lib.hid (show ∀ j,(fun k j=>if j<k then oF T j else 0) 16 j=(fun k j=>if j<k then oF T j else 0) 16 j from fun _=>rfl)
   obtain ⟨D,hD⟩:∃ D:Nat→Nat→Int,D=fun k i=>if i<k then oF T i else 0:=⟨_,rfl⟩
   have HD:=Lib.hid hD
   have HZ2:=Lib.hid (show rowI 16 (fun _=>0)=rowI 16 (D 0) from rowI_congr fun i _=>by rw [hD];simp)
   have HE:=Lib.hid (show rowI 16 (D 16)=rowI 16 mo from rowI_congr fun i hi=>by rw [hD,HO.out];simp only;rw [if_pos hi])
   clear hD HZ HX HY HLIM HX' HY' HOE
   generalize x.f=xf at *
   generalize y.f=yf at *
   go_wp2_with (first | ((with_reducible refine gS 8 ?_);refine aBp ?_;clear hL;intro b8 w1 hL) | (refine aL4S2C9q ?_;clear hL;intro w1 hL) | (refine aX1A1q ?_;clear hL;intro b w1 hL))
   go_loopw [9] (fun kk wr=>∃ k:Nat,k≤16∧kk= .int .i64 k∧Loc w wr [(b8,rowI 16 (D k),147),(b5,rowI 31 T,265),(b4,rowI 16 fun _=>0,147),(b3,rowI 16 yf,147),(b2,rowI 16 xf,147)]) (fun kk _=>16 - (intOf kk).toNat)
   case atStart=>exact ⟨0,by omega,rfl,by rw [← HZ2.out];exact hL⟩
   case round =>
    clear hL hlt hi
    obtain ⟨k,hk,rfl,hL⟩:=hrel
    by_cases hkl:k<16
    ·have hk0:(0:Int)≤(k:Int):=by omega
     have hk1:(k:Int)<16:=by omega
     have h1:=HTB.out k
     have h2:=HTB.out (k+16)
     obtain ⟨mid,hmid⟩:∃ mid:Nat→Int,mid=fun i=>if i=k then T k else D k i:=⟨_,rfl⟩
     haveI g1:Cell (rowI 31 T) k (.int .i64 (T k)):=cellI _ (by omega)
     haveI g2:Put (rowI 16 (D k)) k (.int .i64 (T k)) (rowI 16 mid):=putI hkl fun i hi=>by rw [hmid]
     by_cases h15:k<15
     ·haveI g3:Cell (rowI 31 T) (k+16) (.int .i64 (T (k+16))):=cellI _ (by omega)
      haveI g4:Cell (rowI 16 mid) k (.int .i64 (T k)):=by
       have:mid k=T k:=by rw [hmid];simp
       rw [← this];exact cellI _ hkl
      haveI g5:Put (rowI 16 mid) k (.int .i64 (T k+38*T (k+16))) (rowI 16 (D (k+1))):=putI hkl fun i hi=>by
       rw [hmid,HD.out]
       simp only
       by_cases e:i=k
       ·subst e;rw [if_pos rfl,if_pos (by omega)];unfold oF;rw [if_pos h15]
       ·rw [if_neg e,if_neg e]
        by_cases h:i<k
        ·rw [if_pos h,if_pos (by omega)]
        ·rw [if_neg h,if_neg (by omega)]
      clear hmid
      have w1:IntKind.i64.wrap (38*T (k+16))=38*T (k+16):=IntWalk.i64_in _ (by omega)
      have w2:IntKind.i64.wrap (T k+38*T (k+16))=T k+38*T (k+16):=IntWalk.i64_in _ (by omega)
      have h15':(k:Int)<15:=by omega
      have wk:(k:Int)+16=((k+16:Nat):Int):=by omega
      have hq1:((k+16:Nat):Int)<31:=by omega
      have hq0:(0:Int)≤((k+16:Nat):Int):=by omega
      have ww:IntKind.i64.wrap ((k+16:Nat):Int)=((k+16:Nat):Int):=IntWalk.i64_in _ (by omega)
      generalize k+16=q at *
      generalize T q=u at *
      generalize T k=v at *
      generalize D k=s at *
      clear HO HTB HT HZ2 HE HD
      go_wp2_with (first | (refine aL4S2C9q ?_;clear hL;intro w1 hL) | (refine aX1A1q ?_;clear hL;intro b w1 hL))
      refine wp_region_free [(0,true),(1,true),(2,true),(3,false),(4,true),(5,true),(6,true),(7,false),(8,true),(9,true),(10,true)] [] [11] (by kernel_rfl) (by kernel_rfl) trivial hL ?_
      refine pF ?_
      repeat refine rS ?_
      refine seqO_nil ?_
      refine seqM_nil fun w1 hL1=>?_
      simp only [List.cons_append,List.nil_append] at hL1
      clear hL;have hL:=hL1;clear hL1
      refine p4 ?_
      refine pG ?_
      repeat (refine rW ?_;clear hL;intro w1 hL)
      refine wpList_nil (NoPanic.normal ?_)
      go_wp2_with (first | (refine aL4S2C9q ?_;clear hL;intro w1 hL) | (refine aX1A1q ?_;clear hL;intro b w1 hL))
      go_roundw
      case rel=>exact ⟨k+1,by omega,by go_num,hL⟩
      case measure=>simp [intOf];omega
     ·obtain rfl:k=15:=by omega
      have HM:=Lib.hid (show rowI 16 mid=rowI 16 (D 16) from rowI_congr fun i hi=>by
       rw [hmid,HD.out]
       simp only
       by_cases e:i=15
       ·subst e;rw [if_pos rfl,if_pos (by omega)];unfold oF;rw [if_neg (by omega)]
       ·rw [if_neg e,if_pos (by omega),if_pos (by omega)])
      clear hmid
      generalize T 15=v at *
      generalize D 15=s at *
      go_wp2_with (first | (refine aL4S2C9q ?_;clear hL;intro w1 hL) | (refine aX1A1q ?_;clear hL;intro b w1 hL))
      go_roundw
      case rel=>exact ⟨16,by omega,by go_num,by rw [← HM.out];exact hL⟩
      case measure=>simp [intOf]
    ·obtain rfl:k=16:=by omega
     rw [HE.out] at hL
     go_wp2_with (first | (refine aL4S2C9q ?_;clear hL;intro w1 hL) | (refine aX1A1q ?_;clear hL;intro b w1 hL))
     exact bodyPost_ret (results_loc rfl hL rfl) rfl ⟨rfl,hL.bel⟩
instance iElM2:Ent 130:=Ent.of Tryz.func130 (by kernel_rfl) rfl
instance iElM3 (x y:El):FnC 130 #[.agg (rowEl x),.agg (rowEl y)] (.agg (rowEl (x.mul y))):=⟨mul_any x y⟩
theorem put_one (n:Nat) (h:n<65536):Put (rowI 16 fun _=>0) 0 (.int .i64 (n:Int)) (rowEl (El.of n)):=putI (by omega) fun i hi=>by
 show _=(dg n i:Int)
 unfold dg
 by_cases e:i=0
 ·subst e;rw [if_pos rfl,Nat.mul_zero,Nat.pow_zero,Nat.div_one,Nat.mod_eq_of_lt h]
 ·rw [if_neg e,Nat.div_eq_of_lt (Nat.lt_of_lt_of_le h (Nat.le_trans (show 65536≤2 ^ 16 by omega) (Nat.pow_le_pow_right (by omega) (by omega))))]
  rfl
set_option maxRecDepth 100000 in
set_option maxHeartbeats 400000 in
theorem one_any (w:World):Calls Tryz.prog 132 #[.int .i64 1] w fun e w'=>e= .returned (.agg (rowEl El.one))∧Below w.heap.size w w':=by
 have hL:=Loc.nil w
 haveI g1:Put (rowI 16 fun _=>0) 0 (.int .i64 1) (rowEl El.one):=put_one 1 (by omega)
 go_enter Tryz.func132,Tryz.ntmps132
 go_wp2_with (first | (refine aL4S2C9q ?_;clear hL;intro w1 hL) | (refine aX1A1q ?_;clear hL;intro b w1 hL))
 exact bodyPost_ret (results_loc rfl hL rfl) rfl ⟨rfl,hL.bel⟩
instance iElM4:Ent 132:=Ent.of Tryz.func132 (by kernel_rfl) rfl
instance iElM5:FnC 132 #[.int .i64 1] (.agg (rowEl El.one)):=⟨one_any⟩
end Go.Proofs.YtoifhhljfaoejaaGreatDoor.R3
namespace Go.Proofs.YtoifhhljfaoejaaGreatDoor.R3
open Go Go.Proofs.YtoifhhljfaoejaaGreatDoor Go.RowKit
set_option linter.unusedVariables false
set_option linter.unusedSimpArgs false
theorem out4_carried (x:El):rowEl x.carried.carried.carried.carried=rowI 16 (fun i=>(dg (outN x) i:Int)):=rowI_congr fun i hi=>outN_dg x i hi
theorem dgP_mid:∀ i:Fin 16,0<i.val→i.val<15→dg P i.val=65535:=by decide +kernel
theorem dgP_0:dg P 0=65517:=by decide +kernel
theorem dgP_15:dg P 15=32767:=by decide +kernel
theorem raw_zero (n:Nat):rawM n 0=(dg n 0:Int) - 65517:=by
 unfold rawM
 rw [dgP_0]
 show _ - _ - (0:Int)=_
 omega
theorem raw_mid (n:Nat) {i:Nat} (h0:0<i) (h:i<15):rawM n i=(dg n i:Int) - 65535 - bits .and .i64 (rawM n (i - 1) / 65536) 1:=by
 obtain ⟨k,rfl⟩:∃ k,i=k+1:=⟨i - 1,by omega⟩
 rw [show k+1 - 1=k from rfl,and_one,bo_succ]
 have:=dgP_mid ⟨k+1,by omega⟩ (by simp) (by simpa using h)
 simp only at this
 unfold rawM
 rw [this]
 rfl
theorem raw_last (n:Nat):rawM n 15=(dg n 15:Int) - 32767 - bits .and .i64 (rawM n 14 / 65536) 1:=by
 rw [and_one,bo_succ]
 unfold rawM
 rw [dgP_15]
 rfl
def stM' (n k i:Nat):Int:=if i=k then rawM n k else stM n k i
theorem stM_prev (n:Nat) {k:Nat} (h:0<k):stM n k (k - 1)=rawM n (k - 1):=by
 unfold stM
 rw [if_neg (by omega),if_pos (by omega)]
theorem put_raw (n:Nat) {k:Nat} (h:k<16) (x:Int) (e:rawM n k=x):Put (rowI 16 (stM n k)) k (.int .i64 x) (rowI 16 (stM' n k)):=putI h fun i hi=>by
 unfold stM'
 rw [e]
theorem put_msk (n:Nat) {k:Nat} (h0:0<k) (h:k<16):Put (rowI 16 (stM' n k)) (k - 1) (.int .i64 (bits .and .i64 (rawM n (k - 1)) 65535)) (rowI 16 (stM n (k+1))):=putI (by omega) fun i hi=>by
 rw [and_65535]
 unfold stM' stM
 by_cases e:i=k - 1
 ·subst e
  rw [if_pos rfl,if_pos (by omega)]
 ·rw [if_neg e]
  by_cases e2:i=k
  ·subst e2;rw [if_pos rfl,if_neg (by omega),if_pos rfl]
  ·rw [if_neg e2]
   by_cases h3:i+1<k
   ·rw [if_pos h3,if_pos (by omega)]
   ·rw [if_neg h3,if_neg (by omega),if_neg (by omega),if_neg (by omega)]
theorem stM_16 (n:Nat) (h:n<2 ^ 256) (hp:P≤n):rowI 16 (stM n 16)=rowI 16 (fun i=>(dg (offP n) i:Int)):=rowI_congr fun i hi=>by
 have h0:=(sub_sign h).2 hp
 have h1:=sub_dg h hp i hi
 rw [offP_pos hp,← h1]
 unfold stM
 by_cases e:i+1<16
 ·rw [if_pos e]
 ·rw [if_neg e,if_pos (by omega)]
  obtain rfl:i=15:=by omega
  have:=rawM_bd n 15
  omega
def byK (n k:Nat):Nat→BitVec 8:=fun i=>if i<2*k then byteN n i else 0
def byK' (n k:Nat):Nat→BitVec 8:=fun i=>if i<2*k+1 then byteN n i else 0
theorem put_b0 (n k:Nat) (h:k<16):Put (rowB 32 (byK n k)) (2*k) (.int .u8 (B8 (byteN n (2*k)))) (rowB 32 (byK' n k)):=row_put (by omega) (row_congr fun i _=>by
 unfold upd byK byK'
 by_cases e:i=2*k
 ·subst e;rw [if_pos rfl,if_pos (by omega)]
 ·rw [if_neg e]
  show Value.int .u8 (B8 (if i<2*k then byteN n i else 0))=_
  by_cases h:i<2*k
  ·rw [if_pos h,if_pos (by omega)]
  ·rw [if_neg h,if_neg (by omega)])
theorem put_b1 (n k:Nat) (h:k<16):Put (rowB 32 (byK' n k)) (2*k+1) (.int .u8 (B8 (byteN n (2*k+1)))) (rowB 32 (byK n (k+1))):=row_put (by omega) (row_congr fun i _=>by
 unfold upd byK byK'
 by_cases e:i=2*k+1
 ·subst e;rw [if_pos rfl,if_pos (by omega)]
 ·rw [if_neg e]
  show Value.int .u8 (B8 (if i<2*k+1 then byteN n i else 0))=_
  by_cases h:i<2*k+1
  ·rw [if_pos h,if_pos (by omega)]
  ·rw [if_neg h,if_neg (by omega)])
set_option maxRecDepth 100000 in
set_option maxHeartbeats 2000000 in
theorem out_any (x:El) (w:World):Calls Tryz.prog 129 #[.agg (rowEl x)] w fun e w'=>e= .returned (.agg (rowB 32 (byteN x.v.val)))∧Below w.heap.size w w':=by
 have hL:=Loc.nil w
 have HC:=Lib.hid (out4_carried x)
 have HFIN:=Lib.hid (show offP (offP (offP (outN x)))=x.v.val from by rw [offP_three (outN_lt x),outN_mod])
 have hN0:=outN_lt x
 generalize outN x=N0 at *
 obtain ⟨N,hN,hNs,hNe⟩:∃ N:Nat→Nat,N 0=N0∧(∀ k,N (k+1)=offP (N k))∧N 3=x.v.val:=⟨fun k=>Nat.rec N0 (fun _ n=>offP n) k,rfl,fun _=>rfl,HFIN.out⟩
 have hNlt:∀ k,N k<2 ^ 256:=fun k=>by
  induction k with
  | zero=>rw [hN];exact hN0
  | succ k ih=>rw [hNs];exact offP_lt ih
 rw [← hN] at HC
 rw [← hNe]
 have HN:=Lib.hid hNs
 have HLT:=Lib.hid hNlt
 clear hN hNs hNe hNlt hN0 HFIN
 go_enter Tryz.func129,Tryz.ntmps129
 go_wp2_with (first | ((with_reducible refine gS 1 ?_);refine aBp ?_;clear hL;intro b1 w1 hL) | ((with_reducible refine gS 2 ?_);refine aBp ?_;clear hL;intro b2 w1 hL) | (refine aL4S2C9q ?_;clear hL;intro w1 hL) | (refine aX1A1q ?_;clear hL;intro b w1 hL))
 rw [HC.out] at hL
 clear HC
 go_loopw [3] (fun kk wr=>∃ k:Nat,k≤3∧kk= .int .i64 k∧Loc w wr [(b2,rowB 32 fun _=>0,24),(b1,rowI 16 (fun i=>(dg (N k) i:Int)),147)]) (fun kk _=>3 - (intOf kk).toNat)
 case atStart=>exact ⟨0,by omega,rfl,hL⟩
 case round =>
  clear hL
  obtain ⟨k,hk,rfl,hL⟩:=hrel
  by_cases hlt:k<3
  ·have hk0:(0:Int)≤(k:Int):=by omega
   have hk1:(k:Int)<3:=by omega
   have hn:=HLT.out k
   have HNk:=Lib.hid (HN.out k)
   generalize N k=n at *
   have d0:=dg_lt n 0
   have d15:=dg_lt n 15
   haveI g1:Cell (rowI 16 (fun i=>(dg n i:Int))) 0 (.int .i64 (dg n 0:Nat)):=cellI _ (by omega)
   haveI g2:Put (rowI 16 fun _=>0) 0 (.int .i64 ((dg n 0:Nat) - 65517)) (rowI 16 (stM n 1)):=putI (by omega) fun i hi=>by
    unfold stM
    by_cases e:i=0
    ·subst e;rw [if_pos rfl,if_neg (by omega),if_pos rfl,raw_zero]
    ·rw [if_neg e,if_neg (by omega),if_neg (by omega)]
   haveI g3:Cell (rowI 16 (fun i=>(dg n i:Int))) 15 (.int .i64 (dg n 15:Nat)):=cellI _ (by omega)
   haveI g4:Cell (rowI 16 (stM n 15)) 14 (.int .i64 (rawM n 14)):=by
    rw [← stM_prev n (k:=15) (by omega)];exact cellI _ (by omega)
   haveI g5:Put (rowI 16 (stM n 15)) 15 (.int .i64 ((dg n 15:Nat) - 32767 - bits .and .i64 (rawM n 14 / 65536) 1)) (rowI 16 (stM' n 15)):=put_raw n (by omega) _ (raw_last n)
   haveI g6:Put (rowI 16 (stM' n 15)) 14 (.int .i64 (bits .and .i64 (rawM n 14) 65535)) (rowI 16 (stM n 16)):=put_msk n (k:=15) (by omega) (by omega)
   haveI g7:Cell (rowI 16 (stM n 16)) 15 (.int .i64 (rawM n 15)):=by
    rw [← stM_prev n (k:=16) (by omega)];exact cellI _ (by omega)
   haveI g8:Cell (rowI 16 (stM' n 15)) 14 (.int .i64 (rawM n 14)):=by
    have:stM' n 15 14=rawM n 14:=by unfold stM';rw [if_neg (by omega),stM_prev n (k:=15) (by omega)]
    rw [← this];exact cellI _ (by omega)
   have hb:=bo_succ n 14
   have hb':=bo_bd n 15
   have ha:=and_one (rawM n 14 / 65536)
   have w0:IntKind.i64.wrap ((dg n 0:Nat) - 65517)=(dg n 0:Nat) - 65517:=IntWalk.i64_in _ (by omega)
   have w1:IntKind.i64.wrap ((dg n 15:Nat) - 32767)=(dg n 15:Nat) - 32767:=IntWalk.i64_in _ (by omega)
   have w2:IntKind.i64.wrap ((dg n 15:Nat) - 32767 - bits .and .i64 (rawM n 14 / 65536) 1)=(dg n 15:Nat) - 32767 - bits .and .i64 (rawM n 14 / 65536) 1:=IntWalk.i64_in _ (by omega)
   clear hb hb' ha
   go_wp2_with (first | ((with_reducible refine gS 4 ?_);refine aBp ?_;clear hL;intro b4 w1 hL) | (refine aL4S2C9q ?_;clear hL;intro w1 hL) | (refine aX1A1q ?_;clear hL;intro b w1 hL))
   go_loopw [5] (fun kk wr=>∃ i:Nat,1≤i∧i≤15∧kk= .int .i64 i∧Loc w wr [(b4,rowI 16 (stM n i),147),(b2,rowB 32 fun _=>0,24),(b1,rowI 16 (fun i=>(dg n i:Int)),147)]) (fun kk _=>15 - (intOf kk).toNat)
   case atStart=>exact ⟨1,by omega,by omega,rfl,hL⟩
   case round =>
    clear hL
    obtain ⟨i,hi1,hi,rfl,hL⟩:=hrel
    by_cases hil:i<15
    ·have hi0:(1:Int)≤(i:Int):=by omega
     have hi2:(i:Int)<15:=by omega
     have i00:(0:Int)≤(i:Int):=by omega
     have i16:(i:Int)<16:=by omega
     haveI g1:Cell (rowI 16 (fun i=>(dg n i:Int))) i (.int .i64 (dg n i:Nat)):=cellI (fun i=>(dg n i:Int)) (by omega)
     haveI g2:Cell (rowI 16 (stM n i)) (i - 1) (.int .i64 (rawM n (i - 1))):=by
      rw [← stM_prev n (k:=i) (by omega)];exact cellI _ (by omega)
     haveI g3:Put (rowI 16 (stM n i)) i (.int .i64 ((dg n i:Nat) - 65535 - bits .and .i64 (rawM n (i - 1) / 65536) 1)) (rowI 16 (stM' n i)):=put_raw n (by omega) _ (raw_mid n (by omega) hil)
     haveI g4:Put (rowI 16 (stM' n i)) (i - 1) (.int .i64 (bits .and .i64 (rawM n (i - 1)) 65535)) (rowI 16 (stM n (i+1))):=put_msk n (by omega) (by omega)
     haveI g5:Cell (rowI 16 (stM' n i)) (i - 1) (.int .i64 (rawM n (i - 1))):=by
      have:stM' n i (i - 1)=rawM n (i - 1):=by unfold stM';rw [if_neg (by omega),stM_prev n (by omega)]
      rw [← this];exact cellI _ (by omega)
     have hd:=dg_lt n i
     have ha:=and_one (rawM n (i - 1) / 65536)
     have w1:IntKind.i64.wrap ((dg n i:Nat) - 65535)=(dg n i:Nat) - 65535:=IntWalk.i64_in _ (by omega)
     have w2:IntKind.i64.wrap ((dg n i:Nat) - 65535 - bits .and .i64 (rawM n (i - 1) / 65536) 1)=(dg n i:Nat) - 65535 - bits .and .i64 (rawM n (i - 1) / 65536) 1:=IntWalk.i64_in _ (by omega)
     have wi:IntKind.i64.wrap ((i - 1:Nat):Int)=((i - 1:Nat):Int):=by rw [IntKind.wrap_i64];omega
     have q0:(0:Int)≤((i - 1:Nat):Int):=by omega
     have q1:((i - 1:Nat):Int)<16:=by omega
     have e1:(i:Int) - 1=((i - 1:Nat):Int):=by omega
     clear ha hd
     generalize i - 1=j at *
     generalize rawM n j=r at *
     generalize stM' n i=m at *
     generalize stM n i=s at *
     generalize dg n i=d at *
     go_wp2_with fail
     refine wp_region_free [(0,true),(1,true),(2,true),(3,false),(4,true),(5,true),(6,true),(7,true),(8,false),(9,true),(10,true),(11,true),(12,true)] [] [13] (by kernel_rfl) (by kernel_rfl) trivial hL ?_
     refine pF ?_
     repeat refine rS ?_
     refine seqO_nil ?_
     refine seqM_nil fun w1 hL1=>?_
     simp only [List.cons_append,List.nil_append] at hL1
     clear hL;have hL:=hL1;clear hL1
     refine p4 ?_
     refine pG ?_
     repeat (refine rW ?_;clear hL;intro w1 hL)
     refine wpList_nil (NoPanic.normal ?_)
     go_wp2_with (first | (refine aL4S2C9q ?_;clear hL;intro w1 hL) | (refine aX1A1q ?_;clear hL;intro b w1 hL))
     go_roundw
     case rel=>exact ⟨i+1,by omega,by omega,by go_num,hL⟩
     case measure=>simp [intOf];omega
    ·obtain rfl:i=15:=by omega
     by_cases hp:P≤n
     ·have hs:0≤rawM n 15:=(sub_sign hn).2 hp
      have HS:=Lib.hid (stM_16 n hn hp)
      rw [← HNk.out] at HS
      generalize rawM n 15=r at *
      go_wp2_with (first | (refine aL4S2C9q ?_;clear hL;intro w1 hL) | (refine aX1A1q ?_;clear hL;intro b w1 hL))
      go_roundw
      case rel=>exact ⟨k+1,by omega,by go_num,by rw [HS.out] at hL;exact hL.pop⟩
      case measure=>simp [intOf];omega
     ·have hs:¬ 0≤rawM n 15:=fun h=>hp ((sub_sign hn).1 h)
      have HS:=Lib.hid (show N (k+1)=n from by rw [HNk.out,offP_neg hp])
      generalize rawM n 15=r at *
      go_wp2_with (first | (refine aL4S2C9q ?_;clear hL;intro w1 hL) | (refine aX1A1q ?_;clear hL;intro b w1 hL))
      go_roundw
      case rel=>exact ⟨k+1,by omega,by go_num,by rw [HS.out];exact hL.pop⟩
      case measure=>simp [intOf];omega
  ·obtain rfl:k=3:=by omega
   clear HN HLT hlt hk
   have HB0:=Lib.hid (show (rowB 32 fun _=>0)=rowB 32 (byK (N 3) 0) from row_congr fun i _=>by unfold byK;rw [if_neg (by omega)])
   have HB16:=Lib.hid (show rowB 32 (byK (N 3) 16)=rowB 32 (byteN (N 3)) from row_congr fun i hi=>by unfold byK;rw [if_pos (by omega)])
   go_wp2_with (first | ((with_reducible refine gS 6 ?_);refine aBp ?_;clear hL;intro b6 w1 hL) | (refine aL4S2C9q ?_;clear hL;intro w1 hL) | (refine aX1A1q ?_;clear hL;intro b w1 hL))
   go_loopw [7] (fun kk wr=>∃ k:Nat,k≤16∧kk= .int .i64 k∧Loc w wr [(b6,rowB 32 (byK (N 3) k),24),(b2,rowB 32 fun _=>0,24),(b1,rowI 16 (fun i=>(dg (N 3) i:Int)),147)]) (fun kk _=>16 - (intOf kk).toNat)
   case atStart=>exact ⟨0,by omega,rfl,by rw [← HB0.out];exact hL⟩
   case round =>
    clear hL
    obtain ⟨k,hk,rfl,hL⟩:=hrel
    by_cases hlt:k<16
    ·have hk0:(0:Int)≤(k:Int):=by omega
     have hk1:(k:Int)<16:=by omega
     have hd:=dg_lt (N 3) k
     have v0:=byte_even (N 3) k
     have v1:=byte_odd (N 3) k
     have a0:=and_255 (dg (N 3) k:Nat)
     have a1:=and_255 ((dg (N 3) k:Nat) / 256:Int)
     have p0:=put_b0 (N 3) k hlt
     have p1:=put_b1 (N 3) k hlt
     rw [← v0,← a0] at p0
     rw [← v1,← a1] at p1
     haveI p0:=p0
     haveI p1:=p1
     haveI g1:Cell (rowI 16 (fun i=>(dg (N 3) i:Int))) k (.int .i64 (dg (N 3) k:Nat)):=cellI (fun i=>(dg (N 3) i:Int)) hlt
     have w0:IntKind.u8.wrap (bits .and .i64 (dg (N 3) k:Nat) 255)=bits .and .i64 (dg (N 3) k:Nat) 255:=by rw [a0,IntKind.wrap_u8];omega
     have w1:IntKind.u8.wrap (bits .and .i64 ((dg (N 3) k:Nat) / 256:Int) 255)=bits .and .i64 ((dg (N 3) k:Nat) / 256:Int) 255:=by rw [a1,IntKind.wrap_u8];omega
     have e1:2*(k:Int)=((2*k:Nat):Int):=by omega
     have e2:((2*k:Nat):Int)+1=((2*k+1:Nat):Int):=by omega
     have q1:((2*k+1:Nat):Int)<32:=by omega
     have q0:(0:Int)≤((2*k+1:Nat):Int):=by omega
     have r1:((2*k:Nat):Int)<32:=by omega
     have r0:(0:Int)≤((2*k:Nat):Int):=by omega
     have wk:IntKind.i64.wrap ((2*k:Nat):Int)=((2*k:Nat):Int):=IntWalk.i64_in _ (by omega)
     have wl:IntKind.i64.wrap ((2*k+1:Nat):Int)=((2*k+1:Nat):Int):=IntWalk.i64_in _ (by omega)
     clear v0 v1 a0 a1 hd HB0 HB16
     generalize byK' (N 3) k=m at *
     generalize byK (N 3) k=s at *
     generalize 2*k+1=q at *
     generalize 2*k=p at *
     generalize dg (N 3) k=d at *
     go_wp2_with (first | (refine aL4S2C9q ?_;clear hL;intro w1 hL) | (refine aX1A1q ?_;clear hL;intro b w1 hL))
     go_roundw
     case rel=>exact ⟨k+1,by omega,by go_num,hL⟩
     case measure=>simp [intOf];omega
    ·obtain rfl:k=16:=by omega
     rw [HB16.out] at hL
     go_wp2_with (first | (refine aL4S2C9q ?_;clear hL;intro w1 hL) | (refine aX1A1q ?_;clear hL;intro b w1 hL))
     exact bodyPost_ret (results_loc rfl hL rfl) rfl ⟨rfl,hL.bel⟩
instance iElP1:Ent 129:=Ent.of Tryz.func129 (by kernel_rfl) rfl
instance iElP2 (x:El):FnC 129 #[.agg (rowEl x)] (.agg (rowB 32 (byteN x.v.val))):=⟨out_any x⟩
end Go.Proofs.YtoifhhljfaoejaaGreatDoor.R3
