/-
  Lemmas of the law, part 6: the walks of the functions that it calls and the plain facts about them. No condition beyond those written.
-/
import Derived.WalkKit
import Derived.Lib.Hide
import Derived.WalkSpells
import Derived.WalkLawsBesides
import Derived.Test.YtoifhhljfaoejaaGreatDoorPkAA
import Derived.Test.YtoifhhljfaoejaaGreatDoorPkAE
import Derived.Deep.QuietTactic
import Derived.BigQuiet
import Derived.StillTailTactics
import Derived.Great.Ranges
set_option maxRecDepth 100000
set_option maxHeartbeats 8000000
set_option linter.unusedVariables false
set_option linter.unusedSimpArgs false
set_option linter.unusedSectionVars false
namespace Go.Proofs.YtoifhhljfaoejaaGreatDoor
open Go.Proofs.Tryz
namespace Shb
open Go.Proofs.YtoifhhljfaoejaaGreatDoor Go.RowKit
theorem gH(x:BitVec 64)(w:World)(s:Int)(n m:Nat)(hm:bits .and .u64 (IntKind.u64.wrap s) 63=n:=by decide)(hq:m=64-n:=by rfl)(h:bits .and .u64 (IntKind.u64.wrap s) 63=n→RowKit.Hid (bits .or .u64 (Q x*((2^n:Nat):Int)%18446744073709551616) (Q x/((2^m:Nat):Int))=Q (aS x n))→Calls prog 321 #[.int .u64 (Q x),.int .i64 s] w (fun e w'=>e= .returned (.int .u64 (Q (aS x n)))∧w=w'):=by
  intro hm HV;obtain⟨h0,h1⟩:=iW x;go_enter func321,ntmps321;go_wp2;go_ret;exact⟨congrArg (fun z=>Ending.returned (.int .u64 z)) HV.out,rfl⟩):Calls prog 321 #[.int .u64 (Q x),.int .i64 s] w (fun e w'=>e= .returned (.int .u64 (Q (aS x n)))∧w=w'):=h hm (Hd (sn x n m hq))
theorem Ls(x:BitVec 64)(w:World):Calls prog 321 #[.int .u64 (Q x),.int .i64 (-1)] w fun e w'=>e= .returned (.int .u64 (Q (aS x 63)))∧w=w':=gH x w (-1) 63 1
theorem G6(x:BitVec 64)(w:World):Calls prog 321 #[.int .u64 (Q x),.int .i64 (-8)] w fun e w'=>e= .returned (.int .u64 (Q (aS x 56)))∧w=w':=gH x w (-8) 56 8
theorem Cr(x:BitVec 64)(w:World):Calls prog 321 #[.int .u64 (Q x),.int .i64 (-19)] w fun e w'=>e= .returned (.int .u64 (Q (aS x 45)))∧w=w':=gH x w (-19) 45 19
theorem Jt(x:BitVec 64)(w:World):Calls prog 321 #[.int .u64 (Q x),.int .i64 (-61)] w fun e w'=>e= .returned (.int .u64 (Q (aS x 3)))∧w=w':=gH x w (-61) 3 61
theorem Ju(x:BitVec 64)(w:World):Calls prog 321 #[.int .u64 (Q x),.int .i64 (-14)] w fun e w'=>e= .returned (.int .u64 (Q (aS x 50)))∧w=w':=gH x w (-14) 50 14
theorem Cs(x:BitVec 64)(w:World):Calls prog 321 #[.int .u64 (Q x),.int .i64 (-18)] w fun e w'=>e= .returned (.int .u64 (Q (aS x 46)))∧w=w':=gH x w (-18) 46 18
theorem Jv(x:BitVec 64)(w:World):Calls prog 321 #[.int .u64 (Q x),.int .i64 (-41)] w fun e w'=>e= .returned (.int .u64 (Q (aS x 23)))∧w=w':=gH x w (-41) 23 41
theorem Jw(x:BitVec 64)(w:World):Calls prog 321 #[.int .u64 (Q x),.int .i64 (-28)] w fun e w'=>e= .returned (.int .u64 (Q (aS x 36)))∧w=w':=gH x w (-28) 36 28
theorem Jx(x:BitVec 64)(w:World):Calls prog 321 #[.int .u64 (Q x),.int .i64 (-34)] w fun e w'=>e= .returned (.int .u64 (Q (aS x 30)))∧w=w':=gH x w (-34) 30 34
theorem Jy(x:BitVec 64)(w:World):Calls prog 321 #[.int .u64 (Q x),.int .i64 (-39)] w fun e w'=>e= .returned (.int .u64 (Q (aS x 25)))∧w=w':=gH x w (-39) 25 39
end Shb
namespace Shb
open Go.Proofs.YtoifhhljfaoejaaGreatDoor Go.RowKit
def a7(n:Nat)(f:Nat→BitVec 64):Array Value:=row n fun i=> .int .u64 (Q (f i))
theorem cC(n:Nat)(f:Nat→BitVec 64):(a7 n f).size=n:=aQ _ _
theorem ej(n:Nat)(f:Nat→BitVec 64):(a7 n f).all (·.oneCell')=true:=by simp[a7,row,Value.oneCell']
theorem xc:(prog.info? 262).map (fun i=>(i.zero,i.size))=some (some (.agg (row 80 fun _=> .int .u64 0)),80):=by kernel_rfl
theorem xd:(prog.info? 262).map (·.size)=some 80:=by kernel_rfl
def stF(h:Nat→BitVec 64)(b:Nat→BitVec 8)(n:Nat)(L:BitVec 64):Nat→Value:=fun j =>
 if j<8 then .int .u64 (Q (h j))else if j<88 then .int .u64 (Q (K512 (j-8)))else if j<216 then .int .u8 (B8 (b (j-88)))else if j=216 then .int .i64 n else .int .u64 (Q L)
def bR(h:Nat→BitVec 64)(b:Nat→BitVec 8)(n:Nat)(L:BitVec 64):Array Value:=row 218 (stF h b n L)
theorem fG(n:Nat)(f:Nat→BitVec 64):(((List.range n).map fun i=>Q (f i)).map (Value.int .u64)).toArray=a7 n f:=by
 simp[a7,row]
theorem kH(w:World):Rt 317 #[] w (.agg (a7 80 K512)):=by
 have HN:=Hd (show(prog.info? 262).map (·.size)=some (a7 80 K512).size by rw[xd,cC]);have HW:=Hd (fG 80 K512);go_enter func317,ntmps317;go_wp2_with (first|(with_reducible refine aw rfl 262 rfl 80 _ xc ?_)|(refine wpList_buildFlatArrTo rfl 262 227 80 _ rfl .u64 ((List.range 80).map fun i=>Q (K512 i)) _ rfl underlying262 (by kernel_rfl) (by kernel_rfl) (by kernel_rfl) ?_;rw[HW.out])|(with_reducible refine wpList_store_rowTo rfl 262 _ _ rfl rfl w.heap.size (a7 80 K512) rfl rfl 262 _ (heap_alloc_new _ _) HN.out (by rw[aQ,cC]) (ej _ _) ?_));refine bodyPost_ret (results_cell_row rfl _ _ w.heap.size 262 (a7 80 K512) (0,0) _ rfl (aC (heap_alloc_new _ _)) underlying262 rfl HN.out) rfl ?_;exact⟨rfl,aW ((Below.refl _ _).alloc (Nat.le_refl _) _) (Nat.le_refl _) _⟩
theorem mI(w:World):Calls prog 303 #[] w fun e w'=>∃sb,e= .returned (.pointer (some ⟨sb,0,none⟩))∧w.heap.size≤sb∧w'.heap[sb]?=some (.cells (bR so (fun _=>0) 0 0) 353 (0,0))∧Below w.heap.size w w':=by
 have HW:=Hd (fG 8 so);go_enter func303,ntmps303;go_wp2_with (first|(refine wpList_buildFlatArrTo rfl 261 227 8 _ rfl .u64 ((List.range 8).map fun i=>Q (so i)) _ rfl underlying261 (by kernel_rfl) (by kernel_rfl) (by kernel_rfl) ?_;rw[HW.out])|(go_at_call 317;refine(kH _).mono ?_;rintro e w1⟨rfl,hb⟩)|(refine wpList_buildTo rfl 353 _ rfl _ rfl (bR so (fun _=>0) 0 0) (by kernel_rfl) ?_)|(refine Great.wpList_boxTo rfl 353 _ rfl _ rfl _ rfl (bR so (fun _=>0) 0 0) rfl ?_));go_ret;exact⟨w1.heap.size,rfl,hb.size,heap_alloc_new _ _,hb.alloc hb.size _⟩
end Shb
namespace Shb
open Go.Proofs.YtoifhhljfaoejaaGreatDoor Go.RowKit
theorem yR(x:BitVec 64):IntKind.u64.wrap (Q x*256)=Q (x<<<8):=by rw[IntKind.wrap_u64];exact G5 x
theorem Ct:(prog.info? 351).map (·.size)=some 128:=by kernel_rfl
theorem cD{w:World}{g n i:Nat}{f:Nat→BitVec 64}{t:TypeId}{fr:Nat×Nat}(hg:w.heap[g]?=some (.cells (a7 n f) t fr))(h:i<n):w.cell? ⟨g,i,none⟩=some (.int .u64 (Q (f i))):=aP hg h
theorem kj{w:World}{g n i:Nat}{f:Nat→BitVec 64}{t:TypeId}(x:BitVec 64)(hg:w.heap[g]?=some (.cells (a7 n f) t (0,0)))(h:i<n) :
 (w.setCell ⟨g,i,none⟩ (.int .u64 (Q x))).heap[g]?=some (.cells (a7 n (upd f i x)) t (0,0)):=by
 rw[bB _ hg h];congr 2;exact ak fun j _=>by unfold upd;split <;> rfl
theorem jo{b:Nat→BitVec 8}{k:Nat}(h:k<128)(w:World):(Instr.index 351 (.agg (row 128 fun i=>Value.int .u8 (B8 (b i)))) (.int .i64 k)).run prog w= .ok (.int .u8 (B8 (b k))) w :=
 gG _ underlying351 (by kernel_rfl) (fun w=>by kernel_rfl) h w
theorem iv(sb:Nat)(S:Nat→Value)(b:Nat→BitVec 8)(w:World)(hg:w.heap[sb]?=some (.cells (row 218 S) 353 (0,0)))(hS:∀i,i<128→S (88+i)= .int .u8 (B8 (b i))) :
 Rt 320 #[.pointer (some ⟨sb,0,none⟩)] w (.agg (a7 80 (aT b))):=by
 have hsb:sb<w.heap.size:=(Array.getElem?_eq_some_iff.1 hg).1;have hg2:((w.alloc (.cells (row 80 fun _=> .int .u64 0) 262)).alloc (.cells (row 80 fun _=> .int .u64 0) 262)).heap[sb]?=some (.cells (row 218 S) 353 (0,0)):=by
  rw[Below.heap_alloc _ _ _ (by simp;omega),Below.heap_alloc _ _ _ hsb,hg]
 have hR:=gx (o:=88) (n:=128) hg2 (by decide);rw[ak hS]at hR;have HR:=Hd hR;have HI:=Hd (show(prog.info? 351).map (·.size)=some (row 128 fun i=>Value.int .u8 (B8 (b i))).toList.length by rw[Ct];simp[aQ]);clear hg hR hS hg2;go_enter func320,ntmps320;go_wp2_with (first|(with_reducible refine aw rfl 262 rfl 80 _ xc ?_)|(with_reducible refine wpList_load_mid rfl 351 _ rfl sb 88 rfl _ _ HR.out underlying351 rfl HI.out ?_));go_loopw [15] (fun i wr=>∃k:Nat,k≤128∧i= .int .i64 k∧wr.heap[w.heap.size+1]?=some (.cells (a7 80 (br b k)) 262 (0,0))∧wr.heap[w.heap.size]?=some (.cells (a7 80 fun _=>0) 262 (0,0))∧Below w.heap.size w wr) (fun i _=>128-(intOf i).toNat);case atStart=>exact⟨0,by omega,rfl,heap_alloc2_new _ _ _,heap_alloc2_old _ _ _,(((Below.refl _ _).alloc (Nat.le_refl _) _).alloc (by simp) _)⟩
 case round =>
  obtain⟨k,hk,rfl,hw,hz,hbel⟩:=hrel;by_cases hlt:k<128
  ·have hi:=fun w=>jo (b:=b) hlt w
   have hk0:(0:Int)≤(k:Int):=by omega
   have hk1:(k:Int)<128:=by omega
   have hc:wr.cell? ⟨w.heap.size+1,k/8,none⟩=some (.int .u64 (Q (br b k (k/8)))):=aP hw (by omega);have hf:wr.frozen? ⟨w.heap.size+1,k/8,none⟩=false:=frozen_of_row wr _ _ _ _ hw;obtain⟨u0,u1⟩:=iW (br b k (k/8));obtain⟨v0,v1⟩:=bK (b k);have HW:=Hd hw;have HZ:=Hd hz;clear hw hz;go_wp2;go_roundw;case rel =>
    refine⟨k+1,by omega,by go_num,?_,?_,hbel.setCell (by simp) _⟩
    ·rw[yR,uf,Fg]
     exact kj _ HW.out (by omega)
    ·rw[heap_setCell_other _ _ _ _ (by simp)];exact HZ.out
   case measure=>simp[intOf];omega
  ·have e:br b k=br b 128:=by rw[show k=128 by omega]
   rw[e]at hw;clear e;go_wp2;go_loopw [6] (fun i wr=>∃k:Nat,16≤k∧k≤80∧i= .int .i64 k∧wr.heap[w.heap.size+1]?=some (.cells (a7 80 (cd (br b 128) k)) 262 (0,0))∧wr.heap[w.heap.size]?=some (.cells (a7 80 fun _=>0) 262 (0,0))∧Below w.heap.size w wr) (fun i _=>80-(intOf i).toNat);case atStart=>exact⟨16,by omega,by omega,rfl,by rw[jn _ 16 (by omega)];exact hw,hz,hbel⟩
   case round =>
    clear hw hz hbel hk hlt;obtain⟨K1,rfl⟩:∃K1,K1=k:=⟨_,rfl⟩;obtain⟨k,hk16,hk,rfl,hw,hz,hbel⟩:=hrel;by_cases hlt:k<80
    ·have hk0:(16:Int)≤(k:Int):=by omega
     have hk1:(k:Int)<80:=by omega
     have hc2:wr.cell? ⟨w.heap.size+1,k-2,none⟩=some (.int .u64 (Q (cd (br b 128) k (k-2)))):=aP hw (by omega);have hc7:wr.cell? ⟨w.heap.size+1,k-7,none⟩=some (.int .u64 (Q (cd (br b 128) k (k-7)))):=aP hw (by omega);have hc15:wr.cell? ⟨w.heap.size+1,k-15,none⟩=some (.int .u64 (Q (cd (br b 128) k (k-15)))):=aP hw (by omega);have hc16:wr.cell? ⟨w.heap.size+1,k-16,none⟩=some (.int .u64 (Q (cd (br b 128) k (k-16)))):=aP hw (by omega);have hc:wr.cell? ⟨w.heap.size+1,k,none⟩=some (.int .u64 (Q (cd (br b 128) k k))):=aP hw (by omega);have hf:wr.frozen? ⟨w.heap.size+1,k,none⟩=false:=frozen_of_row wr _ _ _ _ hw;have HW:=Hd hw;have HZ:=Hd hz;have HS:=Hd (gR (br b 128) hk16);clear hw hz;generalize cd (br b 128) k=f at *
     obtain⟨a0,a1⟩:=iW (f (k-2));obtain⟨b0,b1⟩:=iW (f (k-15));have hs0:=jl (f (k-15));have hs1:=jm (f (k-2));have hadd:=mW;go_wp2;go_quiet (fail);go_wp2_with (first|(go_at_call 321;with_reducible refine(Ls _ _).mono ?_;rintro e w'⟨rfl,rfl⟩)|(go_at_call 321;with_reducible refine(G6 _ _).mono ?_;rintro e w'⟨rfl,rfl⟩)|(go_at_call 321;with_reducible refine(Cr _ _).mono ?_;rintro e w'⟨rfl,rfl⟩)|(go_at_call 321;with_reducible refine(Jt _ _).mono ?_;rintro e w'⟨rfl,rfl⟩));clear hs0 hs1 hc2 hc7 hc15 hc16 hc hf;have hw:(wr.drewN nq).heap[w.heap.size+1]?=some (.cells (a7 80 f) 262 (0,0)):=HW.out;have hz:(wr.drewN nq).heap[w.heap.size]?=some (.cells (a7 80 fun _=>0) 262 (0,0)):=HZ.out;have hbel:=hbel.trans (⟨rfl,rfl,rfl,Nat.le_refl _,fun _ _=>rfl⟩:Below w.heap.size wr (wr.drewN nq));clear HW HZ;generalize wr.drewN nq=W at *
     have hc7:W.cell? ⟨w.heap.size+1,k-7,none⟩=some (.int .u64 (Q (f (k-7)))):=cD hw (by omega);have hc16:W.cell? ⟨w.heap.size+1,k-16,none⟩=some (.int .u64 (Q (f (k-16)))):=cD hw (by omega);have hc:W.cell? ⟨w.heap.size+1,k,none⟩=some (.int .u64 (Q (f k))):=cD hw (by omega);have hf:W.frozen? ⟨w.heap.size+1,k,none⟩=false:=frozen_of_row W _ _ _ _ hw;have HW:=Hd hw;have HZ:=Hd hz;clear hw hz;have e7:IntKind.i64.wrap ((k:Int)-7)=(k:Int)-7:=IntWalk.i64_in _ (by omega);have e16:IntKind.i64.wrap ((k:Int)-16)=(k:Int)-16:=IntWalk.i64_in _ (by omega);have t7:((k:Int)-7).toNat=k-7:=by omega
     have t16:((k:Int)-16).toNat=k-16:=by omega
     have p7:(7:Int)≤(k:Int):=by omega
     have q7:(k:Int)-7<80:=by omega
     have q16:(k:Int)-16<80:=by omega
     go_still_tail 15,(by kernel_rfl);clear e7 e16 t7 t16 p7 q7 q16;change wpList _ _ _ _ _ W.drew;go_wp2;go_roundw;case rel =>
      refine⟨k+1,by omega,by omega,by go_num,?_,?_,(hbel.setCell (by simp) _).drew⟩
      ·rw[HS.out]
       exact kj _ HW.out (by omega)
      ·show(W.setCell _ _).heap[_]?=_
       rw[heap_setCell_other _ _ _ _ (by simp)];exact HZ.out
     case measure=>simp[intOf];omega
    ·have e:cd (br b 128) k=aT b:=by rw[show k=80 by omega];rfl
     rw[e]at hw;clear e;have HW:=Hd hw;have HZ:=Hd hz;have HN:=Hd (show(prog.info? 262).map (·.size)=some (a7 80 (aT b)).size by rw[xd,cC]);clear hw hz;go_wp2_with (first|(with_reducible refine wpList_load_row rfl 262 _ rfl (w.heap.size+1) rfl 262 (a7 80 (aT b)) (0,0) _ HW.out underlying262 rfl HN.out ?_)|(with_reducible refine wpList_store_rowTo rfl 262 _ _ rfl rfl w.heap.size (a7 80 (aT b)) rfl rfl 262 _ HZ.out HN.out (by rw[cC,cC]) (ej _ _) ?_));refine bodyPost_ret (results_cell_row rfl _ _ w.heap.size 262 (a7 80 (aT b)) (0,0) _ rfl (aC HZ.out) underlying262 rfl HN.out) rfl ?_;exact⟨rfl,aW hbel (Nat.le_refl _) _⟩
end Shb
namespace Shb
open Go.Proofs.YtoifhhljfaoejaaGreatDoor Go.RowKit
def ow(sb:Nat)(h:Nat→BitVec 64)(b:Nat→BitVec 8)(n:Nat)(L:BitVec 64)(w:World)(a':Act)(w':World):Prop :=
 ∃(t wb vb:Nat) (u:Nat→Value),t≤80∧w.heap.size≤wb∧wb<vb ∧
  a'={ tmps:= #[.pointer (some ⟨sb,0,none⟩),u 1,.pointer (some ⟨wb,0,none⟩),.pointer (some ⟨vb,0,none⟩),.int .i64 t,u 5,u 6,u 7,u 8,u 9,u 10,u 11,u 12,u 13,u 14,u 15,u 16,u 17,u 18,u 19,u 20,u 21,u 22,u 23,u 24,u 25,u 26,u 27,u 28,u 29,u 30,u 31,u 32,u 33,u 34,u 35,u 36,u 37,u 38,u 39,u 40,u 41,u 42,u 43,u 44,u 45,u 46,u 47,u 48,u 49,u 50,u 51,u 52,u 53,u 54,u 55,u 56,u 57,u 58,u 59,u 60,u 61,u 62,u 63,u 64,u 65,u 66,u 67,u 68,u 69,u 70,u 71,u 72,u 73,u 74,u 75,u 76,u 77,u 78,u 79,u 80,u 81,u 82,u 83,u 84,u 85,u 86,u 87,u 88,u 89,u 90,u 91,u 92,u 93,u 94,u 95,u 96,u 97,u 98,u 99,u 100,u 101,u 102,u 103,u 104,u 105,u 106,u 107,u 108,u 109,u 110,u 111,u 112,u 113,u 114,u 115,u 116,u 117,u 118,u 119,u 120,u 121],defers:=[] } ∧
  w'.heap[sb]?=some (.cells (bR h b n L) 353 (0,0))∧w'.heap[wb]?=some (.cells (a7 80 (aT b)) 262 (0,0)) ∧
  w'.heap[vb]?=some (.cells (a7 8 (dj K512 (aT b) h t)) 261 (0,0))∧w.grownBy w' (some sb)
theorem gS{sb n:Nat}{h:Nat→BitVec 64}{b:Nat→BitVec 8}{L:BitVec 64}{w w':World}{tm:Array Value}(t wb vb:Nat)(ht:t≤80)(hwb:w.heap.size≤wb)(hvb:wb<vb)(he:({ tmps:=tm,defers:=[] }:Act)={ tmps:= #[.pointer (some ⟨sb,0,none⟩),tm.getD 1 undef,.pointer (some ⟨wb,0,none⟩),.pointer (some ⟨vb,0,none⟩),.int .i64 t,tm.getD 5 undef,tm.getD 6 undef,tm.getD 7 undef,tm.getD 8 undef,tm.getD 9 undef,tm.getD 10 undef,tm.getD 11 undef,tm.getD 12 undef,tm.getD 13 undef,tm.getD 14 undef,tm.getD 15 undef,tm.getD 16 undef,tm.getD 17 undef,tm.getD 18 undef,tm.getD 19 undef,tm.getD 20 undef,tm.getD 21 undef,tm.getD 22 undef,tm.getD 23 undef,tm.getD 24 undef,tm.getD 25 undef,tm.getD 26 undef,tm.getD 27 undef,tm.getD 28 undef,tm.getD 29 undef,tm.getD 30 undef,tm.getD 31 undef,tm.getD 32 undef,tm.getD 33 undef,tm.getD 34 undef,tm.getD 35 undef,tm.getD 36 undef,tm.getD 37 undef,tm.getD 38 undef,tm.getD 39 undef,tm.getD 40 undef,tm.getD 41 undef,tm.getD 42 undef,tm.getD 43 undef,tm.getD 44 undef,tm.getD 45 undef,tm.getD 46 undef,tm.getD 47 undef,tm.getD 48 undef,tm.getD 49 undef,tm.getD 50 undef,tm.getD 51 undef,tm.getD 52 undef,tm.getD 53 undef,tm.getD 54 undef,tm.getD 55 undef,tm.getD 56 undef,tm.getD 57 undef,tm.getD 58 undef,tm.getD 59 undef,tm.getD 60 undef,tm.getD 61 undef,tm.getD 62 undef,tm.getD 63 undef,tm.getD 64 undef,tm.getD 65 undef,tm.getD 66 undef,tm.getD 67 undef,tm.getD 68 undef,tm.getD 69 undef,tm.getD 70 undef,tm.getD 71 undef,tm.getD 72 undef,tm.getD 73 undef,tm.getD 74 undef,tm.getD 75 undef,tm.getD 76 undef,tm.getD 77 undef,tm.getD 78 undef,tm.getD 79 undef,tm.getD 80 undef,tm.getD 81 undef,tm.getD 82 undef,tm.getD 83 undef,tm.getD 84 undef,tm.getD 85 undef,tm.getD 86 undef,tm.getD 87 undef,tm.getD 88 undef,tm.getD 89 undef,tm.getD 90 undef,tm.getD 91 undef,tm.getD 92 undef,tm.getD 93 undef,tm.getD 94 undef,tm.getD 95 undef,tm.getD 96 undef,tm.getD 97 undef,tm.getD 98 undef,tm.getD 99 undef,tm.getD 100 undef,tm.getD 101 undef,tm.getD 102 undef,tm.getD 103 undef,tm.getD 104 undef,tm.getD 105 undef,tm.getD 106 undef,tm.getD 107 undef,tm.getD 108 undef,tm.getD 109 undef,tm.getD 110 undef,tm.getD 111 undef,tm.getD 112 undef,tm.getD 113 undef,tm.getD 114 undef,tm.getD 115 undef,tm.getD 116 undef,tm.getD 117 undef,tm.getD 118 undef,tm.getD 119 undef,tm.getD 120 undef,tm.getD 121 undef],defers:=[] })(h1:w'.heap[sb]?=some (.cells (bR h b n L) 353 (0,0)))(h2:w'.heap[wb]?=some (.cells (a7 80 (aT b)) 262 (0,0)))(h3:w'.heap[vb]?=some (.cells (a7 8 (dj K512 (aT b) h t)) 261 (0,0)))(h4:w.grownBy w' (some sb)):ow sb h b n L w { tmps:=tm,defers:=[] } w' :=
 ⟨t,wb,vb,fun i=>tm.getD i undef,ht,hwb,hvb,he,h1,h2,h3,h4⟩
theorem sq(a b:BitVec 64):(Q a+Q b)%(18446744073709551616:Int)=Q (a+b):=by rw[← mW a b,IntKind.wrap_u64]
theorem ug:(prog.info? 261).map (fun i=>(i.zero,i.size))=some (some (.agg (row 8 fun _=> .int .u64 0)),8):=by kernel_rfl
theorem kl:(prog.info? 261).map (·.size)=some 8:=by kernel_rfl
def bW(h v:Nat→BitVec 64)(k:Nat):Nat→BitVec 64:=fun i=>if i<k then h i+v i else h i
theorem kI{h v:Nat→BitVec 64}{b:Nat→BitVec 8}{n:Nat}{L:BitVec 64}{k:Nat}(hk:k<8) :
 row 218 (upd (stF (bW h v k) b n L) k (.int .u64 (Q (h k+v k))))=bR (bW h v (k+1)) b n L:=ak fun i _=>by
 unfold upd stF bW;by_cases e:i=k
 ·subst e;simp[hk]
 ·rw[if_neg e]
  by_cases h8:i<8
  ·rw[if_pos h8,if_pos h8]
   by_cases hik:i<k
   ·rw[if_pos hik,if_pos (by omega)]
   ·rw[if_neg hik,if_neg (by omega)]
  ·rw[if_neg h8,if_neg h8]
theorem jp{h h':Nat→BitVec 64}{b:Nat→BitVec 8}{n:Nat}{L:BitVec 64}(he:∀i,i<8→h i=h' i):bR h b n L=bR h' b n L:=ak fun i _=>by
 unfold stF;by_cases h8:i<8
 ·rw[if_pos h8,if_pos h8,he i h8]
 ·rw[if_neg h8,if_neg h8]
theorem ox(sb:Nat)(h:Nat→BitVec 64)(b:Nat→BitVec 8)(n:Nat)(L:BitVec 64)(w:World)(hg:w.heap[sb]?=some (.cells (bR h b n L) 353 (0,0))) :
 Calls prog 318 #[.pointer (some ⟨sb,0,none⟩)] w fun e w'=>e= .returned (.tuple #[])∧w'.heap[sb]?=some (.cells (bR (block K512 h b) b n L) 353 (0,0))∧w.grownBy w' (some sb):=by
 have HSZ:=Hd (Array.getElem?_eq_some_iff.1 hg).1;have HG:=Hd hg;clear hg;go_enter func318,ntmps318;refine gF 0 (ow sb h b n L w) (fun a' _=>80-(intOf (a'.tmps.getD 4 undef)).toNat) rfl ?_ ?_
 ·rintro a' wr⟨t,wb,vb,u,ht,hwb,hvb,rfl,hs,hw,hv,hgr⟩
  by_cases hlt:t<80
  ·have h0:(0:Int)≤(t:Int):=by omega
   have h1:(t:Int)<80:=by omega
   have cw:wr.cell? ⟨wb,t,none⟩=some (.int .u64 (Q (aT b t))):=cD hw hlt;have ck:wr.cell? ⟨sb,8+t,none⟩=some (.int .u64 (Q (K512 t))):=by
    rw[aP hs (by omega)];unfold stF;rw[if_neg (by omega),if_pos (by omega)];simp
   have HV:=Hd hv;have HS:=Hd hs;have HW:=Hd hw;clear hs hw;have hn:dj K512 (aT b) h (t+1)=rnd K512 (aT b) t (dj K512 (aT b) h t):=rfl;have HN:=Hd hn;clear hn;generalize dj K512 (aT b) h t=v at *
   have c0:=cD (i:=0) hv (by decide);have c1:=cD (i:=1) hv (by decide);have c2:=cD (i:=2) hv (by decide);have c3:=cD (i:=3) hv (by decide);have c4:=cD (i:=4) hv (by decide);have c5:=cD (i:=5) hv (by decide);have c6:=cD (i:=6) hv (by decide);have c7:=cD (i:=7) hv (by decide);clear hv;have hadd:=mW;have hxor:=Q_xor;have hand:=Q_and;have hnot:=Gp;have hadd':=sq;go_wp2;go_quiet (fail);go_wp2_with fail;refine(Ju _ _).mono ?_;rintro e w'⟨rfl,rfl⟩;go_wp2_with fail;refine(Cs _ _).mono ?_;rintro e w'⟨rfl,rfl⟩;go_wp2_with fail;refine(Jv _ _).mono ?_;rintro e w'⟨rfl,rfl⟩;go_wp2_with fail;refine(Jw _ _).mono ?_;rintro e w'⟨rfl,rfl⟩;go_wp2_with fail;refine(Jx _ _).mono ?_;rintro e w'⟨rfl,rfl⟩;go_wp2_with fail;refine(Jy _ _).mono ?_;rintro e w'⟨rfl,rfl⟩;go_wp2_with fail;go_quiet (fail);have HV2:=Hd (show ∀m,(wr.drewN m).heap[vb]?=some (.cells (a7 8 v) 261 (0,0))from fun _=>HV.out);have HZ8:=Hd (show(prog.info? 261).map (·.size)=some (a7 8 (rnd K512 (aT b) t v)).size by rw[kl,cC]);go_wp2_with ((with_reducible show wpList _ _ _ (⟨_,.store _ _ _,_,_,_,_⟩::_) _ _);refine wpList_store_rowTo rfl 261 _ _ rfl rfl vb (a7 8 (rnd K512 (aT b) t v)) rfl rfl 261 _ (HV2.out _) HZ8.out (by rw[cC,cC]) (ej _ _) ?_);go_step3;refine⟨rfl,gS (t+1) wb vb (by omega) hwb hvb rfl ?_ ?_ ?_ ?_,?_⟩
   ·have hne:sb≠vb:=by have:=HSZ.out;omega
    exact(au hne).trans HS.out
   ·have hne:wb≠vb:=by omega
    exact(au hne).trans HW.out
   ·rw[HN.out]
    exact aC (HV2.out _)
   ·exact dJ (m6 hgr _) (.inl (by omega)) _
   ·simp[intOf];omega
  ·have hE:dj K512 (aT b) h t=dj K512 (aT b) h 80:=by rw[show t=80 by omega]
   rw[hE]at hv;have HBL:=Hd (show ∀i,i<8→bW h (dj K512 (aT b) h 80) 8 i=block K512 h b i from fun i hi=>by unfold bW;rw[if_pos hi];rfl);clear hE hw;generalize dj K512 (aT b) h 80=v at *
   have HS:=Hd hs;have HV:=Hd hv;clear hs hv;have hge:(80:Int)≤(t:Int):=by omega
   go_wp2;go_loopw [105] (fun i w2=>∃k:Nat,k≤8∧i= .int .i64 k∧w2.heap[sb]?=some (.cells (bR (bW h v k) b n L) 353 (0,0))∧w2.heap[vb]?=some (.cells (a7 8 v) 261 (0,0))∧w.grownBy w2 (some sb)) (fun i _=>8-(intOf i).toNat);case atStart=>exact⟨0,by omega,rfl,HS.out,HV.out,hgr⟩
   case round =>
    obtain⟨k,hk,rfl,hs,hv,hg2⟩:=hrel;by_cases hk8:k<8
    ·have hk0:(0:Int)≤(k:Int):=by omega
     have hk1:(k:Int)<8:=by omega
     have ca:wr.cell? ⟨sb,k,none⟩=some (.int .u64 (Q (h k))):=by
      rw[aP hs (by omega)];unfold stF bW;rw[if_pos hk8,if_neg (by omega)]
     have cb:wr.cell? ⟨vb,k,none⟩=some (.int .u64 (Q (v k))):=cD hv hk8;have cf:wr.frozen? ⟨sb,k,none⟩=false:=frozen_of_row wr _ _ _ _ hs;have HS:=Hd hs;have HV:=Hd hv;clear hs hv HBL;have hadd:=mW;have hadd':=sq;go_wp2;go_still_tail 13,(by kernel_rfl);change wpList _ _ _ _ _ wr.drew;go_wp2;go_roundw;case rel =>
      refine⟨k+1,by omega,by go_num,?_,?_,dz (bn hg2 (.inr rfl) _)⟩
      ·show(wr.setCell _ _).heap[_]?=_
       rw[bB _ HS.out (by omega),kI hk8]
      ·have hne:vb≠sb:=by have:=HSZ.out;omega
       show(wr.setCell _ _).heap[_]?=_;rw[heap_setCell_other _ _ _ _ hne];exact HV.out
     case measure=>simp[intOf];omega
    ·obtain rfl:k=8:=by omega
     rw[jp HBL.out]at hs;have HS:=Hd hs;clear hs hv HBL;go_wp2;simp only[Exit.jump];go_end0;exact⟨rfl,HS.out,hg2⟩
 ·intro hrest
  have HL:=Hd (show(prog.info? 262).map (·.size)=some (a7 80 (aT b)).size by rw[xd,cC]);have H8:=Hd (show(prog.info? 261).map (·.size)=some (a7 8 h).size by rw[kl,cC]);have H8':=Hd (show(prog.info? 261).map (·.size)=some (a7 8 h).toList.length by rw[kl];simp[cC]);have HB:=Hd (show ∀i,i<128→stF h b n L (88+i)= .int .u8 (B8 (b i))from fun i hi=>by
   unfold stF;rw[if_neg (by omega),if_neg (by omega),if_pos (by omega)];simp)
  have HR:=Hd hrest;clear hrest;go_wp2_with (first
   | (go_at_call 320;refine(iv sb (stF h b n L) b _ HG.out HB.out).mono ?_;rintro e w1⟨rfl,hb1⟩)
   | (with_reducible refine aw rfl 262 rfl 80 _ xc ?_)
   | (with_reducible refine aw rfl 261 rfl 8 _ ug ?_)
   | ((with_reducible show wpList _ _ _ (⟨_,.store 262 _ _,_,_,_,_⟩::_) _ _);refine wpList_store_rowTo rfl 262 _ _ rfl rfl _ (a7 80 (aT b)) rfl rfl 262 _ (heap_alloc_new _ _) HL.out (by rw[aQ,cC]) (ej _ _) ?_)
   | ((with_reducible show wpList _ _ _ (⟨_,.load 261 _,_,_,_,_⟩::_) _ _);refine wpList_load_mid rfl 261 _ rfl sb 0 rfl (a7 8 h).toList _ ?r underlying261 rfl H8'.out ?_)
   | ((with_reducible show wpList _ _ _ (⟨_,.store 261 _ _,_,_,_,_⟩::_) _ _);refine wpList_store_rowTo rfl 261 _ _ rfl rfl _ (a7 8 h) rfl rfl 261 _ (heap_alloc_new _ _) H8.out (by rw[aQ,cC]) (ej _ _) ?_))
  case r =>
   have hne:sb≠w1.heap.size:=by have:=HSZ.out;have:=hb1.size;omega
   have h1:((w1.alloc (.cells (row 80 fun _=> .int .u64 0) 262)).setRow w1.heap.size (a7 80 (aT b))).heap[sb]?=some (.cells (row 218 (stF h b n L)) 353 (0,0)):=by
    rw[au hne,Below.heap_alloc _ _ _ (by have:=HSZ.out;have:=hb1.size;omega),hb1.block _ HSZ.out];exact HG.out
   have h2:=gx (o:=0) (n:=8) h1 (by decide);have h3:(row 8 fun i=>stF h b n L (0+i))=a7 8 h:=ak fun i hi=>by
    rw[Nat.zero_add];unfold stF;rw[if_pos hi]
   rw[h3]at h2;exact h2
  go_step3;go_step;go_step;have hsz:=hb1.size;have hlt:=HSZ.out;have hne:sb≠w1.heap.size:=by omega
  have hne':sb≠w1.heap.size+1:=by omega
  refine HR.out _ _ (gS 0 w1.heap.size (w1.heap.size+1) (by omega) hsz (by omega) rfl ?_ ?_ ?_ ?_)
  ·rw[au hne',Below.heap_alloc _ _ _ (by simp;omega),au hne,Below.heap_alloc _ _ _ (by omega),hb1.block _ hlt]
   exact HG.out
  ·rw[au (by omega),Below.heap_alloc _ _ _ (by simp)]
   exact aC (heap_alloc_new _ _)
  ·exact aC (by have:=heap_alloc_new ((w1.alloc (.cells (row 80 fun _=> .int .u64 0) 262)).setRow w1.heap.size (a7 80 (aT b))) (.cells (row 8 fun _=> .int .u64 0) 261);simpa using this)
  ·exact dJ (dA (dJ (dA (i5 hb1) _) (.inl hsz) _) _) (.inl (by omega)) _
end Shb
namespace Shb
open Go.Proofs.YtoifhhljfaoejaaGreatDoor Go.RowKit
structure St where
 h:Nat→BitVec 64
 b:Nat→BitVec 8
 n:Nat
def aY(s:St)(x:BitVec 8):St :=
 if s.n<127 then⟨s.h,upd s.b s.n x,s.n+1⟩else⟨block K512 s.h (upd s.b s.n x),upd s.b s.n x,0⟩
def st0:St:=⟨so,fun _=>0,0⟩
def ax(s:St)(m:List (BitVec 8)):St:=m.foldl aY s
theorem kJ{h:Nat→BitVec 64}{b:Nat→BitVec 8}{n i:Nat}{L:BitVec 64}(x:BitVec 8)(hi:i<128):row 218 (upd (stF h b n L) (88+i) (.int .u8 (B8 x)))=bR h (upd b i x) n L:=ak fun j _=>by
 unfold upd stF;by_cases e:j=88+i
 ·subst e
  rw[if_pos rfl,if_neg (by omega),if_neg (by omega),if_pos (by omega)];simp
 ·rw[if_neg e]
  by_cases h8:j<8
  ·rw[if_pos h8,if_pos h8]
  ·rw[if_neg h8,if_neg h8]
   by_cases h88:j<88
   ·rw[if_pos h88,if_pos h88]
   ·rw[if_neg h88,if_neg h88]
    by_cases h216:j<216
    ·rw[if_pos h216,if_pos h216]
     show _=Value.int .u8 (B8 (if j-88=i then x else b (j-88)));rw[if_neg (by omega)]
    ·rw[if_neg h216,if_neg h216]
theorem fU{h:Nat→BitVec 64}{b:Nat→BitVec 8}{n:Nat}{L:BitVec 64}(m:Nat):row 218 (upd (stF h b n L) 216 (.int .i64 m))=bR h b m L:=ak fun j _=>by
 unfold upd stF;by_cases e:j=216
 ·subst e;simp
 ·rw[if_neg e];simp only[if_neg e]
theorem kK{h:Nat→BitVec 64}{b:Nat→BitVec 8}{n:Nat}{L:BitVec 64}(M:BitVec 64):row 218 (upd (stF h b n L) 217 (.int .u64 (Q M)))=bR h b n M:=ak fun j _=>by
 unfold upd stF;by_cases e:j=217
 ·subst e;simp
 ·rw[if_neg e]
  by_cases h8:j<8
  ·rw[if_pos h8,if_pos h8]
  ·rw[if_neg h8,if_neg h8]
   by_cases h88:j<88
   ·rw[if_pos h88,if_pos h88]
   ·rw[if_neg h88,if_neg h88]
    by_cases h216:j<216
    ·rw[if_pos h216,if_pos h216]
    ·rw[if_neg h216,if_neg h216,if_pos (by omega),if_pos (by omega)]
theorem su{h:Nat→BitVec 64}{b:Nat→BitVec 8}{n:Nat}{L:BitVec 64}:stF h b n L 216= .int .i64 n:=by simp[stF]
theorem G7{h:Nat→BitVec 64}{b:Nat→BitVec 8}{n i:Nat}{L:BitVec 64}(hi:i<128):stF h b n L (88+i)= .int .u8 (B8 (b i)):=by
 unfold stF;rw[if_neg (by omega),if_neg (by omega),if_pos (by omega)];simp
theorem G8{h:Nat→BitVec 64}{b:Nat→BitVec 8}{n i:Nat}{L:BitVec 64}(hi:i<8):stF h b n L i= .int .u64 (Q (h i)):=by
 unfold stF;rw[if_pos hi]
theorem Cu{h:Nat→BitVec 64}{b:Nat→BitVec 8}{n:Nat}{L:BitVec 64}:stF h b n L 217= .int .u64 (Q L):=by simp[stF]
theorem oy(sb:Nat)(s:St)(x:BitVec 8)(L:BitVec 64)(w:World)(hn:s.n<128)(hg:w.heap[sb]?=some (.cells (bR s.h s.b s.n L) 353 (0,0))) :
 Calls prog 304 #[.pointer (some ⟨sb,0,none⟩),.int .u8 (B8 x)] w fun e w'=>e= .returned (.tuple #[])∧w'.heap[sb]?=some (.cells (bR (aY s x).h (aY s x).b (aY s x).n L) 353 (0,0))∧w.grownBy w' (some sb):=by
 obtain⟨h,b,n⟩:=s;simp only at hn hg;have hc:w.cell? ⟨sb,216,none⟩=some (.int .i64 n):=by rw[aP hg (by omega),su]
 have hb:w.cell? ⟨sb,88+n,none⟩=some (.int .u8 (B8 (b n))):=by rw[aP hg (by omega),G7 hn]
 have hf:w.frozen? ⟨sb,88+n,none⟩=false:=frozen_of_row w _ _ _ _ hg;have h0:(0:Int)≤(n:Int):=by omega
 have h1:(n:Int)<128:=by omega
 have hf2:w.frozen? ⟨sb,216,none⟩=false:=frozen_of_row w _ _ _ _ hg;have hw1:∀(m:Nat) (z:Int),z=m→((w.setCell ⟨sb,88+n,none⟩ (.int .u8 (B8 x))).setCell ⟨sb,216,none⟩ (.int .i64 z)).heap[sb]?=some (.cells (bR h (upd b n x) m L) 353 (0,0)):=by
  intro m z hz;subst hz;have e1:(w.setCell ⟨sb,88+n,none⟩ (.int .u8 (B8 x))).heap[sb]?=some (.cells (bR h (upd b n x) n L) 353 (0,0)):=by
   rw[bB _ hg (by omega),kJ x hn]
  rw[bB _ e1 (by omega),fU]
 have HW:=Hd hw1;clear hg hw1;by_cases h127:n<127
 ·have ht:aY ⟨h,b,n⟩ x=⟨h,upd b n x,n+1⟩:=by unfold aY;rw[if_pos h127]
  rw[ht];clear ht;have he:((n:Int)+1==128)=false:=by simp;omega
  go_enter func304,ntmps304;go_wp2_with fail;go_still_tail 9,(by kernel_rfl);change wpList _ _ _ _ _ w.drew;go_wp2_with fail;go_end0;have hH:=HW.out (n+1) ((n:Int)+1) (by omega);refine⟨rfl,hH,?_⟩;refine dz ?_;refine bn ?_ (.inr rfl) _;exact bn (cq _ _) (.inr rfl) _
 ·obtain rfl:n=127:=by omega
  have ht:aY ⟨h,b,127⟩ x=⟨block K512 h (upd b 127 x),upd b 127 x,0⟩:=by unfold aY;rw[if_neg (by simp)]
  rw[ht];clear ht;go_enter func304,ntmps304;go_wp2_with fail;go_still_tail 9,(by kernel_rfl);change wpList _ _ _ _ _ w.drew;go_wp2_with fail;have hH:(((w.setCell ⟨sb,215,none⟩ (.int .u8 (B8 x))).setCell ⟨sb,216,none⟩ (.int .i64 128)).drew).heap[sb]?=some (.cells (bR h (upd b 127 x) 128 L) 353 (0,0)):=HW.out 128 128 rfl;refine(ox sb h (upd b 127 x) 128 L _ hH).mono ?_;rintro e w1⟨rfl,hs,hg⟩;have hc1:w1.cell? ⟨sb,216,none⟩=some (.int .i64 128):=by rw[aP hs (by omega),su];rfl
  have hf1:w1.frozen? ⟨sb,216,none⟩=false:=frozen_of_row w1 _ _ _ _ hs;have HS:=Hd hs;clear hs;go_wp2;go_end0;refine⟨rfl,?_,?_⟩
  ·rw[bB _ HS.out (by omega)]
   exact congrArg (fun r=>some (Obj.cells r 353 (0,0))) (fU 0)
  ·refine bn (mZ ?_ hg) (.inr rfl) _
   refine dz ?_;refine bn ?_ (.inr rfl) _;exact bn (cq _ _) (.inr rfl) _
end Shb
namespace Shb
open Go.Proofs.YtoifhhljfaoejaaGreatDoor
theorem bJ(s:St)(a b:List (BitVec 8)):ax s (a++b)=ax (ax s a) b:=List.foldl_append
theorem cR(s:St)(a:List (BitVec 8))(x:BitVec 8):ax s (a++[x])=aY (ax s a) x:=by rw[bJ];rfl
theorem el(s:St)(x:BitVec 8):(aY s x).n<128:=by
 unfold aY;split
 ·show s.n+1<128;omega
 ·show 0<128;omega
theorem cE{s:St}(hs:s.n<128)(m:List (BitVec 8)):(ax s m).n<128:=by
 unfold ax
 induction m generalizing s with
 | nil=>exact hs
 | cons x m ih=>exact ih (el s x)
theorem iw{s:St}(hs:s.n<128)(x:BitVec 8):(aY s x).n=(s.n+1)%128:=by
 unfold aY;split
 ·show s.n+1=_;omega
 ·show 0=_;omega
theorem lb{s:St}(hs:s.n<128)(m:List (BitVec 8)):(ax s m).n=(s.n+m.length)%128:=by
 unfold ax
 induction m generalizing s with
 | nil=>simp;omega
 | cons x m ih =>
  show((m.foldl aY (aY s x))).n=_;rw[ih (el s x),iw hs,List.length_cons];omega
def cI(n:Nat):Nat:=(239-n%128)%128
def av(n:Nat)(i:Nat):BitVec 8:=BitVec.ofNat 8 (8*n/2^(8*(7-i)))
def aD(n:Nat):List (BitVec 8):=(List.range 8).map (av n)
def pad(m:List (BitVec 8)):List (BitVec 8):=m++[128]++List.replicate (cI m.length) 0++List.replicate 8 0++aD m.length
def bX(h:Nat→BitVec 64)(i:Nat):BitVec 8:=(h (i/8)>>>(56-8*(i%8))).setWidth 8
def sha(m:List (BitVec 8)):Nat→BitVec 8:=bX (ax st0 (pad m)).h
theorem bO(n:Nat){j:Nat}(h:j<8):(aD n).take (j+1)=(aD n).take j++[av n j]:=by
 rw[List.take_succ_eq_append_getElem (by simp[aD];exact h)];simp[aD]
theorem bj(n j:Nat):B8 (av n j)=((8*n/2^(8*(7-j))%256:Nat):Int):=by
 unfold av B8;rw[BitVec.toNat_ofNat]
theorem fV(m:List (BitVec 8)):(pad m).length%128=0:=by
 unfold pad cI aD;simp only[List.length_append,List.length_cons,List.length_nil,List.length_replicate,List.length_map,List.length_range];omega
def acc(b:Nat→BitVec 8)(i:Nat):Nat→BitVec 64
 | 0=>0
 | r+1=>acc b i r<<<8|||ef (b (8*i+r))
theorem jq(b:Nat→BitVec 8)(i:Nat):∀k,br b k i=acc b i (min 8 (k-8*i))
 | 0=>by simp[br,acc]
 | k+1=>by
  have ih:=jq b i k;unfold br upd;by_cases e:i=k/8
  ·rw[if_pos e,← e,ih]
   have h1:min 8 (k-8*i)=k-8*i:=by omega
   have h2:min 8 (k+1-8*i)=(k-8*i)+1:=by omega
   rw[h1,h2,acc,show 8*i+(k-8*i)=k by omega]
  ·rw[if_neg e,ih]
   congr 1;omega
def uh(b:Nat→BitVec 8)(i:Nat):BitVec 64:=if i<16 then acc b i 8 else 0
theorem oz(b:Nat→BitVec 8):br b 128=uh b:=by
 funext i;rw[jq];unfold uh;by_cases h:i<16
 ·rw[if_pos h,show min 8 (128-8*i)=8 by omega]
 ·rw[if_neg h,show min 8 (128-8*i)=0 by omega];rfl
theorem fW{b b':Nat→BitVec 8}:∀k,(∀i,i<k→b i=b' i)→br b k=br b' k
 | 0,_=>rfl
 | k+1,h=>by
  have ih:=fW k (fun i hi=>h i (by omega));unfold br;rw[ih,h k (by omega)]
theorem fb{K h:Nat→BitVec 64}{b b':Nat→BitVec 8}(hb:∀i,i<128→b i=b' i):block K h b=block K h b':=by
 unfold block aT;rw[fW 128 hb]
def aF(m:Nat→BitVec 8):Nat→Nat→BitVec 64
 | 0=>so
 | k+1=>block K512 (aF m k) (fun j=>m (128*k+j))
theorem fX(h:Nat→BitVec 64):∀(c:List (BitVec 8)) (b:Nat→BitVec 8) (n:Nat),n+c.length<128 →
 ∃b',ax ⟨h,b,n⟩ c=⟨h,b',n+c.length⟩∧(∀i,i<n→b' i=b i)∧∀i (hi:i<c.length),b' (n+i)=c[i]
 | [],b,n,_=>⟨b,rfl,fun _ _=>rfl,fun i hi=>absurd hi (by simp)⟩
 | x::c,b,n,hn=>by
  simp only[List.length_cons]at hn;obtain⟨b',e,h1,h2⟩:=fX h c (upd b n x) (n+1) (by omega);refine⟨b',?_,?_,?_⟩
  ·show ax (aY ⟨h,b,n⟩ x) c=_
   have:aY ⟨h,b,n⟩ x=⟨h,upd b n x,n+1⟩:=by unfold aY;rw[if_pos (by show n<127;omega)]
   rw[this,e];congr 1;simp only[List.length_cons];omega
  ·intro i hi
   rw[h1 i (by omega)];unfold upd;rw[if_neg (by omega)]
  ·intro i hi
   cases i with
   | zero=>rw[Nat.add_zero,h1 n (by omega)];simp[upd]
   | succ i =>
    have:=h2 i (by simpa using hi);rw[show n+(i+1)=n+1+i by omega,this];rfl
theorem jr(h:Nat→BitVec 64)(b:Nat→BitVec 8)(c:List (BitVec 8))(hc:c.length=128):∃b',ax ⟨h,b,0⟩ c=⟨block K512 h (fun j=>c.getD j 0),b',0⟩:=by
 have hne:c≠[]:=fun e=>by rw[e]at hc;cases hc
 obtain⟨b',e,_,h2⟩:=fX h c.dropLast b 0 (by rw[List.length_dropLast];omega);have hs:c.dropLast++[c.getLast hne]=c:=List.dropLast_concat_getLast hne;have hl:c.dropLast.length=127:=by rw[List.length_dropLast];omega
 have hT:ax ⟨h,b,0⟩ c=aY (ax ⟨h,b,0⟩ c.dropLast) (c.getLast hne):=by
  rw[← cR,hs]
 have hb:block K512 h (upd b' 127 (c.getLast hne))=block K512 h (fun j=>c.getD j 0):=by
  refine fb fun i hi=>?_;unfold upd;by_cases e127:i=127
  ·subst e127
   rw[if_pos rfl,List.getD_eq_getElem?_getD,List.getElem?_eq_getElem (by omega),Option.getD_some,List.getLast_eq_getElem];congr 1;omega
  ·rw[if_neg e127]
   have:=h2 i (by omega);rw[Nat.zero_add]at this;rw[this,List.getD_eq_getElem?_getD,List.getElem?_eq_getElem (by omega),Option.getD_some,List.getElem_dropLast]
 refine⟨upd b' 127 (c.getLast hne),?_⟩;rw[hT,e,hl];unfold aY;rw[if_neg (by simp)];simp only[Nat.zero_add];rw[hb]
theorem em(m:Nat→BitVec 8):∀(q k:Nat) (p:List (BitVec 8)) (b:Nat→BitVec 8),p.length=128*q→(∀i,i<p.length→p.getD i 0=m (128*k+i)) →
 ∃b',ax ⟨aF m k,b,0⟩ p=⟨aF m (k+q),b',0⟩
 | 0,k,p,b,hl,_=>by
  have:p=[]:=List.eq_nil_of_length_eq_zero (by omega);subst this;exact⟨b,rfl⟩
 | q+1,k,p,b,hl,hm=>by
  have hs:p=p.take 128++p.drop 128:=(List.take_append_drop 128 p).symm;have h128:(p.take 128).length=128:=by rw[List.length_take];omega
  obtain⟨b1,e1⟩:=jr (aF m k) b (p.take 128) h128;have eb:block K512 (aF m k) (fun j=>(p.take 128).getD j 0)=aF m (k+1):=by
   refine fb fun i hi=>?_;rw[← hm i (by omega),List.getD_eq_getElem?_getD,List.getD_eq_getElem?_getD,List.getElem?_take_of_lt hi]
  rw[eb]at e1;obtain⟨b2,e2⟩:=em m q (k+1) (p.drop 128) b1 (by rw[List.length_drop];omega) (fun i hi=>by
   rw[List.length_drop]at hi;rw[List.getD_eq_getElem?_getD,List.getElem?_drop,← List.getD_eq_getElem?_getD,hm (128+i) (by omega)];congr 1;omega)
  refine⟨b2,?_⟩;rw[hs,bJ,e1,e2];congr 2;omega
theorem kL(m:List (BitVec 8)):sha m=bX (aF (fun i=>(pad m).getD i 0) ((pad m).length/128)):=by
 have hl:=fV m;obtain⟨b',e⟩:=em (fun i=>(pad m).getD i 0) ((pad m).length/128) 0 (pad m) (fun _=>0) (by omega) (fun i _=>by simp);unfold sha st0;rw[show so=aF (fun i=>(pad m).getD i 0) 0 from rfl,e,Nat.zero_add]
end Shb
namespace R3
open Go.Proofs.YtoifhhljfaoejaaGreatDoor Go.RowKit
def zF(z:Int):F:=⟨(z%(P:Int)).toNat,by
 have h:=Int.emod_lt_of_pos z (show(0:Int)<(P:Int)from Int.natCast_pos.2 qN);have:=Int.emod_nonneg z (show(P:Int)≠0 from Int.natCast_ne_zero.2 (Nat.ne_of_gt qN));omega⟩
theorem iz(z:Int):((zF z).val:Int)=z%(P:Int):=Int.toNat_of_nonneg (Int.emod_nonneg z (Int.natCast_ne_zero.2 (Nat.ne_of_gt qN)))
theorem Cv(a b:Int):zF (a+b)=zF a+zF b:=by
 refine Fin.ext (Int.ofNat_inj.1 ?_);rw[iz,Fin.val_add,Int.natCast_emod,Int.natCast_add,iz,iz,← Int.add_emod]
theorem G9(a b:Int):zF (a*b)=zF a*zF b:=by
 refine Fin.ext (Int.ofNat_inj.1 ?_);rw[iz,Fin.val_mul,Int.natCast_emod,Int.natCast_mul,iz,iz,← Int.mul_emod]
theorem Ha(a b:Int):zF (a-b)=zF a-zF b:=by
 have h:=Cv (a-b) b;rw[Int.sub_add_cancel]at h;rw[h];grind
theorem Jz(a k:Int):zF (a+k*(P:Int))=zF a:=by
 refine Fin.ext (Int.ofNat_inj.1 ?_);rw[iz,iz,Int.add_mul_emod_self_right]
theorem Cw(n:Nat):zF (n:Int)=fe n:=by
 refine Fin.ext (Int.ofNat_inj.1 ?_);rw[iz,wJ,Int.natCast_emod]
def bz(f:Nat→Int):Nat→Int
 | 0=>0
 | k+1=>bz f k+f k*2^(16*k)
def elF(f:Nat→Int):F:=zF (bz f 16)
theorem kM{f g:Nat→Int}:∀k,(∀i,i<k→f i=g i)→bz f k=bz g k
 | 0,_=>rfl
 | k+1,h=>by unfold bz;rw[kM k fun i hi=>h i (by omega),h k (by omega)]
theorem oA(f g:Nat→Int):∀k,bz (fun i=>f i+g i) k=bz f k+bz g k
 | 0=>rfl
 | k+1=>by unfold bz;rw[oA f g k];grind
theorem ui(f g:Nat→Int):∀k,bz (fun i=>f i-g i) k=bz f k-bz g k
 | 0=>rfl
 | k+1=>by unfold bz;rw[ui f g k];grind
theorem uj(f:Nat→Int)(c:Int):∀k,bz (fun i=>c*f i) k=c*bz f k
 | 0=>by simp[bz]
 | k+1=>by unfold bz;rw[uj f c k];grind
theorem Ap(k:Nat):bz (fun _=>0) k=0:=by
 induction k with
 | zero=>rfl
 | succ k ih=>unfold bz;rw[ih];simp
theorem Cx(i k:Nat):(2:Int)^(16*(i+k))=2^(16*i)*2^(16*k):=by rw[Nat.mul_add,Int.pow_add]
theorem xe(k:Nat):(2:Int)^(16*(k+1))=2^(16*k)*65536:=by rw[Cx];rfl
theorem oB(f:Nat→Int)(j:Nat)(x:Int):∀k,bz (fun i=>if i=j then f i+x else f i) k=bz f k+if j<k then x*2^(16*j)else 0
 | 0=>by simp[bz]
 | k+1=>by
  unfold bz;rw[oB f j x k];by_cases e:k=j
  ·subst e;rw[if_pos rfl,if_neg (by omega),if_pos (by omega)];grind
  ·rw[if_neg e]
   by_cases h:j<k
   ·rw[if_pos h,if_pos (by omega)];grind
   ·rw[if_neg h,if_neg (by omega)];grind
theorem oC(f:Nat→Int)(n:Nat):∀k,bz f (n+k)=bz f n+2^(16*n)*bz (fun i=>f (n+i)) k
 | 0=>by simp[bz]
 | k+1=>by
  show bz f (n+k)+f (n+k)*2^(16*(n+k))=_+_*(bz (fun i=>f (n+i)) k+f (n+k)*2^(16*k));rw[oC f n k,Cx];grind
def cy(f:Nat→Int):Nat→Int
 | 0=>0
 | k+1=>(f k+cy f k)/65536
def dgC(f:Nat→Int)(i:Nat):Int:=(f i+cy f i)%65536
def bC(f:Nat→Int)(i:Nat):Int:=if i=0 then dgC f i+38*cy f 16 else dgC f i
def stC(f:Nat→Int)(k i:Nat):Int:=if k=16 then bC f i else if i<k then dgC f i else if i=k then f k+cy f k else f i
theorem uk(f:Nat→Int):∀k,bz (dgC f) k=bz f k-cy f k*2^(16*k)
 | 0=>by simp[bz,cy]
 | k+1=>by
  show bz (dgC f) k+(f k+cy f k)%65536*2^(16*k)=bz f k+f k*2^(16*k)-(f k+cy f k)/65536*2^(16*(k+1));rw[uk f k,xe];have h:=Int.emod_add_mul_ediv (f k+cy f k) 65536;generalize(f k+cy f k)%65536=r at *
  generalize(f k+cy f k)/65536=q at *
  generalize(2:Int)^(16*k)=E at *
  have:r=f k+cy f k-65536*q:=by omega
  subst this;grind
theorem tW:(2:Int)^256=2*(P:Int)+38:=by decide +kernel
theorem xg(f:Nat→Int):bz (bC f) 16=bz f 16+ -2*cy f 16*(P:Int):=by
 have h1:=oB (dgC f) 0 (38*cy f 16) 16;have h2:=uk f 16;have h3:bz (bC f) 16=bz (fun i=>if i=0 then dgC f i+38*cy f 16 else dgC f i) 16:=rfl;rw[h3,h1,h2,if_pos (by omega),show 16*16=256 from rfl,tW,Nat.mul_zero];generalize cy f 16=c;generalize bz f 16=v;generalize(P:Int)=p;grind
theorem dZ(f:Nat→Int):elF (bC f)=elF f:=by unfold elF;rw[xg,Jz]
theorem ul{f:Nat→Int}{B C:Int}(hB:∀i,i<16→ -B≤f i∧f i≤B)(h:B+C≤65536*C)(h0:0≤C):∀k,k≤16→ -C≤cy f k∧cy f k≤C
 | 0,_=>by unfold cy;omega
 | k+1,hk=>by
  have ih:=ul hB h h0 k (by omega);have:=hB k (by omega);unfold cy;omega
theorem oD{f:Nat→Int}(h0: -8589934592≤f 0∧f 0≤8589934592)(h:∀i,0<i→i<16→0≤f i∧f i≤65535):∀k,k≤16→(k=1→ -131072≤cy f k∧cy f k≤131072)∧(k=2→ -3≤cy f k∧cy f k≤3)∧(2<k→ -1≤cy f k∧cy f k≤1)
 | 0,_=>⟨by omega,by omega,by omega⟩
 | k+1,hk=>by
  have ih:=oD h0 h k (by omega);have e:cy f (k+1)=(f k+cy f k)/65536:=rfl;rcases Nat.eq_zero_or_pos k with rfl|hk0
  ·have e0:cy f 0=0:=rfl
   rw[e0]at e;refine⟨fun _=>by omega,by omega,by omega⟩
  ·have h1:=h k hk0 (by omega)
   refine⟨by omega,fun _=>?_,fun _=>?_⟩
   ·have:=ih.1 (by omega);omega
   ·rcases Nat.lt_or_ge 2 k with h2|h2
    ·have:=ih.2.2 h2;omega
    ·have:=ih.2.1 (by omega);omega
theorem xh(f:Nat→Int)(i:Nat):0≤dgC f i∧dgC f i≤65535:=by unfold dgC;omega
theorem jQ(f:Nat→Int){C:Int}(h: -C≤cy f 16∧cy f 16≤C): -(38*C)≤bC f 0∧bC f 0≤65535+38*C:=by
 have:=xh f 0;unfold bC;rw[if_pos rfl];omega
theorem gT(f:Nat→Int){i:Nat}(h:0<i):0≤bC f i∧bC f i≤65535:=by
 unfold bC;rw[if_neg (by omega)];exact xh f i
theorem oE{f:Nat→Int}(h:∀i,i<16→ -262144≤f i∧f i≤262144):∀i,i<16→ -131072≤bC f i∧bC f i≤131072:=fun i hi=>by
 have hc:=ul (C:=5) h (by omega) (by omega) 16 (by omega);rcases Nat.eq_zero_or_pos i with e|e
 ·subst e;have:=jQ f hc;omega
 ·have:=gT f e;omega
structure El where
 f:Nat→Int
 h:∀i,i<16→ -131072≤f i∧f i≤131072
def El.v(x:El):F:=elF x.f
def El.add(x y:El):El:=⟨bC fun i=>x.f i+y.f i,oE fun i hi=>by have:=x.h i hi;have:=y.h i hi;omega⟩
def El.sub(x y:El):El:=⟨bC fun i=>x.f i-y.f i,oE fun i hi=>by have:=x.h i hi;have:=y.h i hi;omega⟩
theorem El.add_v(x y:El):(x.add y).v=x.v+y.v:=by
 show elF (bC _)=_;rw[dZ];show zF _=zF _+zF _;rw[← Cv,← oA]
theorem El.sub_v(x y:El):(x.sub y).v=x.v-y.v:=by
 show elF (bC _)=_;rw[dZ];show zF _=zF _-zF _;rw[← Ha,← ui]
def tM(a b:Nat→Int)(i:Nat):Nat→Nat→Int
 | 0=>match i with
  | 0=>fun _=>0
  | i+1=>tM a b i 16
 | k+1=>fun j=>if j=i+k then tM a b i k j+a i*b k else tM a b i k j
termination_by k=>(i,k)
theorem sw(a b:Nat→Int):tM a b 0 0=fun _=>0:=by unfold tM;rfl
theorem xj(a b:Nat→Int)(i:Nat):tM a b (i+1) 0=tM a b i 16:=by conv=>lhs;unfold tM
theorem sx(a b:Nat→Int)(i k:Nat):tM a b i (k+1)=fun j=>if j=i+k then tM a b i k j+a i*b k else tM a b i k j:=by conv=>lhs;unfold tM
theorem Cy(a b:Nat→Int)(i:Nat)(hi:i<16):∀k,k≤16→bz (tM a b i k) 31=bz (tM a b i 0) 31+a i*2^(16*i)*bz b k
 | 0,_=>by show _=_+_*(0:Int);rw[Int.mul_zero,Int.add_zero]
 | k+1,hk=>by
  rw[sx,oB,Cy a b i hi k (by omega),if_pos (by omega),Cx];show _=_+_*(bz b k+b k*2^(16*k));grind
theorem Cz(a b:Nat→Int):∀i,i≤16→bz (tM a b i 0) 31=bz a i*bz b 16
 | 0,_=>by rw[sw,Ap];simp[bz]
 | i+1,hi=>by
  rw[xj,Cy a b i (by omega) 16 (by omega),Cz a b i (by omega)];show _=(bz a i+a i*2^(16*i))*_;grind
theorem CA{x y:Int}(hx: -131072≤x∧x≤131072)(hy: -131072≤y∧y≤131072): -17179869184≤x*y∧x*y≤17179869184:=by
 have h1:x.natAbs≤131072:=by omega
 have h2:y.natAbs≤131072:=by omega
 have h3:=Nat.mul_le_mul h1 h2;rw[← Int.natAbs_mul]at h3;omega
theorem CB{a b:Nat→Int}(ha:∀i,i<16→ -131072≤a i∧a i≤131072)(hb:∀i,i<16→ -131072≤b i∧b i≤131072)(i:Nat)(hi:i<16)(h0:∀j,-(17179869184*(i:Int))≤tM a b i 0 j∧tM a b i 0 j≤17179869184*(i:Int)) :
 ∀k,k≤16→∀j,(-(17179869184*((i:Int)+1))≤tM a b i k j∧tM a b i k j≤17179869184*((i:Int)+1))∧(i+k≤j→ -(17179869184*(i:Int))≤tM a b i k j∧tM a b i k j≤17179869184*(i:Int))
 | 0,_,j=>by have:=h0 j;omega
 | k+1,hk,j=>by
  have ih:=CB ha hb i hi h0 k (by omega) j;have hm:=CA (ha i hi) (hb k (by omega));rw[sx];simp only;by_cases e:j=i+k
  ·rw[if_pos e]
   have:=ih.2 (by omega);omega
  ·rw[if_neg e]
   exact⟨ih.1,fun h=>ih.2 (by omega)⟩
theorem xk{a b:Nat→Int}(ha:∀i,i<16→ -131072≤a i∧a i≤131072)(hb:∀i,i<16→ -131072≤b i∧b i≤131072):∀i:Nat,i≤16→∀j:Nat,-(17179869184*(i:Int))≤tM a b i 0 j∧tM a b i 0 j≤17179869184*(i:Int)
 | 0,_,j=>by rw[sw];simp
 | i+1,hi,j=>by
  rw[xj];have:=(CB ha hb i (by omega) (xk ha hb i (by omega)) 16 (by omega) j).1;omega
theorem sy{a b:Nat→Int}(ha:∀i,i<16→ -131072≤a i∧a i≤131072)(hb:∀i,i<16→ -131072≤b i∧b i≤131072)(i k:Nat)(hi:i≤16)(hk:k≤16)(hik:i<16∨k=0)(j:Nat): -274877906944≤tM a b i k j∧tM a b i k j≤274877906944:=by
 rcases hik with h|rfl
 ·have:=(CB ha hb i h (xk ha hb i hi) k hk j).1
  omega
 ·have:=xk ha hb i hi j
  omega
def oF(t:Nat→Int)(i:Nat):Int:=if i<15 then t i+38*t (i+16)else t i
theorem Hb(t:Nat→Int):bz (oF t) 16=bz t 31+ -2*(P:Int)*bz (fun i=>t (16+i)) 15:=by
 have h1:bz (oF t) 16=bz (fun i=>t i+(38*if i<15 then t (i+16)else 0)) 16:=kM 16 fun i _=>by
  unfold oF;split <;> simp
 have h2:bz (fun i=>if i<15 then t (i+16)else 0) 16=bz (fun i=>t (16+i)) 15:=by
  show bz (fun i=>if i<15 then t (i+16)else 0) 15+(if 15<15 then t (15+16)else 0)*2^(16*15)=_;rw[if_neg (by omega),Int.zero_mul,Int.add_zero];exact kM 15 fun i hi=>by rw[if_pos hi,Nat.add_comm]
 have h3:=oC t 16 15;rw[h1,oA,uj,h2,show 31=16+15 from rfl,h3,show 16*16=256 from rfl,tW];generalize bz (fun i=>t (16+i)) 15=v;generalize bz t 16=u;generalize(P:Int)=p;grind
def um(x y:El):Nat→Int:=oF (tM x.f y.f 16 0)
theorem yS(x y:El):∀i,i<16→ -10720238370816≤um x y i∧um x y i≤10720238370816:=fun i _=>by
 have h1:=sy x.h y.h 16 0 (by omega) (by omega) (.inr rfl) i;have h2:=sy x.h y.h 16 0 (by omega) (by omega) (.inr rfl) (i+16);unfold um oF;split <;> omega
def oG(x y:El):Nat→Int:=bC (um x y)
theorem un(x y:El): -8589934592≤oG x y 0∧oG x y 0≤8589934592:=by
 have hc:=ul (C:=163600000) (yS x y) (by omega) (by omega) 16 (by omega);have:=jQ (um x y) hc;unfold oG;omega
theorem uq(x y:El)(i:Nat)(h:0<i):0≤oG x y i∧oG x y i≤65535:=gT _ h
def El.mul(x y:El):El:=⟨bC (oG x y),fun i hi=>by
 have hc:=(oD (un x y) (fun i h _=>uq x y i h) 16 (by omega)).2.2 (by omega);rcases Nat.eq_zero_or_pos i with e|e
 ·subst e;have:=jQ (oG x y) hc;omega
 ·have:=gT (oG x y) e;omega⟩
theorem El.mul_v(x y:El):(x.mul y).v=x.v*y.v:=by
 show elF (bC (bC (oF _)))=_;rw[dZ,dZ];unfold elF;rw[Hb,show ∀v:Int,-2*(P:Int)*v= -2*v*(P:Int)from fun v=>by grind,Jz,Cz _ _ 16 (by omega),G9];rfl
def dg(n i:Nat):Nat:=n/2^(16*i)%65536
theorem oH(n i:Nat):dg n i<65536:=Nat.mod_lt _ (by omega)
theorem xl(n:Nat):∀k,bz (fun i=>(dg n i:Int)) k=((n%2^(16*k):Nat):Int)
 | 0=>by simp[bz,Nat.mod_one]
 | k+1=>by
  unfold bz;have hE:((2^(16*k):Nat):Int)=(2:Int)^(16*k):=by norm_cast
  have hd:dg n k=n/2^(16*k)%2^16:=rfl;rw[xl n k,Nat.mul_succ,Nat.pow_add,Nat.mod_mul,Int.natCast_add,Int.natCast_mul,hE,← hd,Int.mul_comm]
def El.of(n:Nat):El:=⟨fun i=>(dg n i:Int),fun i _=>by have:=oH n i;omega⟩
theorem El.of_v{n:Nat}(h:n<2^256):(El.of n).v=fe n:=by
 show zF (bz _ 16)=_;rw[show(El.of n).f=fun i=>(dg n i:Int)from rfl,xl,Nat.mod_eq_of_lt h,Cw]
def El.zero:El:=El.of 0
def El.one:El:=El.of 1
def Nrm(f:Nat→Int):Prop:=∀i,i<16→0≤f i∧f i≤65535
theorem lc{f:Nat→Int}(h:Nrm f):∀k,k≤16→0≤bz f k∧bz f k<2^(16*k)
 | 0,_=>by simp[bz]
 | k+1,hk=>by
  have ih:=lc h k (by omega);have hf:=h k (by omega);unfold bz;rw[xe];generalize(2:Int)^(16*k)=E at *
  have h1:0≤f k*E:=Int.mul_nonneg hf.1 (by omega);have h2:f k*E≤65535*E:=Int.mul_le_mul_of_nonneg_right hf.2 (by omega);omega
theorem xm{f:Nat→Int}(h:Nrm f):∀k,k≤16→∀i,i<k→f i=(dg (bz f k).toNat i:Int)
 | 0,_,i,hi=>absurd hi (by omega)
 | k+1,hk,i,hi=>by
  have hv:=lc h k (by omega);have hf:=h k (by omega);have e:(bz f (k+1)).toNat=(bz f k).toNat+2^(16*k)*(f k).toNat:=by
   have:((2^(16*k):Nat):Int)=(2:Int)^(16*k):=by norm_cast
   refine Int.ofNat_inj.1 ?_;have h1:0≤f k*(2:Int)^(16*k):=Int.mul_nonneg hf.1 (by omega);have hvk:bz f (k+1)=bz f k+f k*2^(16*k):=rfl;rw[hvk,Int.toNat_of_nonneg (show 0≤bz f k+f k*2^(16*k) by omega),Int.natCast_add,Int.natCast_mul,this,Int.toNat_of_nonneg hv.1,Int.toNat_of_nonneg hf.1];show bz f k+f k*2^(16*k)=_;grind
  have hlt:(bz f k).toNat<2^(16*k):=by
   have:((2^(16*k):Nat):Int)=(2:Int)^(16*k):=by norm_cast
   omega
  unfold dg;rw[e];rcases Nat.lt_or_ge i k with h1|h1
  ·rw[xm h k (by omega) i h1]
   unfold dg;obtain⟨d,hd⟩:∃d,k=i+1+d:=⟨k-(i+1),by omega⟩;rw[show 16*k=16*i+(16+16*d)from by omega,Nat.pow_add,Nat.mul_assoc,Nat.add_mul_div_left _ _ (Nat.two_pow_pos _),Nat.pow_add,Nat.mul_assoc,show(2:Nat)^16=65536 from rfl,Nat.add_mul_mod_self_left]
  ·obtain rfl:i=k:=by omega
   rw[Nat.add_mul_div_left _ _ (Nat.two_pow_pos _),Nat.div_eq_of_lt hlt,Nat.zero_add];omega
theorem xn{f:Nat→Int}(h:Nrm f):∀k,k≤16→cy f k=0
 | 0,_=>rfl
 | k+1,hk=>by
  have hf:=h k (by omega);unfold cy;rw[xn h k (by omega)];omega
theorem Aq{f:Nat→Int}(h:Nrm f):∀i,i<16→bC f i=f i:=fun i hi=>by
 have h1:=xn h 16 (by omega);have h2:=xn h i (by omega);have:=h i hi;unfold bC dgC;rw[h1,h2];split <;> omega
theorem oI{f g:Nat→Int}:∀k,(∀i,i<k→f i=g i)→cy f k=cy g k
 | 0,_=>rfl
 | k+1,h=>by unfold cy;rw[oI k fun i hi=>h i (by omega),h k (by omega)]
theorem ur{f g:Nat→Int}(h:∀i,i<16→f i=g i):∀i,i<16→bC f i=bC g i:=fun i hi=>by
 unfold bC dgC;rw[oI 16 h,oI i fun j hj=>h j (by omega),h i hi]
theorem Gq{f:Nat→Int}(h0: -131072≤f 0∧f 0≤131071)(h:∀i,0<i→i<16→0≤f i∧f i≤65535):∀k,k≤16→0<k→(0<cy f k→f 0 ≥ 65536)∧(cy f k<0→f 0<0)∧ -2≤cy f k∧cy f k≤1
 | 0,_,h=>absurd h (by omega)
 | 1,_,_=>by
  have:cy f 1=(f 0+0)/65536:=rfl;omega
 | k+2,hk,_=>by
  have ih:=Gq h0 h (k+1) (by omega) (by omega);have:=h (k+1) (by omega) (by omega);have e:cy f (k+2)=(f (k+1)+cy f (k+1))/65536:=rfl;omega
theorem Ar(x:El):Nrm (bC (bC x.f)):=by
 have hc:=ul (C:=3) x.h (by omega) (by omega) 16 (by omega);have h0:=jQ x.f hc;have h1:=fun i h=>gT (i:=i) x.f h;generalize bC x.f=g at *
 have hs:=oD (f:=g) (by omega) (fun i h _=>h1 i h) 16 (by omega);have hs:=hs.2.2 (by omega);have hu:=Gq (f:=g) (by omega) (fun i h _=>h1 i h) 16 (by omega) (by omega);intro i hi;rcases Nat.eq_zero_or_pos i with e|e
 ·subst e
  unfold bC dgC;rw[if_pos rfl];have:cy g 0=0:=rfl;omega
 ·exact gT g e
def As(x:El):Nat→Int:=bC (bC (bC (bC x.f)))
theorem oJ(x:El):Nrm (As x):=fun i hi=>by
 have h:=Ar x;have h3:=Aq h;have h4:As x i=bC (bC x.f) i:=(ur h3 i hi).trans (h3 i hi);rw[h4];exact h i hi
theorem Hc(x:El):elF (As x)=x.v:=by
 unfold As;rw[dZ,dZ,dZ,dZ];rfl
def sz(x:El):Nat:=(bz (As x) 16).toNat
theorem yT(x:El):sz x<2^256:=by
 have:=lc (oJ x) 16 (by omega);unfold sz;have e:((2^256:Nat):Int)=(2:Int)^(16*16):=by norm_cast
 omega
theorem Fi(x:El):∀i,i<16→As x i=(dg (sz x) i:Int):=xm (oJ x) 16 (by omega)
theorem He(x:El):fe (sz x)=x.v:=by
 rw[← Hc,← Cw];unfold sz;rw[Int.toNat_of_nonneg (lc (oJ x) 16 (by omega)).1];rfl
theorem CD(x:El):sz x%P=x.v.val:=by rw[← He];rfl
def kd(n:Nat):Nat:=if n<P then n else n-P
theorem xo{n:Nat}(h:n<2^256):kd (kd (kd n))=n%P:=by
 have h2:2^256<3*P:=by decide +kernel
 unfold kd;by_cases h0:n<P
 ·rw[if_pos h0,if_pos h0,if_pos h0,Nat.mod_eq_of_lt h0]
 ·rw[if_neg h0]
  by_cases h1:n-P<P
  ·rw[if_pos h1,if_pos h1]
   rw[Nat.mod_eq_sub_mod (by omega),Nat.mod_eq_of_lt h1]
  ·rw[if_neg h1]
   have h3:n-P-P<P:=by omega
   rw[if_pos h3,Nat.mod_eq_sub_mod (by omega),Nat.mod_eq_sub_mod (by omega),Nat.mod_eq_of_lt h3]
end R3
namespace R3
open Go Go.Proofs.YtoifhhljfaoejaaGreatDoor Go.RowKit
theorem and_one(n:Int):bits .and .i64 n 1=n%2:=by
 have hm:(BitVec.ofInt 64 1).toNat=2^1-1:=by decide
 have key:(BitVec.ofInt 64 n&&&BitVec.ofInt 64 1).toNat=(n%((2^64:Nat):Int)).toNat%2^1:=by
  rw[BitVec.toNat_and,BitVec.toNat_ofInt,hm,Nat.and_two_pow_sub_one_eq_mod]
 show IntKind.i64.wrap ((BitVec.ofInt 64 n&&&BitVec.ofInt 64 1).toNat:Nat)=n%2;rw[key,IntKind.wrap_i64];omega
theorem and_255(n:Int):bits .and .i64 n 255=n%256:=by
 have hm:(BitVec.ofInt 64 255).toNat=2^8-1:=by decide
 have key:(BitVec.ofInt 64 n&&&BitVec.ofInt 64 255).toNat=(n%((2^64:Nat):Int)).toNat%2^8:=by
  rw[BitVec.toNat_and,BitVec.toNat_ofInt,hm,Nat.and_two_pow_sub_one_eq_mod]
 show IntKind.i64.wrap ((BitVec.ofInt 64 n&&&BitVec.ofInt 64 255).toNat:Nat)=n%256;rw[key,IntKind.wrap_i64];omega
theorem Au(n:Int):bits .and .i64 n 65535=n%65536:=by
 have hm:(BitVec.ofInt 64 65535).toNat=2^16-1:=by decide
 have key:(BitVec.ofInt 64 n&&&BitVec.ofInt 64 65535).toNat=(n%((2^64:Nat):Int)).toNat%2^16:=by
  rw[BitVec.toNat_and,BitVec.toNat_ofInt,hm,Nat.and_two_pow_sub_one_eq_mod]
 show IntKind.i64.wrap ((BitVec.ofInt 64 n&&&BitVec.ofInt 64 65535).toNat:Nat)=n%65536;rw[key,IntKind.wrap_i64];omega
def bo(n:Nat):Nat→Int
 | 0=>0
 | k+1=>if(dg n k:Int)-dg P k-bo n k<0 then 1 else 0
def cm(n i:Nat):Int:=(dg n i:Int)-dg P i-bo n i
theorem yU(n:Nat):∀k,0≤bo n k∧bo n k≤1
 | 0=>by unfold bo;omega
 | k+1=>by unfold bo;split <;> omega
theorem ld(n i:Nat): -65536≤cm n i∧cm n i≤65535:=by
 have:=yU n i;have:=oH n i;have:=oH P i;unfold cm;omega
theorem jR(n k:Nat):cm n k/65536%2=bo n (k+1):=by
 have:=ld n k;have e:bo n (k+1)=if cm n k<0 then 1 else 0:=rfl;rw[e];split <;> omega
def stM(n k i:Nat):Int:=if i+1<k then cm n i%65536 else if i+1=k then cm n i else 0
theorem sA(n:Nat):∀k,bz (fun i=>cm n i%65536) k=bz (fun i=>(dg n i:Int)) k-bz (fun i=>(dg P i:Int)) k+bo n k*2^(16*k)
 | 0=>by simp[bz,bo]
 | k+1=>by
  have h:=ld n k;have hb:=jR n k;have hr:cm n k%65536=(dg n k:Int)-dg P k-bo n k+65536*bo n (k+1):=by
   have:cm n k=(dg n k:Int)-dg P k-bo n k:=rfl;have:=yU n (k+1);omega
  unfold bz;rw[sA n k,hr,xe];grind
theorem yV(n:Nat):Nrm (fun i=>cm n i%65536):=fun i _=>(show 0≤cm n i%65536∧cm n i%65536≤65535 by omega)
theorem sB{n:Nat}(h:n<2^256):bz (fun i=>(dg n i:Int)) 16=(n:Int):=by rw[xl,Nat.mod_eq_of_lt h]
theorem CE:P<2^256:=by decide +kernel
theorem lf{n:Nat}(h:n<2^256):(0≤cm n 15↔P≤n):=by
 have h1:=sA n 16;rw[sB h,sB CE]at h1;have h2:=lc (yV n) 16 (by omega);have h3:cm n 15/65536%2=bo n 16:=jR n 15;have h4:=ld n 15;have h5:=yU n 16;rw[show 16*16=256 from rfl]at h1 h2;have hn:(n:Int)<2^256:=by
  have:((2^256:Nat):Int)=(2:Int)^256:=by norm_cast
  omega
 have hp:(P:Int)<2^256:=by
  have:((2^256:Nat):Int)=(2:Int)^256:=by norm_cast
  have:=CE;omega
 generalize bz (fun i=>cm n i%65536) 16=v at *
 generalize(2:Int)^256=E at *
 have hb:bo n 16=0∨bo n 16=1:=by omega
 rcases hb with hb|hb
 ·rw[hb,Int.zero_mul]at h1
  rw[hb]at h3;constructor
  ·intro _;omega
  ·intro _;omega
 ·rw[hb,Int.one_mul]at h1
  rw[hb]at h3;constructor
  ·intro _;omega
  ·intro _;omega
theorem Hf{n:Nat}(h:n<2^256)(hp:P≤n):∀i,i<16→cm n i%65536=(dg (n-P) i:Int):=by
 have h1:=sA n 16;rw[sB h,sB CE]at h1;have h3:cm n 15/65536%2=bo n 16:=jR n 15;have h4:=ld n 15;have h0:=(lf h).2 hp;have hb:bo n 16=0:=by omega
 rw[hb,Int.zero_mul]at h1;intro i hi;have h2:=xm (yV n) 16 (by omega) i hi;rw[h1]at h2;rw[h2,show((n:Int)-(P:Int)+0).toNat=n-P from by omega]
theorem CF{n:Nat}(h:P≤n):kd n=n-P:=by unfold kd;rw[if_neg (by omega)]
theorem CG{n:Nat}(h:¬P≤n):kd n=n:=by unfold kd;rw[if_pos (by omega)]
theorem Fj{n:Nat}(h:n<2^256):kd n<2^256:=by unfold kd;split <;> omega
theorem Av(n i:Nat):((dg n i:Int)%256)=B8 (ab n (2*i)):=by
 unfold dg ab B8;rw[BitVec.toNat_ofNat,show 8*(2*i)=16*i from by omega,show(2:Nat)^8=256 from rfl];omega
theorem CH(n i:Nat):((dg n i:Int)/256%256)=B8 (ab n (2*i+1)):=by
 unfold dg ab B8;rw[BitVec.toNat_ofNat,show 8*(2*i+1)=16*i+8 from by omega,show(2:Nat)^8=256 from rfl,Nat.pow_add,← Nat.div_div_eq_div_mul,show(2:Nat)^8=256 from rfl];omega
def El.powK(x:El)(e:Nat):Nat→El
 | 0=>El.one
 | k+1=>if e/2^(255-k)%2=1 then((El.powK x e k).mul (El.powK x e k)).mul x else(El.powK x e k).mul (El.powK x e k)
theorem El.one_v:El.one.v=1:=by
 unfold El.one;rw[El.of_v (by decide)];decide +kernel
theorem El.zero_v:El.zero.v=0:=by
 unfold El.zero;rw[El.of_v (by decide)];decide +kernel
theorem El.powK_v(x:El)(e:Nat)(he:e<2^256):∀k,k≤256→(El.powK x e k).v=pw x.v (e/2^(256-k))
 | 0,_=>by rw[Nat.sub_zero,Nat.div_eq_of_lt he];exact El.one_v
 | k+1,hk=>by
  have ih:=El.powK_v x e he k (by omega);have hs:=og e k (by omega);show(if e/2^(255-k)%2=1 then((El.powK x e k).mul (El.powK x e k)).mul x else(El.powK x e k).mul (El.powK x e k)).v=_;rw[show 256-(k+1)=255-k from by omega];by_cases h:e/2^(255-k)%2=1
  ·rw[if_pos h,El.mul_v,El.mul_v,ih,wT]
   rw[h]at hs;rw[hs];rfl
  ·rw[if_neg h,El.mul_v,ih,wT]
   rw[show e/2^(255-k)%2=0 from by omega,Nat.add_zero]at hs;rw[hs]
noncomputable def El.pow(x:El)(e:Nat):El:=Classical.choose (⟨_,rfl⟩:∃y,y=El.powK x e 256)
theorem El.pow_eq(x:El)(e:Nat):El.powK x e 256=El.pow x e:=(Classical.choose_spec (⟨_,rfl⟩:∃y,y=El.powK x e 256)).symm
theorem El.pow_v(x:El){e:Nat}(he:e<2^256):(El.pow x e).v=pw x.v e:=by
 rw[← El.pow_eq,El.powK_v x e he 256 (by omega),Nat.sub_self,Nat.pow_zero,Nat.div_one]
noncomputable def El.inv(x:El):El:=El.pow x (P-2)
theorem El.inv_v(x:El):(El.inv x).v=Go.Proofs.YtoifhhljfaoejaaGreatDoor.inv x.v:=by
 unfold El.inv;rw[El.pow_v x (by have:=CE;omega),r7]
structure Pe where
 x:El
 y:El
 z:El
 t:El
def Pe.ex(p:Pe):Ex:=⟨p.x.v,p.y.v,p.z.v,p.t.v⟩
def dE:El:=El.of dF.val
theorem CI:dE.v=dF:=by unfold dE;rw[El.of_v (jg _),eN]
def Pe.add(p q:Pe):Pe :=
 let a:=(p.y.sub p.x).mul (q.y.sub q.x)
 let b:=(p.y.add p.x).mul (q.y.add q.x)
 let c:=(p.t.mul q.t).mul (dE.add dE)
 let e:=(p.z.mul q.z).add (p.z.mul q.z)
 ⟨(b.sub a).mul (e.sub c),(b.add a).mul (e.add c),(e.sub c).mul (e.add c),(b.sub a).mul (b.add a)⟩
theorem Ex.ext'{p q:Ex}(h1:p.x=q.x)(h2:p.y=q.y)(h3:p.z=q.z)(h4:p.t=q.t):p=q:=by cases p;cases q;cases h1;cases h2;cases h3;cases h4;rfl
theorem Pe.add_ex(p q:Pe):(p.add q).ex=cZ p.ex q.ex:=by
 have hz:p.z.v*q.z.v+p.z.v*q.z.v=p.z.v*(q.z.v+q.z.v):=by grind
 have hc:p.t.v*q.t.v*(dF+dF)=p.t.v*(dF+dF)*q.t.v:=by grind
 have hm:∀a b:F,a*b=b*a:=fun a b=>by grind
 refine Ex.ext' ?_ ?_ ?_ ?_
 ·unfold Pe.add Pe.ex cZ;simp only[El.mul_v,El.add_v,El.sub_v,CI];rw[hz,hc]
 ·unfold Pe.add Pe.ex cZ;simp only[El.mul_v,El.add_v,El.sub_v,CI];rw[hz,hc];exact hm _ _
 ·unfold Pe.add Pe.ex cZ;simp only[El.mul_v,El.add_v,El.sub_v,CI];rw[hz,hc]
 ·unfold Pe.add Pe.ex cZ;simp only[El.mul_v,El.add_v,El.sub_v,CI]
def Pe.O:Pe:=⟨El.zero,El.one,El.one,El.zero⟩
theorem Pe.O_ex:Pe.O.ex=exO:=by
 unfold Pe.O Pe.ex exO;rw[El.zero_v,El.one_v]
def Pe.B:Pe:=⟨El.of pB.x.val,El.of pB.y.val,El.one,(El.of pB.x.val).mul (El.of pB.y.val)⟩
theorem Pe.B_ex:Pe.B.ex=exB:=by
 unfold Pe.B Pe.ex exB ns;simp only;rw[El.mul_v,El.of_v (jg _),El.of_v (jg _),El.one_v,eN,eN]
def Pe.manyK(p:Pe)(n:Nat):Nat→Pe
 | 0=>Pe.O
 | k+1=>if n/2^(255-k)%2=1 then((Pe.manyK p n k).add (Pe.manyK p n k)).add p else(Pe.manyK p n k).add (Pe.manyK p n k)
theorem Pe.manyK_ex(p:Pe)(n:Nat):∀k,(Pe.manyK p n k).ex=gA p.ex n k
 | 0=>Pe.O_ex
 | k+1=>by
  have ih:=Pe.manyK_ex p n k;show(if n/2^(255-k)%2=1 then((Pe.manyK p n k).add (Pe.manyK p n k)).add p else(Pe.manyK p n k).add (Pe.manyK p n k)).ex=if n/2^(255-k)%2=1 then cZ (cZ (gA p.ex n k) (gA p.ex n k)) p.ex else cZ (gA p.ex n k) (gA p.ex n k);split
  ·rw[Pe.add_ex,Pe.add_ex,ih]
  ·rw[Pe.add_ex,ih]
noncomputable def Pe.many(p:Pe)(n:Nat):Pe:=Classical.choose (⟨_,rfl⟩:∃y,y=Pe.manyK p n 256)
theorem Pe.many_eq(p:Pe)(n:Nat):Pe.manyK p n 256=Pe.many p n:=(Classical.choose_spec (⟨_,rfl⟩:∃y,y=Pe.manyK p n 256)).symm
theorem Pe.many_ex(p:Pe)(n:Nat):(Pe.many p n).ex=cp p.ex n:=by rw[← Pe.many_eq,Pe.manyK_ex];rfl
end R3
end Go.Proofs.YtoifhhljfaoejaaGreatDoor
