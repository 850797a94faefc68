/-
  Lemmas of the law, part 14: the walks of the functions that it calls and the plain facts about them. No condition beyond those written.
-/
import Derived.Test.YtoifhhljfaoejaaGreatDoorPkAM
import Derived.Test.YtoifhhljfaoejaaGreatDoorPkAA
namespace Go.Proofs.YtoifhhljfaoejaaGreatDoor.Shb
open Go.Proofs.YtoifhhljfaoejaaGreatDoor Go.RowKit
theorem Q_wrap8 (x:BitVec 64):IntKind.u64.wrap (Q x*256)=Q (x <<< 8):=by rw [IntKind.wrap_u64];exact Q_shl8 x
theorem info128b:(Tryz.prog.info? 351).map (·.size)=some 128:=by kernel_rfl
theorem cell_rowQ {w:World} {g n i:Nat} {f:Nat→BitVec 64} {t:TypeId} {fr:Nat×Nat} (hg:w.heap[g]?=some (.cells (rowQ n f) t fr)) (h:i<n):w.cell? ⟨g,i,none⟩=some (.int .u64 (Q (f i))):=cell_row hg h
theorem heap_set_rowQ {w:World} {g n i:Nat} {f:Nat→BitVec 64} {t:TypeId} (x:BitVec 64) (hg:w.heap[g]?=some (.cells (rowQ n f) t (0,0))) (h:i<n) :
 (w.setCell ⟨g,i,none⟩ (.int .u64 (Q x))).heap[g]?=some (.cells (rowQ n (upd f i x)) t (0,0)):=by
 rw [heap_set_row _ hg h]
 congr 2
 exact row_congr fun j _=>by unfold upd;split <;> rfl
theorem index_block {b:Nat→BitVec 8} {k:Nat} (h:k<128) (w:World):(Instr.index 351 (.agg (row 128 fun i=>Value.int .u8 (B8 (b i)))) (.int .i64 k)).run Tryz.prog w= .ok (.int .u8 (B8 (b k))) w :=
 run_index_row _ Tryz.underlying351 (by kernel_rfl) (fun w=>by kernel_rfl) h w
set_option maxRecDepth 100000 in
set_option maxHeartbeats 400000 in
theorem schedule_any (sb:Nat) (S:Nat→Value) (b:Nat→BitVec 8) (w:World) (hg:w.heap[sb]?=some (.cells (row 218 S) 353 (0,0))) (hS:∀ i,i<128→S (88+i)= .int .u8 (B8 (b i))) :
 Calls Tryz.prog 320 #[.pointer (some ⟨sb,0,none⟩)] w fun e w'=>e= .returned (.agg (rowQ 80 (sched b)))∧Below w.heap.size w w':=by
 have hsb:sb<w.heap.size:=(Array.getElem?_eq_some_iff.1 hg).1
 have hg2:((w.alloc (.cells (row 80 fun _=> .int .u64 0) 262)).alloc (.cells (row 80 fun _=> .int .u64 0) 262)).heap[sb]?=some (.cells (row 218 S) 353 (0,0)):=by
  rw [Below.heap_alloc _ _ _ (by simp;omega),Below.heap_alloc _ _ _ hsb,hg]
 have hR:=rangeAt_row (o:=88) (n:=128) hg2 (by decide)
 rw [row_congr hS] at hR
 have HR:=Lib.hid hR
 have HI:=Lib.hid (show (Tryz.prog.info? 351).map (·.size)=some (row 128 fun i=>Value.int .u8 (B8 (b i))).toList.length by rw [info128b];simp [row_size])
 clear hg hR hS hg2
 go_enter Tryz.func320,Tryz.ntmps320
 go_wp2_with (first | (with_reducible refine wpList_alloc_row rfl 262 rfl 80 _ info80 ?_) | (with_reducible refine wpList_load_mid rfl 351 _ rfl sb 88 rfl _ _ HR.out Tryz.underlying351 rfl HI.out ?_))
 go_loopw [15] (fun i wr=>∃ k:Nat,k≤128∧i= .int .i64 k∧wr.heap[w.heap.size+1]?=some (.cells (rowQ 80 (sch1 b k)) 262 (0,0))∧wr.heap[w.heap.size]?=some (.cells (rowQ 80 fun _=>0) 262 (0,0))∧Below w.heap.size w wr) (fun i _=>128 - (intOf i).toNat)
 case atStart=>exact ⟨0,by omega,rfl,heap_alloc2_new _ _ _,heap_alloc2_old _ _ _,(((Below.refl _ _).alloc (Nat.le_refl _) _).alloc (by simp) _)⟩
 case round =>
  obtain ⟨k,hk,rfl,hw,hz,hbel⟩:=hrel
  by_cases hlt:k<128
  ·have hi:=fun w=>index_block (b:=b) hlt w
   have hk0:(0:Int)≤(k:Int):=by omega
   have hk1:(k:Int)<128:=by omega
   have hc:wr.cell? ⟨w.heap.size+1,k / 8,none⟩=some (.int .u64 (Q (sch1 b k (k / 8)))):=cell_row hw (by omega)
   have hf:wr.frozen? ⟨w.heap.size+1,k / 8,none⟩=false:=frozen_of_row wr _ _ _ _ hw
   obtain ⟨u0,u1⟩:=Q_bd (sch1 b k (k / 8))
   obtain ⟨v0,v1⟩:=B8_bd (b k)
   have HW:=Lib.hid hw
   have HZ:=Lib.hid hz
   clear hw hz
   go_wp2
   go_roundw
   case rel =>
    refine ⟨k+1,by omega,by go_num,?_,?_,hbel.setCell (by simp) _⟩
    ·rw [Q_wrap8,B8_wideQ,Q_or]
     exact heap_set_rowQ _ HW.out (by omega)
    ·rw [heap_setCell_other _ _ _ _ (by simp)];exact HZ.out
   case measure=>simp [intOf];omega
  ·have e:sch1 b k=sch1 b 128:=by rw [show k=128 by omega]
   rw [e] at hw
   clear e
   go_wp2
   go_loopw [6] (fun i wr=>∃ k:Nat,16≤k∧k≤80∧i= .int .i64 k∧wr.heap[w.heap.size+1]?=some (.cells (rowQ 80 (sch2 (sch1 b 128) k)) 262 (0,0))∧wr.heap[w.heap.size]?=some (.cells (rowQ 80 fun _=>0) 262 (0,0))∧Below w.heap.size w wr) (fun i _=>80 - (intOf i).toNat)
   case atStart=>exact ⟨16,by omega,by omega,rfl,by rw [sch2_low _ 16 (by omega)];exact hw,hz,hbel⟩
   case round =>
    clear hw hz hbel hk hlt
    obtain ⟨K1,rfl⟩:∃ K1,K1=k:=⟨_,rfl⟩
    obtain ⟨k,hk16,hk,rfl,hw,hz,hbel⟩:=hrel
    by_cases hlt:k<80
    ·have hk0:(16:Int)≤(k:Int):=by omega
     have hk1:(k:Int)<80:=by omega
     have hc2:wr.cell? ⟨w.heap.size+1,k - 2,none⟩=some (.int .u64 (Q (sch2 (sch1 b 128) k (k - 2)))):=cell_row hw (by omega)
     have hc7:wr.cell? ⟨w.heap.size+1,k - 7,none⟩=some (.int .u64 (Q (sch2 (sch1 b 128) k (k - 7)))):=cell_row hw (by omega)
     have hc15:wr.cell? ⟨w.heap.size+1,k - 15,none⟩=some (.int .u64 (Q (sch2 (sch1 b 128) k (k - 15)))):=cell_row hw (by omega)
     have hc16:wr.cell? ⟨w.heap.size+1,k - 16,none⟩=some (.int .u64 (Q (sch2 (sch1 b 128) k (k - 16)))):=cell_row hw (by omega)
     have hc:wr.cell? ⟨w.heap.size+1,k,none⟩=some (.int .u64 (Q (sch2 (sch1 b 128) k k))):=cell_row hw (by omega)
     have hf:wr.frozen? ⟨w.heap.size+1,k,none⟩=false:=frozen_of_row wr _ _ _ _ hw
     have HW:=Lib.hid hw
     have HZ:=Lib.hid hz
     have HS:=Lib.hid (sch2_step (sch1 b 128) hk16)
     clear hw hz
     generalize sch2 (sch1 b 128) k=f at *
     obtain ⟨a0,a1⟩:=Q_bd (f (k - 2))
     obtain ⟨b0,b1⟩:=Q_bd (f (k - 15))
     have hs0:=sig0_val (f (k - 15))
     have hs1:=sig1_val (f (k - 2))
     have hadd:=Q_add
     go_wp2
     go_quiet (fail)
     go_wp2_with (first | (go_at_call 321;with_reducible refine (rot1 _ _).mono ?_;rintro e w' ⟨rfl,rfl⟩) | (go_at_call 321;with_reducible refine (rot8 _ _).mono ?_;rintro e w' ⟨rfl,rfl⟩) | (go_at_call 321;with_reducible refine (rot19 _ _).mono ?_;rintro e w' ⟨rfl,rfl⟩) | (go_at_call 321;with_reducible refine (rot61 _ _).mono ?_;rintro e w' ⟨rfl,rfl⟩))
     clear hs0 hs1 hc2 hc7 hc15 hc16 hc hf
     have hw:(wr.drewN nq).heap[w.heap.size+1]?=some (.cells (rowQ 80 f) 262 (0,0)):=HW.out
     have hz:(wr.drewN nq).heap[w.heap.size]?=some (.cells (rowQ 80 fun _=>0) 262 (0,0)):=HZ.out
     have hbel:=hbel.trans (⟨rfl,rfl,rfl,Nat.le_refl _,fun _ _=>rfl⟩:Below w.heap.size wr (wr.drewN nq))
     clear HW HZ
     generalize wr.drewN nq=W at *
     have hc7:W.cell? ⟨w.heap.size+1,k - 7,none⟩=some (.int .u64 (Q (f (k - 7)))):=cell_rowQ hw (by omega)
     have hc16:W.cell? ⟨w.heap.size+1,k - 16,none⟩=some (.int .u64 (Q (f (k - 16)))):=cell_rowQ hw (by omega)
     have hc:W.cell? ⟨w.heap.size+1,k,none⟩=some (.int .u64 (Q (f k))):=cell_rowQ hw (by omega)
     have hf:W.frozen? ⟨w.heap.size+1,k,none⟩=false:=frozen_of_row W _ _ _ _ hw
     have HW:=Lib.hid hw
     have HZ:=Lib.hid hz
     clear hw hz
     have e7:IntKind.i64.wrap ((k:Int) - 7)=(k:Int) - 7:=IntWalk.i64_in _ (by omega)
     have e16:IntKind.i64.wrap ((k:Int) - 16)=(k:Int) - 16:=IntWalk.i64_in _ (by omega)
     have t7:((k:Int) - 7).toNat=k - 7:=by omega
     have t16:((k:Int) - 16).toNat=k - 16:=by omega
     have p7:(7:Int)≤(k:Int):=by omega
     have q7:(k:Int) - 7<80:=by omega
     have q16:(k:Int) - 16<80:=by omega
     go_still_tail 15,(by kernel_rfl)
     clear e7 e16 t7 t16 p7 q7 q16
     change wpList _ _ _ _ _ W.drew
     go_wp2
     go_roundw
     case rel =>
      refine ⟨k+1,by omega,by omega,by go_num,?_,?_,(hbel.setCell (by simp) _).drew⟩
      ·rw [HS.out]
       exact heap_set_rowQ _ HW.out (by omega)
      ·show (W.setCell _ _).heap[_]?=_
       rw [heap_setCell_other _ _ _ _ (by simp)];exact HZ.out
     case measure=>simp [intOf];omega
    ·have e:sch2 (sch1 b 128) k=sched b:=by rw [show k=80 by omega];rfl
     rw [e] at hw
     clear e
     have HW:=Lib.hid hw
     have HZ:=Lib.hid hz
     have HN:=Lib.hid (show (Tryz.prog.info? 262).map (·.size)=some (rowQ 80 (sched b)).size by rw [size80,rowQ_size])
     clear hw hz
     go_wp2_with (first | (with_reducible refine wpList_load_row rfl 262 _ rfl (w.heap.size+1) rfl 262 (rowQ 80 (sched b)) (0,0) _ HW.out Tryz.underlying262 rfl HN.out ?_) | (with_reducible refine wpList_store_rowTo rfl 262 _ _ rfl rfl w.heap.size (rowQ 80 (sched b)) rfl rfl 262 _ HZ.out HN.out (by rw [rowQ_size,rowQ_size]) (rowQ_oneCell _ _) ?_))
     refine bodyPost_ret (results_cell_row rfl _ _ w.heap.size 262 (rowQ 80 (sched b)) (0,0) _ rfl (heap_setRow_at HZ.out) Tryz.underlying262 rfl HN.out) rfl ?_
     exact ⟨rfl,below_setRow hbel (Nat.le_refl _) _⟩
end Go.Proofs.YtoifhhljfaoejaaGreatDoor.Shb
namespace Go.Proofs.YtoifhhljfaoejaaGreatDoor.Shb
open Go.Proofs.YtoifhhljfaoejaaGreatDoor Go.RowKit
def TurnAt (sb:Nat) (h:Nat→BitVec 64) (b:Nat→BitVec 8) (n:Nat) (L:BitVec 64) (w:World) (a':Act) (w':World):Prop :=
 ∃ (t wb vb:Nat) (u:Nat→Value),t≤80∧w.heap.size≤wb∧wb<vb ∧
  a'={ tmps:= #[.pointer (some ⟨sb,0,none⟩),u 1,.pointer (some ⟨wb,0,none⟩),.pointer (some ⟨vb,0,none⟩),.int .i64 t,u 5,u 6,u 7,u 8,u 9,u 10,u 11,u 12,u 13,u 14,u 15,u 16,u 17,u 18,u 19,u 20,u 21,u 22,u 23,u 24,u 25,u 26,u 27,u 28,u 29,u 30,u 31,u 32,u 33,u 34,u 35,u 36,u 37,u 38,u 39,u 40,u 41,u 42,u 43,u 44,u 45,u 46,u 47,u 48,u 49,u 50,u 51,u 52,u 53,u 54,u 55,u 56,u 57,u 58,u 59,u 60,u 61,u 62,u 63,u 64,u 65,u 66,u 67,u 68,u 69,u 70,u 71,u 72,u 73,u 74,u 75,u 76,u 77,u 78,u 79,u 80,u 81,u 82,u 83,u 84,u 85,u 86,u 87,u 88,u 89,u 90,u 91,u 92,u 93,u 94,u 95,u 96,u 97,u 98,u 99,u 100,u 101,u 102,u 103,u 104,u 105,u 106,u 107,u 108,u 109,u 110,u 111,u 112,u 113,u 114,u 115,u 116,u 117,u 118,u 119,u 120,u 121],defers:=[] } ∧
  w'.heap[sb]?=some (.cells (stRow h b n L) 353 (0,0))∧w'.heap[wb]?=some (.cells (rowQ 80 (sched b)) 262 (0,0)) ∧
  w'.heap[vb]?=some (.cells (rowQ 8 (rnds K512 (sched b) h t)) 261 (0,0))∧w.grownBy w' (some sb)
theorem turnAt_mk {sb n:Nat} {h:Nat→BitVec 64} {b:Nat→BitVec 8} {L:BitVec 64} {w w':World} {tm:Array Value} (t wb vb:Nat) (ht:t≤80) (hwb:w.heap.size≤wb) (hvb:wb<vb)
 (he:({ tmps:=tm,defers:=[] }:Act)={ tmps:= #[.pointer (some ⟨sb,0,none⟩),tm.getD 1 undef,.pointer (some ⟨wb,0,none⟩),.pointer (some ⟨vb,0,none⟩),.int .i64 t,tm.getD 5 undef,tm.getD 6 undef,tm.getD 7 undef,tm.getD 8 undef,tm.getD 9 undef,tm.getD 10 undef,tm.getD 11 undef,tm.getD 12 undef,tm.getD 13 undef,tm.getD 14 undef,tm.getD 15 undef,tm.getD 16 undef,tm.getD 17 undef,tm.getD 18 undef,tm.getD 19 undef,tm.getD 20 undef,tm.getD 21 undef,tm.getD 22 undef,tm.getD 23 undef,tm.getD 24 undef,tm.getD 25 undef,tm.getD 26 undef,tm.getD 27 undef,tm.getD 28 undef,tm.getD 29 undef,tm.getD 30 undef,tm.getD 31 undef,tm.getD 32 undef,tm.getD 33 undef,tm.getD 34 undef,tm.getD 35 undef,tm.getD 36 undef,tm.getD 37 undef,tm.getD 38 undef,tm.getD 39 undef,tm.getD 40 undef,tm.getD 41 undef,tm.getD 42 undef,tm.getD 43 undef,tm.getD 44 undef,tm.getD 45 undef,tm.getD 46 undef,tm.getD 47 undef,tm.getD 48 undef,tm.getD 49 undef,tm.getD 50 undef,tm.getD 51 undef,tm.getD 52 undef,tm.getD 53 undef,tm.getD 54 undef,tm.getD 55 undef,tm.getD 56 undef,tm.getD 57 undef,tm.getD 58 undef,tm.getD 59 undef,tm.getD 60 undef,tm.getD 61 undef,tm.getD 62 undef,tm.getD 63 undef,tm.getD 64 undef,tm.getD 65 undef,tm.getD 66 undef,tm.getD 67 undef,tm.getD 68 undef,tm.getD 69 undef,tm.getD 70 undef,tm.getD 71 undef,tm.getD 72 undef,tm.getD 73 undef,tm.getD 74 undef,tm.getD 75 undef,tm.getD 76 undef,tm.getD 77 undef,tm.getD 78 undef,tm.getD 79 undef,tm.getD 80 undef,tm.getD 81 undef,tm.getD 82 undef,tm.getD 83 undef,tm.getD 84 undef,tm.getD 85 undef,tm.getD 86 undef,tm.getD 87 undef,tm.getD 88 undef,tm.getD 89 undef,tm.getD 90 undef,tm.getD 91 undef,tm.getD 92 undef,tm.getD 93 undef,tm.getD 94 undef,tm.getD 95 undef,tm.getD 96 undef,tm.getD 97 undef,tm.getD 98 undef,tm.getD 99 undef,tm.getD 100 undef,tm.getD 101 undef,tm.getD 102 undef,tm.getD 103 undef,tm.getD 104 undef,tm.getD 105 undef,tm.getD 106 undef,tm.getD 107 undef,tm.getD 108 undef,tm.getD 109 undef,tm.getD 110 undef,tm.getD 111 undef,tm.getD 112 undef,tm.getD 113 undef,tm.getD 114 undef,tm.getD 115 undef,tm.getD 116 undef,tm.getD 117 undef,tm.getD 118 undef,tm.getD 119 undef,tm.getD 120 undef,tm.getD 121 undef],defers:=[] })
 (h1:w'.heap[sb]?=some (.cells (stRow h b n L) 353 (0,0))) (h2:w'.heap[wb]?=some (.cells (rowQ 80 (sched b)) 262 (0,0)))
 (h3:w'.heap[vb]?=some (.cells (rowQ 8 (rnds K512 (sched b) h t)) 261 (0,0))) (h4:w.grownBy w' (some sb)):TurnAt sb h b n L w { tmps:=tm,defers:=[] } w' :=
 ⟨t,wb,vb,fun i=>tm.getD i undef,ht,hwb,hvb,he,h1,h2,h3,h4⟩
theorem Q_add' (a b:BitVec 64):(Q a+Q b) % (18446744073709551616:Int)=Q (a+b):=by rw [← Q_add a b,IntKind.wrap_u64]
theorem info8:(Tryz.prog.info? 261).map (fun i=>(i.zero,i.size))=some (some (.agg (row 8 fun _=> .int .u64 0)),8):=by kernel_rfl
theorem size8:(Tryz.prog.info? 261).map (·.size)=some 8:=by kernel_rfl
def addTo (h v:Nat→BitVec 64) (k:Nat):Nat→BitVec 64:=fun i=>if i<k then h i+v i else h i
theorem stRow_step {h v:Nat→BitVec 64} {b:Nat→BitVec 8} {n:Nat} {L:BitVec 64} {k:Nat} (hk:k<8) :
 row 218 (upd (stF (addTo h v k) b n L) k (.int .u64 (Q (h k+v k))))=stRow (addTo h v (k+1)) b n L:=row_congr fun i _=>by
 unfold upd stF addTo
 by_cases e:i=k
 ·subst e;simp [hk]
 ·rw [if_neg e]
  by_cases h8:i<8
  ·rw [if_pos h8,if_pos h8]
   by_cases hik:i<k
   ·rw [if_pos hik,if_pos (by omega)]
   ·rw [if_neg hik,if_neg (by omega)]
  ·rw [if_neg h8,if_neg h8]
theorem stRow_congr {h h':Nat→BitVec 64} {b:Nat→BitVec 8} {n:Nat} {L:BitVec 64} (he:∀ i,i<8→h i=h' i):stRow h b n L=stRow h' b n L:=row_congr fun i _=>by
 unfold stF
 by_cases h8:i<8
 ·rw [if_pos h8,if_pos h8,he i h8]
 ·rw [if_neg h8,if_neg h8]
set_option maxRecDepth 100000 in
set_option maxHeartbeats 400000 in
theorem turn_any (sb:Nat) (h:Nat→BitVec 64) (b:Nat→BitVec 8) (n:Nat) (L:BitVec 64) (w:World) (hg:w.heap[sb]?=some (.cells (stRow h b n L) 353 (0,0))) :
 Calls Tryz.prog 318 #[.pointer (some ⟨sb,0,none⟩)] w fun e w'=>e= .returned (.tuple #[])∧w'.heap[sb]?=some (.cells (stRow (block K512 h b) b n L) 353 (0,0))∧w.grownBy w' (some sb):=by
 have HSZ:=Lib.hid (Array.getElem?_eq_some_iff.1 hg).1
 have HG:=Lib.hid hg
 clear hg
 go_enter Tryz.func318,Tryz.ntmps318
 refine wp_scope_from 0 (TurnAt sb h b n L w) (fun a' _=>80 - (intOf (a'.tmps.getD 4 undef)).toNat) rfl ?_ ?_
 ·rintro a' wr ⟨t,wb,vb,u,ht,hwb,hvb,rfl,hs,hw,hv,hgr⟩
  by_cases hlt:t<80
  ·have h0:(0:Int)≤(t:Int):=by omega
   have h1:(t:Int)<80:=by omega
   have cw:wr.cell? ⟨wb,t,none⟩=some (.int .u64 (Q (sched b t))):=cell_rowQ hw hlt
   have ck:wr.cell? ⟨sb,8+t,none⟩=some (.int .u64 (Q (K512 t))):=by
    rw [cell_row hs (by omega)];unfold stF;rw [if_neg (by omega),if_pos (by omega)];simp
   have HV:=Lib.hid hv
   have HS:=Lib.hid hs
   have HW:=Lib.hid hw
   clear hs hw
   have hn:rnds K512 (sched b) h (t+1)=rnd K512 (sched b) t (rnds K512 (sched b) h t):=rfl
   have HN:=Lib.hid hn
   clear hn
   generalize rnds K512 (sched b) h t=v at *
   have c0:=cell_rowQ (i:=0) hv (by decide)
   have c1:=cell_rowQ (i:=1) hv (by decide)
   have c2:=cell_rowQ (i:=2) hv (by decide)
   have c3:=cell_rowQ (i:=3) hv (by decide)
   have c4:=cell_rowQ (i:=4) hv (by decide)
   have c5:=cell_rowQ (i:=5) hv (by decide)
   have c6:=cell_rowQ (i:=6) hv (by decide)
   have c7:=cell_rowQ (i:=7) hv (by decide)
   clear hv
   have hadd:=Q_add
   have hxor:=Q_xor
   have hand:=Q_and
   have hnot:=Q_not
   have hadd':=Q_add'
   go_wp2
   go_quiet (fail)
   go_wp2_with fail
   refine (rot14 _ _).mono ?_;rintro e w' ⟨rfl,rfl⟩
   go_wp2_with fail
   refine (rot18 _ _).mono ?_;rintro e w' ⟨rfl,rfl⟩
   go_wp2_with fail
   refine (rot41 _ _).mono ?_;rintro e w' ⟨rfl,rfl⟩
   go_wp2_with fail
   refine (rot28 _ _).mono ?_;rintro e w' ⟨rfl,rfl⟩
   go_wp2_with fail
   refine (rot34 _ _).mono ?_;rintro e w' ⟨rfl,rfl⟩
   go_wp2_with fail
   refine (rot39 _ _).mono ?_;rintro e w' ⟨rfl,rfl⟩
   go_wp2_with fail
   go_quiet (fail)
   have HV2:=Lib.hid (show ∀ m,(wr.drewN m).heap[vb]?=some (.cells (rowQ 8 v) 261 (0,0)) from fun _=>HV.out)
   have HZ8:=Lib.hid (show (Tryz.prog.info? 261).map (·.size)=some (rowQ 8 (rnd K512 (sched b) t v)).size by rw [size8,rowQ_size])
   go_wp2_with ((with_reducible show wpList _ _ _ (⟨_,.store _ _ _,_,_,_,_⟩ :: _) _ _);refine wpList_store_rowTo rfl 261 _ _ rfl rfl vb (rowQ 8 (rnd K512 (sched b) t v)) rfl rfl 261 _ (HV2.out _) HZ8.out (by rw [rowQ_size,rowQ_size]) (rowQ_oneCell _ _) ?_)
   go_step3
   refine ⟨rfl,turnAt_mk (t+1) wb vb (by omega) hwb hvb rfl ?_ ?_ ?_ ?_,?_⟩
   ·have hne:sb≠vb:=by have:=HSZ.out;omega
    exact (heap_setRow_far hne).trans HS.out
   ·have hne:wb≠vb:=by omega
    exact (heap_setRow_far hne).trans HW.out
   ·rw [HN.out]
    exact heap_setRow_at (HV2.out _)
   ·exact grown_setRow (grown_drewN hgr _) (.inl (by omega)) _
   ·simp [intOf];omega
  ·have hE:rnds K512 (sched b) h t=rnds K512 (sched b) h 80:=by rw [show t=80 by omega]
   rw [hE] at hv
   have HBL:=Lib.hid (show ∀ i,i<8→addTo h (rnds K512 (sched b) h 80) 8 i=block K512 h b i from fun i hi=>by unfold addTo;rw [if_pos hi];rfl)
   clear hE hw
   generalize rnds K512 (sched b) h 80=v at *
   have HS:=Lib.hid hs
   have HV:=Lib.hid hv
   clear hs hv
   have hge:(80:Int)≤(t:Int):=by omega
   go_wp2
   go_loopw [105] (fun i w2=>∃ k:Nat,k≤8∧i= .int .i64 k∧w2.heap[sb]?=some (.cells (stRow (addTo h v k) b n L) 353 (0,0))∧w2.heap[vb]?=some (.cells (rowQ 8 v) 261 (0,0))∧w.grownBy w2 (some sb)) (fun i _=>8 - (intOf i).toNat)
   case atStart=>exact ⟨0,by omega,rfl,HS.out,HV.out,hgr⟩
   case round =>
    obtain ⟨k,hk,rfl,hs,hv,hg2⟩:=hrel
    by_cases hk8:k<8
    ·have hk0:(0:Int)≤(k:Int):=by omega
     have hk1:(k:Int)<8:=by omega
     have ca:wr.cell? ⟨sb,k,none⟩=some (.int .u64 (Q (h k))):=by
      rw [cell_row hs (by omega)];unfold stF addTo;rw [if_pos hk8,if_neg (by omega)]
     have cb:wr.cell? ⟨vb,k,none⟩=some (.int .u64 (Q (v k))):=cell_rowQ hv hk8
     have cf:wr.frozen? ⟨sb,k,none⟩=false:=frozen_of_row wr _ _ _ _ hs
     have HS:=Lib.hid hs
     have HV:=Lib.hid hv
     clear hs hv HBL
     have hadd:=Q_add
     have hadd':=Q_add'
     go_wp2
     go_still_tail 13,(by kernel_rfl)
     change wpList _ _ _ _ _ wr.drew
     go_wp2
     go_roundw
     case rel =>
      refine ⟨k+1,by omega,by go_num,?_,?_,grown_drew (grown_setCell hg2 (.inr rfl) _)⟩
      ·show (wr.setCell _ _).heap[_]?=_
       rw [heap_set_row _ HS.out (by omega),stRow_step hk8]
      ·have hne:vb≠sb:=by have:=HSZ.out;omega
       show (wr.setCell _ _).heap[_]?=_
       rw [heap_setCell_other _ _ _ _ hne]
       exact HV.out
     case measure=>simp [intOf];omega
    ·obtain rfl:k=8:=by omega
     rw [stRow_congr HBL.out] at hs
     have HS:=Lib.hid hs
     clear hs hv HBL
     go_wp2
     simp only [Exit.jump]
     go_end0
     exact ⟨rfl,HS.out,hg2⟩
 ·intro hrest
  have HL:=Lib.hid (show (Tryz.prog.info? 262).map (·.size)=some (rowQ 80 (sched b)).size by rw [size80,rowQ_size])
  have H8:=Lib.hid (show (Tryz.prog.info? 261).map (·.size)=some (rowQ 8 h).size by rw [size8,rowQ_size])
  have H8':=Lib.hid (show (Tryz.prog.info? 261).map (·.size)=some (rowQ 8 h).toList.length by rw [size8];simp [rowQ_size])
  have HB:=Lib.hid (show ∀ i,i<128→stF h b n L (88+i)= .int .u8 (B8 (b i)) from fun i hi=>by
   unfold stF;rw [if_neg (by omega),if_neg (by omega),if_pos (by omega)];simp)
  have HR:=Lib.hid hrest
  clear hrest
  go_wp2_with (first
   | (go_at_call 320;refine (schedule_any sb (stF h b n L) b _ HG.out HB.out).mono ?_;rintro e w1 ⟨rfl,hb1⟩)
   | (with_reducible refine wpList_alloc_row rfl 262 rfl 80 _ info80 ?_)
   | (with_reducible refine wpList_alloc_row rfl 261 rfl 8 _ info8 ?_)
   | ((with_reducible show wpList _ _ _ (⟨_,.store 262 _ _,_,_,_,_⟩ :: _) _ _);refine wpList_store_rowTo rfl 262 _ _ rfl rfl _ (rowQ 80 (sched b)) rfl rfl 262 _ (heap_alloc_new _ _) HL.out (by rw [row_size,rowQ_size]) (rowQ_oneCell _ _) ?_)
   | ((with_reducible show wpList _ _ _ (⟨_,.load 261 _,_,_,_,_⟩ :: _) _ _);refine wpList_load_mid rfl 261 _ rfl sb 0 rfl (rowQ 8 h).toList _ ?r Tryz.underlying261 rfl H8'.out ?_)
   | ((with_reducible show wpList _ _ _ (⟨_,.store 261 _ _,_,_,_,_⟩ :: _) _ _);refine wpList_store_rowTo rfl 261 _ _ rfl rfl _ (rowQ 8 h) rfl rfl 261 _ (heap_alloc_new _ _) H8.out (by rw [row_size,rowQ_size]) (rowQ_oneCell _ _) ?_))
  case r =>
   have hne:sb≠w1.heap.size:=by have:=HSZ.out;have:=hb1.size;omega
   have h1:((w1.alloc (.cells (row 80 fun _=> .int .u64 0) 262)).setRow w1.heap.size (rowQ 80 (sched b))).heap[sb]?=some (.cells (row 218 (stF h b n L)) 353 (0,0)):=by
    rw [heap_setRow_far hne,Below.heap_alloc _ _ _ (by have:=HSZ.out;have:=hb1.size;omega),hb1.block _ HSZ.out]
    exact HG.out
   have h2:=rangeAt_row (o:=0) (n:=8) h1 (by decide)
   have h3:(row 8 fun i=>stF h b n L (0+i))=rowQ 8 h:=row_congr fun i hi=>by
    rw [Nat.zero_add];unfold stF;rw [if_pos hi]
   rw [h3] at h2
   exact h2
  go_step3
  go_step
  go_step
  have hsz:=hb1.size
  have hlt:=HSZ.out
  have hne:sb≠w1.heap.size:=by omega
  have hne':sb≠w1.heap.size+1:=by omega
  refine HR.out _ _ (turnAt_mk 0 w1.heap.size (w1.heap.size+1) (by omega) hsz (by omega) rfl ?_ ?_ ?_ ?_)
  ·rw [heap_setRow_far hne',Below.heap_alloc _ _ _ (by simp;omega),heap_setRow_far hne,Below.heap_alloc _ _ _ (by omega),hb1.block _ hlt]
   exact HG.out
  ·rw [heap_setRow_far (by omega),Below.heap_alloc _ _ _ (by simp)]
   exact heap_setRow_at (heap_alloc_new _ _)
  ·exact heap_setRow_at (by have:=heap_alloc_new ((w1.alloc (.cells (row 80 fun _=> .int .u64 0) 262)).setRow w1.heap.size (rowQ 80 (sched b))) (.cells (row 8 fun _=> .int .u64 0) 261);simpa using this)
  ·exact grown_setRow (grown_alloc (grown_setRow (grown_alloc (grown_of_below hb1) _) (.inl hsz) _) _) (.inl (by omega)) _
end Go.Proofs.YtoifhhljfaoejaaGreatDoor.Shb
namespace Go.Proofs.YtoifhhljfaoejaaGreatDoor.Shb
open Go.Proofs.YtoifhhljfaoejaaGreatDoor Go.RowKit
structure St where
 h:Nat→BitVec 64
 b:Nat→BitVec 8
 n:Nat
def takeS (s:St) (x:BitVec 8):St :=
 if s.n<127 then ⟨s.h,upd s.b s.n x,s.n+1⟩ else ⟨block K512 s.h (upd s.b s.n x),upd s.b s.n x,0⟩
def st0:St:=⟨H512,fun _=>0,0⟩
def takes (s:St) (m:List (BitVec 8)):St:=m.foldl takeS s
theorem stRow_setB {h:Nat→BitVec 64} {b:Nat→BitVec 8} {n i:Nat} {L:BitVec 64} (x:BitVec 8) (hi:i<128):row 218 (upd (stF h b n L) (88+i) (.int .u8 (B8 x)))=stRow h (upd b i x) n L:=row_congr fun j _=>by
 unfold upd stF
 by_cases e:j=88+i
 ·subst e
  rw [if_pos rfl,if_neg (by omega),if_neg (by omega),if_pos (by omega)]
  simp
 ·rw [if_neg e]
  by_cases h8:j<8
  ·rw [if_pos h8,if_pos h8]
  ·rw [if_neg h8,if_neg h8]
   by_cases h88:j<88
   ·rw [if_pos h88,if_pos h88]
   ·rw [if_neg h88,if_neg h88]
    by_cases h216:j<216
    ·rw [if_pos h216,if_pos h216]
     show _=Value.int .u8 (B8 (if j - 88=i then x else b (j - 88)))
     rw [if_neg (by omega)]
    ·rw [if_neg h216,if_neg h216]
theorem stRow_setN {h:Nat→BitVec 64} {b:Nat→BitVec 8} {n:Nat} {L:BitVec 64} (m:Nat):row 218 (upd (stF h b n L) 216 (.int .i64 m))=stRow h b m L:=row_congr fun j _=>by
 unfold upd stF
 by_cases e:j=216
 ·subst e;simp
 ·rw [if_neg e];simp only [if_neg e]
theorem stRow_setL {h:Nat→BitVec 64} {b:Nat→BitVec 8} {n:Nat} {L:BitVec 64} (M:BitVec 64):row 218 (upd (stF h b n L) 217 (.int .u64 (Q M)))=stRow h b n M:=row_congr fun j _=>by
 unfold upd stF
 by_cases e:j=217
 ·subst e;simp
 ·rw [if_neg e]
  by_cases h8:j<8
  ·rw [if_pos h8,if_pos h8]
  ·rw [if_neg h8,if_neg h8]
   by_cases h88:j<88
   ·rw [if_pos h88,if_pos h88]
   ·rw [if_neg h88,if_neg h88]
    by_cases h216:j<216
    ·rw [if_pos h216,if_pos h216]
    ·rw [if_neg h216,if_neg h216,if_pos (by omega),if_pos (by omega)]
theorem st_n {h:Nat→BitVec 64} {b:Nat→BitVec 8} {n:Nat} {L:BitVec 64}:stF h b n L 216= .int .i64 n:=by simp [stF]
theorem st_b {h:Nat→BitVec 64} {b:Nat→BitVec 8} {n i:Nat} {L:BitVec 64} (hi:i<128):stF h b n L (88+i)= .int .u8 (B8 (b i)):=by
 unfold stF;rw [if_neg (by omega),if_neg (by omega),if_pos (by omega)];simp
theorem st_h {h:Nat→BitVec 64} {b:Nat→BitVec 8} {n i:Nat} {L:BitVec 64} (hi:i<8):stF h b n L i= .int .u64 (Q (h i)):=by
 unfold stF;rw [if_pos hi]
theorem st_L {h:Nat→BitVec 64} {b:Nat→BitVec 8} {n:Nat} {L:BitVec 64}:stF h b n L 217= .int .u64 (Q L):=by simp [stF]
set_option maxRecDepth 100000 in
set_option maxHeartbeats 400000 in
theorem take_any (sb:Nat) (s:St) (x:BitVec 8) (L:BitVec 64) (w:World) (hn:s.n<128) (hg:w.heap[sb]?=some (.cells (stRow s.h s.b s.n L) 353 (0,0))) :
 Calls Tryz.prog 304 #[.pointer (some ⟨sb,0,none⟩),.int .u8 (B8 x)] w fun e w'=>e= .returned (.tuple #[])∧w'.heap[sb]?=some (.cells (stRow (takeS s x).h (takeS s x).b (takeS s x).n L) 353 (0,0))∧w.grownBy w' (some sb):=by
 obtain ⟨h,b,n⟩:=s
 simp only at hn hg
 have hc:w.cell? ⟨sb,216,none⟩=some (.int .i64 n):=by rw [cell_row hg (by omega),st_n]
 have hb:w.cell? ⟨sb,88+n,none⟩=some (.int .u8 (B8 (b n))):=by rw [cell_row hg (by omega),st_b hn]
 have hf:w.frozen? ⟨sb,88+n,none⟩=false:=frozen_of_row w _ _ _ _ hg
 have h0:(0:Int)≤(n:Int):=by omega
 have h1:(n:Int)<128:=by omega
 have hf2:w.frozen? ⟨sb,216,none⟩=false:=frozen_of_row w _ _ _ _ hg
 have hw1:∀ (m:Nat) (z:Int),z=m→((w.setCell ⟨sb,88+n,none⟩ (.int .u8 (B8 x))).setCell ⟨sb,216,none⟩ (.int .i64 z)).heap[sb]?=some (.cells (stRow h (upd b n x) m L) 353 (0,0)):=by
  intro m z hz
  subst hz
  have e1:(w.setCell ⟨sb,88+n,none⟩ (.int .u8 (B8 x))).heap[sb]?=some (.cells (stRow h (upd b n x) n L) 353 (0,0)):=by
   rw [heap_set_row _ hg (by omega),stRow_setB x hn]
  rw [heap_set_row _ e1 (by omega),stRow_setN]
 have HW:=Lib.hid hw1
 clear hg hw1
 by_cases h127:n<127
 ·have ht:takeS ⟨h,b,n⟩ x=⟨h,upd b n x,n+1⟩:=by unfold takeS;rw [if_pos h127]
  rw [ht]
  clear ht
  have he:((n:Int)+1 == 128)=false:=by simp;omega
  go_enter Tryz.func304,Tryz.ntmps304
  go_wp2_with fail
  go_still_tail 9,(by kernel_rfl)
  change wpList _ _ _ _ _ w.drew
  go_wp2_with fail
  go_end0
  have hH:=HW.out (n+1) ((n:Int)+1) (by omega)
  refine ⟨rfl,hH,?_⟩
  refine grown_drew ?_
  refine grown_setCell ?_ (.inr rfl) _
  exact grown_setCell (grown_refl _ _) (.inr rfl) _
 ·obtain rfl:n=127:=by omega
  have ht:takeS ⟨h,b,127⟩ x=⟨block K512 h (upd b 127 x),upd b 127 x,0⟩:=by unfold takeS;rw [if_neg (by simp)]
  rw [ht]
  clear ht
  go_enter Tryz.func304,Tryz.ntmps304
  go_wp2_with fail
  go_still_tail 9,(by kernel_rfl)
  change wpList _ _ _ _ _ w.drew
  go_wp2_with fail
  have hH:(((w.setCell ⟨sb,215,none⟩ (.int .u8 (B8 x))).setCell ⟨sb,216,none⟩ (.int .i64 128)).drew).heap[sb]?=some (.cells (stRow h (upd b 127 x) 128 L) 353 (0,0)):=HW.out 128 128 rfl
  refine (turn_any sb h (upd b 127 x) 128 L _ hH).mono ?_
  rintro e w1 ⟨rfl,hs,hg⟩
  have hc1:w1.cell? ⟨sb,216,none⟩=some (.int .i64 128):=by rw [cell_row hs (by omega),st_n];rfl
  have hf1:w1.frozen? ⟨sb,216,none⟩=false:=frozen_of_row w1 _ _ _ _ hs
  have HS:=Lib.hid hs
  clear hs
  go_wp2
  go_end0
  refine ⟨rfl,?_,?_⟩
  ·rw [heap_set_row _ HS.out (by omega)]
   exact congrArg (fun r=>some (Obj.cells r 353 (0,0))) (stRow_setN 0)
  ·refine grown_setCell (grown_trans ?_ hg) (.inr rfl) _
   refine grown_drew ?_
   refine grown_setCell ?_ (.inr rfl) _
   exact grown_setCell (grown_refl _ _) (.inr rfl) _
end Go.Proofs.YtoifhhljfaoejaaGreatDoor.Shb
