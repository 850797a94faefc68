/-
  Lemmas of the law, part 8: the walks of the functions that it calls and the plain facts about them. No condition beyond those written.
-/
import Derived.Test.YtoifhhljfaoejaaGreatDoorPkAA
import Derived.Test.YtoifhhljfaoejaaGreatDoorPkAF
import Derived.Test.YtoifhhljfaoejaaGreatDoorRows
import Derived.Laws.AppendOwnNone
import Derived.OwnWalk
namespace Go.Proofs.YtoifhhljfaoejaaGreatDoor
open Go.RowKit
set_option linter.unusedVariables false
set_option linter.unusedSimpArgs false
theorem bit_val (n k:Nat):bits .and .u64 ((lw n (k / 64):Int) / 2 ^ (k % 64)) 1=((n / 2 ^ k % 2:Nat):Int):=by
 have hx:=lw_lt n (k / 64)
 have e:((lw n (k / 64):Int) / 2 ^ (k % 64))=((lw n (k / 64) / 2 ^ (k % 64):Nat):Int):=by norm_cast
 have hb:=bits_and_u64_nat (lw n (k / 64) / 2 ^ (k % 64)) 1 (Nat.lt_of_le_of_lt (Nat.div_le_self _ _) hx) (by omega)
 rw [e]
 refine (show _=_ from hb).trans ?_
 congr 1
 rw [Nat.and_one_is_mod]
 unfold lw
 have hr:k % 64<64:=Nat.mod_lt _ (by omega)
 have h64:(18446744073709551616:Nat)=2 ^ (k % 64)*2 ^ (64 - k % 64):=by rw [← Nat.pow_add,show k % 64+(64 - k % 64)=64 from by omega]
 rw [h64,Nat.mod_mul_right_div_self,Nat.mod_mod_of_dvd _ (Nat.dvd_trans (by decide:2∣2 ^ 1) (Nat.pow_dvd_pow 2 (by omega))),Nat.div_div_eq_div_mul,← Nat.pow_add,Nat.div_add_mod]
set_option maxRecDepth 100000 in
set_option maxHeartbeats 400000 in
theorem bit_any (n k:Nat) (hk:k<256) (w:World):Calls Tryz.prog 283 #[.agg (rowL n),.int .i64 k] w fun e w'=>e= .returned (.int .u64 (n / 2 ^ k % 2:Nat))∧Below w.heap.size w w':=by
 have hL:=Loc.nil w
 obtain ⟨q,hq⟩:∃ q,q=k / 64:=⟨_,rfl⟩
 obtain ⟨r,hr⟩:∃ r,r=k % 64:=⟨_,rfl⟩
 haveI g1:Cell (rowL n) q (.int .u64 (lw n q:Nat)):=row_cell _ (by omega)
 have e1:(k:Int) / 64=(q:Int):=by omega
 have e2:(k:Int) % 64=(r:Int):=by omega
 have e3:(k:Int).tdiv 64=(q:Int):=by rw [Int.tdiv_eq_ediv_of_nonneg (by omega)];omega
 have e4:(k:Int).tmod 64=(r:Int):=by rw [Int.tmod_eq_emod_of_nonneg (by omega)];omega
 have hq0:(0:Int)≤(q:Int):=by omega
 have hq1:(q:Int)<4:=by omega
 have hr0:(0:Int)≤(r:Int):=by omega
 have hr1:(r:Int)<64:=by omega
 have HQ:=Lib.hid hq
 have HR:=Lib.hid hr
 clear hq hr
 go_enter Tryz.func283,Tryz.ntmps283
 go_wp2_with (first | ((with_reducible refine gS 2 ?_);refine aBp ?_;clear hL;intro b2 w1 hL) | (refine aL4S2C9q ?_;clear hL;intro w1 hL) | (refine aX1A1q ?_;clear hL;intro b w1 hL))
 rw [HQ.out,HR.out,bit_val]
 go_ret
 exact ⟨rfl,hL.bel⟩
instance iLim21:Ent 283:=Ent.of Tryz.func283 (by kernel_rfl) rfl
theorem div_add_mul' (a E p:Nat) (h:0<E):(a+E*p) / E=a / E+p:=Nat.add_mul_div_left a p h
def leK (f:Nat→BitVec 8):Nat→Nat
 | 0=>0
 | k+1=>leK f k+(f k).toNat*2 ^ (8*k)
def leN (f:Nat→BitVec 8):Nat:=leK f 32
theorem leK_lt (f:Nat→BitVec 8):∀ k,leK f k<2 ^ (8*k)
 | 0=>by simp [leK]
 | k+1=>by
  have h:=leK_lt f k
  have hb:=(f k).isLt
  show leK f k+(f k).toNat*2 ^ (8*k)<_
  rw [Nat.mul_succ,Nat.pow_add]
  have:(f k).toNat*2 ^ (8*k)≤255*2 ^ (8*k):=Nat.mul_le_mul_right _ (by omega)
  have:2 ^ (8*k)*2 ^ 8=256*2 ^ (8*k):=by rw [Nat.mul_comm]
  omega
theorem leN_lt (f:Nat→BitVec 8):leN f<2 ^ 256:=leK_lt f 32
theorem leK_step (f:Nat→BitVec 8) (k:Nat):leK f (k+1)=leK f k+2 ^ (64*(k / 8))*((f k).toNat*2 ^ (8*(k % 8))):=by
 show leK f k+(f k).toNat*2 ^ (8*k)=_
 rw [show 8*k=64*(k / 8)+8*(k % 8) from by omega,Nat.pow_add]
 grind
theorem leK_or (f:Nat→BitVec 8) (k:Nat):lw (leK f k) (k / 8) ||| (f k).toNat*2 ^ (8*(k % 8))=lw (leK f (k+1)) (k / 8)∧(f k).toNat*2 ^ (8*(k % 8))<18446744073709551616:=by
 have hy:leK f k / 2 ^ (64*(k / 8))<2 ^ (8*(k % 8)):=by
  rw [Nat.div_lt_iff_lt_mul (Nat.two_pow_pos _),← Nat.pow_add,show 8*(k % 8)+64*(k / 8)=8*k from by omega]
  exact leK_lt f k
 have hb:=(f k).isLt
 have hs:2 ^ (8*(k % 8))*256≤18446744073709551616:=by
  have:2 ^ (8*(k % 8))*2 ^ 8≤2 ^ 64:=by rw [← Nat.pow_add];exact Nat.pow_le_pow_right (by omega) (by omega)
  exact this
 unfold lw
 rw [leK_step,div_add_mul' _ _ _ (Nat.two_pow_pos _)]
 generalize leK f k / 2 ^ (64*(k / 8))=y at *
 have e:(f k).toNat*2 ^ (8*(k % 8))≤255*2 ^ (8*(k % 8)):=Nat.mul_le_mul_right _ (by omega)
 have h:=Nat.shiftLeft_add_eq_or_of_lt hy (f k).toNat
 rw [Nat.shiftLeft_eq] at h
 generalize (f k).toNat*2 ^ (8*(k % 8))=z at *
 generalize 2 ^ (8*(k % 8))=E at *
 refine ⟨?_,by omega⟩
 rw [Nat.mod_eq_of_lt (by omega),Nat.mod_eq_of_lt (by omega),Nat.or_comm,← h,Nat.add_comm]
theorem leK_row (f:Nat→BitVec 8) {k:Nat} (hk:k<32):row 4 (upd (lv (leK f k)) (k / 8) (.int .u64 (lw (leK f (k+1)) (k / 8):Nat)))=rowL (leK f (k+1)):=row_congr fun p hp=>by
 unfold upd
 by_cases e:p=k / 8
 ·subst e;rw [if_pos rfl];rfl
 ·rw [if_neg e]
  have:lw (leK f k) p=lw (leK f (k+1)) p:=by
   rcases Nat.lt_or_ge p (k / 8) with h | h
   ·obtain ⟨d,hd⟩:∃ d,k / 8=p+1+d:=⟨k / 8 - (p+1),by omega⟩
    unfold lw
    rw [leK_step,hd,Nat.mul_add,Nat.pow_add,Nat.mul_succ,Nat.pow_add,Nat.mul_assoc,Nat.mul_assoc,div_add_mul' _ _ _ (Nat.two_pow_pos _)]
    exact (Nat.add_mul_mod_self_left _ _ _).symm
   ·have h1:leK f k<2 ^ (64*p):=Nat.lt_of_lt_of_le (leK_lt f k) (Nat.pow_le_pow_right (by omega) (by omega))
    have h2:leK f (k+1)<2 ^ (64*p):=Nat.lt_of_lt_of_le (leK_lt f (k+1)) (Nat.pow_le_pow_right (by omega) (by omega))
    unfold lw
    rw [Nat.div_eq_of_lt h1,Nat.div_eq_of_lt h2]
  unfold lv
  rw [this]
theorem leK_val (f:Nat→BitVec 8) (k:Nat):bits .or .u64 (lw (leK f k) (k / 8):Int) (IntKind.u64.wrap (B8 (f k)*2 ^ (8*(k % 8))))=(lw (leK f (k+1)) (k / 8):Nat):=by
 obtain ⟨h1,h2⟩:=leK_or f k
 have e:B8 (f k)*2 ^ (8*(k % 8))=(((f k).toNat*2 ^ (8*(k % 8)):Nat):Int):=by unfold B8;norm_cast
 rw [e,IntKind.wrap_u64,show (((f k).toNat*2 ^ (8*(k % 8)):Nat):Int) % 18446744073709551616=(((f k).toNat*2 ^ (8*(k % 8)):Nat):Int) from by omega]
 have:=bits_or_u64_nat (lw (leK f k) (k / 8)) ((f k).toNat*2 ^ (8*(k % 8))) (lw_lt _ _) h2
 rw [h1] at this
 exact this
theorem index_num (f:Nat→BitVec 8) {k:Nat} (h:k<32) (w:World):(Instr.index 24 (.agg (rowB 32 f)) (.int .i64 k)).run Tryz.prog w= .ok (.int .u8 (B8 (f k))) w :=
 run_index_row (fun i=>Value.int .u8 (B8 (f i))) Tryz.underlying24 (e:=5) (by kernel_rfl) (fun w=>by kernel_rfl) h w
set_option maxRecDepth 100000 in
set_option maxHeartbeats 400000 in
theorem of_any (f:Nat→BitVec 8) (w:World):Calls Tryz.prog 270 #[.agg (rowB 32 f)] w fun e w'=>e= .returned (.agg (rowL (leN f)))∧Below w.heap.size w w':=by
 have hL:=Loc.nil w
 go_enter Tryz.func270,Tryz.ntmps270
 go_wp2_with (first | ((with_reducible refine gS 1 ?_);refine aBp ?_;clear hL;intro b1 w1 hL) | ((with_reducible refine gS 2 ?_);refine aBp ?_;clear hL;intro b2 w1 hL) | ((with_reducible refine gS 3 ?_);refine aBp ?_;clear hL;intro b3 w1 hL) | (refine aL4S2C9q ?_;clear hL;intro w1 hL) | (refine aX1A1q ?_;clear hL;intro b w1 hL))
 go_loopw [7] (fun kk wr=>∃ k:Nat,k≤32∧kk= .int .i64 k∧Loc w wr [(b3,rowL (leK f k),311),(b2,rowL 0,311),(b1,rowB 32 f,24)]) (fun kk _=>32 - (intOf kk).toNat)
 case atStart=>exact ⟨0,by omega,rfl,hL⟩
 case round =>
  clear hL
  obtain ⟨k,hk,rfl,hL⟩:=hrel
  by_cases hlt:k<32
  ·have hk0:(0:Int)≤(k:Int):=by omega
   have hk1:(k:Int)<32:=by omega
   haveI g1:Cell (rowL (leK f k)) (k / 8) (.int .u64 (lw (leK f k) (k / 8):Nat)):=row_cell _ (by omega)
   have e1:(k:Int) / 8=((k / 8:Nat):Int):=by omega
   have e2:(k:Int) % 8=((k % 8:Nat):Int):=by omega
   have hq1:((k / 8:Nat):Int)<4:=by omega
   have hr1:((k % 8:Nat):Int)<8:=by omega
   have hi:∀ w,(Instr.index 24 (.agg (rowB 32 f)) (.int .i64 k)).run Tryz.prog w= .ok (.int .u8 (B8 (f k))) w:=fun w=>index_num f hlt w
   haveI g2:Put (rowL (leK f k)) (k / 8) (.int .u64 (lw (leK f (k+1)) (k / 8):Nat)) (rowL (leK f (k+1))):=row_put (by omega) (leK_row f hlt)
   have hv:=leK_val f k
   have wb:IntKind.u64.wrap (B8 (f k))=B8 (f k):=by have:=B8_bd (f k);rw [IntKind.wrap_u64];omega
   have hm:min (8*(k % 8)) 64=8*(k % 8):=by omega
   generalize k / 8=q at *
   generalize k % 8=r at *
   obtain ⟨v0,v1⟩:=B8_bd (f k)
   have wq:IntKind.i64.wrap (q:Int)=(q:Int):=IntWalk.i64_in _ (by omega)
   have wr':IntKind.i64.wrap (r:Int)=(r:Int):=IntWalk.i64_in _ (by omega)
   have ws:IntKind.i64.wrap (8*(r:Int))=((8*r:Nat):Int):=IntWalk.i64_in _ (by omega)
   have e3:(k:Int).tdiv 8=(q:Int):=by rw [Int.tdiv_eq_ediv_of_nonneg (by omega)];omega
   have e4:(k:Int).tmod 8=(r:Int):=by rw [Int.tmod_eq_emod_of_nonneg (by omega)];omega
   have hq0:(0:Int)≤(q:Int):=by omega
   have hs0:(0:Int)≤((8*r:Nat):Int):=by omega
   generalize 8*r=s at *
   go_wp2_with fail
   refine wp_region_free [(0,true),(1,true),(2,true),(3,false),(4,true),(5,true),(6,true),(7,true),(8,true),(9,true),(10,true),(11,true)] [] [12] (by kernel_rfl) (by kernel_rfl) trivial hL ?_
   refine pF ?_
   repeat refine rS ?_
   refine seqO_nil ?_
   refine seqM_nil fun w1 hL1=>?_
   simp only [List.cons_append,List.nil_append] at hL1
   clear hL;have hL:=hL1;clear hL1
   refine p4 ?_
   refine pG ?_
   repeat (refine rW ?_;clear hL;intro w1 hL)
   refine wpList_nil (NoPanic.normal ?_)
   go_wp2_with fail
   go_roundw
   case rel=>exact ⟨k+1,by omega,by go_num,hL⟩
   case measure=>simp [intOf];omega
  ·obtain rfl:k=32:=by omega
   go_wp2_with (first | (refine aL4S2C9q ?_;clear hL;intro w1 hL) | (refine aX1A1q ?_;clear hL;intro b w1 hL))
   exact bodyPost_ret (results_loc rfl hL rfl) rfl ⟨rfl,hL.bel⟩
instance iLim22:Ent 270:=Ent.of Tryz.func270 (by kernel_rfl) rfl
instance iLim23 (f:Nat→BitVec 8):FnC 270 #[.agg (rowB 32 f)] (.agg (rowL (leN f))):=⟨of_any f⟩
def byteN (n:Nat):Nat→BitVec 8:=fun i=>BitVec.ofNat 8 (n / 2 ^ (8*i))
def byteK (n k:Nat):Nat→BitVec 8:=fun i=>if i<k then byteN n i else 0
theorem byteK_zero (n:Nat):byteK n 0=fun _=>0:=funext fun i=>by unfold byteK;rw [if_neg (by omega)]
theorem byteK_full (n:Nat):rowB 32 (byteK n 32)=rowB 32 (byteN n):=row_congr fun i hi=>by unfold byteK;rw [if_pos hi]
theorem byteK_step (n k:Nat):row 32 (upd (fun i=>Value.int .u8 (B8 (byteK n k i))) k (.int .u8 (B8 (byteN n k))))=rowB 32 (byteK n (k+1)):=row_congr fun i _=>by
 unfold upd byteK
 by_cases e:i=k
 ·subst e;rw [if_pos rfl,if_pos (by omega)]
 ·rw [if_neg e]
  show Value.int .u8 (B8 (if i<k then byteN n i else 0))=_
  by_cases h:i<k
  ·rw [if_pos h,if_pos (by omega)]
  ·rw [if_neg h,if_neg (by omega)]
theorem lw_byte (n k:Nat) (h:k<32):lw n (k / 8) / 2 ^ (8*(k % 8)) % 256=n / 2 ^ (8*k) % 256:=by
 unfold lw
 have h64:(18446744073709551616:Nat)=2 ^ (8*(k % 8))*(256*2 ^ (56 - 8*(k % 8))):=by
  rw [show (256:Nat)=2 ^ 8 from rfl,← Nat.pow_add,← Nat.pow_add,show 8*(k % 8)+(8+(56 - 8*(k % 8)))=64 from by omega]
 rw [h64,Nat.mod_mul_right_div_self,Nat.mod_mul_right_mod,Nat.div_div_eq_div_mul,← Nat.pow_add,show 64*(k / 8)+8*(k % 8)=8*k from by omega]
theorem byteN_val (n k:Nat) (h:k<32):(lw n (k / 8):Int) / 2 ^ (8*(k % 8)) % 256=B8 (byteN n k):=by
 unfold B8 byteN
 rw [BitVec.toNat_ofNat,show 2 ^ 8=256 from rfl,← lw_byte n k h]
 generalize lw n (k / 8)=x
 generalize 8*(k % 8)=s
 rw [Int.natCast_emod,Int.natCast_ediv,Int.natCast_pow]
 rfl
set_option maxRecDepth 100000 in
set_option maxHeartbeats 400000 in
theorem num_any (n:Nat) (w:World):Calls Tryz.prog 284 #[.agg (rowL n)] w fun e w'=>e= .returned (.agg (rowB 32 (byteN n)))∧Below w.heap.size w w':=by
 have hL:=Loc.nil w
 have HF:=Lib.hid (byteK_full n)
 have HZ:=Lib.hid (byteK_zero n)
 go_enter Tryz.func284,Tryz.ntmps284
 go_wp2_with (first | ((with_reducible refine gS 1 ?_);refine aBp ?_;clear hL;intro b1 w1 hL) | ((with_reducible refine gS 2 ?_);refine aBp ?_;clear hL;intro b2 w1 hL) | ((with_reducible refine gS 3 ?_);refine aBp ?_;clear hL;intro b3 w1 hL) | (refine aL4S2C9q ?_;clear hL;intro w1 hL) | (refine aX1A1q ?_;clear hL;intro b w1 hL))
 go_loopw [5] (fun kk wr=>∃ k:Nat,k≤32∧kk= .int .i64 k∧Loc w wr [(b3,rowB 32 (byteK n k),24),(b2,rowB 32 fun _=>0,24),(b1,rowL n,311)]) (fun kk _=>32 - (intOf kk).toNat)
 case atStart=>exact ⟨0,by omega,rfl,by rw [HZ.out];exact hL⟩
 case round =>
  clear hL
  obtain ⟨k,hk,rfl,hL⟩:=hrel
  by_cases hlt:k<32
  ·have hk0:(0:Int)≤(k:Int):=by omega
   have hk1:(k:Int)<32:=by omega
   haveI g1:Cell (rowL n) (k / 8) (.int .u64 (lw n (k / 8):Nat)):=row_cell _ (by omega)
   haveI g2:Put (rowB 32 (byteK n k)) k (.int .u8 ((lw n (k / 8):Int) / 2 ^ (8*(k % 8)) % 256)) (rowB 32 (byteK n (k+1))):=row_put hlt (by rw [byteN_val n k hlt];exact byteK_step n k)
   have e1:(k:Int) / 8=((k / 8:Nat):Int):=by omega
   have e2:(k:Int) % 8=((k % 8:Nat):Int):=by omega
   have hq1:((k / 8:Nat):Int)<4:=by omega
   have hr1:((k % 8:Nat):Int)<8:=by omega
   have e3:8*((k % 8:Nat):Int)=((8*(k % 8):Nat):Int):=by omega
   generalize k / 8=q at *
   generalize 8*(k % 8)=s at *
   generalize k % 8=r at *
   go_wp2_with (first | (refine aL4S2C9q ?_;clear hL;intro w1 hL) | (refine aX1A1q ?_;clear hL;intro b w1 hL))
   go_roundw
   case rel=>exact ⟨k+1,by omega,by go_num,hL⟩
   case measure=>simp [intOf];omega
  ·obtain rfl:k=32:=by omega
   rw [HF.out] at hL
   go_wp2_with (first | (refine aL4S2C9q ?_;clear hL;intro w1 hL) | (refine aX1A1q ?_;clear hL;intro b w1 hL))
   exact bodyPost_ret (results_loc rfl hL rfl) rfl ⟨rfl,hL.bel⟩
instance iLim24:Ent 284:=Ent.of Tryz.func284 (by kernel_rfl) rfl
instance iLim25 (n:Nat):FnC 284 #[.agg (rowL n)] (.agg (rowB 32 (byteN n))):=⟨num_any n⟩
set_option maxRecDepth 100000 in
set_option maxHeartbeats 400000 in
theorem less_any (n m:Nat) (hn:n<2 ^ 256) (hm:m<2 ^ 256) (w:World):Calls Tryz.prog 278 #[.agg (rowL n),.agg (rowL m)] w fun e w'=>e= .returned (.bool (decide (n<m)))∧Below w.heap.size w w':=by
 have hL:=Loc.nil w
 have hs:=sub_any n m hn hm
 have hb:bw n m 4=if n<m then 1 else 0:=by
  unfold bw
  rw [show 64*4=256 from rfl,Nat.mod_eq_of_lt hn,Nat.mod_eq_of_lt hm]
 generalize n+2 ^ 256 - m=d at *
 by_cases h:n<m
 ·rw [if_pos h] at hb
  rw [hb] at hs
  haveI f1:FnC 296 #[.agg (rowL n),.agg (rowL m)] (.tuple #[.agg (rowL d),.int .u64 1]):=⟨hs⟩
  rw [decide_eq_true h]
  clear hs hb h hn hm
  go_enter Tryz.func278,Tryz.ntmps278
  go_wp2_with (first | (refine aL4S2C9q ?_;clear hL;intro w1 hL) | (refine aX1A1q ?_;clear hL;intro b w1 hL))
  go_ret
  exact ⟨rfl,hL.bel⟩
 ·rw [if_neg h] at hb
  rw [hb] at hs
  haveI f1:FnC 296 #[.agg (rowL n),.agg (rowL m)] (.tuple #[.agg (rowL d),.int .u64 0]):=⟨hs⟩
  rw [decide_eq_false h]
  clear hs hb h hn hm
  go_enter Tryz.func278,Tryz.ntmps278
  go_wp2_with (first | (refine aL4S2C9q ?_;clear hL;intro w1 hL) | (refine aX1A1q ?_;clear hL;intro b w1 hL))
  go_ret
  exact ⟨rfl,hL.bel⟩
instance iLim26:Ent 278:=Ent.of Tryz.func278 (by kernel_rfl) rfl
end Go.Proofs.YtoifhhljfaoejaaGreatDoor
namespace Go.Proofs.YtoifhhljfaoejaaGreatDoor
noncomputable def pmul:Nat→Pt→Pt
 | 0,_=>pO
 | n+1,p=>padd (pmul n p) p
theorem on_mul {p:Pt} (h:On p):∀ n,On (pmul n p)
 | 0=>on_O
 | n+1=>on_add (on_mul h n) h
theorem pmul_add {p:Pt} (h:On p) (m:Nat):∀ n,pmul (m+n) p=padd (pmul m p) (pmul n p)
 | 0=>(padd_O _).symm
 | n+1=>by
  show padd (pmul (m+n) p) p=padd (pmul m p) (padd (pmul n p) p)
  rw [pmul_add h m n,padd_assoc (on_mul h m) (on_mul h n) h]
theorem pmul_O:∀ n,pmul n pO=pO
 | 0=>rfl
 | n+1=>by show padd (pmul n pO) pO=pO;rw [pmul_O n,padd_O]
theorem pmul_mul {p:Pt} (h:On p) (m:Nat):∀ n,pmul (n*m) p=pmul n (pmul m p)
 | 0=>by rw [Nat.zero_mul];rfl
 | n+1=>by rw [Nat.succ_mul,pmul_add h,pmul_mul h m n];rfl
theorem pmul_mod {p:Pt} (h:On p) {q:Nat} (hq:pmul q p=pO) (n:Nat):pmul (n % q) p=pmul n p:=by
 have e:pmul (q*(n / q)+n % q) p=pmul (n % q) p:=by
  rw [pmul_add h,Nat.mul_comm,pmul_mul h,hq,pmul_O,O_padd]
 rw [Nat.div_add_mod] at e
 exact e.symm
structure Ex where
 x:F
 y:F
 z:F
 t:F
def Rep (e:Ex) (p:Pt):Prop:=e.z≠0∧e.x=p.x*e.z∧e.y=p.y*e.z∧e.t=p.x*p.y*e.z
def exadd (p q:Ex):Ex :=
 let a:=(p.y - p.x)*(q.y - q.x)
 let b:=(p.y+p.x)*(q.y+q.x)
 let c:=p.t*(dF+dF)*q.t
 let z:=p.z*(q.z+q.z)
 ⟨(b - a)*(z - c),(z+c)*(b+a),(z - c)*(z+c),(b - a)*(b+a)⟩
def exO:Ex:=⟨0,1,1,0⟩
def exOf (p:Pt):Ex:=⟨p.x,p.y,1,p.x*p.y⟩
theorem rep_O:Rep exO pO:=by
 refine ⟨one_ne,?_,?_,?_⟩ <;> decide +kernel
theorem f_mul_one (a:F):a=a*1:=by grind
theorem rep_of (p:Pt):Rep (exOf p) p:=⟨one_ne,f_mul_one _,f_mul_one _,f_mul_one _⟩
theorem ad_e (x1 y1 x2 y2 z1 z2:F):(y1*z1+x1*z1)*(y2*z2+x2*z2) - (y1*z1 - x1*z1)*(y2*z2 - x2*z2)=2*(z1*z2)*(x1*y2+y1*x2):=by grind
theorem ad_h (x1 y1 x2 y2 z1 z2:F):(y1*z1+x1*z1)*(y2*z2+x2*z2)+(y1*z1 - x1*z1)*(y2*z2 - x2*z2)=2*(z1*z2)*(y1*y2+x1*x2):=by grind
theorem ad_f (x1 y1 x2 y2 z1 z2 d:F):z1*(z2+z2) - x1*y1*z1*(d+d)*(x2*y2*z2)=2*(z1*z2)*(1 - d*x1*x2*y1*y2):=by grind
theorem ad_g (x1 y1 x2 y2 z1 z2 d:F):z1*(z2+z2)+x1*y1*z1*(d+d)*(x2*y2*z2)=2*(z1*z2)*(1+d*x1*x2*y1*y2):=by grind
theorem ad_1 (X m1 m2 l:F):l*(X*m1)*(l*m2)=X*(l*m2*(l*m1)):=by grind
theorem ad_2 (Y m1 m2 l:F):l*m1*(l*(Y*m2))=Y*(l*m2*(l*m1)):=by grind
theorem ad_3 (X Y m1 m2 l:F):l*(X*m1)*(l*(Y*m2))=X*Y*(l*m2*(l*m1)):=by grind
theorem rep_add {e f:Ex} {p q:Pt} (hp:On p) (hq:On q) (he:Rep e p) (hf:Rep f q):Rep (exadd e f) (padd p q):=by
 obtain ⟨x1,y1,z1,t1⟩:=e
 obtain ⟨x2,y2,z2,t2⟩:=f
 obtain ⟨n1,a1,b1,c1⟩:=he
 obtain ⟨n2,a2,b2,c2⟩:=hf
 simp only at n1 n2 a1 b1 c1 a2 b2 c2
 subst a1 b1 c1 a2 b2 c2
 have hx:=padd_x hp hq
 have hy:=padd_y hp hq
 have m1:=den_pos hp hq
 have m2:=den_neg hp hq
 unfold exadd
 simp only
 rw [ad_e,ad_h,ad_f,ad_g,← hx,← hy]
 have hl:(2:F)*(z1*z2)≠0:=f_ne_mul two_ne (f_ne_mul n1 n2)
 generalize (2:F)*(z1*z2)=l at *
 generalize 1+dF*p.x*q.x*p.y*q.y=M1 at *
 generalize 1 - dF*p.x*q.x*p.y*q.y=M2 at *
 refine ⟨f_ne_mul (f_ne_mul hl m2) (f_ne_mul hl m1),?_,?_,?_⟩
 ·exact ad_1 _ _ _ _
 ·exact ad_2 _ _ _ _
 ·exact ad_3 _ _ _ _ _
def exmul (e:Ex) (n:Nat):Nat→Ex
 | 0=>exO
 | k+1=>if n / 2 ^ (255 - k) % 2=1 then exadd (exadd (exmul e n k) (exmul e n k)) e else exadd (exmul e n k) (exmul e n k)
theorem rep_mulk {e:Ex} {p:Pt} (hp:On p) (he:Rep e p) (n:Nat):∀ k,k≤256→n<2 ^ 256→Rep (exmul e n k) (pmul (n / 2 ^ (256 - k)) p)
 | 0,_,hn=>by rw [Nat.div_eq_of_lt (by simpa using hn)];exact rep_O
 | k+1,hk,hn=>by
  have ih:=rep_mulk hp he n k (by omega) hn
  have e1:n / 2 ^ (256 - k)=n / 2 ^ (255 - k) / 2:=by rw [Nat.div_div_eq_div_mul,← Nat.pow_succ];congr 2;omega
  rw [e1] at ih
  have o1:=on_mul hp (n / 2 ^ (255 - k) / 2)
  have i2:=rep_add o1 o1 ih ih
  rw [← pmul_add hp] at i2
  show Rep (if n / 2 ^ (255 - k) % 2=1 then _ else _) _
  rw [show 256 - (k+1)=255 - k from by omega]
  by_cases h:n / 2 ^ (255 - k) % 2=1
  ·rw [if_pos h]
   have:=rep_add (on_mul hp _) hp i2 he
   rw [show n / 2 ^ (255 - k)=n / 2 ^ (255 - k) / 2+n / 2 ^ (255 - k) / 2+1 from by omega]
   exact this
  ·rw [if_neg h]
   have e2:n / 2 ^ (255 - k) / 2+n / 2 ^ (255 - k) / 2=n / 2 ^ (255 - k):=by omega
   rw [e2] at i2
   exact i2
def extimes (e:Ex) (n:Nat):Ex:=exmul e n 256
theorem rep_times {e:Ex} {p:Pt} (hp:On p) (he:Rep e p) {n:Nat} (hn:n<2 ^ 256):Rep (extimes e n) (pmul n p):=by
 have:=rep_mulk hp he n 256 (Nat.le_refl _) hn
 rw [Nat.sub_self,Nat.pow_zero,Nat.div_one] at this
 exact this
def pB:Pt:=⟨fe 15112221349535400772501151409588531511454012693041857206046113283949847762202,fe 46316835694926478169428394003475163141307993866256225615783033603165251855960⟩
theorem on_B:On pB:=by unfold On;decide +kernel
def exB:Ex:=exOf pB
def Qo:Nat:=7237005577332262213973186563042994240857116359379907606001950938285454250989
structure En where
 x:Nat
 y:Nat
 z:Nat
 t:Nat
 deriving DecidableEq
def nmul (a b:Nat):Nat:=a*b % P
def nadd (a b:Nat):Nat:=(a+b) % P
def nsub (a b:Nat):Nat:=(P - b+a) % P
def enadd (p q:En):En :=
 let a:=nmul (nsub p.y p.x) (nsub q.y q.x)
 let b:=nmul (nadd p.y p.x) (nadd q.y q.x)
 let c:=nmul (nmul p.t (nadd dF.val dF.val)) q.t
 let z:=nmul p.z (nadd q.z q.z)
 ⟨nmul (nsub b a) (nsub z c),nmul (nadd z c) (nadd b a),nmul (nsub z c) (nadd z c),nmul (nsub b a) (nadd b a)⟩
def Ex.en (e:Ex):En:=⟨e.x.val,e.y.val,e.z.val,e.t.val⟩
theorem en_mul (a b:F):(a*b).val=nmul a.val b.val:=Fin.val_mul a b
theorem en_add' (a b:F):(a+b).val=nadd a.val b.val:=Fin.val_add a b
theorem en_sub (a b:F):(a - b).val=nsub a.val b.val:=Fin.sub_def a b ▸ rfl
theorem en_add (p q:Ex):(exadd p q).en=enadd p.en q.en:=by
 unfold exadd enadd Ex.en
 simp only [en_mul,en_add',en_sub]
def enB:En:=⟨15112221349535400772501151409588531511454012693041857206046113283949847762202,46316835694926478169428394003475163141307993866256225615783033603165251855960,1,46827403850823179245072216630277197565144205554125654976674165829533817101731⟩
def enmul (e:En) (n:Nat):Nat→En
 | 0=>⟨0,1,1,0⟩
 | k+1=>match Nat.beq (n / 2 ^ (255 - k) % 2) 1 with
  | true=>enadd (enadd (enmul e n k) (enmul e n k)) e
  | false=>enadd (enmul e n k) (enmul e n k)
theorem en_times (e:Ex) (n:Nat):∀ k,(exmul e n k).en=enmul e.en n k
 | 0=>(by decide +kernel:exO.en=⟨0,1,1,0⟩)
 | k+1=>by
  show (if _ then _ else _:Ex).en=_
  unfold enmul
  by_cases h:n / 2 ^ (255 - k) % 2=1
  ·rw [if_pos h,en_add,en_add,en_times e n k,h]
  ·rw [if_neg h,en_add,en_times e n k,show n / 2 ^ (255 - k) % 2=0 from by omega]
theorem order_calc:(fun e:En=>Nat.beq e.x 0 && Nat.beq e.y e.z) (enmul enB Qo 256)=true:=by decide +kernel
theorem enB_eq:exB.en=enB:=by decide +kernel
theorem order_B:pmul Qo pB=pO:=by
 have hr:=rep_times on_B (rep_of pB) (n:=Qo) (by decide +kernel)
 have hc:=order_calc
 rw [← enB_eq,← en_times,show exmul exB Qo 256=extimes (exOf pB) Qo from rfl] at hc
 obtain ⟨h1,h2,h3,_⟩:=hr
 generalize extimes (exOf pB) Qo=e at *
 simp only [Ex.en,Bool.and_eq_true,Nat.beq_eq] at hc
 have ex:e.x=0:=Fin.ext hc.1
 have ey:e.y=e.z:=Fin.ext hc.2
 rw [ex] at h2
 rw [ey] at h3
 refine Pt.ext' ?_ ?_
 ·rcases f_dom h2.symm with h | h
  ·exact h
  ·exact absurd h h1
 ·exact f_cancel h1 (h3.symm.trans (by show e.z=1*e.z;grind))
def enc (p:Pt):Nat:=p.y.val+2 ^ 255*(p.x.val % 2)
noncomputable def exbytes (e:Ex):Nat:=(e.y*inv e.z).val+2 ^ 255*((e.x*inv e.z).val % 2)
theorem rep_bytes {e:Ex} {p:Pt} (h:Rep e p):exbytes e=enc p:=by
 obtain ⟨h1,h2,h3,_⟩:=h
 have:=mul_inv h1
 unfold exbytes enc
 rw [h2,h3,show p.x*e.z*inv e.z=p.x from by grind,show p.y*e.z*inv e.z=p.y from by grind]
def frootX (a x y:F):Option F:=if x*x=a then some x else if y*y=a then some y else none
def rootE:Nat:=(P+3) / 8
noncomputable def froot (a:F):Option F:=frootX a (hide (pw a rootE)) (hide (pw a rootE)*iF)
theorem froot_eq (a:F):froot a=frootX a (pw a rootE) (pw a rootE*iF):=by unfold froot;rw [hide_eq]
theorem froot_sq {a r:F} (h:froot a=some r):r*r=a:=by
 rw [froot_eq] at h
 unfold frootX at h
 generalize pw a rootE=x at h
 by_cases h1:x*x=a
 ·rw [if_pos h1] at h;cases h;exact h1
 ·rw [if_neg h1] at h
  by_cases h2:x*iF*(x*iF)=a
  ·rw [if_pos h2] at h;cases h;exact h2
  ·rw [if_neg h2] at h;cases h
theorem froot_of (x:F):∃ r,froot (x*x)=some r:=by
 have key:pw (x*x) (rootE)*pw (x*x) (rootE)=x*x∨pw (x*x) (rootE)*pw (x*x) (rootE)= -(x*x):=by
  by_cases hx:x=0
  ·left
   subst hx
   rw [show (0:F)*0=0 from by grind,pw_zero_base _ (by decide +kernel)]
   grind
  ·have e1:pw (x*x) (rootE)*pw (x*x) (rootE)=x*x*pw x ((P - 1) / 2):=by
    rw [← pw_add,show rootE+rootE=1+(P - 1) / 4 from by decide +kernel,pw_add,show (P - 1) / 2=2*((P - 1) / 4) from by decide +kernel,pw_mul]
    have:pw x 2=x*x:=by show 1*x*x=_;grind
    rw [this]
    have:pw (x*x) 1=x*x:=by show 1*(x*x)=_;grind
    rw [this]
   have e2:pw x ((P - 1) / 2)*pw x ((P - 1) / 2)=1:=by
    rw [← pw_add,show (P - 1) / 2+(P - 1) / 2=P - 1 from by decide +kernel]
    exact f_fermat hx
   rw [e1]
   generalize pw x ((P - 1) / 2)=s at *
   have:(s - 1)*(s+1)=0:=by grind
   rcases f_dom this with h | h
   ·left;grind
   ·right;grind
 rw [froot_eq]
 unfold frootX
 have hi:=i_sq
 rcases key with h | h
 ·exact ⟨_,if_pos h⟩
 ·by_cases h0:pw (x*x) (rootE)*pw (x*x) (rootE)=x*x
  ·exact ⟨_,if_pos h0⟩
  ·refine ⟨_,(if_neg h0).trans (if_pos ?_)⟩
   generalize pw (x*x) (rootE)=y at *
   grind
noncomputable def exread (n:Nat):Option Ex :=
 if n % 2 ^ 255<P then
  let y:=fe (n % 2 ^ 255)
  match froot ((y*y - 1)*inv (dF*(y*y)+1)) with
  | none=>none
  | some x =>
   if x=0∧n / 2 ^ 255 % 2=1 then none
   else if x.val % 2=n / 2 ^ 255 % 2 then some ⟨x,y,1,x*y⟩ else some ⟨-x,y,1,-x*y⟩
 else none
theorem den_read (y:F):dF*(y*y)+1≠0:=by
 intro h
 by_cases hy:y=0
 ·rw [hy,Fin.mul_zero,Fin.mul_zero] at h
  exact absurd h (by decide +kernel)
 ·have hn:=nonsq (u:=1) (v:=y) (by grind)
  exact hy hn
theorem neg_val {x:F} (h:x≠0):(-x).val=P - x.val:=by
 have h1:x.val≠0:=fun e=>h (Fin.ext e)
 have:(-x).val=(P - x.val) % P:=rfl
 rw [this,Nat.mod_eq_of_lt (by have:=x.isLt;omega)]
theorem P_odd:P % 2=1:=by decide +kernel
theorem read_enc {p:Pt} (h:On p):exread (enc p)=some (exOf p):=by
 obtain ⟨x,y⟩:=p
 have hP:P<2 ^ 255:=by decide +kernel
 have hy:=y.isLt
 have e1:enc ⟨x,y⟩ % 2 ^ 255=y.val:=by
  unfold enc
  simp only
  rw [Nat.add_mul_mod_self_left]
  exact Nat.mod_eq_of_lt (by omega)
 have e2:enc ⟨x,y⟩ / 2 ^ 255 % 2=x.val % 2:=by
  unfold enc
  simp only
  rw [Nat.add_mul_div_left _ _ (Nat.two_pow_pos _),Nat.div_eq_of_lt (by omega)]
  omega
 unfold exread
 rw [e1,e2,if_pos hy,fe_of_val]
 simp only
 have hd:=den_read y
 have hu:(y*y - 1)*inv (dF*(y*y)+1)=x*x:=by
  refine (eq_mul_inv hd ?_).symm
  unfold On at h
  simp only at h
  grind
 rw [hu]
 obtain ⟨r,hr⟩:=froot_of x
 have hs:=froot_sq hr
 rw [hr]
 simp only
 have hpm:r=x∨r= -x:=by
  have:(r - x)*(r+x)=0:=by grind
  rcases f_dom this with h | h
  ·left;grind
  ·right;grind
 unfold exOf
 simp only
 by_cases hx:x=0
 ·have hr0:r=0:=by
   rcases hpm with e | e
   ·rw [e,hx]
   ·rw [e,hx];grind
  subst hx hr0
  rw [if_neg (by rintro ⟨_,h⟩;exact absurd h (by decide +kernel)),if_pos rfl]
 ·have hr0:r≠0:=by
   rcases hpm with e | e
   ·rw [e];exact hx
   ·rw [e];intro h0;exact hx (by grind)
  rw [if_neg (fun h=>hr0 h.1)]
  rcases hpm with e | e
  ·subst e;rw [if_pos rfl]
  ·rw [if_neg]
   ·rw [e,show - -x=x from by grind]
   ·rw [e,neg_val hx]
    have:=P_odd
    have:=x.isLt
    omega
end Go.Proofs.YtoifhhljfaoejaaGreatDoor
namespace Go.Proofs.YtoifhhljfaoejaaGreatDoor
open Go.RowKit
def BRow (w:World) (v:Value) (l:List (BitVec 8)):Prop :=
 ∃ a c,v= .slice a l.length c∧(a=none→c=0)∧(0<l.length→∃ b off,a=some ⟨b,off,none⟩∧b<w.heap.size∧∀ (i:Nat) (h:i<l.length),w.cell? ⟨b,off+i,none⟩=some (.int .u8 (B8 l[i])))
def BRows (w:World) (v:Value) (l:List (List (BitVec 8))):Prop :=
 ∃ a c,v= .slice a l.length c∧(a=none→c=0)∧(0<l.length→∃ b off,a=some ⟨b,off,none⟩∧b<w.heap.size∧∀ (i:Nat) (h:i<l.length),∃ vi,w.cell? ⟨b,off+i,none⟩=some vi∧BRow w vi l[i])
theorem BRow.below {w w':World} {v:Value} {l:List (BitVec 8)} (h:BRow w v l) (hb:Below w.heap.size w w'):BRow w' v l:=by
 obtain ⟨a,c,rfl,hn,h⟩:=h
 refine ⟨a,c,rfl,hn,fun h0=>?_⟩
 obtain ⟨b,off,rfl,h1,h2⟩:=h h0
 exact ⟨b,off,rfl,Nat.lt_of_lt_of_le h1 hb.size,fun i hi=>(hb.cell (p:=⟨b,off+i,none⟩) h1).trans (h2 i hi)⟩
theorem BRows.below {w w':World} {v:Value} {l:List (List (BitVec 8))} (h:BRows w v l) (hb:Below w.heap.size w w'):BRows w' v l:=by
 obtain ⟨a,c,rfl,hn,h⟩:=h
 refine ⟨a,c,rfl,hn,fun h0=>?_⟩
 obtain ⟨b,off,rfl,h1,h2⟩:=h h0
 exact ⟨b,off,rfl,Nat.lt_of_lt_of_le h1 hb.size,fun i hi=>let ⟨vi,e,r⟩:=h2 i hi;⟨vi,(hb.cell (p:=⟨b,off+i,none⟩) h1).trans e,r.below hb⟩⟩
def encB (l:List (BitVec 8)):List Value:=l.map fun x=> .int .u8 (B8 x)
def OwnB (w:World) (base:Nat) (v:Value) (l:List (BitVec 8)):Prop:=w.ownsRow base 5 1 v l.length (encB l)
theorem OwnB.brow {w:World} {base:Nat} {v:Value} {l:List (BitVec 8)} (h:OwnB w base v l):BRow w v l:=by
 rcases h.2 with ⟨rfl,h0⟩ | ⟨g,cap,cur,rfl,_,hg,_,_,_,htake⟩
 ·exact ⟨none,0,by rw [h0],fun _=>rfl,fun hp=>by omega⟩
 ·refine ⟨_,cap,rfl,(fun hc=>by cases hc),fun _=>⟨g,0,rfl,(Array.getElem?_eq_some_iff.1 hg).1,fun i hi=>?_⟩⟩
  have hc:=World.ownsRow.cells h (g:=g) rfl i (.int .u8 (B8 l[i])) (by simp [encB,hi])
  have hadd:(⟨g,0,none⟩:Addr).add i=⟨g,0+i,none⟩:=by unfold Addr.add;split <;> simp_all
  rw [hadd] at hc
  exact hc
theorem info_u8:(Tryz.prog.info? 5).map (fun i=>(i.zero,i.size,i.bytes))=some (some (.int .u8 0),1,1):=by kernel_rfl
theorem wpList_append_B {ops:Array Oper} {rest:List Oper} {o:Oper} {a:Act} {w:World} {Q:Exit→Act→World→Prop} (hgd:o.guard=none) (s x:Operand)
 (ho:o.op= .call { callee:= .builtin .append,args:= #[s,x],argTypes:= #[29,29] })
 (base:Nat) (v:Value) (xs l:List (BitVec 8)) (hs:a.eval s=v) (hown:OwnB w base v xs) (hx:BRow w (a.eval x) l)
 (hsz:xs.length+l.length≤100000000000) (hbase:base≤w.heap.size)
 (h:∀ v' w',OwnB w' base v' (xs ++ l)→w.grownBy w' v.ownBlock→wpList Tryz.prog ops Q rest (a.put o.dst v') w'):wpList Tryz.prog ops Q (o :: rest) a w:=by
 obtain ⟨i0,hi0,hz0,hz1,hz2⟩:=info_parts info_u8
 obtain ⟨ad,c,e,hn,hp⟩:=hx
 cases ad with
 | none =>
  have hl:l=[]:=by
   rcases Nat.eq_zero_or_pos l.length with h0 | h0
   ·exact List.eq_nil_of_length_eq_zero h0
   ·obtain ⟨_,_,hc,_⟩:=hp h0;cases hc
  subst hl
  rw [hn rfl] at e
  refine wpList_append_own_none hgd s x 29 ho base 5 i0 1 Tryz.underlying29 hi0 v _ _ hs hown e ?_
  exact h v w (by rw [List.append_nil];exact hown) (grown_refl _ _)
 | some ad =>
  refine wpList_append_own w hgd s x 29 ho base 5 i0 _ 1 1 Tryz.underlying29 hi0 hz0 hz1 hz2 rfl (by decide) v xs.length (encB xs) hs hown ad l.length c (encB l) e (by simp [encB]) ?_ ?_ (by unfold maxLen;omega) (by omega) hbase ?_
  ·intro j u hj
   have hjl:j<l.length:=by
    rcases Nat.lt_or_ge j l.length with h | h
    ·exact h
    ·rw [List.getElem?_eq_none (by simp [encB];exact h)] at hj;cases hj
   obtain ⟨b,off,hc,_,hcell⟩:=hp (by omega)
   cases hc
   rw [Addr.add_mid,hcell j hjl]
   simpa [encB,hjl] using hj
  ·intro u hu
   obtain ⟨y,_,rfl⟩:=List.mem_map.1 hu
   rfl
  ·intro v' w' h1 h2 _
   refine h v' w' ?_ h2
   unfold OwnB encB
   rw [List.length_append,List.map_append]
   exact h1
end Go.Proofs.YtoifhhljfaoejaaGreatDoor
