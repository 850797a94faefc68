/-
  Lemmas of the law, part 18: the walks of the functions that it calls and the plain facts about them. No condition beyond those written.
-/
import Derived.Deep.OwnRows
import Derived.Laws.OwnMore
import Derived.Test.YtoifhhljfaoejaaGreatDoorPkAA
import Derived.Test.YtoifhhljfaoejaaGreatDoorPkAL
import Derived.Test.YtoifhhljfaoejaaGreatDoorPkAO
import Derived.Test.YtoifhhljfaoejaaGreatDoorPkAK
import Derived.Test.YtoifhhljfaoejaaGreatDoorPkAQ
namespace Go.Proofs.YtoifhhljfaoejaaGreatDoor
open Go.RowKit
set_option linter.unusedVariables false
set_option linter.unusedSimpArgs false
def row8 (n:Nat):Array Value:=row 8 (lv n)
theorem lt_pow2 {x a b:Nat} (hx:x<2 ^ a) (h:a≤b):x<2 ^ b:=Nat.lt_of_lt_of_le hx (Nat.pow_le_pow_right (by decide) h)
theorem info_u64:(Tryz.prog.info? 227).map (fun i=>(i.zero,i.size,i.bytes))=some (some (.int .u64 0),1,8):=by kernel_rfl
theorem made_row8:madeCells #[Value.int .u64 0] 8=row8 0:=by kernel_rfl
set_option maxRecDepth 100000 in
theorem make_8 (w:World):(Instr.makeSlice 354 (.int .i64 8) (.int .i64 8)).run Tryz.prog w= .ok (.slice (some ⟨w.heap.size,0,none⟩) 8 8) (w.alloc (.cells (row8 0) 227)):=by
 rw [← made_row8]
 exact run_make_row' 354 227 _ 8 Tryz.underlying354 info_u64 rfl .i64 .i64 8 (by omega) (by omega) w
theorem leK_rows (f:Nat→BitVec 8) (k n:Nat):row n (upd (lv (leK f k)) (k / 8) (.int .u64 (lw (leK f (k+1)) (k / 8):Nat)))=row n (lv (leK f (k+1))):=row_congr fun p hp=>by
 unfold upd
 by_cases e:p=k / 8
 ·subst e;rw [if_pos rfl];rfl
 ·rw [if_neg e]
  have:lw (leK f k) p=lw (leK f (k+1)) p:=by
   rcases Nat.lt_or_ge p (k / 8) with h | h
   ·obtain ⟨d,hd⟩:∃ d,k / 8=p+1+d:=⟨k / 8 - (p+1),by omega⟩
    unfold lw
    rw [leK_step,hd,Nat.mul_add,Nat.pow_add,Nat.mul_succ,Nat.pow_add,Nat.mul_assoc,Nat.mul_assoc,div_add_mul' _ _ _ (Nat.two_pow_pos _)]
    exact (Nat.add_mul_mod_self_left _ _ _).symm
   ·have h1:leK f k<2 ^ (64*p):=Nat.lt_of_lt_of_le (leK_lt f k) (Nat.pow_le_pow_right (by omega) (by omega))
    have h2:leK f (k+1)<2 ^ (64*p):=Nat.lt_of_lt_of_le (leK_lt f (k+1)) (Nat.pow_le_pow_right (by omega) (by omega))
    unfold lw
    rw [Nat.div_eq_of_lt h1,Nat.div_eq_of_lt h2]
  unfold lv
  rw [this]
theorem uv_lw (n:Nat):∀ k,uv (lw n) k=n % 2 ^ (64*k)
 | 0=>by rw [Nat.mul_zero,Nat.pow_zero,Nat.mod_one];rfl
 | k+1=>by
  show uv (lw n) k+lw n k*2 ^ (64*k)=_
  rw [uv_lw n k,Nat.mul_succ,Nat.pow_add,Nat.mod_mul]
  unfold lw
  rw [Nat.mul_comm (2 ^ (64*k)) (n / 2 ^ (64*k) % 2 ^ 64)]
theorem lMake {ops:Array Oper} {rest:List Oper} {o:Oper} {a:Act} {w0 w:World} {M:Mem} {Q:Exit→Act→World→Prop} (hL:Loc w0 w M) (hg:o.guard=none) (ho:o.op= .makeSlice 354 (.const (.int .i64 8)) (.const (.int .i64 8)))
 (h:∀ b w',Loc w0 w' ((b,row8 0,227) :: M)→wpList Tryz.prog ops Q rest (a.put o.dst (.slice (some ⟨b,0,none⟩) 8 8)) w'):wpList Tryz.prog ops Q (o :: rest) a w :=
 wpList_plain hg fun _ hK=>by
  unfold Oper.wp execOp
  simp only [ho,BigFrame.eval_const,Sem.run_bind,make_8,Result.andThen_ok,Sem.run_pure]
  exact hK _ _ (h _ _ (hL.alloc _ _))
set_option maxRecDepth 100000 in
set_option maxHeartbeats 1000000 in
theorem Reduce_any (f:Nat→BitVec 8) (n c B:Nat) (w:World) (hn:n≤64) (hcap:n≤c) (hw:∀ i,i<n→Was w B i (.int .u8 (B8 (f i)))) :
 Calls Tryz.prog 281 #[.slice (some ⟨B,0,none⟩) n c] w fun e w'=>e= .returned (.agg (rowB 32 (byteN (leK f n % Qo))))∧Below w.heap.size w w':=by
 have hL:=Loc.nil w
 have HW:=Lib.hid hw
 have hn1:(n:Int)≤64:=by omega
 have hn2:(n:Int)≤(c:Int):=by omega
 have hm:min (n:Int) 64=(n:Int):=by omega
 have hn0:(0:Int)≤(n:Int):=by omega
 clear hw
 go_enter Tryz.func281,Tryz.ntmps281
 go_wp2_with (first | ((with_reducible refine gS 2 ?_);refine aBp ?_;clear hL;intro b2 w1 hL) | ((with_reducible refine gS 6 ?_);refine lMake hL rfl rfl fun b6 w1 hL1=>?_;clear hL;have hL:=hL1;clear hL1) | (refine aL4S2C9q ?_;clear hL;intro w1 hL) | (refine aX1A1q ?_;clear hL;intro b w1 hL))
 go_loopw [13] (fun kk wr=>∃ k:Nat,k≤n∧kk= .int .i64 k∧Loc w wr [(b6,row8 (leK f k),227),(b2,rowB 32 fun _=>0,24)]) (fun kk _=>n - (intOf kk).toNat)
 case atStart=>exact ⟨0,by omega,rfl,hL⟩
 case round =>
  clear hL
  obtain ⟨k,hk,rfl,hL⟩:=hrel
  by_cases hlt:k<n
  ·have hk0:(0:Int)≤(k:Int):=by omega
   have hk1:(k:Int)<(n:Int):=by omega
   haveI g0:Was w B k (.int .u8 (B8 (f k))):=HW.out k hlt
   haveI g1:Cell (row8 (leK f k)) (k / 8) (.int .u64 (lw (leK f k) (k / 8):Nat)):=row_cell _ (by omega)
   have gl:=leK_rows f k 8
   have hv:=leK_val f k
   rw [← hv] at gl
   haveI g2:Put (row8 (leK f k)) (k / 8) (.int .u64 (bits .or .u64 (lw (leK f k) (k / 8):Int) (IntKind.u64.wrap (B8 (f k)*2 ^ (8*(k % 8)))))) (row8 (leK f (k+1))):=row_put (by omega) gl
   clear gl hv
   have e1:(k:Int) / 8=((k / 8:Nat):Int):=by omega
   have e2:(k:Int) % 8=((k % 8:Nat):Int):=by omega
   have hq1:((k / 8:Nat):Int)<8:=by omega
   have hq2:k / 8<8:=by omega
   have hr1:((k % 8:Nat):Int)<8:=by omega
   have wb:IntKind.u64.wrap (B8 (f k))=B8 (f k):=by have:=B8_bd (f k);rw [IntKind.wrap_u64];omega
   have hm:min (8*(k % 8)) 64=8*(k % 8):=by omega
   generalize k / 8=q at *
   generalize k % 8=r at *
   have wq:IntKind.i64.wrap (q:Int)=(q:Int):=IntWalk.i64_in _ (by omega)
   have wr':IntKind.i64.wrap (r:Int)=(r:Int):=IntWalk.i64_in _ (by omega)
   have ws:IntKind.i64.wrap (8*(r:Int))=((8*r:Nat):Int):=IntWalk.i64_in _ (by omega)
   have e3:(k:Int).tdiv 8=(q:Int):=by rw [Int.tdiv_eq_ediv_of_nonneg (by omega)];omega
   have e4:(k:Int).tmod 8=(r:Int):=by rw [Int.tmod_eq_emod_of_nonneg (by omega)];omega
   have hq0:(0:Int)≤(q:Int):=by omega
   have hs0:(0:Int)≤((8*r:Nat):Int):=by omega
   generalize 8*r=s at *
   go_wp2_with (first | ((with_reducible show wpList _ _ _ (⟨_,.load 5 _,_,_,_,_⟩ :: _) _ _);refine lW hL rfl rfl rfl fun w1 hL1=>?_;clear hL;have hL:=hL1;clear hL1) | (refine aL4S2C9q ?_;clear hL;intro w1 hL) | (refine aX1A1q ?_;clear hL;intro b w1 hL))
   refine wp_region_free [(0,true),(1,true),(2,true),(3,true),(4,false),(5,true),(6,true),(7,true),(8,true),(9,true),(10,true),(11,true),(12,true)] [] [13] (by kernel_rfl) (by kernel_rfl) trivial hL ?_
   refine pF ?_
   repeat refine rS ?_
   refine seqO_nil ?_
   refine seqM_nil fun w1 hL1=>?_
   simp only [List.cons_append,List.nil_append] at hL1
   clear hL;have hL:=hL1;clear hL1
   refine p4 ?_
   refine pG ?_
   repeat (refine rW ?_;clear hL;intro w1 hL)
   refine wpList_nil (NoPanic.normal ?_)
   go_wp2_with fail
   go_roundw
   case rel=>exact ⟨k+1,by omega,by go_num,hL⟩
   case measure=>simp [intOf];omega
  ·obtain rfl:k=n:=by omega
   have hfin:=uv_lw (leK f k) 8
   rw [Nat.mod_eq_of_lt (lt_pow2 (leK_lt f k) (show 8*k≤64*8 by omega))] at hfin
   have hr:∀ w1:World,Loc w w1 [(b6,row8 (leK f k),227),(b2,rowB 32 fun _=>0,24)]→Calls Tryz.prog 305 #[.slice (some ⟨b6,0,none⟩) 8 8] w1 fun e w'=>e= .returned (.agg (rowL (leK f k % Qo)))∧Below w1.heap.size w1 w':=fun w1 h1=>by
    rw [← hfin]
    refine reduce_any (lw (leK f k)) 8 8 b6 w1 (fun i=>lw_lt _ _) (by omega) (by omega) fun i hi=>⟨?_,h1.lt (.head _)⟩
    rw [cell_of_row w1 b6 i _ _ _ (h1.get (.head _))]
    exact row_get _ hi
   have HR:=Lib.hid hr
   clear hr hfin
   haveI f9:FnC 284 #[.agg (rowL (leK f k % Qo))] (.agg (rowB 32 (byteN (leK f k % Qo)))):=inferInstance
   go_wp2_with (first | ((go_at_call 305;refine (HR.out _ hL).mono ?_;rintro e w1 ⟨rfl,hb1⟩;have hL1:=hL.keep hb1;clear hb1;clear hL;have hL:=hL1;clear hL1)) | (refine aL4S2C9q ?_;clear hL;intro w1 hL) | (refine aX1A1q ?_;clear hL;intro b w1 hL))
   exact bodyPost_ret (results_loc rfl hL rfl) rfl ⟨rfl,hL.bel⟩
end Go.Proofs.YtoifhhljfaoejaaGreatDoor
namespace Go.Proofs.YtoifhhljfaoejaaGreatDoor
open Go.RowKit
def numL (f:Nat→BitVec 8):List (BitVec 8):=(List.range 32).map f
def bytesL (n:Nat):List (BitVec 8):=numL (byteN n)
def wideN (m:List (BitVec 8)):Nat:=leK (Shb.sha m) 64 % Qo
def clampN (n:Nat):Nat:=n % 2 ^ 254 / 8*8+2 ^ 254
def secN (seed:List (BitVec 8)):Nat:=clampN (leN (Shb.sha seed))
def tailL (seed:List (BitVec 8)):List (BitVec 8):=numL fun i=>Shb.sha seed (32+i)
noncomputable def pubN (seed:List (BitVec 8)):Nat:=enc (pmul (secN seed) pB)
def sigR (seed m:List (BitVec 8)):Nat:=wideN (tailL seed ++ m)
noncomputable def atN (seed m:List (BitVec 8)):Nat:=enc (pmul (sigR seed m) pB)
def sigK (key at_:Nat) (m:List (BitVec 8)):Nat:=wideN (bytesL at_ ++ bytesL key ++ m)
noncomputable def sigS (seed m:List (BitVec 8)):Nat:=(sigR seed m+sigK (pubN seed) (atN seed m) m*secN seed % Qo) % Qo
theorem Qo_pos:0<Qo:=by decide +kernel
theorem Qo_256:Qo<2 ^ 256:=by decide +kernel
theorem wideN_lt (m:List (BitVec 8)):wideN m<2 ^ 256:=Nat.lt_trans (Nat.mod_lt _ Qo_pos) Qo_256
theorem clampN_lt (n:Nat):clampN n<2 ^ 256:=by
 unfold clampN
 have h1:n % 2 ^ 254 / 8*8≤n % 2 ^ 254:=Nat.div_mul_le_self _ _
 have h2:n % 2 ^ 254<2 ^ 254:=Nat.mod_lt _ (Nat.two_pow_pos _)
 have h3:(2:Nat) ^ 256=4*2 ^ 254:=by decide +kernel
 generalize (2:Nat) ^ 254=E at *
 omega
theorem enc_lt (p:Pt):enc p<2 ^ 256:=by
 unfold enc
 have h1:=Nat.lt_trans p.y.isLt P_255
 have h2:(2:Nat) ^ 256=2*2 ^ 255:=by decide +kernel
 have h3:p.x.val % 2<2:=Nat.mod_lt _ (by omega)
 have h4:2 ^ 255*(p.x.val % 2)≤2 ^ 255*1:=Nat.mul_le_mul_left _ (by omega)
 generalize (2:Nat) ^ 255=E at *
 omega
noncomputable def checkN (key at_ s:Nat) (m:List (BitVec 8)):Bool :=
 match exread at_,exread key with
 | some r,some a=>decide (s<Qo) && decide (exbytes (extimes exB s)=exbytes (exadd r (extimes a (sigK key at_ m))))
 | _,_=>false
theorem checkN_some {key at_ s:Nat} {m:List (BitVec 8)} {r a:Ex} (hr:exread at_=some r) (ha:exread key=some a) (hs:s<Qo) (he:exbytes (extimes exB s)=exbytes (exadd r (extimes a (sigK key at_ m)))):checkN key at_ s m=true:=by
 unfold checkN
 rw [hr,ha]
 simp only [hs,decide_true,Bool.true_and]
 exact decide_eq_true he
theorem sigS_mul (seed m:List (BitVec 8)):pmul (sigS seed m) pB=padd (pmul (sigR seed m) pB) (pmul (sigK (pubN seed) (atN seed m) m) (pmul (secN seed) pB)):=by
 unfold sigS
 generalize sigK (pubN seed) (atN seed m) m=k
 generalize sigR seed m=r
 generalize secN seed=a
 rw [pmul_mod on_B order_B,pmul_add on_B,pmul_mod on_B order_B,pmul_mul on_B]
theorem sigS_lt (seed m:List (BitVec 8)):sigS seed m<Qo:=Nat.mod_lt _ Qo_pos
theorem bytes_times {p:Pt} (hp:On p) {n:Nat} (hn:n<2 ^ 256):exbytes (extimes (exOf p) n)=enc (pmul n p):=rep_bytes (rep_times hp (rep_of p) hn)
theorem bytes_both {p q:Pt} (hp:On p) (hq:On q) {n:Nat} (hn:n<2 ^ 256):exbytes (exadd (exOf p) (extimes (exOf q) n))=enc (padd p (pmul n q)):=rep_bytes (rep_add hp (on_mul hq n) (rep_of p) (rep_times hq (rep_of q) hn))
theorem sigK_lt (key at_:Nat) (m:List (BitVec 8)):sigK key at_ m<2 ^ 256:=wideN_lt _
theorem check_sign (seed m:List (BitVec 8)):checkN (pubN seed) (atN seed m) (sigS seed m) m=true:=by
 have hs:=sigS_lt seed m
 have hm:=sigS_mul seed m
 have hA:exread (pubN seed)=some (exOf (pmul (secN seed) pB)):=read_enc (on_mul on_B (secN seed))
 have hR:exread (atN seed m)=some (exOf (pmul (sigR seed m) pB)):=read_enc (on_mul on_B (sigR seed m))
 have oA:=on_mul on_B (secN seed)
 have oR:=on_mul on_B (sigR seed m)
 generalize sigS seed m=s at *
 generalize pubN seed=key at *
 generalize atN seed m=at_ at *
 generalize pmul (secN seed) pB=A at *
 generalize pmul (sigR seed m) pB=R at *
 refine checkN_some hR hA hs ?_
 rw [bytes_both oR oA (sigK_lt key at_ m),← hm]
 exact bytes_times on_B (Nat.lt_trans hs Qo_256)
end Go.Proofs.YtoifhhljfaoejaaGreatDoor
namespace Go.Proofs.YtoifhhljfaoejaaGreatDoor.R3
open Go Go.Proofs.YtoifhhljfaoejaaGreatDoor Go.RowKit
set_option linter.unusedVariables false
set_option linter.unusedSimpArgs false
def ffs (k:Nat):Nat→BitVec 8:=fun i=>if i<k then 255 else 0
theorem ffs_step (k:Nat) (h:k<32):Put (rowB 32 (ffs k)) k (.int .u8 255) (rowB 32 (ffs (k+1))):=row_put h (row_congr fun i _=>by
 unfold upd ffs
 by_cases e:i=k
 ·subst e;rw [if_pos rfl,if_pos (by omega)];rfl
 ·rw [if_neg e]
  show Value.int .u8 (B8 (if i<k then 255 else 0))=_
  by_cases h:i<k
  ·rw [if_pos h,if_pos (by omega)]
  ·rw [if_neg h,if_neg (by omega)])
def ff1:Nat→BitVec 8:=fun i=>if i=31 then 127 else 255
theorem put_127:Put (rowB 32 (ffs 32)) 31 (.int .u8 127) (rowB 32 ff1):=row_put (by omega) (row_congr fun i hi=>by
 unfold upd ffs ff1
 by_cases e:i=31
 ·subst e;rfl
 ·rw [if_neg e]
  show Value.int .u8 (B8 (if i<32 then 255 else 0))=_
  rw [if_pos hi,if_neg e])
theorem put_235:Put (rowB 32 ff1) 0 (.int .u8 235) (rowB 32 (byteN (P - 2))):=row_put (by omega) (by kernel_rfl)
set_option maxRecDepth 100000 in
set_option maxHeartbeats 1000000 in
theorem most_any (w:World):Calls Tryz.prog 189 #[.int .i64 21] w fun e w'=>e= .returned (.agg (rowB 32 (byteN (P - 2))))∧Below w.heap.size w w':=by
 have hL:=Loc.nil w
 haveI p1:=put_127
 haveI p2:=put_235
 have HZ:=Lib.hid (show (rowB 32 fun _=>0)=rowB 32 (ffs 0) from row_congr fun i _=>by unfold ffs;rw [if_neg (by omega)])
 have HS:=Lib.hid ffs_step
 generalize byteN (P - 2)=out at *
 generalize ff1=f1 at *
 generalize ffs=ff at *
 go_enter Tryz.func189,Tryz.ntmps189
 go_wp2_with (first | ((with_reducible refine gS 2 ?_);refine aBp ?_;clear hL;intro b2 w1 hL) | ((with_reducible refine gS 3 ?_);refine aBp ?_;clear hL;intro b3 w1 hL) | (refine aL4S2C9q ?_;clear hL;intro w1 hL) | (refine aX1A1q ?_;clear hL;intro b w1 hL))
 go_loopw [4] (fun kk wr=>∃ k:Nat,k≤32∧kk= .int .i64 k∧Loc w wr [(b3,rowB 32 (ff k),24),(b2,rowB 32 fun _=>0,24)]) (fun kk _=>32 - (intOf kk).toNat)
 case atStart=>exact ⟨0,by omega,rfl,by rw [← HZ.out];exact hL⟩
 case round =>
  clear hL
  obtain ⟨k,hk,rfl,hL⟩:=hrel
  by_cases hlt:k<32
  ·have hk0:(0:Int)≤(k:Int):=by omega
   have hk1:(k:Int)<32:=by omega
   haveI g1:Put (rowB 32 (ff k)) k (.int .u8 255) (rowB 32 (ff (k+1))):=HS.out k hlt
   go_wp2_with (first | (refine aL4S2C9q ?_;clear hL;intro w1 hL) | (refine aX1A1q ?_;clear hL;intro b w1 hL))
   go_roundw
   case rel=>exact ⟨k+1,by omega,by go_num,hL⟩
   case measure=>simp [intOf];omega
  ·obtain rfl:k=32:=by omega
   go_wp2_with (first | (refine aL4S2C9q ?_;clear hL;intro w1 hL) | (refine aX1A1q ?_;clear hL;intro b w1 hL))
   exact bodyPost_ret (results_loc rfl hL rfl) rfl ⟨rfl,hL.bel⟩
instance iElQ1:Ent 189:=Ent.of Tryz.func189 (by kernel_rfl) rfl
set_option maxRecDepth 100000 in
set_option maxHeartbeats 1000000 in
theorem pow_any (x:El) (e:Nat→BitVec 8) (w:World):Calls Tryz.prog 188 #[.agg (rowEl x),.agg (rowB 32 e)] w fun r w'=>r= .returned (.agg (rowEl (x.pow (leN e))))∧Below w.heap.size w w':=by
 have hL:=Loc.nil w
 have HB:=Lib.hid (fun i=> @code_bit e i)
 generalize leN e=n at *
 obtain ⟨X,h0,hs,hf⟩:∃ X:Nat→El,X 0=El.one∧(∀ j,X (j+1)=if n / 2 ^ (255 - j) % 2=1 then ((X j).mul (X j)).mul x else (X j).mul (X j))∧X 256=x.pow n:=⟨fun k=>El.powK x n k,rfl,fun j=>rfl,El.pow_eq x n⟩
 rw [← hf]
 have zs:=Lib.hid hs
 haveI f0:FnC 132 #[.int .i64 1] (.agg (rowEl (X 0))):=by rw [h0];infer_instance
 clear h0 hs hf
 go_enter Tryz.func188,Tryz.ntmps188
 go_wp2_with (first | ((with_reducible refine gS 2 ?_);refine aBp ?_;clear hL;intro b2 w1 hL) | ((with_reducible refine gS 3 ?_);refine aBp ?_;clear hL;intro b3 w1 hL) | ((with_reducible refine gS 4 ?_);refine aBp ?_;clear hL;intro b4 w1 hL) | ((with_reducible refine gS 5 ?_);refine aBp ?_;clear hL;intro b5 w1 hL) | (refine aL4S2C9q ?_;clear hL;intro w1 hL) | (refine aX1A1q ?_;clear hL;intro b w1 hL))
 go_loopw [6] (fun kk wr=>∃ j:Nat,j≤256∧kk= .int .i64 (255 - (j:Int))∧Loc w wr [(b5,rowEl (X j),147),(b4,rowI 16 fun _=>0,147),(b3,rowB 32 e,24),(b2,rowEl x,147)]) (fun kk _=>(intOf kk+1).toNat)
 case atStart=>exact ⟨0,by omega,rfl,hL⟩
 case round =>
  clear hL
  obtain ⟨j,hj,rfl,hL⟩:=hrel
  by_cases hlt:j<256
  ·have HT:=Lib.hid (zs.out j)
   have hv:=HB.out (i:=255 - j) (by omega)
   obtain ⟨k,hk⟩:∃ k,k=255 - j:=⟨_,rfl⟩
   rw [← hk] at hv HT
   have ek:255 - (j:Int)=(k:Int):=by omega
   rw [ek]
   have hk1:k<256:=by omega
   haveI g1:Cell (rowB 32 e) (k / 8) (.int .u8 (B8 (e (k / 8)))):=row_cell _ (by omega)
   obtain ⟨b0,b1⟩:=B8_bd (e (k / 8))
   have k0:(0:Int)≤(k:Int):=by omega
   have HK:=Lib.hid hk
   have e1:(k:Int) / 8=((k / 8:Nat):Int):=by omega
   have e2:(k:Int) % 8=((k % 8:Nat):Int):=by omega
   have e3:(k:Int).tdiv 8=((k / 8:Nat):Int):=by rw [Int.tdiv_eq_ediv_of_nonneg (by omega)];omega
   have e4:(k:Int).tmod 8=((k % 8:Nat):Int):=by rw [Int.tmod_eq_emod_of_nonneg (by omega)];omega
   have q0:(0:Int)≤((k / 8:Nat):Int):=by omega
   have q1:((k / 8:Nat):Int)<32:=by omega
   have r0:(0:Int)≤((k % 8:Nat):Int):=by omega
   have r1:((k % 8:Nat):Int)<8:=by omega
   clear hk
   by_cases hbit:n / 2 ^ k % 2=1
   ·rw [hbit] at hv
    rw [if_pos hbit] at HT
    generalize X j=X0 at hL HT
    generalize k / 8=q at *
    generalize k % 8=r at *
    generalize B8 (e q)=u at *
    clear hbit
    go_wp2_with (first | (refine aL4S2C9q ?_;clear hL;intro w1 hL) | (refine aX1A1q ?_;clear hL;intro b w1 hL))
    go_roundw
    case rel=>exact ⟨j+1,by omega,by rw [show (k:Int) - 1=255 - ((j+1:Nat):Int) from by have:=HK.out;omega],by rw [HT.out];exact hL⟩
    case measure=>simp [intOf]
   ·rw [show n / 2 ^ k % 2=0 from by omega] at hv
    rw [if_neg hbit] at HT
    generalize X j=X0 at hL HT
    generalize k / 8=q at *
    generalize k % 8=r at *
    generalize B8 (e q)=u at *
    clear hbit
    go_wp2_with (first | (refine aL4S2C9q ?_;clear hL;intro w1 hL) | (refine aX1A1q ?_;clear hL;intro b w1 hL))
    go_roundw
    case rel=>exact ⟨j+1,by omega,by rw [show (k:Int) - 1=255 - ((j+1:Nat):Int) from by have:=HK.out;omega],by rw [HT.out];exact hL⟩
    case measure=>simp [intOf]
  ·obtain rfl:j=256:=by omega
   have k1:(255:Int) - ((256:Nat):Int)= -1:=by omega
   rw [k1]
   clear k1
   go_wp2_with (first | (refine aL4S2C9q ?_;clear hL;intro w1 hL) | (refine aX1A1q ?_;clear hL;intro b w1 hL))
   exact bodyPost_ret (results_loc rfl hL rfl) rfl ⟨rfl,hL.bel⟩
instance iElQ3:Ent 188:=Ent.of Tryz.func188 (by kernel_rfl) rfl
set_option maxRecDepth 100000 in
set_option maxHeartbeats 1000000 in
theorem inv_any (x:El) (w:World):Calls Tryz.prog 128 #[.agg (rowEl x)] w fun r w'=>r= .returned (.agg (rowEl x.inv))∧Below w.heap.size w w':=by
 have hL:=Loc.nil w
 obtain ⟨e,he⟩:∃ e,e=byteN (P - 2):=⟨_,rfl⟩
 haveI f1:FnC 188 #[.agg (rowEl x),.agg (rowB 32 e)] (.agg (rowEl x.inv)):=⟨by
  have:=pow_any x (byteN (P - 2))
  rw [leN_byteN (by have:=P_lt;omega),← he] at this
  exact this⟩
 haveI f0:FnC 189 #[.int .i64 21] (.agg (rowB 32 e)):=⟨by rw [he];exact most_any⟩
 clear he
 go_enter Tryz.func128,Tryz.ntmps128
 go_wp2_with (first | (refine aL4S2C9q ?_;clear hL;intro w1 hL) | (refine aX1A1q ?_;clear hL;intro b w1 hL))
 refine wp_region_free [(0,false),(1,false),(2,false)] [] [3] (by kernel_rfl) (by kernel_rfl) trivial hL ?_
 refine pF ?_
 repeat refine rS ?_
 refine seqO_nil ?_
 refine seqM_nil fun w1 hL1=>?_
 simp only [List.cons_append,List.nil_append] at hL1
 clear hL;have hL:=hL1;clear hL1
 refine p4 ?_
 refine pG ?_
 repeat (refine rW ?_;clear hL;intro w1 hL)
 refine wpList_nil (NoPanic.normal ?_)
 go_wp2_with fail
 exact bodyPost_ret (results_loc rfl hL rfl) rfl ⟨rfl,hL.bel⟩
instance iElQ5:Ent 128:=Ent.of Tryz.func128 (by kernel_rfl) rfl
instance iElQ6 (x:El):FnC 128 #[.agg (rowEl x)] (.agg (rowEl x.inv)):=⟨inv_any x⟩
theorem u8_and_248:∀ x:Fin 256,bits .and .u8 (x.val:Int) 248=((x.val / 8*8:Nat):Int):=by decide +kernel
theorem u8_clamp:∀ x:Fin 256,bits .or .u8 (bits .and .u8 (x.val:Int) 127) 64=((x.val % 64+64:Nat):Int):=by decide +kernel
theorem clamp_byte (n i:Nat) (h:n<2 ^ 256) (hi:i<32):(byteN (clampN n) i).toNat=if i=0 then (byteN n 0).toNat / 8*8 else if i=31 then (byteN n 31).toNat % 64+64 else (byteN n i).toNat:=by
 unfold byteN clampN
 rw [BitVec.toNat_ofNat,BitVec.toNat_ofNat,BitVec.toNat_ofNat,BitVec.toNat_ofNat,show (2:Nat) ^ 8=256 from rfl,Nat.mul_zero,Nat.pow_zero,Nat.div_one]
 by_cases h0:i=0
 ·subst h0
  rw [if_pos rfl,Nat.mul_zero,Nat.pow_zero,Nat.div_one]
  simp only [Nat.reducePow] at *
  omega
 ·rw [if_neg h0]
  by_cases h1:i=31
  ·subst h1
   rw [if_pos rfl]
   simp only [Nat.reducePow,Nat.reduceMul] at *
   omega
  ·rw [if_neg h1]
   obtain ⟨d,hd⟩:∃ d,254=8*i+(8+d):=⟨246 - 8*i,by omega⟩
   obtain ⟨j,rfl⟩:∃ j,i=j+1:=⟨i - 1,by omega⟩
   have e8:(2:Nat) ^ (8*(j+1))=8*2 ^ (8*j+5):=by rw [show 8*(j+1)=3+(8*j+5) from by omega,Nat.pow_add]
   have h254:(2:Nat) ^ 254=2 ^ (8*(j+1))*(256*2 ^ d):=by rw [show (256:Nat)=2 ^ 8 from rfl,← Nat.pow_add,← Nat.pow_add,← hd]
   have a1:n % 2 ^ 254 / 8*8 / 2 ^ (8*(j+1))=n % 2 ^ 254 / 2 ^ (8*(j+1)):=by
    rw [e8,← Nat.div_div_eq_div_mul,← Nat.div_div_eq_div_mul,Nat.mul_div_cancel _ (by omega)]
   rw [h254,Nat.add_mul_div_left _ _ (Nat.two_pow_pos _),← h254,a1,Nat.add_mul_mod_self_left,h254,Nat.mod_mul_right_div_self,Nat.mod_mul_right_mod]
theorem put_c0 (f:Nat→BitVec 8):Put (rowB 32 f) 0 (.int .u8 (bits .and .u8 (B8 (f 0)) 248)) (rowB 32 fun i=>if i=0 then byteN (clampN (leN f)) 0 else f i):=row_put (by omega) (row_congr fun i _=>by
 unfold upd
 by_cases e:i=0
 ·subst e
  rw [if_pos rfl]
  show _=Value.int .u8 (B8 (if 0=0 then _ else _))
  rw [if_pos rfl]
  have h1:=u8_and_248 ⟨(f 0).toNat,(f 0).isLt⟩
  have h2:=clamp_byte (leN f) 0 (leN_lt f) (by omega)
  rw [if_pos rfl,byteN_leN f (by omega)] at h2
  unfold B8
  rw [h2,← h1]
 ·rw [if_neg e]
  show _=Value.int .u8 (B8 (if i=0 then _ else _))
  rw [if_neg e])
theorem put_c31 (f:Nat→BitVec 8):Put (rowB 32 fun i=>if i=0 then byteN (clampN (leN f)) 0 else f i) 31 (.int .u8 (bits .or .u8 (bits .and .u8 (B8 (f 31)) 127) 64)) (rowB 32 (byteN (clampN (leN f)))):=row_put (by omega) (row_congr fun i hi=>by
 unfold upd
 by_cases e:i=31
 ·subst e
  rw [if_pos rfl]
  have h1:=u8_clamp ⟨(f 31).toNat,(f 31).isLt⟩
  have h2:=clamp_byte (leN f) 31 (leN_lt f) (by omega)
  rw [if_neg (by omega),if_pos rfl,byteN_leN f (by omega)] at h2
  unfold B8
  rw [h2,← h1]
 ·rw [if_neg e]
  show Value.int .u8 (B8 (if i=0 then _ else _))=_
  by_cases e0:i=0
  ·subst e0;rw [if_pos rfl]
  ·rw [if_neg e0]
   have h2:=clamp_byte (leN f) i (leN_lt f) hi
   rw [if_neg e0,if_neg e,byteN_leN f hi] at h2
   rw [BitVec.eq_of_toNat_eq h2])
set_option maxRecDepth 100000 in
set_option maxHeartbeats 1000000 in
theorem clamped_any (f:Nat→BitVec 8) (w:World):Calls Tryz.prog 127 #[.agg (rowB 32 f)] w fun r w'=>r= .returned (.agg (rowB 32 (byteN (clampN (leN f)))))∧Below w.heap.size w w':=by
 have hL:=Loc.nil w
 haveI p0:=put_c0 f
 haveI p1:=put_c31 f
 haveI g0:Cell (rowB 32 f) 0 (.int .u8 (B8 (f 0))):=row_cell _ (by omega)
 haveI g1:Cell (rowB 32 fun i=>if i=0 then byteN (clampN (leN f)) 0 else f i) 31 (.int .u8 (B8 (f 31))):=row_cell _ (by omega)
 generalize byteN (clampN (leN f))=out at *
 generalize (fun i=>if i=0 then out 0 else f i)=mid at *
 generalize f 0=x at *
 generalize f 31=y at *
 go_enter Tryz.func127,Tryz.ntmps127
 go_wp2_with (first | (refine aL4S2C9q ?_;clear hL;intro w1 hL) | (refine aX1A1q ?_;clear hL;intro b w1 hL))
 exact bodyPost_ret (results_loc rfl hL rfl) rfl ⟨rfl,hL.bel⟩
instance iElQ7:Ent 127:=Ent.of Tryz.func127 (by kernel_rfl) rfl
instance iElQ8 (f:Nat→BitVec 8):FnC 127 #[.agg (rowB 32 f)] (.agg (rowB 32 (byteN (clampN (leN f))))):=⟨clamped_any f⟩
end Go.Proofs.YtoifhhljfaoejaaGreatDoor.R3
