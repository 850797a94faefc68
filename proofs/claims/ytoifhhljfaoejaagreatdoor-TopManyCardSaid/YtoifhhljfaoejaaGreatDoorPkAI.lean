/-
  Lemmas of the law, part 9: the walks of the functions that it calls and the plain facts about them. No condition beyond those written.
-/
import Derived.Laws.StructEq
import Derived.Laws.BytesString
import Derived.Laws.BytesArg
import Derived.Test.YtoifhhljfaoejaaGreatDoorPkAH
import Derived.Test.YtoifhhljfaoejaaGreatDoorPkAA
import Derived.Test.YtoifhhljfaoejaaGreatDoorPkAG
namespace Go.Proofs.YtoifhhljfaoejaaGreatDoor
open Go.RowKit
def eqN (n:Nat) (f g:Nat→Int):Bool:=(List.range n).all fun i=>f i == g i
theorem eqN_iff {n:Nat} {f g:Nat→Int}:eqN n f g=true↔∀ i,i<n→f i=g i:=by simp [eqN]
section
variable {P:Program}
theorem run_equalIn_row {t e:TypeId} {n d:Nat} {k:IntKind} (f g:Nat→Int) (ht:P.underlying t=some (.array n e)) (hs:(P.info? e).map (·.size)=some 1) (he:P.underlying e=some (.int k))
 (hr:∀ w,(isAgg e).run P w= .ok false w) (w:World) :
 (Op.equalIn (d+2) t (.agg (row n fun i=> .int k (f i))) (.agg (row n fun i=> .int k (g i)))).run P w= .ok (eqN n f g) w:=by
 cases hi:P.info? e with
 | none=>rw [hi] at hs;cases hs
 | some i =>
  have hs:i.size=1:=by simpa [hi] using hs
  have hp:∀ (S:Nat→Value) (j:Nat),j<n→∀ w,(part e (row n S) j).run P w= .ok (S j) w:=by
   intro S j hj w
   simp only [part,Sem.run_bind,hr,Result.andThen_ok,Bool.false_eq_true,if_false,row_get S hj,Sem.run_pure]
  rw [Op.equalIn]
  simp only [Sem.run_bind,run_underlying ht,Result.andThen_ok,sizeOf,run_typeInfo _ hi,Sem.run_pure,hs,Nat.mul_one]
  rw [Std.Legacy.Range.forIn_eq_forIn_range']
  simp only [Std.Legacy.Range.size,Nat.sub_zero,Nat.div_one,Nat.add_one_sub_one]
  have key:∀ (l:List Nat),(∀ j∈l,j<n)→(forIn (m:=Sem) l ((none,()):Option Bool×Unit) fun j r=>do
   let x ← part e (row n fun i=> .int k (f i)) j
   let y ← part e (row n fun i=> .int k (g i)) j
   let b ← Op.equalIn (d+1) e x y
   if (!b)=true then pure (ForInStep.done (some false,())) else pure (ForInStep.yield (none,()))).run P w =
    .ok (if l.all (fun j=>f j == g j) then (none,()) else (some false,())) w:=by
   intro l hl
   induction l with
   | nil=>simp
   | cons j l ih =>
    have hj:=hl j (by simp)
    simp only [List.forIn_cons,Sem.run_bind,hp _ j hj,Result.andThen_ok,run_equalIn_int w d e k k _ _ he]
    by_cases hfg:f j=g j
    ·simp only [hfg,beq_self_eq_true,Bool.not_true,Bool.false_eq_true,if_false,Sem.run_pure,Result.andThen_ok,List.all_cons,Bool.true_and]
     exact ih fun j hj=>hl j (by simp [hj])
    ·have:(f j == g j)=false:=by simpa using hfg
     simp only [this,Bool.not_false,if_true,Sem.run_pure,Result.andThen_ok,List.all_cons,Bool.false_and,Bool.false_eq_true,if_false]
  have e0:List.range' 0 n=List.range n:=List.range_eq_range'.symm
  rw [e0,key (List.range n) (fun j hj=>List.mem_range.1 hj)]
  show Result.andThen _ _=_
  unfold eqN
  cases (List.range n).all fun j=>f j == g j <;> simp
def strB (l:List (BitVec 8)):ByteArray:=⟨(l.map fun x=>UInt8.ofNat x.toNat).toArray⟩
theorem run_string {w:World} {v:Value} {l:List (BitVec 8)} {src e dst:TypeId} (h:BRow w v l) (hs:P.underlying src=some (.slice e)) (he:P.underlying e=some (.int .u8)) (hd:P.underlying dst=some .string) :
 (convert src dst v).run P w= .ok (.string (strB l)) w:=by
 obtain ⟨a,c,rfl,hn,hp⟩:=h
 rcases Nat.eq_zero_or_pos l.length with h0 | h0
 ·obtain rfl:l=[]:=List.eq_nil_of_length_eq_zero h0
  rw [run_convert_bytes_string w src dst e _ _ _ hs he hd]
  cases a with
  | none=>simp [Conv.bytesToString];rfl
  | some a =>
   have:=run_bytesToString (P:=P) w a 0 c [] (run_loadCells_list (P:=P) w a [] (fun j v hj=>by simp at hj))
   exact this
 ·obtain ⟨b,off,rfl,_,hc⟩:=hp h0
  have:=run_convert_bytes_arg (P:=P) w src e hs he b off l.length c (l.map B8) (by simp) (fun i hi=>by
   rw [hc i hi,List.getD_eq_getElem?_getD,List.getElem?_map,List.getElem?_eq_getElem hi];rfl) dst hd
  rw [this]
  congr 2
  unfold strOfNums strB
  congr 2
  rw [List.map_map]
  rfl
end
end Go.Proofs.YtoifhhljfaoejaaGreatDoor
namespace Go.Proofs.YtoifhhljfaoejaaGreatDoor
open Go.RowKit
set_option linter.unusedVariables false
set_option linter.unusedSimpArgs false
class EqV (t:TypeId) (r s:Array Value) (b:outParam Bool):Prop where
 eql:∀ w,(binOp .eql t (.agg r) (.agg s)).run Tryz.prog w= .ok (.bool b) w
 neq:∀ w,(binOp .neq t (.agg r) (.agg s)).run Tryz.prog w= .ok (.bool !b) w
 ge:∀ x y w,(eqGuard .eql t x y (.agg r) (.agg s)).run Tryz.prog w= .ok () w
 gn:∀ x y w,(eqGuard .neq t x y (.agg r) (.agg s)).run Tryz.prog w= .ok () w
section
variable {ops:Array Oper} {rest:List Oper} {l:List (Oper×Bool)} {R:Act→Prop} {S:World→Prop} {o:Oper} {a:Act} {w0 w:World} {M M':Mem} {Q:Exit→Act→World→Prop}
theorem run_eqv {t:TypeId} {x y:Operand} {ev:Operand→Value} {r s:Array Value} (hx:ev x= .agg r) (hy:ev y= .agg s) {b:Bool} [h:EqV t r s b] (w:World) :
 (o.op= .binOp .eql t x y t→(execOp ev o).run Tryz.prog w= .ok (.value (.bool b)) w)∧(o.op= .binOp .neq t x y t→(execOp ev o).run Tryz.prog w= .ok (.value (.bool !b)) w):=by
 constructor
 ·intro ho
  unfold execOp
  simp only [ho,hx,hy,Sem.run_bind,h.ge,h.eql,Result.andThen_ok,Sem.run_pure]
 ·intro ho
  unfold execOp
  simp only [ho,hx,hy,Sem.run_bind,h.gn,h.neq,Result.andThen_ok,Sem.run_pure]
theorem lQ (hL:Loc w0 w M) (hg:o.guard=none) {t:TypeId} {x y:Operand} (ho:o.op= .binOp .eql t x y t) {r s:Array Value} (hx:a.eval x= .agg r) (hy:a.eval y= .agg s) {b:Bool} [h:EqV t r s b]
 (h:∀ w',Loc w0 w' M→wpList Tryz.prog ops Q rest (a.put o.dst (.bool b)) w'):wpList Tryz.prog ops Q (o :: rest) a w :=
 wpList_plain hg fun K hK=>by
  unfold Oper.wp
  rw [(run_eqv hx hy w).1 ho]
  exact hK _ _ (h w hL)
theorem sQ (hg:o.guard=none) {t:TypeId} {x y:Operand} (ho:o.op= .binOp .eql t x y t) {r s:Array Value} (hx:a.eval x= .agg r) (hy:a.eval y= .agg s) {b:Bool} [h:EqV t r s b]
 (h:seqO Tryz.prog ops S l (a.put o.dst (.bool b)) R):seqO Tryz.prog ops S ((o,true) :: l) a R:=seqO_pure hg (fun w=>(run_eqv hx hy w).1 ho) h
theorem sN (hg:o.guard=none) {t:TypeId} {x y:Operand} (ho:o.op= .binOp .neq t x y t) {r s:Array Value} (hx:a.eval x= .agg r) (hy:a.eval y= .agg s) {b:Bool} [h:EqV t r s b]
 (h:seqO Tryz.prog ops S l (a.put o.dst (.bool !b)) R):seqO Tryz.prog ops S ((o,true) :: l) a R:=seqO_pure hg (fun w=>(run_eqv hx hy w).2 ho) h
end
theorem eqv_row {t e:TypeId} {n:Nat} {k:IntKind} (f g:Nat→Int) {b:Bool} (ht:Tryz.prog.underlying t=some (.array n e)) (hs:(Tryz.prog.info? e).map (·.size)=some 1) (he:Tryz.prog.underlying e=some (.int k))
 (hr:∀ w,(isAgg e).run Tryz.prog w= .ok false w) (h1:∀ r s x y w,(eqGuard .eql t x y (.agg r) (.agg s)).run Tryz.prog w= .ok () w) (h2:∀ r s x y w,(eqGuard .neq t x y (.agg r) (.agg s)).run Tryz.prog w= .ok () w)
 (hb:eqN n f g=b):EqV t (row n fun i=> .int k (f i)) (row n fun i=> .int k (g i)) b:=by
 have:=fun w=>run_equalIn_row (P:=Tryz.prog) (d:=9998) f g ht hs he hr w
 rw [show 9998+2=10000 from rfl] at this
 refine ⟨fun w=>?_,fun w=>?_,fun x y w=>h1 _ _ x y w,fun x y w=>h2 _ _ x y w⟩
 ·rw [run_eql_struct]
  show Result.andThen ((Op.equalIn 10000 t (.agg (row n fun i=> .int k (f i))) (.agg (row n fun i=> .int k (g i)))).run Tryz.prog w) _=_
  rw [this,hb];rfl
 ·rw [run_neq_struct]
  show Result.andThen ((Op.equalIn 10000 t (.agg (row n fun i=> .int k (f i))) (.agg (row n fun i=> .int k (g i)))).run Tryz.prog w) _=_
  rw [this,hb];rfl
theorem lw_inj {n m:Nat} (hn:n<2 ^ 256) (hm:m<2 ^ 256) (h:∀ i,i<4→lw n i=lw m i):n=m:=by
 have h0:=h 0 (by omega)
 have h1:=h 1 (by omega)
 have h2:=h 2 (by omega)
 have h3:=h 3 (by omega)
 unfold lw at *
 simp only [Nat.mul_zero,Nat.mul_one,Nat.reduceMul,Nat.reducePow] at *
 omega
theorem eqv_L (n m:Nat) (hn:n<2 ^ 256) (hm:m<2 ^ 256):EqV 311 (rowL n) (rowL m) (decide (n=m)) :=
 eqv_row (fun i=>(lw n i:Int)) (fun i=>(lw m i:Int)) Tryz.underlying311 (by kernel_rfl) Tryz.underlying227 (fun w=>by kernel_rfl)
  (fun r s x y w=>run_eqGuard_agg _ _ _ _ _ _ _ (by kernel_rfl)) (fun r s x y w=>run_eqGuard_agg _ _ _ _ _ _ _ (by kernel_rfl)) (by
   rw [Bool.eq_iff_iff,eqN_iff,decide_eq_true_iff]
   exact ⟨fun h=>lw_inj hn hm fun i hi=>Int.ofNat_inj.1 (h i hi),fun h i _=>by rw [h]⟩)
theorem P_256:P<2 ^ 256:=by decide +kernel
theorem f_256 (a:F):a.val<2 ^ 256:=Nat.lt_trans a.isLt P_256
theorem eqv_F (a b:F):EqV 311 (rowL a.val) (rowL b.val) (decide (a=b)):=by
 have:=eqv_L a.val b.val (f_256 a) (f_256 b)
 rw [show decide (a.val=b.val)=decide (a=b) from by rw [Bool.eq_iff_iff,decide_eq_true_iff,decide_eq_true_iff];exact ⟨Fin.ext,fun h=>by rw [h]⟩] at this
 exact this
theorem pw_two (a:F) (n:Nat):pw a n*pw a n=pw a (2*n):=by rw [Nat.two_mul,pw_add]
theorem shift_step (e j:Nat) (hj:j<256):e / 2 ^ (255 - j)=2*(e / 2 ^ (256 - j))+e / 2 ^ (255 - j) % 2:=by
 have:e / 2 ^ (256 - j)=e / 2 ^ (255 - j) / 2:=by rw [Nat.div_div_eq_div_mul,← Nat.pow_succ];congr 2;omega
 omega
theorem one_row: #[Value.int .u64 1,Value.int .u64 0,Value.int .u64 0,Value.int .u64 0]=rowL 1:=by kernel_rfl
theorem two_row: #[Value.int .u64 2,Value.int .u64 0,Value.int .u64 0,Value.int .u64 0]=rowL 2:=by kernel_rfl
theorem nil_row: #[Value.int .u64 0,Value.int .u64 0,Value.int .u64 0,Value.int .u64 0]=rowL 0:=by kernel_rfl
theorem v_one:(1:F).val=1:=by decide +kernel
theorem v_zero:(0:F).val=0:=by decide +kernel
set_option maxRecDepth 100000 in
set_option maxHeartbeats 1000000 in
theorem power_any (a:F) (e:Nat) (he:e<2 ^ 256) (w:World):Calls Tryz.prog 302 #[.agg (rowL a.val),.agg (rowL e)] w fun r w'=>r= .returned (.agg (rowL (pw a e).val))∧Below w.heap.size w w':=by
 have hL:=Loc.nil w
 have h1:=Lib.hid one_row
 have z0:=Lib.hid (show rowL 1=rowL (pw a (e / 2 ^ (256 - 0))).val from by rw [Nat.sub_zero,Nat.div_eq_of_lt he,show pw a 0=1 from rfl,v_one])
 clear he
 go_enter Tryz.func302,Tryz.ntmps302
 go_wp2_with (first | ((with_reducible refine gS 2 ?_);refine aBp ?_;clear hL;intro b2 w1 hL) | ((with_reducible refine gS 3 ?_);refine aBp ?_;clear hL;intro b3 w1 hL) | ((with_reducible refine gS 4 ?_);refine aBp ?_;clear hL;intro b4 w1 hL) | ((with_reducible refine gS 5 ?_);refine aBp ?_;clear hL;intro b5 w1 hL) | (refine aL4S2C9q ?_;clear hL;intro w1 hL) | (refine aX1A1q ?_;clear hL;intro b w1 hL))
 rw [h1.out] at hL
 go_loopw [6] (fun kk wr=>∃ j:Nat,j≤256∧kk= .int .i64 (255 - (j:Int))∧Loc w wr [(b5,rowL (pw a (e / 2 ^ (256 - j))).val,311),(b4,rowL 0,311),(b3,rowL e,311),(b2,rowL a.val,311)]) (fun kk _=>(intOf kk+1).toNat)
 case atStart=>exact ⟨0,by omega,rfl,by rw [← z0.out];exact hL⟩
 case round =>
  clear hL
  obtain ⟨j,hj,rfl,hL⟩:=hrel
  by_cases hlt:j<256
  ·have k0:(0:Int)≤255 - (j:Int):=by omega
   have k1:¬ 255 - (j:Int)<0:=by omega
   have k2:(j:Int)≤255:=by omega
   have hst:=shift_step e j hlt
   have hb:=fun w=>bit_any e (255 - j) (by omega) w
   rw [show ((255 - j:Nat):Int)=255 - (j:Int) from by omega] at hb
   have hm:=pw_two a (e / 2 ^ (256 - j))
   by_cases hbit:e / 2 ^ (255 - j) % 2=1
   ·rw [hbit] at hb hst
    have HT:=Lib.hid (show pw a (e / 2 ^ (256 - (j+1)))=pw a (e / 2 ^ (256 - j))*pw a (e / 2 ^ (256 - j))*a from by rw [hm,show 256 - (j+1)=255 - j from by omega,hst];rfl)
    generalize pw a (e / 2 ^ (256 - j))=x at *
    haveI f1:FnC 283 #[.agg (rowL e),.int .i64 (255 - (j:Int))] (.int .u64 1):=⟨hb⟩
    clear hb hst hm hbit
    go_wp2_with (first | (refine aL4S2C9q ?_;clear hL;intro w1 hL) | (refine aX1A1q ?_;clear hL;intro b w1 hL))
    go_roundw
    case rel=>exact ⟨j+1,by omega,by rw [show 255 - (j:Int) - 1=255 - ((j+1:Nat):Int) from by omega],by rw [HT.out];exact hL⟩
    case measure=>simp [intOf];omega
   ·rw [show e / 2 ^ (255 - j) % 2=0 from by omega] at hb hst
    have HT:=Lib.hid (show pw a (e / 2 ^ (256 - (j+1)))=pw a (e / 2 ^ (256 - j))*pw a (e / 2 ^ (256 - j)) from by rw [hm,show 256 - (j+1)=255 - j from by omega,hst];rfl)
    generalize pw a (e / 2 ^ (256 - j))=x at *
    haveI f1:FnC 283 #[.agg (rowL e),.int .i64 (255 - (j:Int))] (.int .u64 0):=⟨hb⟩
    clear hb hst hm hbit
    go_wp2_with (first | (refine aL4S2C9q ?_;clear hL;intro w1 hL) | (refine aX1A1q ?_;clear hL;intro b w1 hL))
    go_roundw
    case rel=>exact ⟨j+1,by omega,by rw [show 255 - (j:Int) - 1=255 - ((j+1:Nat):Int) from by omega],by rw [HT.out];exact hL⟩
    case measure=>simp [intOf];omega
  ·obtain rfl:j=256:=by omega
   rw [Nat.sub_self,Nat.pow_zero,Nat.div_one] at hL
   have k1:(255:Int) - ((256:Nat):Int)= -1:=by omega
   rw [k1]
   clear k1
   go_wp2_with (first | (refine aL4S2C9q ?_;clear hL;intro w1 hL) | (refine aX1A1q ?_;clear hL;intro b w1 hL))
   exact bodyPost_ret (results_loc rfl hL rfl) rfl ⟨rfl,hL.bel⟩
instance iPow1:Ent 302:=Ent.of Tryz.func302 (by kernel_rfl) rfl
instance iPow2:Ent 297:=Ent.of Tryz.func297 (by kernel_rfl) rfl
set_option maxRecDepth 100000 in
set_option maxHeartbeats 1000000 in
theorem inverse_any (a:F) (w:World):Calls Tryz.prog 277 #[.agg (rowL a.val)] w fun r w'=>r= .returned (.agg (rowL (inv a).val))∧Below w.heap.size w w':=by
 have hL:=Loc.nil w
 haveI f1:FnC 296 #[.agg (rowL P),.agg #[.int .u64 2,.int .u64 0,.int .u64 0,.int .u64 0]] (.tuple #[.agg (rowL (P - 2)),.int .u64 0]):=⟨fun w=>by
  have:=sub_any P 2 P_256 (by decide) w
  rw [two_row]
  rw [show bw P 2 4=0 from by decide +kernel,← rowL_mod (P+2 ^ 256 - 2),show (P+2 ^ 256 - 2) % 2 ^ 256=P - 2 from by decide +kernel] at this
  exact this⟩
 haveI f2:FnC 302 #[.agg (rowL a.val),.agg (rowL (P - 2))] (.agg (rowL (inv a).val)):=⟨by rw [inv_pw];exact power_any a (P - 2) (Nat.lt_of_le_of_lt (Nat.sub_le _ _) P_256)⟩
 generalize (inv a).val=r at *
 generalize P - 2=e at *
 go_enter Tryz.func277,Tryz.ntmps277
 go_wp2_with (first | (refine aL4S2C9q ?_;clear hL;intro w1 hL) | (refine aX1A1q ?_;clear hL;intro b w1 hL))
 exact bodyPost_ret (results_loc rfl hL rfl) rfl ⟨rfl,hL.bel⟩
instance iPow3:Ent 277:=Ent.of Tryz.func277 (by kernel_rfl) rfl
instance iPow4 (a:F):FnC 277 #[.agg (rowL a.val)] (.agg (rowL (inv a).val)):=⟨inverse_any a⟩
end Go.Proofs.YtoifhhljfaoejaaGreatDoor
namespace Go.Proofs.YtoifhhljfaoejaaGreatDoor
open Go.RowKit
set_option linter.unusedVariables false
set_option linter.unusedSimpArgs false
def evenR (r:F):F:=if r.val % 2=1 then 0 - r else r
def optVal:Option F→Nat
 | some r=>(evenR r).val
 | none=>0
noncomputable def sqVal (a:F):Nat:=optVal (froot a)
theorem sqVal_some {a r:F} (h:froot a=some r):sqVal a=(evenR r).val:=by show optVal (froot a)=_;rw [h];rfl
theorem sqVal_none {a:F} (h:froot a=none):sqVal a=0:=by show optVal (froot a)=_;rw [h];rfl
theorem lit_e: #[Value.int .u64 18446744073709551614,Value.int .u64 18446744073709551615,Value.int .u64 18446744073709551615,Value.int .u64 1152921504606846975]=rowL rootE:=by kernel_rfl
theorem lit_i: #[Value.int .u64 14190309331451158704,Value.int .u64 3405592160176694392,Value.int .u64 3120150775007532967,Value.int .u64 3135389899092516619]=rowL iF.val:=by kernel_rfl
theorem e_256:rootE<2 ^ 256:=by decide +kernel
theorem bit0 (x:F) (w:World):Calls Tryz.prog 283 #[.agg (rowL x.val),.int .i64 0] w fun e w'=>e= .returned (.int .u64 (x.val % 2:Nat))∧Below w.heap.size w w':=by
 have:=bit_any x.val 0 (by omega) w
 rw [Nat.pow_zero,Nat.div_one] at this
 exact this
set_option maxRecDepth 100000 in
set_option maxHeartbeats 2000000 in
theorem square_any (a:F) (w:World):Calls Tryz.prog 276 #[.agg (rowL a.val)] w fun r w'=>r= .returned (.tuple #[.agg (rowL (sqVal a)),.bool (froot a).isSome])∧Below w.heap.size w w':=by
 have hL:=Loc.nil w
 have lz:=Lib.hid (show rowL 0=rowL (0:F).val from by rw [v_zero])
 have f1:FnC 302 #[.agg (rowL a.val),.agg #[.int .u64 18446744073709551614,.int .u64 18446744073709551615,.int .u64 18446744073709551615,.int .u64 1152921504606846975]] (.agg (rowL (pw a rootE).val)):=⟨fun w=>by
  rw [lit_e];exact power_any a _ e_256 w⟩
 have hfr:froot a=frootX a (pw a rootE) (pw a rootE*iF):=froot_eq a
 generalize pw a rootE=x at *
 have f2:FnC 272 #[.agg (rowL x.val),.agg #[.int .u64 14190309331451158704,.int .u64 3405592160176694392,.int .u64 3120150775007532967,.int .u64 3135389899092516619]] (.agg (rowL (x*iF).val)):=⟨fun w=>by
  rw [lit_i];exact times_any x iF w⟩
 have g0:∀ x:F,FnC 273 #[.agg #[.int .u64 0,.int .u64 0,.int .u64 0,.int .u64 0],.agg (rowL x.val)] (.agg (rowL (0 - x).val)):=fun x=>⟨fun w=>by
  rw [nil_row,lz.out];exact minus_any 0 x w⟩
 generalize x*iF=y at *
 have e1:=eqv_F (x*x) a
 have e2:=eqv_F (y*y) a
 unfold frootX at hfr
 by_cases c1:x*x=a
 ·rw [if_pos c1] at hfr
  rw [decide_eq_true c1] at e1
  have b0:=bit0 x
  have e3:=sqVal_some hfr
  rw [e3,hfr]
  unfold evenR
  by_cases hb:x.val % 2=1
  ·rw [if_pos hb]
   rw [hb] at b0
   haveI f3:FnC 283 #[.agg (rowL x.val),.int .i64 0] (.int .u64 1):=⟨b0⟩
   haveI f4:=g0 x
   clear hfr c1 b0 hb e3 g0 e2
   go_enter Tryz.func276,Tryz.ntmps276
   go_wp2_with (first | (refine aL4S2C9q ?_;clear hL;intro w1 hL) | (refine aX1A1q ?_;clear hL;intro b w1 hL))
   refine wp_region_free [(0,false),(1,false),(2,false),(3,false),(4,true)] [] [] (by kernel_rfl) (by kernel_rfl) trivial hL ?_
   refine pF ?_
   repeat refine rN ?_
   refine seqO_nil ?_
   refine seqM_nil fun w1 hL1=>?_
   simp only [List.cons_append,List.nil_append] at hL1
   clear hL;have hL:=hL1;clear hL1
   refine p4 ?_
   refine wpList_nil (NoPanic.normal ?_)
   go_wp2_with (first | (refine aL4S2C9q ?_;clear hL;intro w1 hL) | (refine aX1A1q ?_;clear hL;intro b w1 hL))
   refine wp_region_free [(0,false),(1,false),(2,false),(3,false),(4,true)] [] [] (by kernel_rfl) (by kernel_rfl) trivial hL ?_
   refine pF ?_
   repeat refine rN ?_
   refine seqO_nil ?_
   refine seqM_nil fun w1 hL1=>?_
   simp only [List.cons_append,List.nil_append] at hL1
   clear hL;have hL:=hL1;clear hL1
   refine p4 ?_
   refine wpList_nil (NoPanic.normal ?_)
   go_wp2_with (first | (refine aL4S2C9q ?_;clear hL;intro w1 hL) | (refine aX1A1q ?_;clear hL;intro b w1 hL))
   exact bodyPost_ret (results_loc2 rfl hL rfl rfl) rfl ⟨rfl,hL.bel⟩
  ·rw [if_neg hb]
   rw [show x.val % 2=0 from by omega] at b0
   haveI f3:FnC 283 #[.agg (rowL x.val),.int .i64 0] (.int .u64 0):=⟨b0⟩
   clear hfr c1 b0 hb e3 g0 e2
   go_enter Tryz.func276,Tryz.ntmps276
   go_wp2_with (first | (refine aL4S2C9q ?_;clear hL;intro w1 hL) | (refine aX1A1q ?_;clear hL;intro b w1 hL))
   refine wp_region_free [(0,false),(1,false),(2,false),(3,false),(4,true)] [] [] (by kernel_rfl) (by kernel_rfl) trivial hL ?_
   refine pF ?_
   repeat refine rN ?_
   refine seqO_nil ?_
   refine seqM_nil fun w1 hL1=>?_
   simp only [List.cons_append,List.nil_append] at hL1
   clear hL;have hL:=hL1;clear hL1
   refine p4 ?_
   refine wpList_nil (NoPanic.normal ?_)
   go_wp2_with (first | (refine aL4S2C9q ?_;clear hL;intro w1 hL) | (refine aX1A1q ?_;clear hL;intro b w1 hL))
   refine wp_region_free [(0,false),(1,false),(2,false),(3,false),(4,true)] [] [] (by kernel_rfl) (by kernel_rfl) trivial hL ?_
   refine pF ?_
   repeat refine rN ?_
   refine seqO_nil ?_
   refine seqM_nil fun w1 hL1=>?_
   simp only [List.cons_append,List.nil_append] at hL1
   clear hL;have hL:=hL1;clear hL1
   refine p4 ?_
   refine wpList_nil (NoPanic.normal ?_)
   go_wp2_with (first | (refine aL4S2C9q ?_;clear hL;intro w1 hL) | (refine aX1A1q ?_;clear hL;intro b w1 hL))
   exact bodyPost_ret (results_loc2 rfl hL rfl rfl) rfl ⟨rfl,hL.bel⟩
 ·rw [if_neg c1] at hfr
  rw [decide_eq_false c1] at e1
  by_cases c2:y*y=a
  ·rw [if_pos c2] at hfr
   rw [decide_eq_true c2] at e2
   have b0:=bit0 y
   have e3:=sqVal_some hfr
   rw [e3,hfr]
   unfold evenR
   by_cases hb:y.val % 2=1
   ·rw [if_pos hb]
    rw [hb] at b0
    haveI f3:FnC 283 #[.agg (rowL y.val),.int .i64 0] (.int .u64 1):=⟨b0⟩
    haveI f4:=g0 y
    clear hfr c1 b0 hb e3 g0
    go_enter Tryz.func276,Tryz.ntmps276
    go_wp2_with (first | (refine aL4S2C9q ?_;clear hL;intro w1 hL) | (refine aX1A1q ?_;clear hL;intro b w1 hL))
    refine wp_region_free [(0,false),(1,false),(2,false),(3,false),(4,true)] [] [] (by kernel_rfl) (by kernel_rfl) trivial hL ?_
    refine pF ?_
    repeat refine rN ?_
    refine seqO_nil ?_
    refine seqM_nil fun w1 hL1=>?_
    simp only [List.cons_append,List.nil_append] at hL1
    clear hL;have hL:=hL1;clear hL1
    refine p4 ?_
    refine wpList_nil (NoPanic.normal ?_)
    go_wp2_with (first | (refine aL4S2C9q ?_;clear hL;intro w1 hL) | (refine aX1A1q ?_;clear hL;intro b w1 hL))
    refine wp_region_free [(0,false),(1,false),(2,false),(3,false),(4,true)] [] [] (by kernel_rfl) (by kernel_rfl) trivial hL ?_
    refine pF ?_
    repeat refine rN ?_
    refine seqO_nil ?_
    refine seqM_nil fun w1 hL1=>?_
    simp only [List.cons_append,List.nil_append] at hL1
    clear hL;have hL:=hL1;clear hL1
    refine p4 ?_
    refine wpList_nil (NoPanic.normal ?_)
    go_wp2_with (first | (refine aL4S2C9q ?_;clear hL;intro w1 hL) | (refine aX1A1q ?_;clear hL;intro b w1 hL))
    exact bodyPost_ret (results_loc2 rfl hL rfl rfl) rfl ⟨rfl,hL.bel⟩
   ·rw [if_neg hb]
    rw [show y.val % 2=0 from by omega] at b0
    haveI f3:FnC 283 #[.agg (rowL y.val),.int .i64 0] (.int .u64 0):=⟨b0⟩
    clear hfr c1 b0 hb e3 g0
    go_enter Tryz.func276,Tryz.ntmps276
    go_wp2_with (first | (refine aL4S2C9q ?_;clear hL;intro w1 hL) | (refine aX1A1q ?_;clear hL;intro b w1 hL))
    refine wp_region_free [(0,false),(1,false),(2,false),(3,false),(4,true)] [] [] (by kernel_rfl) (by kernel_rfl) trivial hL ?_
    refine pF ?_
    repeat refine rN ?_
    refine seqO_nil ?_
    refine seqM_nil fun w1 hL1=>?_
    simp only [List.cons_append,List.nil_append] at hL1
    clear hL;have hL:=hL1;clear hL1
    refine p4 ?_
    refine wpList_nil (NoPanic.normal ?_)
    go_wp2_with (first | (refine aL4S2C9q ?_;clear hL;intro w1 hL) | (refine aX1A1q ?_;clear hL;intro b w1 hL))
    refine wp_region_free [(0,false),(1,false),(2,false),(3,false),(4,true)] [] [] (by kernel_rfl) (by kernel_rfl) trivial hL ?_
    refine pF ?_
    repeat refine rN ?_
    refine seqO_nil ?_
    refine seqM_nil fun w1 hL1=>?_
    simp only [List.cons_append,List.nil_append] at hL1
    clear hL;have hL:=hL1;clear hL1
    refine p4 ?_
    refine wpList_nil (NoPanic.normal ?_)
    go_wp2_with (first | (refine aL4S2C9q ?_;clear hL;intro w1 hL) | (refine aX1A1q ?_;clear hL;intro b w1 hL))
    exact bodyPost_ret (results_loc2 rfl hL rfl rfl) rfl ⟨rfl,hL.bel⟩
  ·rw [if_neg c2] at hfr
   rw [decide_eq_false c2] at e2
   have e3:=sqVal_none hfr
   rw [e3,hfr]
   have nz:=Lib.hid nil_row
   clear hfr c1 e3 g0
   go_enter Tryz.func276,Tryz.ntmps276
   go_wp2_with (first | (refine aL4S2C9q ?_;clear hL;intro w1 hL) | (refine aX1A1q ?_;clear hL;intro b w1 hL))
   refine wp_region_free [(0,false),(1,false),(2,false),(3,false),(4,true)] [] [] (by kernel_rfl) (by kernel_rfl) trivial hL ?_
   refine pF ?_
   repeat refine rN ?_
   refine seqO_nil ?_
   refine seqM_nil fun w1 hL1=>?_
   simp only [List.cons_append,List.nil_append] at hL1
   clear hL;have hL:=hL1;clear hL1
   refine p4 ?_
   refine wpList_nil (NoPanic.normal ?_)
   go_wp2_with (first | (refine aL4S2C9q ?_;clear hL;intro w1 hL) | (refine aX1A1q ?_;clear hL;intro b w1 hL))
   refine wp_region_free [(0,false),(1,false),(2,false),(3,false),(4,true)] [] [] (by kernel_rfl) (by kernel_rfl) trivial hL ?_
   refine pF ?_
   repeat refine rN ?_
   refine seqO_nil ?_
   refine seqM_nil fun w1 hL1=>?_
   simp only [List.cons_append,List.nil_append] at hL1
   clear hL;have hL:=hL1;clear hL1
   refine p4 ?_
   refine wpList_nil (NoPanic.normal ?_)
   go_wp2_with (first | (refine aL4S2C9q ?_;clear hL;intro w1 hL) | (refine aX1A1q ?_;clear hL;intro b w1 hL))
   rw [nz.out] at hL
   exact bodyPost_ret (results_loc2 rfl hL rfl rfl) rfl ⟨rfl,hL.bel⟩
instance iSquare1:Ent 276:=Ent.of Tryz.func276 (by kernel_rfl) rfl
end Go.Proofs.YtoifhhljfaoejaaGreatDoor
