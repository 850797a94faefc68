/-
  Lemmas of the law, part 12: the walks of the functions that it calls and the plain facts about them. No condition beyond those written.
-/
import Derived.Test.YtoifhhljfaoejaaGreatDoorPkAA
import Derived.Test.YtoifhhljfaoejaaGreatDoorPkAK
import Derived.Deep.OwnRows
import Derived.Laws.OwnMore
import Derived.Test.YtoifhhljfaoejaaGreatDoorPkAH
namespace Go.Proofs.YtoifhhljfaoejaaGreatDoor
open Go.RowKit
set_option linter.unusedVariables false
set_option linter.unusedSimpArgs false
def uv (x:Nat→Nat):Nat→Nat
 | 0=>0
 | n+1=>uv x n+x n*2 ^ (64*n)
theorem uv_lt {x:Nat→Nat} (hx:∀ i,x i<2 ^ 64):∀ n,uv x n<2 ^ (64*n)
 | 0=>by simp [uv]
 | n+1=>by
  have h:=uv_lt hx n
  have h2:=hx n
  show uv x n+x n*2 ^ (64*n)<_
  rw [Nat.mul_succ,Nat.pow_add]
  have:x n*2 ^ (64*n)≤(2 ^ 64 - 1)*2 ^ (64*n):=Nat.mul_le_mul_right _ (by omega)
  have:2 ^ (64*n)*2 ^ 64=(2 ^ 64 - 1)*2 ^ (64*n)+2 ^ (64*n):=by rw [Nat.mul_comm,← Nat.succ_mul]
  omega
theorem uv_bit {x:Nat→Nat} (hx:∀ i,x i<2 ^ 64):∀ n t,t<64*n→uv x n / 2 ^ t % 2=x (t / 64) / 2 ^ (t % 64) % 2
 | 0,t,h=>by omega
 | n+1,t,h=>by
  show (uv x n+x n*2 ^ (64*n)) / 2 ^ t % 2=_
  by_cases ht:t<64*n
  ·obtain ⟨d,hd⟩:∃ d,64*n=t+(d+1):=⟨64*n - t - 1,by omega⟩
   rw [← uv_bit hx n t ht,hd,Nat.pow_add,Nat.mul_left_comm,Nat.add_mul_div_left _ _ (Nat.two_pow_pos _),Nat.pow_succ,← Nat.mul_assoc,Nat.add_mul_mod_self_right]
  ·obtain ⟨r,rfl⟩:∃ r,t=64*n+r:=⟨t - 64*n,by omega⟩
   rw [Nat.pow_add,← Nat.div_div_eq_div_mul,Nat.mul_comm (x n),Nat.add_mul_div_left _ _ (Nat.two_pow_pos _),Nat.div_eq_of_lt (uv_lt hx n),Nat.zero_add,show (64*n+r) / 64=n from by omega,show (64*n+r) % 64=r from by omega]
theorem red_step (N L j:Nat) (hj:j<L):N / 2 ^ (L - (j+1)) % Qo=(2*(N / 2 ^ (L - j) % Qo)+N / 2 ^ (L - (j+1)) % 2) % Qo:=by
 have h:N / 2 ^ (L - j)=N / 2 ^ (L - (j+1)) / 2:=by rw [Nat.div_div_eq_div_mul,← Nat.pow_succ];congr 2;omega
 rw [h]
 generalize N / 2 ^ (L - (j+1))=a
 rw [Nat.add_mod,Nat.mul_mod,Nat.mod_mod,← Nat.mul_mod,← Nat.add_mod]
 congr 1
 omega
theorem red_val (m:Nat) (h:m<2*Qo):m % Qo=if m<Qo then m else m - Qo:=by
 by_cases hm:m<Qo
 ·rw [if_pos hm,Nat.mod_eq_of_lt hm]
 ·rw [if_neg hm,Nat.mod_eq_sub_mod (by omega),Nat.mod_eq_of_lt (by omega)]
theorem or_bit (m b:Nat) (hb:b<2) (h2:m % 2=0) (hm:m<18446744073709551616):bits .or .u64 (m:Int) (b:Int)=((m+b:Nat):Int):=by
 refine (bits_or_u64_nat m b hm (by omega)).trans ?_
 congr 1
 obtain ⟨k,rfl⟩:∃ k,m=2*k:=⟨m / 2,by omega⟩
 have:=Nat.shiftLeft_add_eq_or_of_lt (show b<2 ^ 1 from hb) k
 rw [Nat.shiftLeft_eq,Nat.pow_one,Nat.mul_comm] at this
 exact this.symm
theorem and_bit (x r:Nat) (hx:x<2 ^ 64):bits .and .u64 ((x:Int) / 2 ^ r) 1=((x / 2 ^ r % 2:Nat):Int):=by
 have e:((x:Int) / 2 ^ r)=((x / 2 ^ r:Nat):Int):=by norm_cast
 rw [e]
 refine (bits_and_u64_nat (x / 2 ^ r) 1 (Nat.lt_of_le_of_lt (Nat.div_le_self _ _) hx) (by omega)).trans ?_
 rw [Nat.and_one_is_mod]
theorem low_bit (R b:Nat) (hb:b<2):row 4 (upd (lv (R+R)) 0 (.int .u64 (bits .or .u64 (lw (R+R) 0:Nat) (b:Int))))=rowL (R+R+b):=row_congr fun i hi=>by
 unfold upd
 by_cases e:i=0
 ·subst e
  rw [if_pos rfl,or_bit _ b hb (by unfold lw;omega) (lw_lt _ _)]
  unfold lv lw
  simp only [Nat.mul_zero,Nat.pow_zero,Nat.div_one]
  congr 2
  omega
 ·rw [if_neg e]
  obtain ⟨d,hd⟩:∃ d,64*i=1+d:=⟨64*i - 1,by omega⟩
  unfold lv lw
  rw [hd,Nat.pow_add,← Nat.div_div_eq_div_mul,← Nat.div_div_eq_div_mul,show (R+R) / 2 ^ 1=(R+R+b) / 2 ^ 1 from by omega]
class Was (w0:World) (b k:Nat) (v:outParam Value):Prop where
 cell:w0.cell? ⟨b,k,none⟩=some v
 lt:b<w0.heap.size
theorem Loc.was {w0 w:World} {M:Mem} (h:Loc w0 w M) {b k:Nat} {v:Value} (hc:Was w0 b k v):w.cell? ⟨b,k,none⟩=some v:=(h.bel.cell hc.lt).trans hc.cell
section
variable {ops:Array Oper} {rest:List Oper} {l:List (Oper×Bool)} {R:Act→Prop} {o:Oper} {a:Act} {w0 w:World} {M M':Mem} {Q:Exit→Act→World→Prop}
theorem sW (hg:o.guard=none) {t:TypeId} {x:Operand} (ho:o.op= .load t x) {b k:Nat} (hx:a.eval x= .pointer (some ⟨b,k,none⟩)) {v:Value} [ht:ScTy t] [hc:Was w0 b k v]
 (h:seqO Tryz.prog ops (fun w=>Loc w0 w M) l (a.put o.dst v) R):seqO Tryz.prog ops (fun w=>Loc w0 w M) ((o,false) :: l) a R :=
 seqO_keep hg (fun w hS=>by
  unfold execOp
  have:=run_load_sc (t:=t) (w:=w) (b:=b) (k:=k) (v:=v) (hS.was hc)
  simp only [ho,hx,Instr.loadAt,Instr.sureAddr,Sem.run_bind,Sem.run_pure,Result.andThen_ok,this]) h
theorem lW (hL:Loc w0 w M) (hg:o.guard=none) {t:TypeId} {x:Operand} (ho:o.op= .load t x) {b k:Nat} (hx:a.eval x= .pointer (some ⟨b,k,none⟩)) {v:Value} [ht:ScTy t] [hc:Was w0 b k v]
 (h:∀ w',Loc w0 w' M→wpList Tryz.prog ops Q rest (a.put o.dst v) w'):wpList Tryz.prog ops Q (o :: rest) a w :=
 wpList_plain hg fun K hK=>by
  unfold Oper.wp execOp
  have:=run_load_sc (t:=t) (w:=w) (b:=b) (k:=k) (v:=v) (hL.was hc)
  simp only [ho,hx,Instr.loadAt,Instr.sureAddr,Sem.run_bind,Sem.run_pure,Result.andThen_ok,this]
  exact hK _ _ (h w hL)
end
theorem red_down (N s:Nat):N / 2 ^ s % Qo=(N / 2 ^ (s+1) % Qo+N / 2 ^ (s+1) % Qo+N / 2 ^ s % 2) % Qo:=by
 have:=red_step N (s+1) 0 (by omega)
 rw [show s+1 - (0+1)=s from by omega,Nat.sub_zero,Nat.two_mul] at this
 exact this
theorem Q_pos:0<Qo:=by decide +kernel
theorem Q_255:Qo<2 ^ 255:=by decide +kernel
set_option maxRecDepth 100000 in
set_option maxHeartbeats 1000000 in
theorem reduce_any (x:Nat→Nat) (n c B:Nat) (w:World) (hx:∀ i,x i<2 ^ 64) (hn:n≤8) (hn0:0<n) (hw:∀ i,i<n→Was w B i (.int .u64 (x i:Nat))) :
 Calls Tryz.prog 305 #[.slice (some ⟨B,0,none⟩) n c] w fun e w'=>e= .returned (.agg (rowL (uv x n % Qo)))∧Below w.heap.size w w':=by
 have hL:=Loc.nil w
 have z0:=Lib.hid (show rowL 0=rowL (uv x n / 2 ^ (64*n) % Qo) from by rw [Nat.div_eq_of_lt (uv_lt hx n)];rfl)
 have hb:=fun t (h:t<64*n)=>uv_bit hx n t h
 generalize uv x n=N at *
 have hn1:(n:Int)≤8:=by omega
 have HW:=Lib.hid hw
 have HX:=Lib.hid hx
 clear hw hx
 go_enter Tryz.func305,Tryz.ntmps305
 go_wp2_with (first | ((with_reducible refine gS 2 ?_);refine aBp ?_;clear hL;intro b2 w1 hL) | ((with_reducible refine gS 3 ?_);refine aBp ?_;clear hL;intro b3 w1 hL) | (refine aL4S2C9q ?_;clear hL;intro w1 hL) | (refine aX1A1q ?_;clear hL;intro b w1 hL))
 go_loopw [4] (fun kk wr=>∃ i:Nat,i≤64*n∧kk= .int .i64 ((i:Int) - 1)∧Loc w wr [(b3,rowL (N / 2 ^ i % Qo),311),(b2,rowL 0,311)]) (fun kk _=>(intOf kk+1).toNat)
 case atStart=>exact ⟨64*n,Nat.le_refl _,by go_num,by rw [← z0.out];exact hL⟩
 case round =>
  clear hL
  obtain ⟨i,hi,rfl,hL⟩:=hrel
  by_cases hlt:0<i
  ·obtain ⟨s,rfl⟩:∃ s,i=s+1:=⟨i - 1,by omega⟩
   rw [show ((s+1:Nat):Int) - 1=(s:Int) from by omega]
   have hd:=red_down N s
   rw [hb s (by omega)] at hd
   have hR:N / 2 ^ (s+1) % Qo<Qo:=Nat.mod_lt _ Q_pos
   have hg:=and_bit (x (s / 64)) (s % 64) (HX.out _)
   have hb2:x (s / 64) / 2 ^ (s % 64) % 2<2:=Nat.mod_lt _ (by omega)
   haveI g0:Was w B (s / 64) (.int .u64 (x (s / 64):Nat)):=HW.out _ (by omega)
   generalize N / 2 ^ (s+1) % Qo=R at *
   have gl:=low_bit R _ hb2
   rw [← hg] at gl
   haveI g1:Cell (rowL (R+R)) 0 (.int .u64 (lw (R+R) 0:Nat)):=row_cell _ (by omega)
   haveI g2:Put (rowL (R+R)) 0 (.int .u64 (bits .or .u64 (lw (R+R) 0:Nat) (bits .and .u64 ((x (s / 64):Int) / 2 ^ (s % 64)) 1))) (rowL (R+R+x (s / 64) / 2 ^ (s % 64) % 2)):=row_put (by omega) gl
   rw [red_val (R+R+x (s / 64) / 2 ^ (s % 64) % 2) (by omega)] at hd
   have hm:R+R+x (s / 64) / 2 ^ (s % 64) % 2<2 ^ 256:=by have:=Q_255;omega
   have hs:=sub_any _ Qo hm Q_256
   have hbw:bw (R+R+x (s / 64) / 2 ^ (s % 64) % 2) Qo 4=if R+R+x (s / 64) / 2 ^ (s % 64) % 2<Qo then 1 else 0:=by
    unfold bw
    rw [show 64*4=256 from rfl,Nat.mod_eq_of_lt hm,Nat.mod_eq_of_lt Q_256]
   generalize R+R+x (s / 64) / 2 ^ (s % 64) % 2=m at *
   rw [← rowL_mod (m+2 ^ 256 - Qo)] at hs
   rw [hbw] at hs
   generalize x (s / 64)=X at *
   have e1:(s:Int) / 64=((s / 64:Nat):Int):=by omega
   have e2:(s:Int) % 64=((s % 64:Nat):Int):=by omega
   have hq1:((s / 64:Nat):Int)<(n:Int):=by omega
   have hr1:((s % 64:Nat):Int)<64:=by omega
   have e3:(s:Int).tdiv 64=((s / 64:Nat):Int):=by rw [Int.tdiv_eq_ediv_of_nonneg (by omega)];omega
   have e4:(s:Int).tmod 64=((s % 64:Nat):Int):=by rw [Int.tmod_eq_emod_of_nonneg (by omega)];omega
   have hs0:(0:Int)≤(s:Int):=by omega
   have hs1:(s:Int)<512:=by omega
   have hq2:s / 64<n:=by omega
   have hr2:s % 64<64:=by omega
   have hmm:=Lib.hid hm
   clear hb hg hb2 gl hR hbw hm
   generalize s / 64=q at *
   generalize s % 64=r at *
   have hq0:(0:Int)≤(q:Int):=by omega
   have hr0:(0:Int)≤(r:Int):=by omega
   have wq:IntKind.i64.wrap (q:Int)=(q:Int):=IntWalk.i64_in _ (by omega)
   have wr':IntKind.i64.wrap (r:Int)=(r:Int):=IntWalk.i64_in _ (by omega)
   by_cases hc:m<Qo
   ·rw [if_pos hc] at hs hd
    haveI fs:FnC 296 #[.agg (rowL m),.agg (rowL Qo)] (.tuple #[.agg (rowL ((m+2 ^ 256 - Qo) % 2 ^ 256)),.int .u64 1]):=⟨hs⟩
    have HD:=Lib.hid hd
    clear hs hd hc
    generalize (m+2 ^ 256 - Qo) % 2 ^ 256=d at *
    go_wp2_with (first | (refine aL4S2C9q ?_;clear hL;intro w1 hL) | (refine aX1A1q ?_;clear hL;intro b w1 hL))
    refine wp_region_free [(0,true),(1,false),(2,true),(3,true),(4,true),(5,true),(6,false),(7,true),(8,true),(9,true),(10,true),(11,true),(12,true)] [] [13] (by kernel_rfl) (by kernel_rfl) trivial hL ?_
    refine pF ?_
    repeat (first | ((with_reducible show seqO _ _ _ (_ :: _) _ _);refine sW rfl rfl rfl ?_;refine p4 ?_) | refine rS ?_)
    refine seqO_nil ?_
    refine seqM_nil fun w1 hL1=>?_
    simp only [List.cons_append,List.nil_append] at hL1
    clear hL;have hL:=hL1;clear hL1
    refine p4 ?_
    refine pG ?_
    repeat (refine rW ?_;clear hL;intro w1 hL)
    refine wpList_nil (NoPanic.normal ?_)
    go_wp2_with (first | (refine aL4S2C9q ?_;clear hL;intro w1 hL) | (refine aX1A1q ?_;clear hL;intro b w1 hL))
    refine wp_region_free [(0,false),(1,false),(2,false),(3,true),(4,true),(5,true)] [(6,_,311)] [7,8] (by kernel_rfl) (by kernel_rfl) ⟨⟨_,rfl,rfl,rfl⟩,inferInstance,trivial⟩ hL ?_
    refine pF ?_
    repeat refine rS ?_
    refine seqO_nil ?_
    refine seqM_cons fun b=>?_
    refine seqM_nil fun w1 hL1=>?_
    simp only [List.cons_append,List.nil_append] at hL1
    clear hL;have hL:=hL1;clear hL1
    refine p4 ?_
    refine pG ?_
    repeat (refine rW ?_;clear hL;intro w1 hL)
    refine wpList_nil (NoPanic.normal ?_)
    go_wp2_with fail
    go_roundw
    case rel=>exact ⟨s,by omega,rfl,by rw [HD.out];exact hL.pop⟩
    case measure=>simp [intOf]
   ·rw [if_neg hc] at hs hd
    have he:(m+2 ^ 256 - Qo) % 2 ^ 256=m - Qo:=by
     have:=hmm.out
     have:=Q_256
     rw [show m+2 ^ 256 - Qo=m - Qo+2 ^ 256 from by omega,Nat.add_mod_right,Nat.mod_eq_of_lt (by omega)]
    rw [he] at hs
    haveI fs:FnC 296 #[.agg (rowL m),.agg (rowL Qo)] (.tuple #[.agg (rowL (m - Qo)),.int .u64 0]):=⟨hs⟩
    have HD:=Lib.hid hd
    clear hs hd hc he
    generalize m - Qo=d at *
    go_wp2_with (first | (refine aL4S2C9q ?_;clear hL;intro w1 hL) | (refine aX1A1q ?_;clear hL;intro b w1 hL))
    refine wp_region_free [(0,true),(1,false),(2,true),(3,true),(4,true),(5,true),(6,false),(7,true),(8,true),(9,true),(10,true),(11,true),(12,true)] [] [13] (by kernel_rfl) (by kernel_rfl) trivial hL ?_
    refine pF ?_
    repeat (first | ((with_reducible show seqO _ _ _ (_ :: _) _ _);refine sW rfl rfl rfl ?_;refine p4 ?_) | refine rS ?_)
    refine seqO_nil ?_
    refine seqM_nil fun w1 hL1=>?_
    simp only [List.cons_append,List.nil_append] at hL1
    clear hL;have hL:=hL1;clear hL1
    refine p4 ?_
    refine pG ?_
    repeat (refine rW ?_;clear hL;intro w1 hL)
    refine wpList_nil (NoPanic.normal ?_)
    go_wp2_with (first | (refine aL4S2C9q ?_;clear hL;intro w1 hL) | (refine aX1A1q ?_;clear hL;intro b w1 hL))
    refine wp_region_free [(0,false),(1,false),(2,false),(3,true),(4,true),(5,true)] [(6,_,311)] [7,8] (by kernel_rfl) (by kernel_rfl) ⟨⟨_,rfl,rfl,rfl⟩,inferInstance,trivial⟩ hL ?_
    refine pF ?_
    repeat refine rS ?_
    refine seqO_nil ?_
    refine seqM_cons fun b=>?_
    refine seqM_nil fun w1 hL1=>?_
    simp only [List.cons_append,List.nil_append] at hL1
    clear hL;have hL:=hL1;clear hL1
    refine p4 ?_
    refine pG ?_
    repeat (refine rW ?_;clear hL;intro w1 hL)
    refine wpList_nil (NoPanic.normal ?_)
    go_wp2_with (first | (refine aL4S2C9q ?_;clear hL;intro w1 hL) | (refine aX1A1q ?_;clear hL;intro b w1 hL))
    go_roundw
    case rel=>exact ⟨s,by omega,rfl,by rw [HD.out];exact hL.pop⟩
    case measure=>simp [intOf]
  ·obtain rfl:i=0:=by omega
   rw [Nat.pow_zero,Nat.div_one] at hL
   go_wp2_with (first | (refine aL4S2C9q ?_;clear hL;intro w1 hL) | (refine aX1A1q ?_;clear hL;intro b w1 hL))
   exact bodyPost_ret (results_loc rfl hL rfl) rfl ⟨rfl,hL.bel⟩
end Go.Proofs.YtoifhhljfaoejaaGreatDoor
namespace Go.Proofs.YtoifhhljfaoejaaGreatDoor
open Go.RowKit Go.Shelf
set_option linter.unusedVariables false
set_option linter.unusedSectionVars false
def VRow (w:World) (v:Value) (ys:List Value):Prop :=
 (∀ u∈ys,u.oneCell'=true)∧∃ a c,v= .slice a ys.length c∧(a=none→c=0)∧(0<ys.length→∃ b off,a=some ⟨b,off,none⟩∧b<w.heap.size∧∀ (i:Nat) (h:i<ys.length),w.cell? ⟨b,off+i,none⟩=some ys[i])
theorem encB_length (l:List (BitVec 8)):(encB l).length=l.length:=List.length_map _
theorem encB_append (l m:List (BitVec 8)):encB (l ++ m)=encB l ++ encB m:=List.map_append
theorem encB_one' (l:List (BitVec 8)):∀ u∈encB l,u.oneCell'=true:=fun u hu=>by
 obtain ⟨y,_,rfl⟩:=List.mem_map.1 hu
 rfl
theorem BRow.vrow {w:World} {v:Value} {l:List (BitVec 8)} (h:BRow w v l):VRow w v (encB l):=by
 obtain ⟨a,c,rfl,hn,hp⟩:=h
 refine ⟨encB_one' l,a,c,by rw [encB_length],hn,fun h0=>?_⟩
 rw [encB_length] at h0
 obtain ⟨b,off,e,hb,hc⟩:=hp h0
 exact ⟨b,off,e,hb,fun i hi=>(hc i (by rwa [encB_length] at hi)).trans (by simp [encB])⟩
theorem VRow.brow {w:World} {v:Value} {l:List (BitVec 8)} (h:VRow w v (encB l)):BRow w v l:=by
 obtain ⟨_,a,c,rfl,hn,hp⟩:=h
 refine ⟨a,c,by rw [encB_length],hn,fun h0=>?_⟩
 obtain ⟨b,off,e,hb,hc⟩:=hp (by rwa [encB_length])
 exact ⟨b,off,e,hb,fun i hi=>(hc i (by rwa [encB_length])).trans (by simp [encB])⟩
theorem VRow.below {w w':World} {v:Value} {ys:List Value} (h:VRow w v ys) (hb:Below w.heap.size w w'):VRow w' v ys:=by
 obtain ⟨h1,a,c,rfl,hn,h⟩:=h
 refine ⟨h1,a,c,rfl,hn,fun h0=>?_⟩
 obtain ⟨b,off,rfl,h1,h2⟩:=h h0
 exact ⟨b,off,rfl,Nat.lt_of_lt_of_le h1 hb.size,fun i hi=>(hb.cell (p:=⟨b,off+i,none⟩) h1).trans (h2 i hi)⟩
class Seg (r:Array Value) (off n:Nat) (ys:outParam (List Value)):Prop where
 len:ys.length=n
 one:∀ u∈ys,u.oneCell'=true
 seg:∀ (i:Nat) (h:i<ys.length),r[off+i]?=some ys[i]
class Arg (w0:World) (v:Value) (ys:outParam (List Value)):Prop where
 arg:VRow w0 v ys
class See (w0:World) (M:Mem) (v:Value) (ys:outParam (List Value)):Prop where
 see:∀ w,Loc w0 w M→VRow w v ys
instance seeNil (w0:World) (M:Mem):See w0 M (.slice none 0 0) []:=⟨fun w _=>⟨fun u hu=>(List.not_mem_nil hu).elim,none,0,rfl,fun _=>rfl,fun h=>absurd h (by simp)⟩⟩
instance seeArg (w0:World) (M:Mem) (v:Value) (ys:List Value) [h:Arg w0 v ys]:See w0 M v ys:=⟨fun w hL=>h.arg.below hL.bel⟩
instance seeAt (w0:World) (M:Mem) (g off n c:Nat) (cur:Array Value) (e:TypeId) (ys:List Value) [hm:At M g cur e] [hs:Seg cur off n ys]:See w0 M (.slice (some ⟨g,off,none⟩) n c) ys :=
 ⟨fun w hL=>⟨hs.one,some ⟨g,off,none⟩,c,by rw [hs.len],fun h=>(by cases h),fun _=>⟨g,off,rfl,hL.lt hm.mem,fun i hi=>by
  rw [cell_of_row w g _ _ _ _ (hL.get hm.mem)];exact hs.seg i hi⟩⟩⟩
theorem See.bytes {w0 w:World} {M:Mem} {v:Value} {l:List (BitVec 8)} (hL:Loc w0 w M) [h:See w0 M v (encB l)]:BRow w v l:=(h.see w hL).brow
def listB (n:Nat) (f:Nat→BitVec 8):List (BitVec 8):=(List.range n).map f
theorem listB_length (n:Nat) (f:Nat→BitVec 8):(listB n f).length=n:=by simp [listB]
theorem segB {n:Nat} (f:Nat→BitVec 8) (off m:Nat) (h:off+m≤n):Seg (rowB n f) off m (encB (listB m fun i=>f (off+i))) where
 len:=by rw [encB_length,listB_length]
 one:=encB_one' _
 seg:=fun i hi=>by
  rw [encB_length,listB_length] at hi
  rw [show (encB (listB m fun i=>f (off+i)))[i]=Value.int .u8 (B8 (f (off+i))) from by simp [encB,listB]]
  exact row_get (fun i=>Value.int .u8 (B8 (f i))) (show off+i<n by omega)
instance segB0 (n:Nat) (f:Nat→BitVec 8):Seg (rowB n f) 0 n (encB (listB n f)):=by
 have:=segB (n:=n) f 0 n (by omega)
 simpa using this
class OwnR (cur:Array Value) (n:Nat) (cap:outParam Nat) (xs:outParam (List Value)):Prop where
 len:xs.length=n
 one:∀ u∈xs,u.oneCell'=true
 size:cur.size=cap
 le:n≤cap
 max:cap≤maxLen
 take:cur.toList.take n=xs
theorem OwnR.cell {cur:Array Value} {n cap:Nat} {xs:List Value} (h:OwnR cur n cap xs) {i:Nat} (hi:i<xs.length):cur[i]?=some xs[i]:=by
 have h1:cur.toList[i]?=(cur.toList.take n)[i]?:=by rw [List.getElem?_take_of_lt (by rw [← h.len];exact hi)]
 rw [← Array.getElem?_toList,h1,h.take,List.getElem?_eq_getElem hi]
instance segOwn (cur:Array Value) (n cap:Nat) (xs:List Value) [h:OwnR cur n cap xs]:Seg cur 0 n xs :=
 ⟨h.len,h.one,fun i hi=>by rw [Nat.zero_add];exact h.cell hi⟩
theorem OwnR.seg {cur:Array Value} {n cap:Nat} {xs:List Value} (h:OwnR cur n cap xs) (off m:Nat) (hm:off+m≤n):Seg cur off m ((xs.drop off).take m) where
 len:=by rw [List.length_take,List.length_drop,h.len];omega
 one:=fun u hu=>h.one u (List.mem_of_mem_drop (List.mem_of_mem_take hu))
 seg:=fun i hi=>by
  rw [List.length_take,List.length_drop,h.len] at hi
  rw [h.cell (i:=off+i) (by rw [h.len];omega)]
  simp
theorem OwnR.cellB {cur:Array Value} {n cap:Nat} {l:List (BitVec 8)} (h:OwnR cur n cap (encB l)) {i:Nat} (hi:i<l.length):Cell cur i (.int .u8 (B8 l[i])) :=
 ⟨by rw [h.cell (i:=i) (by rwa [encB_length])];simp [encB]⟩
class Elt (t:TypeId) (e:outParam TypeId):Prop where
 und:Tryz.prog.underlying t=some (.slice e)
 info:∃ i z,Tryz.prog.info? e=some i∧i.zero=some z∧i.size=1∧i.bytes≤1000∧z.cells.size=1
theorem elt_of {t e:TypeId} {z:Value} {k:Nat} (hu:Tryz.prog.underlying t=some (.slice e)) (hi:(Tryz.prog.info? e).map (fun i=>(i.zero,i.size,i.bytes))=some (some z,1,k)) (hk:k≤1000) (hz:z.cells.size=1):Elt t e:=by
 obtain ⟨i,h1,h2,h3,h4⟩:=info_parts hi
 exact ⟨hu,i,z,h1,h2,h3,by rw [h4];exact hk,hz⟩
instance eltB:Elt 29 5:=elt_of Tryz.underlying29 info_u8 (by omega) rfl
class Reps (M:Mem) (g:Nat) (F:outParam (Nat→Array Value→Mem)):Prop where
 reps:∃ L R cur e,M=L ++ (g,cur,e) :: R∧∀ g' c',F g' c'=L ++ (g',c',e) :: R
instance iSl1 (M:Mem) (g:Nat) (cur:Array Value) (e:TypeId):Reps ((g,cur,e) :: M) g (fun g' c'=>(g',c',e) :: M):=⟨[],M,cur,e,rfl,fun _ _=>rfl⟩
instance iSl2 (x:Nat×Array Value×TypeId) (M:Mem) (g:Nat) (F:Nat→Array Value→Mem) [h:Reps M g F]:Reps (x :: M) g (fun g' c'=>x :: F g' c'):=by
 obtain ⟨L,R,cur,e,h1,h2⟩:=h.reps
 exact ⟨x :: L,R,cur,e,by rw [h1];rfl,fun g' c'=>by rw [h2];rfl⟩
theorem Loc.reps {w0 w w':World} {M:Mem} (h:Loc w0 w M) {g:Nat} {cur:Array Value} {e:TypeId} (hm:(g,cur,e)∈M) {F:Nat→Array Value→Mem} (hf:Reps M g F)
 (hg:w.grownBy w' (some g)) {g':Nat} {cur':Array Value} (hc:w'.heap[g']?=some (.cells cur' e (0,0))) (hn:g'=g∨w.heap.size≤g'):Loc w0 w' (F g' cur'):=by
 obtain ⟨L,R,cur2,e2,rfl,hF⟩:=hf.reps
 have hnd:=h.nd
 have hm2:(g,cur2,e2)∈L ++ (g,cur2,e2) :: R:=by simp
 have ee:e2=e:=by
  have a:=h.get hm
  rw [h.get hm2] at a
  cases a;rfl
 subst ee
 have hge:=h.ge hm2
 have hsz:=h.bel.size
 rw [hF]
 simp only [List.map_append,List.map_cons,List.pairwise_append,List.pairwise_cons,List.mem_cons,List.mem_map] at hnd
 obtain ⟨p1,⟨p2,p3⟩,p4⟩:=hnd
 have far:∀ b r t,((b,r,t)∈L∨(b,r,t)∈R)→b≠g∧b≠g'∧w0.heap.size≤b∧w'.heap[b]?=some (.cells r t (0,0)):=by
  intro b r t hb
  have hbm:(b,r,t)∈L ++ (g,cur2,e2) :: R:=by rcases hb with hb | hb <;> simp [hb]
  have n1:b≠g:=by
   rcases hb with hb | hb
   ·exact p4 b ⟨_,hb,rfl⟩ g (.inl rfl)
   ·exact fun e=>p2 b ⟨_,hb,rfl⟩ e.symm
  have hlt:=h.lt hbm
  refine ⟨n1,by omega,h.ge hbm,?_⟩
  rw [hg.block b hlt (fun e=>n1 (by injection e))]
  exact h.get hbm
 refine ⟨h.bel.grown hg hsz (fun k hk=>by cases hk;exact hge),fun b r t hb=>?_,?_⟩
 ·rw [List.mem_append,List.mem_cons] at hb
  rcases hb with hb | hb | hb
  ·exact (far b r t (.inl hb)).2.2
  ·cases hb;exact ⟨by omega,hc⟩
  ·exact (far b r t (.inr hb)).2.2
 ·simp only [List.map_append,List.map_cons,List.pairwise_append,List.pairwise_cons,List.mem_cons,List.mem_map]
  refine ⟨p1,⟨?_,p3⟩,?_⟩
  ·rintro b ⟨⟨b,r,t⟩,hb,rfl⟩
   exact (far b r t (.inr hb)).2.1.symm
  ·rintro b ⟨⟨b,r,t⟩,hb,rfl⟩ c hc'
   rcases hc' with rfl | ⟨x,hx,rfl⟩
   ·exact (far b r t (.inl hb)).2.1
   ·exact p4 b ⟨_,hb,rfl⟩ x.1 (.inr ⟨x,hx,rfl⟩)
theorem Loc.fresh {w0 w w':World} {M:Mem} (h:Loc w0 w M) (hb:Below w.heap.size w w') {g:Nat} {cur:Array Value} {e:TypeId} (hg:w.heap.size≤g) (hc:w'.heap[g]?=some (.cells cur e (0,0))):Loc w0 w' ((g,cur,e) :: M):=by
 have h1:=h.keep hb
 have hsz:=h.bel.size
 refine ⟨h1.bel,fun b r t hm=>?_,?_⟩
 ·cases hm with
  | head=>exact ⟨by omega,hc⟩
  | tail _ hm=>exact h1.ok b r t hm
 ·refine List.Pairwise.cons (fun b hb=>?_) h1.nd
  obtain ⟨⟨b',r',t'⟩,hm,rfl⟩:=List.mem_map.1 hb
  have:=h.lt hm
  simp only
  omega
section
variable {w:World}
theorem run_append_two {t ty e:TypeId} [he:Elt t e] {g n cap:Nat} {cur:Array Value} {xs:List Value} (hr:OwnR cur n cap xs) (hg:w.heap[g]?=some (.cells cur e (0,0)))
 {v:Value} {ys:List Value} (hy:VRow w v ys) (hsz:n+ys.length≤100000000000) :
 ∃ g' cap' cur' w',(Builtin.append_ #[t,t] ty #[.slice (some ⟨g,0,none⟩) n cap,v]).run Tryz.prog w= .ok (.slice (some ⟨g',0,none⟩) (n+ys.length) cap') w' ∧
  OwnR cur' (n+ys.length) cap' (xs ++ ys)∧w.grownBy w' (some g)∧w'.heap[g']?=some (.cells cur' e (0,0))∧(g'=g∨w.heap.size≤g'):=by
 obtain ⟨i,z,hi,hz,hs1,hb,hzs⟩:=he.info
 have hone:∀ u∈xs ++ ys,u.oneCell'=true:=fun u hu=>by
  rcases List.mem_append.1 hu with h | h
  ·exact hr.one u h
  ·exact hy.1 u h
 have hown:w.ownsRow 0 e 1 (.slice (some ⟨g,0,none⟩) n cap) n xs:=⟨by rw [hr.len];omega,.inr ⟨g,cap,cur,rfl,Nat.zero_le _,hg,hr.le,hr.max,by rw [hr.size];omega,by rw [Nat.mul_one];exact hr.take⟩⟩
 obtain ⟨hy1,a,c,rfl,hn,hp⟩:=hy
 cases a with
 | none =>
  have hl:ys=[]:=by
   rcases Nat.eq_zero_or_pos ys.length with h0 | h0
   ·exact List.eq_nil_of_length_eq_zero h0
   ·obtain ⟨_,_,hc,_⟩:=hp h0;cases hc
  subst hl
  rw [hn rfl]
  refine ⟨g,cap,cur,w,run_append_owned_none (P:=Tryz.prog) (w:=w) 0 t ty e i 1 he.und hi _ _ _ hown,?_,⟨rfl,rfl,rfl,Nat.le_refl _,fun _ _ _=>rfl⟩,hg,.inl rfl⟩
  rw [List.append_nil]
  exact hr
 | some ad =>
  have hcells:∀ j u,ys[j]?=some u→w.cell? (ad.add j)=some u:=fun j u hj=>by
   have hjl:j<ys.length:=by
    rcases Nat.lt_or_ge j ys.length with h | h
    ·exact h
    ·rw [List.getElem?_eq_none h] at hj;cases hj
   obtain ⟨b,off,hc,_,hcell⟩:=hp (by omega)
   cases hc
   rw [Addr.add_mid,hcell j hjl,← hj,List.getElem?_eq_getElem hjl]
  by_cases hroom:n+ys.length≤cap
  ·have hfit:n*i.size+ys.length≤cur.size:=by rw [hs1,hr.size];omega
   have hrun:=run_append_room (P:=Tryz.prog) w t ty e i he.und hi g n cap cur hg ad ys.length c ys (by rw [hs1,Nat.mul_one]) hcells hy1 hroom hfit
   rw [hs1,Nat.mul_one] at hrun
   refine ⟨g,cap,_,_,hrun,⟨by rw [List.length_append,hr.len],hone,?_,hroom,hr.max,?_⟩,⟨rfl,rfl,rfl,by simp,fun k _ hk=>setRow_other w g k _ (fun e=>hk (by rw [e]))⟩,setRow_heap w g cur _ e _ hg,.inl rfl⟩
   ·simp only [List.size_toArray,List.length_append,List.length_take,List.length_drop,Array.length_toList,hr.size]
    have:=hr.le
    omega
   ·rw [hr.take]
    have:n+ys.length=(xs ++ ys).length:=by rw [List.length_append,hr.len]
    rw [this]
    exact List.take_left
  ·have hrun:=run_append_grow (P:=Tryz.prog) w t ty e i z he.und hi hz ⟨g,0,none⟩ n cap xs (by rw [hs1,hr.len,Nat.mul_one]) (hown.cells (g:=g) rfl) ad ys.length c ys (by rw [hs1,Nat.mul_one]) hcells (by omega) (by omega)
    (growslice_fits (by omega) (Nat.le_trans (Nat.mul_le_mul_left _ hb) (by omega)))
   have hge:=grownCap_ge w (n+ys.length) cap e
   refine ⟨_,_,_,_,hrun,⟨by rw [List.length_append,hr.len],hone,?_,hge,grownCap_le_maxLen w _ _ e (by unfold maxLen;omega),?_⟩,⟨rfl,rfl,rfl,by simp,fun k hk _=>heap_alloc_old w.drew _ hk⟩,heap_alloc_new w.drew _,.inr (Nat.le_refl _)⟩
   ·simp only [Array.size_append,List.size_toArray,size_zeroCells,hzs,hr.len]
    omega
   ·have:n+ys.length=(xs ++ ys).length:=by rw [List.length_append,hr.len]
    rw [this]
    simp only [Array.toList_append,List.append_assoc]
    rw [← List.append_assoc]
    exact List.take_left
theorem run_append_new {t ty e:TypeId} [he:Elt t e] {v:Value} {ys:List Value} (hy:VRow w v ys) (h0:0<ys.length) (hsz:ys.length≤100000000000) :
 ∃ g' cap' cur' w',(Builtin.append_ #[t,t] ty #[.slice none 0 0,v]).run Tryz.prog w= .ok (.slice (some ⟨g',0,none⟩) ys.length cap') w' ∧
  OwnR cur' ys.length cap' ys∧Below w.heap.size w w'∧w'.heap[g']?=some (.cells cur' e (0,0))∧w.heap.size≤g':=by
 obtain ⟨i,z,hi,hz,hs1,hb,hzs⟩:=he.info
 obtain ⟨hy1,a,c,rfl,hn,hp⟩:=hy
 obtain ⟨b,off,rfl,hbl,hcell⟩:=hp h0
 have hrun:=run_append_nil (P:=Tryz.prog) w t ty e i z he.und hi hz ⟨b,off,none⟩ ys.length c ys (by rw [hs1,Nat.mul_one]) (fun j u hj=>by
  have hjl:j<ys.length:=by
   rcases Nat.lt_or_ge j ys.length with h | h
   ·exact h
   ·rw [List.getElem?_eq_none h] at hj;cases hj
  rw [Addr.add_mid,hcell j hjl,← hj,List.getElem?_eq_getElem hjl]) h0 (by omega) (Nat.le_trans (Nat.mul_le_mul_left _ hb) (by omega))
 have hge:=grownCap_ge w ys.length 0 e
 refine ⟨_,_,_,_,hrun,⟨rfl,hy1,?_,hge,grownCap_le_maxLen w _ _ e (by unfold maxLen;omega),?_⟩,⟨rfl,rfl,rfl,by simp,fun k hk=>heap_alloc_old w.drew _ hk⟩,heap_alloc_new w.drew _,Nat.le_refl _⟩
 ·simp only [Array.size_append,List.size_toArray,size_zeroCells,hzs]
  omega
 ·simp only [Array.toList_append]
  exact List.take_left
end
section
variable {ops:Array Oper} {rest:List Oper} {o:Oper} {a:Act} {w0 w:World} {M M':Mem} {Q:Exit→Act→World→Prop}
theorem See.len {w0 w:World} {M:Mem} {p:Option Addr} {k cc:Nat} {ys:List Value} (hL:Loc w0 w M) (hy:See w0 M (.slice p k cc) ys):k=ys.length:=by
 obtain ⟨_,a',c',e,_⟩:=hy.see w hL
 cases e;rfl
theorem lApp (hL:Loc w0 w M) (hg:o.guard=none) {s x:Operand} {t e:TypeId} (ho:o.op= .call { callee:= .builtin .append,args:= #[s,x],argTypes:= #[t,t] }) [he:Elt t e]
 {g n cap:Nat} (hs:a.eval s= .slice (some ⟨g,0,none⟩) n cap) {cur:Array Value} [hm:At M g cur e] {xs:List Value} [hr:OwnR cur n cap xs] {F:Nat→Array Value→Mem} [hf:Reps M g F]
 {p:Option Addr} {k cc:Nat} (hx:a.eval x= .slice p k cc) {ys:List Value} [hy:See w0 M (.slice p k cc) ys] (hsz:n+k≤100000000000)
 (h:∀ g' cap' cur' w',OwnR cur' (n+k) cap' (xs ++ ys)→Loc w0 w' (F g' cur')→wpList Tryz.prog ops Q rest (a.put o.dst (.slice (some ⟨g',0,none⟩) (n+k) cap')) w'):wpList Tryz.prog ops Q (o :: rest) a w :=
 wpList_plain hg fun K hK=>by
  obtain rfl:=hy.len hL
  obtain ⟨g',cap',cur',w',hrun,h1,h2,h3,h4⟩:=run_append_two (t:=t) (ty:=o.type) hr (hL.get hm.mem) (hy.see w hL) hsz
  unfold Oper.wp execOp
  simp only [ho,resolve,invoke,builtin,Sem.run_bind,Sem.run_pure,Result.andThen_ok,List.map_toArray,List.map_cons,List.map_nil,hs,hx,hrun]
  exact hK _ _ (h g' cap' cur' w' h1 (hL.reps hm.mem hf h2 h3 h4))
theorem lAppB (hL:Loc w0 w M) (hg:o.guard=none) {s x:Operand} (ho:o.op= .call { callee:= .builtin .append,args:= #[s,x],argTypes:= #[29,29] })
 {g n cap:Nat} (hs:a.eval s= .slice (some ⟨g,0,none⟩) n cap) {cur:Array Value} [hm:At M g cur 5] {xs:List (BitVec 8)} [hr:OwnR cur n cap (encB xs)] {F:Nat→Array Value→Mem} [hf:Reps M g F]
 {p:Option Addr} {k cc:Nat} (hx:a.eval x= .slice p k cc) {ys:List (BitVec 8)} [hy:See w0 M (.slice p k cc) (encB ys)] (hsz:n+k≤100000000000)
 (h:∀ g' cap' cur' w',OwnR cur' (n+k) cap' (encB (xs ++ ys))→Loc w0 w' (F g' cur')→wpList Tryz.prog ops Q rest (a.put o.dst (.slice (some ⟨g',0,none⟩) (n+k:Nat) cap')) w'):wpList Tryz.prog ops Q (o :: rest) a w :=
 lApp hL hg ho hs hx hsz fun g' cap' cur' w' h1 h2=>by
  rw [← encB_append] at h1
  exact h g' cap' cur' w' h1 h2
theorem lAppN (hL:Loc w0 w M) (hg:o.guard=none) {s x:Operand} {t e:TypeId} (ho:o.op= .call { callee:= .builtin .append,args:= #[s,x],argTypes:= #[t,t] }) [he:Elt t e]
 (hs:a.eval s= .slice none 0 0) {p:Option Addr} {k cc:Nat} (hx:a.eval x= .slice p k cc) {ys:List Value} [hy:See w0 M (.slice p k cc) ys] (h0:0<k) (hsz:k≤100000000000)
 (h:∀ g' cap' cur' w',OwnR cur' k cap' ys→Loc w0 w' ((g',cur',e) :: M)→wpList Tryz.prog ops Q rest (a.put o.dst (.slice (some ⟨g',0,none⟩) k cap')) w'):wpList Tryz.prog ops Q (o :: rest) a w :=
 wpList_plain hg fun K hK=>by
  obtain rfl:=hy.len hL
  obtain ⟨g',cap',cur',w',hrun,h1,h2,h3,h4⟩:=run_append_new (t:=t) (ty:=o.type) (hy.see w hL) h0 hsz
  unfold Oper.wp execOp
  simp only [ho,resolve,invoke,builtin,Sem.run_bind,Sem.run_pure,Result.andThen_ok,List.map_toArray,List.map_cons,List.map_nil,hs,hx,hrun]
  exact hK _ _ (h g' cap' cur' w' h1 (hL.fresh h2 h4 h3))
theorem lAppBN (hL:Loc w0 w M) (hg:o.guard=none) {s x:Operand} (ho:o.op= .call { callee:= .builtin .append,args:= #[s,x],argTypes:= #[29,29] })
 (hs:a.eval s= .slice none 0 0) {p:Option Addr} {k cc:Nat} (hx:a.eval x= .slice p k cc) {ys:List (BitVec 8)} [hy:See w0 M (.slice p k cc) (encB ys)] (h0:0<k) (hsz:k≤100000000000)
 (h:∀ g' cap' cur' w',OwnR cur' k cap' (encB ys)→Loc w0 w' ((g',cur',5) :: M)→wpList Tryz.prog ops Q rest (a.put o.dst (.slice (some ⟨g',0,none⟩) k cap')) w'):wpList Tryz.prog ops Q (o :: rest) a w :=
 lAppN hL hg ho hs hx h0 hsz h
end
end Go.Proofs.YtoifhhljfaoejaaGreatDoor
