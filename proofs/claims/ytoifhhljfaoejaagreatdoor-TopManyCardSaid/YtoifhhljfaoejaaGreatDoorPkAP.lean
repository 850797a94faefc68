/-
  Lemmas of the law, part 16: the walks of the functions that it calls and the plain facts about them. No condition beyond those written.
-/
import Derived.Test.YtoifhhljfaoejaaGreatDoorPkAO
import Derived.Test.YtoifhhljfaoejaaGreatDoorPkAA
namespace Go.Proofs.YtoifhhljfaoejaaGreatDoor.R3
open Go Go.Proofs.YtoifhhljfaoejaaGreatDoor Go.RowKit
theorem and_one (n:Int):bits .and .i64 n 1=n % 2:=by
 have hm:(BitVec.ofInt 64 1).toNat=2 ^ 1 - 1:=by decide
 have key:(BitVec.ofInt 64 n &&& BitVec.ofInt 64 1).toNat=(n % ((2 ^ 64:Nat):Int)).toNat % 2 ^ 1:=by
  rw [BitVec.toNat_and,BitVec.toNat_ofInt,hm,Nat.and_two_pow_sub_one_eq_mod]
 show IntKind.i64.wrap ((BitVec.ofInt 64 n &&& BitVec.ofInt 64 1).toNat:Nat)=n % 2
 rw [key,IntKind.wrap_i64]
 omega
theorem and_255 (n:Int):bits .and .i64 n 255=n % 256:=by
 have hm:(BitVec.ofInt 64 255).toNat=2 ^ 8 - 1:=by decide
 have key:(BitVec.ofInt 64 n &&& BitVec.ofInt 64 255).toNat=(n % ((2 ^ 64:Nat):Int)).toNat % 2 ^ 8:=by
  rw [BitVec.toNat_and,BitVec.toNat_ofInt,hm,Nat.and_two_pow_sub_one_eq_mod]
 show IntKind.i64.wrap ((BitVec.ofInt 64 n &&& BitVec.ofInt 64 255).toNat:Nat)=n % 256
 rw [key,IntKind.wrap_i64]
 omega
theorem and_65535 (n:Int):bits .and .i64 n 65535=n % 65536:=by
 have hm:(BitVec.ofInt 64 65535).toNat=2 ^ 16 - 1:=by decide
 have key:(BitVec.ofInt 64 n &&& BitVec.ofInt 64 65535).toNat=(n % ((2 ^ 64:Nat):Int)).toNat % 2 ^ 16:=by
  rw [BitVec.toNat_and,BitVec.toNat_ofInt,hm,Nat.and_two_pow_sub_one_eq_mod]
 show IntKind.i64.wrap ((BitVec.ofInt 64 n &&& BitVec.ofInt 64 65535).toNat:Nat)=n % 65536
 rw [key,IntKind.wrap_i64]
 omega
def bo (n:Nat):Nat→Int
 | 0=>0
 | k+1=>if (dg n k:Int) - dg P k - bo n k<0 then 1 else 0
def rawM (n i:Nat):Int:=(dg n i:Int) - dg P i - bo n i
theorem bo_bd (n:Nat):∀ k,0≤bo n k∧bo n k≤1
 | 0=>by unfold bo;omega
 | k+1=>by unfold bo;split <;> omega
theorem rawM_bd (n i:Nat): -65536≤rawM n i∧rawM n i≤65535:=by
 have:=bo_bd n i
 have:=dg_lt n i
 have:=dg_lt P i
 unfold rawM
 omega
theorem bo_succ (n k:Nat):rawM n k / 65536 % 2=bo n (k+1):=by
 have:=rawM_bd n k
 have e:bo n (k+1)=if rawM n k<0 then 1 else 0:=rfl
 rw [e]
 split <;> omega
def stM (n k i:Nat):Int:=if i+1<k then rawM n i % 65536 else if i+1=k then rawM n i else 0
theorem msk_val (n:Nat):∀ k,valK (fun i=>rawM n i % 65536) k=valK (fun i=>(dg n i:Int)) k - valK (fun i=>(dg P i:Int)) k+bo n k*2 ^ (16*k)
 | 0=>by simp [valK,bo]
 | k+1=>by
  have h:=rawM_bd n k
  have hb:=bo_succ n k
  have hr:rawM n k % 65536=(dg n k:Int) - dg P k - bo n k+65536*bo n (k+1):=by
   have:rawM n k=(dg n k:Int) - dg P k - bo n k:=rfl
   have:=bo_bd n (k+1)
   omega
  unfold valK
  rw [msk_val n k,hr,pow16s]
  grind
theorem msk_nrm (n:Nat):Nrm (fun i=>rawM n i % 65536):=fun i _=>(show 0≤rawM n i % 65536∧rawM n i % 65536≤65535 by omega)
theorem val_dg {n:Nat} (h:n<2 ^ 256):valK (fun i=>(dg n i:Int)) 16=(n:Int):=by rw [dg_val,Nat.mod_eq_of_lt h]
theorem P_lt:P<2 ^ 256:=by decide +kernel
theorem sub_sign {n:Nat} (h:n<2 ^ 256):(0≤rawM n 15↔P≤n):=by
 have h1:=msk_val n 16
 rw [val_dg h,val_dg P_lt] at h1
 have h2:=nrm_val (msk_nrm n) 16 (by omega)
 have h3:rawM n 15 / 65536 % 2=bo n 16:=bo_succ n 15
 have h4:=rawM_bd n 15
 have h5:=bo_bd n 16
 rw [show 16*16=256 from rfl] at h1 h2
 have hn:(n:Int)<2 ^ 256:=by
  have:((2 ^ 256:Nat):Int)=(2:Int) ^ 256:=by norm_cast
  omega
 have hp:(P:Int)<2 ^ 256:=by
  have:((2 ^ 256:Nat):Int)=(2:Int) ^ 256:=by norm_cast
  have:=P_lt
  omega
 generalize valK (fun i=>rawM n i % 65536) 16=v at *
 generalize (2:Int) ^ 256=E at *
 have hb:bo n 16=0∨bo n 16=1:=by omega
 rcases hb with hb | hb
 ·rw [hb,Int.zero_mul] at h1
  rw [hb] at h3
  constructor
  ·intro _;omega
  ·intro _;omega
 ·rw [hb,Int.one_mul] at h1
  rw [hb] at h3
  constructor
  ·intro _;omega
  ·intro _;omega
theorem sub_dg {n:Nat} (h:n<2 ^ 256) (hp:P≤n):∀ i,i<16→rawM n i % 65536=(dg (n - P) i:Int):=by
 have h1:=msk_val n 16
 rw [val_dg h,val_dg P_lt] at h1
 have h3:rawM n 15 / 65536 % 2=bo n 16:=bo_succ n 15
 have h4:=rawM_bd n 15
 have h0:=(sub_sign h).2 hp
 have hb:bo n 16=0:=by omega
 rw [hb,Int.zero_mul] at h1
 intro i hi
 have h2:=nrm_dg (msk_nrm n) 16 (by omega) i hi
 rw [h1] at h2
 rw [h2,show ((n:Int) - (P:Int)+0).toNat=n - P from by omega]
theorem offP_pos {n:Nat} (h:P≤n):offP n=n - P:=by unfold offP;rw [if_neg (by omega)]
theorem offP_neg {n:Nat} (h:¬ P≤n):offP n=n:=by unfold offP;rw [if_pos (by omega)]
theorem offP_lt {n:Nat} (h:n<2 ^ 256):offP n<2 ^ 256:=by unfold offP;split <;> omega
theorem byte_even (n i:Nat):((dg n i:Int) % 256)=B8 (byteN n (2*i)):=by
 unfold dg byteN B8
 rw [BitVec.toNat_ofNat,show 8*(2*i)=16*i from by omega,show (2:Nat) ^ 8=256 from rfl]
 omega
theorem byte_odd (n i:Nat):((dg n i:Int) / 256 % 256)=B8 (byteN n (2*i+1)):=by
 unfold dg byteN B8
 rw [BitVec.toNat_ofNat,show 8*(2*i+1)=16*i+8 from by omega,show (2:Nat) ^ 8=256 from rfl,Nat.pow_add,← Nat.div_div_eq_div_mul,show (2:Nat) ^ 8=256 from rfl]
 omega
def El.powK (x:El) (e:Nat):Nat→El
 | 0=>El.one
 | k+1=>if e / 2 ^ (255 - k) % 2=1 then ((El.powK x e k).mul (El.powK x e k)).mul x else (El.powK x e k).mul (El.powK x e k)
theorem El.one_v:El.one.v=1:=by
 unfold El.one
 rw [El.of_v (by decide)]
 decide +kernel
theorem El.zero_v:El.zero.v=0:=by
 unfold El.zero
 rw [El.of_v (by decide)]
 decide +kernel
theorem El.powK_v (x:El) (e:Nat) (he:e<2 ^ 256):∀ k,k≤256→(El.powK x e k).v=pw x.v (e / 2 ^ (256 - k))
 | 0,_=>by rw [Nat.sub_zero,Nat.div_eq_of_lt he];exact El.one_v
 | k+1,hk=>by
  have ih:=El.powK_v x e he k (by omega)
  have hs:=shift_step e k (by omega)
  show (if e / 2 ^ (255 - k) % 2=1 then ((El.powK x e k).mul (El.powK x e k)).mul x else (El.powK x e k).mul (El.powK x e k)).v=_
  rw [show 256 - (k+1)=255 - k from by omega]
  by_cases h:e / 2 ^ (255 - k) % 2=1
  ·rw [if_pos h,El.mul_v,El.mul_v,ih,pw_two]
   rw [h] at hs
   rw [hs];rfl
  ·rw [if_neg h,El.mul_v,ih,pw_two]
   rw [show e / 2 ^ (255 - k) % 2=0 from by omega,Nat.add_zero] at hs
   rw [hs]
noncomputable def El.pow (x:El) (e:Nat):El:=Classical.choose (⟨_,rfl⟩:∃ y,y=El.powK x e 256)
theorem El.pow_eq (x:El) (e:Nat):El.powK x e 256=El.pow x e:=(Classical.choose_spec (⟨_,rfl⟩:∃ y,y=El.powK x e 256)).symm
theorem El.pow_v (x:El) {e:Nat} (he:e<2 ^ 256):(El.pow x e).v=pw x.v e:=by
 rw [← El.pow_eq,El.powK_v x e he 256 (by omega),Nat.sub_self,Nat.pow_zero,Nat.div_one]
noncomputable def El.inv (x:El):El:=El.pow x (P - 2)
theorem El.inv_v (x:El):(El.inv x).v=Go.Proofs.YtoifhhljfaoejaaGreatDoor.inv x.v:=by
 unfold El.inv
 rw [El.pow_v x (by have:=P_lt;omega),inv_pw]
structure Pe where
 x:El
 y:El
 z:El
 t:El
def Pe.ex (p:Pe):Ex:=⟨p.x.v,p.y.v,p.z.v,p.t.v⟩
def dE:El:=El.of dF.val
theorem dE_v:dE.v=dF:=by unfold dE;rw [El.of_v (f_256 _),fe_of_val]
def Pe.add (p q:Pe):Pe :=
 let a:=(p.y.sub p.x).mul (q.y.sub q.x)
 let b:=(p.y.add p.x).mul (q.y.add q.x)
 let c:=(p.t.mul q.t).mul (dE.add dE)
 let e:=(p.z.mul q.z).add (p.z.mul q.z)
 ⟨(b.sub a).mul (e.sub c),(b.add a).mul (e.add c),(e.sub c).mul (e.add c),(b.sub a).mul (b.add a)⟩
theorem Ex.ext' {p q:Ex} (h1:p.x=q.x) (h2:p.y=q.y) (h3:p.z=q.z) (h4:p.t=q.t):p=q:=by cases p;cases q;cases h1;cases h2;cases h3;cases h4;rfl
theorem Pe.add_ex (p q:Pe):(p.add q).ex=exadd p.ex q.ex:=by
 have hz:p.z.v*q.z.v+p.z.v*q.z.v=p.z.v*(q.z.v+q.z.v):=by grind
 have hc:p.t.v*q.t.v*(dF+dF)=p.t.v*(dF+dF)*q.t.v:=by grind
 have hm:∀ a b:F,a*b=b*a:=fun a b=>by grind
 refine Ex.ext' ?_ ?_ ?_ ?_
 ·unfold Pe.add Pe.ex exadd;simp only [El.mul_v,El.add_v,El.sub_v,dE_v];rw [hz,hc]
 ·unfold Pe.add Pe.ex exadd;simp only [El.mul_v,El.add_v,El.sub_v,dE_v];rw [hz,hc];exact hm _ _
 ·unfold Pe.add Pe.ex exadd;simp only [El.mul_v,El.add_v,El.sub_v,dE_v];rw [hz,hc]
 ·unfold Pe.add Pe.ex exadd;simp only [El.mul_v,El.add_v,El.sub_v,dE_v]
def Pe.O:Pe:=⟨El.zero,El.one,El.one,El.zero⟩
theorem Pe.O_ex:Pe.O.ex=exO:=by
 unfold Pe.O Pe.ex exO
 rw [El.zero_v,El.one_v]
def Pe.B:Pe:=⟨El.of pB.x.val,El.of pB.y.val,El.one,(El.of pB.x.val).mul (El.of pB.y.val)⟩
theorem Pe.B_ex:Pe.B.ex=exB:=by
 unfold Pe.B Pe.ex exB exOf
 simp only
 rw [El.mul_v,El.of_v (f_256 _),El.of_v (f_256 _),El.one_v,fe_of_val,fe_of_val]
def Pe.manyK (p:Pe) (n:Nat):Nat→Pe
 | 0=>Pe.O
 | k+1=>if n / 2 ^ (255 - k) % 2=1 then ((Pe.manyK p n k).add (Pe.manyK p n k)).add p else (Pe.manyK p n k).add (Pe.manyK p n k)
theorem Pe.manyK_ex (p:Pe) (n:Nat):∀ k,(Pe.manyK p n k).ex=exmul p.ex n k
 | 0=>Pe.O_ex
 | k+1=>by
  have ih:=Pe.manyK_ex p n k
  show (if n / 2 ^ (255 - k) % 2=1 then ((Pe.manyK p n k).add (Pe.manyK p n k)).add p else (Pe.manyK p n k).add (Pe.manyK p n k)).ex=if n / 2 ^ (255 - k) % 2=1 then exadd (exadd (exmul p.ex n k) (exmul p.ex n k)) p.ex else exadd (exmul p.ex n k) (exmul p.ex n k)
  split
  ·rw [Pe.add_ex,Pe.add_ex,ih]
  ·rw [Pe.add_ex,ih]
noncomputable def Pe.many (p:Pe) (n:Nat):Pe:=Classical.choose (⟨_,rfl⟩:∃ y,y=Pe.manyK p n 256)
theorem Pe.many_eq (p:Pe) (n:Nat):Pe.manyK p n 256=Pe.many p n:=(Classical.choose_spec (⟨_,rfl⟩:∃ y,y=Pe.manyK p n 256)).symm
theorem Pe.many_ex (p:Pe) (n:Nat):(Pe.many p n).ex=extimes p.ex n:=by rw [← Pe.many_eq,Pe.manyK_ex];rfl
end Go.Proofs.YtoifhhljfaoejaaGreatDoor.R3
namespace Go.Proofs.YtoifhhljfaoejaaGreatDoor
open Go Go.RowKit
theorem leK_byte (f:Nat→BitVec 8):∀ k i,i<k→leK f k / 2 ^ (8*i) % 256=(f i).toNat
 | 0,_,h=>absurd h (by omega)
 | k+1,i,h=>by
  show (leK f k+(f k).toNat*2 ^ (8*k)) / 2 ^ (8*i) % 256=_
  rcases Nat.lt_or_ge i k with h1 | h1
  ·obtain ⟨d,hd⟩:∃ d,k=i+1+d:=⟨k - (i+1),by omega⟩
   rw [← leK_byte f k i h1,Nat.mul_comm (f k).toNat,show 8*k=8*i+(8+8*d) from by omega,Nat.pow_add,Nat.mul_assoc,Nat.add_mul_div_left _ _ (Nat.two_pow_pos _),Nat.pow_add,Nat.mul_assoc,show (2:Nat) ^ 8=256 from rfl,Nat.add_mul_mod_self_left]
  ·obtain rfl:i=k:=by omega
   rw [Nat.mul_comm,Nat.add_mul_div_left _ _ (Nat.two_pow_pos _),Nat.div_eq_of_lt (leK_lt f i),Nat.zero_add,Nat.mod_eq_of_lt (f i).isLt]
theorem leN_byte (f:Nat→BitVec 8) {i:Nat} (h:i<32):leN f / 2 ^ (8*i) % 256=(f i).toNat:=leK_byte f 32 i h
theorem byteN_leN (f:Nat→BitVec 8) {i:Nat} (h:i<32):byteN (leN f) i=f i:=by
 unfold byteN
 refine BitVec.eq_of_toNat_eq ?_
 rw [BitVec.toNat_ofNat]
 exact leN_byte f h
theorem leK_byteN (n:Nat):∀ k,leK (byteN n) k=n % 2 ^ (8*k)
 | 0=>by simp [leK,Nat.mod_one]
 | k+1=>by
  show leK (byteN n) k+(byteN n k).toNat*2 ^ (8*k)=_
  rw [leK_byteN n k,Nat.mul_succ,Nat.pow_add,Nat.mod_mul]
  unfold byteN
  rw [BitVec.toNat_ofNat,Nat.mul_comm (n / 2 ^ (8*k) % 2 ^ 8)]
theorem leN_byteN {n:Nat} (h:n<2 ^ 256):leN (byteN n)=n:=by
 unfold leN
 rw [leK_byteN]
 exact Nat.mod_eq_of_lt h
theorem byte_bit (x r:Nat) (h:r<8):x / 2 ^ r % 2=x % 256 / 2 ^ r % 2:=by
 have:r=0∨r=1∨r=2∨r=3∨r=4∨r=5∨r=6∨r=7:=by omega
 rcases this with rfl | rfl | rfl | rfl | rfl | rfl | rfl | rfl <;> omega
theorem leN_bit (f:Nat→BitVec 8) {i:Nat} (h:i<256):leN f / 2 ^ i % 2=(f (i / 8)).toNat / 2 ^ (i % 8) % 2:=by
 have e:2 ^ i=2 ^ (8*(i / 8))*2 ^ (i % 8):=by rw [← Nat.pow_add];congr 1;omega
 rw [e,← Nat.div_div_eq_div_mul,byte_bit _ _ (Nat.mod_lt _ (by omega)),leN_byte f (by omega)]
theorem u8_and_one (x:Nat) (h:x<256):bits .and .u8 (x:Int) 1=((x % 2:Nat):Int):=by
 have:∀ x:Fin 256,bits .and .u8 (x.val:Int) 1=((x.val % 2:Nat):Int):=by decide +kernel
 exact this ⟨x,h⟩
theorem code_bit (f:Nat→BitVec 8) {i:Nat} (h:i<256):bits .and .u8 (B8 (f (i / 8)) / 2 ^ (i % 8)) 1=((leN f / 2 ^ i % 2:Nat):Int):=by
 rw [leN_bit f h]
 have e:B8 (f (i / 8)) / 2 ^ (i % 8)=(((f (i / 8)).toNat / 2 ^ (i % 8):Nat):Int):=by
  unfold B8
  generalize (f (i / 8)).toNat=x
  generalize i % 8=r
  rw [Int.natCast_ediv,Int.natCast_pow];rfl
 rw [e]
 exact u8_and_one _ (Nat.lt_of_le_of_lt (Nat.div_le_self _ _) (f (i / 8)).isLt)
end Go.Proofs.YtoifhhljfaoejaaGreatDoor
namespace Go.Proofs.YtoifhhljfaoejaaGreatDoor.R3
open Go Go.Proofs.YtoifhhljfaoejaaGreatDoor Go.RowKit
set_option linter.unusedVariables false
set_option linter.unusedSimpArgs false
def rowI (n:Nat) (f:Nat→Int):Array Value:=row n fun i=> .int .i64 (f i)
def rowEl (x:El):Array Value:=rowI 16 x.f
instance iElW1 (n:Nat) (f:Nat→Int):Row1 (rowI n f) n:=⟨row_size _ _,by simp [rowI,row,Value.oneCell']⟩
instance iElW2 (x:El):Row1 (rowEl x) 16:=inferInstanceAs (Row1 (rowI 16 _) 16)
instance iElW3:RowTy 147 16:=⟨⟨_,Tryz.underlying147,rfl⟩,by kernel_rfl⟩
instance iElW4:RowZ 147 (rowI 16 fun _=>0):=⟨by kernel_rfl⟩
instance iElW6:RowZ 265 (rowI 31 fun _=>0):=⟨by kernel_rfl⟩
theorem rowI_congr {n:Nat} {f g:Nat→Int} (h:∀ i,i<n→f i=g i):rowI n f=rowI n g:=row_congr fun i hi=>by rw [h i hi]
theorem cellI {n k:Nat} (f:Nat→Int) (h:k<n):Cell (rowI n f) k (.int .i64 (f k)):=row_cell _ h
theorem putI {n k:Nat} {f:Nat→Int} {x:Int} {g:Nat→Int} (h:k<n) (e:∀ i,i<n→(if i=k then x else f i)=g i):Put (rowI n f) k (.int .i64 x) (rowI n g) :=
 row_put h (row_congr fun i hi=>by
  rw [← e i hi];unfold upd
  by_cases c:i=k
  ·rw [if_pos c,if_pos c]
  ·rw [if_neg c,if_neg c])
theorem stC_zero (f:Nat→Int):rowI 16 (stC f 0)=rowI 16 f:=rowI_congr fun i _=>by
 unfold stC
 rw [if_neg (by omega),if_neg (by omega)]
 split
 ·next h=>subst h;show f 0+0=_;omega
 ·rfl
def midC (f:Nat→Int) (k i:Nat):Int:=if i≤k then dgC f i else f i
theorem stC_at (f:Nat→Int) {k:Nat} (h:k<16):stC f k k=f k+cy f k:=by unfold stC;rw [if_neg (by omega),if_neg (by omega),if_pos rfl]
set_option maxRecDepth 100000 in
set_option maxHeartbeats 1000000 in
theorem carry_any (f:Nat→Int) (hf:∀ i,i<16→ -35184372088832≤f i∧f i≤35184372088832) (w:World):Calls Tryz.prog 190 #[.agg (rowI 16 f)] w fun e w'=>e= .returned (.agg (rowI 16 (carryF f)))∧Below w.heap.size w w':=by
 have hL:=Loc.nil w
 have HF:=Lib.hid hf
 have HC:=Lib.hid (cy_bd (C:=1073741824) hf (by omega) (by omega))
 clear hf
 have HZ:=Lib.hid (stC_zero f)
 have HE:=Lib.hid (show rowI 16 (stC f 16)=rowI 16 (carryF f) from rowI_congr fun i _=>by unfold stC;rw [if_pos rfl])
 go_enter Tryz.func190,Tryz.ntmps190
 go_wp2_with (first | ((with_reducible refine gS 1 ?_);refine aBp ?_;clear hL;intro b1 w1 hL) | ((with_reducible refine gS 2 ?_);refine aBp ?_;clear hL;intro b2 w1 hL) | (refine aL4S2C9q ?_;clear hL;intro w1 hL) | (refine aX1A1q ?_;clear hL;intro b w1 hL))
 go_loopw [3] (fun kk wr=>∃ k:Nat,k≤16∧kk= .int .i64 k∧Loc w wr [(b2,rowI 16 fun _=>0,147),(b1,rowI 16 (stC f k),147)]) (fun kk _=>16 - (intOf kk).toNat)
 case atStart=>exact ⟨0,by omega,rfl,by rw [HZ.out];exact hL⟩
 case round =>
  clear hL
  obtain ⟨k,hk,rfl,hL⟩:=hrel
  by_cases hlt:k<16
  ·have hk0:(0:Int)≤(k:Int):=by omega
   have hk1:(k:Int)<16:=by omega
   have hx0:=HF.out k hlt
   have hx1:=HC.out k hk
   have hxb: -40000000000000≤f k+cy f k∧f k+cy f k≤40000000000000:=by omega
   haveI g1:Cell (rowI 16 (stC f k)) k (.int .i64 (f k+cy f k)):=by rw [← stC_at f hlt];exact cellI _ hlt
   haveI g2:Put (rowI 16 (stC f k)) k (.int .i64 (f k+cy f k - (f k+cy f k) / 65536*65536)) (rowI 16 (midC f k)):=putI hlt fun i hi=>by
    unfold stC midC dgC
    rw [if_neg (show k≠16 by omega)]
    by_cases e:i=k
    ·subst e;rw [if_pos rfl,if_pos (Nat.le_refl _)];omega
    ·rw [if_neg e]
     by_cases h:i<k
     ·rw [if_pos h,if_pos (by omega)]
     ·rw [if_neg h,if_neg e,if_neg (by omega)]
   have hcs:cy f (k+1)=(f k+cy f k) / 65536:=rfl
   by_cases h15:k<15
   ·have hy:=HF.out (k+1) (by omega)
    haveI g3:Cell (rowI 16 (midC f k)) (k+1) (.int .i64 (f (k+1))):=by
     have:midC f k (k+1)=f (k+1):=by unfold midC;rw [if_neg (by omega)]
     rw [← this];exact cellI _ (by omega)
    haveI g4:Put (rowI 16 (midC f k)) (k+1) (.int .i64 (f (k+1)+(f k+cy f k) / 65536)) (rowI 16 (stC f (k+1))):=putI (by omega) fun i hi=>by
     unfold stC midC
     rw [if_neg (show k+1≠16 by omega)]
     by_cases e:i=k+1
     ·subst e;rw [if_pos rfl,if_neg (by omega),if_pos rfl];rfl
     ·rw [if_neg e]
      by_cases h:i≤k
      ·rw [if_pos h,if_pos (by omega)]
      ·rw [if_neg h,if_neg (by omega),if_neg e]
    generalize f k+cy f k=x at *
    generalize f (k+1)=y at *
    generalize stC f k=s at *
    generalize midC f k=m at *
    have w1:IntKind.i64.wrap (x / 65536*65536)=x / 65536*65536:=IntWalk.i64_in _ (by omega)
    have w2:IntKind.i64.wrap (x - x / 65536*65536)=x - x / 65536*65536:=IntWalk.i64_in _ (by omega)
    have w3:IntKind.i64.wrap (y+x / 65536)=y+x / 65536:=IntWalk.i64_in _ (by omega)
    have h15':(k:Int)<15:=by omega
    clear HF HC HZ HE
    go_wp2_with (first | (refine aL4S2C9q ?_;clear hL;intro w1 hL) | (refine aX1A1q ?_;clear hL;intro b w1 hL))
    go_roundw
    case rel=>exact ⟨k+1,by omega,by go_num,hL⟩
    case measure=>simp [intOf];omega
   ·obtain rfl:k=15:=by omega
    haveI g3:Cell (rowI 16 (midC f 15)) 0 (.int .i64 (dgC f 0)):=by
     have:midC f 15 0=dgC f 0:=by unfold midC;rw [if_pos (by omega)]
     rw [← this];exact cellI _ (by omega)
    haveI g4:Put (rowI 16 (midC f 15)) 0 (.int .i64 (dgC f 0+38*((f 15+cy f 15) / 65536))) (rowI 16 (stC f 16)):=putI (by omega) fun i hi=>by
     unfold stC midC carryF
     rw [if_pos rfl]
     by_cases e:i=0
     ·subst e;rw [if_pos rfl,if_pos rfl];rfl
     ·rw [if_neg e,if_neg e,if_pos (by omega)]
    have hd:=dgC_bd f 0
    generalize f 15+cy f 15=x at *
    generalize dgC f 0=y at *
    generalize stC f 15=s at *
    generalize midC f 15=m at *
    have w1:IntKind.i64.wrap (x / 65536*65536)=x / 65536*65536:=IntWalk.i64_in _ (by omega)
    have w2:IntKind.i64.wrap (x - x / 65536*65536)=x - x / 65536*65536:=IntWalk.i64_in _ (by omega)
    have w4:IntKind.i64.wrap (38*(x / 65536))=38*(x / 65536):=IntWalk.i64_in _ (by omega)
    have w3:IntKind.i64.wrap (y+38*(x / 65536))=y+38*(x / 65536):=IntWalk.i64_in _ (by omega)
    clear HF HC HZ
    go_wp2_with (first | (refine aL4S2C9q ?_;clear hL;intro w1 hL) | (refine aX1A1q ?_;clear hL;intro b w1 hL))
    go_roundw
    case rel=>exact ⟨16,by omega,by go_num,hL⟩
    case measure=>simp [intOf]
  ·obtain rfl:k=16:=by omega
   rw [HE.out] at hL
   go_wp2_with (first | (refine aL4S2C9q ?_;clear hL;intro w1 hL) | (refine aX1A1q ?_;clear hL;intro b w1 hL))
   exact bodyPost_ret (results_loc rfl hL rfl) rfl ⟨rfl,hL.bel⟩
instance iElW7:Ent 190:=Ent.of Tryz.func190 (by kernel_rfl) rfl
set_option maxRecDepth 100000 in
set_option maxHeartbeats 1000000 in
theorem add_any (x y:El) (w:World):Calls Tryz.prog 141 #[.agg (rowEl x),.agg (rowEl y)] w fun e w'=>e= .returned (.agg (rowEl (x.add y)))∧Below w.heap.size w w':=by
 have hL:=Loc.nil w
 haveI f1:FnC 190 #[.agg (rowI 16 fun i=>x.f i+y.f i)] (.agg (rowEl (x.add y))):=⟨carry_any _ fun i hi=>by have:=x.h i hi;have:=y.h i hi;omega⟩
 obtain ⟨D,hD⟩:∃ D:Nat→Nat→Int,D=fun k i=>if i<k then x.f i+y.f i else x.f i:=⟨_,rfl⟩
 have HD:=Lib.hid hD
 have HZ:=Lib.hid (show rowEl x=rowI 16 (D 0) from rowI_congr fun i _=>by rw [hD];simp)
 have HE:=Lib.hid (show rowI 16 (D 16)=rowI 16 (fun i=>x.f i+y.f i) from rowI_congr fun i hi=>by rw [hD];simp only;rw [if_pos hi])
 have HX:=Lib.hid x.h
 have HY:=Lib.hid y.h
 clear hD
 rw [HZ.out]
 have HY':=Lib.hid (show rowEl y=rowI 16 y.f from rfl)
 rw [HY'.out]
 generalize (fun i=>x.f i+y.f i)=xy at f1 HE
 go_enter Tryz.func141,Tryz.ntmps141
 go_wp2_with (first | ((with_reducible refine gS 2 ?_);refine aBp ?_;clear hL;intro b2 w1 hL) | ((with_reducible refine gS 3 ?_);refine aBp ?_;clear hL;intro b3 w1 hL) | ((with_reducible refine gS 4 ?_);refine aBp ?_;clear hL;intro b4 w1 hL) | (refine aL4S2C9q ?_;clear hL;intro w1 hL) | (refine aX1A1q ?_;clear hL;intro b w1 hL))
 go_loopw [5] (fun kk wr=>∃ k:Nat,k≤16∧kk= .int .i64 k∧Loc w wr [(b4,rowI 16 fun _=>0,147),(b3,rowI 16 y.f,147),(b2,rowI 16 (D k),147)]) (fun kk _=>16 - (intOf kk).toNat)
 case atStart=>exact ⟨0,by omega,rfl,hL⟩
 case round =>
  clear hL
  obtain ⟨k,hk,rfl,hL⟩:=hrel
  by_cases hlt:k<16
  ·have hk0:(0:Int)≤(k:Int):=by omega
   have hk1:(k:Int)<16:=by omega
   have hx:=HX.out k hlt
   have hy:=HY.out k hlt
   haveI g1:Cell (rowI 16 (D k)) k (.int .i64 (x.f k)):=by
    have:D k k=x.f k:=by rw [HD.out];simp
    rw [← this];exact cellI _ hlt
   haveI g2:Cell (rowI 16 y.f) k (.int .i64 (y.f k)):=cellI _ hlt
   haveI g3:Put (rowI 16 (D k)) k (.int .i64 (x.f k+y.f k)) (rowI 16 (D (k+1))):=putI hlt fun i hi=>by
    rw [HD.out]
    simp only
    by_cases e:i=k
    ·subst e;rw [if_pos rfl,if_pos (by omega)]
    ·rw [if_neg e]
     by_cases h:i<k
     ·rw [if_pos h,if_pos (by omega)]
     ·rw [if_neg h,if_neg (by omega)]
   generalize D k=s at *
   generalize y.f=yf at *
   generalize yf k=v at *
   generalize x.f k=u at *
   have wu:IntKind.i64.wrap (u+v)=u+v:=IntWalk.i64_in _ (by omega)
   clear HZ HE HD HX HY HY'
   go_wp2_with fail
   refine wp_region_free [(0,true),(1,true),(2,true),(3,false),(4,true),(5,true),(6,false),(7,true),(8,true)] [] [9] (by kernel_rfl) (by kernel_rfl) trivial hL ?_
   refine pF ?_
   repeat refine rS ?_
   refine seqO_nil ?_
   refine seqM_nil fun w1 hL1=>?_
   simp only [List.cons_append,List.nil_append] at hL1
   clear hL;have hL:=hL1;clear hL1
   refine p4 ?_
   refine pG ?_
   repeat (refine rW ?_;clear hL;intro w1 hL)
   refine wpList_nil (NoPanic.normal ?_)
   go_wp2_with (first | (refine aL4S2C9q ?_;clear hL;intro w1 hL) | (refine aX1A1q ?_;clear hL;intro b w1 hL))
   go_roundw
   case rel=>exact ⟨k+1,by omega,by go_num,hL⟩
   case measure=>simp [intOf];omega
  ·obtain rfl:k=16:=by omega
   rw [HE.out] at hL
   go_wp2_with (first | (refine aL4S2C9q ?_;clear hL;intro w1 hL) | (refine aX1A1q ?_;clear hL;intro b w1 hL))
   exact bodyPost_ret (results_loc rfl hL rfl) rfl ⟨rfl,hL.bel⟩
instance iElW10:Ent 141:=Ent.of Tryz.func141 (by kernel_rfl) rfl
instance iElW11 (x y:El):FnC 141 #[.agg (rowEl x),.agg (rowEl y)] (.agg (rowEl (x.add y))):=⟨add_any x y⟩
set_option maxRecDepth 100000 in
set_option maxHeartbeats 1000000 in
theorem sub_any (x y:El) (w:World):Calls Tryz.prog 142 #[.agg (rowEl x),.agg (rowEl y)] w fun e w'=>e= .returned (.agg (rowEl (x.sub y)))∧Below w.heap.size w w':=by
 have hL:=Loc.nil w
 haveI f1:FnC 190 #[.agg (rowI 16 fun i=>x.f i - y.f i)] (.agg (rowEl (x.sub y))):=⟨carry_any _ fun i hi=>by have:=x.h i hi;have:=y.h i hi;omega⟩
 obtain ⟨D,hD⟩:∃ D:Nat→Nat→Int,D=fun k i=>if i<k then x.f i - y.f i else x.f i:=⟨_,rfl⟩
 have HD:=Lib.hid hD
 have HZ:=Lib.hid (show rowEl x=rowI 16 (D 0) from rowI_congr fun i _=>by rw [hD];simp)
 have HE:=Lib.hid (show rowI 16 (D 16)=rowI 16 (fun i=>x.f i - y.f i) from rowI_congr fun i hi=>by rw [hD];simp only;rw [if_pos hi])
 have HX:=Lib.hid x.h
 have HY:=Lib.hid y.h
 clear hD
 rw [HZ.out]
 have HY':=Lib.hid (show rowEl y=rowI 16 y.f from rfl)
 rw [HY'.out]
 generalize (fun i=>x.f i - y.f i)=xy at f1 HE
 go_enter Tryz.func142,Tryz.ntmps142
 go_wp2_with (first | ((with_reducible refine gS 2 ?_);refine aBp ?_;clear hL;intro b2 w1 hL) | ((with_reducible refine gS 3 ?_);refine aBp ?_;clear hL;intro b3 w1 hL) | ((with_reducible refine gS 4 ?_);refine aBp ?_;clear hL;intro b4 w1 hL) | (refine aL4S2C9q ?_;clear hL;intro w1 hL) | (refine aX1A1q ?_;clear hL;intro b w1 hL))
 go_loopw [5] (fun kk wr=>∃ k:Nat,k≤16∧kk= .int .i64 k∧Loc w wr [(b4,rowI 16 fun _=>0,147),(b3,rowI 16 y.f,147),(b2,rowI 16 (D k),147)]) (fun kk _=>16 - (intOf kk).toNat)
 case atStart=>exact ⟨0,by omega,rfl,hL⟩
 case round =>
  clear hL
  obtain ⟨k,hk,rfl,hL⟩:=hrel
  by_cases hlt:k<16
  ·have hk0:(0:Int)≤(k:Int):=by omega
   have hk1:(k:Int)<16:=by omega
   have hx:=HX.out k hlt
   have hy:=HY.out k hlt
   haveI g1:Cell (rowI 16 (D k)) k (.int .i64 (x.f k)):=by
    have:D k k=x.f k:=by rw [HD.out];simp
    rw [← this];exact cellI _ hlt
   haveI g2:Cell (rowI 16 y.f) k (.int .i64 (y.f k)):=cellI _ hlt
   haveI g3:Put (rowI 16 (D k)) k (.int .i64 (x.f k - y.f k)) (rowI 16 (D (k+1))):=putI hlt fun i hi=>by
    rw [HD.out]
    simp only
    by_cases e:i=k
    ·subst e;rw [if_pos rfl,if_pos (by omega)]
    ·rw [if_neg e]
     by_cases h:i<k
     ·rw [if_pos h,if_pos (by omega)]
     ·rw [if_neg h,if_neg (by omega)]
   generalize D k=s at *
   generalize y.f=yf at *
   generalize yf k=v at *
   generalize x.f k=u at *
   have wu:IntKind.i64.wrap (u - v)=u - v:=IntWalk.i64_in _ (by omega)
   clear HZ HE HD HX HY HY'
   go_wp2_with fail
   refine wp_region_free [(0,true),(1,true),(2,true),(3,false),(4,true),(5,true),(6,false),(7,true),(8,true)] [] [9] (by kernel_rfl) (by kernel_rfl) trivial hL ?_
   refine pF ?_
   repeat refine rS ?_
   refine seqO_nil ?_
   refine seqM_nil fun w1 hL1=>?_
   simp only [List.cons_append,List.nil_append] at hL1
   clear hL;have hL:=hL1;clear hL1
   refine p4 ?_
   refine pG ?_
   repeat (refine rW ?_;clear hL;intro w1 hL)
   refine wpList_nil (NoPanic.normal ?_)
   go_wp2_with (first | (refine aL4S2C9q ?_;clear hL;intro w1 hL) | (refine aX1A1q ?_;clear hL;intro b w1 hL))
   go_roundw
   case rel=>exact ⟨k+1,by omega,by go_num,hL⟩
   case measure=>simp [intOf];omega
  ·obtain rfl:k=16:=by omega
   rw [HE.out] at hL
   go_wp2_with (first | (refine aL4S2C9q ?_;clear hL;intro w1 hL) | (refine aX1A1q ?_;clear hL;intro b w1 hL))
   exact bodyPost_ret (results_loc rfl hL rfl) rfl ⟨rfl,hL.bel⟩
instance iElW12:Ent 142:=Ent.of Tryz.func142 (by kernel_rfl) rfl
instance iElW13 (x y:El):FnC 142 #[.agg (rowEl x),.agg (rowEl y)] (.agg (rowEl (x.sub y))):=⟨sub_any x y⟩
end Go.Proofs.YtoifhhljfaoejaaGreatDoor.R3
