/-
  Lemmas of the law, part 15: the walks of the functions that it calls and the plain facts about them. No condition beyond those written.
-/
import Derived.Test.YtoifhhljfaoejaaGreatDoorPkAN
import Derived.Test.YtoifhhljfaoejaaGreatDoorPkAJ
namespace Go.Proofs.YtoifhhljfaoejaaGreatDoor.Shb
open Go.Proofs.YtoifhhljfaoejaaGreatDoor
theorem takes_append (s:St) (a b:List (BitVec 8)):takes s (a ++ b)=takes (takes s a) b:=List.foldl_append
theorem takes_snoc (s:St) (a:List (BitVec 8)) (x:BitVec 8):takes s (a ++ [x])=takeS (takes s a) x:=by rw [takes_append];rfl
theorem takeS_lt (s:St) (x:BitVec 8):(takeS s x).n<128:=by
 unfold takeS;split
 ·show s.n+1<128;omega
 ·show 0<128;omega
theorem takes_lt {s:St} (hs:s.n<128) (m:List (BitVec 8)):(takes s m).n<128:=by
 unfold takes
 induction m generalizing s with
 | nil=>exact hs
 | cons x m ih=>exact ih (takeS_lt s x)
theorem takeS_n {s:St} (hs:s.n<128) (x:BitVec 8):(takeS s x).n=(s.n+1) % 128:=by
 unfold takeS;split
 ·show s.n+1=_;omega
 ·show 0=_;omega
theorem takes_n {s:St} (hs:s.n<128) (m:List (BitVec 8)):(takes s m).n=(s.n+m.length) % 128:=by
 unfold takes
 induction m generalizing s with
 | nil=>simp;omega
 | cons x m ih =>
  show ((m.foldl takeS (takeS s x))).n=_
  rw [ih (takeS_lt s x),takeS_n hs,List.length_cons];omega
def zeros (n:Nat):Nat:=(239 - n % 128) % 128
def lenByte (n:Nat) (i:Nat):BitVec 8:=BitVec.ofNat 8 (8*n / 2 ^ (8*(7 - i)))
def lenBytes (n:Nat):List (BitVec 8):=(List.range 8).map (lenByte n)
def pad (m:List (BitVec 8)):List (BitVec 8):=m ++ [128] ++ List.replicate (zeros m.length) 0 ++ List.replicate 8 0 ++ lenBytes m.length
def outOf (h:Nat→BitVec 64) (i:Nat):BitVec 8:=(h (i / 8) >>> (56 - 8*(i % 8))).setWidth 8
def sha (m:List (BitVec 8)):Nat→BitVec 8:=outOf (takes st0 (pad m)).h
theorem lenBytes_take (n:Nat) {j:Nat} (h:j<8):(lenBytes n).take (j+1)=(lenBytes n).take j ++ [lenByte n j]:=by
 rw [List.take_succ_eq_append_getElem (by simp [lenBytes];exact h)]
 simp [lenBytes]
theorem lenByte_val (n j:Nat):B8 (lenByte n j)=((8*n / 2 ^ (8*(7 - j)) % 256:Nat):Int):=by
 unfold lenByte B8;rw [BitVec.toNat_ofNat]
theorem pad_length (m:List (BitVec 8)):(pad m).length % 128=0:=by
 unfold pad zeros lenBytes
 simp only [List.length_append,List.length_cons,List.length_nil,List.length_replicate,List.length_map,List.length_range]
 omega
def acc (b:Nat→BitVec 8) (i:Nat):Nat→BitVec 64
 | 0=>0
 | r+1=>acc b i r <<< 8 ||| wide (b (8*i+r))
theorem sch1_acc (b:Nat→BitVec 8) (i:Nat):∀ k,sch1 b k i=acc b i (min 8 (k - 8*i))
 | 0=>by simp [sch1,acc]
 | k+1=>by
  have ih:=sch1_acc b i k
  unfold sch1 upd
  by_cases e:i=k / 8
  ·rw [if_pos e,← e,ih]
   have h1:min 8 (k - 8*i)=k - 8*i:=by omega
   have h2:min 8 (k+1 - 8*i)=(k - 8*i)+1:=by omega
   rw [h1,h2,acc,show 8*i+(k - 8*i)=k by omega]
  ·rw [if_neg e,ih]
   congr 1
   omega
def words (b:Nat→BitVec 8) (i:Nat):BitVec 64:=if i<16 then acc b i 8 else 0
theorem sch1_words (b:Nat→BitVec 8):sch1 b 128=words b:=by
 funext i
 rw [sch1_acc]
 unfold words
 by_cases h:i<16
 ·rw [if_pos h,show min 8 (128 - 8*i)=8 by omega]
 ·rw [if_neg h,show min 8 (128 - 8*i)=0 by omega];rfl
theorem sch1_congr {b b':Nat→BitVec 8}:∀ k,(∀ i,i<k→b i=b' i)→sch1 b k=sch1 b' k
 | 0,_=>rfl
 | k+1,h=>by
  have ih:=sch1_congr k (fun i hi=>h i (by omega))
  unfold sch1
  rw [ih,h k (by omega)]
theorem block_congr {K h:Nat→BitVec 64} {b b':Nat→BitVec 8} (hb:∀ i,i<128→b i=b' i):block K h b=block K h b':=by
 unfold block sched
 rw [sch1_congr 128 hb]
def blocks (m:Nat→BitVec 8):Nat→Nat→BitVec 64
 | 0=>H512
 | k+1=>block K512 (blocks m k) (fun j=>m (128*k+j))
theorem takes_part (h:Nat→BitVec 64):∀ (c:List (BitVec 8)) (b:Nat→BitVec 8) (n:Nat),n+c.length<128 →
 ∃ b',takes ⟨h,b,n⟩ c=⟨h,b',n+c.length⟩∧(∀ i,i<n→b' i=b i)∧∀ i (hi:i<c.length),b' (n+i)=c[i]
 | [],b,n,_=>⟨b,rfl,fun _ _=>rfl,fun i hi=>absurd hi (by simp)⟩
 | x :: c,b,n,hn=>by
  simp only [List.length_cons] at hn
  obtain ⟨b',e,h1,h2⟩:=takes_part h c (upd b n x) (n+1) (by omega)
  refine ⟨b',?_,?_,?_⟩
  ·show takes (takeS ⟨h,b,n⟩ x) c=_
   have:takeS ⟨h,b,n⟩ x=⟨h,upd b n x,n+1⟩:=by unfold takeS;rw [if_pos (by show n<127;omega)]
   rw [this,e]
   congr 1
   simp only [List.length_cons];omega
  ·intro i hi
   rw [h1 i (by omega)];unfold upd;rw [if_neg (by omega)]
  ·intro i hi
   cases i with
   | zero=>rw [Nat.add_zero,h1 n (by omega)];simp [upd]
   | succ i =>
    have:=h2 i (by simpa using hi)
    rw [show n+(i+1)=n+1+i by omega,this];rfl
theorem takes_block (h:Nat→BitVec 64) (b:Nat→BitVec 8) (c:List (BitVec 8)) (hc:c.length=128):∃ b',takes ⟨h,b,0⟩ c=⟨block K512 h (fun j=>c.getD j 0),b',0⟩:=by
 have hne:c≠[]:=fun e=>by rw [e] at hc;cases hc
 obtain ⟨b',e,_,h2⟩:=takes_part h c.dropLast b 0 (by rw [List.length_dropLast];omega)
 have hs:c.dropLast ++ [c.getLast hne]=c:=List.dropLast_concat_getLast hne
 have hl:c.dropLast.length=127:=by rw [List.length_dropLast];omega
 have hT:takes ⟨h,b,0⟩ c=takeS (takes ⟨h,b,0⟩ c.dropLast) (c.getLast hne):=by
  rw [← takes_snoc,hs]
 have hb:block K512 h (upd b' 127 (c.getLast hne))=block K512 h (fun j=>c.getD j 0):=by
  refine block_congr fun i hi=>?_
  unfold upd
  by_cases e127:i=127
  ·subst e127
   rw [if_pos rfl,List.getD_eq_getElem?_getD,List.getElem?_eq_getElem (by omega),Option.getD_some,List.getLast_eq_getElem]
   congr 1
   omega
  ·rw [if_neg e127]
   have:=h2 i (by omega)
   rw [Nat.zero_add] at this
   rw [this,List.getD_eq_getElem?_getD,List.getElem?_eq_getElem (by omega),Option.getD_some,List.getElem_dropLast]
 refine ⟨upd b' 127 (c.getLast hne),?_⟩
 rw [hT,e,hl]
 unfold takeS
 rw [if_neg (by simp)]
 simp only [Nat.zero_add]
 rw [hb]
theorem takes_blocks (m:Nat→BitVec 8):∀ (q k:Nat) (p:List (BitVec 8)) (b:Nat→BitVec 8),p.length=128*q→(∀ i,i<p.length→p.getD i 0=m (128*k+i)) →
 ∃ b',takes ⟨blocks m k,b,0⟩ p=⟨blocks m (k+q),b',0⟩
 | 0,k,p,b,hl,_=>by
  have:p=[]:=List.eq_nil_of_length_eq_zero (by omega)
  subst this
  exact ⟨b,rfl⟩
 | q+1,k,p,b,hl,hm=>by
  have hs:p=p.take 128 ++ p.drop 128:=(List.take_append_drop 128 p).symm
  have h128:(p.take 128).length=128:=by rw [List.length_take];omega
  obtain ⟨b1,e1⟩:=takes_block (blocks m k) b (p.take 128) h128
  have eb:block K512 (blocks m k) (fun j=>(p.take 128).getD j 0)=blocks m (k+1):=by
   refine block_congr fun i hi=>?_
   rw [← hm i (by omega),List.getD_eq_getElem?_getD,List.getD_eq_getElem?_getD,List.getElem?_take_of_lt hi]
  rw [eb] at e1
  obtain ⟨b2,e2⟩:=takes_blocks m q (k+1) (p.drop 128) b1 (by rw [List.length_drop];omega) (fun i hi=>by
   rw [List.length_drop] at hi
   rw [List.getD_eq_getElem?_getD,List.getElem?_drop,← List.getD_eq_getElem?_getD,hm (128+i) (by omega)]
   congr 1;omega)
  refine ⟨b2,?_⟩
  rw [hs,takes_append,e1,e2]
  congr 2
  omega
theorem sha_blocks (m:List (BitVec 8)):sha m=outOf (blocks (fun i=>(pad m).getD i 0) ((pad m).length / 128)):=by
 have hl:=pad_length m
 obtain ⟨b',e⟩:=takes_blocks (fun i=>(pad m).getD i 0) ((pad m).length / 128) 0 (pad m) (fun _=>0) (by omega) (fun i _=>by simp)
 unfold sha st0
 rw [show H512=blocks (fun i=>(pad m).getD i 0) 0 from rfl,e,Nat.zero_add]
end Go.Proofs.YtoifhhljfaoejaaGreatDoor.Shb
namespace Go.Proofs.YtoifhhljfaoejaaGreatDoor.R3
open Go.Proofs.YtoifhhljfaoejaaGreatDoor Go.RowKit
def zF (z:Int):F:=⟨(z % (P:Int)).toNat,by
 have h:=Int.emod_lt_of_pos z (show (0:Int)<(P:Int) from Int.natCast_pos.2 P_pos)
 have:=Int.emod_nonneg z (show (P:Int)≠0 from Int.natCast_ne_zero.2 (Nat.ne_of_gt P_pos))
 omega⟩
theorem zF_val (z:Int):((zF z).val:Int)=z % (P:Int):=Int.toNat_of_nonneg (Int.emod_nonneg z (Int.natCast_ne_zero.2 (Nat.ne_of_gt P_pos)))
theorem zF_add (a b:Int):zF (a+b)=zF a+zF b:=by
 refine Fin.ext (Int.ofNat_inj.1 ?_)
 rw [zF_val,Fin.val_add,Int.natCast_emod,Int.natCast_add,zF_val,zF_val,← Int.add_emod]
theorem zF_mul (a b:Int):zF (a*b)=zF a*zF b:=by
 refine Fin.ext (Int.ofNat_inj.1 ?_)
 rw [zF_val,Fin.val_mul,Int.natCast_emod,Int.natCast_mul,zF_val,zF_val,← Int.mul_emod]
theorem zF_sub (a b:Int):zF (a - b)=zF a - zF b:=by
 have h:=zF_add (a - b) b
 rw [Int.sub_add_cancel] at h
 rw [h];grind
theorem zF_P (a k:Int):zF (a+k*(P:Int))=zF a:=by
 refine Fin.ext (Int.ofNat_inj.1 ?_)
 rw [zF_val,zF_val,Int.add_mul_emod_self_right]
theorem zF_nat (n:Nat):zF (n:Int)=fe n:=by
 refine Fin.ext (Int.ofNat_inj.1 ?_)
 rw [zF_val,fe_val,Int.natCast_emod]
def valK (f:Nat→Int):Nat→Int
 | 0=>0
 | k+1=>valK f k+f k*2 ^ (16*k)
def elF (f:Nat→Int):F:=zF (valK f 16)
theorem valK_congr {f g:Nat→Int}:∀ k,(∀ i,i<k→f i=g i)→valK f k=valK g k
 | 0,_=>rfl
 | k+1,h=>by unfold valK;rw [valK_congr k fun i hi=>h i (by omega),h k (by omega)]
theorem valK_add (f g:Nat→Int):∀ k,valK (fun i=>f i+g i) k=valK f k+valK g k
 | 0=>rfl
 | k+1=>by unfold valK;rw [valK_add f g k];grind
theorem valK_sub (f g:Nat→Int):∀ k,valK (fun i=>f i - g i) k=valK f k - valK g k
 | 0=>rfl
 | k+1=>by unfold valK;rw [valK_sub f g k];grind
theorem valK_mul (f:Nat→Int) (c:Int):∀ k,valK (fun i=>c*f i) k=c*valK f k
 | 0=>by simp [valK]
 | k+1=>by unfold valK;rw [valK_mul f c k];grind
theorem valK_zero (k:Nat):valK (fun _=>0) k=0:=by
 induction k with
 | zero=>rfl
 | succ k ih=>unfold valK;rw [ih];simp
theorem pow16 (i k:Nat):(2:Int) ^ (16*(i+k))=2 ^ (16*i)*2 ^ (16*k):=by rw [Nat.mul_add,Int.pow_add]
theorem pow16s (k:Nat):(2:Int) ^ (16*(k+1))=2 ^ (16*k)*65536:=by rw [pow16];rfl
theorem valK_upd (f:Nat→Int) (j:Nat) (x:Int):∀ k,valK (fun i=>if i=j then f i+x else f i) k=valK f k+if j<k then x*2 ^ (16*j) else 0
 | 0=>by simp [valK]
 | k+1=>by
  unfold valK
  rw [valK_upd f j x k]
  by_cases e:k=j
  ·subst e;rw [if_pos rfl,if_neg (by omega),if_pos (by omega)];grind
  ·rw [if_neg e]
   by_cases h:j<k
   ·rw [if_pos h,if_pos (by omega)];grind
   ·rw [if_neg h,if_neg (by omega)];grind
theorem valK_split (f:Nat→Int) (n:Nat):∀ k,valK f (n+k)=valK f n+2 ^ (16*n)*valK (fun i=>f (n+i)) k
 | 0=>by simp [valK]
 | k+1=>by
  show valK f (n+k)+f (n+k)*2 ^ (16*(n+k))=_+_*(valK (fun i=>f (n+i)) k+f (n+k)*2 ^ (16*k))
  rw [valK_split f n k,pow16];grind
def cy (f:Nat→Int):Nat→Int
 | 0=>0
 | k+1=>(f k+cy f k) / 65536
def dgC (f:Nat→Int) (i:Nat):Int:=(f i+cy f i) % 65536
def carryF (f:Nat→Int) (i:Nat):Int:=if i=0 then dgC f i+38*cy f 16 else dgC f i
def stC (f:Nat→Int) (k i:Nat):Int:=if k=16 then carryF f i else if i<k then dgC f i else if i=k then f k+cy f k else f i
theorem valK_dgC (f:Nat→Int):∀ k,valK (dgC f) k=valK f k - cy f k*2 ^ (16*k)
 | 0=>by simp [valK,cy]
 | k+1=>by
  show valK (dgC f) k+(f k+cy f k) % 65536*2 ^ (16*k)=valK f k+f k*2 ^ (16*k) - (f k+cy f k) / 65536*2 ^ (16*(k+1))
  rw [valK_dgC f k,pow16s]
  have h:=Int.emod_add_mul_ediv (f k+cy f k) 65536
  generalize (f k+cy f k) % 65536=r at *
  generalize (f k+cy f k) / 65536=q at *
  generalize (2:Int) ^ (16*k)=E at *
  have:r=f k+cy f k - 65536*q:=by omega
  subst this
  grind
theorem P_two:(2:Int) ^ 256=2*(P:Int)+38:=by decide +kernel
theorem valK_carry (f:Nat→Int):valK (carryF f) 16=valK f 16+ -2*cy f 16*(P:Int):=by
 have h1:=valK_upd (dgC f) 0 (38*cy f 16) 16
 have h2:=valK_dgC f 16
 have h3:valK (carryF f) 16=valK (fun i=>if i=0 then dgC f i+38*cy f 16 else dgC f i) 16:=rfl
 rw [h3,h1,h2,if_pos (by omega),show 16*16=256 from rfl,P_two,Nat.mul_zero]
 generalize cy f 16=c
 generalize valK f 16=v
 generalize (P:Int)=p
 grind
theorem elF_carry (f:Nat→Int):elF (carryF f)=elF f:=by unfold elF;rw [valK_carry,zF_P]
theorem cy_bd {f:Nat→Int} {B C:Int} (hB:∀ i,i<16→ -B≤f i∧f i≤B) (h:B+C≤65536*C) (h0:0≤C):∀ k,k≤16→ -C≤cy f k∧cy f k≤C
 | 0,_=>by unfold cy;omega
 | k+1,hk=>by
  have ih:=cy_bd hB h h0 k (by omega)
  have:=hB k (by omega)
  unfold cy
  omega
theorem cy_small {f:Nat→Int} (h0: -8589934592≤f 0∧f 0≤8589934592) (h:∀ i,0<i→i<16→0≤f i∧f i≤65535):∀ k,k≤16→(k=1→ -131072≤cy f k∧cy f k≤131072)∧(k=2→ -3≤cy f k∧cy f k≤3)∧(2<k→ -1≤cy f k∧cy f k≤1)
 | 0,_=>⟨by omega,by omega,by omega⟩
 | k+1,hk=>by
  have ih:=cy_small h0 h k (by omega)
  have e:cy f (k+1)=(f k+cy f k) / 65536:=rfl
  rcases Nat.eq_zero_or_pos k with rfl | hk0
  ·have e0:cy f 0=0:=rfl
   rw [e0] at e
   refine ⟨fun _=>by omega,by omega,by omega⟩
  ·have h1:=h k hk0 (by omega)
   refine ⟨by omega,fun _=>?_,fun _=>?_⟩
   ·have:=ih.1 (by omega);omega
   ·rcases Nat.lt_or_ge 2 k with h2 | h2
    ·have:=ih.2.2 h2;omega
    ·have:=ih.2.1 (by omega);omega
theorem dgC_bd (f:Nat→Int) (i:Nat):0≤dgC f i∧dgC f i≤65535:=by unfold dgC;omega
theorem carry_bd0 (f:Nat→Int) {C:Int} (h: -C≤cy f 16∧cy f 16≤C): -(38*C)≤carryF f 0∧carryF f 0≤65535+38*C:=by
 have:=dgC_bd f 0
 unfold carryF
 rw [if_pos rfl]
 omega
theorem carry_bd1 (f:Nat→Int) {i:Nat} (h:0<i):0≤carryF f i∧carryF f i≤65535:=by
 unfold carryF
 rw [if_neg (by omega)]
 exact dgC_bd f i
theorem carry_le {f:Nat→Int} (h:∀ i,i<16→ -262144≤f i∧f i≤262144):∀ i,i<16→ -131072≤carryF f i∧carryF f i≤131072:=fun i hi=>by
 have hc:=cy_bd (C:=5) h (by omega) (by omega) 16 (by omega)
 rcases Nat.eq_zero_or_pos i with e | e
 ·subst e;have:=carry_bd0 f hc;omega
 ·have:=carry_bd1 f e;omega
structure El where
 f:Nat→Int
 h:∀ i,i<16→ -131072≤f i∧f i≤131072
def El.v (x:El):F:=elF x.f
def El.add (x y:El):El:=⟨carryF fun i=>x.f i+y.f i,carry_le fun i hi=>by have:=x.h i hi;have:=y.h i hi;omega⟩
def El.sub (x y:El):El:=⟨carryF fun i=>x.f i - y.f i,carry_le fun i hi=>by have:=x.h i hi;have:=y.h i hi;omega⟩
theorem El.add_v (x y:El):(x.add y).v=x.v+y.v:=by
 show elF (carryF _)=_
 rw [elF_carry]
 show zF _=zF _+zF _
 rw [← zF_add,← valK_add]
theorem El.sub_v (x y:El):(x.sub y).v=x.v - y.v:=by
 show elF (carryF _)=_
 rw [elF_carry]
 show zF _=zF _ - zF _
 rw [← zF_sub,← valK_sub]
def tM (a b:Nat→Int) (i:Nat):Nat→Nat→Int
 | 0=>match i with
  | 0=>fun _=>0
  | i+1=>tM a b i 16
 | k+1=>fun j=>if j=i+k then tM a b i k j+a i*b k else tM a b i k j
termination_by k=>(i,k)
theorem tM_zero (a b:Nat→Int):tM a b 0 0=fun _=>0:=by unfold tM;rfl
theorem tM_row (a b:Nat→Int) (i:Nat):tM a b (i+1) 0=tM a b i 16:=by conv=>lhs;unfold tM
theorem tM_step (a b:Nat→Int) (i k:Nat):tM a b i (k+1)=fun j=>if j=i+k then tM a b i k j+a i*b k else tM a b i k j:=by conv=>lhs;unfold tM
theorem tM_val (a b:Nat→Int) (i:Nat) (hi:i<16):∀ k,k≤16→valK (tM a b i k) 31=valK (tM a b i 0) 31+a i*2 ^ (16*i)*valK b k
 | 0,_=>by show _=_+_*(0:Int);rw [Int.mul_zero,Int.add_zero]
 | k+1,hk=>by
  rw [tM_step,valK_upd,tM_val a b i hi k (by omega),if_pos (by omega),pow16]
  show _=_+_*(valK b k+b k*2 ^ (16*k))
  grind
theorem tM_all (a b:Nat→Int):∀ i,i≤16→valK (tM a b i 0) 31=valK a i*valK b 16
 | 0,_=>by rw [tM_zero,valK_zero];simp [valK]
 | i+1,hi=>by
  rw [tM_row,tM_val a b i (by omega) 16 (by omega),tM_all a b i (by omega)]
  show _=(valK a i+a i*2 ^ (16*i))*_
  grind
theorem mul_bd {x y:Int} (hx: -131072≤x∧x≤131072) (hy: -131072≤y∧y≤131072): -17179869184≤x*y∧x*y≤17179869184:=by
 have h1:x.natAbs≤131072:=by omega
 have h2:y.natAbs≤131072:=by omega
 have h3:=Nat.mul_le_mul h1 h2
 rw [← Int.natAbs_mul] at h3
 omega
theorem tM_bd {a b:Nat→Int} (ha:∀ i,i<16→ -131072≤a i∧a i≤131072) (hb:∀ i,i<16→ -131072≤b i∧b i≤131072) (i:Nat) (hi:i<16) (h0:∀ j,-(17179869184*(i:Int))≤tM a b i 0 j∧tM a b i 0 j≤17179869184*(i:Int)) :
 ∀ k,k≤16→∀ j,(-(17179869184*((i:Int)+1))≤tM a b i k j∧tM a b i k j≤17179869184*((i:Int)+1))∧(i+k≤j→ -(17179869184*(i:Int))≤tM a b i k j∧tM a b i k j≤17179869184*(i:Int))
 | 0,_,j=>by have:=h0 j;omega
 | k+1,hk,j=>by
  have ih:=tM_bd ha hb i hi h0 k (by omega) j
  have hm:=mul_bd (ha i hi) (hb k (by omega))
  rw [tM_step]
  simp only
  by_cases e:j=i+k
  ·rw [if_pos e]
   have:=ih.2 (by omega)
   omega
  ·rw [if_neg e]
   exact ⟨ih.1,fun h=>ih.2 (by omega)⟩
theorem tM_bd0 {a b:Nat→Int} (ha:∀ i,i<16→ -131072≤a i∧a i≤131072) (hb:∀ i,i<16→ -131072≤b i∧b i≤131072):∀ i:Nat,i≤16→∀ j:Nat,-(17179869184*(i:Int))≤tM a b i 0 j∧tM a b i 0 j≤17179869184*(i:Int)
 | 0,_,j=>by rw [tM_zero];simp
 | i+1,hi,j=>by
  rw [tM_row]
  have:=(tM_bd ha hb i (by omega) (tM_bd0 ha hb i (by omega)) 16 (by omega) j).1
  omega
theorem tM_lim {a b:Nat→Int} (ha:∀ i,i<16→ -131072≤a i∧a i≤131072) (hb:∀ i,i<16→ -131072≤b i∧b i≤131072) (i k:Nat) (hi:i≤16) (hk:k≤16) (hik:i<16∨k=0) (j:Nat): -274877906944≤tM a b i k j∧tM a b i k j≤274877906944:=by
 rcases hik with h | rfl
 ·have:=(tM_bd ha hb i h (tM_bd0 ha hb i hi) k hk j).1
  omega
 ·have:=tM_bd0 ha hb i hi j
  omega
def oF (t:Nat→Int) (i:Nat):Int:=if i<15 then t i+38*t (i+16) else t i
theorem oF_val (t:Nat→Int):valK (oF t) 16=valK t 31+ -2*(P:Int)*valK (fun i=>t (16+i)) 15:=by
 have h1:valK (oF t) 16=valK (fun i=>t i+(38*if i<15 then t (i+16) else 0)) 16:=valK_congr 16 fun i _=>by
  unfold oF;split <;> simp
 have h2:valK (fun i=>if i<15 then t (i+16) else 0) 16=valK (fun i=>t (16+i)) 15:=by
  show valK (fun i=>if i<15 then t (i+16) else 0) 15+(if 15<15 then t (15+16) else 0)*2 ^ (16*15)=_
  rw [if_neg (by omega),Int.zero_mul,Int.add_zero]
  exact valK_congr 15 fun i hi=>by rw [if_pos hi,Nat.add_comm]
 have h3:=valK_split t 16 15
 rw [h1,valK_add,valK_mul,h2,show 31=16+15 from rfl,h3,show 16*16=256 from rfl,P_two]
 generalize valK (fun i=>t (16+i)) 15=v
 generalize valK t 16=u
 generalize (P:Int)=p
 grind
def mulO (x y:El):Nat→Int:=oF (tM x.f y.f 16 0)
theorem mulO_bd (x y:El):∀ i,i<16→ -10720238370816≤mulO x y i∧mulO x y i≤10720238370816:=fun i _=>by
 have h1:=tM_lim x.h y.h 16 0 (by omega) (by omega) (.inr rfl) i
 have h2:=tM_lim x.h y.h 16 0 (by omega) (by omega) (.inr rfl) (i+16)
 unfold mulO oF
 split <;> omega
def mulC (x y:El):Nat→Int:=carryF (mulO x y)
theorem mulC_bd0 (x y:El): -8589934592≤mulC x y 0∧mulC x y 0≤8589934592:=by
 have hc:=cy_bd (C:=163600000) (mulO_bd x y) (by omega) (by omega) 16 (by omega)
 have:=carry_bd0 (mulO x y) hc
 unfold mulC
 omega
theorem mulC_bd1 (x y:El) (i:Nat) (h:0<i):0≤mulC x y i∧mulC x y i≤65535:=carry_bd1 _ h
def El.mul (x y:El):El:=⟨carryF (mulC x y),fun i hi=>by
 have hc:=(cy_small (mulC_bd0 x y) (fun i h _=>mulC_bd1 x y i h) 16 (by omega)).2.2 (by omega)
 rcases Nat.eq_zero_or_pos i with e | e
 ·subst e;have:=carry_bd0 (mulC x y) hc;omega
 ·have:=carry_bd1 (mulC x y) e;omega⟩
theorem El.mul_v (x y:El):(x.mul y).v=x.v*y.v:=by
 show elF (carryF (carryF (oF _)))=_
 rw [elF_carry,elF_carry]
 unfold elF
 rw [oF_val,show ∀ v:Int,-2*(P:Int)*v= -2*v*(P:Int) from fun v=>by grind,zF_P,tM_all _ _ 16 (by omega),zF_mul]
 rfl
def dg (n i:Nat):Nat:=n / 2 ^ (16*i) % 65536
theorem dg_lt (n i:Nat):dg n i<65536:=Nat.mod_lt _ (by omega)
theorem dg_val (n:Nat):∀ k,valK (fun i=>(dg n i:Int)) k=((n % 2 ^ (16*k):Nat):Int)
 | 0=>by simp [valK,Nat.mod_one]
 | k+1=>by
  unfold valK
  have hE:((2 ^ (16*k):Nat):Int)=(2:Int) ^ (16*k):=by norm_cast
  have hd:dg n k=n / 2 ^ (16*k) % 2 ^ 16:=rfl
  rw [dg_val n k,Nat.mul_succ,Nat.pow_add,Nat.mod_mul,Int.natCast_add,Int.natCast_mul,hE,← hd,Int.mul_comm]
def El.of (n:Nat):El:=⟨fun i=>(dg n i:Int),fun i _=>by have:=dg_lt n i;omega⟩
theorem El.of_v {n:Nat} (h:n<2 ^ 256):(El.of n).v=fe n:=by
 show zF (valK _ 16)=_
 rw [show (El.of n).f=fun i=>(dg n i:Int) from rfl,dg_val,Nat.mod_eq_of_lt h,zF_nat]
def El.zero:El:=El.of 0
def El.one:El:=El.of 1
def Nrm (f:Nat→Int):Prop:=∀ i,i<16→0≤f i∧f i≤65535
theorem nrm_val {f:Nat→Int} (h:Nrm f):∀ k,k≤16→0≤valK f k∧valK f k<2 ^ (16*k)
 | 0,_=>by simp [valK]
 | k+1,hk=>by
  have ih:=nrm_val h k (by omega)
  have hf:=h k (by omega)
  unfold valK
  rw [pow16s]
  generalize (2:Int) ^ (16*k)=E at *
  have h1:0≤f k*E:=Int.mul_nonneg hf.1 (by omega)
  have h2:f k*E≤65535*E:=Int.mul_le_mul_of_nonneg_right hf.2 (by omega)
  omega
theorem nrm_dg {f:Nat→Int} (h:Nrm f):∀ k,k≤16→∀ i,i<k→f i=(dg (valK f k).toNat i:Int)
 | 0,_,i,hi=>absurd hi (by omega)
 | k+1,hk,i,hi=>by
  have hv:=nrm_val h k (by omega)
  have hf:=h k (by omega)
  have e:(valK f (k+1)).toNat=(valK f k).toNat+2 ^ (16*k)*(f k).toNat:=by
   have:((2 ^ (16*k):Nat):Int)=(2:Int) ^ (16*k):=by norm_cast
   refine Int.ofNat_inj.1 ?_
   have h1:0≤f k*(2:Int) ^ (16*k):=Int.mul_nonneg hf.1 (by omega)
   have hvk:valK f (k+1)=valK f k+f k*2 ^ (16*k):=rfl
   rw [hvk,Int.toNat_of_nonneg (show 0≤valK f k+f k*2 ^ (16*k) by omega),Int.natCast_add,Int.natCast_mul,this,Int.toNat_of_nonneg hv.1,Int.toNat_of_nonneg hf.1]
   show valK f k+f k*2 ^ (16*k)=_
   grind
  have hlt:(valK f k).toNat<2 ^ (16*k):=by
   have:((2 ^ (16*k):Nat):Int)=(2:Int) ^ (16*k):=by norm_cast
   omega
  unfold dg
  rw [e]
  rcases Nat.lt_or_ge i k with h1 | h1
  ·rw [nrm_dg h k (by omega) i h1]
   unfold dg
   obtain ⟨d,hd⟩:∃ d,k=i+1+d:=⟨k - (i+1),by omega⟩
   rw [show 16*k=16*i+(16+16*d) from by omega,Nat.pow_add,Nat.mul_assoc,Nat.add_mul_div_left _ _ (Nat.two_pow_pos _),Nat.pow_add,Nat.mul_assoc,show (2:Nat) ^ 16=65536 from rfl,Nat.add_mul_mod_self_left]
  ·obtain rfl:i=k:=by omega
   rw [Nat.add_mul_div_left _ _ (Nat.two_pow_pos _),Nat.div_eq_of_lt hlt,Nat.zero_add]
   omega
theorem cy_nrm {f:Nat→Int} (h:Nrm f):∀ k,k≤16→cy f k=0
 | 0,_=>rfl
 | k+1,hk=>by
  have hf:=h k (by omega)
  unfold cy
  rw [cy_nrm h k (by omega)]
  omega
theorem carry_nrm {f:Nat→Int} (h:Nrm f):∀ i,i<16→carryF f i=f i:=fun i hi=>by
 have h1:=cy_nrm h 16 (by omega)
 have h2:=cy_nrm h i (by omega)
 have:=h i hi
 unfold carryF dgC
 rw [h1,h2]
 split <;> omega
theorem cy_congr {f g:Nat→Int}:∀ k,(∀ i,i<k→f i=g i)→cy f k=cy g k
 | 0,_=>rfl
 | k+1,h=>by unfold cy;rw [cy_congr k fun i hi=>h i (by omega),h k (by omega)]
theorem carry_congr {f g:Nat→Int} (h:∀ i,i<16→f i=g i):∀ i,i<16→carryF f i=carryF g i:=fun i hi=>by
 unfold carryF dgC
 rw [cy_congr 16 h,cy_congr i fun j hj=>h j (by omega),h i hi]
theorem cy_up {f:Nat→Int} (h0: -131072≤f 0∧f 0≤131071) (h:∀ i,0<i→i<16→0≤f i∧f i≤65535):∀ k,k≤16→0<k→(0<cy f k→f 0 ≥ 65536)∧(cy f k<0→f 0<0)∧ -2≤cy f k∧cy f k≤1
 | 0,_,h=>absurd h (by omega)
 | 1,_,_=>by
  have:cy f 1=(f 0+0) / 65536:=rfl
  omega
 | k+2,hk,_=>by
  have ih:=cy_up h0 h (k+1) (by omega) (by omega)
  have:=h (k+1) (by omega) (by omega)
  have e:cy f (k+2)=(f (k+1)+cy f (k+1)) / 65536:=rfl
  omega
theorem carry_two (x:El):Nrm (carryF (carryF x.f)):=by
 have hc:=cy_bd (C:=3) x.h (by omega) (by omega) 16 (by omega)
 have h0:=carry_bd0 x.f hc
 have h1:=fun i h=>carry_bd1 (i:=i) x.f h
 generalize carryF x.f=g at *
 have hs:=cy_small (f:=g) (by omega) (fun i h _=>h1 i h) 16 (by omega)
 have hs:=hs.2.2 (by omega)
 have hu:=cy_up (f:=g) (by omega) (fun i h _=>h1 i h) 16 (by omega) (by omega)
 intro i hi
 rcases Nat.eq_zero_or_pos i with e | e
 ·subst e
  unfold carryF dgC
  rw [if_pos rfl]
  have:cy g 0=0:=rfl
  omega
 ·exact carry_bd1 g e
def out4 (x:El):Nat→Int:=carryF (carryF (carryF (carryF x.f)))
theorem out4_nrm (x:El):Nrm (out4 x):=fun i hi=>by
 have h:=carry_two x
 have h3:=carry_nrm h
 have h4:out4 x i=carryF (carryF x.f) i:=(carry_congr h3 i hi).trans (h3 i hi)
 rw [h4];exact h i hi
theorem out4_v (x:El):elF (out4 x)=x.v:=by
 unfold out4
 rw [elF_carry,elF_carry,elF_carry,elF_carry]
 rfl
def outN (x:El):Nat:=(valK (out4 x) 16).toNat
theorem outN_lt (x:El):outN x<2 ^ 256:=by
 have:=nrm_val (out4_nrm x) 16 (by omega)
 unfold outN
 have e:((2 ^ 256:Nat):Int)=(2:Int) ^ (16*16):=by norm_cast
 omega
theorem outN_dg (x:El):∀ i,i<16→out4 x i=(dg (outN x) i:Int):=nrm_dg (out4_nrm x) 16 (by omega)
theorem outN_v (x:El):fe (outN x)=x.v:=by
 rw [← out4_v,← zF_nat]
 unfold outN
 rw [Int.toNat_of_nonneg (nrm_val (out4_nrm x) 16 (by omega)).1]
 rfl
theorem outN_mod (x:El):outN x % P=x.v.val:=by rw [← outN_v];rfl
def offP (n:Nat):Nat:=if n<P then n else n - P
theorem offP_three {n:Nat} (h:n<2 ^ 256):offP (offP (offP n))=n % P:=by
 have h2:2 ^ 256<3*P:=by decide +kernel
 unfold offP
 by_cases h0:n<P
 ·rw [if_pos h0,if_pos h0,if_pos h0,Nat.mod_eq_of_lt h0]
 ·rw [if_neg h0]
  by_cases h1:n - P<P
  ·rw [if_pos h1,if_pos h1]
   rw [Nat.mod_eq_sub_mod (by omega),Nat.mod_eq_of_lt h1]
  ·rw [if_neg h1]
   have h3:n - P - P<P:=by omega
   rw [if_pos h3,Nat.mod_eq_sub_mod (by omega),Nat.mod_eq_sub_mod (by omega),Nat.mod_eq_of_lt h3]
end Go.Proofs.YtoifhhljfaoejaaGreatDoor.R3
