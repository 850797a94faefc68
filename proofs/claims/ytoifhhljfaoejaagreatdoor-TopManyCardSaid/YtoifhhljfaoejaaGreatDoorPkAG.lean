/-
  Lemmas of the law, part 7: the walks of the functions that it calls and the plain facts about them. No condition beyond those written.
-/
import Derived.Test.YtoifhhljfaoejaaGreatDoorPkAA
import Derived.Test.YtoifhhljfaoejaaGreatDoorPkAF
namespace Go.Proofs.YtoifhhljfaoejaaGreatDoor
open Go.RowKit
set_option linter.unusedVariables false
set_option linter.unusedSimpArgs false
set_option maxHeartbeats 1000000 in
theorem mul64_any (x y:Nat) (hx:x<18446744073709551616) (hy:y<18446744073709551616) (w:World) :
 Calls Tryz.prog 144 #[.int .u64 x,.int .u64 y] w fun e w'=>e= .returned (.tuple #[.int .u64 ((x*y / 18446744073709551616:Nat):Int),.int .u64 ((x*y % 18446744073709551616:Nat):Int)])∧Below w.heap.size w w':=by
 obtain ⟨bd,bt,bw,hhi⟩:=Lib.mul64_hi x y hx hy
 have ba:=Lib.half_mul_le (a:=x / 4294967296) (b:=y / 4294967296) (by omega) (by omega)
 have bb:=Lib.half_mul_le (a:=x / 4294967296) (b:=y % 4294967296) (by omega) (by omega)
 have bc:=Lib.half_mul_le (a:=x % 4294967296) (b:=y / 4294967296) (by omega) (by omega)
 have ba':x / 4294967296*(y / 4294967296)<18446744073709551616:=by omega
 have bb':x / 4294967296*(y % 4294967296)<18446744073709551616:=by omega
 have bc':x % 4294967296*(y / 4294967296)<18446744073709551616:=by omega
 have bh1:x / 4294967296*(y / 4294967296)+(x / 4294967296*(y % 4294967296)+x % 4294967296*(y % 4294967296) / 4294967296) / 4294967296<18446744073709551616:=by omega
 have bh:x / 4294967296*(y / 4294967296)+(x / 4294967296*(y % 4294967296)+x % 4294967296*(y % 4294967296) / 4294967296) / 4294967296+((x / 4294967296*(y % 4294967296)+x % 4294967296*(y % 4294967296) / 4294967296) % 4294967296+x % 4294967296*(y / 4294967296)) / 4294967296<18446744073709551616:=by omega
 go_enter Tryz.func144,Tryz.ntmps144
 go_wp2
 simp only [Mul64.maskN x hx,Mul64.maskN y hy,Mul64.divN,Mul64.mulN,Mul64.addN,Mul64.wrapN _ bd,Mul64.wrapN _ bb',Mul64.wrapN _ bt,Mul64.maskN _ bt,Mul64.wrapN _ bc',Mul64.wrapN _ bw,Mul64.wrapN _ ba',Mul64.wrapN _ bh1,Mul64.wrapN _ bh,Mul64.wrapM (x*y)]
 rw [hhi]
 go_ret2
 exact ⟨rfl,Below.refl _ _⟩
instance iMul1:Ent 144:=Ent.of Tryz.func144 (by kernel_rfl) rfl
def oM (n m i:Nat):Nat:=n % 2 ^ (64*i)*m
def vM (n m i j:Nat):Nat:=oM n m i+lw n i*2 ^ (64*i)*(m % 2 ^ (64*j))
def cM (n m i j:Nat):Nat:=vM n m i j / 2 ^ (64*(i+j)) - oM n m i / 2 ^ (64*(i+j))
def fM (n m i j:Nat):Nat→Value:=fun k=>if k<i+j then lv (vM n m i j) k else lv (oM n m i) k
def rowM (n m i j:Nat):Array Value:=row 8 (fM n m i j)
def rowW (x:Nat):Array Value:=row 8 (lv x)
theorem p64 (k:Nat):2 ^ (64*(k+1))=2 ^ (64*k)*18446744073709551616:=by rw [Nat.mul_succ,Nat.pow_add]
theorem mod_succ (m j:Nat):m % 2 ^ (64*(j+1))=m % 2 ^ (64*j)+2 ^ (64*j)*lw m j:=by
 unfold lw;rw [p64,Nat.mod_mul]
theorem vM_step (n m i j:Nat):vM n m i (j+1)=vM n m i j+2 ^ (64*(i+j))*(lw n i*lw m j):=by
 unfold vM
 rw [mod_succ,Nat.mul_add 64 i j,Nat.pow_add,Nat.mul_add]
 generalize lw n i=x
 generalize lw m j=y
 generalize 2 ^ (64*i)=E
 generalize 2 ^ (64*j)=G
 grind
theorem div_add_mul (a E p:Nat) (h:0<E):(a+E*p) / E=a / E+p:=Nat.add_mul_div_left a p h
theorem vM_div (n m i j:Nat):vM n m i j / 2 ^ (64*(i+j))=oM n m i / 2 ^ (64*(i+j))+cM n m i j:=by
 unfold cM
 have:oM n m i / 2 ^ (64*(i+j))≤vM n m i j / 2 ^ (64*(i+j)):=Nat.div_le_div_right (by unfold vM;omega)
 omega
theorem mul_chain (p d c:Nat):((p % 18446744073709551616+d) % 18446744073709551616+c) % 18446744073709551616=(p+d+c) % 18446744073709551616 ∧
 p / 18446744073709551616+(p % 18446744073709551616+d) / 18446744073709551616+((p % 18446744073709551616+d) % 18446744073709551616+c) / 18446744073709551616=(p+d+c) / 18446744073709551616:=by omega
theorem vM_lo (n m i j:Nat):lw (vM n m i (j+1)) (i+j)=(lw n i*lw m j+lw (oM n m i) (i+j)+cM n m i j) % 18446744073709551616:=by
 show vM n m i (j+1) / 2 ^ (64*(i+j)) % 18446744073709551616=_
 rw [vM_step,div_add_mul _ _ _ (Nat.two_pow_pos _),vM_div]
 unfold lw
 omega
theorem vM_hi (n m i j:Nat):cM n m i (j+1)=(lw n i*lw m j+lw (oM n m i) (i+j)+cM n m i j) / 18446744073709551616:=by
 have h1:=vM_div n m i (j+1)
 rw [← Nat.add_assoc,p64,← Nat.div_div_eq_div_mul,← Nat.div_div_eq_div_mul,vM_step,div_add_mul _ _ _ (Nat.two_pow_pos _),vM_div] at h1
 unfold lw at *
 omega
theorem vM_low (n m i j k:Nat) (h:k<i+j):lw (vM n m i (j+1)) k=lw (vM n m i j) k:=by
 obtain ⟨e,he⟩:∃ e,i+j=k+1+e:=⟨i+j - (k+1),by omega⟩
 show vM n m i (j+1) / 2 ^ (64*k) % 18446744073709551616=vM n m i j / 2 ^ (64*k) % 18446744073709551616
 rw [vM_step,he,Nat.mul_add,Nat.pow_add,p64]
 generalize lw n i*lw m j=p
 rw [Nat.mul_assoc,Nat.mul_assoc,div_add_mul _ _ _ (Nat.two_pow_pos _),Nat.add_mul_mod_self_left]
theorem cM_lt (n m i:Nat):∀ j,cM n m i j<18446744073709551616
 | 0=>by unfold cM vM;simp [Nat.mod_one]
 | j+1=>by
  rw [vM_hi]
  have h1:=lw_lt n i
  have h2:=lw_lt m j
  have h3:=lw_lt (oM n m i) (i+j)
  have h4:=cM_lt n m i j
  have:lw n i*lw m j≤18446744073709551615*18446744073709551615:=Nat.mul_le_mul (by omega) (by omega)
  omega
theorem rowM_zero (n m i:Nat):rowM n m i 0=rowW (oM n m i):=row_congr fun k _=>by
 unfold fM vM
 split
 ·simp [Nat.mod_one]
 ·rfl
theorem rowM_step (n m i j:Nat):row 8 (upd (fM n m i j) (i+j) (.int .u64 (lw (vM n m i (j+1)) (i+j):Nat)))=rowM n m i (j+1):=row_congr fun k _=>by
 unfold upd fM
 by_cases e:k=i+j
 ·subst e;rw [if_pos rfl,if_pos (by omega)];rfl
 ·rw [if_neg e]
  by_cases h:k<i+j
  ·rw [if_pos h,if_pos (by omega)];unfold lv;rw [vM_low n m i j k h]
  ·rw [if_neg h,if_neg (by omega)]
theorem vM_full (n m i:Nat) (hm:m<2 ^ 256):vM n m i 4=oM n m (i+1):=by
 unfold vM oM
 rw [show 64*4=256 from rfl,Nat.mod_eq_of_lt hm,mod_succ,Nat.add_mul,Nat.mul_comm (lw n i)]
theorem oM_lt (n m i k:Nat) (hm:m<2 ^ 256) (hk:i+4≤k):oM n m i<2 ^ (64*k):=by
 unfold oM
 have h1:=Nat.mod_lt n (Nat.two_pow_pos (64*i))
 have:n % 2 ^ (64*i)*m<2 ^ (64*i)*2 ^ 256:=Nat.mul_lt_mul_of_lt_of_lt h1 hm
 rw [← Nat.pow_add] at this
 exact Nat.lt_of_lt_of_le this (Nat.pow_le_pow_right (by omega) (by omega))
theorem lw_big {x k:Nat} (h:x<2 ^ (64*k)):lw x k=0:=by unfold lw;rw [Nat.div_eq_of_lt h]
theorem rowM_full (n m i:Nat) (hm:m<2 ^ 256):row 8 (upd (fM n m i 4) (i+4) (.int .u64 (cM n m i 4:Nat)))=rowM n m (i+1) 0:=row_congr fun k _=>by
 rw [show fM n m (i+1) 0 k=lv (oM n m (i+1)) k from by
  unfold fM
  split
  ·unfold vM;simp [Nat.mod_one]
  ·rfl]
 unfold upd fM
 by_cases e:k=i+4
 ·subst e
  rw [if_pos rfl]
  unfold lv
  have h1:=vM_div n m i 4
  rw [Nat.div_eq_of_lt (oM_lt n m i (i+4) hm (Nat.le_refl _)),Nat.zero_add] at h1
  have:lw (oM n m (i+1)) (i+4)=cM n m i 4:=by
   rw [← vM_full n m i hm]
   show vM n m i 4 / 2 ^ (64*(i+4)) % 18446744073709551616=_
   rw [h1,Nat.mod_eq_of_lt (cM_lt n m i 4)]
  rw [this]
 ·rw [if_neg e]
  by_cases h:k<i+4
  ·rw [if_pos h,vM_full n m i hm]
  ·rw [if_neg h]
   unfold lv
   rw [lw_big (oM_lt n m i k hm (by omega)),lw_big (oM_lt n m (i+1) k hm (by omega))]
theorem rowM_end (n m:Nat) (hn:n<2 ^ 256):rowM n m 4 0=rowW (n*m):=by
 rw [rowM_zero];unfold oM
 rw [show 64*4=256 from rfl,Nat.mod_eq_of_lt hn]
theorem oM_zero (n m:Nat):oM n m 0=0:=by unfold oM;simp [Nat.mod_one]
instance iMul2:RowTy 261 8:=⟨⟨_,Tryz.underlying261,rfl⟩,by kernel_rfl⟩
instance iMul3:RowZ 261 (rowW 0):=⟨by kernel_rfl⟩
instance iMul4 (x:Nat):Row1 (rowW x) 8:=⟨row_size _ _,by simp [rowW,row,lv,Value.oneCell']⟩
set_option maxRecDepth 100000 in
set_option maxHeartbeats 2000000 in
theorem mul_any (n m:Nat) (hn:n<2 ^ 256) (hm:m<2 ^ 256) (w:World):Calls Tryz.prog 298 #[.agg (rowL n),.agg (rowL m)] w fun e w'=>e= .returned (.agg (rowW (n*m)))∧Below w.heap.size w w':=by
 have hL:=Loc.nil w
 have HE:=Lib.hid (rowM_end n m hn)
 have HF:=Lib.hid (fun i=>rowM_full n m i hm)
 clear hn hm
 go_enter Tryz.func298,Tryz.ntmps298
 go_wp2_with (first | ((with_reducible refine gS 2 ?_);refine aBp ?_;clear hL;intro b2 w1 hL) | ((with_reducible refine gS 3 ?_);refine aBp ?_;clear hL;intro b3 w1 hL) | ((with_reducible refine gS 4 ?_);refine aBp ?_;clear hL;intro b4 w1 hL) | ((with_reducible refine gS 5 ?_);refine aBp ?_;clear hL;intro b5 w1 hL) | (refine aL4S2C9q ?_;clear hL;intro w1 hL) | (refine aX1A1q ?_;clear hL;intro b w1 hL))
 go_loopw [12] (fun i wr=>∃ k:Nat,k≤4∧i= .int .i64 k∧Loc w wr [(b5,rowM n m k 0,261),(b4,rowW 0,261),(b3,rowL m,311),(b2,rowL n,311)]) (fun i _=>4 - (intOf i).toNat)
 case atStart=>exact ⟨0,by omega,rfl,by rw [rowM_zero,oM_zero];exact hL⟩
 case round =>
  clear hL
  obtain ⟨i,hi,rfl,hL⟩:=hrel
  by_cases hlt:i<4
  ·have hi0:(0:Int)≤(i:Int):=by omega
   have hi1:(i:Int)<4:=by omega
   have c0:=Lib.hid (show cM n m i 0=0 from by unfold cM vM;simp [Nat.mod_one])
   go_wp2_with fail
   go_loopw [7,15] (fun c jj wr=>∃ j:Nat,j≤4∧jj= .int .i64 j∧c= .int .u64 (cM n m i j:Nat)∧Loc w wr [(b5,rowM n m i j,261),(b4,rowW 0,261),(b3,rowL m,311),(b2,rowL n,311)]) (fun _ jj _=>4 - (intOf jj).toNat)
   case atStart=>exact ⟨0,by omega,rfl,by rw [c0.out];rfl,hL⟩
   case round =>
    clear hL
    obtain ⟨j,hj,rfl,rfl,hL⟩:=hrel
    by_cases hjl:j<4
    ·have hj0:(0:Int)≤(j:Int):=by omega
     have hj1:(j:Int)<4:=by omega
     have hx:=lw_lt n i
     have hy:=lw_lt m j
     have hdl:=lw_lt (oM n m i) (i+j)
     have hcl:=cM_lt n m i j
     have hcl':=cM_lt n m i (j+1)
     have hlo:=vM_lo n m i j
     have hhi:=vM_hi n m i j
     have hst:=rowM_step n m i j
     obtain ⟨q1,q2⟩:=mul_chain (lw n i*lw m j) (lw (oM n m i) (i+j)) (cM n m i j)
     rw [← hlo] at q1
     rw [← hhi] at q2
     haveI g1:Cell (rowL n) i (.int .u64 (lw n i:Nat)):=row_cell _ hlt
     haveI g2:Cell (rowL m) j (.int .u64 (lw m j:Nat)):=row_cell _ hjl
     haveI g3:Cell (rowM n m i j) (i+j) (.int .u64 (lw (oM n m i) (i+j):Nat)):=⟨(row_get _ (by omega)).trans (by unfold fM;rw [if_neg (by omega)];rfl)⟩
     haveI g4:Put (rowM n m i j) (i+j) (.int .u64 (lw (vM n m i (j+1)) (i+j):Nat)) (rowM n m i (j+1)):=row_put (by omega) hst
     haveI g5:FnC 144 #[.int .u64 (lw n i:Nat),.int .u64 (lw m j:Nat)] (.tuple #[.int .u64 ((lw n i*lw m j / 18446744073709551616:Nat):Int),.int .u64 ((lw n i*lw m j % 18446744073709551616:Nat):Int)]):=⟨mul64_any _ _ hx hy⟩
     have a1:=add64_run (lw n i*lw m j % 18446744073709551616) (lw (oM n m i) (i+j)) 0 (by omega)
     have a2:=add64_run ((lw n i*lw m j % 18446744073709551616+lw (oM n m i) (i+j)) % 18446744073709551616) (cM n m i j) 0 (by omega)
     simp only [Nat.add_zero] at a1 a2
     rw [q1] at a2
     generalize hp:lw n i*lw m j=p at *
     generalize lw (vM n m i (j+1)) (i+j)=lo2 at *
     generalize hcc:cM n m i (j+1)=c' at *
     generalize lw (oM n m i) (i+j)=d at *
     generalize cM n m i j=c at *
     generalize hh:p / 18446744073709551616=hi64 at *
     generalize hlo0:p % 18446744073709551616=lo at *
     generalize hx1:(lo+d) / 18446744073709551616=x1 at *
     generalize hlo1:(lo+d) % 18446744073709551616=lo1 at *
     generalize hx2:(lo1+c) / 18446744073709551616=x2 at *
     have w1':IntKind.u64.wrap ((hi64:Int)+(x1:Int))=((hi64+x1:Nat):Int):=by rw [IntKind.wrap_u64];omega
     have w2':IntKind.u64.wrap (((hi64+x1:Nat):Int)+(x2:Int))=(c':Int):=by rw [IntKind.wrap_u64];omega
     have hk:(i:Int)+(j:Int)=((i+j:Nat):Int):=by omega
     generalize hij:i+j=k at *
     generalize hi64+x1=h1 at *
     have hk8:(k:Int)<8:=by omega
     have hk0:(0:Int)≤(k:Int):=by omega
     have a1:∀ w,(callFunc 299 #[.int .u64 (lo:Int),.int .u64 (d:Int),.int .u64 0]).run Tryz.prog w=_:=a1
     have a2:∀ w,(callFunc 299 #[.int .u64 (lo1:Int),.int .u64 (c:Int),.int .u64 0]).run Tryz.prog w=_:=a2
     have HC:=Lib.hid hcc
     clear hcc hx hy hdl hcl hcl' hlo hhi hst q1 q2 hp hh hlo0 hx1 hlo1 hx2 hij c0 hi hj HE
     go_wp2_with fail
     refine wp_region_free [(0,true),(1,true),(2,false),(3,true),(4,true),(5,false),(6,false),(7,true),(8,true),(9,true),(10,true),(11,true)] [] [] (by kernel_rfl) (by kernel_rfl) trivial hL ?_
     refine pF ?_
     repeat refine rS ?_
     refine seqO_nil ?_
     refine seqM_nil fun w1 hL1=>?_
     simp only [List.cons_append,List.nil_append] at hL1
     clear hL;have hL:=hL1;clear hL1
     refine p4 ?_
     refine wpList_nil (NoPanic.normal ?_)
     go_wp2_with (first | (refine aL4S2C9q ?_;clear hL;intro w1 hL) | (refine aX1A1q ?_;clear hL;intro b w1 hL))
     go_roundw
     case rel=>exact ⟨j+1,by omega,by go_num,by rw [HC.out],hL⟩
     case measure=>simp [intOf];omega
    ·obtain rfl:j=4:=by omega
     haveI g4:Put (rowM n m i 4) (i+4) (.int .u64 (cM n m i 4:Nat)) (rowM n m (i+1) 0):=row_put (by omega) (HF.out i)
     generalize cM n m i 4=c at *
     clear hj hjl hi HE c0
     have hk:(i:Int)+4=((i+4:Nat):Int):=by omega
     generalize hij:i+4=k at *
     have hk8:(k:Int)<8:=by omega
     have hk0:(0:Int)≤(k:Int):=by omega
     clear hij
     go_wp2_with (first | (refine aL4S2C9q ?_;clear hL;intro w1 hL) | (refine aX1A1q ?_;clear hL;intro b w1 hL))
     go_roundw
     case rel=>exact ⟨i+1,by omega,by go_num,hL⟩
     case measure=>simp [intOf];omega
  ·obtain rfl:i=4:=by omega
   rw [HE.out] at hL
   go_wp2_with (first | (refine aL4S2C9q ?_;clear hL;intro w1 hL) | (refine aX1A1q ?_;clear hL;intro b w1 hL))
   exact bodyPost_ret (results_loc rfl hL rfl) rfl ⟨rfl,hL.bel⟩
end Go.Proofs.YtoifhhljfaoejaaGreatDoor
namespace Go.Proofs.YtoifhhljfaoejaaGreatDoor
open Go.RowKit
set_option linter.unusedVariables false
set_option linter.unusedSimpArgs false
def sT (x:Nat):Nat:=x % 2 ^ 256+38*(x / 2 ^ 256)
def cT (x k:Nat):Nat:=(x % 2 ^ 256 % 2 ^ (64*k)+38*(x / 2 ^ 256 % 2 ^ (64*k))) / 2 ^ (64*k)
theorem lw_hi (x k:Nat):lw x (k+4)=lw (x / 2 ^ 256) k:=by
 unfold lw
 rw [Nat.div_div_eq_div_mul,← Nat.pow_add,show 64*(k+4)=256+64*k from by omega]
theorem t_chain (p d c:Nat):((p % 18446744073709551616+c) % 18446744073709551616+d) % 18446744073709551616=(p+d+c) % 18446744073709551616 ∧
 p / 18446744073709551616+(p % 18446744073709551616+c) / 18446744073709551616+((p % 18446744073709551616+c) % 18446744073709551616+d) / 18446744073709551616=(p+d+c) / 18446744073709551616:=by omega
theorem mod_div_split (a E:Nat) (h:0<E):a=E*(a / E)+a % E:=(Nat.div_add_mod a E).symm
theorem sT_dig (x:Nat) {k:Nat} (h:k<4):lw (sT x) k=(lw x (k+4)*38+lw x k+cT x k) % 18446744073709551616:=by
 rw [lw_hi,← lw_mod x k h]
 unfold sT cT
 generalize x % 2 ^ 256=a
 generalize x / 2 ^ 256=b
 unfold lw
 have hE:=Nat.two_pow_pos (64*k)
 generalize 2 ^ (64*k)=E at *
 have ha:=mod_div_split a E hE
 have hb:=mod_div_split b E hE
 have e:a+38*b=a % E+38*(b % E)+E*(a / E+38*(b / E)):=by
  have:E*(a / E+38*(b / E))=E*(a / E)+38*(E*(b / E)):=by grind
  omega
 rw [e,div_add_mul _ _ _ hE]
 generalize a / E=u
 generalize b / E=v
 omega
theorem cT_step (x:Nat) (k:Nat) (h:k<4):cT x (k+1)=(lw x (k+4)*38+lw x k+cT x k) / 18446744073709551616:=by
 rw [lw_hi,← lw_mod x k h]
 unfold cT
 generalize x % 2 ^ 256=a
 generalize x / 2 ^ 256=b
 rw [mod_succ,mod_succ,p64,← Nat.div_div_eq_div_mul]
 have hE:=Nat.two_pow_pos (64*k)
 generalize lw a k=u
 generalize lw b k=v
 generalize 2 ^ (64*k)=E at *
 have e:a % E+E*u+38*(b % E+E*v)=a % E+38*(b % E)+E*(u+38*v):=by grind
 rw [e,div_add_mul _ _ _ hE]
 congr 1
 omega
theorem cT_le (x:Nat):∀ k,k≤4→cT x k≤38
 | 0,_=>by unfold cT;simp [Nat.mod_one]
 | k+1,h=>by
  rw [cT_step x k (by omega)]
  have h1:=lw_lt x (k+4)
  have h2:=lw_lt x k
  have h3:=cT_le x k (by omega)
  omega
def W2:Nat:=2 ^ 256*2 ^ 256
theorem P_sq:P*P≤W2:=by decide +kernel
theorem cT_end (x:Nat) (h:x<W2):cT x 4=sT x / 2 ^ 256:=by
 unfold cT sT
 have h2:x / 2 ^ 256<2 ^ 256:=by rw [Nat.div_lt_iff_lt_mul (Nat.two_pow_pos _)];exact h
 rw [show 64*4=256 from rfl,Nat.mod_mod,Nat.mod_eq_of_lt h2]
theorem sT_mod (x:Nat):(sT x % 2 ^ 256+2 ^ 256*(sT x / 2 ^ 256)) % P=x % P:=by
 rw [Nat.mod_add_div]
 have e:2 ^ 256=38+2*P:=by decide +kernel
 have hx:x=sT x+P*(2*(x / 2 ^ 256)):=by
  have h:=Nat.mod_add_div x (2 ^ 256)
  unfold sT
  have:2 ^ 256*(x / 2 ^ 256)=38*(x / 2 ^ 256)+P*(2*(x / 2 ^ 256)):=by
   have:∀ y,2 ^ 256*y=38*y+P*(2*y):=fun y=>by rw [e];grind
   exact this _
  omega
 have h2:=congrArg (· % P) hx
 simp only [Nat.add_mul_mod_self_left] at h2
 exact h2.symm
instance iTimes1:Ent 298:=Ent.of Tryz.func298 (by kernel_rfl) rfl
set_option maxRecDepth 100000 in
set_option maxHeartbeats 2000000 in
theorem times_any (a b:F) (w:World):Calls Tryz.prog 272 #[.agg (rowL a.val),.agg (rowL b.val)] w fun e w'=>e= .returned (.agg (rowL (a*b).val))∧Below w.heap.size w w':=by
 have hL:=Loc.nil w
 have ha:=a.isLt
 have hb:=b.isLt
 have hx:a.val*b.val<W2:=by
  have:=Nat.mul_lt_mul_of_lt_of_lt ha hb
  exact Nat.lt_of_lt_of_le this P_sq
 have hp6:P<2 ^ 256:=by decide +kernel
 haveI f1:FnC 298 #[.agg (rowL a.val),.agg (rowL b.val)] (.agg (rowW (a.val*b.val))):=⟨mul_any _ _ (Nat.lt_trans ha hp6) (Nat.lt_trans hb hp6)⟩
 have hv:(a*b).val=a.val*b.val % P:=Fin.val_mul a b
 rw [hv]
 generalize hxx:a.val*b.val=x at *
 generalize a.val=n at *
 generalize b.val=m at *
 haveI f2:FnC 300 #[.agg (rowL (sT x)),.int .u64 (cT x 4:Nat)] (.agg (rowL (x % P))):=⟨fun w=>by
  have:=fold_any (sT x % 2 ^ 256) (cT x 4) (Nat.mod_lt _ (Nat.two_pow_pos _)) (by have:=cT_le x 4 (Nat.le_refl _);omega) w
  rw [cT_end x hx,sT_mod,rowL_mod,← cT_end x hx] at this
  exact this⟩
 have z0:=Lib.hid (show cT x 0=0 from by unfold cT;simp [Nat.mod_one])
 have z1:=Lib.hid (rowLk_zero (sT x))
 have z2:=Lib.hid (rowLk_full (sT x))
 generalize hr:x % P=r at *
 clear ha hb hp6 hx hv hr hxx
 go_enter Tryz.func272,Tryz.ntmps272
 go_wp2_with (first | ((with_reducible refine gS 2 ?_);refine aBp ?_;clear hL;intro b2 w1 hL) | ((with_reducible refine gS 3 ?_);refine aBp ?_;clear hL;intro b3 w1 hL) | ((with_reducible refine gS 4 ?_);refine aBp ?_;clear hL;intro b4 w1 hL) | ((with_reducible refine gS 5 ?_);refine aBp ?_;clear hL;intro b5 w1 hL) | ((with_reducible refine gS 6 ?_);refine aBp ?_;clear hL;intro b6 w1 hL) | (refine aL4S2C9q ?_;clear hL;intro w1 hL) | (refine aX1A1q ?_;clear hL;intro b w1 hL))
 go_loopw [7,15] (fun c kk wr=>∃ k:Nat,k≤4∧kk= .int .i64 k∧c= .int .u64 (cT x k:Nat)∧Loc w wr [(b6,rowLk (sT x) k,311),(b5,rowW x,261),(b4,rowL 0,311),(b3,rowL m,311),(b2,rowL n,311)]) (fun _ kk _=>4 - (intOf kk).toNat)
 case atStart=>exact ⟨0,by omega,rfl,by rw [z0.out];rfl,by rw [z1.out];exact hL⟩
 case round =>
  clear hL
  obtain ⟨k,hk,rfl,rfl,hL⟩:=hrel
  by_cases hlt:k<4
  ·have hk0:(0:Int)≤(k:Int):=by omega
   have hk1:(k:Int)<4:=by omega
   have hy:=lw_lt x (k+4)
   have hdl:=lw_lt x k
   have hcl:=cT_le x k hk
   have hlo:=sT_dig x hlt
   have hhi:=cT_step x k hlt
   have hst:=rowLk_step (sT x) k
   obtain ⟨q1,q2⟩:=t_chain (lw x (k+4)*38) (lw x k) (cT x k)
   rw [← hlo] at q1
   rw [← hhi] at q2
   haveI g1:Cell (rowW x) (k+4) (.int .u64 (lw x (k+4):Nat)):=row_cell _ (by omega)
   haveI g2:Cell (rowW x) k (.int .u64 (lw x k:Nat)):=row_cell _ (by omega)
   haveI g4:Put (rowLk (sT x) k) k (.int .u64 (lw (sT x) k:Nat)) (rowLk (sT x) (k+1)):=row_put hlt hst
   haveI g5:FnC 144 #[.int .u64 (lw x (k+4):Nat),.int .u64 38] (.tuple #[.int .u64 ((lw x (k+4)*38 / 18446744073709551616:Nat):Int),.int .u64 ((lw x (k+4)*38 % 18446744073709551616:Nat):Int)]):=⟨mul64_any _ 38 hy (by omega)⟩
   have a1:=add64_run (lw x (k+4)*38 % 18446744073709551616) (cT x k) 0 (by omega)
   have a2:=add64_run ((lw x (k+4)*38 % 18446744073709551616+cT x k) % 18446744073709551616) (lw x k) 0 (by omega)
   simp only [Nat.add_zero] at a1 a2
   rw [q1] at a2
   have hc':=cT_le x (k+1) (by omega)
   generalize hp:lw x (k+4)*38=p at *
   generalize lw (sT x) k=lo2 at *
   generalize hcc:cT x (k+1)=c' at *
   generalize lw x k=d at *
   generalize cT x k=c at *
   generalize hh:p / 18446744073709551616=hi64 at *
   generalize hlo0:p % 18446744073709551616=lo at *
   generalize hx1:(lo+c) / 18446744073709551616=x1 at *
   generalize hlo1:(lo+c) % 18446744073709551616=lo1 at *
   generalize hx2:(lo1+d) / 18446744073709551616=x2 at *
   have w1':IntKind.u64.wrap ((hi64:Int)+(x1:Int))=((hi64+x1:Nat):Int):=by rw [IntKind.wrap_u64];omega
   have w2':IntKind.u64.wrap (((hi64+x1:Nat):Int)+(x2:Int))=(c':Int):=by rw [IntKind.wrap_u64];omega
   have hk4:(k:Int)+4=((k+4:Nat):Int):=by omega
   generalize hij:k+4=k4 at *
   generalize hi64+x1=h1 at *
   have hk8:(k4:Int)<8:=by omega
   have hk80:(0:Int)≤(k4:Int):=by omega
   have hkk:(k:Int)<8:=by omega
   have a1:∀ w,(callFunc 299 #[.int .u64 (lo:Int),.int .u64 (c:Int),.int .u64 0]).run Tryz.prog w=_:=a1
   have a2:∀ w,(callFunc 299 #[.int .u64 (lo1:Int),.int .u64 (d:Int),.int .u64 0]).run Tryz.prog w=_:=a2
   have HC:=Lib.hid hcc
   clear hcc hy hdl hcl hlo hhi hst q1 q2 hp hh hlo0 hx1 hlo1 hx2 hij z0 z1 z2 hc'
   go_wp2_with (first | (refine aL4S2C9q ?_;clear hL;intro w1 hL) | (refine aX1A1q ?_;clear hL;intro b w1 hL))
   go_roundw
   case rel=>exact ⟨k+1,by omega,by go_num,by rw [HC.out],hL⟩
   case measure=>simp [intOf];omega
  ·obtain rfl:k=4:=by omega
   rw [z2.out] at hL
   go_wp2_with (first | (refine aL4S2C9q ?_;clear hL;intro w1 hL) | (refine aX1A1q ?_;clear hL;intro b w1 hL))
   exact bodyPost_ret (results_loc rfl hL rfl) rfl ⟨rfl,hL.bel⟩
instance iTimes2:Ent 272:=Ent.of Tryz.func272 (by kernel_rfl) rfl
instance iTimes3 (a b:F):FnC 272 #[.agg (rowL a.val),.agg (rowL b.val)] (.agg (rowL (a*b).val)):=⟨times_any a b⟩
end Go.Proofs.YtoifhhljfaoejaaGreatDoor
