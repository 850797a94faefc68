/-
  Lemmas of the law, part 6: the walks of the functions that it calls and the plain facts about them. No condition beyond those written.
-/
import Derived.Test.YtoifhhljfaoejaaGreatDoorPkAE
import Derived.Test.YtoifhhljfaoejaaGreatDoorPkAA
import Derived.Test.YtoifhhljfaoejaaGreatDoorPkAD
namespace Go.Proofs.YtoifhhljfaoejaaGreatDoor
def P:Nat:=57896044618658097711785492504343953926634992332820282019728792003956564819949
theorem P_prime:Pr P:=pr_P
theorem P_pos:0<P:=by decide +kernel
instance iEdw1:NeZero P:=⟨by decide +kernel⟩
abbrev F:=Fin P
def fe (n:Nat):F:=Fin.ofNat P n
theorem fe_val (n:Nat):(fe n).val=n % P:=rfl
theorem fe_of_val (a:F):fe a.val=a:=Fin.ext (Nat.mod_eq_of_lt a.isLt)
theorem f_dom {a b:F} (h:a*b=0):a=0∨b=0:=by
 have h':(a.val*b.val) % P=0:=by have:=congrArg Fin.val h;simpa [Fin.val_mul] using this
 rcases P_prime.euclid (Nat.dvd_of_mod_eq_zero h') with h | h
 ·refine .inl (Fin.ext ?_)
  rw [← Nat.mod_eq_of_lt a.isLt,Nat.mod_eq_zero_of_dvd h];rfl
 ·refine .inr (Fin.ext ?_)
  rw [← Nat.mod_eq_of_lt b.isLt,Nat.mod_eq_zero_of_dvd h];rfl
theorem f_ne_mul {a b:F} (ha:a≠0) (hb:b≠0):a*b≠0:=fun h=>(f_dom h).elim ha hb
theorem f_cancel {a b c:F} (hc:c≠0) (h:a*c=b*c):a=b:=by
 have:(a - b)*c=0:=by grind
 rcases f_dom this with e | e
 ·grind
 ·exact absurd e hc
def pw (a:F):Nat→F
 | 0=>1
 | n+1=>pw a n*a
theorem pw_add (a:F) (m:Nat):∀ n,pw a (m+n)=pw a m*pw a n
 | 0=>by show pw a m=pw a m*1;grind
 | n+1=>by show pw a (m+n)*a=pw a m*(pw a n*a);rw [pw_add a m n];grind
theorem pw_mul (a:F) (m:Nat):∀ n,pw a (m*n)=pw (pw a m) n
 | 0=>rfl
 | n+1=>by rw [Nat.mul_succ,pw_add,pw_mul a m n];rfl
theorem pw_val (a:F):∀ n,(pw a n).val=a.val ^ n % P
 | 0=>rfl
 | n+1=>by
  show (pw a n*a).val=_
  rw [Fin.val_mul,pw_val a n,Nat.pow_succ,Nat.mod_mul_mod]
theorem pw_zero_base:∀ n,0<n→pw (0:F) n=0
 | n+1,_=>by show pw (0:F) n*0=0;grind
theorem f_fermat {a:F} (h:a≠0):pw a (P - 1)=1:=by
 refine Fin.ext ?_
 rw [pw_val]
 refine (P_prime.fermat fun hd=>h (Fin.ext ?_)).trans (by decide +kernel)
 rw [← Nat.mod_eq_of_lt a.isLt,Nat.mod_eq_zero_of_dvd hd];rfl
noncomputable def hide (x:F):F:=Classical.choose (⟨x,rfl⟩:∃ y,y=x)
theorem hide_eq (x:F):hide x=x:=Classical.choose_spec (⟨x,rfl⟩:∃ y,y=x)
noncomputable def inv (a:F):F:=hide (pw a (P - 2))
theorem inv_pw (a:F):inv a=pw a (P - 2):=hide_eq _
theorem mul_inv {a:F} (h:a≠0):a*inv a=1:=by
 have:=f_fermat h
 rw [show P - 1=(P - 2)+1 from by decide +kernel] at this
 have e:pw a (P - 2+1)=inv a*a:=by rw [inv_pw];rfl
 grind
theorem eq_mul_inv {a b c:F} (hb:b≠0) (h:a*b=c):a=c*inv b:=by
 have:=mul_inv hb
 grind
theorem two_ne:(2:F)≠0:=by decide +kernel
theorem one_ne:(1:F)≠0:=by decide +kernel
def dF:F:=fe 37095705934669439343138083508754565189542113879843219016388785533085940283555
def iF:F:=fe 19681161376707505956807079304988542015446066515923890162744021073123829784752
theorem i_sq:iF*iF= -1:=by decide +kernel
theorem nonsq_pow:(powF P 255 (P - dF.val) ((P - 1) / 2) == 1)=false:=by decide +kernel
theorem negd_val:(-dF).val=P - dF.val:=by decide +kernel
theorem nonsq {u v:F} (h:u*u= -dF*(v*v)):v=0:=by
 refine Classical.byContradiction fun hv=>?_
 have hd:(u*inv v)*(u*inv v)= -dF:=by
  have:=mul_inv hv
  grind
 have hu:u*inv v≠0:=by
  intro e
  rw [e] at hd
  have hd0:dF≠0:=by decide +kernel
  grind
 have hf:=f_fermat hu
 rw [show P - 1=2*((P - 1) / 2) from by decide +kernel,pw_mul] at hf
 have e2:pw (u*inv v) 2= -dF:=by
  have:pw (u*inv v) 2=1*(u*inv v)*(u*inv v):=rfl
  grind
 rw [e2] at hf
 have hval:=congrArg Fin.val hf
 rw [pw_val,negd_val,← powF_eq P 255 _ _ (by decide +kernel)] at hval
 have h2:=nonsq_pow
 rw [hval] at h2
 exact absurd h2 (by decide +kernel)
structure Pt where
 x:F
 y:F
def On (p:Pt):Prop:=p.y*p.y - p.x*p.x=1+dF*p.x*p.x*p.y*p.y
theorem aux_two (ε i:F):2*ε*ε*i*i=2*(ε*ε)*(i*i):=by grind
theorem aux_neg (a:F) (h:a*1* -1=0):a=0:=by grind
theorem aux_z1 (d x y:F):1+d*x*0*y*1=1:=by
 have:d*x*0*y*1=0:=by grind
 rw [this];rfl
theorem aux_z2 (d x y:F):1 - d*x*0*y*1=1:=by
 have:d*x*0*y*1=0:=by grind
 rw [this];rfl
theorem complete {p q:Pt} (hp:On p) (hq:On q) (h:(dF*p.x*q.x*p.y*q.y)*(dF*p.x*q.x*p.y*q.y)=1):False:=by
 obtain ⟨x1,y1⟩:=p
 obtain ⟨x2,y2⟩:=q
 unfold On at hp hq
 simp only at hp hq h
 have hi:=i_sq
 generalize iF=i at *
 generalize he:dF*x1*x2*y1*y2=ε at *
 have s1:(i*x1+ε*y1)*(i*x1+ε*y1)= -dF*((i*x1*y1*(i*x2+y2))*(i*x1*y1*(i*x2+y2))):=by subst he;grind
 have s2:(i*x1 - ε*y1)*(i*x1 - ε*y1)= -dF*((i*x1*y1*(i*x2 - y2))*(i*x1*y1*(i*x2 - y2))):=by subst he;grind
 have z1:=nonsq s1
 have z2:=nonsq s2
 have h3:(2:F)*ε*ε*i*i=0:=by grind
 rw [aux_two,h,hi] at h3
 exact two_ne (aux_neg _ h3)
theorem den_pos {p q:Pt} (hp:On p) (hq:On q):1+dF*p.x*q.x*p.y*q.y≠0:=fun h=>complete hp hq (by grind)
theorem den_neg {p q:Pt} (hp:On p) (hq:On q):1 - dF*p.x*q.x*p.y*q.y≠0:=fun h=>complete hp hq (by grind)
noncomputable def padd (p q:Pt):Pt:=⟨(p.x*q.y+p.y*q.x)*inv (1+dF*p.x*q.x*p.y*q.y),(p.y*q.y+p.x*q.x)*inv (1 - dF*p.x*q.x*p.y*q.y)⟩
def pO:Pt:=⟨0,1⟩
theorem Pt.ext' {p q:Pt} (h1:p.x=q.x) (h2:p.y=q.y):p=q:=by cases p;cases q;cases h1;cases h2;rfl
theorem on_O:On pO:=by unfold On pO;simp only;grind
theorem padd_x {p q:Pt} (hp:On p) (hq:On q):(padd p q).x*(1+dF*p.x*q.x*p.y*q.y)=p.x*q.y+p.y*q.x:=by
 have:=mul_inv (den_pos hp hq)
 unfold padd;simp only
 grind
theorem padd_y {p q:Pt} (hp:On p) (hq:On q):(padd p q).y*(1 - dF*p.x*q.x*p.y*q.y)=p.y*q.y+p.x*q.x:=by
 have:=mul_inv (den_neg hp hq)
 unfold padd;simp only
 grind
theorem closed_id (x1 y1 x2 y2 d:F) (h1:y1*y1 - x1*x1=1+d*x1*x1*y1*y1) (h2:y2*y2 - x2*x2=1+d*x2*x2*y2*y2) :
 (y1*y2+x1*x2)*(y1*y2+x1*x2)*((1+d*x1*x2*y1*y2)*(1+d*x1*x2*y1*y2)) - (x1*y2+y1*x2)*(x1*y2+y1*x2)*((1-d*x1*x2*y1*y2)*(1-d*x1*x2*y1*y2))=(1-d*x1*x2*y1*y2)*(1-d*x1*x2*y1*y2)*((1+d*x1*x2*y1*y2)*(1+d*x1*x2*y1*y2))+d*(y1*y2+x1*x2)*(y1*y2+x1*x2)*(x1*y2+y1*x2)*(x1*y2+y1*x2):=by grind
theorem on_add {p q:Pt} (hp:On p) (hq:On q):On (padd p q):=by
 have hx:=padd_x hp hq
 have hy:=padd_y hp hq
 have n1:=den_pos hp hq
 have n2:=den_neg hp hq
 have hid:=closed_id p.x p.y q.x q.y dF hp hq
 show (padd p q).y*(padd p q).y - (padd p q).x*(padd p q).x=1+dF*(padd p q).x*(padd p q).x*(padd p q).y*(padd p q).y
 generalize (padd p q).x=X at *
 generalize (padd p q).y=Y at *
 generalize 1+dF*p.x*q.x*p.y*q.y=m1 at *
 generalize 1 - dF*p.x*q.x*p.y*q.y=m2 at *
 rw [← hx,← hy] at hid
 refine f_cancel (f_ne_mul (f_ne_mul n1 n1) (f_ne_mul n2 n2)) ?_
 grind
theorem padd_comm (p q:Pt):padd p q=padd q p:=by
 unfold padd
 refine Pt.ext' ?_ ?_
 ·simp only
  rw [show dF*p.x*q.x*p.y*q.y=dF*q.x*p.x*q.y*p.y from by grind]
  grind
 ·simp only
  rw [show dF*p.x*q.x*p.y*q.y=dF*q.x*p.x*q.y*p.y from by grind]
  grind
theorem inv_one:inv 1=1:=by have:=mul_inv one_ne;grind
theorem padd_O (p:Pt):padd p pO=p:=by
 unfold padd pO
 have h:=inv_one
 refine Pt.ext' ?_ ?_
 ·simp only
  rw [aux_z1,h];grind
 ·simp only
  rw [aux_z2,h];grind
theorem O_padd (p:Pt):padd pO p=p:=by rw [padd_comm,padd_O]
set_option maxHeartbeats 4000000 in
theorem assoc_x (x1 y1 x2 y2 x3 y3 d n1 n2 m1 m2 k1 k2 l1 l2:F) (h1:y1*y1 - x1*x1=1+d*x1*x1*y1*y1) (h2:y2*y2 - x2*x2=1+d*x2*x2*y2*y2) (h3:y3*y3 - x3*x3=1+d*x3*x3*y3*y3)
 (hn1:n1=x1*y2+y1*x2) (hn2:n2=y1*y2+x1*x2) (hm1:m1=1+d*x1*x2*y1*y2) (hm2:m2=1-d*x1*x2*y1*y2)
 (hk1:k1=x2*y3+y2*x3) (hk2:k2=y2*y3+x2*x3) (hl1:l1=1+d*x2*x3*y2*y3) (hl2:l2=1-d*x2*x3*y2*y3) :
 (n1*m2*y3+n2*m1*x3)*(l1*l2+d*x1*y1*k1*k2)=(x1*k2*l1+y1*k1*l2)*(m1*m2+d*n1*n2*x3*y3):=by subst hn1 hn2 hm1 hm2 hk1 hk2 hl1 hl2;grind
set_option maxHeartbeats 4000000 in
theorem assoc_y (x1 y1 x2 y2 x3 y3 d n1 n2 m1 m2 k1 k2 l1 l2:F) (h1:y1*y1 - x1*x1=1+d*x1*x1*y1*y1) (h2:y2*y2 - x2*x2=1+d*x2*x2*y2*y2) (h3:y3*y3 - x3*x3=1+d*x3*x3*y3*y3)
 (hn1:n1=x1*y2+y1*x2) (hn2:n2=y1*y2+x1*x2) (hm1:m1=1+d*x1*x2*y1*y2) (hm2:m2=1-d*x1*x2*y1*y2)
 (hk1:k1=x2*y3+y2*x3) (hk2:k2=y2*y3+x2*x3) (hl1:l1=1+d*x2*x3*y2*y3) (hl2:l2=1-d*x2*x3*y2*y3) :
 (n2*m1*y3+n1*m2*x3)*(l1*l2 - d*x1*y1*k1*k2)=(y1*k2*l1+x1*k1*l2)*(m1*m2 - d*n1*n2*x3*y3):=by subst hn1 hn2 hm1 hm2 hk1 hk2 hl1 hl2;grind
theorem padd_assoc {p q r:Pt} (hp:On p) (hq:On q) (hr:On r):padd (padd p q) r=padd p (padd q r):=by
 have hpq:=on_add hp hq
 have hqr:=on_add hq hr
 have a1:=padd_x hp hq
 have a2:=padd_y hp hq
 have b1:=padd_x hq hr
 have b2:=padd_y hq hr
 have m1:=den_pos hp hq
 have m2:=den_neg hp hq
 have l1:=den_pos hq hr
 have l2:=den_neg hq hr
 have ix:=assoc_x p.x p.y q.x q.y r.x r.y dF _ _ _ _ _ _ _ _ hp hq hr rfl rfl rfl rfl rfl rfl rfl rfl
 have iy:=assoc_y p.x p.y q.x q.y r.x r.y dF _ _ _ _ _ _ _ _ hp hq hr rfl rfl rfl rfl rfl rfl rfl rfl
 have c1:=padd_x hpq hr
 have c2:=padd_y hpq hr
 have e1:=padd_x hp hqr
 have e2:=padd_y hp hqr
 have N1:=den_pos hpq hr
 have N2:=den_neg hpq hr
 have L1:=den_pos hp hqr
 have L2:=den_neg hp hqr
 generalize padd (padd p q) r=S at *
 generalize padd p (padd q r)=T at *
 generalize padd p q=U at *
 generalize padd q r=V at *
 rw [← a1,← a2,← b1,← b2] at ix iy
 generalize 1+dF*p.x*q.x*p.y*q.y=M1 at *
 generalize 1 - dF*p.x*q.x*p.y*q.y=M2 at *
 generalize 1+dF*q.x*r.x*q.y*r.y=K1 at *
 generalize 1 - dF*q.x*r.x*q.y*r.y=K2 at *
 clear a1 a2 b1 b2 hp hq hr hpq hqr
 refine Pt.ext' ?_ ?_
 ·clear iy c2 e2 N2 L2
  refine f_cancel (f_ne_mul (f_ne_mul (f_ne_mul N1 L1) (f_ne_mul m1 m2)) (f_ne_mul l1 l2)) ?_
  generalize hA:1+dF*U.x*r.x*U.y*r.y=A at *
  generalize hB:1+dF*p.x*V.x*p.y*V.y=B at *
  have iA:U.x*M1*M2*r.y+U.y*M2*M1*r.x=S.x*A*(M1*M2):=by rw [c1];grind
  have iB:p.x*(V.y*K2)*K1+p.y*(V.x*K1)*K2=T.x*B*(K1*K2):=by rw [e1];grind
  have iC:K1*K2+dF*p.x*p.y*(V.x*K1)*(V.y*K2)=B*(K1*K2):=by rw [← hB];grind
  have iD:M1*M2+dF*(U.x*M1)*(U.y*M2)*r.x*r.y=A*(M1*M2):=by rw [← hA];grind
  rw [iA,iB,iC,iD] at ix
  clear iA iB iC iD c1 e1 hA hB
  grind
 ·clear ix c1 e1 N1 L1
  refine f_cancel (f_ne_mul (f_ne_mul (f_ne_mul N2 L2) (f_ne_mul m1 m2)) (f_ne_mul l1 l2)) ?_
  generalize hA:1 - dF*U.x*r.x*U.y*r.y=A at *
  generalize hB:1 - dF*p.x*V.x*p.y*V.y=B at *
  have iA:U.y*M2*M1*r.y+U.x*M1*M2*r.x=S.y*A*(M1*M2):=by rw [c2];grind
  have iB:p.y*(V.y*K2)*K1+p.x*(V.x*K1)*K2=T.y*B*(K1*K2):=by rw [e2];grind
  have iC:K1*K2 - dF*p.x*p.y*(V.x*K1)*(V.y*K2)=B*(K1*K2):=by rw [← hB];grind
  have iD:M1*M2 - dF*(U.x*M1)*(U.y*M2)*r.x*r.y=A*(M1*M2):=by rw [← hA];grind
  rw [iA,iB,iC,iD] at iy
  clear iA iB iC iD c2 e2 hA hB
  grind
end Go.Proofs.YtoifhhljfaoejaaGreatDoor
namespace Go.Proofs.YtoifhhljfaoejaaGreatDoor
open Go.RowKit
set_option linter.unusedVariables false
set_option linter.unusedSimpArgs false
instance iField1:Ent 301:=Ent.of Tryz.func301 (by kernel_rfl) rfl
instance iField2 (n m:Nat):FnC 301 #[.agg (rowL n),.agg (rowL m)] (.tuple #[.agg (rowL (n+m)),.int .u64 (cy n m 4:Nat)]):=⟨add_any n m⟩
instance iField3:Ent 296:=Ent.of Tryz.func296 (by kernel_rfl) rfl
instance iField4 (k:IntKind) (a b c d:Int):Row1 #[.int k a,.int k b,.int k c,.int k d] 4:=⟨rfl,by simp [Value.oneCell']⟩
theorem rowP_lit: #[Value.int .u64 18446744073709551597,Value.int .u64 18446744073709551615,Value.int .u64 18446744073709551615,Value.int .u64 9223372036854775807]=rowL P:=by kernel_rfl
set_option maxRecDepth 100000 in
set_option maxHeartbeats 400000 in
theorem prime_any (w:World):Calls Tryz.prog 297 #[] w fun e w'=>e= .returned (.agg (rowL P))∧Below w.heap.size w w':=by
 have hL:=Loc.nil w
 have hP:=Lib.hid rowP_lit
 go_enter Tryz.func297,Tryz.ntmps297
 go_wp2_with (first | (refine aL4S2C9q ?_;clear hL;intro w1 hL) | (refine aX1A1q ?_;clear hL;intro b w1 hL))
 rw [hP.out] at hL
 exact bodyPost_ret (results_loc rfl hL rfl) rfl ⟨rfl,hL.bel⟩
instance iField5:Ent 297:=Ent.of Tryz.func297 (by kernel_rfl) rfl
instance iField6:FnC 297 #[] (.agg (rowL P)):=⟨prime_any⟩
def lessN (n:Nat):Nat→Nat
 | 0=>n
 | k+1=>if lessN n k<P then lessN n k else lessN n k - P
theorem lessN_le (n:Nat):∀ k,lessN n k≤n
 | 0=>Nat.le_refl _
 | k+1=>by unfold lessN;have:=lessN_le n k;split <;> omega
theorem P_lo:2 ^ 256≤3*P:=by decide +kernel
theorem P_hi:P<2 ^ 255:=by decide +kernel
theorem lessN_two (n:Nat) (h:n<2 ^ 256):lessN n 2=n % P:=by
 have h1:=P_lo
 have hp:=P_pos
 have e:lessN n 2=if lessN n 1<P then lessN n 1 else lessN n 1 - P:=rfl
 have e1:lessN n 1=if n<P then n else n - P:=rfl
 rw [e,e1]
 generalize (2:Nat) ^ 256=W at *
 generalize P=p at *
 by_cases a:n<p
 ·rw [if_pos a,if_pos a,Nat.mod_eq_of_lt a]
 ·rw [if_neg a]
  by_cases b:n - p<p
  ·rw [if_pos b,Nat.mod_eq_sub_mod (by omega),Nat.mod_eq_of_lt b]
  ·rw [if_neg b,Nat.mod_eq_sub_mod (by omega),Nat.mod_eq_sub_mod (by omega),Nat.mod_eq_of_lt (by omega)]
theorem sub_less {n:Nat} (h:n<2 ^ 256):bw n P 4=if n<P then 1 else 0:=by
 unfold bw
 rw [show 64*4=256 from rfl,Nat.mod_eq_of_lt h,Nat.mod_eq_of_lt (by have:=P_hi;omega)]
theorem sub_row {n:Nat} (h:¬ n<P):rowL (n+2 ^ 256 - P)=rowL (n - P):=by
 rw [← rowL_mod (n+2 ^ 256 - P),← rowL_mod (n - P),show n+2 ^ 256 - P=n - P+2 ^ 256 from by omega,Nat.add_mod_right]
set_option maxRecDepth 100000 in
set_option maxHeartbeats 1000000 in
theorem lessen_any (n:Nat) (hn:n<2 ^ 256) (w:World):Calls Tryz.prog 271 #[.agg (rowL n)] w fun e w'=>e= .returned (.agg (rowL (n % P)))∧Below w.heap.size w w':=by
 have hL:=Loc.nil w
 go_enter Tryz.func271,Tryz.ntmps271
 go_wp2_with (first | ((with_reducible refine gS 1 ?_);refine aBp ?_;clear hL;intro b1 w1 hL) | ((with_reducible refine gS 2 ?_);refine aBp ?_;clear hL;intro b2 w1 hL) | (refine aL4S2C9q ?_;clear hL;intro w1 hL) | (refine aX1A1q ?_;clear hL;intro b w1 hL))
 go_loopw [5] (fun i wr=>∃ k:Nat,k≤2∧i= .int .i64 k∧Loc w wr [(b2,rowL 0,311),(b1,rowL (lessN n k),311)]) (fun i _=>2 - (intOf i).toNat)
 case atStart=>exact ⟨0,by omega,rfl,hL⟩
 case round =>
  clear hL
  obtain ⟨k,hk,rfl,hL⟩:=hrel
  by_cases hlt:k<2
  ·have hk1:(k:Int)<2:=by omega
   have hle:=lessN_le n k
   have hm:lessN n k<2 ^ 256:=by omega
   have HS:lessN n (k+1)=if lessN n k<P then lessN n k else lessN n k - P:=rfl
   generalize lessN n k=m at *
   have hlP:P<2 ^ 256:=by have:=P_hi;omega
   by_cases hmp:m<P
   ·haveI:FnC 296 #[.agg (rowL m),.agg (rowL P)] (.tuple #[.agg (rowL (m+2 ^ 256 - P)),.int .u64 1]):=⟨fun w=>by
     have:=sub_any m P hm hlP w
     rw [sub_less hm,if_pos hmp] at this
     exact this⟩
    rw [if_pos hmp] at HS
    generalize hd:m+2 ^ 256 - P=d at *
    have HT:=Lib.hid HS
    clear HS
    clear hm hlP hle hd hmp
    go_wp2_with fail
    refine wp_region_free [(0,false),(1,false),(2,false),(3,true),(4,true),(5,true)] [(6,_,311)] [7,8] (by kernel_rfl) (by kernel_rfl) ⟨⟨_,rfl,rfl,rfl⟩,inferInstance,trivial⟩ hL ?_
    refine pF ?_
    repeat refine rS ?_
    refine seqO_nil ?_
    refine seqM_cons fun b=>?_
    refine seqM_nil fun w1 hL1=>?_
    simp only [List.cons_append,List.nil_append] at hL1
    clear hL;have hL:=hL1;clear hL1
    refine p4 ?_
    refine pG ?_
    repeat (refine rW ?_;clear hL;intro w1 hL)
    refine wpList_nil (NoPanic.normal ?_)
    go_wp2_with (first | (refine aL4S2C9q ?_;clear hL;intro w1 hL) | (refine aX1A1q ?_;clear hL;intro b w1 hL))
    go_roundw
    case rel=>exact ⟨k+1,by omega,by go_num,by rw [HT.out];exact hL.pop⟩
    case measure=>simp [intOf];omega
   ·haveI:FnC 296 #[.agg (rowL m),.agg (rowL P)] (.tuple #[.agg (rowL (m - P)),.int .u64 0]):=⟨fun w=>by
     have:=sub_any m P hm hlP w
     rw [sub_less hm,if_neg hmp,sub_row hmp] at this
     exact this⟩
    rw [if_neg hmp] at HS
    generalize m - P=d at *
    have HT:=Lib.hid HS
    clear HS
    clear hm hlP hle hmp
    go_wp2_with fail
    refine wp_region_free [(0,false),(1,false),(2,false),(3,true),(4,true),(5,true)] [(6,_,311)] [7,8] (by kernel_rfl) (by kernel_rfl) ⟨⟨_,rfl,rfl,rfl⟩,inferInstance,trivial⟩ hL ?_
    refine pF ?_
    repeat refine rS ?_
    refine seqO_nil ?_
    refine seqM_cons fun b=>?_
    refine seqM_nil fun w1 hL1=>?_
    simp only [List.cons_append,List.nil_append] at hL1
    clear hL;have hL:=hL1;clear hL1
    refine p4 ?_
    refine pG ?_
    repeat (refine rW ?_;clear hL;intro w1 hL)
    refine wpList_nil (NoPanic.normal ?_)
    go_wp2_with (first | (refine aL4S2C9q ?_;clear hL;intro w1 hL) | (refine aX1A1q ?_;clear hL;intro b w1 hL))
    go_roundw
    case rel=>exact ⟨k+1,by omega,by go_num,by rw [HT.out];exact hL.pop⟩
    case measure=>simp [intOf];omega
  ·obtain rfl:k=2:=by omega
   rw [lessN_two n hn] at hL
   go_wp2_with (first | (refine aL4S2C9q ?_;clear hL;intro w1 hL) | (refine aX1A1q ?_;clear hL;intro b w1 hL))
   exact bodyPost_ret (results_loc rfl hL rfl) rfl ⟨rfl,hL.bel⟩
instance iField7:Ent 271:=Ent.of Tryz.func271 (by kernel_rfl) rfl
theorem rowL_small {x:Nat} (h:x<2 ^ 64): #[Value.int .u64 (x:Int),Value.int .u64 0,Value.int .u64 0,Value.int .u64 0]=rowL x:=by
 have e:∀ k,0<k→k<4→lw x k=0:=fun k h0 h4=>by
  unfold lw
  rw [Nat.div_eq_of_lt (Nat.lt_of_lt_of_le h (Nat.pow_le_pow_right (by omega) (by omega)))]
 have e0:lw x 0=x:=by unfold lw;simp;omega
 show _= #[lv x 0,lv x 1,lv x 2,lv x 3]
 unfold lv
 rw [e0,e 1 (by omega) (by omega),e 2 (by omega) (by omega),e 3 (by omega) (by omega)]
 rfl
theorem cy_full {n m:Nat} (hn:n<2 ^ 256) (hm:m<2 ^ 256):cy n m 4=(n+m) / 2 ^ 256:=by
 unfold cy
 rw [show 64*4=256 from rfl,Nat.mod_eq_of_lt hn,Nat.mod_eq_of_lt hm]
theorem add_full (n m:Nat) (hn:n<2 ^ 256) (hm:m<2 ^ 256) (w:World):Calls Tryz.prog 301 #[.agg (rowL n),.agg (rowL m)] w fun e w'=>e= .returned (.tuple #[.agg (rowL ((n+m) % 2 ^ 256)),.int .u64 ((n+m) / 2 ^ 256:Nat)])∧Below w.heap.size w w':=by
 rw [rowL_mod,← cy_full hn hm]
 exact add_any n m w
theorem fold_eq {n c S1 k1:Nat} (h1:n+38*c=S1+2 ^ 256*k1):(S1+38*k1) % P=(n+2 ^ 256*c) % P:=by
 have e:2 ^ 256=38+2*P:=by decide +kernel
 have e2:n+2 ^ 256*c=S1+38*k1+P*(2*c+2*k1):=by
  rw [e] at h1 ⊢
  generalize P=p at *
  have a1:(38+2*p)*c=38*c+2*p*c:=by rw [Nat.add_mul]
  have a2:(38+2*p)*k1=38*k1+2*p*k1:=by rw [Nat.add_mul]
  have a3:p*(2*c+2*k1)=2*p*c+2*p*k1:=by grind
  omega
 rw [e2,Nat.add_mul_mod_self_left]
set_option maxRecDepth 100000 in
set_option maxHeartbeats 1000000 in
theorem fold_any (n c:Nat) (hn:n<2 ^ 256) (hc:c≤1000) (w:World):Calls Tryz.prog 300 #[.agg (rowL n),.int .u64 c] w fun e w'=>e= .returned (.agg (rowL ((n+2 ^ 256*c) % P)))∧Below w.heap.size w w':=by
 have hL:=Loc.nil w
 have hb:2 ^ 64<2 ^ 256:=by decide +kernel
 have hb2:(40000:Nat)<2 ^ 64:=by decide +kernel
 obtain ⟨S1,hS1⟩:∃ S,S=(n+38*c) % 2 ^ 256:=⟨_,rfl⟩
 obtain ⟨k1,hk1⟩:∃ k,k=(n+38*c) / 2 ^ 256:=⟨_,rfl⟩
 have hd:n+38*c=S1+2 ^ 256*k1:=by rw [hS1,hk1,Nat.mod_add_div]
 have hS:S1<2 ^ 256:=by rw [hS1];exact Nat.mod_lt _ (Nat.two_pow_pos _)
 have hsum:S1+38*k1<2 ^ 256∧k1≤1:=by
  generalize (2:Nat) ^ 256=W at *
  generalize (2:Nat) ^ 64=V at *
  have:k1≤1:=by
   rcases Nat.lt_or_ge k1 2 with h | h
   ·omega
   ·have:=Nat.mul_le_mul_left W h;omega
  rcases Nat.lt_or_ge k1 1 with h | h
  ·obtain rfl:k1=0:=by omega
   exact ⟨by omega,by omega⟩
  ·obtain rfl:k1=1:=by omega
   exact ⟨by omega,by omega⟩
 obtain ⟨hs2,hk⟩:=hsum
 haveI f1:FnC 301 #[.agg (rowL n),.agg #[.int .u64 (38*(c:Int)),.int .u64 0,.int .u64 0,.int .u64 0]] (.tuple #[.agg (rowL S1),.int .u64 (k1:Int)]):=⟨fun w=>by
  have:=add_full n (38*c) hn (by omega) w
  rw [← hS1,← hk1,← rowL_small (x:=38*c) (by omega)] at this
  simpa using this⟩
 haveI f2:FnC 301 #[.agg (rowL S1),.agg #[.int .u64 (38*(k1:Int)),.int .u64 0,.int .u64 0,.int .u64 0]] (.tuple #[.agg (rowL (S1+38*k1)),.int .u64 0]):=⟨fun w=>by
  have:=add_full S1 (38*k1) hS (by omega) w
  rw [Nat.mod_eq_of_lt hs2,Nat.div_eq_of_lt hs2,← rowL_small (x:=38*k1) (by omega)] at this
  simpa using this⟩
 haveI f3:FnC 271 #[.agg (rowL (S1+38*k1))] (.agg (rowL ((n+2 ^ 256*c) % P))):=⟨fun w=>by
  have:=lessen_any (S1+38*k1) hs2 w
  rw [fold_eq hd] at this
  exact this⟩
 have c0:(0:Int)≤(c:Int):=by omega
 have c1:(c:Int)≤1000:=by omega
 have d0:(0:Int)≤(k1:Int):=by omega
 have d1:(k1:Int)≤1:=by omega
 generalize (n+2 ^ 256*c) % P=R at *
 generalize S1+38*k1=S2 at *
 clear hs2 hk hS hd hS1 hk1 hb hb2 hn hc
 go_enter Tryz.func300,Tryz.ntmps300
 go_wp2_with (first | (refine aL4S2C9q ?_;clear hL;intro w1 hL) | (refine aX1A1q ?_;clear hL;intro b w1 hL))
 exact bodyPost_ret (results_loc rfl hL rfl) rfl ⟨rfl,hL.bel⟩
instance iField8:Ent 300:=Ent.of Tryz.func300 (by kernel_rfl) rfl
theorem P_two:P+P<2 ^ 256:=by decide +kernel
set_option maxRecDepth 100000 in
set_option maxHeartbeats 400000 in
theorem plus_any (a b:F) (w:World):Calls Tryz.prog 274 #[.agg (rowL a.val),.agg (rowL b.val)] w fun e w'=>e= .returned (.agg (rowL (a+b).val))∧Below w.heap.size w w':=by
 have hL:=Loc.nil w
 have ha:=a.isLt
 have hb:=b.isLt
 have hp:=P_two
 have hs:a.val+b.val<2 ^ 256:=by omega
 haveI f1:FnC 301 #[.agg (rowL a.val),.agg (rowL b.val)] (.tuple #[.agg (rowL (a.val+b.val)),.int .u64 0]):=⟨fun w=>by
  have:=add_full a.val b.val (by omega) (by omega) w
  rw [Nat.mod_eq_of_lt hs,Nat.div_eq_of_lt hs] at this
  exact this⟩
 haveI f2:FnC 300 #[.agg (rowL (a.val+b.val)),.int .u64 0] (.agg (rowL (a+b).val)):=⟨fun w=>by
  have:=fold_any (a.val+b.val) 0 hs (by omega) w
  rw [Nat.mul_zero,Nat.add_zero] at this
  rw [Fin.val_add]
  exact this⟩
 generalize (a+b).val=r at *
 generalize a.val+b.val=n at *
 generalize a.val=x at *
 generalize b.val=y at *
 clear ha hb hp hs
 go_enter Tryz.func274,Tryz.ntmps274
 go_wp2_with (first | (refine aL4S2C9q ?_;clear hL;intro w1 hL) | (refine aX1A1q ?_;clear hL;intro b w1 hL))
 exact bodyPost_ret (results_loc rfl hL rfl) rfl ⟨rfl,hL.bel⟩
instance iField9:Ent 274:=Ent.of Tryz.func274 (by kernel_rfl) rfl
instance iField10 (a b:F):FnC 274 #[.agg (rowL a.val),.agg (rowL b.val)] (.agg (rowL (a+b).val)):=⟨plus_any a b⟩
set_option maxRecDepth 100000 in
set_option maxHeartbeats 400000 in
theorem minus_any (a b:F) (w:World):Calls Tryz.prog 273 #[.agg (rowL a.val),.agg (rowL b.val)] w fun e w'=>e= .returned (.agg (rowL (a - b).val))∧Below w.heap.size w w':=by
 have hL:=Loc.nil w
 have ha:=a.isLt
 have hb:=b.isLt
 have hp:=P_two
 have hv:(a - b).val=if a.val<b.val then a.val+P - b.val else a.val - b.val:=by
  have:(a - b).val=(P - b.val+a.val) % P:=by rw [Fin.sub_def]
  rw [this]
  split
  ·rw [show P - b.val+a.val=a.val+P - b.val from by omega,Nat.mod_eq_of_lt (by omega)]
  ·rw [show P - b.val+a.val=a.val - b.val+P from by omega,Nat.add_mod_right,Nat.mod_eq_of_lt (by omega)]
 have hbw:bw a.val b.val 4=if a.val<b.val then 1 else 0:=by
  unfold bw
  rw [show 64*4=256 from rfl,Nat.mod_eq_of_lt (by omega),Nat.mod_eq_of_lt (by omega)]
 have hsub:=sub_any a.val b.val (by omega) (by omega)
 by_cases hlt:a.val<b.val
 ·rw [if_pos hlt] at hv hbw
  rw [hbw] at hsub
  haveI f1:FnC 296 #[.agg (rowL a.val),.agg (rowL b.val)] (.tuple #[.agg (rowL (a.val+2 ^ 256 - b.val)),.int .u64 1]):=⟨hsub⟩
  haveI f2:FnC 301 #[.agg (rowL (a.val+2 ^ 256 - b.val)),.agg (rowL P)] (.tuple #[.agg (rowL (a - b).val),.int .u64 1]):=⟨fun w=>by
   have:=add_full (a.val+2 ^ 256 - b.val) P (by omega) (by omega) w
   have e:a.val+2 ^ 256 - b.val+P=(a - b).val+2 ^ 256:=by rw [hv];omega
   rw [e,Nat.add_mod_right,Nat.mod_eq_of_lt (by rw [hv];omega),Nat.add_div_right _ (Nat.two_pow_pos _),Nat.div_eq_of_lt (by rw [hv];omega)] at this
   exact this⟩
  generalize (a - b).val=r at *
  generalize a.val+2 ^ 256 - b.val=n at *
  generalize a.val=x at *
  generalize b.val=y at *
  clear ha hb hp hlt hv hbw hsub
  go_enter Tryz.func273,Tryz.ntmps273
  go_wp2_with (first | (refine aL4S2C9q ?_;clear hL;intro w1 hL) | (refine aX1A1q ?_;clear hL;intro b w1 hL))
  refine wp_region_free [(0,false),(1,false),(2,false),(3,true),(4,true),(5,true)] [] [6] (by kernel_rfl) (by kernel_rfl) trivial hL ?_
  refine pF ?_
  repeat refine rS ?_
  refine seqO_nil ?_
  refine seqM_nil fun w1 hL1=>?_
  simp only [List.cons_append,List.nil_append] at hL1
  clear hL;have hL:=hL1;clear hL1
  refine p4 ?_
  refine pG ?_
  repeat (refine rW ?_;clear hL;intro w1 hL)
  refine wpList_nil (NoPanic.normal ?_)
  go_wp2_with (first | (refine aL4S2C9q ?_;clear hL;intro w1 hL) | (refine aX1A1q ?_;clear hL;intro b w1 hL))
  exact bodyPost_ret (results_loc rfl hL rfl) rfl ⟨rfl,hL.bel⟩
 ·rw [if_neg hlt] at hv hbw
  rw [hbw] at hsub
  haveI f1:FnC 296 #[.agg (rowL a.val),.agg (rowL b.val)] (.tuple #[.agg (rowL (a - b).val),.int .u64 0]):=⟨fun w=>by
   have:=hsub w
   rw [← rowL_mod (a.val+2 ^ 256 - b.val),show a.val+2 ^ 256 - b.val=(a - b).val+2 ^ 256 from by rw [hv];omega,Nat.add_mod_right,rowL_mod] at this
   exact this⟩
  generalize (a - b).val=r at *
  generalize a.val=x at *
  generalize b.val=y at *
  clear ha hb hp hlt hv hbw hsub
  go_enter Tryz.func273,Tryz.ntmps273
  go_wp2_with (first | (refine aL4S2C9q ?_;clear hL;intro w1 hL) | (refine aX1A1q ?_;clear hL;intro b w1 hL))
  exact bodyPost_ret (results_loc rfl hL rfl) rfl ⟨rfl,hL.bel⟩
instance iField11:Ent 273:=Ent.of Tryz.func273 (by kernel_rfl) rfl
instance iField12 (a b:F):FnC 273 #[.agg (rowL a.val),.agg (rowL b.val)] (.agg (rowL (a - b).val)):=⟨minus_any a b⟩
end Go.Proofs.YtoifhhljfaoejaaGreatDoor
