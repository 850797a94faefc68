/- Lemmas of the law: walks of functions that it calls, plain facts about them; no condition beyond those written. -/
import Derived.Test.YtoifhhljfaoejaaGreatDoorPkAA
import Derived.Laws.AppendOwnNone
import Derived.OwnWalk
import Derived.Laws.StructEq
import Derived.Laws.BytesString
import Derived.Laws.BytesArg
import Derived.Deep.OwnRows
import Derived.Laws.OwnMore
import Derived.Laws.CopyOwn
import Derived.Deep.QuietTactic
import Derived.BigQuiet
set_option maxRecDepth 100000
set_option maxHeartbeats 8000000
set_option linter.unusedVariables false
set_option linter.unusedSimpArgs false
set_option linter.unusedSectionVars false
namespace Go.Proofs.YtoifhhljfaoejaaGreatDoor
open Go.Proofs.Tryz Go Go.RowKit Go.Shelf
instance NU:Ent 301:=eo func301
instance NV(n m:Nat):FnC 301 #[.agg (an n),.agg (an m)] (.tuple #[.agg (an (n+m)),.int .u64 (cy n m 4:Nat)]):=⟨jg n m⟩
instance NW:Ent 296:=eo func296
instance NX(k:IntKind)(a b c d:Int):Row1 #[.int k a,.int k b,.int k c,.int k d] 4:=⟨rfl,by simp[Value.oneCell']⟩
theorem Eq: #[Value.int .u64 18446744073709551597,Value.int .u64 18446744073709551615,Value.int .u64 18446744073709551615,Value.int .u64 9223372036854775807]=an P:=Θ
theorem Cs(w:ϑ):Rt 297 #[] w (.agg (an P)):=by
 have I:=Loc.nil w;have hP:=Hd Eq;go_enter func297,ntmps297;go_wp2_with (refine aQq fun _ J I=>?_);rw[hP.out]at I;exact Λ
instance NY:Ent 297:=eo func297
instance NZ:FnC 297 #[] (.agg (an P)):=⟨Cs⟩
def fx(n:Nat):Nat→Nat
 | 0=>n
 | k+1=>if fx n k<P then fx n k else fx n k-P
theorem wE(n:Nat):∀k,fx n k≤n
 | 0=>Xn _
 | k+1=>by unfold fx;have:=wE n k;split <;> omega
theorem OD:2^256≤3*P:=Ϛ
theorem LO:P<2^255:=Ϛ
theorem Ct(n:Nat)(h:n<2^256):fx n 2=n%P:=by
 have h1:=OD;have hp:=tu;have e:fx n 2=if fx n 1<P then fx n 1 else fx n 1-P:=rfl;have e1:fx n 1=if n<P then n else n-P:=rfl;rw[e,e1];generalize(2:Nat)^256=Wzq,P=p at *
 by_cases a:n<p
 ·rw[Ρ a,Ρ a,Xd a]
 ·rw[Χ a]
  by_cases b:n-p<p
  ·rw[Ρ b,Yv Ω,Xd b]
  ·rw[Χ b,Yv Ω,Yv Ω,Xd Ω]
theorem wF{n:Nat}(h:n<2^256):bw n P 4=if n<P then 1 else 0:=by
 unfold bw;rw[show 64*4=256 from rfl,Xd h,Xd (by have:=LO;omega)]
theorem Ib{n:Nat}(h:¬n<P):an (n+2^256-P)=an (n-P):=by
 rw[← dZ (n+2^256-P),← dZ (n-P),show n+2^256-P=n-P+2^256 from by omega,ZF]
theorem lJ(n:Nat)(hn:n<2^256)(w:ϑ):Rt 271 #[.agg (an n)] w (.agg (an (n%P))):=by
 have I:=Loc.nil w;go_enter func271,ntmps271;go_wp2_with (first|refine gBp 1 fun b1 J I=>?_|refine gBp 2 fun b2 J I=>?_|refine aQq fun _ J I=>?_);go_loopw [5] (fun i wr=>∃k:Nat,k≤2∧i= .int .i64 k∧Loc w wr [(b2,an 0,311),(b1,an (fx n k),311)]) (fun i _=>2-(intOf i).toNat);case atStart=>exact⟨0,Ω,rfl,I⟩
 case round =>
  clear I;obtain⟨k,hk,rfl,I⟩:=hrel;by_cases hlt:k<2
  ·have hk1:(k:Int)<2:=Ω
   have hle:=wE n k;have hm:fx n k<2^256:=Ω;have HS:fx n (k+1)=if fx n k<P then fx n k else fx n k-P:=rfl;generalize fx n k=m at *
   have hlP:P<2^256:=by have:=LO;omega
   by_cases hmp:m<P
   ·haveI:FnC 296 #[.agg (an m),.agg (an P)] (.tuple #[.agg (an (m+2^256-P)),.int .u64 1]):=⟨fun w=>by
     have:=gi m P hm hlP w;rw[wF hm,Ρ hmp]at this;exact this⟩
    rw[Ρ hmp]at HS;generalize hd:m+2^256-P=d at *
    have HT:=Hd HS;clear HS;clear hm hlP hle hd hmp;go_wp2_with fail;refine au [(0,false),(1,false),(2,false),(3,true),(4,true),(5,true)] [(6,_,311)] [7,8] Θ Θ ⟨⟨_,rfl,rfl,rfl⟩,Ϙ,trivial⟩ I ?_;refine pF ?_;refine fA ?_;refine aC fun b=>?_;refine fB fun J I=>?_;go_wp2_with (refine aQq fun _ J I=>?_);go_roundw;case rel=>exact⟨k+1,Ω,by go_num,by rw[HT.out];exact I.pop⟩
    case measure=>exact ϝ
   ·haveI:FnC 296 #[.agg (an m),.agg (an P)] (.tuple #[.agg (an (m-P)),.int .u64 0]):=⟨fun w=>by
     have:=gi m P hm hlP w;rw[wF hm,Χ hmp,Ib hmp]at this;exact this⟩
    rw[Χ hmp]at HS;generalize m-P=d at *
    have HT:=Hd HS;clear HS;clear hm hlP hle hmp;go_wp2_with fail;refine au [(0,false),(1,false),(2,false),(3,true),(4,true),(5,true)] [(6,_,311)] [7,8] Θ Θ ⟨⟨_,rfl,rfl,rfl⟩,Ϙ,trivial⟩ I ?_;refine pF ?_;refine fA ?_;refine aC fun b=>?_;refine fB fun J I=>?_;go_wp2_with (refine aQq fun _ J I=>?_);go_roundw;case rel=>exact⟨k+1,Ω,by go_num,by rw[HT.out];exact I.pop⟩
    case measure=>exact ϝ
  ·obtain rfl:k=2:=Ω
   rw[Ct n hn]at I;go_wp2_with (refine aQq fun _ J I=>?_);exact Λ
instance N3:Ent 271:=eo func271
theorem pZ{x:Nat}(h:x<2^64): #[Value.int .u64 (x:Int),Value.int .u64 0,Value.int .u64 0,Value.int .u64 0]=an x:=by
 have e:∀k,0<k→k<4→lw x k=0:=fun k h0 h4=>by
  unfold lw;rw[Xp (Xl h (Xx Ω Ω))]
 have e0:lw x 0=x:=by unfold lw;simp;omega
 show _= #[lv x 0,lv x 1,lv x 2,lv x 3];unfold lv;rw[e0,e 1 Ω Ω,e 2 Ω Ω,e 3 Ω Ω];rfl
theorem Ic{n m:Nat}(hn:n<2^256)(hm:m<2^256):cy n m 4=(n+m)/2^256:=by
 unfold cy;rw[show 64*4=256 from rfl,Xd hn,Xd hm]
theorem mG(n m:Nat)(hn:n<2^256)(hm:m<2^256)(w:ϑ):Rt 301 #[.agg (an n),.agg (an m)] w (.tuple #[.agg (an ((n+m)%2^256)),.int .u64 ((n+m)/2^256:Nat)]):=by
 rw[dZ,← Ic hn hm];exact jg n m w
theorem Id{n c S1 k1:Nat}(h1:n+38*c=S1+2^256*k1):(S1+38*k1)%P=(n+2^256*c)%P:=by
 have e:2^256=38+2*P:=Ϛ;have e2:n+2^256*c=S1+38*k1+P*(2*c+2*k1):=by
  rw[e]at h1 ⊢;generalize P=p at *
  have a1:(38+2*p)*c=38*c+2*p*c:=by rw[ZL]
  have a2:(38+2*p)*k1=38*k1+2*p*k1:=by rw[ZL]
  have a3:p*(2*c+2*k1)=2*p*c+2*p*k1:=by grind
  omega
 rw[e2,XD]
theorem wG(n c:Nat)(hn:n<2^256)(hc:c≤1000)(w:ϑ):Rt 300 #[.agg (an n),.int .u64 c] w (.agg (an ((n+2^256*c)%P))):=by
 have I:=Loc.nil w;have hb:2^64<2^256:=Ϛ;have hb2:(40000:Nat)<2^64:=Ϛ;obtain⟨S1,hS1⟩:∃S,S=(n+38*c)%2^256:=⟨_,rfl⟩;obtain⟨k1,hk1⟩:∃k,k=(n+38*c)/2^256:=⟨_,rfl⟩;have hd:n+38*c=S1+2^256*k1:=by rw[hS1,hk1,ZA]
 have hS:S1<2^256:=by rw[hS1];exact XJ _ (Xg _)
 have hsum:S1+38*k1<2^256∧k1≤1:=by
  generalize(2:Nat)^256=Wzq,(2:Nat)^64=Vzq at *
  have:k1≤1:=by
   rcases XI k1 2 with h|h
   ·omega
   ·have:=YE Wzq h;omega
  rcases XI k1 1 with h|h
  ·obtain rfl:k1=0:=Ω
   exact⟨Ω,Ω⟩
  ·obtain rfl:k1=1:=Ω
   exact⟨Ω,Ω⟩
 obtain⟨hs2,hk⟩:=hsum;haveI f1:FnC 301 #[.agg (an n),.agg #[.int .u64 (38*(c:Int)),.int .u64 0,.int .u64 0,.int .u64 0]] (.tuple #[.agg (an S1),.int .u64 (k1:Int)]):=⟨fun w=>by
  have:=mG n (38*c) hn Ω w;rw[← hS1,← hk1,← pZ (x:=38*c) Ω]at this;simpa using this⟩
 haveI f2:FnC 301 #[.agg (an S1),.agg #[.int .u64 (38*(k1:Int)),.int .u64 0,.int .u64 0,.int .u64 0]] (.tuple #[.agg (an (S1+38*k1)),.int .u64 0]):=⟨fun w=>by
  have:=mG S1 (38*k1) hS Ω w;rw[Xd hs2,Xp hs2,← pZ (x:=38*k1) Ω]at this;simpa using this⟩
 haveI f3:FnC 271 #[.agg (an (S1+38*k1))] (.agg (an ((n+2^256*c)%P))):=⟨fun w=>by
  have:=lJ (S1+38*k1) hs2 w;rw[Id hd]at this;exact this⟩
 have c0:(0:Int)≤(c:Int):=Ω;have c1:(c:Int)≤1000:=Ω;have d0:(0:Int)≤(k1:Int):=Ω;have d1:(k1:Int)≤1:=Ω;generalize(n+2^256*c)%P=R,S1+38*k1=S2 at *
 clear hs2 hk hS hd hS1 hk1 hb hb2 hn hc;go_enter func300,ntmps300;go_wp2_with (refine aQq fun _ J I=>?_);exact Λ
instance N4:Ent 300:=eo func300
theorem wH:P+P<2^256:=Ϛ
theorem Er(a b:F)(w:ϑ):Rt 274 #[.agg (an a.val),.agg (an b.val)] w (.agg (an (a+b).val)):=by
 have I:=Loc.nil w;have ha:=a.isLt;have hb:=b.isLt;have hp:=wH;have hs:a.val+b.val<2^256:=Ω;haveI f1:FnC 301 #[.agg (an a.val),.agg (an b.val)] (.tuple #[.agg (an (a.val+b.val)),.int .u64 0]):=⟨fun w=>by
  have:=mG a.val b.val Ω Ω w;rw[Xd hs,Xp hs]at this;exact this⟩
 haveI f2:FnC 300 #[.agg (an (a.val+b.val)),.int .u64 0] (.agg (an (a+b).val)):=⟨fun w=>by
  have:=wG (a.val+b.val) 0 hs Ω w;rw[XO,Zm]at this;rw[Fin.val_add];exact this⟩
 generalize(a+b).val=r,a.val+b.val=n at *
 generalize a.val=x,b.val=y at *
 clear ha hb hp hs;go_enter func274,ntmps274;go_wp2_with (refine aQq fun _ J I=>?_);exact Λ
instance N5:Ent 274:=eo func274
instance LP(a b:F):FnC 274 #[.agg (an a.val),.agg (an b.val)] (.agg (an (a+b).val)):=⟨Er a b⟩
theorem nR(a b:F)(w:ϑ):Rt 273 #[.agg (an a.val),.agg (an b.val)] w (.agg (an (a-b).val)):=by
 have I:=Loc.nil w;have ha:=a.isLt;have hb:=b.isLt;have hp:=wH;have hv:(a-b).val=if a.val<b.val then a.val+P-b.val else a.val-b.val:=by
  have:(a-b).val=(P-b.val+a.val)%P:=by rw[Fin.sub_def]
  rw[this];split
  ·rw[show P-b.val+a.val=a.val+P-b.val from by omega,Xd Ω]
  ·rw[show P-b.val+a.val=a.val-b.val+P from by omega,ZF,Xd Ω]
 have hbw:bw a.val b.val 4=if a.val<b.val then 1 else 0:=by
  unfold bw;rw[show 64*4=256 from rfl,Xd Ω,Xd Ω]
 have hsub:=gi a.val b.val Ω Ω;by_cases hlt:a.val<b.val
 ·rw[Ρ hlt]at hv hbw
  rw[hbw]at hsub;haveI f1:FnC 296 #[.agg (an a.val),.agg (an b.val)] (.tuple #[.agg (an (a.val+2^256-b.val)),.int .u64 1]):=⟨hsub⟩;haveI f2:FnC 301 #[.agg (an (a.val+2^256-b.val)),.agg (an P)] (.tuple #[.agg (an (a-b).val),.int .u64 1]):=⟨fun w=>by
   have:=mG (a.val+2^256-b.val) P Ω Ω w;have e:a.val+2^256-b.val+P=(a-b).val+2^256:=by rw[hv];omega
   rw[e,ZF,Xd (by rw[hv];omega),Nat.add_div_right _ (Xg _),Xp (by rw[hv];omega)]at this;exact this⟩
  generalize(a-b).val=r,a.val+2^256-b.val=n at *
  generalize a.val=x,b.val=y at *
  clear ha hb hp hlt hv hbw hsub;go_enter func273,ntmps273;go_wp2_with (refine aQq fun _ J I=>?_);refine wf [(0,false),(1,false),(2,false),(3,true),(4,true),(5,true)] [] [6] I ?_;refine fA ?_;refine fB fun J I=>?_;go_wp2_with (refine aQq fun _ J I=>?_);exact Λ
 ·rw[Χ hlt]at hv hbw
  rw[hbw]at hsub;haveI f1:FnC 296 #[.agg (an a.val),.agg (an b.val)] (.tuple #[.agg (an (a-b).val),.int .u64 0]):=⟨fun w=>by
   have:=hsub w;rw[← dZ (a.val+2^256-b.val),show a.val+2^256-b.val=(a-b).val+2^256 from by rw[hv];omega,ZF,dZ]at this;exact this⟩
  generalize(a-b).val=r,a.val=x,b.val=y at *
  clear ha hb hp hlt hv hbw hsub;go_enter func273,ntmps273;go_wp2_with (refine aQq fun _ J I=>?_);exact Λ
instance LQ:Ent 273:=eo func273
instance LR(a b:F):FnC 273 #[.agg (an a.val),.agg (an b.val)] (.agg (an (a-b).val)):=⟨nR a b⟩
theorem iK(x y:Nat)(hx:x<18446744073709551616)(hy:y<18446744073709551616)(w:ϑ) :
 Rt 144 #[.int .u64 x,.int .u64 y] w (.tuple #[.int .u64 ((x*y/18446744073709551616:Nat):Int),.int .u64 ((x*y%18446744073709551616:Nat):Int)]):=by
 obtain⟨bd,bt,bw,hhi⟩:=Lib.mul64_hi x y hx hy;have ba:=Lib.half_mul_le (a:=x/4294967296) (b:=y/4294967296) Ω Ω;have bb:=Lib.half_mul_le (a:=x/4294967296) (b:=y%4294967296) Ω Ω;have bc:=Lib.half_mul_le (a:=x%4294967296) (b:=y/4294967296) Ω Ω;have ba':x/4294967296*(y/4294967296)<18446744073709551616:=Ω;have bb':x/4294967296*(y%4294967296)<18446744073709551616:=Ω;have bc':x%4294967296*(y/4294967296)<18446744073709551616:=Ω;have bh1:x/4294967296*(y/4294967296)+(x/4294967296*(y%4294967296)+x%4294967296*(y%4294967296)/4294967296)/4294967296<18446744073709551616:=Ω;have bh:x/4294967296*(y/4294967296)+(x/4294967296*(y%4294967296)+x%4294967296*(y%4294967296)/4294967296)/4294967296+((x/4294967296*(y%4294967296)+x%4294967296*(y%4294967296)/4294967296)%4294967296+x%4294967296*(y/4294967296))/4294967296<18446744073709551616:=Ω;go_enter func144,ntmps144;go_wp2;simp only[Mul64.maskN x hx,Mul64.maskN y hy,Mul64.divN,Mul64.mulN,Mul64.addN,ZZ _ bd,ZZ _ bb',ZZ _ bt,Mul64.maskN _ bt,ZZ _ bc',ZZ _ bw,ZZ _ ba',ZZ _ bh1,ZZ _ bh,Mul64.wrapM (x*y)];rw[hhi];go_ret2;exact⟨rfl,XE _ _⟩
instance QJ:Ent 144:=eo func144
def oM(n m i:Nat):Nat:=n%2^(64*i)*m
def vM(n m i j:Nat):Nat:=oM n m i+lw n i*2^(64*i)*(m%2^(64*j))
def cM(n m i j:Nat):Nat:=vM n m i j/2^(64*(i+j))-oM n m i/2^(64*(i+j))
def fM(n m i j:Nat):Nat→Value:=fun k=>if k<i+j then lv (vM n m i j) k else lv (oM n m i) k
def qb(n m i j:Nat):Ψ:=row 8 (fM n m i j)
def mH(x:Nat):Ψ:=row 8 (lv x)
theorem p64(k:Nat):2^(64*(k+1))=2^(64*k)*18446744073709551616:=by rw[Yu,Xk]
theorem mI(m j:Nat):m%2^(64*(j+1))=m%2^(64*j)+2^(64*j)*lw m j:=by
 unfold lw;rw[p64,YV]
theorem uF(n m i j:Nat):vM n m i (j+1)=vM n m i j+2^(64*(i+j))*(lw n i*lw m j):=by
 unfold vM;rw[mI,YD 64 i j,Xk,YD];generalize lw n i=x;generalize lw m j=y;generalize 2^(64*i)=Ezq;generalize 2^(64*j)=G;grind
theorem fP(a Ezq p:Nat)(h:0<Ezq):(a+Ezq*p)/Ezq=a/Ezq+p:=Xy a p h
theorem uH(n m i j:Nat):vM n m i j/2^(64*(i+j))=oM n m i/2^(64*(i+j))+cM n m i j:=by
 unfold cM;have:oM n m i/2^(64*(i+j))≤vM n m i j/2^(64*(i+j)):=Nat.div_le_div_right (by unfold vM;omega);omega
theorem Cu(p d c:Nat):((p%18446744073709551616+d)%18446744073709551616+c)%18446744073709551616=(p+d+c)%18446744073709551616 ∧
 p/18446744073709551616+(p%18446744073709551616+d)/18446744073709551616+((p%18446744073709551616+d)%18446744073709551616+c)/18446744073709551616=(p+d+c)/18446744073709551616:=Ω
theorem LS(n m i j:Nat):lw (vM n m i (j+1)) (i+j)=(lw n i*lw m j+lw (oM n m i) (i+j)+cM n m i j)%18446744073709551616:=by
 show vM n m i (j+1)/2^(64*(i+j))%18446744073709551616=_;rw[uF,fP _ _ _ (Xg _),uH];unfold lw;omega
theorem JD(n m i j:Nat):cM n m i (j+1)=(lw n i*lw m j+lw (oM n m i) (i+j)+cM n m i j)/18446744073709551616:=by
 have h1:=uH n m i (j+1);rw[← XT,p64,← Xj,← Xj,uF,fP _ _ _ (Xg _),uH]at h1;unfold lw at *
 omega
theorem J8(n m i j k:Nat)(h:k<i+j):lw (vM n m i (j+1)) k=lw (vM n m i j) k:=by
 obtain⟨e,he⟩:∃e,i+j=k+1+e:=⟨i+j-(k+1),Ω⟩;show vM n m i (j+1)/2^(64*k)%18446744073709551616=vM n m i j/2^(64*k)%18446744073709551616;rw[uF,he,YD,Xk,p64];generalize lw n i*lw m j=p;rw[XK,XK,fP _ _ _ (Xg _),XD]
theorem Bd(n m i:Nat):∀j,cM n m i j<18446744073709551616
 | 0=>by unfold cM vM;simp[YH]
 | j+1=>by
  rw[JD];have h1:=dC n i;have h2:=dC m j;have h3:=dC (oM n m i) (i+j);have h4:=Bd n m i j;have:lw n i*lw m j≤18446744073709551615*18446744073709551615:=Z1 Ω Ω;omega
theorem tv(n m i:Nat):qb n m i 0=mH (oM n m i):=am fun k _=>by
 unfold fM vM;split
 ·simp[YH]
 ·rfl
theorem Cv(n m i j:Nat):row 8 (upd (fM n m i j) (i+j) (.int .u64 (lw (vM n m i (j+1)) (i+j):Nat)))=qb n m i (j+1):=am fun k _=>by
 unfold upd fM;by_cases e:k=i+j
 ·subst e;rw[Ρ rfl,Ρ Ω];rfl
 ·rw[Χ e]
  by_cases h:k<i+j
  ·rw[Ρ h,Ρ Ω];unfold lv;rw[J8 n m i j k h]
  ·rw[Χ h,Χ Ω]
theorem Be(n m i:Nat)(hm:m<2^256):vM n m i 4=oM n m (i+1):=by
 unfold vM oM;rw[show 64*4=256 from rfl,Xd hm,mI,ZL,XU (lw n i)]
theorem Es(n m i k:Nat)(hm:m<2^256)(hk:i+4≤k):oM n m i<2^(64*k):=by
 unfold oM;have h1:=XJ n (Xg (64*i));have:n%2^(64*i)*m<2^(64*i)*2^256:=Nat.mul_lt_mul_of_lt_of_lt h1 hm;rw[← Xk]at this;exact Xl this (Xx Ω Ω)
theorem nS{x k:Nat}(h:x<2^(64*k)):lw x k=0:=by unfold lw;rw[Xp h]
theorem Cw(n m i:Nat)(hm:m<2^256):row 8 (upd (fM n m i 4) (i+4) (.int .u64 (cM n m i 4:Nat)))=qb n m (i+1) 0:=am fun k _=>by
 rw[show fM n m (i+1) 0 k=lv (oM n m (i+1)) k from by
  unfold fM;split
  ·unfold vM;simp[YH]
  ·rfl]
 unfold upd fM;by_cases e:k=i+4
 ·subst e
  rw[Ρ rfl];unfold lv;have h1:=uH n m i 4;rw[Xp (Es n m i (i+4) hm (Xn _)),XA]at h1;have:lw (oM n m (i+1)) (i+4)=cM n m i 4:=by
   rw[← Be n m i hm];show vM n m i 4/2^(64*(i+4))%18446744073709551616=_;rw[h1,Xd (Bd n m i 4)]
  rw[this]
 ·rw[Χ e]
  by_cases h:k<i+4
  ·rw[Ρ h,Be n m i hm]
  ·rw[Χ h]
   unfold lv;rw[nS (Es n m i k hm Ω),nS (Es n m (i+1) k hm Ω)]
theorem Et(n m:Nat)(hn:n<2^256):qb n m 4 0=mH (n*m):=by
 rw[tv];unfold oM;rw[show 64*4=256 from rfl,Xd hn]
theorem Ie(n m:Nat):oM n m 0=0:=by unfold oM;simp[YH]
instance QK:RowTy 261 8:=⟨⟨_,underlying261,rfl⟩,Θ⟩
instance QL:RowZ 261 (mH 0):=⟨Θ⟩
instance QM(x:Nat):Row1 (mH x) 8:=⟨aS _ _,by simp[mH,row,lv,Value.oneCell']⟩
theorem pu(n m:Nat)(hn:n<2^256)(hm:m<2^256)(w:ϑ):Rt 298 #[.agg (an n),.agg (an m)] w (.agg (mH (n*m))):=by
 have I:=Loc.nil w;have HE:=Hd (Et n m hn);have HF:=Hd (fun i=>Cw n m i hm);clear hn hm;go_enter func298,ntmps298;go_wp2_with (first|refine gBp 2 fun b2 J I=>?_|refine gBp 3 fun b3 J I=>?_|refine gBp 4 fun b4 J I=>?_|refine gBp 5 fun b5 J I=>?_|refine aQq fun _ J I=>?_);go_loopw [12] (fun i wr=>∃k:Nat,k≤4∧i= .int .i64 k∧Loc w wr [(b5,qb n m k 0,261),(b4,mH 0,261),(b3,an m,311),(b2,an n,311)]) (fun i _=>4-(intOf i).toNat);case atStart=>exact⟨0,Ω,rfl,by rw[tv,Ie];exact I⟩
 case round =>
  clear I;obtain⟨i,hi,rfl,I⟩:=hrel;by_cases hlt:i<4
  ·have hi0:(0:Int)≤(i:Int):=Ω
   have hi1:(i:Int)<4:=Ω;have c0:=Hd (show cM n m i 0=0 from by unfold cM vM;simp[YH]);go_wp2_with fail;go_loopw [7,15] (fun c jj wr=>∃j:Nat,j≤4∧jj= .int .i64 j∧c= .int .u64 (cM n m i j:Nat)∧Loc w wr [(b5,qb n m i j,261),(b4,mH 0,261),(b3,an m,311),(b2,an n,311)]) (fun _ jj _=>4-(intOf jj).toNat);case atStart=>exact⟨0,Ω,rfl,by rw[c0.out];rfl,I⟩
   case round =>
    clear I;obtain⟨j,hj,rfl,rfl,I⟩:=hrel;by_cases hjl:j<4
    ·have hj0:(0:Int)≤(j:Int):=Ω
     have hj1:(j:Int)<4:=Ω;have hx:=dC n i;have hy:=dC m j;have hdl:=dC (oM n m i) (i+j);have hcl:=Bd n m i j;have hcl':=Bd n m i (j+1);have hlo:=LS n m i j;have hhi:=JD n m i j;have hst:=Cv n m i j;obtain⟨q1,q2⟩:=Cu (lw n i*lw m j) (lw (oM n m i) (i+j)) (cM n m i j);rw[← hlo]at q1;rw[← hhi]at q2;haveI g1:Cell (an n) i (.int .u64 (lw n i:Nat)):=aO _ hlt;haveI g2:Cell (an m) j (.int .u64 (lw m j:Nat)):=aO _ hjl;haveI g3:Cell (qb n m i j) (i+j) (.int .u64 (lw (oM n m i) (i+j):Nat)):=⟨(bG _ Ω).trans (by unfold fM;rw[Χ Ω];rfl)⟩;haveI g4:Put (qb n m i j) (i+j) (.int .u64 (lw (vM n m i (j+1)) (i+j):Nat)) (qb n m i (j+1)):=bm Ω hst;haveI g5:FnC 144 #[.int .u64 (lw n i:Nat),.int .u64 (lw m j:Nat)] (.tuple #[.int .u64 ((lw n i*lw m j/18446744073709551616:Nat):Int),.int .u64 ((lw n i*lw m j%18446744073709551616:Nat):Int)]):=⟨iK _ _ hx hy⟩;have a1:=gA (lw n i*lw m j%18446744073709551616) (lw (oM n m i) (i+j)) 0 Ω;have a2:=gA ((lw n i*lw m j%18446744073709551616+lw (oM n m i) (i+j))%18446744073709551616) (cM n m i j) 0 Ω;simp only[Zm]at a1 a2;rw[q1]at a2;generalize hp:lw n i*lw m j=p,lw (vM n m i (j+1)) (i+j)=lo2 at *
     generalize hcc:cM n m i (j+1)=c',lw (oM n m i) (i+j)=d,cM n m i j=c at *
     generalize hh:p/18446744073709551616=hi64 at *
     generalize hlo0:p%18446744073709551616=lo at *
     generalize hx1:(lo+d)/18446744073709551616=x1 at *
     generalize hlo1:(lo+d)%18446744073709551616=lo1 at *
     generalize hx2:(lo1+c)/18446744073709551616=x2 at *
     have w1':IntKind.u64.wrap ((hi64:Int)+(x1:Int))=((hi64+x1:Nat):Int):=by rw[XM];omega
     have w2':IntKind.u64.wrap (((hi64+x1:Nat):Int)+(x2:Int))=(c':Int):=by rw[XM];omega
     have hk:(i:Int)+(j:Int)=((i+j:Nat):Int):=Ω;generalize hij:i+j=k,hi64+x1=h1 at *
     have hk8:(k:Int)<8:=Ω;have hk0:(0:Int)≤(k:Int):=Ω;have a1:∀w,(callFunc 299 #[.int .u64 (lo:Int),.int .u64 (d:Int),.int .u64 0]).run prog w=_:=a1;have a2:∀w,(callFunc 299 #[.int .u64 (lo1:Int),.int .u64 (c:Int),.int .u64 0]).run prog w=_:=a2;have HC:=Hd hcc;clear hcc hx hy hdl hcl hcl' hlo hhi hst q1 q2 hp hh hlo0 hx1 hlo1 hx2 hij c0 hi hj HE;go_wp2_with fail;refine wf [(0,true),(1,true),(2,false),(3,true),(4,true),(5,false),(6,false),(7,true),(8,true),(9,true),(10,true),(11,true)] [] [] I ?_;refine fA ?_;refine fC fun J I=>?_;go_wp2_with (refine aQq fun _ J I=>?_);go_roundw;case rel=>exact⟨j+1,Ω,by go_num,by rw[HC.out],I⟩
     case measure=>exact ϝ
    ·obtain rfl:j=4:=Ω
     haveI g4:Put (qb n m i 4) (i+4) (.int .u64 (cM n m i 4:Nat)) (qb n m (i+1) 0):=bm Ω (HF.out i);generalize cM n m i 4=c at *
     clear hj hjl hi HE c0;have hk:(i:Int)+4=((i+4:Nat):Int):=Ω;generalize hij:i+4=k at *
     have hk8:(k:Int)<8:=Ω;have hk0:(0:Int)≤(k:Int):=Ω;clear hij;go_wp2_with (refine aQq fun _ J I=>?_);go_roundw;case rel=>exact⟨i+1,Ω,by go_num,I⟩
     case measure=>exact ϝ
  ·obtain rfl:i=4:=Ω
   rw[HE.out]at I;go_wp2_with (refine aQq fun _ J I=>?_);exact Λ
def sT(x:Nat):Nat:=x%2^256+38*(x/2^256)
def cT(x k:Nat):Nat:=(x%2^256%2^(64*k)+38*(x/2^256%2^(64*k)))/2^(64*k)
theorem JE(x k:Nat):lw x (k+4)=lw (x/2^256) k:=by
 unfold lw;rw[Xj,← Xk,show 64*(k+4)=256+64*k from by omega]
theorem If(p d c:Nat):((p%18446744073709551616+c)%18446744073709551616+d)%18446744073709551616=(p+d+c)%18446744073709551616 ∧
 p/18446744073709551616+(p%18446744073709551616+c)/18446744073709551616+((p%18446744073709551616+c)%18446744073709551616+d)/18446744073709551616=(p+d+c)/18446744073709551616:=Ω
theorem k9(a Ezq:Nat)(h:0<Ezq):a=Ezq*(a/Ezq)+a%Ezq:=(ZS a Ezq).symm
theorem J9(x:Nat){k:Nat}(h:k<4):lw (sT x) k=(lw x (k+4)*38+lw x k+cT x k)%18446744073709551616:=by
 rw[JE,← zg x k h];unfold sT cT;generalize x%2^256=a;generalize x/2^256=b;unfold lw;have hE:=Xg (64*k);generalize 2^(64*k)=Ezq at *
 have ha:=k9 a Ezq hE;have hb:=k9 b Ezq hE;have e:a+38*b=a%Ezq+38*(b%Ezq)+Ezq*(a/Ezq+38*(b/Ezq)):=by
  have:Ezq*(a/Ezq+38*(b/Ezq))=Ezq*(a/Ezq)+38*(Ezq*(b/Ezq)):=by grind
  omega
 rw[e,fP _ _ _ hE];generalize a/Ezq=u;generalize b/Ezq=v;omega
theorem Bf(x:Nat)(k:Nat)(h:k<4):cT x (k+1)=(lw x (k+4)*38+lw x k+cT x k)/18446744073709551616:=by
 rw[JE,← zg x k h];unfold cT;generalize x%2^256=a;generalize x/2^256=b;rw[mI,mI,p64,← Xj];have hE:=Xg (64*k);generalize lw a k=u;generalize lw b k=v;generalize 2^(64*k)=Ezq at *
 have e:a%Ezq+Ezq*u+38*(b%Ezq+Ezq*v)=a%Ezq+38*(b%Ezq)+Ezq*(u+38*v):=by grind
 rw[e,fP _ _ _ hE];congr 1;omega
theorem Bg(x:Nat):∀k,k≤4→cT x k≤38
 | 0,_=>by unfold cT;simp[YH]
 | k+1,h=>by
  rw[Bf x k Ω];have h1:=dC x (k+4);have h2:=dC x k;have h3:=Bg x k Ω;omega
def W2:Nat:=2^256*2^256
theorem OE:P*P≤W2:=Ϛ
theorem Eu(x:Nat)(h:x<W2):cT x 4=sT x/2^256:=by
 unfold cT sT;have h2:x/2^256<2^256:=by rw[Yn (Xg _)];exact h
 rw[show 64*4=256 from rfl,Nat.mod_mod,Xd h2]
theorem Ka(x:Nat):(sT x%2^256+2^256*(sT x/2^256))%P=x%P:=by
 rw[ZA];have e:2^256=38+2*P:=Ϛ;have hx:x=sT x+P*(2*(x/2^256)):=by
  have h:=ZA x (2^256);unfold sT;have:2^256*(x/2^256)=38*(x/2^256)+P*(2*(x/2^256)):=by
   have:∀y,2^256*y=38*y+P*(2*y):=fun y=>by rw[e];grind
   exact this _
  omega
 have h2:=XH (· % P) hx;simp only[XD]at h2;exact h2.symm
instance N6:Ent 298:=eo func298
theorem tw(a b:F)(w:ϑ):Rt 272 #[.agg (an a.val),.agg (an b.val)] w (.agg (an (a*b).val)):=by
 have I:=Loc.nil w;have ha:=a.isLt;have hb:=b.isLt;have hx:a.val*b.val<W2:=by
  have:=Nat.mul_lt_mul_of_lt_of_lt ha hb;exact Xl this OE
 have hp6:P<2^256:=Ϛ;haveI f1:FnC 298 #[.agg (an a.val),.agg (an b.val)] (.agg (mH (a.val*b.val))):=⟨pu _ _ (Yo ha hp6) (Yo hb hp6)⟩;have hv:(a*b).val=a.val*b.val%P:=Fin.val_mul a b;rw[hv];generalize hxx:a.val*b.val=x at *
 generalize a.val=n,b.val=m at *
 haveI f2:FnC 300 #[.agg (an (sT x)),.int .u64 (cT x 4:Nat)] (.agg (an (x%P))):=⟨fun w=>by
  have:=wG (sT x%2^256) (cT x 4) (XJ _ (Xg _)) (by have:=Bg x 4 (Xn _);omega) w;rw[Eu x hx,Ka,dZ,← Eu x hx]at this;exact this⟩
 have z0:=Hd (show cT x 0=0 from by unfold cT;simp[YH]);have z1:=Hd (ly (sT x));have z2:=Hd (lD (sT x));generalize hr:x%P=r at *
 clear ha hb hp6 hx hv hr hxx;go_enter func272,ntmps272;go_wp2_with (first|refine gBp 2 fun b2 J I=>?_|refine gBp 3 fun b3 J I=>?_|refine gBp 4 fun b4 J I=>?_|refine gBp 5 fun b5 J I=>?_|refine gBp 6 fun b6 J I=>?_|refine aQq fun _ J I=>?_);go_loopw [7,15] (fun c kk wr=>∃k:Nat,k≤4∧kk= .int .i64 k∧c= .int .u64 (cT x k:Nat)∧Loc w wr [(b6,oA (sT x) k,311),(b5,mH x,261),(b4,an 0,311),(b3,an m,311),(b2,an n,311)]) (fun _ kk _=>4-(intOf kk).toNat);case atStart=>exact⟨0,Ω,rfl,by rw[z0.out];rfl,by rw[z1.out];exact I⟩
 case round =>
  clear I;obtain⟨k,hk,rfl,rfl,I⟩:=hrel;by_cases hlt:k<4
  ·have hk0:(0:Int)≤(k:Int):=Ω
   have hk1:(k:Int)<4:=Ω;have hy:=dC x (k+4);have hdl:=dC x k;have hcl:=Bg x k hk;have hlo:=J9 x hlt;have hhi:=Bf x k hlt;have hst:=lE (sT x) k;obtain⟨q1,q2⟩:=If (lw x (k+4)*38) (lw x k) (cT x k);rw[← hlo]at q1;rw[← hhi]at q2;haveI g1:Cell (mH x) (k+4) (.int .u64 (lw x (k+4):Nat)):=aO _ Ω;haveI g2:Cell (mH x) k (.int .u64 (lw x k:Nat)):=aO _ Ω;haveI g4:Put (oA (sT x) k) k (.int .u64 (lw (sT x) k:Nat)) (oA (sT x) (k+1)):=bm hlt hst;haveI g5:FnC 144 #[.int .u64 (lw x (k+4):Nat),.int .u64 38] (.tuple #[.int .u64 ((lw x (k+4)*38/18446744073709551616:Nat):Int),.int .u64 ((lw x (k+4)*38%18446744073709551616:Nat):Int)]):=⟨iK _ 38 hy Ω⟩;have a1:=gA (lw x (k+4)*38%18446744073709551616) (cT x k) 0 Ω;have a2:=gA ((lw x (k+4)*38%18446744073709551616+cT x k)%18446744073709551616) (lw x k) 0 Ω;simp only[Zm]at a1 a2;rw[q1]at a2;have hc':=Bg x (k+1) Ω;generalize hp:lw x (k+4)*38=p,lw (sT x) k=lo2 at *
   generalize hcc:cT x (k+1)=c',lw x k=d,cT x k=c at *
   generalize hh:p/18446744073709551616=hi64 at *
   generalize hlo0:p%18446744073709551616=lo at *
   generalize hx1:(lo+c)/18446744073709551616=x1 at *
   generalize hlo1:(lo+c)%18446744073709551616=lo1 at *
   generalize hx2:(lo1+d)/18446744073709551616=x2 at *
   have w1':IntKind.u64.wrap ((hi64:Int)+(x1:Int))=((hi64+x1:Nat):Int):=by rw[XM];omega
   have w2':IntKind.u64.wrap (((hi64+x1:Nat):Int)+(x2:Int))=(c':Int):=by rw[XM];omega
   have hk4:(k:Int)+4=((k+4:Nat):Int):=Ω;generalize hij:k+4=k4,hi64+x1=h1 at *
   have hk8:(k4:Int)<8:=Ω;have hk80:(0:Int)≤(k4:Int):=Ω;have hkk:(k:Int)<8:=Ω;have a1:∀w,(callFunc 299 #[.int .u64 (lo:Int),.int .u64 (c:Int),.int .u64 0]).run prog w=_:=a1;have a2:∀w,(callFunc 299 #[.int .u64 (lo1:Int),.int .u64 (d:Int),.int .u64 0]).run prog w=_:=a2;have HC:=Hd hcc;clear hcc hy hdl hcl hlo hhi hst q1 q2 hp hh hlo0 hx1 hlo1 hx2 hij z0 z1 z2 hc';go_wp2_with (refine aQq fun _ J I=>?_);go_roundw;case rel=>exact⟨k+1,Ω,by go_num,by rw[HC.out],I⟩
   case measure=>exact ϝ
  ·obtain rfl:k=4:=Ω
   rw[z2.out]at I;go_wp2_with (refine aQq fun _ J I=>?_);exact Λ
instance N7:Ent 272:=eo func272
instance N8(a b:F):FnC 272 #[.agg (an a.val),.agg (an b.val)] (.agg (an (a*b).val)):=⟨tw a b⟩
theorem Ig(n k:Nat):bits .and .u64 ((lw n (k/64):Int)/2^(k%64)) 1=((n/2^k%2:Nat):Int):=by
 have hx:=dC n (k/64);have e:((lw n (k/64):Int)/2^(k%64))=((lw n (k/64)/2^(k%64):Nat):Int):=by norm_cast
 have hb:=Zp (lw n (k/64)/2^(k%64)) 1 (Yw (ZR _ _) hx) Ω;rw[e];refine(show _=_ from hb).trans ?_;congr 1;rw[Nat.and_one_is_mod];unfold lw;have hr:k%64<64:=XJ _ Ω;have h64:(18446744073709551616:Nat)=2^(k%64)*2^(64-k%64):=by rw[← Xk,show k%64+(64-k%64)=64 from by omega]
 rw[h64,Nat.mod_mul_right_div_self,Nat.mod_mod_of_dvd _ (Nat.dvd_trans (by decide:2∣2^1) (Nat.pow_dvd_pow 2 Ω)),Xj,← Xk,ZS]
theorem pv(n k:Nat)(hk:k<256)(w:ϑ):Rt 283 #[.agg (an n),.int .i64 k] w (.int .u64 (n/2^k%2:Nat)):=by
 have I:=Loc.nil w;obtain⟨q,hq⟩:∃q,q=k/64:=⟨_,rfl⟩;obtain⟨r,hr⟩:∃r,r=k%64:=⟨_,rfl⟩;haveI g1:Cell (an n) q (.int .u64 (lw n q:Nat)):=aO _ Ω;have e1:(k:Int)/64=(q:Int):=Ω;have e2:(k:Int)%64=(r:Int):=Ω;have e3:(k:Int).tdiv 64=(q:Int):=by rw[X6 Ω];omega
 have e4:(k:Int).tmod 64=(r:Int):=by rw[XF Ω];omega
 have hq0:(0:Int)≤(q:Int):=Ω;have hq1:(q:Int)<4:=Ω;have W0:(0:Int)≤(r:Int):=Ω;have hr1:(r:Int)<64:=Ω;have HQ:=Hd hq;have HR:=Hd hr;clear hq hr;go_enter func283,ntmps283;go_wp2_with (first|refine gBp 2 fun b2 J I=>?_|refine aQq fun _ J I=>?_);rw[HQ.out,HR.out,Ig];go_ret;exact⟨rfl,I.bel⟩
instance OF:Ent 283:=eo func283
theorem ji(a Ezq p:Nat)(h:0<Ezq):(a+Ezq*p)/Ezq=a/Ezq+p:=Xy a p h
def leK(f:Φ):Nat→Nat
 | 0=>0
 | k+1=>leK f k+(f k).toNat*2^(8*k)
def leN(f:Φ):Nat:=leK f 32
theorem dt(f:Φ):∀k,leK f k<2^(8*k)
 | 0=>by simp[leK]
 | k+1=>by
  have h:=dt f k;have hb:=(f k).isLt;show leK f k+(f k).toNat*2^(8*k)<_;rw[Yu,Xk];have:(f k).toNat*2^(8*k)≤255*2^(8*k):=YI _ Ω;have:2^(8*k)*2^8=256*2^(8*k):=by rw[XU]
  omega
theorem fX(f:Φ):leN f<2^256:=dt f 32
theorem qc(f:Φ)(k:Nat):leK f (k+1)=leK f k+2^(64*(k/8))*((f k).toNat*2^(8*(k%8))):=by
 show leK f k+(f k).toNat*2^(8*k)=_;rw[show 8*k=64*(k/8)+8*(k%8)from by omega,Xk];grind
theorem Kb(f:Φ)(k:Nat):lw (leK f k) (k/8)|||(f k).toNat*2^(8*(k%8))=lw (leK f (k+1)) (k/8)∧(f k).toNat*2^(8*(k%8))<18446744073709551616:=by
 have hy:leK f k/2^(64*(k/8))<2^(8*(k%8)):=by
  rw[Yn (Xg _),← Xk,show 8*(k%8)+64*(k/8)=8*k from by omega];exact dt f k
 have hb:=(f k).isLt;have hs:2^(8*(k%8))*256≤18446744073709551616:=by
  have:2^(8*(k%8))*2^8≤2^64:=by rw[← Xk];exact Xx Ω Ω
  exact this
 unfold lw;rw[qc,ji _ _ _ (Xg _)];generalize leK f k/2^(64*(k/8))=y at *
 have e:(f k).toNat*2^(8*(k%8))≤255*2^(8*(k%8)):=YI _ Ω;have h:=Yt hy (f k).toNat
 rw[Y3]at h;generalize(f k).toNat*2^(8*(k%8))=z,2^(8*(k%8))=Ezq at *
 refine⟨?_,Ω⟩;rw[Xd Ω,Xd Ω,Nat.or_comm,← h,Nat.add_comm]
theorem Ih(f:Φ){k:Nat}(hk:k<32):row 4 (upd (lv (leK f k)) (k/8) (.int .u64 (lw (leK f (k+1)) (k/8):Nat)))=an (leK f (k+1)):=am fun p hp=>by
 unfold upd;by_cases e:p=k/8
 ·subst e;rw[Ρ rfl];rfl
 ·rw[Χ e]
  have:lw (leK f k) p=lw (leK f (k+1)) p:=by
   rcases XI p (k/8)with h|h
   ·obtain⟨d,hd⟩:∃d,k/8=p+1+d:=⟨k/8-(p+1),Ω⟩
    unfold lw;rw[qc,hd,YD,Xk,Yu,Xk,XK,XK,ji _ _ _ (Xg _)];exact(XD _ _ _).symm
   ·have h1:leK f k<2^(64*p):=Xl (dt f k) (Xx Ω Ω)
    have h2:leK f (k+1)<2^(64*p):=Xl (dt f (k+1)) (Xx Ω Ω);unfold lw;rw[Xp h1,Xp h2]
  unfold lv;rw[this]
theorem Bh(f:Φ)(k:Nat):bits .or .u64 (lw (leK f k) (k/8):Int) (IntKind.u64.wrap (B8 (f k)*2^(8*(k%8))))=(lw (leK f (k+1)) (k/8):Nat):=by
 obtain⟨h1,h2⟩:=Kb f k;have e:B8 (f k)*2^(8*(k%8))=(((f k).toNat*2^(8*(k%8)):Nat):Int):=by unfold B8;norm_cast
 rw[e,XM,show(((f k).toNat*2^(8*(k%8)):Nat):Int)%18446744073709551616=(((f k).toNat*2^(8*(k%8)):Nat):Int)from by omega];have:=bits_or_u64_nat (lw (leK f k) (k/8)) ((f k).toNat*2^(8*(k%8))) (dC _ _) h2;rw[h1]at this;exact this
theorem Cx(f:Φ){k:Nat}(h:k<32)(w:ϑ):(Instr.index 24 (.agg (aa 32 f)) (.int .i64 k)).run prog w= .ok (.int .u8 (B8 (f k))) w :=
 iu (fun i=>Value.int .u8 (B8 (f i))) underlying24 (e:=5) Θ (fun w=>by kernel_rfl) h w
theorem Ev(f:Φ)(w:ϑ):Rt 270 #[.agg (aa 32 f)] w (.agg (an (leN f))):=by
 have I:=Loc.nil w;go_enter func270,ntmps270;go_wp2_with (first|refine gBp 1 fun b1 J I=>?_|refine gBp 2 fun b2 J I=>?_|refine gBp 3 fun b3 J I=>?_|refine aQq fun _ J I=>?_);go_loopw [7] (fun kk wr=>∃k:Nat,k≤32∧kk= .int .i64 k∧Loc w wr [(b3,an (leK f k),311),(b2,an 0,311),(b1,aa 32 f,24)]) (fun kk _=>32-(intOf kk).toNat);case atStart=>exact⟨0,Ω,rfl,I⟩
 case round =>
  clear I;obtain⟨k,hk,rfl,I⟩:=hrel;by_cases hlt:k<32
  ·have hk0:(0:Int)≤(k:Int):=Ω
   have hk1:(k:Int)<32:=Ω;haveI g1:Cell (an (leK f k)) (k/8) (.int .u64 (lw (leK f k) (k/8):Nat)):=aO _ Ω;have e1:(k:Int)/8=((k/8:Nat):Int):=Ω;have e2:(k:Int)%8=((k%8:Nat):Int):=Ω;have hq1:((k/8:Nat):Int)<4:=Ω;have hr1:((k%8:Nat):Int)<8:=Ω;have hi:∀w,(Instr.index 24 (.agg (aa 32 f)) (.int .i64 k)).run prog w= .ok (.int .u8 (B8 (f k))) w:=fun w=>Cx f hlt w;haveI g2:Put (an (leK f k)) (k/8) (.int .u64 (lw (leK f (k+1)) (k/8):Nat)) (an (leK f (k+1))):=bm Ω (Ih f hlt);have hv:=Bh f k;have wb:IntKind.u64.wrap (B8 (f k))=B8 (f k):=by have:=bP (f k);rw[XM];omega
   have hm:min (8*(k%8)) 64=8*(k%8):=Ω;generalize k/8=q,k%8=r at *
   obtain⟨v0,v1⟩:=bP (f k);have wq:IntKind.i64.wrap (q:Int)=(q:Int):=W3 _ Ω;have wr':IntKind.i64.wrap (r:Int)=(r:Int):=W3 _ Ω;have ws:IntKind.i64.wrap (8*(r:Int))=((8*r:Nat):Int):=W3 _ Ω;have e3:(k:Int).tdiv 8=(q:Int):=by rw[X6 Ω];omega
   have e4:(k:Int).tmod 8=(r:Int):=by rw[XF Ω];omega
   have hq0:(0:Int)≤(q:Int):=Ω;have hs0:(0:Int)≤((8*r:Nat):Int):=Ω;generalize 8*r=s at *
   go_wp2_with fail;refine wf [(0,true),(1,true),(2,true),(3,false),(4,true),(5,true),(6,true),(7,true),(8,true),(9,true),(10,true),(11,true)] [] [12] I ?_;refine fA ?_;refine fB fun J I=>?_;go_wp2_with fail;go_roundw;case rel=>exact⟨k+1,Ω,by go_num,I⟩
   case measure=>exact ϝ
  ·obtain rfl:k=32:=Ω
   go_wp2_with (refine aQq fun _ J I=>?_);exact Λ
instance OG:Ent 270:=eo func270
instance OH(f:Φ):FnC 270 #[.agg (aa 32 f)] (.agg (an (leN f))):=⟨Ev f⟩
def ah(n:Nat):Nat→Γ:=fun i=>BitVec.ofNat 8 (n/2^(8*i))
def la(n k:Nat):Nat→Γ:=fun i=>if i<k then ah n i else 0
theorem zn(n:Nat):la n 0=fun _=>0:=funext fun i=>by unfold la;rw[Χ Ω]
theorem zo(n:Nat):aa 32 (la n 32)=aa 32 (ah n):=am fun i hi=>by unfold la;rw[Ρ hi]
theorem zp(n k:Nat):row 32 (upd (fun i=>Value.int .u8 (B8 (la n k i))) k (.int .u8 (B8 (ah n k))))=aa 32 (la n (k+1)):=am fun i _=>by
 unfold upd la;by_cases e:i=k
 ·subst e;rw[Ρ rfl,Ρ Ω]
 ·rw[Χ e]
  show Value.int .u8 (B8 (if i<k then ah n i else 0))=_;by_cases h:i<k
  ·rw[Ρ h,Ρ Ω]
  ·rw[Χ h,Χ Ω]
theorem Ii(n k:Nat)(h:k<32):lw n (k/8)/2^(8*(k%8))%256=n/2^(8*k)%256:=by
 unfold lw;have h64:(18446744073709551616:Nat)=2^(8*(k%8))*(256*2^(56-8*(k%8))):=by
  rw[show(256:Nat)=2^8 from rfl,← Xk,← Xk,show 8*(k%8)+(8+(56-8*(k%8)))=64 from by omega]
 rw[h64,Nat.mod_mul_right_div_self,Nat.mod_mul_right_mod,Xj,← Xk,show 64*(k/8)+8*(k%8)=8*k from by omega]
theorem Cy(n k:Nat)(h:k<32):(lw n (k/8):Int)/2^(8*(k%8))%256=B8 (ah n k):=by
 unfold B8 ah;rw[Xv,show 2^8=256 from rfl,← Ii n k h];generalize lw n (k/8)=x;generalize 8*(k%8)=s;rw[Ye,Zs,YM];rfl
theorem Bi(n:Nat)(w:ϑ):Rt 284 #[.agg (an n)] w (.agg (aa 32 (ah n))):=by
 have I:=Loc.nil w;have HF:=Hd (zo n);have HZ:=Hd (zn n);go_enter func284,ntmps284;go_wp2_with (first|refine gBp 1 fun b1 J I=>?_|refine gBp 2 fun b2 J I=>?_|refine gBp 3 fun b3 J I=>?_|refine aQq fun _ J I=>?_);go_loopw [5] (fun kk wr=>∃k:Nat,k≤32∧kk= .int .i64 k∧Loc w wr [(b3,aa 32 (la n k),24),(b2,aa 32 fun _=>0,24),(b1,an n,311)]) (fun kk _=>32-(intOf kk).toNat);case atStart=>exact⟨0,Ω,rfl,by rw[HZ.out];exact I⟩
 case round =>
  clear I;obtain⟨k,hk,rfl,I⟩:=hrel;by_cases hlt:k<32
  ·have hk0:(0:Int)≤(k:Int):=Ω
   have hk1:(k:Int)<32:=Ω;haveI g1:Cell (an n) (k/8) (.int .u64 (lw n (k/8):Nat)):=aO _ Ω;haveI g2:Put (aa 32 (la n k)) k (.int .u8 ((lw n (k/8):Int)/2^(8*(k%8))%256)) (aa 32 (la n (k+1))):=bm hlt (by rw[Cy n k hlt];exact zp n k);have e1:(k:Int)/8=((k/8:Nat):Int):=Ω;have e2:(k:Int)%8=((k%8:Nat):Int):=Ω;have hq1:((k/8:Nat):Int)<4:=Ω;have hr1:((k%8:Nat):Int)<8:=Ω;have e3:8*((k%8:Nat):Int)=((8*(k%8):Nat):Int):=Ω;generalize k/8=q,8*(k%8)=s at *
   generalize k%8=r at *
   go_wp2_with (refine aQq fun _ J I=>?_);go_roundw;case rel=>exact⟨k+1,Ω,by go_num,I⟩
   case measure=>exact ϝ
  ·obtain rfl:k=32:=Ω
   rw[HF.out]at I;go_wp2_with (refine aQq fun _ J I=>?_);exact Λ
instance OI:Ent 284:=eo func284
instance OJ(n:Nat):FnC 284 #[.agg (an n)] (.agg (aa 32 (ah n))):=⟨Bi n⟩
theorem Ew(n m:Nat)(hn:n<2^256)(hm:m<2^256)(w:ϑ):Rt 278 #[.agg (an n),.agg (an m)] w (.bool (decide (n<m))):=by
 have I:=Loc.nil w;have hs:=gi n m hn hm;have hb:bw n m 4=if n<m then 1 else 0:=by
  unfold bw;rw[show 64*4=256 from rfl,Xd hn,Xd hm]
 generalize n+2^256-m=d at *
 by_cases h:n<m
 ·rw[Ρ h]at hb
  rw[hb]at hs;haveI f1:FnC 296 #[.agg (an n),.agg (an m)] (.tuple #[.agg (an d),.int .u64 1]):=⟨hs⟩;rw[Xw h];clear hs hb h hn hm;go_enter func278,ntmps278;go_wp2_with (refine aQq fun _ J I=>?_);go_ret;exact⟨rfl,I.bel⟩
 ·rw[Χ h]at hb
  rw[hb]at hs;haveI f1:FnC 296 #[.agg (an n),.agg (an m)] (.tuple #[.agg (an d),.int .u64 0]):=⟨hs⟩;rw[XB h];clear hs hb h hn hm;go_enter func278,ntmps278;go_wp2_with (refine aQq fun _ J I=>?_);go_ret;exact⟨rfl,I.bel⟩
instance OK:Ent 278:=eo func278
noncomputable def de:Nat→Pt→Pt
 | 0,_=>pO
 | n+1,p=>cI (de n p) p
theorem fY{p:Pt}(h:On p):∀n,On (de n p)
 | 0=>OC
 | n+1=>uD (fY h n) h
theorem gM{p:Pt}(h:On p)(m:Nat):∀n,de (m+n) p=cI (de m p) (de n p)
 | 0=>(uE _).symm
 | n+1=>by
  show cI (de (m+n) p) p=cI (de m p) (cI (de n p) p);rw[gM h m n,pY (fY h m) (fY h n) h]
theorem wI(p:Pt):de 1 p=p:=Eo p
theorem Ey:∀n,de n pO=pO
 | 0=>rfl
 | n+1=>by show cI (de n pO) pO=pO;rw[Ey n,uE]
theorem qe{p:Pt}(h:On p)(m:Nat):∀n,de (n*m) p=de n (de m p)
 | 0=>by rw[Nat.zero_mul];rfl
 | n+1=>by rw[Nat.succ_mul,gM h,qe h m n];rfl
theorem Ez{p:Pt}(h:On p){q:Nat}(hq:de q p=pO)(n:Nat):de (n%q) p=de n p:=by
 have e:de (q*(n/q)+n%q) p=de (n%q) p:=by
  rw[gM h,XU,qe h,hq,Ey,Eo]
 rw[ZS]at e;exact e.symm
structure Ex where
 x:F
 y:F
 z:F
 t:F
def Rep(e:Ex)(p:Pt):Prop:=e.z≠0∧e.x=p.x*e.z∧e.y=p.y*e.z∧e.t=p.x*p.y*e.z
def dm(p q:Ex):Ex :=
 let a:=(p.y-p.x)*(q.y-q.x)
 let b:=(p.y+p.x)*(q.y+q.x)
 let c:=p.t*(dF+dF)*q.t
 let z:=p.z*(q.z+q.z)
 ⟨(b-a)*(z-c),(z+c)*(b+a),(z-c)*(z+c),(b-a)*(b+a)⟩
def exO:Ex:=⟨0,1,1,0⟩
def oX(p:Pt):Ex:=⟨p.x,p.y,1,p.x*p.y⟩
theorem LU:Rep exO pO:=by
 refine⟨pX,?_,?_,?_⟩ <;> decide +kernel
theorem nT(a:F):a=a*1:=by grind
theorem EA(p:Pt):Rep (oX p) p:=⟨pX,nT _,nT _,nT _⟩
theorem OL(x1 y1 x2 y2 z1 z2:F):(y1*z1+x1*z1)*(y2*z2+x2*z2)-(y1*z1-x1*z1)*(y2*z2-x2*z2)=2*(z1*z2)*(x1*y2+y1*x2):=by grind
theorem OM(x1 y1 x2 y2 z1 z2:F):(y1*z1+x1*z1)*(y2*z2+x2*z2)+(y1*z1-x1*z1)*(y2*z2-x2*z2)=2*(z1*z2)*(y1*y2+x1*x2):=by grind
theorem ON(x1 y1 x2 y2 z1 z2 d:F):z1*(z2+z2)-x1*y1*z1*(d+d)*(x2*y2*z2)=2*(z1*z2)*(1-d*x1*x2*y1*y2):=by grind
theorem OO(x1 y1 x2 y2 z1 z2 d:F):z1*(z2+z2)+x1*y1*z1*(d+d)*(x2*y2*z2)=2*(z1*z2)*(1+d*x1*x2*y1*y2):=by grind
theorem OP(X m1 m2 l:F):l*(X*m1)*(l*m2)=X*(l*m2*(l*m1)):=by grind
theorem OQ(Yzq m1 m2 l:F):l*m1*(l*(Yzq*m2))=Yzq*(l*m2*(l*m1)):=by grind
theorem OR(X Yzq m1 m2 l:F):l*(X*m1)*(l*(Yzq*m2))=X*Yzq*(l*m2*(l*m1)):=by grind
theorem Bj{e f:Ex}{p q:Pt}(hp:On p)(hq:On q)(he:Rep e p)(hf:Rep f q):Rep (dm e f) (cI p q):=by
 obtain⟨x1,y1,z1,t1⟩:=e;obtain⟨x2,y2,z2,t2⟩:=f;obtain⟨n1,a1,b1,c1⟩:=he;obtain⟨n2,a2,b2,c2⟩:=hf;simp only at n1 n2 a1 b1 c1 a2 b2 c2;subst a1 b1 c1 a2 b2 c2;have hx:=lH hp hq;have hy:=gL hp hq;have m1:=ij hp hq;have m2:=ej hp hq;unfold dm;simp only;rw[OL,OM,ON,OO,← hx,← hy];have hl:(2:F)*(z1*z2)≠0:=bj jU (bj n1 n2);generalize(2:F)*(z1*z2)=l at *
 generalize 1+dF*p.x*q.x*p.y*q.y=M1 at *
 generalize 1-dF*p.x*q.x*p.y*q.y=M2 at *
 refine⟨bj (bj hl m2) (bj hl m1),?_,?_,?_⟩
 ·exact OP _ _ _ _
 ·exact OQ _ _ _ _
 ·exact OR _ _ _ _ _
def ik(e:Ex)(n:Nat):Nat→Ex
 | 0=>exO
 | k+1=>if n/2^(255-k)%2=1 then dm (dm (ik e n k) (ik e n k)) e else dm (ik e n k) (ik e n k)
theorem wJ{e:Ex}{p:Pt}(hp:On p)(he:Rep e p)(n:Nat):∀k,k≤256→n<2^256→Rep (ik e n k) (de (n/2^(256-k)) p)
 | 0,_,hn=>by rw[Xp (by simpa using hn)];exact LU
 | k+1,hk,hn=>by
  have ih:=wJ hp he n k Ω hn;have e1:n/2^(256-k)=n/2^(255-k)/2:=by rw[Xj,← Zb];congr 2;omega
  rw[e1]at ih;have o1:=fY hp (n/2^(255-k)/2);have i2:=Bj o1 o1 ih ih;rw[← gM hp]at i2;show Rep (if n/2^(255-k)%2=1 then _ else _) _;rw[show 256-(k+1)=255-k from by omega];by_cases h:n/2^(255-k)%2=1
  ·rw[Ρ h]
   have:=Bj (fY hp _) hp i2 he;rw[show n/2^(255-k)=n/2^(255-k)/2+n/2^(255-k)/2+1 from by omega];exact this
  ·rw[Χ h]
   have e2:n/2^(255-k)/2+n/2^(255-k)/2=n/2^(255-k):=Ω;rw[e2]at i2;exact i2
def cE(e:Ex)(n:Nat):Ex:=ik e n 256
theorem tz{e:Ex}{p:Pt}(hp:On p)(he:Rep e p){n:Nat}(hn:n<2^256):Rep (cE e n) (de n p):=by
 have:=wJ hp he n 256 (Xn _) hn;rw[Nat.sub_self,Yh,Yj]at this;exact this
def pB:Pt:=⟨fe 15112221349535400772501151409588531511454012693041857206046113283949847762202,fe 46316835694926478169428394003475163141307993866256225615783033603165251855960⟩
theorem sB:On pB:=by unfold On;decide +kernel
def exB:Ex:=oX pB
def Qo:Nat:=7237005577332262213973186563042994240857116359379907606001950938285454250989
theorem Q_prime:Pr Qo:=OA
structure En where
 x:Nat
 y:Nat
 z:Nat
 t:Nat
 deriving DecidableEq
def sD(a b:Nat):Nat:=a*b%P
def uI(a b:Nat):Nat:=(a+b)%P
def zq(a b:Nat):Nat:=(P-b+a)%P
def wK(p q:En):En :=
 let a:=sD (zq p.y p.x) (zq q.y q.x)
 let b:=sD (uI p.y p.x) (uI q.y q.x)
 let c:=sD (sD p.t (uI dF.val dF.val)) q.t
 let z:=sD p.z (uI q.z q.z)
 ⟨sD (zq b a) (zq z c),sD (uI z c) (uI b a),sD (zq z c) (uI z c),sD (zq b a) (uI b a)⟩
def Ex.en(e:Ex):En:=⟨e.x.val,e.y.val,e.z.val,e.t.val⟩
theorem Kc(a b:F):(a*b).val=sD a.val b.val:=Fin.val_mul a b
theorem Ij(a b:F):(a+b).val=uI a.val b.val:=Fin.val_add a b
theorem Kd(a b:F):(a-b).val=zq a.val b.val:=Fin.sub_def a b ▸ rfl
theorem zt(p q:Ex):(dm p q).en=wK p.en q.en:=by
 unfold dm wK Ex.en;simp only[Kc,Ij,Kd]
def enB:En:=⟨15112221349535400772501151409588531511454012693041857206046113283949847762202,46316835694926478169428394003475163141307993866256225615783033603165251855960,1,46827403850823179245072216630277197565144205554125654976674165829533817101731⟩
def qf(e:En)(n:Nat):Nat→En
 | 0=>⟨0,1,1,0⟩
 | k+1=>match Nat.beq (n/2^(255-k)%2) 1 with
  | true=>wK (wK (qf e n k) (qf e n k)) e
  | false=>wK (qf e n k) (qf e n k)
theorem qg(e:Ex)(n:Nat):∀k,(ik e n k).en=qf e.en n k
 | 0=>(by decide +kernel:exO.en=⟨0,1,1,0⟩)
 | k+1=>by
  show(if _ then _ else _:Ex).en=_;unfold qf;by_cases h:n/2^(255-k)%2=1
  ·rw[Ρ h,zt,zt,qg e n k,h]
  ·rw[Χ h,zt,qg e n k,show n/2^(255-k)%2=0 from by omega]
theorem zu:(fun e:En=>Nat.beq e.x 0&&Nat.beq e.y e.z) (qf enB Qo 256)=true:=Ϛ
theorem Ke:exB.en=enB:=Ϛ
theorem Ik:de Qo pB=pO:=by
 have hr:=tz sB (EA pB) (n:=Qo) Ϛ;have hc:=zu;rw[← Ke,← qg,show ik exB Qo 256=cE (oX pB) Qo from rfl]at hc;obtain⟨h1,h2,h3,_⟩:=hr;generalize cE (oX pB) Qo=e at *
 simp only[Ex.en,Xs,Nat.beq_eq]at hc;have ex:e.x=0:=ZM hc.1;have ey:e.y=e.z:=ZM hc.2;rw[ex]at h2;rw[ey]at h3;refine Pt.ext' ?_ ?_
 ·rcases gK h2.symm with h|h
  ·exact h
  ·exact absurd h h1
 ·exact dD h1 (h3.symm.trans (by show e.z=1*e.z;grind))
def enc(p:Pt):Nat:=p.y.val+2^255*(p.x.val%2)
noncomputable def cd(e:Ex):Nat:=(e.y*inv e.z).val+2^255*((e.x*inv e.z).val%2)
theorem Cz{e:Ex}{p:Pt}(h:Rep e p):cd e=enc p:=by
 obtain⟨h1,h2,h3,_⟩:=h;have:=eL h1;unfold cd enc;rw[h2,h3,show p.x*e.z*inv e.z=p.x from by grind,show p.y*e.z*inv e.z=p.y from by grind]
def lM(a x y:F):Option F:=if x*x=a then some x else if y*y=a then some y else none
def bA:Nat:=(P+3)/8
noncomputable def fy(a:F):Option F:=lM a (Eh (pw a bA)) (Eh (pw a bA)*iF)
theorem mJ(a:F):fy a=lM a (pw a bA) (pw a bA*iF):=by unfold fy;rw[uB]
theorem EB{a r:F}(h:fy a=some r):r*r=a:=by
 rw[mJ]at h;unfold lM at h;generalize pw a bA=x at h;by_cases h1:x*x=a
 ·rw[Ρ h1]at h;cases h;exact h1
 ·rw[Χ h1]at h
  by_cases h2:x*iF*(x*iF)=a
  ·rw[Ρ h2]at h;cases h;exact h2
  ·rw[Χ h2]at h;cases h
theorem EC(x:F):∃r,fy (x*x)=some r:=by
 have κ:pw (x*x) (bA)*pw (x*x) (bA)=x*x∨pw (x*x) (bA)*pw (x*x) (bA)= -(x*x):=by
  by_cases hx:x=0
  ·left
   subst hx;rw[show(0:F)*0=0 from by grind,mF _ Ϛ];grind
  ·have e1:pw (x*x) (bA)*pw (x*x) (bA)=x*x*pw x ((P-1)/2):=by
    rw[← nP,show bA+bA=1+(P-1)/4 from by decide +kernel,nP,show(P-1)/2=2*((P-1)/4)from by decide +kernel,zl];have:pw x 2=x*x:=by show 1*x*x=_;grind
    rw[this];have:pw (x*x) 1=x*x:=by show 1*(x*x)=_;grind
    rw[this]
   have e2:pw x ((P-1)/2)*pw x ((P-1)/2)=1:=by
    rw[← nP,show(P-1)/2+(P-1)/2=P-1 from by decide +kernel];exact pV hx
   rw[e1];generalize pw x ((P-1)/2)=s at *
   have:(s-1)*(s+1)=0:=by grind
   rcases gK this with h|h
   ·left;grind
   ·right;grind
 rw[mJ];unfold lM;have hi:=LN;rcases κ with h|h
 ·exact⟨_,Ρ h⟩
 ·by_cases h0:pw (x*x) (bA)*pw (x*x) (bA)=x*x
  ·exact⟨_,Ρ h0⟩
  ·refine⟨_,(Χ h0).trans (Ρ ?_)⟩
   generalize pw (x*x) (bA)=y at *
   grind
noncomputable def bK(n:Nat):Option Ex :=
 if n%2^255<P then
  let y:=fe (n%2^255)
  match fy ((y*y-1)*inv (dF*(y*y)+1))with
  | none=>none
  | some x =>
   if x=0∧n/2^255%2=1 then none
   else if x.val%2=n/2^255%2 then some ⟨x,y,1,x*y⟩else some ⟨-x,y,1,-x*y⟩
 else none
theorem ED(y:F):dF*(y*y)+1≠0:=by
 intro h;by_cases hy:y=0
 ·rw[hy,Z3,Z3]at h
  exact absurd h Ϛ
 ·have hn:=Em (u:=1) (v:=y) (by grind)
  exact hy hn
theorem Il{x:F}(h:x≠0):(-x).val=P-x.val:=by
 have h1:x.val≠0:=fun e=>h (ZM e);have:(-x).val=(P-x.val)%P:=rfl;rw[this,Xd (by have:=x.isLt;omega)]
theorem LV:P%2=1:=Ϛ
theorem EE{p:Pt}(h:On p):bK (enc p)=some (oX p):=by
 obtain⟨x,y⟩:=p;have hP:P<2^255:=Ϛ;have hy:=y.isLt;have e1:enc ⟨x,y⟩%2^255=y.val:=by
  unfold enc;simp only;rw[XD];exact Xd Ω
 have e2:enc ⟨x,y⟩/2^255%2=x.val%2:=by
  unfold enc;simp only;rw[Xy _ _ (Xg _),Xp Ω];omega
 unfold bK;rw[e1,e2,Ρ hy,fG];simp only;have hd:=ED y;have hu:(y*y-1)*inv (dF*(y*y)+1)=x*x:=by
  refine(pW hd ?_).symm;unfold On at h;simp only at h;grind
 rw[hu];obtain⟨r,hr⟩:=EC x;have hs:=EB hr;rw[hr];simp only;have hpm:r=x∨r= -x:=by
  have:(r-x)*(r+x)=0:=by grind
  rcases gK this with h|h
  ·left;grind
  ·right;grind
 unfold oX;simp only;by_cases hx:x=0
 ·have W0:r=0:=by
   rcases hpm with e|e
   ·rw[e,hx]
   ·rw[e,hx];grind
  subst hx W0;rw[Χ (by rintro⟨_,h⟩;exact absurd h Ϛ),Ρ rfl]
 ·have W0:r≠0:=by
   rcases hpm with e|e
   ·rw[e];exact hx
   ·rw[e];intro h0;exact hx (by grind)
  rw[Χ (fun h=>W0 h.1)];rcases hpm with e|e
  ·subst e;rw[Ρ rfl]
  ·rw[Χ]
   ·rw[e,show - -x=x from by grind]
   ·rw[e,Il hx]
    have:=LV;have:=x.isLt;omega
def BRow(w:ϑ)(v:ό)(l:Δ):Prop :=
 ∃a c,v= .slice a l.length c∧(a=none→c=0)∧(0<l.length→∃b off,a=some ⟨b,off,none⟩∧b<w.heap.size∧∀(i:Nat) (h:i<l.length),w.cell? ⟨b,off+i,none⟩=some (.int .u8 (B8 l[i])))
def BRows(w:ϑ)(v:ό)(l:List Δ):Prop :=
 ∃a c,v= .slice a l.length c∧(a=none→c=0)∧(0<l.length→∃b off,a=some ⟨b,off,none⟩∧b<w.heap.size∧∀(i:Nat) (h:i<l.length),∃vi,w.cell? ⟨b,off+i,none⟩=some vi∧BRow w vi l[i])
theorem BRow.below{w Z:ϑ}{v:ό}{l:Δ}(h:BRow w v l)(hb:Υ w Z):BRow Z v l:=by
 obtain⟨a,c,rfl,hn,h⟩:=h;refine⟨a,c,rfl,hn,fun h0=>?_⟩;obtain⟨b,off,rfl,h1,h2⟩:=h h0;exact⟨b,off,rfl,Xl h1 hb.size,fun i hi=>(hb.cell (p:=⟨b,off+i,none⟩) h1).trans (h2 i hi)⟩
theorem BRows.below{w Z:ϑ}{v:ό}{l:List Δ}(h:BRows w v l)(hb:Υ w Z):BRows Z v l:=by
 obtain⟨a,c,rfl,hn,h⟩:=h;refine⟨a,c,rfl,hn,fun h0=>?_⟩;obtain⟨b,off,rfl,h1,h2⟩:=h h0;exact⟨b,off,rfl,Xl h1 hb.size,fun i hi=>let ⟨vi,e,r⟩:=h2 i hi;⟨vi,(hb.cell (p:=⟨b,off+i,none⟩) h1).trans e,r.below hb⟩⟩
def ak(l:Δ):List Value:=l.map fun x=> .int .u8 (B8 x)
def OwnB(w:ϑ)(base:Nat)(v:ό)(l:Δ):Prop:=w.ownsRow base 5 1 v l.length (ak l)
theorem OwnB.brow{w:ϑ}{base:Nat}{v:ό}{l:Δ}(h:OwnB w base v l):BRow w v l:=by
 rcases h.2 with⟨rfl,h0⟩|⟨g,W,E,rfl,_,hg,_,_,_,htake⟩
 ·exact⟨none,0,by rw[h0],fun _=>rfl,fun hp=>by omega⟩
 ·refine⟨_,W,rfl,(fun hc=>by cases hc),fun _=>⟨g,0,rfl,(Array.getElem?_eq_some_iff.1 hg).1,fun i hi=>?_⟩⟩
  have hc:=World.ownsRow.cells h (g:=g) rfl i (.int .u8 (B8 l[i])) (by simp[ak,hi]);have hadd:(⟨g,0,none⟩:Addr).add i=⟨g,0+i,none⟩:=by unfold Addr.add;split <;> simp_all
  rw[hadd]at hc;exact hc
theorem uJ:(prog.info? 5).map (fun i=>(i.zero,i.size,i.bytes))=some (some (.int .u8 0),1,1):=Θ
theorem bD{ops:Array Oper}{rest:List Oper}{o:Oper}{a:Act}{w:ϑ}{Q:Exit→Act→ϑ→Prop}(hgd:o.guard=none)(s x:Operand)(ho:o.op= .call { callee:= .builtin .append,args:= #[s,x],argTypes:= #[29,29] })(base:Nat)(v:ό)(xs l:Δ)(hs:a.eval s=v)(hown:OwnB w base v xs)(hx:BRow w (a.eval x) l)(hsz:xs.length+l.length≤100000000000)(hbase:base≤w.heap.size)(h:∀v' Z,OwnB Z base v' (xs++l)→w.grownBy Z v.ownBlock→wpList prog ops Q rest (a.put o.dst v') Z):wpList prog ops Q (o::rest) a w:=by
 obtain⟨i0,hi0,hz0,hz1,hz2⟩:=info_parts uJ;obtain⟨ad,c,e,hn,hp⟩:=hx;cases ad with
 | none =>
  have hl:l=[]:=by
   rcases X4 l.length with h0|h0
   ·exact XG h0
   ·obtain⟨_,_,hc,_⟩:=hp h0;cases hc
  subst hl;rw[hn rfl]at e;refine wpList_append_own_none hgd s x 29 ho base 5 i0 1 underlying29 hi0 v _ _ hs hown e ?_;exact h v w (by rw[Yf];exact hown) (cH _ _)
 | some ad =>
  refine wpList_append_own w hgd s x 29 ho base 5 i0 _ 1 1 underlying29 hi0 hz0 hz1 hz2 rfl Ξ v xs.length (ak xs) hs hown ad l.length c (ak l) e (by simp[ak]) ?_ ?_ (by unfold maxLen;omega) Ω hbase ?_
  ·intro j u hj
   have hjl:j<l.length:=by
    rcases XI j l.length with h|h
    ·exact h
    ·rw[List.getElem?_eq_none (by simp[ak];exact h)]at hj;cases hj
   obtain⟨b,off,hc,_,hcell⟩:=hp Ω;cases hc
   rw[zaa,hcell j hjl];simpa[ak,hjl] using hj
  ·intro u hu
   obtain⟨y,_,rfl⟩:=List.mem_map.1 hu;rfl
  ·intro v' Z h1 h2 _
   refine h v' Z ?_ h2;unfold OwnB ak;rw[Xa,XQ];exact h1
def eqN(n:Nat)(f g:Nat→Int):Bool:=(List.range n).all fun i=>f i==g i
theorem Bk{n:Nat}{f g:Nat→Int}:eqN n f g=true↔∀i,i<n→f i=g i:=by simp[eqN]
section
variable {P:Program}
theorem oY{t e:ϋ}{n d:Nat}{k:IntKind}(f g:Nat→Int)(ht:P.underlying t=some (.array n e))(hs:(P.info? e).map (·.size)=some 1)(he:P.underlying e=some (.int k))(hr:∀w,(isAgg e).run P w= .ok false w)(w:ϑ) :
 (Op.equalIn (d+2) t (.agg (row n fun i=> .int k (f i))) (.agg (row n fun i=> .int k (g i)))).run P w= .ok (eqN n f g) w:=by
 cases hi:P.info? e with
 | none=>rw[hi]at hs;cases hs
 | some i =>
  have hs:i.size=1:=by simpa[hi] using hs
  have hp:∀(S:Nat→ό) (j:Nat),j<n→∀w,(part e (row n S) j).run P w= .ok (S j) w:=by
   intro S j hj w;simp only[part,Sem.run_bind,hr,Result.andThen_ok,X8,ZP,bG S hj,Sem.run_pure]
  rw[Op.equalIn];simp only[Sem.run_bind,run_underlying ht,Result.andThen_ok,sizeOf,run_typeInfo _ hi,Sem.run_pure,hs,XS];rw[Std.Legacy.Range.forIn_eq_forIn_range'];simp only[Std.Legacy.Range.size,Nat.sub_zero,Yj,Nat.add_one_sub_one];have κ:∀(l:List Nat),(∀j∈l,j<n)→(forIn (m:=Sem) l ((none,()):Option Bool×Unit) fun j r=>do
   let x ← part e (row n fun i=> .int k (f i)) j
   let y ← part e (row n fun i=> .int k (g i)) j
   let b ← Op.equalIn (d+1) e x y
   if(!b)=true then pure (ForInStep.done (some false,()))else pure (ForInStep.yield (none,()))).run P w =
    .ok (if l.all (fun j=>f j==g j)then(none,())else(some false,())) w:=by
   intro l hl
   induction l with
   | nil=>simp
   | cons j l ih =>
    have hj:=hl j Ϡ;simp only[List.forIn_cons,Sem.run_bind,hp _ j hj,Result.andThen_ok,run_equalIn_int w d e k k _ _ he];by_cases hfg:f j=g j
    ·simp only[hfg,beq_self_eq_true,Bool.not_true,X8,ZP,Sem.run_pure,Result.andThen_ok,List.all_cons,Bool.true_and]
     exact ih fun j hj=>hl j (by simp[hj])
    ·have:(f j==g j)=false:=by simpa using hfg
     simp only[this,Bool.not_false,ZV,Sem.run_pure,Result.andThen_ok,List.all_cons,Bool.false_and,X8,ZP]
  have e0:List.range' 0 n=List.range n:=List.range_eq_range'.symm;rw[e0,κ (List.range n) (fun j hj=>List.mem_range.1 hj)];show Result.andThen _ _=_;unfold eqN;cases (List.range n).all fun j=>f j==g j <;> simp
def bn(l:Δ):ByteArray:=⟨(l.map fun x=>UInt8.ofNat x.toNat).toArray⟩
theorem jW(l:Δ):(bn l).toList=l.map fun x=>UInt8.ofNat x.toNat:=by rw[ByteArray.toList_eq];rfl
theorem Kf{x y:Γ}(h:UInt8.ofNat x.toNat=UInt8.ofNat y.toNat):x=y:=by
 have:=XH UInt8.toNat h;have hx:=x.isLt;have hy:=y.isLt;rw[UInt8.toNat_ofNat_of_lt' (by simpa[UInt8.size] using hx),UInt8.toNat_ofNat_of_lt' (by simpa[UInt8.size] using hy)]at this;exact Yi this
theorem iL(a b:Δ):((bn a).toList==(bn b).toList)=decide (a=b):=by
 rw[jW,jW];by_cases h:a=b
 ·subst h;simp
 ·rw[XB h]
  rw[Zl];intro hc;exact h ((List.map_inj_right fun _ _=>Kf).1 hc)
theorem qh{w:ϑ}{v:ό}{l:Δ}{src e dst:ϋ}(h:BRow w v l)(hs:P.underlying src=some (.slice e))(he:P.underlying e=some (.int .u8))(hd:P.underlying dst=some .string) :
 (convert src dst v).run P w= .ok (.string (bn l)) w:=by
 obtain⟨a,c,rfl,hn,hp⟩:=h;rcases X4 l.length with h0|h0
 ·obtain rfl:l=[]:=XG h0
  rw[run_convert_bytes_string w src dst e _ _ _ hs he hd];cases a with
  | none=>simp[Conv.bytesToString];rfl
  | some a =>
   have:=run_bytesToString (P:=P) w a 0 c [] (run_loadCells_list (P:=P) w a [] (fun j v hj=>by simp at hj));exact this
 ·obtain⟨b,off,rfl,_,hc⟩:=hp h0
  have:=run_convert_bytes_arg (P:=P) w src e hs he b off l.length c (l.map B8) Ϡ (fun i hi=>by
   rw[hc i hi,List.getD_eq_getElem?_getD,List.getElem?_map,List.getElem?_eq_getElem hi];rfl) dst hd
  rw[this];congr 2;unfold strOfNums bn;congr 2;rw[List.map_map];rfl
end
class EqV(t:ϋ)(r s:Ψ)(b:outParam Bool):Prop where
 eql:∀w,(binOp .eql t (.agg r) (.agg s)).run prog w= .ok (.bool b) w
 neq:∀w,(binOp .neq t (.agg r) (.agg s)).run prog w= .ok (.bool !b) w
 ge:∀x y w,(eqGuard .eql t x y (.agg r) (.agg s)).run prog w= .ok () w
 gn:∀x y w,(eqGuard .neq t x y (.agg r) (.agg s)).run prog w= .ok () w
section
variable {ops:Array Oper} {rest:List Oper} {l:List (Oper×Bool)} {R:Act→Prop} {S:ϑ→Prop} {o:Oper} {a:Act} {D w:ϑ} {M M':Mem} {Q:Exit→Act→ϑ→Prop}
theorem uK{t:ϋ}{x y:Operand}{ev:Operand→ό}{r s:Ψ}(hx:ev x= .agg r)(hy:ev y= .agg s){b:Bool}[h:EqV t r s b](w:ϑ) :
 (o.op= .binOp .eql t x y t→(execOp ev o).run prog w= .ok (.value (.bool b)) w)∧(o.op= .binOp .neq t x y t→(execOp ev o).run prog w= .ok (.value (.bool !b)) w):=by
 constructor
 ·intro ho
  unfold execOp;simp only[ho,hx,hy,Sem.run_bind,h.ge,h.eql,Result.andThen_ok,Sem.run_pure]
 ·intro ho
  unfold execOp;simp only[ho,hx,hy,Sem.run_bind,h.gn,h.neq,Result.andThen_ok,Sem.run_pure]
theorem lQ(I:Loc D w M)(hg:o.guard=none){t:ϋ}{x y:Operand}(ho:o.op= .binOp .eql t x y t){r s:Ψ}(hx:a.eval x= .agg r)(hy:a.eval y= .agg s){b:Bool}[h:EqV t r s b](h:∀Z,Loc D Z M→wpList prog ops Q rest (a.put o.dst (.bool b)) Z):wpList prog ops Q (o::rest) a w :=
 Xt hg fun K T=>by
  unfold Oper.wp;rw[(uK hx hy w).1 ho];exact T _ _ (h w I)
theorem sQ(hg:o.guard=none){t:ϋ}{x y:Operand}(ho:o.op= .binOp .eql t x y t){r s:Ψ}(hx:a.eval x= .agg r)(hy:a.eval y= .agg s){b:Bool}[h:EqV t r s b](h:bC prog ops S l (a.put o.dst (.bool b)) R):bC prog ops S ((o,true)::l) a R:=iJ hg (fun w=>(uK hx hy w).1 ho) h
theorem sN(hg:o.guard=none){t:ϋ}{x y:Operand}(ho:o.op= .binOp .neq t x y t){r s:Ψ}(hx:a.eval x= .agg r)(hy:a.eval y= .agg s){b:Bool}[h:EqV t r s b](h:bC prog ops S l (a.put o.dst (.bool !b)) R):bC prog ops S ((o,true)::l) a R:=iJ hg (fun w=>(uK hx hy w).2 ho) h
end
theorem Bl{t e:ϋ}{n:Nat}{k:IntKind}(f g:Nat→Int){b:Bool}(ht:prog.underlying t=some (.array n e))(hs:(prog.info? e).map (·.size)=some 1)(he:prog.underlying e=some (.int k))(hr:∀w,(isAgg e).run prog w= .ok false w)(h1:∀r s x y w,(eqGuard .eql t x y (.agg r) (.agg s)).run prog w= .ok () w)(h2:∀r s x y w,(eqGuard .neq t x y (.agg r) (.agg s)).run prog w= .ok () w)(hb:eqN n f g=b):EqV t (row n fun i=> .int k (f i)) (row n fun i=> .int k (g i)) b:=by
 have:=fun w=>oY (P:=prog) (d:=9998) f g ht hs he hr w;rw[show 9998+2=10000 from rfl]at this;refine⟨fun w=>?_,fun w=>?_,fun x y w=>h1 _ _ x y w,fun x y w=>h2 _ _ x y w⟩
 ·rw[run_eql_struct]
  show Result.andThen ((Op.equalIn 10000 t (.agg (row n fun i=> .int k (f i))) (.agg (row n fun i=> .int k (g i)))).run prog w) _=_;rw[this,hb];rfl
 ·rw[run_neq_struct]
  show Result.andThen ((Op.equalIn 10000 t (.agg (row n fun i=> .int k (f i))) (.agg (row n fun i=> .int k (g i)))).run prog w) _=_;rw[this,hb];rfl
theorem Kg{n m:Nat}(hn:n<2^256)(hm:m<2^256)(h:∀i,i<4→lw n i=lw m i):n=m:=by
 have h0:=h 0 Ω;have h1:=h 1 Ω;have h2:=h 2 Ω;have h3:=h 3 Ω;unfold lw at *
 simp only[XO,XS,Nat.reduceMul,Nat.reducePow]at *
 omega
theorem JF(n m:Nat)(hn:n<2^256)(hm:m<2^256):EqV 311 (an n) (an m) (decide (n=m)) :=
 Bl (fun i=>(lw n i:Int)) (fun i=>(lw m i:Int)) underlying311 Θ underlying227 (fun w=>by kernel_rfl)
  (fun r s x y w=>run_eqGuard_agg _ _ _ _ _ _ _ Θ) (fun r s x y w=>run_eqGuard_agg _ _ _ _ _ _ _ Θ) (by
   rw[Bool.eq_iff_iff,Bk,ZO];exact⟨fun h=>Kg hn hm fun i hi=>Int.ofNat_inj.1 (h i hi),fun h i _=>by rw[h]⟩)
theorem EF:P<2^256:=Ϛ
theorem jX(a:F):a.val<2^256:=Yo a.isLt EF
theorem EG(a b:F):EqV 311 (an a.val) (an b.val) (decide (a=b)):=by
 have:=JF a.val b.val (jX a) (jX b);rw[show decide (a.val=b.val)=decide (a=b)from by rw[Bool.eq_iff_iff,ZO,ZO];exact⟨ZM,fun h=>by rw[h]⟩]at this;exact this
theorem zv(a:F)(n:Nat):pw a n*pw a n=pw a (2*n):=by rw[Nat.two_mul,nP]
theorem qi(e j:Nat)(hj:j<256):e/2^(255-j)=2*(e/2^(256-j))+e/2^(255-j)%2:=by
 have:e/2^(256-j)=e/2^(255-j)/2:=by rw[Xj,← Zb];congr 2;omega
 omega
theorem Bm: #[Value.int .u64 1,Value.int .u64 0,Value.int .u64 0,Value.int .u64 0]=an 1:=Θ
theorem Im: #[Value.int .u64 2,Value.int .u64 0,Value.int .u64 0,Value.int .u64 0]=an 2:=Θ
theorem uM: #[Value.int .u64 0,Value.int .u64 0,Value.int .u64 0,Value.int .u64 0]=an 0:=Θ
theorem Bn:(1:F).val=1:=Ϛ
theorem uN:(0:F).val=0:=Ϛ
theorem tA(a:F)(e:Nat)(he:e<2^256)(w:ϑ):Rt 302 #[.agg (an a.val),.agg (an e)] w (.agg (an (pw a e).val)):=by
 have I:=Loc.nil w;have h1:=Hd Bm;have z0:=Hd (show an 1=an (pw a (e/2^(256-0))).val from by rw[Nat.sub_zero,Xp he,show pw a 0=1 from rfl,Bn]);clear he;go_enter func302,ntmps302;go_wp2_with (first|refine gBp 2 fun b2 J I=>?_|refine gBp 3 fun b3 J I=>?_|refine gBp 4 fun b4 J I=>?_|refine gBp 5 fun b5 J I=>?_|refine aQq fun _ J I=>?_);rw[h1.out]at I;go_loopw [6] (fun kk wr=>∃j:Nat,j≤256∧kk= .int .i64 (255-(j:Int))∧Loc w wr [(b5,an (pw a (e/2^(256-j))).val,311),(b4,an 0,311),(b3,an e,311),(b2,an a.val,311)]) (fun kk _=>(intOf kk+1).toNat);case atStart=>exact⟨0,Ω,rfl,by rw[← z0.out];exact I⟩
 case round =>
  clear I;obtain⟨j,hj,rfl,I⟩:=hrel;by_cases hlt:j<256
  ·have k0:(0:Int)≤255-(j:Int):=Ω
   have k1:¬255-(j:Int)<0:=Ω;have k2:(j:Int)≤255:=Ω;have hst:=qi e j hlt;have hb:=fun w=>pv e (255-j) Ω w;rw[show((255-j:Nat):Int)=255-(j:Int)from by omega]at hb;have hm:=zv a (e/2^(256-j));by_cases hbit:e/2^(255-j)%2=1
   ·rw[hbit]at hb hst
    have HT:=Hd (show pw a (e/2^(256-(j+1)))=pw a (e/2^(256-j))*pw a (e/2^(256-j))*a from by rw[hm,show 256-(j+1)=255-j from by omega,hst];rfl);generalize pw a (e/2^(256-j))=x at *
    haveI f1:FnC 283 #[.agg (an e),.int .i64 (255-(j:Int))] (.int .u64 1):=⟨hb⟩;clear hb hst hm hbit;go_wp2_with (refine aQq fun _ J I=>?_);go_roundw;case rel=>exact⟨j+1,Ω,by rw[show 255-(j:Int)-1=255-((j+1:Nat):Int)from by omega],by rw[HT.out];exact I⟩
    case measure=>exact ϝ
   ·rw[show e/2^(255-j)%2=0 from by omega]at hb hst
    have HT:=Hd (show pw a (e/2^(256-(j+1)))=pw a (e/2^(256-j))*pw a (e/2^(256-j))from by rw[hm,show 256-(j+1)=255-j from by omega,hst];rfl);generalize pw a (e/2^(256-j))=x at *
    haveI f1:FnC 283 #[.agg (an e),.int .i64 (255-(j:Int))] (.int .u64 0):=⟨hb⟩;clear hb hst hm hbit;go_wp2_with (refine aQq fun _ J I=>?_);go_roundw;case rel=>exact⟨j+1,Ω,by rw[show 255-(j:Int)-1=255-((j+1:Nat):Int)from by omega],by rw[HT.out];exact I⟩
    case measure=>exact ϝ
  ·obtain rfl:j=256:=Ω
   rw[Nat.sub_self,Yh,Yj]at I;have k1:(255:Int)-((256:Nat):Int)= -1:=Ω;rw[k1];clear k1;go_wp2_with (refine aQq fun _ J I=>?_);exact Λ
instance QN:Ent 302:=eo func302
instance QO:Ent 297:=eo func297
theorem wL(a:F)(w:ϑ):Rt 277 #[.agg (an a.val)] w (.agg (an (inv a).val)):=by
 have I:=Loc.nil w;haveI f1:FnC 296 #[.agg (an P),.agg #[.int .u64 2,.int .u64 0,.int .u64 0,.int .u64 0]] (.tuple #[.agg (an (P-2)),.int .u64 0]):=⟨fun w=>by
  have:=gi P 2 EF Ξ w;rw[Im];rw[show bw P 2 4=0 from by decide +kernel,← dZ (P+2^256-2),show(P+2^256-2)%2^256=P-2 from by decide +kernel]at this;exact this⟩
 haveI f2:FnC 302 #[.agg (an a.val),.agg (an (P-2))] (.agg (an (inv a).val)):=⟨by rw[uC];exact tA a (P-2) (Yw (Nat.sub_le _ _) EF)⟩;generalize(inv a).val=r,P-2=e at *
 go_enter func277,ntmps277;go_wp2_with (refine aQq fun _ J I=>?_);exact Λ
instance QP:Ent 277:=eo func277
instance QR(a:F):FnC 277 #[.agg (an a.val)] (.agg (an (inv a).val)):=⟨wL a⟩
def dI(r:F):F:=if r.val%2=1 then 0-r else r
def zw:Option F→Nat
 | some r=>(dI r).val
 | none=>0
noncomputable def EH(a:F):Nat:=zw (fy a)
theorem lN{a r:F}(h:fy a=some r):EH a=(dI r).val:=by show zw (fy a)=_;rw[h];rfl
theorem qj{a:F}(h:fy a=none):EH a=0:=by show zw (fy a)=_;rw[h];rfl
theorem LW: #[Value.int .u64 18446744073709551614,Value.int .u64 18446744073709551615,Value.int .u64 18446744073709551615,Value.int .u64 1152921504606846975]=an bA:=Θ
theorem LX: #[Value.int .u64 14190309331451158704,Value.int .u64 3405592160176694392,Value.int .u64 3120150775007532967,Value.int .u64 3135389899092516619]=an iF.val:=Θ
theorem EI:bA<2^256:=Ϛ
theorem Kh(x:F)(w:ϑ):Rt 283 #[.agg (an x.val),.int .i64 0] w (.int .u64 (x.val%2:Nat)):=by
 have:=pv x.val 0 Ω w;rw[Yh,Yj]at this;exact this
theorem zx(a:F)(w:ϑ):Rt 276 #[.agg (an a.val)] w (.tuple #[.agg (an (EH a)),.bool (fy a).isSome]):=by
 have I:=Loc.nil w;have lz:=Hd (show an 0=an (0:F).val from by rw[uN]);have f1:FnC 302 #[.agg (an a.val),.agg #[.int .u64 18446744073709551614,.int .u64 18446744073709551615,.int .u64 18446744073709551615,.int .u64 1152921504606846975]] (.agg (an (pw a bA).val)):=⟨fun w=>by
  rw[LW];exact tA a _ EI w⟩
 have hfr:fy a=lM a (pw a bA) (pw a bA*iF):=mJ a;generalize pw a bA=x at *
 have f2:FnC 272 #[.agg (an x.val),.agg #[.int .u64 14190309331451158704,.int .u64 3405592160176694392,.int .u64 3120150775007532967,.int .u64 3135389899092516619]] (.agg (an (x*iF).val)):=⟨fun w=>by
  rw[LX];exact tw x iF w⟩
 have g0:∀x:F,FnC 273 #[.agg #[.int .u64 0,.int .u64 0,.int .u64 0,.int .u64 0],.agg (an x.val)] (.agg (an (0-x).val)):=fun x=>⟨fun w=>by
  rw[uM,lz.out];exact nR 0 x w⟩
 generalize x*iF=y at *
 have e1:=EG (x*x) a;have e2:=EG (y*y) a;unfold lM at hfr;by_cases c1:x*x=a
 ·rw[Ρ c1]at hfr
  rw[Xw c1]at e1;have b0:=Kh x;have e3:=lN hfr;rw[e3,hfr];unfold dI;by_cases hb:x.val%2=1
  ·rw[Ρ hb]
   rw[hb]at b0;haveI f3:FnC 283 #[.agg (an x.val),.int .i64 0] (.int .u64 1):=⟨b0⟩;haveI f4:=g0 x;clear hfr c1 b0 hb e3 g0 e2;go_enter func276,ntmps276;go_wp2_with (refine aQq fun _ J I=>?_);refine wf [(0,false),(1,false),(2,false),(3,false),(4,true)] [] [] I ?_
   repeat refine rN ?_
   refine aK ?_;refine fC fun J I=>?_;go_wp2_with (refine aQq fun _ J I=>?_);refine wf [(0,false),(1,false),(2,false),(3,false),(4,true)] [] [] I ?_
   repeat refine rN ?_
   refine aK ?_;refine fC fun J I=>?_;go_wp2_with (refine aQq fun _ J I=>?_);exact Ϣ (ao rfl I rfl rfl) rfl ⟨rfl,I.bel⟩
  ·rw[Χ hb]
   rw[show x.val%2=0 from by omega]at b0;haveI f3:FnC 283 #[.agg (an x.val),.int .i64 0] (.int .u64 0):=⟨b0⟩;clear hfr c1 b0 hb e3 g0 e2;go_enter func276,ntmps276;go_wp2_with (refine aQq fun _ J I=>?_);refine wf [(0,false),(1,false),(2,false),(3,false),(4,true)] [] [] I ?_
   repeat refine rN ?_
   refine aK ?_;refine fC fun J I=>?_;go_wp2_with (refine aQq fun _ J I=>?_);refine wf [(0,false),(1,false),(2,false),(3,false),(4,true)] [] [] I ?_
   repeat refine rN ?_
   refine aK ?_;refine fC fun J I=>?_;go_wp2_with (refine aQq fun _ J I=>?_);exact Ϣ (ao rfl I rfl rfl) rfl ⟨rfl,I.bel⟩
 ·rw[Χ c1]at hfr
  rw[XB c1]at e1;by_cases c2:y*y=a
  ·rw[Ρ c2]at hfr
   rw[Xw c2]at e2;have b0:=Kh y;have e3:=lN hfr;rw[e3,hfr];unfold dI;by_cases hb:y.val%2=1
   ·rw[Ρ hb]
    rw[hb]at b0;haveI f3:FnC 283 #[.agg (an y.val),.int .i64 0] (.int .u64 1):=⟨b0⟩;haveI f4:=g0 y;clear hfr c1 b0 hb e3 g0;go_enter func276,ntmps276;go_wp2_with (refine aQq fun _ J I=>?_);refine wf [(0,false),(1,false),(2,false),(3,false),(4,true)] [] [] I ?_
    repeat refine rN ?_
    refine aK ?_;refine fC fun J I=>?_;go_wp2_with (refine aQq fun _ J I=>?_);refine wf [(0,false),(1,false),(2,false),(3,false),(4,true)] [] [] I ?_
    repeat refine rN ?_
    refine aK ?_;refine fC fun J I=>?_;go_wp2_with (refine aQq fun _ J I=>?_);exact Ϣ (ao rfl I rfl rfl) rfl ⟨rfl,I.bel⟩
   ·rw[Χ hb]
    rw[show y.val%2=0 from by omega]at b0;haveI f3:FnC 283 #[.agg (an y.val),.int .i64 0] (.int .u64 0):=⟨b0⟩;clear hfr c1 b0 hb e3 g0;go_enter func276,ntmps276;go_wp2_with (refine aQq fun _ J I=>?_);refine wf [(0,false),(1,false),(2,false),(3,false),(4,true)] [] [] I ?_
    repeat refine rN ?_
    refine aK ?_;refine fC fun J I=>?_;go_wp2_with (refine aQq fun _ J I=>?_);refine wf [(0,false),(1,false),(2,false),(3,false),(4,true)] [] [] I ?_
    repeat refine rN ?_
    refine aK ?_;refine fC fun J I=>?_;go_wp2_with (refine aQq fun _ J I=>?_);exact Ϣ (ao rfl I rfl rfl) rfl ⟨rfl,I.bel⟩
  ·rw[Χ c2]at hfr
   rw[XB c2]at e2;have e3:=qj hfr;rw[e3,hfr];have nz:=Hd uM;clear hfr c1 e3 g0;go_enter func276,ntmps276;go_wp2_with (refine aQq fun _ J I=>?_);refine wf [(0,false),(1,false),(2,false),(3,false),(4,true)] [] [] I ?_
   repeat refine rN ?_
   refine aK ?_;refine fC fun J I=>?_;go_wp2_with (refine aQq fun _ J I=>?_);refine wf [(0,false),(1,false),(2,false),(3,false),(4,true)] [] [] I ?_
   repeat refine rN ?_
   refine aK ?_;refine fC fun J I=>?_;go_wp2_with (refine aQq fun _ J I=>?_);rw[nz.out]at I;exact Ϣ (ao rfl I rfl rfl) rfl ⟨rfl,I.bel⟩
instance LY:Ent 276:=eo func276
def fz(x y z t:Nat):Ψ:=row 16 fun i=>lv (if i<4 then x else if i<8 then y else if i<12 then z else t) (i%4)
def dV(e:Ex):Ψ:=fz e.x.val e.y.val e.z.val e.t.val
instance Oa(x y z t:Nat):Row1 (fz x y z t) 16:=⟨aS _ _,by simp[fz,row,lv,Value.oneCell']⟩
instance Ob(e:Ex):Row1 (dV e) 16:=inferInstanceAs (Row1 (fz _ _ _ _) 16)
instance Oc:RowTy 313 16:=⟨⟨_,underlying313,rfl⟩,Θ⟩
instance Od:RowZ 313 (fz 0 0 0 0):=⟨Θ⟩
theorem d9{n m k:Nat}{S Tzq:Nat→ό}{u t:ϋ}(h:k+m≤n)(e:∀i,i<m→S (k+i)=Tzq i):Part (row n S) u k t (row m Tzq):=⟨fun j v hv=>by
 have hj:j<m:=by
  rcases XI j m with h|h
  ·exact h
  ·rw[List.getElem?_eq_none (by simp[aS];exact h)]at hv;cases hv
 rw[Array.getElem?_toList,bG Tzq hj]at hv;cases hv
 rw[bG S Ω,e j hj]⟩
theorem EJ(x y z t:Nat):Part (fz x y z t) 313 0 311 (an x):=d9 Ω fun i hi=>by
 have h:i=0∨i=1∨i=2∨i=3:=Ω;rcases h with rfl|rfl|rfl|rfl <;> rfl
instance Oe(e:Ex):Part (dV e) 313 0 311 (an e.x.val):=EJ _ _ _ _
theorem EK(x y z t:Nat):Part (fz x y z t) 313 4 311 (an y):=d9 Ω fun i hi=>by
 have h:i=0∨i=1∨i=2∨i=3:=Ω;rcases h with rfl|rfl|rfl|rfl <;> rfl
instance Of(e:Ex):Part (dV e) 313 4 311 (an e.y.val):=EK _ _ _ _
theorem EL(x y z t:Nat):Part (fz x y z t) 313 8 311 (an z):=d9 Ω fun i hi=>by
 have h:i=0∨i=1∨i=2∨i=3:=Ω;rcases h with rfl|rfl|rfl|rfl <;> rfl
instance LZ(e:Ex):Part (dV e) 313 8 311 (an e.z.val):=EL _ _ _ _
theorem CA(x y z t:Nat):Part (fz x y z t) 313 12 311 (an t):=d9 Ω fun i hi=>by
 have h:i=0∨i=1∨i=2∨i=3:=Ω;rcases h with rfl|rfl|rfl|rfl <;> rfl
instance L3(e:Ex):Part (dV e) 313 12 311 (an e.t.val):=CA _ _ _ _
theorem qk(x y z t:Nat)(w:ϑ):(Instr.build 313 #[(0,.agg (an x)),(1,.agg (an y)),(2,.agg (an z)),(3,.agg (an t))]).run prog w= .ok (.agg (fz x y z t)) w:=Θ
theorem CB(x y t:Nat)(w:ϑ):(Instr.build 313 #[(0,.agg (an x)),(1,.agg (an y)),(2,.agg #[.int .u64 1,.int .u64 0,.int .u64 0,.int .u64 0]),(3,.agg (an t))]).run prog w= .ok (.agg (fz x y 1 t)) w:=Θ
theorem zy(w:ϑ):(Instr.build 313 #[(1,.agg #[.int .u64 1,.int .u64 0,.int .u64 0,.int .u64 0]),(2,.agg #[.int .u64 1,.int .u64 0,.int .u64 0,.int .u64 0])]).run prog w= .ok (.agg (fz 0 1 1 0)) w:=Θ
theorem L5: #[Value.int .u64 8496970652267935907,Value.int .u64 31536524315187371,Value.int .u64 10144147576115030168,Value.int .u64 5909686906226998899]=an dF.val:=Θ
theorem L6: #[Value.int .u64 14507833142362363162,Value.int .u64 7578651490590762930,Value.int .u64 13881468655802702940,Value.int .u64 2407515759118799870]=an pB.x.val:=Θ
theorem L7: #[Value.int .u64 7378697629483820632,Value.int .u64 7378697629483820646,Value.int .u64 7378697629483820646,Value.int .u64 7378697629483820646]=an pB.y.val:=Θ
theorem zz(w:ϑ):Rt 275 #[] w (.agg (an dF.val)):=by
 have I:=Loc.nil w;have hP:=Hd L5;go_enter func275,ntmps275;go_wp2_with (refine aQq fun _ J I=>?_);rw[hP.out]at I;exact Λ
instance L8:Ent 275:=eo func275
instance L9:FnC 275 #[] (.agg (an dF.val)):=⟨zz⟩
theorem Ki:fz 0 1 1 0=dV exO:=by unfold dV exO;rw[uN,Bn]
theorem EM(w:ϑ):Rt 282 #[] w (.agg (dV exO)):=by
 have I:=Loc.nil w;rw[← Ki];go_enter func282,ntmps282;go_wp2_with (first|((refine ϗ (.build 313 _) ?_);refine lU I rfl rfl zy rfl fun J I=>?_)|refine aQq fun _ J I=>?_);exact Λ
instance Ma:Ent 282:=eo func282
instance Mb:FnC 282 #[] (.agg (dV exO)):=⟨EM⟩
theorem CD(p q:Ex)(w:ϑ):Rt 251 #[.agg (dV p),.agg (dV q)] w (.agg (dV (dm p q))):=by
 have I:=Loc.nil w;go_enter func251,ntmps251;go_wp2_with (refine aQq fun _ J I=>?_);refine au [(0,true),(1,false),(2,true),(3,false),(4,false),(5,true),(6,false),(7,true),(8,false),(9,false),(10,false)] [(11,_,311)] [12] Θ Θ ⟨⟨_,rfl,rfl,rfl⟩,Ϙ,trivial⟩ I ?_;refine pF ?_;refine fA ?_;refine aC fun b=>?_;refine fB fun J I=>?_;go_wp2_with (refine aQq fun _ J I=>?_);refine au [(0,true),(1,false),(2,true),(3,false),(4,false),(5,true),(6,false),(7,true),(8,false),(9,false),(10,false)] [(11,_,311)] [12] Θ Θ ⟨⟨_,rfl,rfl,rfl⟩,Ϙ,trivial⟩ I ?_;refine pF ?_;refine fA ?_;refine aC fun b=>?_;refine fB fun J I=>?_;go_wp2_with (refine aQq fun _ J I=>?_);refine au [(0,true),(1,false),(2,false),(3,false),(4,false),(5,false),(6,true),(7,false),(8,false)] [(9,_,311)] [10] Θ Θ ⟨⟨_,rfl,rfl,rfl⟩,Ϙ,trivial⟩ I ?_;refine pF ?_;refine fA ?_;refine aC fun b=>?_;refine fB fun J I=>?_;go_wp2_with (refine aQq fun _ J I=>?_);refine au [(0,true),(1,false),(2,true),(3,false),(4,true),(5,false),(6,false),(7,false)] [(8,_,311)] [9] Θ Θ ⟨⟨_,rfl,rfl,rfl⟩,Ϙ,trivial⟩ I ?_;refine pF ?_;refine fA ?_;refine aC fun b=>?_;refine fB fun J I=>?_;go_wp2_with (refine aQq fun _ J I=>?_);refine au [(0,false),(1,false),(2,false),(3,false),(4,false),(5,false),(6,false),(7,false),(8,false),(9,false),(10,false),(11,false)] [(12,_,311),(13,_,311),(14,_,311),(15,_,311)] [16,17,18,19] Θ Θ ⟨⟨_,rfl,rfl,rfl⟩,Ϙ,⟨⟨_,rfl,rfl,rfl⟩,Ϙ,⟨⟨_,rfl,rfl,rfl⟩,Ϙ,⟨⟨_,rfl,rfl,rfl⟩,Ϙ,trivial⟩⟩⟩⟩ I ?_;refine pF ?_;refine fA ?_;refine aC fun b=>?_;refine aC fun b=>?_;refine aC fun b=>?_;refine aC fun b=>?_;refine fB fun J I=>?_;go_wp2_with (refine aQq fun _ J I=>?_);refine wf [(0,false),(1,false),(2,false),(3,false),(4,false),(5,false),(6,false),(7,false),(8,false),(9,false),(10,false),(11,false),(12,true)] [] [13] I ?_
 repeat(first|((with_reducible show bC _ _ _ (_::_) _ _);refine sU rfl rfl (qk _ _ _ _) rfl ?_;refine p4 ?_)|refine rS ?_)
 refine aK ?_;refine fB fun J I=>?_;go_wp2_with fail;exact Λ
instance Mc:Ent 251:=eo func251
instance Md(p q:Ex):FnC 251 #[.agg (dV p),.agg (dV q)] (.agg (dV (dm p q))):=⟨CD p q⟩
theorem In(p:Pt)(t:F)(h:t=p.x*p.y):fz p.x.val p.y.val 1 t.val=dV (oX p):=by unfold dV oX;simp only;rw[Bn,h]
theorem ql(w:ϑ):Rt 248 #[] w (.agg (dV exB)):=by
 have I:=Loc.nil w;have hx:=Hd L6;have hy:=Hd L7;unfold exB;have hE:=Hd (In pB _ rfl);generalize oX pB=e,pB.x=x,pB.y=y at *
 go_enter func248,ntmps248;go_wp2_with (refine aQq fun _ J I=>?_);rw[hx.out,hy.out]at I;refine wf [(0,false),(1,false),(2,true),(3,false),(4,false),(5,false),(6,true)] [] [7] I ?_
 repeat(first|((with_reducible show bC _ _ _ (_::_) _ _);refine sU rfl rfl (CB _ _ _) rfl ?_;refine p4 ?_)|refine rS ?_)
 refine aK ?_;refine fB fun J I=>?_;go_wp2_with fail;rw[hE.out]at I;exact Λ
instance Me:Ent 248:=eo func248
instance Mf:FnC 248 #[] (.agg (dV exB)):=⟨ql⟩
theorem wM(p:Ex)(f:Φ)(w:ϑ):Rt 249 #[.agg (dV p),.agg (aa 32 f)] w (.agg (dV (cE p (leN f)))):=by
 have I:=Loc.nil w;haveI f0:FnC 270 #[.agg (aa 32 f)] (.agg (an (leN f))):=Ϙ;generalize leN f=e at *
 obtain⟨X,h0,hs,hf⟩:∃X:Nat→Ex,X 0=exO∧(∀j,X (j+1)=if e/2^(255-j)%2=1 then dm (dm (X j) (X j)) p else dm (X j) (X j))∧X 256=cE p e:=⟨fun k=>ik p e k,rfl,fun j=>rfl,rfl⟩;rw[← hf];haveI f9:FnC 282 #[] (.agg (dV (X 0))):=by rw[h0];infer_instance
 have zs:=Hd hs;clear h0 hs hf;go_enter func249,ntmps249;go_wp2_with (first|refine gBp 2 fun b2 J I=>?_|refine gBp 3 fun b3 J I=>?_|refine gBp 4 fun b4 J I=>?_|refine gBp 5 fun b5 J I=>?_|refine gBp 6 fun b6 J I=>?_|refine aQq fun _ J I=>?_);go_loopw [7] (fun kk wr=>∃j:Nat,j≤256∧kk= .int .i64 (255-(j:Int))∧Loc w wr [(b6,dV (X j),313),(b5,an e,311),(b4,fz 0 0 0 0,313),(b3,aa 32 f,24),(b2,dV p,313)]) (fun kk _=>(intOf kk+1).toNat);case atStart=>exact⟨0,Ω,rfl,I⟩
 case round =>
  clear I;obtain⟨j,hj,rfl,I⟩:=hrel;by_cases hlt:j<256
  ·have k0:(0:Int)≤255-(j:Int):=Ω
   have k1:¬255-(j:Int)<0:=Ω;have k2:(j:Int)≤255:=Ω;have hb:=fun w=>pv e (255-j) Ω w;rw[show((255-j:Nat):Int)=255-(j:Int)from by omega]at hb;have HT:=Hd (show X (j+1)=if e/2^(255-j)%2=1 then dm (dm (X j) (X j)) p else dm (X j) (X j)from zs.out j);by_cases hbit:e/2^(255-j)%2=1
   ·rw[hbit]at hb
    rw[Ρ hbit]at HT;generalize X j=x at I HT;haveI f1:FnC 283 #[.agg (an e),.int .i64 (255-(j:Int))] (.int .u64 1):=⟨hb⟩;clear hb hbit;go_wp2_with (refine aQq fun _ J I=>?_);go_roundw;case rel=>exact⟨j+1,Ω,by rw[show 255-(j:Int)-1=255-((j+1:Nat):Int)from by omega],by rw[HT.out];exact I⟩
    case measure=>exact ϝ
   ·rw[Χ hbit]at HT
    rw[show e/2^(255-j)%2=0 from by omega]at hb;generalize X j=x at I HT;haveI f1:FnC 283 #[.agg (an e),.int .i64 (255-(j:Int))] (.int .u64 0):=⟨hb⟩;clear hb hbit;go_wp2_with (refine aQq fun _ J I=>?_);go_roundw;case rel=>exact⟨j+1,Ω,by rw[show 255-(j:Int)-1=255-((j+1:Nat):Int)from by omega],by rw[HT.out];exact I⟩
    case measure=>exact ϝ
  ·obtain rfl:j=256:=Ω
   have k1:(255:Int)-((256:Nat):Int)= -1:=Ω;rw[k1];clear k1;go_wp2_with (refine aQq fun _ J I=>?_);exact Λ
instance Mg:Ent 249:=eo func249
instance Mh(p:Ex)(f:Φ):FnC 249 #[.agg (dV p),.agg (aa 32 f)] (.agg (dV (cE p (leN f)))):=⟨wM p f⟩
theorem wN{m:Nat}(hm:m<2^255)(b:Nat)(hb:b<2):(ah m 31).toNat+128*b=(ah (m+2^255*b) 31).toNat:=by
 unfold ah;rw[Xv,Xv];simp only[Nat.reducePow,Nat.reduceMul]at *
 omega
theorem EN(m b:Nat){i:Nat}(h:i<31):ah m i=ah (m+2^255*b) i:=by
 unfold ah;obtain⟨d,hd⟩:∃d,255=8*i+(8+d):=⟨247-8*i,Ω⟩;rw[hd,Xk,Xk,XK,Xy _ _ (Xg _),XK];refine Yi ?_;rw[Xv,Xv,XD]
theorem wO{m:Nat}(b:Nat):row 32 (upd (fun i=>Value.int .u8 (B8 (ah m i))) 31 (.int .u8 (B8 (ah (m+2^255*b) 31))))=aa 32 (ah (m+2^255*b)):=am fun i hi=>by
 unfold upd;by_cases e:i=31
 ·subst e;rw[Ρ rfl]
 ·rw[Χ e]
  show Value.int .u8 (B8 (ah m i))=_;rw[EN m b Ω]
theorem Bo{m:Nat}(hm:m<2^255)(b:Nat)(hb:b<2):bits .or .u8 (B8 (ah m 31)) ((128*b:Nat):Int)=B8 (ah (m+2^255*b) 31):=by
 have hx:(ah m 31).toNat<128:=by
  have:=wN hm 1 Ω;have:=(ah (m+2^255*1) 31).isLt;omega
 have h:=wN hm b hb;unfold B8;rw[← h];generalize(ah m 31).toNat=x at *
 have:∀x:Fin 128,∀b:Fin 2,bits .or .u8 (x.val:Int) ((128*b.val:Nat):Int)=((x.val+128*b.val:Nat):Int):=Ϛ;exact this ⟨x,hx⟩ ⟨b,hb⟩
theorem Bp:P<2^255:=Ϛ
theorem EO(p:Ex)(w:ϑ):Rt 250 #[.agg (dV p)] w (.agg (aa 32 (ah (cd p)))):=by
 have I:=Loc.nil w;have hb:=Kh (p.x*inv p.z);have hm:(p.y*inv p.z).val<2^255:=Yo (p.y*inv p.z).isLt Bp;have ho:=Bo hm ((p.x*inv p.z).val%2) (XJ _ Ω);haveI g1:Cell (aa 32 (ah (p.y*inv p.z).val)) 31 (.int .u8 (B8 (ah (p.y*inv p.z).val 31))):=aO _ Ω;have gr:=wO (m:=(p.y*inv p.z).val) ((p.x*inv p.z).val%2);haveI f0:FnC 284 #[.agg (an (p.y*inv p.z).val)] (.agg (aa 32 (ah (p.y*inv p.z).val))):=Ϙ;unfold cd;by_cases hc:(p.x*inv p.z).val%2=1
 ·rw[hc]at hb ho gr ⊢
  rw[← ho,← (show IntKind.u8.wrap (IntKind.u8.wrap 1*128)=((128*1:Nat):Int)from Ξ)]at gr;haveI f3:FnC 283 #[.agg (an (p.x*inv p.z).val),.int .i64 0] (.int .u64 1):=⟨hb⟩;haveI gp:Put (aa 32 (ah (p.y*inv p.z).val)) 31 (.int .u8 (bits .or .u8 (B8 (ah (p.y*inv p.z).val 31)) (IntKind.u8.wrap (IntKind.u8.wrap 1*128)))) (aa 32 (ah ((p.y*inv p.z).val+2^255*1))):=bm Ω gr;clear hb hc ho hm gr;generalize ah ((p.y*inv p.z).val+2^255*1)=out,ah ((p.y*inv p.z).val)=s at *
  go_enter func250,ntmps250;go_wp2_with (refine aQq fun _ J I=>?_);refine wf [(0,true),(1,false),(2,true),(3,false),(4,false),(5,false),(6,false),(7,true),(8,true),(9,true),(10,true)] [] [11] I ?_;refine fA ?_;refine fB fun J I=>?_;go_wp2_with (refine aQq fun _ J I=>?_);exact Λ
 ·rw[show(p.x*inv p.z).val%2=0 from by omega]at hb ho gr ⊢
  rw[← ho,← (show IntKind.u8.wrap (IntKind.u8.wrap 0*128)=((128*0:Nat):Int)from Ξ)]at gr;haveI f3:FnC 283 #[.agg (an (p.x*inv p.z).val),.int .i64 0] (.int .u64 0):=⟨hb⟩;haveI gp:Put (aa 32 (ah (p.y*inv p.z).val)) 31 (.int .u8 (bits .or .u8 (B8 (ah (p.y*inv p.z).val 31)) (IntKind.u8.wrap (IntKind.u8.wrap 0*128)))) (aa 32 (ah ((p.y*inv p.z).val+2^255*0))):=bm Ω gr;clear hb hc ho hm gr;generalize ah ((p.y*inv p.z).val+2^255*0)=out,ah ((p.y*inv p.z).val)=s at *
  go_enter func250,ntmps250;go_wp2_with (refine aQq fun _ J I=>?_);refine wf [(0,true),(1,false),(2,true),(3,false),(4,false),(5,false),(6,false),(7,true),(8,true),(9,true),(10,true)] [] [11] I ?_;refine fA ?_;refine fB fun J I=>?_;go_wp2_with (refine aQq fun _ J I=>?_);exact Λ
instance Mi:Ent 250:=eo func250
instance Mj(p:Ex):FnC 250 #[.agg (dV p)] (.agg (aa 32 (ah (cd p)))):=⟨EO p⟩
noncomputable def zA:Option Ex→Ψ
 | none=>fz 0 0 0 0
 | some e=>dV e
theorem iM:zA none=fz 0 0 0 0:=rfl
theorem nU(e:Ex):zA (some e)=dV e:=rfl
def dy(f:Φ):Nat→Γ:=fun i=>if i=31 then f 31&&&127 else f i
theorem Bq(f:Φ):∀k,k≤31→leK (dy f) k=leK f k
 | 0,_=>rfl
 | k+1,h=>by
  show leK (dy f) k+(dy f k).toNat*2^(8*k)=leK f k+(f k).toNat*2^(8*k);rw[Bq f k Ω,show dy f k=f k from Χ Ω]
theorem Io(x:Γ):(x&&&127).toNat=x.toNat%128:=by
 rw[YA];exact X5 x.toNat 7
theorem nV(f:Φ):leN (dy f)=leN f%2^255∧leN f/2^255%2=(f 31).toNat/128:=by
 have h1:leN f=leK f 31+(f 31).toNat*2^248:=rfl;have h2:leN (dy f)=leK (dy f) 31+(dy f 31).toNat*2^248:=rfl;have h3:=Bq f 31 (Xn _);have h4:=dt f 31;have h5:(dy f 31).toNat=(f 31).toNat%128:=Io _;have h6:=(f 31).isLt;rw[h3,h5]at h2;rw[h1,h2];generalize leK f 31=y,(f 31).toNat=x at *
 simp only[Nat.reducePow,Nat.reduceMul]at *
 omega
theorem Ip(x:Γ):bits .and .u8 (B8 x) 127=B8 (x&&&127):=by
 have:∀x:Fin 256,bits .and .u8 (x.val:Int) 127=(((BitVec.ofFin x:Γ)&&&127).toNat:Int):=Ϛ;exact this x.toFin
theorem py(f:Φ):row 32 (upd (fun i=>Value.int .u8 (B8 (f i))) 31 (.int .u8 (bits .and .u8 (B8 (f 31)) 127)))=aa 32 (dy f):=am fun i hi=>by
 unfold upd dy;by_cases e:i=31
 ·subst e;rw[Ρ rfl,Ip];rfl
 ·rw[Χ e]
  show Value.int .u8 (B8 (f i))=Value.int .u8 (B8 (if i=31 then f 31&&&127 else f i));rw[Χ e]
theorem Kj(r:F):r-r=0:=by grind
theorem CE:(0:F)-0=0:=Kj 0
theorem tB(r:F):dI r=0↔r=0:=by
 unfold dI;by_cases h:r.val%2=1
 ·rw[Ρ h]
  constructor
  ·intro e
   have:r=0:=by grind
   exact this
  ·intro e;rw[e];exact CE
 ·rw[Χ h]
noncomputable def JG(y:F)(odd:Bool)(r:Option F):Option Ex:=match r with
 | none=>none
 | some r=>if odd=true∧dI r=0 then none else if odd then some ⟨0-dI r,y,1,(0-dI r)*y⟩else some ⟨dI r,y,1,dI r*y⟩
theorem CF(n:Nat):bK n=if n%2^255<P then JG (fe (n%2^255)) (decide (n/2^255%2=1)) (fy ((fe (n%2^255)*fe (n%2^255)-1)*inv (dF*(fe (n%2^255)*fe (n%2^255))+1)))else none:=by
 unfold bK;by_cases h:n%2^255<P
 ·rw[Ρ h,Ρ h]
  simp only;generalize fe (n%2^255)=y;have hb:n/2^255%2<2:=XJ _ Ω;generalize n/2^255%2=b at *
  generalize fy ((y*y-1)*inv (dF*(y*y)+1))=o;cases o with
  | none=>rfl
  | some r =>
   show(if r=0∧b=1 then none else if r.val%2=b then some ⟨r,y,1,r*y⟩else some ⟨-r,y,1,-r*y⟩:Option Ex)=(if decide (b=1)=true∧dI r=0 then none else if decide (b=1)=true then some ⟨0-dI r,y,1,(0-dI r)*y⟩else some ⟨dI r,y,1,dI r*y⟩:Option Ex);by_cases h1:b=1
   ·subst h1
    by_cases h0:r=0
    ·rw[Ρ ⟨h0,rfl⟩,Ρ ⟨rfl,(tB r).2 h0⟩]
    ·have n1:¬(r=0∧1=1):=fun h=>h0 h.1
     have n2:¬(decide (1=1)=true∧dI r=0):=fun h=>h0 ((tB r).1 h.2);rw[Χ n1,Χ n2,Ρ (Xw rfl)];by_cases hr:r.val%2=1
     ·rw[Ρ hr,show dI r=0-r from Ρ hr,show(0:F)-(0-r)=r from by grind]
     ·rw[Χ hr,show dI r=r from Χ hr,show(0:F)-r= -r from by grind]
   ·have n1:¬(r=0∧b=1):=fun h=>h1 h.2
    have n2:¬(decide (b=1)=true∧dI r=0):=fun h=>h1 (XC h.1);have n3:¬decide (b=1)=true:=fun h=>h1 (XC h);rw[Χ n1,Χ n2,Χ n3];by_cases hr:r.val%2=1
    ·rw[Χ (show ¬r.val%2=b from Ω),show dI r=0-r from Ρ hr,show(0:F)-r= -r from by grind]
    ·rw[Ρ (show r.val%2=b from Ω),show dI r=r from Χ hr]
 ·rw[Χ h,Χ h]
theorem jY{P:Program}{ops:Array Oper}{Q:Exit→Act→ϑ→Prop}{a:Act}{w:ϑ}{rest:List Oper}{d:Option Tmp}{op:Op}{t:ϋ}{ps:String}{af:Array Edge}{g:Nat×Bool}(hw:Region.wanted ⟨d,op,t,ps,af,some g⟩ (yielded ops a.tmps)=true)(h:wpList P ops Q (⟨d,op,t,ps,af,none⟩::rest) a w):wpList P ops Q (⟨d,op,t,ps,af,some g⟩::rest) a w:=by
 unfold wpList at h ⊢;rw[Ρ hw];rw[Ρ (show Region.wanted ⟨d,op,t,ps,af,none⟩ (yielded ops a.tmps)=true from rfl)]at h;exact h
theorem jk(w:ϑ):(Instr.build 313 #[]).run prog w= .ok (.agg (fz 0 0 0 0)) w:=Θ
theorem tC(w:ϑ):(Instr.build 311 #[]).run prog w= .ok (.agg (an 0)) w:=Θ
theorem EP(f:Φ)(w:ϑ):Rt 245 #[.agg (aa 32 f)] w (.tuple #[.agg (zA (bK (leN f))),.bool (bK (leN f)).isSome]):=by
 have I:=Loc.nil w;obtain⟨hy,hodd⟩:=nV f;have he:=CF (leN f);rw[hodd]at he;rw[← hy]at he;haveI g1:Cell (aa 32 f) 31 (.int .u8 (B8 (f 31))):=aO _ Ω;haveI g2:Put (aa 32 f) 31 (.int .u8 (bits .and .u8 (B8 (f 31)) 127)) (aa 32 (dy f)):=bm Ω (py f);haveI f0:FnC 270 #[.agg (aa 32 (dy f))] (.agg (an (leN (dy f)))):=Ϙ;have hlt:leN (dy f)<2^256:=fX _;haveI f1:FnC 271 #[.agg (an (leN (dy f)))] (.agg (an (leN (dy f)%P))):=⟨lJ _ hlt⟩;have e1:=JF (leN (dy f)%P) (leN (dy f)) (Yw (Nat.mod_le _ _) hlt) hlt;have nz:=Hd uM;generalize bK (leN f)=out,dy f=g at *
 generalize leN g=y at *
 have hq:=Hd (show(B8 (f 31)/128==1)=decide ((f 31).toNat/128=1)from by
  rw[Bool.eq_iff_iff,ZO,beq_iff_eq];unfold B8;omega)
 generalize decide ((f 31).toNat/128=1)=odd at *
 have h1:=Hd (show #[Value.int .u64 1,Value.int .u64 0,Value.int .u64 0,Value.int .u64 0]=an (1:F).val from by rw[Bn];exact Bm);by_cases hc:y<P
 ·rw[Ρ hc]at he
  rw[Xd hc]at e1 f1;rw[Xw rfl]at e1;obtain⟨Yzq,hY⟩:∃Yzq:F,Yzq.val=y:=⟨⟨y,hc⟩,rfl⟩;subst hY;rw[fG]at he;clear hy hodd hlt hc;have fs:∀w,_:=zx ((Yzq*Yzq-1)*inv (dF*(Yzq*Yzq)+1));cases hr:fy ((Yzq*Yzq-1)*inv (dF*(Yzq*Yzq)+1))with
  | none =>
   rw[qj hr,hr]at fs;rw[hr]at he;haveI f3:FnC 276 #[.agg (an ((Yzq*Yzq-1)*inv (dF*(Yzq*Yzq)+1)).val)] (.tuple #[.agg (an 0),.bool false]):=⟨fs⟩;subst he;show Calls _ _ _ _ fun r Z=>r= .returned (.tuple #[.agg (zA none),.bool (none:Option Ex).isSome])∧_;rw[iM];clear hr fs;go_enter func245,ntmps245;go_wp2_with (first|refine gBp 1 fun b1 J I=>?_|refine gBp 2 fun b2 J I=>?_|refine aQq fun _ J I=>?_);refine wf [(0,false),(1,false),(2,false),(3,true)] [] [] I ?_
   repeat refine rN ?_
   refine aK ?_;refine fC fun J I=>?_;go_wp2_with (first|refine gBp 5 fun b5 J I=>?_|refine gBp 6 fun b6 J I=>?_|refine gBp 7 fun b7 J I=>?_|refine aQq fun _ J I=>?_);rw[hq.out];rw[h1.out]at I;clear hq h1;refine au [(0,false),(1,false),(2,false),(3,false),(4,false),(5,false),(6,false),(7,false)] [(8,_,311),(9,_,311)] [10,11] Θ Θ ⟨⟨_,rfl,rfl,rfl⟩,Ϙ,⟨⟨_,rfl,rfl,rfl⟩,Ϙ,trivial⟩⟩ I ?_;refine pF ?_;refine fA ?_;refine aC fun b=>?_;refine aC fun b=>?_;refine fB fun J I=>?_;go_wp2_with (refine aQq fun _ J I=>?_);refine au [(0,false),(1,false),(2,false),(3,false),(4,false),(5,true),(6,true),(7,true)] [(8,_,311)] [9,10] Θ Θ ⟨⟨_,rfl,rfl,rfl⟩,Ϙ,trivial⟩ I ?_;refine pF ?_;refine fA ?_;refine aC fun b=>?_;refine fB fun J I=>?_;go_wp2_with (first|((refine ϗ (.build 313 _) ?_);refine lU I rfl rfl jk rfl fun J I=>?_)|refine aQq fun _ J I=>?_);exact Ϣ (ao rfl I rfl rfl) rfl ⟨rfl,I.bel⟩
  | some r =>
   rw[lN hr,hr]at fs;rw[hr]at he;haveI f3:FnC 276 #[.agg (an ((Yzq*Yzq-1)*inv (dF*(Yzq*Yzq)+1)).val)] (.tuple #[.agg (an (dI r).val),.bool true]):=⟨fs⟩;unfold JG at he;simp only at he;clear hr fs;generalize dI r=x at *
   go_enter func245,ntmps245;go_wp2_with (first|refine gBp 1 fun b1 J I=>?_|refine gBp 2 fun b2 J I=>?_|refine aQq fun _ J I=>?_);refine wf [(0,false),(1,false),(2,false),(3,true)] [] [] I ?_
   repeat refine rN ?_
   refine aK ?_;refine fC fun J I=>?_;go_wp2_with (first|refine gBp 5 fun b5 J I=>?_|refine gBp 6 fun b6 J I=>?_|refine gBp 7 fun b7 J I=>?_|refine aQq fun _ J I=>?_);rw[hq.out];rw[h1.out]at I;clear hq h1;refine au [(0,false),(1,false),(2,false),(3,false),(4,false),(5,false),(6,false),(7,false)] [(8,_,311),(9,_,311)] [10,11] Θ Θ ⟨⟨_,rfl,rfl,rfl⟩,Ϙ,⟨⟨_,rfl,rfl,rfl⟩,Ϙ,trivial⟩⟩ I ?_;refine pF ?_;refine fA ?_;refine aC fun b=>?_;refine aC fun b=>?_;refine fB fun J I=>?_;go_wp2_with (refine aQq fun _ J I=>?_);refine au [(0,false),(1,false),(2,false),(3,false),(4,false),(5,true),(6,true),(7,true)] [(8,_,311)] [9,10] Θ Θ ⟨⟨_,rfl,rfl,rfl⟩,Ϙ,trivial⟩ I ?_;refine pF ?_;refine fA ?_;refine aC fun b=>?_;refine fB fun J I=>?_;cases odd
   case' false=>rw[Χ (show ¬(false=true∧x=0)from fun h=>by cases h.1),Χ (show ¬false=true from Ξ)]at he
   case false =>
    subst he;go_wp2_with (refine aQq fun _ J I=>?_);refine wf [(0,false),(1,false),(2,false),(3,false),(4,false),(5,false),(6,true)] [] [7,8] I ?_
    repeat(first|((with_reducible show bC _ _ _ (_::_) _ _);refine sU rfl rfl (qk _ _ _ _) rfl ?_;refine p4 ?_)|refine rS ?_)
    refine aK ?_;refine fB fun J I=>?_;go_wp2_with fail;exact Ϣ (ao rfl I rfl rfl) rfl ⟨rfl,I.bel⟩
   case true =>
    have ez:=EG x 0;rw[uN]at ez;by_cases hx:x=0
    ·rw[Ρ ⟨rfl,hx⟩]at he
     rw[Xw hx]at ez;subst he;go_wp2_with (first|refine aV ?_|((refine ϗ (.build 311 #[]) ?_);refine lU I rfl rfl tC rfl fun J I=>?_)|((refine ϗ (.binOp .eql 311 _ _ _) ?_);refine lQ I rfl rfl rfl rfl fun J I=>?_)|((refine ϗ (.build 313 _) ?_);refine lU I rfl rfl jk rfl fun J I=>?_)|refine aQq fun _ J I=>?_);exact Ϣ (ao rfl I rfl rfl) rfl ⟨rfl,I.bel⟩
    ·rw[Χ (fun h=>hx h.2),Ρ rfl]at he
     rw[XB hx]at ez;subst he;haveI gm:FnC 273 #[.agg (an 0),.agg (an x.val)] (.agg (an (0-x).val)):=⟨fun w=>by
      have:=nR 0 x w;rw[uN]at this;exact this⟩
     clear hx;go_wp2_with (first|refine aV ?_|((refine ϗ (.build 311 #[]) ?_);refine lU I rfl rfl tC rfl fun J I=>?_)|((refine ϗ (.binOp .eql 311 _ _ _) ?_);refine lQ I rfl rfl rfl rfl fun J I=>?_)|((refine ϗ (.build 313 _) ?_);refine lU I rfl rfl jk rfl fun J I=>?_)|refine aQq fun _ J I=>?_);refine wf [(0,false),(1,false),(2,false),(3,false),(4,false),(5,false),(6,true)] [] [7,8] I ?_
     repeat(first|((with_reducible show bC _ _ _ (_::_) _ _);refine sU rfl rfl (qk _ _ _ _) rfl ?_;refine p4 ?_)|refine rS ?_)
     refine aK ?_;refine fB fun J I=>?_;go_wp2_with fail;exact Ϣ (ao rfl I rfl rfl) rfl ⟨rfl,I.bel⟩
 ·rw[Χ hc]at he
  subst he;have hp:y%P≠y:=fun e=>hc (by rw[← e];exact XJ _ tu);rw[XB hp]at e1;generalize y%P=z at *
  rw[iM];clear hy hodd hlt hc hp;go_enter func245,ntmps245;go_wp2_with (first|refine gBp 1 fun b1 J I=>?_|refine gBp 2 fun b2 J I=>?_|refine aQq fun _ J I=>?_);refine wf [(0,false),(1,false),(2,false),(3,true)] [] [] I ?_
  repeat refine rN ?_
  refine aK ?_;refine fC fun J I=>?_;go_wp2_with (first|((refine ϗ (.build 313 _) ?_);refine lU I rfl rfl jk rfl fun J I=>?_)|refine aQq fun _ J I=>?_);exact Ϣ (ao rfl I rfl rfl) rfl ⟨rfl,I.bel⟩
instance Mk:Ent 245:=eo func245
instance Ml(f:Φ):FnC 245 #[.agg (aa 32 f)] (.tuple #[.agg (zA (bK (leN f))),.bool (bK (leN f)).isSome]):=⟨EP f⟩
theorem Mm: #[Value.int .u64 6346243789798364141,Value.int .u64 1503914060200516822,Value.int .u64 0,Value.int .u64 1152921504606846976]=an Qo:=Θ
theorem Br:Qo<2^256:=Ϛ
theorem CG(w:ϑ):Rt 279 #[] w (.agg (an Qo)):=by
 have I:=Loc.nil w;have hP:=Hd Mm;go_enter func279,ntmps279;go_wp2_with (refine aQq fun _ J I=>?_);rw[hP.out]at I;exact Λ
instance Mn:Ent 279:=eo func279
instance Mo:FnC 279 #[] (.agg (an Qo)):=⟨CG⟩
theorem CH(f:Φ)(w:ϑ):Rt 246 #[.agg (aa 32 f)] w (.bool (decide (leN f<Qo))):=by
 have I:=Loc.nil w;haveI f0:FnC 270 #[.agg (aa 32 f)] (.agg (an (leN f))):=Ϙ;haveI f1:FnC 279 #[] (.agg (an Qo)):=Ϙ;haveI f2:FnC 278 #[.agg (an (leN f)),.agg (an Qo)] (.bool (decide (leN f<Qo))):=⟨Ew _ _ (fX f) Br⟩;generalize decide (leN f<Qo)=c at *
 generalize leN f=n,Qo=q at *
 go_enter func246,ntmps246;go_wp2_with (first|refine gBp 1 fun b1 J I=>?_|refine aQq fun _ J I=>?_);go_ret;exact⟨rfl,I.bel⟩
instance Mp:Ent 246:=eo func246
instance Mq(f:Φ):FnC 246 #[.agg (aa 32 f)] (.bool (decide (leN f<Qo))):=⟨CH f⟩
def uv(x:Nat→Nat):Nat→Nat
 | 0=>0
 | n+1=>uv x n+x n*2^(64*n)
theorem EQ{x:Nat→Nat}(hx:∀i,x i<2^64):∀n,uv x n<2^(64*n)
 | 0=>by simp[uv]
 | n+1=>by
  have h:=EQ hx n;have h2:=hx n;show uv x n+x n*2^(64*n)<_;rw[Yu,Xk];have:x n*2^(64*n)≤(2^64-1)*2^(64*n):=YI _ Ω;have:2^(64*n)*2^64=(2^64-1)*2^(64*n)+2^(64*n):=by rw[XU,← Nat.succ_mul]
  omega
theorem ER{x:Nat→Nat}(hx:∀i,x i<2^64):∀n t,t<64*n→uv x n/2^t%2=x (t/64)/2^(t%64)%2
 | 0,t,h=>by omega
 | n+1,t,h=>by
  show(uv x n+x n*2^(64*n))/2^t%2=_;by_cases ht:t<64*n
  ·obtain⟨d,hd⟩:∃d,64*n=t+(d+1):=⟨64*n-t-1,Ω⟩
   rw[← ER hx n t ht,hd,Xk,Nat.mul_left_comm,Xy _ _ (Xg _),Zb,← XK,YU]
  ·obtain⟨r,rfl⟩:∃r,t=64*n+r:=⟨t-64*n,Ω⟩
   rw[Xk,← Xj,XU (x n),Xy _ _ (Xg _),Xp (EQ hx n),XA,show(64*n+r)/64=n from by omega,show(64*n+r)%64=r from by omega]
theorem ES(N L j:Nat)(hj:j<L):N/2^(L-(j+1))%Qo=(2*(N/2^(L-j)%Qo)+N/2^(L-(j+1))%2)%Qo:=by
 have h:N/2^(L-j)=N/2^(L-(j+1))/2:=by rw[Xj,← Zb];congr 2;omega
 rw[h];generalize N/2^(L-(j+1))=a;rw[Nat.add_mod,Zo,Nat.mod_mod,← Zo,← Nat.add_mod];congr 1;omega
theorem Iq(m:Nat)(h:m<2*Qo):m%Qo=if m<Qo then m else m-Qo:=by
 by_cases hm:m<Qo
 ·rw[Ρ hm,Xd hm]
 ·rw[Χ hm,Yv Ω,Xd Ω]
theorem Kk(m b:Nat)(hb:b<2)(h2:m%2=0)(hm:m<18446744073709551616):bits .or .u64 (m:Int) (b:Int)=((m+b:Nat):Int):=by
 refine(bits_or_u64_nat m b hm Ω).trans ?_;congr 1;obtain⟨k,rfl⟩:∃k,m=2*k:=⟨m/2,Ω⟩;have:=Yt (show b<2^1 from hb) k;rw[Y3,Nat.pow_one,XU]at this;exact this.symm
theorem Ir(x r:Nat)(hx:x<2^64):bits .and .u64 ((x:Int)/2^r) 1=((x/2^r%2:Nat):Int):=by
 have e:((x:Int)/2^r)=((x/2^r:Nat):Int):=by norm_cast
 rw[e];refine(Zp (x/2^r) 1 (Yw (ZR _ _) hx) Ω).trans ?_;rw[Nat.and_one_is_mod]
theorem uO(R b:Nat)(hb:b<2):row 4 (upd (lv (R+R)) 0 (.int .u64 (bits .or .u64 (lw (R+R) 0:Nat) (b:Int))))=an (R+R+b):=am fun i hi=>by
 unfold upd;by_cases e:i=0
 ·subst e
  rw[Ρ rfl,Kk _ b hb (by unfold lw;omega) (dC _ _)];unfold lv lw;simp only[XO,Yh,Yj];congr 2;omega
 ·rw[Χ e]
  obtain⟨d,hd⟩:∃d,64*i=1+d:=⟨64*i-1,Ω⟩;unfold lv lw;rw[hd,Xk,← Xj,← Xj,show(R+R)/2^1=(R+R+b)/2^1 from by omega]
class Was(D:ϑ)(b k:Nat)(v:outParam Value):Prop where
 cell:D.cell? ⟨b,k,none⟩=some v
 lt:b<D.heap.size
theorem Loc.was{D w:ϑ}{M:Mem}(h:Loc D w M){b k:Nat}{v:ό}(hc:Was D b k v):w.cell? ⟨b,k,none⟩=some v:=(h.bel.cell hc.lt).trans hc.cell
section
variable {ops:Array Oper} {rest:List Oper} {l:List (Oper×Bool)} {R:Act→Prop} {o:Oper} {a:Act} {D w:ϑ} {M M':Mem} {Q:Exit→Act→ϑ→Prop}
theorem sW(hg:o.guard=none){t:ϋ}{x:Operand}(ho:o.op= .load t x){b k:Nat}(hx:a.eval x= .pointer (some ⟨b,k,none⟩)){v:ό}[ht:ScTy t][hc:Was D b k v](h:bC prog ops (fun w=>Loc D w M) l (a.put o.dst v) R):bC prog ops (fun w=>Loc D w M) ((o,false)::l) a R :=
 tr hg (fun w hS=>by
  unfold execOp;have:=cO (t:=t) (w:=w) (b:=b) (k:=k) (v:=v) (hS.was hc);simp only[ho,hx,Instr.loadAt,Instr.sureAddr,Sem.run_bind,Sem.run_pure,Result.andThen_ok,this]) h
theorem lW(I:Loc D w M)(hg:o.guard=none){t:ϋ}{x:Operand}(ho:o.op= .load t x){b k:Nat}(hx:a.eval x= .pointer (some ⟨b,k,none⟩)){v:ό}[ht:ScTy t][hc:Was D b k v](h:∀Z,Loc D Z M→wpList prog ops Q rest (a.put o.dst v) Z):wpList prog ops Q (o::rest) a w :=
 Xt hg fun K T=>by
  unfold Oper.wp execOp;have:=cO (t:=t) (w:=w) (b:=b) (k:=k) (v:=v) (I.was hc);simp only[ho,hx,Instr.loadAt,Instr.sureAddr,Sem.run_bind,Sem.run_pure,Result.andThen_ok,this];exact T _ _ (h w I)
end
theorem qo(N s:Nat):N/2^s%Qo=(N/2^(s+1)%Qo+N/2^(s+1)%Qo+N/2^s%2)%Qo:=by
 have:=ES N (s+1) 0 Ω;rw[show s+1-(0+1)=s from by omega,Nat.sub_zero,Nat.two_mul]at this;exact this
theorem Mr:0<Qo:=Ϛ
theorem Ms:Qo<2^255:=Ϛ
theorem zB(x:Nat→Nat)(n c B:Nat)(w:ϑ)(hx:∀i,x i<2^64)(hn:n≤8)(hn0:0<n)(hw:∀i,i<n→Was w B i (.int .u64 (x i:Nat))) :
 Rt 305 #[.slice (ϐ B) n c] w (.agg (an (uv x n%Qo))):=by
 have I:=Loc.nil w;have z0:=Hd (show an 0=an (uv x n/2^(64*n)%Qo)from by rw[Xp (EQ hx n)];rfl);have hb:=fun t (h:t<64*n)=>ER hx n t h;generalize uv x n=N at *
 have hn1:(n:Int)≤8:=Ω;have HW:=Hd hw;have HX:=Hd hx;clear hw hx;go_enter func305,ntmps305;go_wp2_with (first|refine gBp 2 fun b2 J I=>?_|refine gBp 3 fun b3 J I=>?_|refine aQq fun _ J I=>?_);go_loopw [4] (fun kk wr=>∃i:Nat,i≤64*n∧kk= .int .i64 ((i:Int)-1)∧Loc w wr [(b3,an (N/2^i%Qo),311),(b2,an 0,311)]) (fun kk _=>(intOf kk+1).toNat);case atStart=>exact⟨64*n,Xn _,by go_num,by rw[← z0.out];exact I⟩
 case round =>
  clear I;obtain⟨i,hi,rfl,I⟩:=hrel;by_cases hlt:0<i
  ·obtain⟨s,rfl⟩:∃s,i=s+1:=⟨i-1,Ω⟩
   rw[show((s+1:Nat):Int)-1=(s:Int)from by omega];have hd:=qo N s;rw[hb s Ω]at hd;have hR:N/2^(s+1)%Qo<Qo:=XJ _ Mr;have hg:=Ir (x (s/64)) (s%64) (HX.out _);have hb2:x (s/64)/2^(s%64)%2<2:=XJ _ Ω;haveI g0:Was w B (s/64) (.int .u64 (x (s/64):Nat)):=HW.out _ Ω;generalize N/2^(s+1)%Qo=R at *
   have gl:=uO R _ hb2;rw[← hg]at gl;haveI g1:Cell (an (R+R)) 0 (.int .u64 (lw (R+R) 0:Nat)):=aO _ Ω;haveI g2:Put (an (R+R)) 0 (.int .u64 (bits .or .u64 (lw (R+R) 0:Nat) (bits .and .u64 ((x (s/64):Int)/2^(s%64)) 1))) (an (R+R+x (s/64)/2^(s%64)%2)):=bm Ω gl;rw[Iq (R+R+x (s/64)/2^(s%64)%2) Ω]at hd;have hm:R+R+x (s/64)/2^(s%64)%2<2^256:=by have:=Ms;omega
   have hs:=gi _ Qo hm Br;have hbw:bw (R+R+x (s/64)/2^(s%64)%2) Qo 4=if R+R+x (s/64)/2^(s%64)%2<Qo then 1 else 0:=by
    unfold bw;rw[show 64*4=256 from rfl,Xd hm,Xd Br]
   generalize R+R+x (s/64)/2^(s%64)%2=m at *
   rw[← dZ (m+2^256-Qo)]at hs;rw[hbw]at hs;generalize x (s/64)=X at *
   have e1:(s:Int)/64=((s/64:Nat):Int):=Ω;have e2:(s:Int)%64=((s%64:Nat):Int):=Ω;have hq1:((s/64:Nat):Int)<(n:Int):=Ω;have hr1:((s%64:Nat):Int)<64:=Ω;have e3:(s:Int).tdiv 64=((s/64:Nat):Int):=by rw[X6 Ω];omega
   have e4:(s:Int).tmod 64=((s%64:Nat):Int):=by rw[XF Ω];omega
   have hs0:(0:Int)≤(s:Int):=Ω;have hs1:(s:Int)<512:=Ω;have hq2:s/64<n:=Ω;have hr2:s%64<64:=Ω;have hmm:=Hd hm;clear hb hg hb2 gl hR hbw hm;generalize s/64=q,s%64=r at *
   have hq0:(0:Int)≤(q:Int):=Ω;have W0:(0:Int)≤(r:Int):=Ω;have wq:IntKind.i64.wrap (q:Int)=(q:Int):=W3 _ Ω;have wr':IntKind.i64.wrap (r:Int)=(r:Int):=W3 _ Ω;by_cases hc:m<Qo
   ·rw[Ρ hc]at hs hd
    haveI fs:FnC 296 #[.agg (an m),.agg (an Qo)] (.tuple #[.agg (an ((m+2^256-Qo)%2^256)),.int .u64 1]):=⟨hs⟩;have HD:=Hd hd;clear hs hd hc;generalize(m+2^256-Qo)%2^256=d at *
    go_wp2_with (refine aQq fun _ J I=>?_);refine wf [(0,true),(1,false),(2,true),(3,true),(4,true),(5,true),(6,false),(7,true),(8,true),(9,true),(10,true),(11,true),(12,true)] [] [13] I ?_
    repeat(first|((with_reducible show bC _ _ _ (_::_) _ _);refine sW rfl rfl rfl ?_;refine p4 ?_)|refine rS ?_)
    refine aK ?_;refine fB fun J I=>?_;go_wp2_with (refine aQq fun _ J I=>?_);refine au [(0,false),(1,false),(2,false),(3,true),(4,true),(5,true)] [(6,_,311)] [7,8] Θ Θ ⟨⟨_,rfl,rfl,rfl⟩,Ϙ,trivial⟩ I ?_;refine pF ?_;refine fA ?_;refine aC fun b=>?_;refine fB fun J I=>?_;go_wp2_with fail;go_roundw;case rel=>exact⟨s,Ω,rfl,by rw[HD.out];exact I.pop⟩
    case measure=>simp[intOf]
   ·rw[Χ hc]at hs hd
    have he:(m+2^256-Qo)%2^256=m-Qo:=by
     have:=hmm.out;have:=Br;rw[show m+2^256-Qo=m-Qo+2^256 from by omega,ZF,Xd Ω]
    rw[he]at hs;haveI fs:FnC 296 #[.agg (an m),.agg (an Qo)] (.tuple #[.agg (an (m-Qo)),.int .u64 0]):=⟨hs⟩;have HD:=Hd hd;clear hs hd hc he;generalize m-Qo=d at *
    go_wp2_with (refine aQq fun _ J I=>?_);refine wf [(0,true),(1,false),(2,true),(3,true),(4,true),(5,true),(6,false),(7,true),(8,true),(9,true),(10,true),(11,true),(12,true)] [] [13] I ?_
    repeat(first|((with_reducible show bC _ _ _ (_::_) _ _);refine sW rfl rfl rfl ?_;refine p4 ?_)|refine rS ?_)
    refine aK ?_;refine fB fun J I=>?_;go_wp2_with (refine aQq fun _ J I=>?_);refine au [(0,false),(1,false),(2,false),(3,true),(4,true),(5,true)] [(6,_,311)] [7,8] Θ Θ ⟨⟨_,rfl,rfl,rfl⟩,Ϙ,trivial⟩ I ?_;refine pF ?_;refine fA ?_;refine aC fun b=>?_;refine fB fun J I=>?_;go_wp2_with (refine aQq fun _ J I=>?_);go_roundw;case rel=>exact⟨s,Ω,rfl,by rw[HD.out];exact I.pop⟩
    case measure=>simp[intOf]
  ·obtain rfl:i=0:=Ω
   rw[Yh,Yj]at I;go_wp2_with (refine aQq fun _ J I=>?_);exact Λ
def VRow(w:ϑ)(v:ό)(ys:List Value):Prop :=
 (∀u∈ys,u.oneCell'=true)∧∃a c,v= .slice a ys.length c∧(a=none→c=0)∧(0<ys.length→∃b off,a=some ⟨b,off,none⟩∧b<w.heap.size∧∀(i:Nat) (h:i<ys.length),w.cell? ⟨b,off+i,none⟩=some ys[i])
theorem ap(l:Δ):(ak l).length=l.length:=ZT _
theorem eu(l m:Δ):ak (l++m)=ak l++ak m:=XQ
theorem bY(l:Δ):∀u∈ak l,u.oneCell'=true:=fun u hu=>by
 obtain⟨y,_,rfl⟩:=List.mem_map.1 hu;rfl
theorem BRow.vrow{w:ϑ}{v:ό}{l:Δ}(h:BRow w v l):VRow w v (ak l):=by
 obtain⟨a,c,rfl,hn,hp⟩:=h;refine⟨bY l,a,c,by rw[ap],hn,fun h0=>?_⟩;rw[ap]at h0;obtain⟨b,off,e,hb,hc⟩:=hp h0;exact⟨b,off,e,hb,fun i hi=>(hc i (by rwa[ap]at hi)).trans (by simp[ak])⟩
theorem VRow.brow{w:ϑ}{v:ό}{l:Δ}(h:VRow w v (ak l)):BRow w v l:=by
 obtain⟨_,a,c,rfl,hn,hp⟩:=h;refine⟨a,c,by rw[ap],hn,fun h0=>?_⟩;obtain⟨b,off,e,hb,hc⟩:=hp (by rwa[ap]);exact⟨b,off,e,hb,fun i hi=>(hc i (by rwa[ap])).trans (by simp[ak])⟩
theorem VRow.below{w Z:ϑ}{v:ό}{ys:List Value}(h:VRow w v ys)(hb:Υ w Z):VRow Z v ys:=by
 obtain⟨h1,a,c,rfl,hn,h⟩:=h;refine⟨h1,a,c,rfl,hn,fun h0=>?_⟩;obtain⟨b,off,rfl,h1,h2⟩:=h h0;exact⟨b,off,rfl,Xl h1 hb.size,fun i hi=>(hb.cell (p:=⟨b,off+i,none⟩) h1).trans (h2 i hi)⟩
class Seg(r:Ψ)(off n:Nat)(ys:outParam (List Value)):Prop where
 len:ys.length=n
 one:∀u∈ys,u.oneCell'=true
 seg:∀(i:Nat) (h:i<ys.length),r[off+i]?=some ys[i]
class Arg(D:ϑ)(v:ό)(ys:outParam (List Value)):Prop where
 arg:VRow D v ys
class See(D:ϑ)(M:Mem)(v:ό)(ys:outParam (List Value)):Prop where
 see:∀w,Loc D w M→VRow w v ys
instance qp(D:ϑ)(M:Mem):See D M (.slice none 0 0) []:=⟨fun w _=>⟨fun u hu=>(Yc hu).elim,none,0,rfl,fun _=>rfl,fun h=>absurd h Ϡ⟩⟩
instance OS(D:ϑ)(M:Mem)(v:ό)(ys:List Value)[h:Arg D v ys]:See D M v ys:=⟨fun w I=>h.arg.below I.bel⟩
instance QS(D:ϑ)(M:Mem)(g off n c:Nat)(E:Ψ)(e:ϋ)(ys:List Value)[hm:At M g E e][hs:Seg E off n ys]:See D M (.slice (some ⟨g,off,none⟩) n c) ys :=
 ⟨fun w I=>⟨hs.one,some ⟨g,off,none⟩,c,by rw[hs.len],fun h=>(by cases h),fun _=>⟨g,off,rfl,I.lt hm.mem,fun i hi=>by
  rw[Ya w g _ _ _ _ (I.get hm.mem)];exact hs.seg i hi⟩⟩⟩
theorem See.bytes{D w:ϑ}{M:Mem}{v:ό}{l:Δ}(I:Loc D w M)[h:See D M v (ak l)]:BRow w v l:=(h.see w I).brow
def ae(n:Nat)(f:Φ):Δ:=(List.range n).map f
theorem ag(n:Nat)(f:Φ):(ae n f).length=n:=by simp[ae]
theorem segB{n:Nat}(f:Φ)(off m:Nat)(h:off+m≤n):Seg (aa n f) off m (ak (ae m fun i=>f (off+i))) where
 len:=by rw[ap,ag]
 one:=bY _
 seg:=fun i hi=>by
  rw[ap,ag]at hi;rw[show(ak (ae m fun i=>f (off+i)))[i]=Value.int .u8 (B8 (f (off+i)))from by simp[ak,ae]];exact bG (fun i=>Value.int .u8 (B8 (f i))) (show off+i<n by omega)
instance fD(n:Nat)(f:Φ):Seg (aa n f) 0 n (ak (ae n f)):=by
 have:=segB (n:=n) f 0 n Ω;simpa using this
class OwnR(E:Ψ)(n:Nat)(W:outParam Nat)(xs:outParam (List Value)):Prop where
 len:xs.length=n
 one:∀u∈xs,u.oneCell'=true
 size:E.size=W
 le:n≤W
 max:W≤maxLen
 take:E.toList.take n=xs
theorem OwnR.cell{E:Ψ}{n W:Nat}{xs:List Value}(h:OwnR E n W xs){i:Nat}(hi:i<xs.length):E[i]?=some xs[i]:=by
 have h1:E.toList[i]?=(E.toList.take n)[i]?:=by rw[List.getElem?_take_of_lt (by rw[← h.len];exact hi)]
 rw[← Array.getElem?_toList,h1,h.take,List.getElem?_eq_getElem hi]
instance zD(E:Ψ)(n W:Nat)(xs:List Value)[h:OwnR E n W xs]:Seg E 0 n xs :=
 ⟨h.len,h.one,fun i hi=>by rw[XA];exact h.cell hi⟩
theorem OwnR.seg{E:Ψ}{n W:Nat}{xs:List Value}(h:OwnR E n W xs)(off m:Nat)(hm:off+m≤n):Seg E off m ((xs.drop off).take m) where
 len:=by rw[Xr,Xz,h.len];omega
 one:=fun u hu=>h.one u (List.mem_of_mem_drop (List.mem_of_mem_take hu))
 seg:=fun i hi=>by
  rw[Xr,Xz,h.len]at hi;rw[h.cell (i:=off+i) (by rw[h.len];omega)];simp
theorem OwnR.cellB{E:Ψ}{n W:Nat}{l:Δ}(h:OwnR E n W (ak l)){i:Nat}(hi:i<l.length):Cell E i (.int .u8 (B8 l[i])) :=
 ⟨by rw[h.cell (i:=i) (by rwa[ap])];simp[ak]⟩
class Elt(t:ϋ)(e:outParam TypeId):Prop where
 und:prog.underlying t=some (.slice e)
 info:∃i z,prog.info? e=some i∧i.zero=some z∧i.size=1∧i.bytes≤1000∧z.cells.size=1
theorem uP{t e:ϋ}{z:ό}{k:Nat}(hu:prog.underlying t=some (.slice e))(hi:(prog.info? e).map (fun i=>(i.zero,i.size,i.bytes))=some (some z,1,k))(hk:k≤1000)(hz:z.cells.size=1):Elt t e:=by
 obtain⟨i,h1,h2,h3,h4⟩:=info_parts hi;exact⟨hu,i,z,h1,h2,h3,by rw[h4];exact hk,hz⟩
instance WH:Elt 29 5:=uP underlying29 uJ Ω rfl
class Reps(M:Mem)(g:Nat)(F:outParam (Nat→Ψ→Mem)):Prop where
 reps:∃L R E e,M=L++(g,E,e)::R∧∀g' c',F g' c'=L++(g',c',e)::R
instance WI(M:Mem)(g:Nat)(E:Ψ)(e:ϋ):Reps ((g,E,e)::M) g (fun g' c'=>(g',c',e)::M):=⟨[],M,E,e,rfl,fun _ _=>rfl⟩
instance WJ(x:Nat×Ψ×ϋ)(M:Mem)(g:Nat)(F:Nat→Ψ→Mem)[h:Reps M g F]:Reps (x::M) g (fun g' c'=>x::F g' c'):=by
 obtain⟨L,R,E,e,h1,h2⟩:=h.reps;exact⟨x::L,R,E,e,by rw[h1];rfl,fun g' c'=>by rw[h2];rfl⟩
theorem Loc.reps{D w Z:ϑ}{M:Mem}(h:Loc D w M){g:Nat}{E:Ψ}{e:ϋ}(hm:(g,E,e)∈M){F:Nat→Ψ→Mem}(hf:Reps M g F)(hg:w.grownBy Z (some g)){g':Nat}{cur':Ψ}(hc:Z.heap[g']?=some (.cells cur' e (0,0)))(hn:g'=g∨w.heap.size≤g'):Loc D Z (F g' cur'):=by
 obtain⟨L,R,Z2,e2,rfl,hF⟩:=hf.reps;have hnd:=h.nd;have hm2:(g,Z2,e2)∈L++(g,Z2,e2)::R:=Ϡ;have ee:e2=e:=by
  have a:=h.get hm;rw[h.get hm2]at a;cases a;rfl
 subst ee;have hge:=h.ge hm2;have hsz:=h.bel.size;rw[hF];simp only[XQ,List.map_cons,Zf,Yx,Ym,List.mem_map]at hnd;obtain⟨p1,⟨p2,p3⟩,p4⟩:=hnd;have far:∀b r t,((b,r,t)∈L∨(b,r,t)∈R)→b≠g∧b≠g'∧D.heap.size≤b∧Z.heap[b]?=some (.cells r t (0,0)):=by
  intro b r t hb;have hbm:(b,r,t)∈L++(g,Z2,e2)::R:=by rcases hb with hb|hb <;> simp[hb]
  have n1:b≠g:=by
   rcases hb with hb|hb
   ·exact p4 b ⟨_,hb,rfl⟩ g (.inl rfl)
   ·exact fun e=>p2 b ⟨_,hb,rfl⟩ e.symm
  have hlt:=h.lt hbm;refine⟨n1,Ω,h.ge hbm,?_⟩;rw[hg.block b hlt (fun e=>n1 (by injection e))];exact h.get hbm
 refine⟨h.bel.grown hg hsz (fun k hk=>by cases hk;exact hge),fun b r t hb=>?_,?_⟩
 ·rw[Zj,Ym]at hb
  rcases hb with hb|hb|hb
  ·exact(far b r t (.inl hb)).2.2
  ·cases hb;exact⟨Ω,hc⟩
  ·exact(far b r t (.inr hb)).2.2
 ·simp only[XQ,List.map_cons,Zf,Yx,Ym,List.mem_map]
  refine⟨p1,⟨?_,p3⟩,?_⟩
  ·rintro b⟨⟨b,r,t⟩,hb,rfl⟩
   exact(far b r t (.inr hb)).2.1.symm
  ·rintro b⟨⟨b,r,t⟩,hb,rfl⟩ c hc'
   rcases hc' with rfl|⟨x,hx,rfl⟩
   ·exact(far b r t (.inl hb)).2.1
   ·exact p4 b ⟨_,hb,rfl⟩ x.1 (.inr ⟨x,hx,rfl⟩)
theorem Loc.fresh{D w Z:ϑ}{M:Mem}(h:Loc D w M)(hb:Υ w Z){g:Nat}{E:Ψ}{e:ϋ}(hg:w.heap.size≤g)(hc:Z.heap[g]?=some (.cells E e (0,0))):Loc D Z ((g,E,e)::M):=by
 have h1:=h.keep hb;have hsz:=h.bel.size;refine⟨h1.bel,fun b r t hm=>?_,?_⟩
 ·cases hm with
  | head=>exact⟨Ω,hc⟩
  | tail _ hm=>exact h1.ok b r t hm
 ·refine List.Pairwise.cons (fun b hb=>?_) h1.nd
  obtain⟨⟨b',r',t'⟩,hm,rfl⟩:=List.mem_map.1 hb;have:=h.lt hm;simp only;omega
section
variable {w:ϑ}
theorem jZ{t ty e:ϋ}[he:Elt t e]{g n W:Nat}{E:Ψ}{xs:List Value}(hr:OwnR E n W xs)(hg:w.heap[g]?=some (.cells E e (0,0))){v:ό}{ys:List Value}(hy:VRow w v ys)(hsz:n+ys.length≤100000000000) :
 ∃g' cap' cur' Z,(Builtin.append_ #[t,t] ty #[.slice (ϐ g) n W,v]).run prog w= .ok (.slice (ϐ g') (n+ys.length) cap') Z ∧
  OwnR cur' (n+ys.length) cap' (xs++ys)∧w.grownBy Z (some g)∧Z.heap[g']?=some (.cells cur' e (0,0))∧(g'=g∨w.heap.size≤g'):=by
 obtain⟨i,z,hi,hz,hs1,hb,hzs⟩:=he.info;have hone:∀u∈xs++ys,u.oneCell'=true:=fun u hu=>by
  rcases List.mem_append.1 hu with h|h
  ·exact hr.one u h
  ·exact hy.1 u h
 have hown:w.ownsRow 0 e 1 (.slice (ϐ g) n W) n xs:=⟨by rw[hr.len];omega,.inr ⟨g,W,E,rfl,Yb _,hg,hr.le,hr.max,by rw[hr.size];omega,by rw[XS];exact hr.take⟩⟩;obtain⟨hy1,a,c,rfl,hn,hp⟩:=hy;cases a with
 | none =>
  have hl:ys=[]:=by
   rcases X4 ys.length with h0|h0
   ·exact XG h0
   ·obtain⟨_,_,hc,_⟩:=hp h0;cases hc
  subst hl;rw[hn rfl];refine⟨g,W,E,w,run_append_owned_none (P:=prog) (w:=w) 0 t ty e i 1 he.und hi _ _ _ hown,?_,⟨rfl,rfl,rfl,Xn _,fun _ _ _=>rfl⟩,hg,.inl rfl⟩;rw[Yf];exact hr
 | some ad =>
  have hcells:∀j u,ys[j]?=some u→w.cell? (ad.add j)=some u:=fun j u hj=>by
   have hjl:j<ys.length:=by
    rcases XI j ys.length with h|h
    ·exact h
    ·rw[List.getElem?_eq_none h]at hj;cases hj
   obtain⟨b,off,hc,_,hcell⟩:=hp Ω;cases hc
   rw[zaa,hcell j hjl,← hj,List.getElem?_eq_getElem hjl]
  by_cases hroom:n+ys.length≤W
  ·have hfit:n*i.size+ys.length≤E.size:=by rw[hs1,hr.size];omega
   have hrun:=run_append_room (P:=prog) w t ty e i he.und hi g n W E hg ad ys.length c ys (by rw[hs1,XS]) hcells hy1 hroom hfit;rw[hs1,XS]at hrun;refine⟨g,W,_,_,hrun,⟨by rw[Xa,hr.len],hone,?_,hroom,hr.max,?_⟩,⟨rfl,rfl,rfl,Ϡ,fun k _ hk=>setRow_other w g k _ (fun e=>hk (by rw[e]))⟩,setRow_heap w g E _ e _ hg,.inl rfl⟩
   ·simp only[YS,Xa,Xr,Xz,Yq,hr.size]
    have:=hr.le;omega
   ·rw[hr.take]
    have:n+ys.length=(xs++ys).length:=by rw[Xa,hr.len]
    rw[this];exact Ze
  ·have hrun:=run_append_grow (P:=prog) w t ty e i z he.und hi hz ⟨g,0,none⟩ n W xs (by rw[hs1,hr.len,XS]) (hown.cells (g:=g) rfl) ad ys.length c ys (by rw[hs1,XS]) hcells Ω Ω
    (growslice_fits Ω (ZD (YE _ hb) Ω))
   have hge:=grownCap_ge w (n+ys.length) W e;refine⟨_,_,_,_,hrun,⟨by rw[Xa,hr.len],hone,?_,hge,grownCap_le_maxLen w _ _ e (by unfold maxLen;omega),?_⟩,⟨rfl,rfl,rfl,Ϡ,fun k hk _=>heap_alloc_old w.drew _ hk⟩,Xe w.drew _,.inr (Xn _)⟩
   ·simp only[YK,YS,size_zeroCells,hzs,hr.len]
    omega
   ·have:n+ys.length=(xs++ys).length:=by rw[Xa,hr.len]
    rw[this];simp only[YJ,Xc];rw[← Xc];exact Ze
theorem j5{t ty e:ϋ}[he:Elt t e]{v:ό}{ys:List Value}(hy:VRow w v ys)(h0:0<ys.length)(hsz:ys.length≤100000000000) :
 ∃g' cap' cur' Z,(Builtin.append_ #[t,t] ty #[.slice none 0 0,v]).run prog w= .ok (.slice (ϐ g') ys.length cap') Z ∧
  OwnR cur' ys.length cap' ys∧Υ w Z∧Z.heap[g']?=some (.cells cur' e (0,0))∧w.heap.size≤g':=by
 obtain⟨i,z,hi,hz,hs1,hb,hzs⟩:=he.info;obtain⟨hy1,a,c,rfl,hn,hp⟩:=hy;obtain⟨b,off,rfl,hbl,hcell⟩:=hp h0;have hrun:=run_append_nil (P:=prog) w t ty e i z he.und hi hz ⟨b,off,none⟩ ys.length c ys (by rw[hs1,XS]) (fun j u hj=>by
  have hjl:j<ys.length:=by
   rcases XI j ys.length with h|h
   ·exact h
   ·rw[List.getElem?_eq_none h]at hj;cases hj
  rw[zaa,hcell j hjl,← hj,List.getElem?_eq_getElem hjl]) h0 Ω (ZD (YE _ hb) Ω)
 have hge:=grownCap_ge w ys.length 0 e;refine⟨_,_,_,_,hrun,⟨rfl,hy1,?_,hge,grownCap_le_maxLen w _ _ e (by unfold maxLen;omega),?_⟩,⟨rfl,rfl,rfl,Ϡ,fun k hk=>heap_alloc_old w.drew _ hk⟩,Xe w.drew _,Xn _⟩
 ·simp only[YK,YS,size_zeroCells,hzs]
  omega
 ·simp only[YJ]
  exact Ze
end
section
variable {ops:Array Oper} {rest:List Oper} {o:Oper} {a:Act} {D w:ϑ} {M M':Mem} {Q:Exit→Act→ϑ→Prop}
theorem See.len{D w:ϑ}{M:Mem}{p:ϊ}{k cc:Nat}{ys:List Value}(I:Loc D w M)(hy:See D M (.slice p k cc) ys):k=ys.length:=by
 obtain⟨_,a',c',e,_⟩:=hy.see w I;cases e;rfl
theorem Is(I:Loc D w M)(hg:o.guard=none){s x:Operand}{t e:ϋ}(ho:o.op= .call { callee:= .builtin .append,args:= #[s,x],argTypes:= #[t,t] })[he:Elt t e]{g n W:Nat}(hs:a.eval s= .slice (ϐ g) n W){E:Ψ}[hm:At M g E e]{xs:List Value}[hr:OwnR E n W xs]{F:Nat→Ψ→Mem}[hf:Reps M g F]{p:ϊ}{k cc:Nat}(hx:a.eval x= .slice p k cc){ys:List Value}[hy:See D M (.slice p k cc) ys](hsz:n+k≤100000000000)(h:∀g' cap' cur' Z,OwnR cur' (n+k) cap' (xs++ys)→Loc D Z (F g' cur')→wpList prog ops Q rest (a.put o.dst (.slice (ϐ g') (n+k) cap')) Z):wpList prog ops Q (o::rest) a w :=
 Xt hg fun K T=>by
  obtain rfl:=hy.len I;obtain⟨g',cap',cur',Z,hrun,h1,h2,h3,h4⟩:=jZ (t:=t) (ty:=o.type) hr (I.get hm.mem) (hy.see w I) hsz;unfold Oper.wp execOp;simp only[ho,resolve,invoke,builtin,Sem.run_bind,Sem.run_pure,Result.andThen_ok,List.map_toArray,List.map_cons,List.map_nil,hs,hx,hrun];exact T _ _ (h g' cap' cur' Z h1 (I.reps hm.mem hf h2 h3 h4))
theorem Mt(I:Loc D w M)(hg:o.guard=none){s x:Operand}(ho:o.op= .call { callee:= .builtin .append,args:= #[s,x],argTypes:= #[29,29] }){g n W:Nat}(hs:a.eval s= .slice (ϐ g) n W){E:Ψ}[hm:At M g E 5]{xs:Δ}[hr:OwnR E n W (ak xs)]{F:Nat→Ψ→Mem}[hf:Reps M g F]{p:ϊ}{k cc:Nat}(hx:a.eval x= .slice p k cc){ys:Δ}[hy:See D M (.slice p k cc) (ak ys)](hsz:n+k≤100000000000)(h:∀g' cap' cur' Z,OwnR cur' (n+k) cap' (ak (xs++ys))→Loc D Z (F g' cur')→wpList prog ops Q rest (a.put o.dst (.slice (ϐ g') (n+k:Nat) cap')) Z):wpList prog ops Q (o::rest) a w :=
 Is I hg ho hs hx hsz fun g' cap' cur' Z h1 h2=>by
  rw[← eu]at h1;exact h g' cap' cur' Z h1 h2
theorem tD(I:Loc D w M)(hg:o.guard=none){s x:Operand}{t e:ϋ}(ho:o.op= .call { callee:= .builtin .append,args:= #[s,x],argTypes:= #[t,t] })[he:Elt t e](hs:a.eval s= .slice none 0 0){p:ϊ}{k cc:Nat}(hx:a.eval x= .slice p k cc){ys:List Value}[hy:See D M (.slice p k cc) ys](h0:0<k)(hsz:k≤100000000000)(h:∀g' cap' cur' Z,OwnR cur' k cap' ys→Loc D Z ((g',cur',e)::M)→wpList prog ops Q rest (a.put o.dst (.slice (ϐ g') k cap')) Z):wpList prog ops Q (o::rest) a w :=
 Xt hg fun K T=>by
  obtain rfl:=hy.len I;obtain⟨g',cap',cur',Z,hrun,h1,h2,h3,h4⟩:=j5 (t:=t) (ty:=o.type) (hy.see w I) h0 hsz;unfold Oper.wp execOp;simp only[ho,resolve,invoke,builtin,Sem.run_bind,Sem.run_pure,Result.andThen_ok,List.map_toArray,List.map_cons,List.map_nil,hs,hx,hrun];exact T _ _ (h g' cap' cur' Z h1 (I.fresh h2 h4 h3))
theorem lP(I:Loc D w M)(hg:o.guard=none){s x:Operand}(ho:o.op= .call { callee:= .builtin .append,args:= #[s,x],argTypes:= #[29,29] })(hs:a.eval s= .slice none 0 0){p:ϊ}{k cc:Nat}(hx:a.eval x= .slice p k cc){ys:Δ}[hy:See D M (.slice p k cc) (ak ys)](h0:0<k)(hsz:k≤100000000000)(h:∀g' cap' cur' Z,OwnR cur' k cap' (ak ys)→Loc D Z ((g',cur',5)::M)→wpList prog ops Q rest (a.put o.dst (.slice (ϐ g') k cap')) Z):wpList prog ops Q (o::rest) a w :=
 tD I hg ho hs hx h0 hsz h
end
theorem gB{v:ό}(h:v.oneCell'=true):v.cells= #[v]:=by cases v <;> first|rfl|cases h
instance il(x:Γ):Seg #[.int .u8 (B8 x)] 0 1 (ak [x]):=⟨rfl,bY _,fun i hi=>by
 have:i=0:=by simpa[ak] using hi
 subst this;rfl⟩
section
variable {ops:Array Oper} {rest:List Oper} {o:Oper} {a:Act} {D w:ϑ} {M M':Mem} {Q:Exit→Act→ϑ→Prop}
theorem Mu(I:Loc D w M)(hg:o.guard=none){t e:ϋ}{x:Operand}(ho:o.op= .buildSlice t 1 #[(0,x)])[he:Elt t e]{v:ό}(hx:a.eval x=v)(h1:v.oneCell'=true)(h:∀b Z,Loc D Z ((b, #[v],e)::M)→wpList prog ops Q rest (a.put o.dst (.slice (ϐ b) 1 1)) Z):wpList prog ops Q (o::rest) a w :=
 Xt hg fun K T=>by
  obtain⟨i,z,hi,hz,hs1,hb,hzs⟩:=he.info;refine Yl t e 1 #[(0,x)] ho #[v] i z he.und hi hz (by rw[hs1];decide) (by rw[hs1];decide) ?_ (T _ _ (h _ _ (I.alloc #[v] e)));rw[hs1];have e:(Array.map (fun(y:Nat×Operand)=>(y.1,a.eval y.2)) #[(0,x)]).toList=[(0,v)]:=by simp[hx]
  rw[e];have e1:Array.range 1= #[0]:=rfl;simp[Instr.fill,gB h1,e1]
theorem wP(I:Loc D w M)(hg:o.guard=none){t e:ϋ}{x:Operand}(ho:o.op= .buildSlice t 1 #[(0,x)])[he:Elt t e]{d:IntKind}{n:Int}(hx:a.eval x= .int d n)(h:∀b Z,Loc D Z ((b, #[.int d n],e)::M)→wpList prog ops Q rest (a.put o.dst (.slice (ϐ b) 1 1)) Z):wpList prog ops Q (o::rest) a w:=Mu I hg ho hx rfl h
theorem Bs(I:Loc D w M)(hg:o.guard=none){t e:ϋ}{x:Operand}(ho:o.op= .buildSlice t 1 #[(0,x)])[he:Elt t e]{p:ϊ}{n c:Nat}(hx:a.eval x= .slice p n c)(h:∀b Z,Loc D Z ((b, #[.slice p n c],e)::M)→wpList prog ops Q rest (a.put o.dst (.slice (ϐ b) 1 1)) Z):wpList prog ops Q (o::rest) a w:=Mu I hg ho hx rfl h
theorem Mv(I:Loc D w M)(hg:o.guard=none){t e:ϋ}{x y:Operand}(ho:o.op= .buildSlice t 2 #[(0,x),(1,y)])[he:Elt t e]{v u:ό}(hx:a.eval x=v)(hy:a.eval y=u)(h1:v.oneCell'=true)(h2:u.oneCell'=true)(h:∀b Z,Loc D Z ((b, #[v,u],e)::M)→wpList prog ops Q rest (a.put o.dst (.slice (ϐ b) 2 2)) Z):wpList prog ops Q (o::rest) a w :=
 Xt hg fun K T=>by
  obtain⟨i,z,hi,hz,hs1,hb,hzs⟩:=he.info;refine Yl t e 2 #[(0,x),(1,y)] ho #[v,u] i z he.und hi hz (by rw[hs1];decide) (by rw[hs1];decide) ?_ (T _ _ (h _ _ (I.alloc #[v,u] e)));rw[hs1];have e:(Array.map (fun(y:Nat×Operand)=>(y.1,a.eval y.2)) #[(0,x),(1,y)]).toList=[(0,v),(1,u)]:=by simp[hx,hy]
  rw[e];have e1:Array.range 2= #[0,1]:=rfl;simp[Instr.fill,gB h1,gB h2,e1]
theorem OT(I:Loc D w M)(hg:o.guard=none){t e:ϋ}{x y z':Operand}(ho:o.op= .buildSlice t 3 #[(0,x),(1,y),(2,z')])[he:Elt t e]{v u s:ό}(hx:a.eval x=v)(hy:a.eval y=u)(hz':a.eval z'=s)(h1:v.oneCell'=true)(h2:u.oneCell'=true)(h3:s.oneCell'=true)(h:∀b Z,Loc D Z ((b, #[v,u,s],e)::M)→wpList prog ops Q rest (a.put o.dst (.slice (ϐ b) 3 3)) Z):wpList prog ops Q (o::rest) a w :=
 Xt hg fun K T=>by
  obtain⟨i,z,hi,hz,hs1,hb,hzs⟩:=he.info;refine Yl t e 3 #[(0,x),(1,y),(2,z')] ho #[v,u,s] i z he.und hi hz (by rw[hs1];decide) (by rw[hs1];decide) ?_ (T _ _ (h _ _ (I.alloc #[v,u,s] e)));rw[hs1];have e:(Array.map (fun(y:Nat×Operand)=>(y.1,a.eval y.2)) #[(0,x),(1,y),(2,z')]).toList=[(0,v),(1,u),(2,s)]:=by simp[hx,hy,hz']
  rw[e];have e1:Array.range 3= #[0,1,2]:=rfl;simp[Instr.fill,gB h1,gB h2,gB h3,e1]
theorem Mw(I:Loc D w M)(hg:o.guard=none){t e:ϋ}{x y:Operand}(ho:o.op= .buildSlice t 2 #[(0,x),(1,y)])[he:Elt t e]{p q:ϊ}{n c n' c':Nat}(hx:a.eval x= .slice p n c)(hy:a.eval y= .slice q n' c')(h:∀b Z,Loc D Z ((b, #[.slice p n c,.slice q n' c'],e)::M)→wpList prog ops Q rest (a.put o.dst (.slice (ϐ b) 2 2)) Z):wpList prog ops Q (o::rest) a w:=Mv I hg ho hx hy rfl rfl h
theorem Mx(I:Loc D w M)(hg:o.guard=none){t e:ϋ}{x y z':Operand}(ho:o.op= .buildSlice t 3 #[(0,x),(1,y),(2,z')])[he:Elt t e]{p q r:ϊ}{n c n' c' n2 c2:Nat}(hx:a.eval x= .slice p n c)(hy:a.eval y= .slice q n' c')(hz':a.eval z'= .slice r n2 c2)(h:∀b Z,Loc D Z ((b, #[.slice p n c,.slice q n' c',.slice r n2 c2],e)::M)→wpList prog ops Q rest (a.put o.dst (.slice (ϐ b) 3 3)) Z):wpList prog ops Q (o::rest) a w:=OT I hg ho hx hy hz' rfl rfl rfl h
end
class Spl(E:Ψ)(off:Nat)(ys:List Value)(cur':outParam Ψ):Prop where
 fit:off+ys.length≤E.size
 spl:(E.toList.take off++(ys++E.toList.drop (off+ys.length))).toArray=cur'
theorem k6{n off m:Nat}(f g h:Φ)(hm:off+m≤n)(e:∀i,i<n→(if off≤i∧i<off+m then g (i-off)else f i)=h i):Spl (aa n f) off (ak (ae m g)) (aa n h) where
 fit:=by rw[ap,ag,ai];exact hm
 spl:=by
  rw[ap,ag];apply Array.ext_getElem?;intro i;have χ:(aa n f).toList.length=n:=by simp[ai]
  rcases XI i n with hi|hi
  ·rw[show(aa n h)[i]?=some (.int .u8 (B8 (h i)))from bG _ hi,← e i hi]
   rw[List.getElem?_toArray];by_cases h1:i<off
   ·rw[Χ Ω,List.getElem?_append_left (by rw[Xr,χ];omega),List.getElem?_take_of_lt h1,Array.getElem?_toList]
    exact bG _ hi
   ·rw[List.getElem?_append_right (by rw[Xr,χ];omega),Xr,χ,Nat.min_eq_left Ω]
    by_cases h2:i<off+m
    ·rw[Ρ ⟨Ω,h2⟩,List.getElem?_append_left (by rw[ap,ag];omega)]
     simp[ak,ae,show i-off<m by omega]
    ·rw[Χ Ω,List.getElem?_append_right (by rw[ap,ag];omega),ap,ag,List.getElem?_drop,Array.getElem?_toList]
     rw[show off+m+(i-off-m)=i by omega];exact bG _ hi
  ·rw[show(aa n h)[i]?=none from Array.getElem?_eq_none (by rw[ai];exact hi)]
   refine Array.getElem?_eq_none ?_;simp only[YS,Xa,Xr,Xz,χ,ap,ag];omega
section
variable {ops:Array Oper} {rest:List Oper} {o:Oper} {a:Act} {D w:ϑ} {M M':Mem} {Q:Exit→Act→ϑ→Prop}
theorem qq(I:Loc D w M)(hg:o.guard=none){d s:Operand}{t e:ϋ}(ho:o.op= .call { callee:= .builtin .copy,args:= #[d,s],argTypes:= #[t,t] })[he:Elt t e]{g off n c:Nat}(hd:a.eval d= .slice (some ⟨g,off,none⟩) n c){E:Ψ}{u:ϋ}[hm:At M g E u]{p:ϊ}{k cc:Nat}(hs:a.eval s= .slice p k cc){ys:List Value}[hy:See D M (.slice p k cc) ys](hn:ys.length≤n)(h0:0<ys.length){cur':Ψ}[hp:Spl E off ys cur'][hu:Ups M g cur' M'](h:∀Z,Loc D Z M'→wpList prog ops Q rest (a.put o.dst (.int .i64 ys.length)) Z):wpList prog ops Q (o::rest) a w:=by
 obtain⟨h1,ad,cc',e1,hnn,hpp⟩:=hy.see w I;obtain⟨b,o2,rfl,hb,hcell⟩:=hpp h0;obtain⟨i,z,hi,hz,hs1,hbb,hzs⟩:=he.info;cases e1
 refine wpList_copy_own hg d s t t ho e he.und (by rw[hi];simp[hs1]) g off n c ⟨b,o2,none⟩ ys.length cc hd hs E u (I.get hm.mem) ys (Nat.min_eq_left hn).symm (fun j v hj=>?_) hp.fit h1 ?_
 ·have hjl:j<ys.length:=by
   rcases XI j ys.length with h|h
   ·exact h
   ·rw[List.getElem?_eq_none h]at hj;cases hj
  rw[zaa,hcell j hjl,← hj,List.getElem?_eq_getElem hjl]
 ·rw[hp.spl]
  exact h _ (I.setRow hu.upd)
end
def Fresh(w:ϑ)(l:Δ)(e:Ending)(Z:ϑ):Prop :=
 ∃g W E,e= .returned (.slice (ϐ g) l.length W)∧OwnR E l.length W (ak l)∧w.heap.size≤g∧Z.heap[g]?=some (.cells E 5 (0,0))∧Υ w Z
theorem Loc.back{w Z:ϑ}{M:Mem}{g W:Nat}{E:Ψ}{l:Δ}{v:ό}(I:Loc w Z M)[hm:At M g E 5](hv:v= .slice (ϐ g) l.length W)[hr:OwnR E l.length W (ak l)]:Fresh w l (.returned v) Z :=
 ⟨g,W,E,by rw[hv],hr,I.ge hm.mem,I.get hm.mem,I.bel⟩
namespace Shb
def aX(x:BitVec 64)(n:Nat):BitVec 64:=x<<<n|||x>>>(64-n)
def eF(x:Γ):BitVec 64:=x.setWidth 64
def wQ(x:BitVec 64):BitVec 64:=aX x 63^^^aX x 56^^^x>>>7
def wR(x:BitVec 64):BitVec 64:=aX x 45^^^aX x 3^^^x>>>6
def Kl(x:BitVec 64):BitVec 64:=aX x 50^^^aX x 46^^^aX x 23
def Km(x:BitVec 64):BitVec 64:=aX x 36^^^aX x 30^^^aX x 25
theorem Q_xor(a b:BitVec 64):bits .xor .u64 (Q a) (Q b)=Q (a^^^b):=by
 unfold Q;rw[bits_xor_u64_nat _ _ a.isLt b.isLt,BitVec.toNat_xor]
theorem Q_and(a b:BitVec 64):bits .and .u64 (Q a) (Q b)=Q (a&&&b):=by
 unfold Q;rw[Zp _ _ a.isLt b.isLt,YA]
theorem It(a b:BitVec 64):bits .or .u64 (Q a) (Q b)=Q (a|||b):=by
 unfold Q;rw[bits_or_u64_nat _ _ a.isLt b.isLt,ZU]
theorem JH(a:BitVec 64):bits .xor .u64 (if IntKind.u64.signed=true then -1 else IntKind.u64.max) (Q a)=Q (~~~a):=by
 have e:(if IntKind.u64.signed=true then(-1:Int)else IntKind.u64.max)=Q (BitVec.allOnes 64):=Ξ;rw[e,Q_xor,BitVec.allOnes_xor]
theorem Bt(a:BitVec 64)(n:Nat):Q a/((2^n:Nat):Int)=Q (a>>>n):=by
 unfold Q;rw[Zc,YW];norm_cast
theorem ET(a:BitVec 64)(n:Nat):Q a*((2^n:Nat):Int)%18446744073709551616=Q (a<<<n):=by
 unfold Q;rw[BitVec.toNat_shiftLeft,Y3,Ye,Yg];rfl
theorem wS(y:Γ):B8 y=Q (y.setWidth 64):=by
 unfold B8 Q;rw[YL];have:=y.isLt;omega
theorem Kn(x:BitVec 64):Q x/(128:Int)=Q (x>>>7):=Bt x 7
theorem Ko(x:BitVec 64):Q x/(64:Int)=Q (x>>>6):=Bt x 6
theorem Kp(x:BitVec 64):Q x*(256:Int)%(18446744073709551616:Int)=Q (x<<<8):=ET x 8
theorem uQ(x:BitVec 64)(n m:Nat)(h:m=64-n):bits .or .u64 (Q x*((2^n:Nat):Int)%18446744073709551616) (Q x/((2^m:Nat):Int))=Q (aX x n):=by
 subst h;rw[ET,Bt,It];rfl
theorem el(x:BitVec 64)(n m:Nat)(h:m=64-n):bits .or .u64 (Q x/((2^m:Nat):Int)) (Q x*((2^n:Nat):Int)%18446744073709551616)=Q (aX x n):=by
 subst h;rw[ET,Bt,It,BitVec.or_comm];rfl
theorem j6(x:BitVec 64):bits .xor .u64 (bits .xor .u64 (Q (aX x 63)) (Q (aX x 56))) (Q x/(128:Int))=Q (wQ x):=by
 rw[Kn,Q_xor,Q_xor];rfl
theorem j7(x:BitVec 64):bits .xor .u64 (bits .xor .u64 (Q (aX x 45)) (Q (aX x 3))) (Q x/(64:Int))=Q (wR x):=by
 rw[Ko,Q_xor,Q_xor];rfl
def K512(i:Nat):BitVec 64:=BitVec.ofNat 64 ([4794697086780616226,8158064640168781261,13096744586834688815,16840607885511220156,4131703408338449720,6480981068601479193,10538285296894168987,12329834152419229976,15566598209576043074,1334009975649890238,2608012711638119052,6128411473006802146,8268148722764581231,9286055187155687089,11230858885718282805,13951009754708518548,16472876342353939154,17275323862435702243,1135362057144423861,2597628984639134821,3308224258029322869,5365058923640841347,6679025012923562964,8573033837759648693,10970295158949994411,12119686244451234320,12683024718118986047,13788192230050041572,14330467153632333762,15395433587784984357,489312712824947311,1452737877330783856,2861767655752347644,3322285676063803686,5560940570517711597,5996557281743188959,7280758554555802590,8532644243296465576,9350256976987008742,10552545826968843579,11727347734174303076,12113106623233404929,14000437183269869457,14369950271660146224,15101387698204529176,15463397548674623760,17586052441742319658,1182934255886127544,1847814050463011016,2177327727835720531,2830643537854262169,3796741975233480872,4115178125766777443,5681478168544905931,6601373596472566643,7507060721942968483,8399075790359081724,8693463985226723168,9568029438360202098,10144078919501101548,10430055236837252648,11840083180663258601,13761210420658862357,14299343276471374635,14566680578165727644,15097957966210449927,16922976911328602910,17689382322260857208,500013540394364858,748580250866718886,1242879168328830382,1977374033974150939,2944078676154940804,3659926193048069267,4368137639120453308,4836135668995329356,5532061633213252278,6448918945643986474,6902733635092675308,7801388544844847127].getD i 0)
def uR(i:Nat):BitVec 64:=BitVec.ofNat 64 ([7640891576956012808,13503953896175478587,4354685564936845355,11912009170470909681,5840696475078001361,11170449401992604703,2270897969802886507,6620516959819538809].getD i 0)
def bB(b:Φ):Nat→Nat→BitVec 64
 | 0=>fun _=>0
 | k+1=>upd (bB b k) (k/8) (bB b k (k/8)<<<8|||eF (b k))
def fK(f:Nat→BitVec 64)(k:Nat):BitVec 64:=wR (f (k-2))+f (k-7)+wQ (f (k-15))+f (k-16)
def cz(Wzq:Nat→BitVec 64):Nat→Nat→BitVec 64
 | 0=>Wzq
 | k+1=>if k<16 then Wzq else upd (cz Wzq k) k (fK (cz Wzq k) k)
def aY(b:Φ):Nat→BitVec 64:=cz (bB b 128) 80
theorem j8(Wzq:Nat→BitVec 64):∀k,k≤16→cz Wzq k=Wzq
 | 0,_=>rfl
 | k+1,h=>by unfold cz;rw[Ρ Ω]
theorem iN(Wzq:Nat→BitVec 64){k:Nat}(h:16≤k):cz Wzq (k+1)=upd (cz Wzq k) k (fK (cz Wzq k) k):=by
 rw[cz,Χ Ω]
def zE(K Wzq:Nat→BitVec 64)(t:Nat)(v:Nat→BitVec 64):BitVec 64:=v 7+Kl (v 4)+(v 4&&&v 5 ^^^ ~~~(v 4)&&&v 6)+K t+Wzq t
def Iu(v:Nat→BitVec 64):BitVec 64:=Km (v 0)+(v 0&&&v 1^^^v 0&&&v 2^^^v 1&&&v 2)
def rnd(K Wzq:Nat→BitVec 64)(t:Nat)(v:Nat→BitVec 64):Nat→BitVec 64
 | 0=>zE K Wzq t v+Iu v
 | 1=>v 0
 | 2=>v 1
 | 3=>v 2
 | 4=>v 3+zE K Wzq t v
 | 5=>v 4
 | 6=>v 5
 | 7=>v 6
 | _=>0
def dz(K Wzq:Nat→BitVec 64)(h:Nat→BitVec 64):Nat→Nat→BitVec 64
 | 0=>h
 | t+1=>rnd K Wzq t (dz K Wzq h t)
def block(K:Nat→BitVec 64)(h:Nat→BitVec 64)(b:Φ):Nat→BitVec 64:=fun i=>h i+dz K (aY b) h 80 i
end Shb
namespace Shb
theorem iv(x:BitVec 64)(w:ϑ)(s:Int)(n m:Nat)(hm:bits .and .u64 (IntKind.u64.wrap s) 63=n:=by decide)(hq:m=64-n:=by rfl)(h:bits .and .u64 (IntKind.u64.wrap s) 63=n→RowKit.Hid (bits .or .u64 (Q x*((2^n:Nat):Int)%18446744073709551616) (Q x/((2^m:Nat):Int))=Q (aX x n))→ϓ 321 #[.int .u64 (Q x),.int .i64 s] w (fun e Z=>e= .returned (.int .u64 (Q (aX x n)))∧w=Z):=by
  intro hm HV;obtain⟨h0,h1⟩:=jH x;go_enter func321,ntmps321;go_wp2;go_ret;exact⟨XH (fun z=>Ending.returned (.int .u64 z)) HV.out,rfl⟩):ϓ 321 #[.int .u64 (Q x),.int .i64 s] w (fun e Z=>e= .returned (.int .u64 (Q (aX x n)))∧w=Z):=h hm (Hd (uQ x n m hq))
theorem OU(x:BitVec 64)(w:ϑ):ϓ 321 #[.int .u64 (Q x),.int .i64 (-1)] w fun e Z=>e= .returned (.int .u64 (Q (aX x 63)))∧w=Z:=iv x w (-1) 63 1
theorem Kq(x:BitVec 64)(w:ϑ):ϓ 321 #[.int .u64 (Q x),.int .i64 (-8)] w fun e Z=>e= .returned (.int .u64 (Q (aX x 56)))∧w=Z:=iv x w (-8) 56 8
theorem EU(x:BitVec 64)(w:ϑ):ϓ 321 #[.int .u64 (Q x),.int .i64 (-19)] w fun e Z=>e= .returned (.int .u64 (Q (aX x 45)))∧w=Z:=iv x w (-19) 45 19
theorem My(x:BitVec 64)(w:ϑ):ϓ 321 #[.int .u64 (Q x),.int .i64 (-61)] w fun e Z=>e= .returned (.int .u64 (Q (aX x 3)))∧w=Z:=iv x w (-61) 3 61
theorem Mz(x:BitVec 64)(w:ϑ):ϓ 321 #[.int .u64 (Q x),.int .i64 (-14)] w fun e Z=>e= .returned (.int .u64 (Q (aX x 50)))∧w=Z:=iv x w (-14) 50 14
theorem EV(x:BitVec 64)(w:ϑ):ϓ 321 #[.int .u64 (Q x),.int .i64 (-18)] w fun e Z=>e= .returned (.int .u64 (Q (aX x 46)))∧w=Z:=iv x w (-18) 46 18
theorem MA(x:BitVec 64)(w:ϑ):ϓ 321 #[.int .u64 (Q x),.int .i64 (-41)] w fun e Z=>e= .returned (.int .u64 (Q (aX x 23)))∧w=Z:=iv x w (-41) 23 41
theorem MC(x:BitVec 64)(w:ϑ):ϓ 321 #[.int .u64 (Q x),.int .i64 (-28)] w fun e Z=>e= .returned (.int .u64 (Q (aX x 36)))∧w=Z:=iv x w (-28) 36 28
theorem MD(x:BitVec 64)(w:ϑ):ϓ 321 #[.int .u64 (Q x),.int .i64 (-34)] w fun e Z=>e= .returned (.int .u64 (Q (aX x 30)))∧w=Z:=iv x w (-34) 30 34
theorem ME(x:BitVec 64)(w:ϑ):ϓ 321 #[.int .u64 (Q x),.int .i64 (-39)] w fun e Z=>e= .returned (.int .u64 (Q (aX x 25)))∧w=Z:=iv x w (-39) 25 39
end Shb
namespace Shb
def bi(n:Nat)(f:Nat→BitVec 64):Ψ:=row n fun i=> .int .u64 (Q (f i))
theorem cP(n:Nat)(f:Nat→BitVec 64):(bi n f).size=n:=aS _ _
theorem eM(n:Nat)(f:Nat→BitVec 64):(bi n f).all (·.oneCell')=true:=by simp[bi,row,Value.oneCell']
theorem zG:(prog.info? 262).map (fun i=>(i.zero,i.size))=some (some (.agg (row 80 fun _=> .int .u64 0)),80):=Θ
theorem zH:(prog.info? 262).map (·.size)=some 80:=Θ
def stF(h:Nat→BitVec 64)(b:Φ)(n:Nat)(L:BitVec 64):Nat→Value:=fun j =>
 if j<8 then .int .u64 (Q (h j))else if j<88 then .int .u64 (Q (K512 (j-8)))else if j<216 then .int .u8 (B8 (b (j-88)))else if j=216 then .int .i64 n else .int .u64 (Q L)
def bZ(h:Nat→BitVec 64)(b:Φ)(n:Nat)(L:BitVec 64):Ψ:=row 218 (stF h b n L)
theorem gC(n:Nat)(f:Nat→BitVec 64):(((List.range n).map fun i=>Q (f i)).map (Value.int .u64)).toArray=bi n f:=by
 simp[bi,row]
theorem lX(w:ϑ):Rt 317 #[] w (.agg (bi 80 K512)):=by
 have HN:=Hd (show(prog.info? 262).map (·.size)=some (bi 80 K512).size by rw[zH,cP]);have HW:=Hd (gC 80 K512);go_enter func317,ntmps317;go_wp2_with (first|(with_reducible refine az rfl 262 rfl 80 _ zG ?_)|(refine Zw rfl 262 227 80 _ rfl .u64 ((List.range 80).map fun i=>Q (K512 i)) _ rfl underlying262 Θ Θ Θ ?_;rw[HW.out])|(with_reducible refine Xu rfl 262 _ _ rfl rfl w.heap.size (bi 80 K512) rfl rfl 262 _ (Xe _ _) HN.out (by rw[aS,cP]) (eM _ _) ?_));refine Ϣ (Yy rfl _ _ w.heap.size 262 (bi 80 K512) (0,0) _ rfl (aF (Xe _ _)) underlying262 rfl HN.out) rfl ?_;exact⟨rfl,aZ ((XE _ _).alloc (Xn _) _) (Xn _) _⟩
theorem nW(w:ϑ):ϓ 303 #[] w fun e Z=>∃sb,e= .returned (.pointer (ϐ sb))∧w.heap.size≤sb∧Z.heap[sb]?=some (.cells (bZ uR (fun _=>0) 0 0) 353 (0,0))∧Υ w Z:=by
 have HW:=Hd (gC 8 uR);go_enter func303,ntmps303;go_wp2_with (first|(refine Zw rfl 261 227 8 _ rfl .u64 ((List.range 8).map fun i=>Q (uR i)) _ rfl underlying261 Θ Θ Θ ?_;rw[HW.out])|(go_at_call 317;refine(lX _).mono ?_;rintro e J⟨rfl,hb⟩)|(refine wpList_buildTo rfl 353 _ rfl _ rfl (bZ uR (fun _=>0) 0 0) Θ ?_)|(refine Great.wpList_boxTo rfl 353 _ rfl _ rfl _ rfl (bZ uR (fun _=>0) 0 0) rfl ?_));go_ret;exact⟨J.heap.size,rfl,hb.size,Xe _ _,hb.alloc hb.size _⟩
end Shb
end Go.Proofs.YtoifhhljfaoejaaGreatDoor
