/-
  Lemmas of the law, part 4: the walks of the functions that it calls and the plain facts about them. No condition beyond those written.
-/
import Derived.Test.YtoifhhljfaoejaaGreatDoorPkAA
import Derived.Test.YtoifhhljfaoejaaGreatDoorPkAC
import Derived.Test.YtoifhhljfaoejaaGreatDoorRows
import Derived.Laws.AppendOwnNone
import Derived.OwnWalk
import Derived.Laws.StructEq
import Derived.Laws.BytesString
import Derived.Laws.BytesArg
set_option maxRecDepth 100000
set_option maxHeartbeats 8000000
set_option linter.unusedVariables false
set_option linter.unusedSimpArgs false
set_option linter.unusedSectionVars false
namespace Go.Proofs.YtoifhhljfaoejaaGreatDoor
open Go.Proofs.Tryz
section
open Go.RowKit
def sT(x:Nat):Nat:=x%2^256+38*(x/2^256)
def cT(x k:Nat):Nat:=(x%2^256%2^(64*k)+38*(x/2^256%2^(64*k)))/2^(64*k)
theorem Gk(x k:Nat):lw x (k+4)=lw (x/2^256) k:=by
 unfold lw;rw[Nat.div_div_eq_div_mul,← Nat.pow_add,show 64*(k+4)=256+64*k from by omega]
theorem EU(p d c:Nat):((p%18446744073709551616+c)%18446744073709551616+d)%18446744073709551616=(p+d+c)%18446744073709551616 ∧
 p/18446744073709551616+(p%18446744073709551616+c)/18446744073709551616+((p%18446744073709551616+c)%18446744073709551616+d)/18446744073709551616=(p+d+c)/18446744073709551616:=by omega
theorem kh(a E:Nat)(h:0<E):a=E*(a/E)+a%E:=(Nat.div_add_mod a E).symm
theorem GP(x:Nat){k:Nat}(h:k<4):lw (sT x) k=(lw x (k+4)*38+lw x k+cT x k)%18446744073709551616:=by
 rw[Gk,← wF x k h];unfold sT cT;generalize x%2^256=a;generalize x/2^256=b;unfold lw;have hE:=Nat.two_pow_pos (64*k);generalize 2^(64*k)=E at *
 have ha:=kh a E hE;have hb:=kh b E hE;have e:a+38*b=a%E+38*(b%E)+E*(a/E+38*(b/E)):=by
  have:E*(a/E+38*(b/E))=E*(a/E)+38*(E*(b/E)):=by grind
  omega
 rw[e,eZ _ _ _ hE];generalize a/E=u;generalize b/E=v;omega
theorem yz(x:Nat)(k:Nat)(h:k<4):cT x (k+1)=(lw x (k+4)*38+lw x k+cT x k)/18446744073709551616:=by
 rw[Gk,← wF x k h];unfold cT;generalize x%2^256=a;generalize x/2^256=b;rw[k9,k9,p64,← Nat.div_div_eq_div_mul];have hE:=Nat.two_pow_pos (64*k);generalize lw a k=u;generalize lw b k=v;generalize 2^(64*k)=E at *
 have e:a%E+E*u+38*(b%E+E*v)=a%E+38*(b%E)+E*(u+38*v):=by grind
 rw[e,eZ _ _ _ hE];congr 1;omega
theorem yA(x:Nat):∀k,k≤4→cT x k≤38
 | 0,_=>by unfold cT;simp[Nat.mod_one]
 | k+1,h=>by
  rw[yz x k (by omega)];have h1:=dn x (k+4);have h2:=dn x k;have h3:=yA x k (by omega);omega
def W2:Nat:=2^256*2^256
theorem Lc:P*P≤W2:=by decide +kernel
theorem BX(x:Nat)(h:x<W2):cT x 4=sT x/2^256:=by
 unfold cT sT;have h2:x/2^256<2^256:=by rw[Nat.div_lt_iff_lt_mul (Nat.two_pow_pos _)];exact h
 rw[show 64*4=256 from rfl,Nat.mod_mod,Nat.mod_eq_of_lt h2]
theorem GQ(x:Nat):(sT x%2^256+2^256*(sT x/2^256))%P=x%P:=by
 rw[Nat.mod_add_div];have e:2^256=38+2*P:=by decide +kernel
 have hx:x=sT x+P*(2*(x/2^256)):=by
  have h:=Nat.mod_add_div x (2^256);unfold sT;have:2^256*(x/2^256)=38*(x/2^256)+P*(2*(x/2^256)):=by
   have:∀y,2^256*y=38*y+P*(2*y):=fun y=>by rw[e];grind
   exact this _
  omega
 have h2:=congrArg (· % P) hx;simp only[Nat.add_mul_mod_self_left]at h2;exact h2.symm
instance KJ:Ent 298:=eo func298
theorem qP(a b:F)(w:World):Rt 272 #[.agg (am a.val),.agg (am b.val)] w (.agg (am (a*b).val)):=by
 have hL:=Loc.nil w;have ha:=a.isLt;have hb:=b.isLt;have hx:a.val*b.val<W2:=by
  have:=Nat.mul_lt_mul_of_lt_of_lt ha hb;exact Nat.lt_of_lt_of_le this Lc
 have hp6:P<2^256:=by decide +kernel
 haveI f1:FnC 298 #[.agg (am a.val),.agg (am b.val)] (.agg (k8 (a.val*b.val))):=⟨nE _ _ (Nat.lt_trans ha hp6) (Nat.lt_trans hb hp6)⟩;have hv:(a*b).val=a.val*b.val%P:=Fin.val_mul a b;rw[hv];generalize hxx:a.val*b.val=x at *
 generalize a.val=n,b.val=m at *
 haveI f2:FnC 300 #[.agg (am (sT x)),.int .u64 (cT x 4:Nat)] (.agg (am (x%P))):=⟨fun w=>by
  have:=tV (sT x%2^256) (cT x 4) (Nat.mod_lt _ (Nat.two_pow_pos _)) (by have:=yA x 4 (Nat.le_refl _);omega) w;rw[BX x hx,GQ,dQ,← BX x hx]at this;exact this⟩
 have z0:=Hd (show cT x 0=0 from by unfold cT;simp[Nat.mod_one]);have z1:=Hd (kz (sT x));have z2:=Hd (kA (sT x));generalize hr:x%P=r at *
 clear ha hb hp6 hx hv hr hxx;go_enter func272,ntmps272;go_wp2_with (first|(refine gBp 2 ?_;clear hL;intro b2 w1 hL)|(refine gBp 3 ?_;clear hL;intro b3 w1 hL)|(refine gBp 4 ?_;clear hL;intro b4 w1 hL)|(refine gBp 5 ?_;clear hL;intro b5 w1 hL)|(refine gBp 6 ?_;clear hL;intro b6 w1 hL)|(refine aQq ?_;clear hL;intro _ w1 hL));go_loopw [7,15] (fun c kk wr=>∃k:Nat,k≤4∧kk= .int .i64 k∧c= .int .u64 (cT x k:Nat)∧Loc w wr [(b6,m8 (sT x) k,311),(b5,k8 x,261),(b4,am 0,311),(b3,am m,311),(b2,am n,311)]) (fun _ kk _=>4-(intOf kk).toNat);case atStart=>exact⟨0,by omega,rfl,by rw[z0.out];rfl,by rw[z1.out];exact hL⟩
 case round =>
  clear hL;obtain⟨k,hk,rfl,rfl,hL⟩:=hrel;by_cases hlt:k<4
  ·have hk0:(0:Int)≤(k:Int):=by omega
   have hk1:(k:Int)<4:=by omega
   have hy:=dn x (k+4);have hdl:=dn x k;have hcl:=yA x k hk;have hlo:=GP x hlt;have hhi:=yz x k hlt;have hst:=kB (sT x) k;obtain⟨q1,q2⟩:=EU (lw x (k+4)*38) (lw x k) (cT x k);rw[← hlo]at q1;rw[← hhi]at q2;haveI g1:Cell (k8 x) (k+4) (.int .u64 (lw x (k+4):Nat)):=aI _ (by omega);haveI g2:Cell (k8 x) k (.int .u64 (lw x k:Nat)):=aI _ (by omega);haveI g4:Put (m8 (sT x) k) k (.int .u64 (lw (sT x) k:Nat)) (m8 (sT x) (k+1)):=a9 hlt hst;haveI g5:FnC 144 #[.int .u64 (lw x (k+4):Nat),.int .u64 38] (.tuple #[.int .u64 ((lw x (k+4)*38/18446744073709551616:Nat):Int),.int .u64 ((lw x (k+4)*38%18446744073709551616:Nat):Int)]):=⟨gP _ 38 hy (by omega)⟩;have a1:=fE (lw x (k+4)*38%18446744073709551616) (cT x k) 0 (by omega);have a2:=fE ((lw x (k+4)*38%18446744073709551616+cT x k)%18446744073709551616) (lw x k) 0 (by omega);simp only[Nat.add_zero]at a1 a2;rw[q1]at a2;have hc':=yA x (k+1) (by omega);generalize hp:lw x (k+4)*38=p,lw (sT x) k=lo2 at *
   generalize hcc:cT x (k+1)=c',lw x k=d,cT x k=c at *
   generalize hh:p/18446744073709551616=hi64 at *
   generalize hlo0:p%18446744073709551616=lo at *
   generalize hx1:(lo+c)/18446744073709551616=x1 at *
   generalize hlo1:(lo+c)%18446744073709551616=lo1 at *
   generalize hx2:(lo1+d)/18446744073709551616=x2 at *
   have w1':IntKind.u64.wrap ((hi64:Int)+(x1:Int))=((hi64+x1:Nat):Int):=by rw[IntKind.wrap_u64];omega
   have w2':IntKind.u64.wrap (((hi64+x1:Nat):Int)+(x2:Int))=(c':Int):=by rw[IntKind.wrap_u64];omega
   have hk4:(k:Int)+4=((k+4:Nat):Int):=by omega
   generalize hij:k+4=k4,hi64+x1=h1 at *
   have hk8:(k4:Int)<8:=by omega
   have hk80:(0:Int)≤(k4:Int):=by omega
   have hkk:(k:Int)<8:=by omega
   have a1:∀w,(callFunc 299 #[.int .u64 (lo:Int),.int .u64 (c:Int),.int .u64 0]).run prog w=_:=a1;have a2:∀w,(callFunc 299 #[.int .u64 (lo1:Int),.int .u64 (d:Int),.int .u64 0]).run prog w=_:=a2;have HC:=Hd hcc;clear hcc hy hdl hcl hlo hhi hst q1 q2 hp hh hlo0 hx1 hlo1 hx2 hij z0 z1 z2 hc';go_wp2_with (first|(refine aQq ?_;clear hL;intro _ w1 hL));go_roundw;case rel=>exact⟨k+1,by omega,by go_num,by rw[HC.out],hL⟩
   case measure=>simp[intOf];omega
  ·obtain rfl:k=4:=by omega
   rw[z2.out]at hL;go_wp2_with (first|(refine aQq ?_;clear hL;intro _ w1 hL));exact bodyPost_ret (ai rfl hL rfl) rfl ⟨rfl,hL.bel⟩
instance KL:Ent 272:=eo func272
instance KM(a b:F):FnC 272 #[.agg (am a.val),.agg (am b.val)] (.agg (am (a*b).val)):=⟨qP a b⟩
end
section
open Go.RowKit
theorem EV(n k:Nat):bits .and .u64 ((lw n (k/64):Int)/2^(k%64)) 1=((n/2^k%2:Nat):Int):=by
 have hx:=dn n (k/64);have e:((lw n (k/64):Int)/2^(k%64))=((lw n (k/64)/2^(k%64):Nat):Int):=by norm_cast
 have hb:=bits_and_u64_nat (lw n (k/64)/2^(k%64)) 1 (Nat.lt_of_le_of_lt (Nat.div_le_self _ _) hx) (by omega);rw[e];refine(show _=_ from hb).trans ?_;congr 1;rw[Nat.and_one_is_mod];unfold lw;have hr:k%64<64:=Nat.mod_lt _ (by omega);have h64:(18446744073709551616:Nat)=2^(k%64)*2^(64-k%64):=by rw[← Nat.pow_add,show k%64+(64-k%64)=64 from by omega]
 rw[h64,Nat.mod_mul_right_div_self,Nat.mod_mod_of_dvd _ (Nat.dvd_trans (by decide:2∣2^1) (Nat.pow_dvd_pow 2 (by omega))),Nat.div_div_eq_div_mul,← Nat.pow_add,Nat.div_add_mod]
theorem nF(n k:Nat)(hk:k<256)(w:World):Rt 283 #[.agg (am n),.int .i64 k] w (.int .u64 (n/2^k%2:Nat)):=by
 have hL:=Loc.nil w;obtain⟨q,hq⟩:∃q,q=k/64:=⟨_,rfl⟩;obtain⟨r,hr⟩:∃r,r=k%64:=⟨_,rfl⟩;haveI g1:Cell (am n) q (.int .u64 (lw n q:Nat)):=aI _ (by omega);have e1:(k:Int)/64=(q:Int):=by omega
 have e2:(k:Int)%64=(r:Int):=by omega
 have e3:(k:Int).tdiv 64=(q:Int):=by rw[Int.tdiv_eq_ediv_of_nonneg (by omega)];omega
 have e4:(k:Int).tmod 64=(r:Int):=by rw[Int.tmod_eq_emod_of_nonneg (by omega)];omega
 have hq0:(0:Int)≤(q:Int):=by omega
 have hq1:(q:Int)<4:=by omega
 have hr0:(0:Int)≤(r:Int):=by omega
 have hr1:(r:Int)<64:=by omega
 have HQ:=Hd hq;have HR:=Hd hr;clear hq hr;go_enter func283,ntmps283;go_wp2_with (first|(refine gBp 2 ?_;clear hL;intro b2 w1 hL)|(refine aQq ?_;clear hL;intro _ w1 hL));rw[HQ.out,HR.out,EV];go_ret;exact⟨rfl,hL.bel⟩
instance Ld:Ent 283:=eo func283
theorem it(a E p:Nat)(h:0<E):(a+E*p)/E=a/E+p:=Nat.add_mul_div_left a p h
def leK(f:Nat→BitVec 8):Nat→Nat
 | 0=>0
 | k+1=>leK f k+(f k).toNat*2^(8*k)
def leN(f:Nat→BitVec 8):Nat:=leK f 32
theorem df(f:Nat→BitVec 8):∀k,leK f k<2^(8*k)
 | 0=>by simp[leK]
 | k+1=>by
  have h:=df f k;have hb:=(f k).isLt;show leK f k+(f k).toNat*2^(8*k)<_;rw[Nat.mul_succ,Nat.pow_add];have:(f k).toNat*2^(8*k)≤255*2^(8*k):=Nat.mul_le_mul_right _ (by omega);have:2^(8*k)*2^8=256*2^(8*k):=by rw[Nat.mul_comm]
  omega
theorem fh(f:Nat→BitVec 8):leN f<2^256:=df f 32
theorem oa(f:Nat→BitVec 8)(k:Nat):leK f (k+1)=leK f k+2^(64*(k/8))*((f k).toNat*2^(8*(k%8))):=by
 show leK f k+(f k).toNat*2^(8*k)=_;rw[show 8*k=64*(k/8)+8*(k%8)from by omega,Nat.pow_add];grind
theorem GR(f:Nat→BitVec 8)(k:Nat):lw (leK f k) (k/8)|||(f k).toNat*2^(8*(k%8))=lw (leK f (k+1)) (k/8)∧(f k).toNat*2^(8*(k%8))<18446744073709551616:=by
 have hy:leK f k/2^(64*(k/8))<2^(8*(k%8)):=by
  rw[Nat.div_lt_iff_lt_mul (Nat.two_pow_pos _),← Nat.pow_add,show 8*(k%8)+64*(k/8)=8*k from by omega];exact df f k
 have hb:=(f k).isLt;have hs:2^(8*(k%8))*256≤18446744073709551616:=by
  have:2^(8*(k%8))*2^8≤2^64:=by rw[← Nat.pow_add];exact Nat.pow_le_pow_right (by omega) (by omega)
  exact this
 unfold lw;rw[oa,it _ _ _ (Nat.two_pow_pos _)];generalize leK f k/2^(64*(k/8))=y at *
 have e:(f k).toNat*2^(8*(k%8))≤255*2^(8*(k%8)):=Nat.mul_le_mul_right _ (by omega);have h:=Nat.shiftLeft_add_eq_or_of_lt hy (f k).toNat
 rw[Nat.shiftLeft_eq]at h;generalize(f k).toNat*2^(8*(k%8))=z,2^(8*(k%8))=E at *
 refine⟨?_,by omega⟩;rw[Nat.mod_eq_of_lt (by omega),Nat.mod_eq_of_lt (by omega),Nat.or_comm,← h,Nat.add_comm]
theorem EW(f:Nat→BitVec 8){k:Nat}(hk:k<32):row 4 (upd (lv (leK f k)) (k/8) (.int .u64 (lw (leK f (k+1)) (k/8):Nat)))=am (leK f (k+1)):=ak fun p hp=>by
 unfold upd;by_cases e:p=k/8
 ·subst e;rw[if_pos rfl];rfl
 ·rw[if_neg e]
  have:lw (leK f k) p=lw (leK f (k+1)) p:=by
   rcases Nat.lt_or_ge p (k/8)with h|h
   ·obtain⟨d,hd⟩:∃d,k/8=p+1+d:=⟨k/8-(p+1),by omega⟩
    unfold lw;rw[oa,hd,Nat.mul_add,Nat.pow_add,Nat.mul_succ,Nat.pow_add,Nat.mul_assoc,Nat.mul_assoc,it _ _ _ (Nat.two_pow_pos _)];exact(Nat.add_mul_mod_self_left _ _ _).symm
   ·have h1:leK f k<2^(64*p):=Nat.lt_of_lt_of_le (df f k) (Nat.pow_le_pow_right (by omega) (by omega))
    have h2:leK f (k+1)<2^(64*p):=Nat.lt_of_lt_of_le (df f (k+1)) (Nat.pow_le_pow_right (by omega) (by omega));unfold lw;rw[Nat.div_eq_of_lt h1,Nat.div_eq_of_lt h2]
  unfold lv;rw[this]
theorem yB(f:Nat→BitVec 8)(k:Nat):bits .or .u64 (lw (leK f k) (k/8):Int) (IntKind.u64.wrap (B8 (f k)*2^(8*(k%8))))=(lw (leK f (k+1)) (k/8):Nat):=by
 obtain⟨h1,h2⟩:=GR f k;have e:B8 (f k)*2^(8*(k%8))=(((f k).toNat*2^(8*(k%8)):Nat):Int):=by unfold B8;norm_cast
 rw[e,IntKind.wrap_u64,show(((f k).toNat*2^(8*(k%8)):Nat):Int)%18446744073709551616=(((f k).toNat*2^(8*(k%8)):Nat):Int)from by omega];have:=bits_or_u64_nat (lw (leK f k) (k/8)) ((f k).toNat*2^(8*(k%8))) (dn _ _) h2;rw[h1]at this;exact this
theorem Af(f:Nat→BitVec 8){k:Nat}(h:k<32)(w:World):(Instr.index 24 (.agg (aa 32 f)) (.int .i64 k)).run prog w= .ok (.int .u8 (B8 (f k))) w :=
 gG (fun i=>Value.int .u8 (B8 (f i))) underlying24 (e:=5) (by kernel_rfl) (fun w=>by kernel_rfl) h w
theorem BY(f:Nat→BitVec 8)(w:World):Rt 270 #[.agg (aa 32 f)] w (.agg (am (leN f))):=by
 have hL:=Loc.nil w;go_enter func270,ntmps270;go_wp2_with (first|(refine gBp 1 ?_;clear hL;intro b1 w1 hL)|(refine gBp 2 ?_;clear hL;intro b2 w1 hL)|(refine gBp 3 ?_;clear hL;intro b3 w1 hL)|(refine aQq ?_;clear hL;intro _ w1 hL));go_loopw [7] (fun kk wr=>∃k:Nat,k≤32∧kk= .int .i64 k∧Loc w wr [(b3,am (leK f k),311),(b2,am 0,311),(b1,aa 32 f,24)]) (fun kk _=>32-(intOf kk).toNat);case atStart=>exact⟨0,by omega,rfl,hL⟩
 case round =>
  clear hL;obtain⟨k,hk,rfl,hL⟩:=hrel;by_cases hlt:k<32
  ·have hk0:(0:Int)≤(k:Int):=by omega
   have hk1:(k:Int)<32:=by omega
   haveI g1:Cell (am (leK f k)) (k/8) (.int .u64 (lw (leK f k) (k/8):Nat)):=aI _ (by omega);have e1:(k:Int)/8=((k/8:Nat):Int):=by omega
   have e2:(k:Int)%8=((k%8:Nat):Int):=by omega
   have hq1:((k/8:Nat):Int)<4:=by omega
   have hr1:((k%8:Nat):Int)<8:=by omega
   have hi:∀w,(Instr.index 24 (.agg (aa 32 f)) (.int .i64 k)).run prog w= .ok (.int .u8 (B8 (f k))) w:=fun w=>Af f hlt w;haveI g2:Put (am (leK f k)) (k/8) (.int .u64 (lw (leK f (k+1)) (k/8):Nat)) (am (leK f (k+1))):=a9 (by omega) (EW f hlt);have hv:=yB f k;have wb:IntKind.u64.wrap (B8 (f k))=B8 (f k):=by have:=bK (f k);rw[IntKind.wrap_u64];omega
   have hm:min (8*(k%8)) 64=8*(k%8):=by omega
   generalize k/8=q,k%8=r at *
   obtain⟨v0,v1⟩:=bK (f k);have wq:IntKind.i64.wrap (q:Int)=(q:Int):=IntWalk.i64_in _ (by omega);have wr':IntKind.i64.wrap (r:Int)=(r:Int):=IntWalk.i64_in _ (by omega);have ws:IntKind.i64.wrap (8*(r:Int))=((8*r:Nat):Int):=IntWalk.i64_in _ (by omega);have e3:(k:Int).tdiv 8=(q:Int):=by rw[Int.tdiv_eq_ediv_of_nonneg (by omega)];omega
   have e4:(k:Int).tmod 8=(r:Int):=by rw[Int.tmod_eq_emod_of_nonneg (by omega)];omega
   have hq0:(0:Int)≤(q:Int):=by omega
   have hs0:(0:Int)≤((8*r:Nat):Int):=by omega
   generalize 8*r=s at *
   go_wp2_with fail;refine wf [(0,true),(1,true),(2,true),(3,false),(4,true),(5,true),(6,true),(7,true),(8,true),(9,true),(10,true),(11,true)] [] [12] hL ?_;refine fA ?_;refine fB ?_;clear hL;intro w1 hL;go_wp2_with fail;go_roundw;case rel=>exact⟨k+1,by omega,by go_num,hL⟩
   case measure=>simp[intOf];omega
  ·obtain rfl:k=32:=by omega
   go_wp2_with (first|(refine aQq ?_;clear hL;intro _ w1 hL));exact bodyPost_ret (ai rfl hL rfl) rfl ⟨rfl,hL.bel⟩
instance Le:Ent 270:=eo func270
instance Lf(f:Nat→BitVec 8):FnC 270 #[.agg (aa 32 f)] (.agg (am (leN f))):=⟨BY f⟩
def ab(n:Nat):Nat→BitVec 8:=fun i=>BitVec.ofNat 8 (n/2^(8*i))
def ki(n k:Nat):Nat→BitVec 8:=fun i=>if i<k then ab n i else 0
theorem wM(n:Nat):ki n 0=fun _=>0:=funext fun i=>by unfold ki;rw[if_neg (by omega)]
theorem wN(n:Nat):aa 32 (ki n 32)=aa 32 (ab n):=ak fun i hi=>by unfold ki;rw[if_pos hi]
theorem wO(n k:Nat):row 32 (upd (fun i=>Value.int .u8 (B8 (ki n k i))) k (.int .u8 (B8 (ab n k))))=aa 32 (ki n (k+1)):=ak fun i _=>by
 unfold upd ki;by_cases e:i=k
 ·subst e;rw[if_pos rfl,if_pos (by omega)]
 ·rw[if_neg e]
  show Value.int .u8 (B8 (if i<k then ab n i else 0))=_;by_cases h:i<k
  ·rw[if_pos h,if_pos (by omega)]
  ·rw[if_neg h,if_neg (by omega)]
theorem EX(n k:Nat)(h:k<32):lw n (k/8)/2^(8*(k%8))%256=n/2^(8*k)%256:=by
 unfold lw;have h64:(18446744073709551616:Nat)=2^(8*(k%8))*(256*2^(56-8*(k%8))):=by
  rw[show(256:Nat)=2^8 from rfl,← Nat.pow_add,← Nat.pow_add,show 8*(k%8)+(8+(56-8*(k%8)))=64 from by omega]
 rw[h64,Nat.mod_mul_right_div_self,Nat.mod_mul_right_mod,Nat.div_div_eq_div_mul,← Nat.pow_add,show 64*(k/8)+8*(k%8)=8*k from by omega]
theorem Ag(n k:Nat)(h:k<32):(lw n (k/8):Int)/2^(8*(k%8))%256=B8 (ab n k):=by
 unfold B8 ab;rw[BitVec.toNat_ofNat,show 2^8=256 from rfl,← EX n k h];generalize lw n (k/8)=x;generalize 8*(k%8)=s;rw[Int.natCast_emod,Int.natCast_ediv,Int.natCast_pow];rfl
theorem yC(n:Nat)(w:World):Rt 284 #[.agg (am n)] w (.agg (aa 32 (ab n))):=by
 have hL:=Loc.nil w;have HF:=Hd (wN n);have HZ:=Hd (wM n);go_enter func284,ntmps284;go_wp2_with (first|(refine gBp 1 ?_;clear hL;intro b1 w1 hL)|(refine gBp 2 ?_;clear hL;intro b2 w1 hL)|(refine gBp 3 ?_;clear hL;intro b3 w1 hL)|(refine aQq ?_;clear hL;intro _ w1 hL));go_loopw [5] (fun kk wr=>∃k:Nat,k≤32∧kk= .int .i64 k∧Loc w wr [(b3,aa 32 (ki n k),24),(b2,aa 32 fun _=>0,24),(b1,am n,311)]) (fun kk _=>32-(intOf kk).toNat);case atStart=>exact⟨0,by omega,rfl,by rw[HZ.out];exact hL⟩
 case round =>
  clear hL;obtain⟨k,hk,rfl,hL⟩:=hrel;by_cases hlt:k<32
  ·have hk0:(0:Int)≤(k:Int):=by omega
   have hk1:(k:Int)<32:=by omega
   haveI g1:Cell (am n) (k/8) (.int .u64 (lw n (k/8):Nat)):=aI _ (by omega);haveI g2:Put (aa 32 (ki n k)) k (.int .u8 ((lw n (k/8):Int)/2^(8*(k%8))%256)) (aa 32 (ki n (k+1))):=a9 hlt (by rw[Ag n k hlt];exact wO n k);have e1:(k:Int)/8=((k/8:Nat):Int):=by omega
   have e2:(k:Int)%8=((k%8:Nat):Int):=by omega
   have hq1:((k/8:Nat):Int)<4:=by omega
   have hr1:((k%8:Nat):Int)<8:=by omega
   have e3:8*((k%8:Nat):Int)=((8*(k%8):Nat):Int):=by omega
   generalize k/8=q,8*(k%8)=s at *
   generalize k%8=r at *
   go_wp2_with (first|(refine aQq ?_;clear hL;intro _ w1 hL));go_roundw;case rel=>exact⟨k+1,by omega,by go_num,hL⟩
   case measure=>simp[intOf];omega
  ·obtain rfl:k=32:=by omega
   rw[HF.out]at hL;go_wp2_with (first|(refine aQq ?_;clear hL;intro _ w1 hL));exact bodyPost_ret (ai rfl hL rfl) rfl ⟨rfl,hL.bel⟩
instance Lg:Ent 284:=eo func284
instance Lh(n:Nat):FnC 284 #[.agg (am n)] (.agg (aa 32 (ab n))):=⟨yC n⟩
theorem BZ(n m:Nat)(hn:n<2^256)(hm:m<2^256)(w:World):Rt 278 #[.agg (am n),.agg (am m)] w (.bool (decide (n<m))):=by
 have hL:=Loc.nil w;have hs:=fy n m hn hm;have hb:bw n m 4=if n<m then 1 else 0:=by
  unfold bw;rw[show 64*4=256 from rfl,Nat.mod_eq_of_lt hn,Nat.mod_eq_of_lt hm]
 generalize n+2^256-m=d at *
 by_cases h:n<m
 ·rw[if_pos h]at hb
  rw[hb]at hs;haveI f1:FnC 296 #[.agg (am n),.agg (am m)] (.tuple #[.agg (am d),.int .u64 1]):=⟨hs⟩;rw[decide_eq_true h];clear hs hb h hn hm;go_enter func278,ntmps278;go_wp2_with (first|(refine aQq ?_;clear hL;intro _ w1 hL));go_ret;exact⟨rfl,hL.bel⟩
 ·rw[if_neg h]at hb
  rw[hb]at hs;haveI f1:FnC 296 #[.agg (am n),.agg (am m)] (.tuple #[.agg (am d),.int .u64 0]):=⟨hs⟩;rw[decide_eq_false h];clear hs hb h hn hm;go_enter func278,ntmps278;go_wp2_with (first|(refine aQq ?_;clear hL;intro _ w1 hL));go_ret;exact⟨rfl,hL.bel⟩
instance Li:Ent 278:=eo func278
end
section
noncomputable def cQ:Nat→Pt→Pt
 | 0,_=>pO
 | n+1,p=>cu (cQ n p) p
theorem fj{p:Pt}(h:On p):∀n,On (cQ n p)
 | 0=>La
 | n+1=>r9 (fj h n) h
theorem fS{p:Pt}(h:On p)(m:Nat):∀n,cQ (m+n) p=cu (cQ m p) (cQ n p)
 | 0=>(sa _).symm
 | n+1=>by
  show cu (cQ (m+n) p) p=cu (cQ m p) (cu (cQ n p) p);rw[fS h m n,n7 (fj h m) (fj h n) h]
theorem tX(p:Pt):cQ 1 p=p:=BR p
theorem B0:∀n,cQ n pO=pO
 | 0=>rfl
 | n+1=>by show cu (cQ n pO) pO=pO;rw[B0 n,sa]
theorem oc{p:Pt}(h:On p)(m:Nat):∀n,cQ (n*m) p=cQ n (cQ m p)
 | 0=>by rw[Nat.zero_mul];rfl
 | n+1=>by rw[Nat.succ_mul,fS h,oc h m n];rfl
theorem B4{p:Pt}(h:On p){q:Nat}(hq:cQ q p=pO)(n:Nat):cQ (n%q) p=cQ n p:=by
 have e:cQ (q*(n/q)+n%q) p=cQ (n%q) p:=by
  rw[fS h,Nat.mul_comm,oc h,hq,B0,BR]
 rw[Nat.div_add_mod]at e;exact e.symm
structure Ex where
 x:F
 y:F
 z:F
 t:F
def Rep(e:Ex)(p:Pt):Prop:=e.z≠0∧e.x=p.x*e.z∧e.y=p.y*e.z∧e.t=p.x*p.y*e.z
def cZ(p q:Ex):Ex :=
 let a:=(p.y-p.x)*(q.y-q.x)
 let b:=(p.y+p.x)*(q.y+q.x)
 let c:=p.t*(dF+dF)*q.t
 let z:=p.z*(q.z+q.z)
 ⟨(b-a)*(z-c),(z+c)*(b+a),(z-c)*(z+c),(b-a)*(b+a)⟩
def exO:Ex:=⟨0,1,1,0⟩
def ns(p:Pt):Ex:=⟨p.x,p.y,1,p.x*p.y⟩
theorem IT:Rep exO pO:=by
 refine⟨n6,?_,?_,?_⟩ <;> decide +kernel
theorem mD(a:F):a=a*1:=by grind
theorem B5(p:Pt):Rep (ns p) p:=⟨n6,mD _,mD _,mD _⟩
theorem Lj(x1 y1 x2 y2 z1 z2:F):(y1*z1+x1*z1)*(y2*z2+x2*z2)-(y1*z1-x1*z1)*(y2*z2-x2*z2)=2*(z1*z2)*(x1*y2+y1*x2):=by grind
theorem Lk(x1 y1 x2 y2 z1 z2:F):(y1*z1+x1*z1)*(y2*z2+x2*z2)+(y1*z1-x1*z1)*(y2*z2-x2*z2)=2*(z1*z2)*(y1*y2+x1*x2):=by grind
theorem Ll(x1 y1 x2 y2 z1 z2 d:F):z1*(z2+z2)-x1*y1*z1*(d+d)*(x2*y2*z2)=2*(z1*z2)*(1-d*x1*x2*y1*y2):=by grind
theorem Lm(x1 y1 x2 y2 z1 z2 d:F):z1*(z2+z2)+x1*y1*z1*(d+d)*(x2*y2*z2)=2*(z1*z2)*(1+d*x1*x2*y1*y2):=by grind
theorem Ln(X m1 m2 l:F):l*(X*m1)*(l*m2)=X*(l*m2*(l*m1)):=by grind
theorem Lo(Y m1 m2 l:F):l*m1*(l*(Y*m2))=Y*(l*m2*(l*m1)):=by grind
theorem Lp(X Y m1 m2 l:F):l*(X*m1)*(l*(Y*m2))=X*Y*(l*m2*(l*m1)):=by grind
theorem yD{e f:Ex}{p q:Pt}(hp:On p)(hq:On q)(he:Rep e p)(hf:Rep f q):Rep (cZ e f) (cu p q):=by
 obtain⟨x1,y1,z1,t1⟩:=e;obtain⟨x2,y2,z2,t2⟩:=f;obtain⟨n1,a1,b1,c1⟩:=he;obtain⟨n2,a2,b2,c2⟩:=hf;simp only at n1 n2 a1 b1 c1 a2 b2 c2;subst a1 b1 c1 a2 b2 c2;have hx:=kD hp hq;have hy:=fR hp hq;have m1:=gz hp hq;have m2:=dV hp hq;unfold cZ;simp only;rw[Lj,Lk,Ll,Lm,← hx,← hy];have hl:(2:F)*(z1*z2)≠0:=a8 je (a8 n1 n2);generalize(2:F)*(z1*z2)=l at *
 generalize 1+dF*p.x*q.x*p.y*q.y=M1 at *
 generalize 1-dF*p.x*q.x*p.y*q.y=M2 at *
 refine⟨a8 (a8 hl m2) (a8 hl m1),?_,?_,?_⟩
 ·exact Ln _ _ _ _
 ·exact Lo _ _ _ _
 ·exact Lp _ _ _ _ _
def gA(e:Ex)(n:Nat):Nat→Ex
 | 0=>exO
 | k+1=>if n/2^(255-k)%2=1 then cZ (cZ (gA e n k) (gA e n k)) e else cZ (gA e n k) (gA e n k)
theorem tY{e:Ex}{p:Pt}(hp:On p)(he:Rep e p)(n:Nat):∀k,k≤256→n<2^256→Rep (gA e n k) (cQ (n/2^(256-k)) p)
 | 0,_,hn=>by rw[Nat.div_eq_of_lt (by simpa using hn)];exact IT
 | k+1,hk,hn=>by
  have ih:=tY hp he n k (by omega) hn;have e1:n/2^(256-k)=n/2^(255-k)/2:=by rw[Nat.div_div_eq_div_mul,← Nat.pow_succ];congr 2;omega
  rw[e1]at ih;have o1:=fj hp (n/2^(255-k)/2);have i2:=yD o1 o1 ih ih;rw[← fS hp]at i2;show Rep (if n/2^(255-k)%2=1 then _ else _) _;rw[show 256-(k+1)=255-k from by omega];by_cases h:n/2^(255-k)%2=1
  ·rw[if_pos h]
   have:=yD (fj hp _) hp i2 he;rw[show n/2^(255-k)=n/2^(255-k)/2+n/2^(255-k)/2+1 from by omega];exact this
  ·rw[if_neg h]
   have e2:n/2^(255-k)/2+n/2^(255-k)/2=n/2^(255-k):=by omega
   rw[e2]at i2;exact i2
def cp(e:Ex)(n:Nat):Ex:=gA e n 256
theorem qQ{e:Ex}{p:Pt}(hp:On p)(he:Rep e p){n:Nat}(hn:n<2^256):Rep (cp e n) (cQ n p):=by
 have:=tY hp he n 256 (Nat.le_refl _) hn;rw[Nat.sub_self,Nat.pow_zero,Nat.div_one]at this;exact this
def pB:Pt:=⟨fe 15112221349535400772501151409588531511454012693041857206046113283949847762202,fe 46316835694926478169428394003475163141307993866256225615783033603165251855960⟩
theorem qp:On pB:=by unfold On;decide +kernel
def exB:Ex:=ns pB
def Qo:Nat:=7237005577332262213973186563042994240857116359379907606001950938285454250989
theorem Q_prime:Pr Qo:=K8
structure En where
 x:Nat
 y:Nat
 z:Nat
 t:Nat
 deriving DecidableEq
def qq(a b:Nat):Nat:=a*b%P
def se(a b:Nat):Nat:=(a+b)%P
def wP(a b:Nat):Nat:=(P-b+a)%P
def tZ(p q:En):En :=
 let a:=qq (wP p.y p.x) (wP q.y q.x)
 let b:=qq (se p.y p.x) (se q.y q.x)
 let c:=qq (qq p.t (se dF.val dF.val)) q.t
 let z:=qq p.z (se q.z q.z)
 ⟨qq (wP b a) (wP z c),qq (se z c) (se b a),qq (wP z c) (se z c),qq (wP b a) (se b a)⟩
def Ex.en(e:Ex):En:=⟨e.x.val,e.y.val,e.z.val,e.t.val⟩
theorem GS(a b:F):(a*b).val=qq a.val b.val:=Fin.val_mul a b
theorem EY(a b:F):(a+b).val=se a.val b.val:=Fin.val_add a b
theorem GT(a b:F):(a-b).val=wP a.val b.val:=Fin.sub_def a b ▸ rfl
theorem wQ(p q:Ex):(cZ p q).en=tZ p.en q.en:=by
 unfold cZ tZ Ex.en;simp only[GS,EY,GT]
def enB:En:=⟨15112221349535400772501151409588531511454012693041857206046113283949847762202,46316835694926478169428394003475163141307993866256225615783033603165251855960,1,46827403850823179245072216630277197565144205554125654976674165829533817101731⟩
def od(e:En)(n:Nat):Nat→En
 | 0=>⟨0,1,1,0⟩
 | k+1=>match Nat.beq (n/2^(255-k)%2) 1 with
  | true=>tZ (tZ (od e n k) (od e n k)) e
  | false=>tZ (od e n k) (od e n k)
theorem oe(e:Ex)(n:Nat):∀k,(gA e n k).en=od e.en n k
 | 0=>(by decide +kernel:exO.en=⟨0,1,1,0⟩)
 | k+1=>by
  show(if _ then _ else _:Ex).en=_;unfold od;by_cases h:n/2^(255-k)%2=1
  ·rw[if_pos h,wQ,wQ,oe e n k,h]
  ·rw[if_neg h,wQ,oe e n k,show n/2^(255-k)%2=0 from by omega]
theorem wR:(fun e:En=>Nat.beq e.x 0&&Nat.beq e.y e.z) (od enB Qo 256)=true:=by decide +kernel
theorem GU:exB.en=enB:=by decide +kernel
theorem EZ:cQ Qo pB=pO:=by
 have hr:=qQ qp (B5 pB) (n:=Qo) (by decide +kernel);have hc:=wR;rw[← GU,← oe,show gA exB Qo 256=cp (ns pB) Qo from rfl]at hc;obtain⟨h1,h2,h3,_⟩:=hr;generalize cp (ns pB) Qo=e at *
 simp only[Ex.en,Bool.and_eq_true,Nat.beq_eq]at hc;have ex:e.x=0:=Fin.ext hc.1;have ey:e.y=e.z:=Fin.ext hc.2;rw[ex]at h2;rw[ey]at h3;refine Pt.ext' ?_ ?_
 ·rcases fQ h2.symm with h|h
  ·exact h
  ·exact absurd h h1
 ·exact dp h1 (h3.symm.trans (by show e.z=1*e.z;grind))
def enc(p:Pt):Nat:=p.y.val+2^255*(p.x.val%2)
noncomputable def bT(e:Ex):Nat:=(e.y*inv e.z).val+2^255*((e.x*inv e.z).val%2)
theorem Ah{e:Ex}{p:Pt}(h:Rep e p):bT e=enc p:=by
 obtain⟨h1,h2,h3,_⟩:=h;have:=ei h1;unfold bT enc;rw[h2,h3,show p.x*e.z*inv e.z=p.x from by grind,show p.y*e.z*inv e.z=p.y from by grind]
def kF(a x y:F):Option F:=if x*x=a then some x else if y*y=a then some y else none
def bp:Nat:=(P+3)/8
noncomputable def eH(a:F):Option F:=kF a (BM (pw a bp)) (BM (pw a bp)*iF)
theorem la(a:F):eH a=kF a (pw a bp) (pw a bp*iF):=by unfold eH;rw[r6]
theorem B6{a r:F}(h:eH a=some r):r*r=a:=by
 rw[la]at h;unfold kF at h;generalize pw a bp=x at h;by_cases h1:x*x=a
 ·rw[if_pos h1]at h;cases h;exact h1
 ·rw[if_neg h1]at h
  by_cases h2:x*iF*(x*iF)=a
  ·rw[if_pos h2]at h;cases h;exact h2
  ·rw[if_neg h2]at h;cases h
theorem B7(x:F):∃r,eH (x*x)=some r:=by
 have key:pw (x*x) (bp)*pw (x*x) (bp)=x*x∨pw (x*x) (bp)*pw (x*x) (bp)= -(x*x):=by
  by_cases hx:x=0
  ·left
   subst hx;rw[show(0:F)*0=0 from by grind,k6 _ (by decide +kernel)];grind
  ·have e1:pw (x*x) (bp)*pw (x*x) (bp)=x*x*pw x ((P-1)/2):=by
    rw[← mw,show bp+bp=1+(P-1)/4 from by decide +kernel,mw,show(P-1)/2=2*((P-1)/4)from by decide +kernel,wK];have:pw x 2=x*x:=by show 1*x*x=_;grind
    rw[this];have:pw (x*x) 1=x*x:=by show 1*(x*x)=_;grind
    rw[this]
   have e2:pw x ((P-1)/2)*pw x ((P-1)/2)=1:=by
    rw[← mw,show(P-1)/2+(P-1)/2=P-1 from by decide +kernel];exact nY hx
   rw[e1];generalize pw x ((P-1)/2)=s at *
   have:(s-1)*(s+1)=0:=by grind
   rcases fQ this with h|h
   ·left;grind
   ·right;grind
 rw[la];unfold kF;have hi:=IM;rcases key with h|h
 ·exact⟨_,if_pos h⟩
 ·by_cases h0:pw (x*x) (bp)*pw (x*x) (bp)=x*x
  ·exact⟨_,if_pos h0⟩
  ·refine⟨_,(if_neg h0).trans (if_pos ?_)⟩
   generalize pw (x*x) (bp)=y at *
   grind
noncomputable def bF(n:Nat):Option Ex :=
 if n%2^255<P then
  let y:=fe (n%2^255)
  match eH ((y*y-1)*inv (dF*(y*y)+1))with
  | none=>none
  | some x =>
   if x=0∧n/2^255%2=1 then none
   else if x.val%2=n/2^255%2 then some ⟨x,y,1,x*y⟩else some ⟨-x,y,1,-x*y⟩
 else none
theorem B9(y:F):dF*(y*y)+1≠0:=by
 intro h;by_cases hy:y=0
 ·rw[hy,Fin.mul_zero,Fin.mul_zero]at h
  exact absurd h (by decide +kernel)
 ·have hn:=BQ (u:=1) (v:=y) (by grind)
  exact hy hn
theorem E9{x:F}(h:x≠0):(-x).val=P-x.val:=by
 have h1:x.val≠0:=fun e=>h (Fin.ext e);have:(-x).val=(P-x.val)%P:=rfl;rw[this,Nat.mod_eq_of_lt (by have:=x.isLt;omega)]
theorem IU:P%2=1:=by decide +kernel
theorem Ca{p:Pt}(h:On p):bF (enc p)=some (ns p):=by
 obtain⟨x,y⟩:=p;have hP:P<2^255:=by decide +kernel
 have hy:=y.isLt;have e1:enc ⟨x,y⟩%2^255=y.val:=by
  unfold enc;simp only;rw[Nat.add_mul_mod_self_left];exact Nat.mod_eq_of_lt (by omega)
 have e2:enc ⟨x,y⟩/2^255%2=x.val%2:=by
  unfold enc;simp only;rw[Nat.add_mul_div_left _ _ (Nat.two_pow_pos _),Nat.div_eq_of_lt (by omega)];omega
 unfold bF;rw[e1,e2,if_pos hy,eN];simp only;have hd:=B9 y;have hu:(y*y-1)*inv (dF*(y*y)+1)=x*x:=by
  refine(nZ hd ?_).symm;unfold On at h;simp only at h;grind
 rw[hu];obtain⟨r,hr⟩:=B7 x;have hs:=B6 hr;rw[hr];simp only;have hpm:r=x∨r= -x:=by
  have:(r-x)*(r+x)=0:=by grind
  rcases fQ this with h|h
  ·left;grind
  ·right;grind
 unfold ns;simp only;by_cases hx:x=0
 ·have hr0:r=0:=by
   rcases hpm with e|e
   ·rw[e,hx]
   ·rw[e,hx];grind
  subst hx hr0;rw[if_neg (by rintro⟨_,h⟩;exact absurd h (by decide +kernel)),if_pos rfl]
 ·have hr0:r≠0:=by
   rcases hpm with e|e
   ·rw[e];exact hx
   ·rw[e];intro h0;exact hx (by grind)
  rw[if_neg (fun h=>hr0 h.1)];rcases hpm with e|e
  ·subst e;rw[if_pos rfl]
  ·rw[if_neg]
   ·rw[e,show - -x=x from by grind]
   ·rw[e,E9 hx]
    have:=IU;have:=x.isLt;omega
end
section
open Go.RowKit
def BRow(w:World)(v:Value)(l:List (BitVec 8)):Prop :=
 ∃a c,v= .slice a l.length c∧(a=none→c=0)∧(0<l.length→∃b off,a=some ⟨b,off,none⟩∧b<w.heap.size∧∀(i:Nat) (h:i<l.length),w.cell? ⟨b,off+i,none⟩=some (.int .u8 (B8 l[i])))
def BRows(w:World)(v:Value)(l:List (List (BitVec 8))):Prop :=
 ∃a c,v= .slice a l.length c∧(a=none→c=0)∧(0<l.length→∃b off,a=some ⟨b,off,none⟩∧b<w.heap.size∧∀(i:Nat) (h:i<l.length),∃vi,w.cell? ⟨b,off+i,none⟩=some vi∧BRow w vi l[i])
theorem BRow.below{w w':World}{v:Value}{l:List (BitVec 8)}(h:BRow w v l)(hb:Below w.heap.size w w'):BRow w' v l:=by
 obtain⟨a,c,rfl,hn,h⟩:=h;refine⟨a,c,rfl,hn,fun h0=>?_⟩;obtain⟨b,off,rfl,h1,h2⟩:=h h0;exact⟨b,off,rfl,Nat.lt_of_lt_of_le h1 hb.size,fun i hi=>(hb.cell (p:=⟨b,off+i,none⟩) h1).trans (h2 i hi)⟩
theorem BRows.below{w w':World}{v:Value}{l:List (List (BitVec 8))}(h:BRows w v l)(hb:Below w.heap.size w w'):BRows w' v l:=by
 obtain⟨a,c,rfl,hn,h⟩:=h;refine⟨a,c,rfl,hn,fun h0=>?_⟩;obtain⟨b,off,rfl,h1,h2⟩:=h h0;exact⟨b,off,rfl,Nat.lt_of_lt_of_le h1 hb.size,fun i hi=>let ⟨vi,e,r⟩:=h2 i hi;⟨vi,(hb.cell (p:=⟨b,off+i,none⟩) h1).trans e,r.below hb⟩⟩
def an(l:List (BitVec 8)):List Value:=l.map fun x=> .int .u8 (B8 x)
def OwnB(w:World)(base:Nat)(v:Value)(l:List (BitVec 8)):Prop:=w.ownsRow base 5 1 v l.length (an l)
theorem OwnB.brow{w:World}{base:Nat}{v:Value}{l:List (BitVec 8)}(h:OwnB w base v l):BRow w v l:=by
 rcases h.2 with⟨rfl,h0⟩|⟨g,cap,cur,rfl,_,hg,_,_,_,htake⟩
 ·exact⟨none,0,by rw[h0],fun _=>rfl,fun hp=>by omega⟩
 ·refine⟨_,cap,rfl,(fun hc=>by cases hc),fun _=>⟨g,0,rfl,(Array.getElem?_eq_some_iff.1 hg).1,fun i hi=>?_⟩⟩
  have hc:=World.ownsRow.cells h (g:=g) rfl i (.int .u8 (B8 l[i])) (by simp[an,hi]);have hadd:(⟨g,0,none⟩:Addr).add i=⟨g,0+i,none⟩:=by unfold Addr.add;split <;> simp_all
  rw[hadd]at hc;exact hc
theorem sf:(prog.info? 5).map (fun i=>(i.zero,i.size,i.bytes))=some (some (.int .u8 0),1,1):=by kernel_rfl
theorem bv{ops:Array Oper}{rest:List Oper}{o:Oper}{a:Act}{w:World}{Q:Exit→Act→World→Prop}(hgd:o.guard=none)(s x:Operand)(ho:o.op= .call { callee:= .builtin .append,args:= #[s,x],argTypes:= #[29,29] })(base:Nat)(v:Value)(xs l:List (BitVec 8))(hs:a.eval s=v)(hown:OwnB w base v xs)(hx:BRow w (a.eval x) l)(hsz:xs.length+l.length≤100000000000)(hbase:base≤w.heap.size)(h:∀v' w',OwnB w' base v' (xs++l)→w.grownBy w' v.ownBlock→wpList prog ops Q rest (a.put o.dst v') w'):wpList prog ops Q (o::rest) a w:=by
 obtain⟨i0,hi0,hz0,hz1,hz2⟩:=info_parts sf;obtain⟨ad,c,e,hn,hp⟩:=hx;cases ad with
 | none =>
  have hl:l=[]:=by
   rcases Nat.eq_zero_or_pos l.length with h0|h0
   ·exact List.eq_nil_of_length_eq_zero h0
   ·obtain⟨_,_,hc,_⟩:=hp h0;cases hc
  subst hl;rw[hn rfl]at e;refine wpList_append_own_none hgd s x 29 ho base 5 i0 1 underlying29 hi0 v _ _ hs hown e ?_;exact h v w (by rw[List.append_nil];exact hown) (cq _ _)
 | some ad =>
  refine wpList_append_own w hgd s x 29 ho base 5 i0 _ 1 1 underlying29 hi0 hz0 hz1 hz2 rfl (by decide) v xs.length (an xs) hs hown ad l.length c (an l) e (by simp[an]) ?_ ?_ (by unfold maxLen;omega) (by omega) hbase ?_
  ·intro j u hj
   have hjl:j<l.length:=by
    rcases Nat.lt_or_ge j l.length with h|h
    ·exact h
    ·rw[List.getElem?_eq_none (by simp[an];exact h)]at hj;cases hj
   obtain⟨b,off,hc,_,hcell⟩:=hp (by omega);cases hc
   rw[Addr.add_mid,hcell j hjl];simpa[an,hjl] using hj
  ·intro u hu
   obtain⟨y,_,rfl⟩:=List.mem_map.1 hu;rfl
  ·intro v' w' h1 h2 _
   refine h v' w' ?_ h2;unfold OwnB an;rw[List.length_append,List.map_append];exact h1
end
section
open Go.RowKit
def eqN(n:Nat)(f g:Nat→Int):Bool:=(List.range n).all fun i=>f i==g i
theorem yE{n:Nat}{f g:Nat→Int}:eqN n f g=true↔∀i,i<n→f i=g i:=by simp[eqN]
section
variable {P:Program}
theorem nt{t e:TypeId}{n d:Nat}{k:IntKind}(f g:Nat→Int)(ht:P.underlying t=some (.array n e))(hs:(P.info? e).map (·.size)=some 1)(he:P.underlying e=some (.int k))(hr:∀w,(isAgg e).run P w= .ok false w)(w:World) :
 (Op.equalIn (d+2) t (.agg (row n fun i=> .int k (f i))) (.agg (row n fun i=> .int k (g i)))).run P w= .ok (eqN n f g) w:=by
 cases hi:P.info? e with
 | none=>rw[hi]at hs;cases hs
 | some i =>
  have hs:i.size=1:=by simpa[hi] using hs
  have hp:∀(S:Nat→Value) (j:Nat),j<n→∀w,(part e (row n S) j).run P w= .ok (S j) w:=by
   intro S j hj w;simp only[part,Sem.run_bind,hr,Result.andThen_ok,Bool.false_eq_true,if_false,bI S hj,Sem.run_pure]
  rw[Op.equalIn];simp only[Sem.run_bind,run_underlying ht,Result.andThen_ok,sizeOf,run_typeInfo _ hi,Sem.run_pure,hs,Nat.mul_one];rw[Std.Legacy.Range.forIn_eq_forIn_range'];simp only[Std.Legacy.Range.size,Nat.sub_zero,Nat.div_one,Nat.add_one_sub_one];have key:∀(l:List Nat),(∀j∈l,j<n)→(forIn (m:=Sem) l ((none,()):Option Bool×Unit) fun j r=>do
   let x ← part e (row n fun i=> .int k (f i)) j
   let y ← part e (row n fun i=> .int k (g i)) j
   let b ← Op.equalIn (d+1) e x y
   if(!b)=true then pure (ForInStep.done (some false,()))else pure (ForInStep.yield (none,()))).run P w =
    .ok (if l.all (fun j=>f j==g j)then(none,())else(some false,())) w:=by
   intro l hl
   induction l with
   | nil=>simp
   | cons j l ih =>
    have hj:=hl j (by simp);simp only[List.forIn_cons,Sem.run_bind,hp _ j hj,Result.andThen_ok,run_equalIn_int w d e k k _ _ he];by_cases hfg:f j=g j
    ·simp only[hfg,beq_self_eq_true,Bool.not_true,Bool.false_eq_true,if_false,Sem.run_pure,Result.andThen_ok,List.all_cons,Bool.true_and]
     exact ih fun j hj=>hl j (by simp[hj])
    ·have:(f j==g j)=false:=by simpa using hfg
     simp only[this,Bool.not_false,if_true,Sem.run_pure,Result.andThen_ok,List.all_cons,Bool.false_and,Bool.false_eq_true,if_false]
  have e0:List.range' 0 n=List.range n:=List.range_eq_range'.symm;rw[e0,key (List.range n) (fun j hj=>List.mem_range.1 hj)];show Result.andThen _ _=_;unfold eqN;cases (List.range n).all fun j=>f j==g j <;> simp
def dw(l:List (BitVec 8)):ByteArray:=⟨(l.map fun x=>UInt8.ofNat x.toNat).toArray⟩
theorem wS{w:World}{v:Value}{l:List (BitVec 8)}{src e dst:TypeId}(h:BRow w v l)(hs:P.underlying src=some (.slice e))(he:P.underlying e=some (.int .u8))(hd:P.underlying dst=some .string) :
 (convert src dst v).run P w= .ok (.string (dw l)) w:=by
 obtain⟨a,c,rfl,hn,hp⟩:=h;rcases Nat.eq_zero_or_pos l.length with h0|h0
 ·obtain rfl:l=[]:=List.eq_nil_of_length_eq_zero h0
  rw[run_convert_bytes_string w src dst e _ _ _ hs he hd];cases a with
  | none=>simp[Conv.bytesToString];rfl
  | some a =>
   have:=run_bytesToString (P:=P) w a 0 c [] (run_loadCells_list (P:=P) w a [] (fun j v hj=>by simp at hj));exact this
 ·obtain⟨b,off,rfl,_,hc⟩:=hp h0
  have:=run_convert_bytes_arg (P:=P) w src e hs he b off l.length c (l.map B8) (by simp) (fun i hi=>by
   rw[hc i hi,List.getD_eq_getElem?_getD,List.getElem?_map,List.getElem?_eq_getElem hi];rfl) dst hd
  rw[this];congr 2;unfold strOfNums dw;congr 2;rw[List.map_map];rfl
end
end
section
open Go.RowKit
class EqV(t:TypeId)(r s:Array Value)(b:outParam Bool):Prop where
 eql:∀w,(binOp .eql t (.agg r) (.agg s)).run prog w= .ok (.bool b) w
 neq:∀w,(binOp .neq t (.agg r) (.agg s)).run prog w= .ok (.bool !b) w
 ge:∀x y w,(eqGuard .eql t x y (.agg r) (.agg s)).run prog w= .ok () w
 gn:∀x y w,(eqGuard .neq t x y (.agg r) (.agg s)).run prog w= .ok () w
section
variable {ops:Array Oper} {rest:List Oper} {l:List (Oper×Bool)} {R:Act→Prop} {S:World→Prop} {o:Oper} {a:Act} {w0 w:World} {M M':Mem} {Q:Exit→Act→World→Prop}
theorem si{t:TypeId}{x y:Operand}{ev:Operand→Value}{r s:Array Value}(hx:ev x= .agg r)(hy:ev y= .agg s){b:Bool}[h:EqV t r s b](w:World) :
 (o.op= .binOp .eql t x y t→(execOp ev o).run prog w= .ok (.value (.bool b)) w)∧(o.op= .binOp .neq t x y t→(execOp ev o).run prog w= .ok (.value (.bool !b)) w):=by
 constructor
 ·intro ho
  unfold execOp;simp only[ho,hx,hy,Sem.run_bind,h.ge,h.eql,Result.andThen_ok,Sem.run_pure]
 ·intro ho
  unfold execOp;simp only[ho,hx,hy,Sem.run_bind,h.gn,h.neq,Result.andThen_ok,Sem.run_pure]
theorem lQ(hL:Loc w0 w M)(hg:o.guard=none){t:TypeId}{x y:Operand}(ho:o.op= .binOp .eql t x y t){r s:Array Value}(hx:a.eval x= .agg r)(hy:a.eval y= .agg s){b:Bool}[h:EqV t r s b](h:∀w',Loc w0 w' M→wpList prog ops Q rest (a.put o.dst (.bool b)) w'):wpList prog ops Q (o::rest) a w :=
 wpList_plain hg fun K hK=>by
  unfold Oper.wp;rw[(si hx hy w).1 ho];exact hK _ _ (h w hL)
theorem sQ(hg:o.guard=none){t:TypeId}{x y:Operand}(ho:o.op= .binOp .eql t x y t){r s:Array Value}(hx:a.eval x= .agg r)(hy:a.eval y= .agg s){b:Bool}[h:EqV t r s b](h:bu prog ops S l (a.put o.dst (.bool b)) R):bu prog ops S ((o,true)::l) a R:=gO hg (fun w=>(si hx hy w).1 ho) h
theorem sN(hg:o.guard=none){t:TypeId}{x y:Operand}(ho:o.op= .binOp .neq t x y t){r s:Array Value}(hx:a.eval x= .agg r)(hy:a.eval y= .agg s){b:Bool}[h:EqV t r s b](h:bu prog ops S l (a.put o.dst (.bool !b)) R):bu prog ops S ((o,true)::l) a R:=gO hg (fun w=>(si hx hy w).2 ho) h
end
theorem yF{t e:TypeId}{n:Nat}{k:IntKind}(f g:Nat→Int){b:Bool}(ht:prog.underlying t=some (.array n e))(hs:(prog.info? e).map (·.size)=some 1)(he:prog.underlying e=some (.int k))(hr:∀w,(isAgg e).run prog w= .ok false w)(h1:∀r s x y w,(eqGuard .eql t x y (.agg r) (.agg s)).run prog w= .ok () w)(h2:∀r s x y w,(eqGuard .neq t x y (.agg r) (.agg s)).run prog w= .ok () w)(hb:eqN n f g=b):EqV t (row n fun i=> .int k (f i)) (row n fun i=> .int k (g i)) b:=by
 have:=fun w=>nt (P:=prog) (d:=9998) f g ht hs he hr w;rw[show 9998+2=10000 from rfl]at this;refine⟨fun w=>?_,fun w=>?_,fun x y w=>h1 _ _ x y w,fun x y w=>h2 _ _ x y w⟩
 ·rw[run_eql_struct]
  show Result.andThen ((Op.equalIn 10000 t (.agg (row n fun i=> .int k (f i))) (.agg (row n fun i=> .int k (g i)))).run prog w) _=_;rw[this,hb];rfl
 ·rw[run_neq_struct]
  show Result.andThen ((Op.equalIn 10000 t (.agg (row n fun i=> .int k (f i))) (.agg (row n fun i=> .int k (g i)))).run prog w) _=_;rw[this,hb];rfl
theorem GV{n m:Nat}(hn:n<2^256)(hm:m<2^256)(h:∀i,i<4→lw n i=lw m i):n=m:=by
 have h0:=h 0 (by omega);have h1:=h 1 (by omega);have h2:=h 2 (by omega);have h3:=h 3 (by omega);unfold lw at *
 simp only[Nat.mul_zero,Nat.mul_one,Nat.reduceMul,Nat.reducePow]at *
 omega
theorem Gl(n m:Nat)(hn:n<2^256)(hm:m<2^256):EqV 311 (am n) (am m) (decide (n=m)) :=
 yF (fun i=>(lw n i:Int)) (fun i=>(lw m i:Int)) underlying311 (by kernel_rfl) underlying227 (fun w=>by kernel_rfl)
  (fun r s x y w=>run_eqGuard_agg _ _ _ _ _ _ _ (by kernel_rfl)) (fun r s x y w=>run_eqGuard_agg _ _ _ _ _ _ _ (by kernel_rfl)) (by
   rw[Bool.eq_iff_iff,yE,decide_eq_true_iff];exact⟨fun h=>GV hn hm fun i hi=>Int.ofNat_inj.1 (h i hi),fun h i _=>by rw[h]⟩)
theorem Cb:P<2^256:=by decide +kernel
theorem jg(a:F):a.val<2^256:=Nat.lt_trans a.isLt Cb
theorem Cc(a b:F):EqV 311 (am a.val) (am b.val) (decide (a=b)):=by
 have:=Gl a.val b.val (jg a) (jg b);rw[show decide (a.val=b.val)=decide (a=b)from by rw[Bool.eq_iff_iff,decide_eq_true_iff,decide_eq_true_iff];exact⟨Fin.ext,fun h=>by rw[h]⟩]at this;exact this
theorem wT(a:F)(n:Nat):pw a n*pw a n=pw a (2*n):=by rw[Nat.two_mul,mw]
theorem og(e j:Nat)(hj:j<256):e/2^(255-j)=2*(e/2^(256-j))+e/2^(255-j)%2:=by
 have:e/2^(256-j)=e/2^(255-j)/2:=by rw[Nat.div_div_eq_div_mul,← Nat.pow_succ];congr 2;omega
 omega
theorem yG: #[Value.int .u64 1,Value.int .u64 0,Value.int .u64 0,Value.int .u64 0]=am 1:=by kernel_rfl
theorem Fa: #[Value.int .u64 2,Value.int .u64 0,Value.int .u64 0,Value.int .u64 0]=am 2:=by kernel_rfl
theorem sj: #[Value.int .u64 0,Value.int .u64 0,Value.int .u64 0,Value.int .u64 0]=am 0:=by kernel_rfl
theorem yH:(1:F).val=1:=by decide +kernel
theorem sk:(0:F).val=0:=by decide +kernel
theorem qR(a:F)(e:Nat)(he:e<2^256)(w:World):Rt 302 #[.agg (am a.val),.agg (am e)] w (.agg (am (pw a e).val)):=by
 have hL:=Loc.nil w;have h1:=Hd yG;have z0:=Hd (show am 1=am (pw a (e/2^(256-0))).val from by rw[Nat.sub_zero,Nat.div_eq_of_lt he,show pw a 0=1 from rfl,yH]);clear he;go_enter func302,ntmps302;go_wp2_with (first|(refine gBp 2 ?_;clear hL;intro b2 w1 hL)|(refine gBp 3 ?_;clear hL;intro b3 w1 hL)|(refine gBp 4 ?_;clear hL;intro b4 w1 hL)|(refine gBp 5 ?_;clear hL;intro b5 w1 hL)|(refine aQq ?_;clear hL;intro _ w1 hL));rw[h1.out]at hL;go_loopw [6] (fun kk wr=>∃j:Nat,j≤256∧kk= .int .i64 (255-(j:Int))∧Loc w wr [(b5,am (pw a (e/2^(256-j))).val,311),(b4,am 0,311),(b3,am e,311),(b2,am a.val,311)]) (fun kk _=>(intOf kk+1).toNat);case atStart=>exact⟨0,by omega,rfl,by rw[← z0.out];exact hL⟩
 case round =>
  clear hL;obtain⟨j,hj,rfl,hL⟩:=hrel;by_cases hlt:j<256
  ·have k0:(0:Int)≤255-(j:Int):=by omega
   have k1:¬255-(j:Int)<0:=by omega
   have k2:(j:Int)≤255:=by omega
   have hst:=og e j hlt;have hb:=fun w=>nF e (255-j) (by omega) w;rw[show((255-j:Nat):Int)=255-(j:Int)from by omega]at hb;have hm:=wT a (e/2^(256-j));by_cases hbit:e/2^(255-j)%2=1
   ·rw[hbit]at hb hst
    have HT:=Hd (show pw a (e/2^(256-(j+1)))=pw a (e/2^(256-j))*pw a (e/2^(256-j))*a from by rw[hm,show 256-(j+1)=255-j from by omega,hst];rfl);generalize pw a (e/2^(256-j))=x at *
    haveI f1:FnC 283 #[.agg (am e),.int .i64 (255-(j:Int))] (.int .u64 1):=⟨hb⟩;clear hb hst hm hbit;go_wp2_with (first|(refine aQq ?_;clear hL;intro _ w1 hL));go_roundw;case rel=>exact⟨j+1,by omega,by rw[show 255-(j:Int)-1=255-((j+1:Nat):Int)from by omega],by rw[HT.out];exact hL⟩
    case measure=>simp[intOf];omega
   ·rw[show e/2^(255-j)%2=0 from by omega]at hb hst
    have HT:=Hd (show pw a (e/2^(256-(j+1)))=pw a (e/2^(256-j))*pw a (e/2^(256-j))from by rw[hm,show 256-(j+1)=255-j from by omega,hst];rfl);generalize pw a (e/2^(256-j))=x at *
    haveI f1:FnC 283 #[.agg (am e),.int .i64 (255-(j:Int))] (.int .u64 0):=⟨hb⟩;clear hb hst hm hbit;go_wp2_with (first|(refine aQq ?_;clear hL;intro _ w1 hL));go_roundw;case rel=>exact⟨j+1,by omega,by rw[show 255-(j:Int)-1=255-((j+1:Nat):Int)from by omega],by rw[HT.out];exact hL⟩
    case measure=>simp[intOf];omega
  ·obtain rfl:j=256:=by omega
   rw[Nat.sub_self,Nat.pow_zero,Nat.div_one]at hL;have k1:(255:Int)-((256:Nat):Int)= -1:=by omega
   rw[k1];clear k1;go_wp2_with (first|(refine aQq ?_;clear hL;intro _ w1 hL));exact bodyPost_ret (ai rfl hL rfl) rfl ⟨rfl,hL.bel⟩
instance Na:Ent 302:=eo func302
instance Nb:Ent 297:=eo func297
theorem t8(a:F)(w:World):Rt 277 #[.agg (am a.val)] w (.agg (am (inv a).val)):=by
 have hL:=Loc.nil w;haveI f1:FnC 296 #[.agg (am P),.agg #[.int .u64 2,.int .u64 0,.int .u64 0,.int .u64 0]] (.tuple #[.agg (am (P-2)),.int .u64 0]):=⟨fun w=>by
  have:=fy P 2 Cb (by decide) w;rw[Fa];rw[show bw P 2 4=0 from by decide +kernel,← dQ (P+2^256-2),show(P+2^256-2)%2^256=P-2 from by decide +kernel]at this;exact this⟩
 haveI f2:FnC 302 #[.agg (am a.val),.agg (am (P-2))] (.agg (am (inv a).val)):=⟨by rw[r7];exact qR a (P-2) (Nat.lt_of_le_of_lt (Nat.sub_le _ _) Cb)⟩;generalize(inv a).val=r,P-2=e at *
 go_enter func277,ntmps277;go_wp2_with (first|(refine aQq ?_;clear hL;intro _ w1 hL));exact bodyPost_ret (ai rfl hL rfl) rfl ⟨rfl,hL.bel⟩
instance Nc:Ent 277:=eo func277
instance Nd(a:F):FnC 277 #[.agg (am a.val)] (.agg (am (inv a).val)):=⟨t8 a⟩
end
section
open Go.RowKit
def dv(r:F):F:=if r.val%2=1 then 0-r else r
def wU:Option F→Nat
 | some r=>(dv r).val
 | none=>0
noncomputable def Cd(a:F):Nat:=wU (eH a)
theorem kG{a r:F}(h:eH a=some r):Cd a=(dv r).val:=by show wU (eH a)=_;rw[h];rfl
theorem oh{a:F}(h:eH a=none):Cd a=0:=by show wU (eH a)=_;rw[h];rfl
theorem IV: #[Value.int .u64 18446744073709551614,Value.int .u64 18446744073709551615,Value.int .u64 18446744073709551615,Value.int .u64 1152921504606846975]=am bp:=by kernel_rfl
theorem IW: #[Value.int .u64 14190309331451158704,Value.int .u64 3405592160176694392,Value.int .u64 3120150775007532967,Value.int .u64 3135389899092516619]=am iF.val:=by kernel_rfl
theorem Ce:bp<2^256:=by decide +kernel
theorem GW(x:F)(w:World):Rt 283 #[.agg (am x.val),.int .i64 0] w (.int .u64 (x.val%2:Nat)):=by
 have:=nF x.val 0 (by omega) w;rw[Nat.pow_zero,Nat.div_one]at this;exact this
theorem wV(a:F)(w:World):Rt 276 #[.agg (am a.val)] w (.tuple #[.agg (am (Cd a)),.bool (eH a).isSome]):=by
 have hL:=Loc.nil w;have lz:=Hd (show am 0=am (0:F).val from by rw[sk]);have f1:FnC 302 #[.agg (am a.val),.agg #[.int .u64 18446744073709551614,.int .u64 18446744073709551615,.int .u64 18446744073709551615,.int .u64 1152921504606846975]] (.agg (am (pw a bp).val)):=⟨fun w=>by
  rw[IV];exact qR a _ Ce w⟩
 have hfr:eH a=kF a (pw a bp) (pw a bp*iF):=la a;generalize pw a bp=x at *
 have f2:FnC 272 #[.agg (am x.val),.agg #[.int .u64 14190309331451158704,.int .u64 3405592160176694392,.int .u64 3120150775007532967,.int .u64 3135389899092516619]] (.agg (am (x*iF).val)):=⟨fun w=>by
  rw[IW];exact qP x iF w⟩
 have g0:∀x:F,FnC 273 #[.agg #[.int .u64 0,.int .u64 0,.int .u64 0,.int .u64 0],.agg (am x.val)] (.agg (am (0-x).val)):=fun x=>⟨fun w=>by
  rw[sj,lz.out];exact mz 0 x w⟩
 generalize x*iF=y at *
 have e1:=Cc (x*x) a;have e2:=Cc (y*y) a;unfold kF at hfr;by_cases c1:x*x=a
 ·rw[if_pos c1]at hfr
  rw[decide_eq_true c1]at e1;have b0:=GW x;have e3:=kG hfr;rw[e3,hfr];unfold dv;by_cases hb:x.val%2=1
  ·rw[if_pos hb]
   rw[hb]at b0;haveI f3:FnC 283 #[.agg (am x.val),.int .i64 0] (.int .u64 1):=⟨b0⟩;haveI f4:=g0 x;clear hfr c1 b0 hb e3 g0 e2;go_enter func276,ntmps276;go_wp2_with (first|(refine aQq ?_;clear hL;intro _ w1 hL));refine wf [(0,false),(1,false),(2,false),(3,false),(4,true)] [] [] hL ?_
   repeat refine rN ?_
   refine aG ?_;refine fC ?_;clear hL;intro w1 hL;go_wp2_with (first|(refine aQq ?_;clear hL;intro _ w1 hL));refine wf [(0,false),(1,false),(2,false),(3,false),(4,true)] [] [] hL ?_
   repeat refine rN ?_
   refine aG ?_;refine fC ?_;clear hL;intro w1 hL;go_wp2_with (first|(refine aQq ?_;clear hL;intro _ w1 hL));exact bodyPost_ret (ay rfl hL rfl rfl) rfl ⟨rfl,hL.bel⟩
  ·rw[if_neg hb]
   rw[show x.val%2=0 from by omega]at b0;haveI f3:FnC 283 #[.agg (am x.val),.int .i64 0] (.int .u64 0):=⟨b0⟩;clear hfr c1 b0 hb e3 g0 e2;go_enter func276,ntmps276;go_wp2_with (first|(refine aQq ?_;clear hL;intro _ w1 hL));refine wf [(0,false),(1,false),(2,false),(3,false),(4,true)] [] [] hL ?_
   repeat refine rN ?_
   refine aG ?_;refine fC ?_;clear hL;intro w1 hL;go_wp2_with (first|(refine aQq ?_;clear hL;intro _ w1 hL));refine wf [(0,false),(1,false),(2,false),(3,false),(4,true)] [] [] hL ?_
   repeat refine rN ?_
   refine aG ?_;refine fC ?_;clear hL;intro w1 hL;go_wp2_with (first|(refine aQq ?_;clear hL;intro _ w1 hL));exact bodyPost_ret (ay rfl hL rfl rfl) rfl ⟨rfl,hL.bel⟩
 ·rw[if_neg c1]at hfr
  rw[decide_eq_false c1]at e1;by_cases c2:y*y=a
  ·rw[if_pos c2]at hfr
   rw[decide_eq_true c2]at e2;have b0:=GW y;have e3:=kG hfr;rw[e3,hfr];unfold dv;by_cases hb:y.val%2=1
   ·rw[if_pos hb]
    rw[hb]at b0;haveI f3:FnC 283 #[.agg (am y.val),.int .i64 0] (.int .u64 1):=⟨b0⟩;haveI f4:=g0 y;clear hfr c1 b0 hb e3 g0;go_enter func276,ntmps276;go_wp2_with (first|(refine aQq ?_;clear hL;intro _ w1 hL));refine wf [(0,false),(1,false),(2,false),(3,false),(4,true)] [] [] hL ?_
    repeat refine rN ?_
    refine aG ?_;refine fC ?_;clear hL;intro w1 hL;go_wp2_with (first|(refine aQq ?_;clear hL;intro _ w1 hL));refine wf [(0,false),(1,false),(2,false),(3,false),(4,true)] [] [] hL ?_
    repeat refine rN ?_
    refine aG ?_;refine fC ?_;clear hL;intro w1 hL;go_wp2_with (first|(refine aQq ?_;clear hL;intro _ w1 hL));exact bodyPost_ret (ay rfl hL rfl rfl) rfl ⟨rfl,hL.bel⟩
   ·rw[if_neg hb]
    rw[show y.val%2=0 from by omega]at b0;haveI f3:FnC 283 #[.agg (am y.val),.int .i64 0] (.int .u64 0):=⟨b0⟩;clear hfr c1 b0 hb e3 g0;go_enter func276,ntmps276;go_wp2_with (first|(refine aQq ?_;clear hL;intro _ w1 hL));refine wf [(0,false),(1,false),(2,false),(3,false),(4,true)] [] [] hL ?_
    repeat refine rN ?_
    refine aG ?_;refine fC ?_;clear hL;intro w1 hL;go_wp2_with (first|(refine aQq ?_;clear hL;intro _ w1 hL));refine wf [(0,false),(1,false),(2,false),(3,false),(4,true)] [] [] hL ?_
    repeat refine rN ?_
    refine aG ?_;refine fC ?_;clear hL;intro w1 hL;go_wp2_with (first|(refine aQq ?_;clear hL;intro _ w1 hL));exact bodyPost_ret (ay rfl hL rfl rfl) rfl ⟨rfl,hL.bel⟩
  ·rw[if_neg c2]at hfr
   rw[decide_eq_false c2]at e2;have e3:=oh hfr;rw[e3,hfr];have nz:=Hd sj;clear hfr c1 e3 g0;go_enter func276,ntmps276;go_wp2_with (first|(refine aQq ?_;clear hL;intro _ w1 hL));refine wf [(0,false),(1,false),(2,false),(3,false),(4,true)] [] [] hL ?_
   repeat refine rN ?_
   refine aG ?_;refine fC ?_;clear hL;intro w1 hL;go_wp2_with (first|(refine aQq ?_;clear hL;intro _ w1 hL));refine wf [(0,false),(1,false),(2,false),(3,false),(4,true)] [] [] hL ?_
   repeat refine rN ?_
   refine aG ?_;refine fC ?_;clear hL;intro w1 hL;go_wp2_with (first|(refine aQq ?_;clear hL;intro _ w1 hL));rw[nz.out]at hL;exact bodyPost_ret (ay rfl hL rfl rfl) rfl ⟨rfl,hL.bel⟩
instance IX:Ent 276:=eo func276
end
section
open Go.RowKit
def eI(x y z t:Nat):Array Value:=row 16 fun i=>lv (if i<4 then x else if i<8 then y else if i<12 then z else t) (i%4)
def dK(e:Ex):Array Value:=eI e.x.val e.y.val e.z.val e.t.val
instance KN(x y z t:Nat):Row1 (eI x y z t) 16:=⟨aQ _ _,by simp[eI,row,lv,Value.oneCell']⟩
instance KO(e:Ex):Row1 (dK e) 16:=inferInstanceAs (Row1 (eI _ _ _ _) 16)
instance KP:RowTy 313 16:=⟨⟨_,underlying313,rfl⟩,by kernel_rfl⟩
instance KQ:RowZ 313 (eI 0 0 0 0):=⟨by kernel_rfl⟩
theorem dR{n m k:Nat}{S T:Nat→Value}{u t:TypeId}(h:k+m≤n)(e:∀i,i<m→S (k+i)=T i):Part (row n S) u k t (row m T):=⟨fun j v hv=>by
 have hj:j<m:=by
  rcases Nat.lt_or_ge j m with h|h
  ·exact h
  ·rw[List.getElem?_eq_none (by simp[aQ];exact h)]at hv;cases hv
 rw[Array.getElem?_toList,bI T hj]at hv;cases hv
 rw[bI S (by omega),e j hj]⟩
theorem Cf(x y z t:Nat):Part (eI x y z t) 313 0 311 (am x):=dR (by omega) fun i hi=>by
 have h:i=0∨i=1∨i=2∨i=3:=by omega
 rcases h with rfl|rfl|rfl|rfl <;> rfl
instance KR(e:Ex):Part (dK e) 313 0 311 (am e.x.val):=Cf _ _ _ _
theorem Cg(x y z t:Nat):Part (eI x y z t) 313 4 311 (am y):=dR (by omega) fun i hi=>by
 have h:i=0∨i=1∨i=2∨i=3:=by omega
 rcases h with rfl|rfl|rfl|rfl <;> rfl
instance KS(e:Ex):Part (dK e) 313 4 311 (am e.y.val):=Cg _ _ _ _
theorem Ch(x y z t:Nat):Part (eI x y z t) 313 8 311 (am z):=dR (by omega) fun i hi=>by
 have h:i=0∨i=1∨i=2∨i=3:=by omega
 rcases h with rfl|rfl|rfl|rfl <;> rfl
instance IY(e:Ex):Part (dK e) 313 8 311 (am e.z.val):=Ch _ _ _ _
theorem Ai(x y z t:Nat):Part (eI x y z t) 313 12 311 (am t):=dR (by omega) fun i hi=>by
 have h:i=0∨i=1∨i=2∨i=3:=by omega
 rcases h with rfl|rfl|rfl|rfl <;> rfl
instance IZ(e:Ex):Part (dK e) 313 12 311 (am e.t.val):=Ai _ _ _ _
theorem oq(x y z t:Nat)(w:World):(Instr.build 313 #[(0,.agg (am x)),(1,.agg (am y)),(2,.agg (am z)),(3,.agg (am t))]).run prog w= .ok (.agg (eI x y z t)) w:=by kernel_rfl
theorem Aj(x y t:Nat)(w:World):(Instr.build 313 #[(0,.agg (am x)),(1,.agg (am y)),(2,.agg #[.int .u64 1,.int .u64 0,.int .u64 0,.int .u64 0]),(3,.agg (am t))]).run prog w= .ok (.agg (eI x y 1 t)) w:=by kernel_rfl
theorem wW(w:World):(Instr.build 313 #[(1,.agg #[.int .u64 1,.int .u64 0,.int .u64 0,.int .u64 0]),(2,.agg #[.int .u64 1,.int .u64 0,.int .u64 0,.int .u64 0])]).run prog w= .ok (.agg (eI 0 1 1 0)) w:=by kernel_rfl
theorem I0: #[Value.int .u64 8496970652267935907,Value.int .u64 31536524315187371,Value.int .u64 10144147576115030168,Value.int .u64 5909686906226998899]=am dF.val:=by kernel_rfl
theorem I1: #[Value.int .u64 14507833142362363162,Value.int .u64 7578651490590762930,Value.int .u64 13881468655802702940,Value.int .u64 2407515759118799870]=am pB.x.val:=by kernel_rfl
theorem I2: #[Value.int .u64 7378697629483820632,Value.int .u64 7378697629483820646,Value.int .u64 7378697629483820646,Value.int .u64 7378697629483820646]=am pB.y.val:=by kernel_rfl
theorem wX(w:World):Rt 275 #[] w (.agg (am dF.val)):=by
 have hL:=Loc.nil w;have hP:=Hd I0;go_enter func275,ntmps275;go_wp2_with (first|(refine aQq ?_;clear hL;intro _ w1 hL));rw[hP.out]at hL;exact bodyPost_ret (ai rfl hL rfl) rfl ⟨rfl,hL.bel⟩
instance I3:Ent 275:=eo func275
instance I4:FnC 275 #[] (.agg (am dF.val)):=⟨wX⟩
theorem GX:eI 0 1 1 0=dK exO:=by unfold dK exO;rw[sk,yH]
theorem Ci(w:World):Rt 282 #[] w (.agg (dK exO)):=by
 have hL:=Loc.nil w;rw[← GX];go_enter func282,ntmps282;go_wp2_with (first|((with_reducible show wpList _ _ _ (⟨_,.build 313 _,_,_,_,_⟩::_) _ _);refine lU hL rfl rfl wW rfl fun w1 hL1=>?_;clear hL;have hL:=hL1;clear hL1)|(refine aQq ?_;clear hL;intro _ w1 hL));exact bodyPost_ret (ai rfl hL rfl) rfl ⟨rfl,hL.bel⟩
instance I5:Ent 282:=eo func282
instance I6:FnC 282 #[] (.agg (dK exO)):=⟨Ci⟩
theorem Ak(p q:Ex)(w:World):Rt 251 #[.agg (dK p),.agg (dK q)] w (.agg (dK (cZ p q))):=by
 have hL:=Loc.nil w;go_enter func251,ntmps251;go_wp2_with (first|(refine aQq ?_;clear hL;intro _ w1 hL));refine ar [(0,true),(1,false),(2,true),(3,false),(4,false),(5,true),(6,false),(7,true),(8,false),(9,false),(10,false)] [(11,_,311)] [12] (by kernel_rfl) (by kernel_rfl) ⟨⟨_,rfl,rfl,rfl⟩,inferInstance,trivial⟩ hL ?_;refine pF ?_;refine fA ?_;refine az fun b=>?_;refine fB ?_;clear hL;intro w1 hL;go_wp2_with (first|(refine aQq ?_;clear hL;intro _ w1 hL));refine ar [(0,true),(1,false),(2,true),(3,false),(4,false),(5,true),(6,false),(7,true),(8,false),(9,false),(10,false)] [(11,_,311)] [12] (by kernel_rfl) (by kernel_rfl) ⟨⟨_,rfl,rfl,rfl⟩,inferInstance,trivial⟩ hL ?_;refine pF ?_;refine fA ?_;refine az fun b=>?_;refine fB ?_;clear hL;intro w1 hL;go_wp2_with (first|(refine aQq ?_;clear hL;intro _ w1 hL));refine ar [(0,true),(1,false),(2,false),(3,false),(4,false),(5,false),(6,true),(7,false),(8,false)] [(9,_,311)] [10] (by kernel_rfl) (by kernel_rfl) ⟨⟨_,rfl,rfl,rfl⟩,inferInstance,trivial⟩ hL ?_;refine pF ?_;refine fA ?_;refine az fun b=>?_;refine fB ?_;clear hL;intro w1 hL;go_wp2_with (first|(refine aQq ?_;clear hL;intro _ w1 hL));refine ar [(0,true),(1,false),(2,true),(3,false),(4,true),(5,false),(6,false),(7,false)] [(8,_,311)] [9] (by kernel_rfl) (by kernel_rfl) ⟨⟨_,rfl,rfl,rfl⟩,inferInstance,trivial⟩ hL ?_;refine pF ?_;refine fA ?_;refine az fun b=>?_;refine fB ?_;clear hL;intro w1 hL;go_wp2_with (first|(refine aQq ?_;clear hL;intro _ w1 hL));refine ar [(0,false),(1,false),(2,false),(3,false),(4,false),(5,false),(6,false),(7,false),(8,false),(9,false),(10,false),(11,false)] [(12,_,311),(13,_,311),(14,_,311),(15,_,311)] [16,17,18,19] (by kernel_rfl) (by kernel_rfl) ⟨⟨_,rfl,rfl,rfl⟩,inferInstance,⟨⟨_,rfl,rfl,rfl⟩,inferInstance,⟨⟨_,rfl,rfl,rfl⟩,inferInstance,⟨⟨_,rfl,rfl,rfl⟩,inferInstance,trivial⟩⟩⟩⟩ hL ?_;refine pF ?_;refine fA ?_;refine az fun b=>?_;refine az fun b=>?_;refine az fun b=>?_;refine az fun b=>?_;refine fB ?_;clear hL;intro w1 hL;go_wp2_with (first|(refine aQq ?_;clear hL;intro _ w1 hL));refine wf [(0,false),(1,false),(2,false),(3,false),(4,false),(5,false),(6,false),(7,false),(8,false),(9,false),(10,false),(11,false),(12,true)] [] [13] hL ?_
 repeat(first|((with_reducible show bu _ _ _ (_::_) _ _);refine sU rfl rfl (oq _ _ _ _) rfl ?_;refine p4 ?_)|refine rS ?_)
 refine aG ?_;refine fB ?_;clear hL;intro w1 hL;go_wp2_with fail;exact bodyPost_ret (ai rfl hL rfl) rfl ⟨rfl,hL.bel⟩
instance I7:Ent 251:=eo func251
instance I8(p q:Ex):FnC 251 #[.agg (dK p),.agg (dK q)] (.agg (dK (cZ p q))):=⟨Ak p q⟩
end
end Go.Proofs.YtoifhhljfaoejaaGreatDoor
