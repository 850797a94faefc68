/-
  Lemmas of the law, part 7: the walks of the functions that it calls and the plain facts about them. No condition beyond those written.
-/
import Derived.Test.YtoifhhljfaoejaaGreatDoorPkAF
import Derived.Test.YtoifhhljfaoejaaGreatDoorPkAA
import Derived.Deep.OwnRows
import Derived.Laws.OwnMore
import Derived.Test.YtoifhhljfaoejaaGreatDoorPkAE
set_option maxRecDepth 100000
set_option maxHeartbeats 8000000
set_option linter.unusedVariables false
set_option linter.unusedSimpArgs false
set_option linter.unusedSectionVars false
namespace Go.Proofs.YtoifhhljfaoejaaGreatDoor
open Go.Proofs.Tryz
section
open Go Go.RowKit
theorem oK(f:Nat→BitVec 8):∀k i,i<k→leK f k/2^(8*i)%256=(f i).toNat
 | 0,_,h=>absurd h (by omega)
 | k+1,i,h=>by
  show(leK f k+(f k).toNat*2^(8*k))/2^(8*i)%256=_;rcases Nat.lt_or_ge i k with h1|h1
  ·obtain⟨d,hd⟩:∃d,k=i+1+d:=⟨k-(i+1),by omega⟩
   rw[← oK f k i h1,Nat.mul_comm (f k).toNat,show 8*k=8*i+(8+8*d)from by omega,Nat.pow_add,Nat.mul_assoc,Nat.add_mul_div_left _ _ (Nat.two_pow_pos _),Nat.pow_add,Nat.mul_assoc,show(2:Nat)^8=256 from rfl,Nat.add_mul_mod_self_left]
  ·obtain rfl:i=k:=by omega
   rw[Nat.mul_comm,Nat.add_mul_div_left _ _ (Nat.two_pow_pos _),Nat.div_eq_of_lt (df f i),Nat.zero_add,Nat.mod_eq_of_lt (f i).isLt]
theorem js(f:Nat→BitVec 8){i:Nat}(h:i<32):leN f/2^(8*i)%256=(f i).toNat:=oK f 32 i h
theorem gU(f:Nat→BitVec 8){i:Nat}(h:i<32):ab (leN f) i=f i:=by
 unfold ab;refine BitVec.eq_of_toNat_eq ?_;rw[BitVec.toNat_ofNat];exact js f h
theorem jS(n:Nat):∀k,leK (ab n) k=n%2^(8*k)
 | 0=>by simp[leK,Nat.mod_one]
 | k+1=>by
  show leK (ab n) k+(ab n k).toNat*2^(8*k)=_;rw[jS n k,Nat.mul_succ,Nat.pow_add,Nat.mod_mul];unfold ab;rw[BitVec.toNat_ofNat,Nat.mul_comm (n/2^(8*k)%2^8)]
theorem bL{n:Nat}(h:n<2^256):leN (ab n)=n:=by
 unfold leN;rw[jS];exact Nat.mod_eq_of_lt h
theorem ut(x r:Nat)(h:r<8):x/2^r%2=x%256/2^r%2:=by
 have:r=0∨r=1∨r=2∨r=3∨r=4∨r=5∨r=6∨r=7:=by omega
 rcases this with rfl|rfl|rfl|rfl|rfl|rfl|rfl|rfl <;> omega
theorem Fk(f:Nat→BitVec 8){i:Nat}(h:i<256):leN f/2^i%2=(f (i/8)).toNat/2^(i%8)%2:=by
 have e:2^i=2^(8*(i/8))*2^(i%8):=by rw[← Nat.pow_add];congr 1;omega
 rw[e,← Nat.div_div_eq_div_mul,ut _ _ (Nat.mod_lt _ (by omega)),js f (by omega)]
theorem oL(x:Nat)(h:x<256):bits .and .u8 (x:Int) 1=((x%2:Nat):Int):=by
 have:∀x:Fin 256,bits .and .u8 (x.val:Int) 1=((x.val%2:Nat):Int):=by decide +kernel
 exact this ⟨x,h⟩
theorem oN(f:Nat→BitVec 8){i:Nat}(h:i<256):bits .and .u8 (B8 (f (i/8))/2^(i%8)) 1=((leN f/2^i%2:Nat):Int):=by
 rw[Fk f h];have e:B8 (f (i/8))/2^(i%8)=(((f (i/8)).toNat/2^(i%8):Nat):Int):=by
  unfold B8;generalize(f (i/8)).toNat=x;generalize i%8=r;rw[Int.natCast_ediv,Int.natCast_pow];rfl
 rw[e];exact oL _ (Nat.lt_of_le_of_lt (Nat.div_le_self _ _) (f (i/8)).isLt)
theorem Hg(f:Nat→BitVec 8){i:Nat}(h:i<16):R3.dg (leN f) i=(f (2*i)).toNat+256*(f (2*i+1)).toNat:=by
 have h0:=js f (i:=2*i) (by omega);have h1:=js f (i:=2*i+1) (by omega);unfold R3.dg;rw[show 8*(2*i)=16*i from by omega]at h0;rw[show 8*(2*i+1)=16*i+8 from by omega,Nat.pow_add,← Nat.div_div_eq_div_mul,show(2:Nat)^8=256 from rfl]at h1;omega
theorem oO(a b:Nat)(ha:a<2^63)(hb:b<2^63):bits .or .i64 (a:Int) (b:Int)=((a|||b:Nat):Int):=by
 have hor:a|||b<2^63:=Nat.or_lt_two_pow ha hb
 show IntKind.i64.wrap ((BitVec.ofInt 64 (a:Int)|||BitVec.ofInt 64 (b:Int)).toNat:Nat)=_;rw[BitVec.toNat_or,BitVec.toNat_ofInt,BitVec.toNat_ofInt];have e1:((a:Int)%((2^64:Nat):Int)).toNat=a:=by omega
 have e2:((b:Int)%((2^64:Nat):Int)).toNat=b:=by omega
 rw[e1,e2,IntKind.wrap_i64];omega
theorem Fm(f:Nat→BitVec 8){i:Nat}(h:i<16):bits .or .i64 (B8 (f (2*i))) (B8 (f (2*i+1))*256)=(R3.dg (leN f) i:Int):=by
 have h0:=(f (2*i)).isLt;have h1:=(f (2*i+1)).isLt;rw[Hg f h];have e:B8 (f (2*i+1))*256=(((f (2*i+1)).toNat*256:Nat):Int):=(Int.natCast_mul _ 256).symm;rw[e];unfold B8;rw[oO _ _ (by omega) (by omega),Nat.or_comm];have hs:=Nat.shiftLeft_add_eq_or_of_lt (i:=8) h0 (f (2*i+1)).toNat
 rw[Nat.shiftLeft_eq,show(2:Nat)^8=256 from rfl]at hs;rw[← hs];omega
end
namespace R3
open Go Go.Proofs.YtoifhhljfaoejaaGreatDoor Go.RowKit
def ao(n:Nat)(f:Nat→Int):Array Value:=row n fun i=> .int .i64 (f i)
def rowEl(x:El):Array Value:=ao 16 x.f
instance Ng(n:Nat)(f:Nat→Int):Row1 (ao n f) n:=⟨aQ _ _,by simp[ao,row,Value.oneCell']⟩
instance Nh(x:El):Row1 (rowEl x) 16:=inferInstanceAs (Row1 (ao 16 _) 16)
instance Ni:RowTy 147 16:=⟨⟨_,underlying147,rfl⟩,by kernel_rfl⟩
instance Nj:RowZ 147 (ao 16 fun _=>0):=⟨by kernel_rfl⟩
instance Nk:RowZ 265 (ao 31 fun _=>0):=⟨by kernel_rfl⟩
theorem bH{n:Nat}{f g:Nat→Int}(h:∀i,i<n→f i=g i):ao n f=ao n g:=ak fun i hi=>by rw[h i hi]
theorem bQ{n k:Nat}(f:Nat→Int)(h:k<n):Cell (ao n f) k (.int .i64 (f k)):=aI _ h
theorem dS{n k:Nat}{f:Nat→Int}{x:Int}{g:Nat→Int}(h:k<n)(e:∀i,i<n→(if i=k then x else f i)=g i):Put (ao n f) k (.int .i64 x) (ao n g) :=
 a9 h (ak fun i hi=>by
  rw[← e i hi];unfold upd;by_cases c:i=k
  ·rw[if_pos c,if_pos c]
  ·rw[if_neg c,if_neg c])
theorem CJ(f:Nat→Int):ao 16 (stC f 0)=ao 16 f:=bH fun i _=>by
 unfold stC;rw[if_neg (by omega),if_neg (by omega)];split
 ·next h=>subst h;show f 0+0=_;omega
 ·rfl
def lh(f:Nat→Int)(k i:Nat):Int:=if i≤k then dgC f i else f i
theorem Hh(f:Nat→Int){k:Nat}(h:k<16):stC f k k=f k+cy f k:=by unfold stC;rw[if_neg (by omega),if_neg (by omega),if_pos rfl]
theorem gV(f:Nat→Int)(hf:∀i,i<16→ -35184372088832≤f i∧f i≤35184372088832)(w:World):Rt 190 #[.agg (ao 16 f)] w (.agg (ao 16 (bC f))):=by
 have hL:=Loc.nil w;have HF:=Hd hf;have HC:=Hd (ul (C:=1073741824) hf (by omega) (by omega));clear hf;have HZ:=Hd (CJ f);have HE:=Hd (show ao 16 (stC f 16)=ao 16 (bC f)from bH fun i _=>by unfold stC;rw[if_pos rfl]);go_enter func190,ntmps190;go_wp2_with (first|(refine gBp 1 ?_;clear hL;intro b1 w1 hL)|(refine gBp 2 ?_;clear hL;intro b2 w1 hL)|(refine aQq ?_;clear hL;intro _ w1 hL));go_loopw [3] (fun kk wr=>∃k:Nat,k≤16∧kk= .int .i64 k∧Loc w wr [(b2,ao 16 fun _=>0,147),(b1,ao 16 (stC f k),147)]) (fun kk _=>16-(intOf kk).toNat);case atStart=>exact⟨0,by omega,rfl,by rw[HZ.out];exact hL⟩
 case round =>
  clear hL;obtain⟨k,hk,rfl,hL⟩:=hrel;by_cases hlt:k<16
  ·have hk0:(0:Int)≤(k:Int):=by omega
   have hk1:(k:Int)<16:=by omega
   have hx0:=HF.out k hlt;have hx1:=HC.out k hk;have hxb: -40000000000000≤f k+cy f k∧f k+cy f k≤40000000000000:=by omega
   haveI g1:Cell (ao 16 (stC f k)) k (.int .i64 (f k+cy f k)):=by rw[← Hh f hlt];exact bQ _ hlt
   haveI g2:Put (ao 16 (stC f k)) k (.int .i64 (f k+cy f k-(f k+cy f k)/65536*65536)) (ao 16 (lh f k)):=dS hlt fun i hi=>by
    unfold stC lh dgC;rw[if_neg (show k≠16 by omega)];by_cases e:i=k
    ·subst e;rw[if_pos rfl,if_pos (Nat.le_refl _)];omega
    ·rw[if_neg e]
     by_cases h:i<k
     ·rw[if_pos h,if_pos (by omega)]
     ·rw[if_neg h,if_neg e,if_neg (by omega)]
   have hcs:cy f (k+1)=(f k+cy f k)/65536:=rfl;by_cases h15:k<15
   ·have hy:=HF.out (k+1) (by omega)
    haveI g3:Cell (ao 16 (lh f k)) (k+1) (.int .i64 (f (k+1))):=by
     have:lh f k (k+1)=f (k+1):=by unfold lh;rw[if_neg (by omega)]
     rw[← this];exact bQ _ (by omega)
    haveI g4:Put (ao 16 (lh f k)) (k+1) (.int .i64 (f (k+1)+(f k+cy f k)/65536)) (ao 16 (stC f (k+1))):=dS (by omega) fun i hi=>by
     unfold stC lh;rw[if_neg (show k+1≠16 by omega)];by_cases e:i=k+1
     ·subst e;rw[if_pos rfl,if_neg (by omega),if_pos rfl];rfl
     ·rw[if_neg e]
      by_cases h:i≤k
      ·rw[if_pos h,if_pos (by omega)]
      ·rw[if_neg h,if_neg (by omega),if_neg e]
    generalize f k+cy f k=x,f (k+1)=y,stC f k=s,lh f k=m at *
    have w1:IntKind.i64.wrap (x/65536*65536)=x/65536*65536:=IntWalk.i64_in _ (by omega);have w2:IntKind.i64.wrap (x-x/65536*65536)=x-x/65536*65536:=IntWalk.i64_in _ (by omega);have w3:IntKind.i64.wrap (y+x/65536)=y+x/65536:=IntWalk.i64_in _ (by omega);have h15':(k:Int)<15:=by omega
    clear HF HC HZ HE;go_wp2_with (first|(refine aQq ?_;clear hL;intro _ w1 hL));go_roundw;case rel=>exact⟨k+1,by omega,by go_num,hL⟩
    case measure=>simp[intOf];omega
   ·obtain rfl:k=15:=by omega
    haveI g3:Cell (ao 16 (lh f 15)) 0 (.int .i64 (dgC f 0)):=by
     have:lh f 15 0=dgC f 0:=by unfold lh;rw[if_pos (by omega)]
     rw[← this];exact bQ _ (by omega)
    haveI g4:Put (ao 16 (lh f 15)) 0 (.int .i64 (dgC f 0+38*((f 15+cy f 15)/65536))) (ao 16 (stC f 16)):=dS (by omega) fun i hi=>by
     unfold stC lh bC;rw[if_pos rfl];by_cases e:i=0
     ·subst e;rw[if_pos rfl,if_pos rfl];rfl
     ·rw[if_neg e,if_neg e,if_pos (by omega)]
    have hd:=xh f 0;generalize f 15+cy f 15=x,dgC f 0=y,stC f 15=s,lh f 15=m at *
    have w1:IntKind.i64.wrap (x/65536*65536)=x/65536*65536:=IntWalk.i64_in _ (by omega);have w2:IntKind.i64.wrap (x-x/65536*65536)=x-x/65536*65536:=IntWalk.i64_in _ (by omega);have w4:IntKind.i64.wrap (38*(x/65536))=38*(x/65536):=IntWalk.i64_in _ (by omega);have w3:IntKind.i64.wrap (y+38*(x/65536))=y+38*(x/65536):=IntWalk.i64_in _ (by omega);clear HF HC HZ;go_wp2_with (first|(refine aQq ?_;clear hL;intro _ w1 hL));go_roundw;case rel=>exact⟨16,by omega,by go_num,hL⟩
    case measure=>simp[intOf]
  ·obtain rfl:k=16:=by omega
   rw[HE.out]at hL;go_wp2_with (first|(refine aQq ?_;clear hL;intro _ w1 hL));exact bodyPost_ret (ai rfl hL rfl) rfl ⟨rfl,hL.bel⟩
instance Nl:Ent 190:=eo func190
theorem CK(f:Nat→BitVec 8)(w:World):Rt 140 #[.agg (aa 32 f)] w (.agg (rowEl (El.of (leN f)))):=by
 have hL:=Loc.nil w;obtain⟨D,hD⟩:∃D:Nat→Nat→Int,D=fun k i=>if i<k then(dg (leN f) i:Int)else 0:=⟨_,rfl⟩;have HD:=Hd hD;have HZ:=Hd (show ao 16 (fun _=>0)=ao 16 (D 0)from bH fun i _=>by rw[hD];simp);have HE:=Hd (show ao 16 (D 16)=rowEl (El.of (leN f))from bH fun i hi=>by rw[hD];simp only;rw[if_pos hi];rfl);clear hD;go_enter func140,ntmps140;go_wp2_with (first|(refine gBp 1 ?_;clear hL;intro b1 w1 hL)|(refine gBp 2 ?_;clear hL;intro b2 w1 hL)|(refine gBp 3 ?_;clear hL;intro b3 w1 hL)|(refine aQq ?_;clear hL;intro _ w1 hL));go_loopw [4] (fun kk wr=>∃k:Nat,k≤16∧kk= .int .i64 k∧Loc w wr [(b3,ao 16 (D k),147),(b2,ao 16 fun _=>0,147),(b1,aa 32 f,24)]) (fun kk _=>16-(intOf kk).toNat);case atStart=>exact⟨0,by omega,rfl,by rw[← HZ.out];exact hL⟩
 case round =>
  clear hL;obtain⟨k,hk,rfl,hL⟩:=hrel;by_cases hlt:k<16
  ·have hk0:(0:Int)≤(k:Int):=by omega
   have hk1:(k:Int)<16:=by omega
   have hv:=Fm f hlt;obtain⟨a0,a1⟩:=bK (f (2*k));obtain⟨c0,c1⟩:=bK (f (2*k+1));haveI g1:Cell (aa 32 f) (2*k) (.int .u8 (B8 (f (2*k)))):=aI _ (by omega);haveI g2:Cell (aa 32 f) (2*k+1) (.int .u8 (B8 (f (2*k+1)))):=aI _ (by omega);haveI g3:Put (ao 16 (D k)) k (.int .i64 (bits .or .i64 (B8 (f (2*k))) (B8 (f (2*k+1))*256))) (ao 16 (D (k+1))):=dS hlt fun i hi=>by
    rw[HD.out,hv];simp only;by_cases e:i=k
    ·subst e;rw[if_pos rfl,if_pos (by omega)]
    ·rw[if_neg e]
     by_cases h:i<k
     ·rw[if_pos h,if_pos (by omega)]
     ·rw[if_neg h,if_neg (by omega)]
   clear hv;have e1:2*(k:Int)=((2*k:Nat):Int):=by omega
   have e2:((2*k:Nat):Int)+1=((2*k+1:Nat):Int):=by omega
   generalize D k=s,B8 (f (2*k))=x at *
   generalize B8 (f (2*k+1))=y at *
   have q1:((2*k+1:Nat):Int)<32:=by omega
   have q0:(0:Int)≤((2*k+1:Nat):Int):=by omega
   have p1:((2*k:Nat):Int)<32:=by omega
   have p0:(0:Int)≤((2*k:Nat):Int):=by omega
   have wx:IntKind.i64.wrap x=x:=IntWalk.i64_in _ (by omega);have wy:IntKind.i64.wrap y=y:=IntWalk.i64_in _ (by omega);have wz:IntKind.i64.wrap (y*256)=y*256:=IntWalk.i64_in _ (by omega);have wk:IntKind.i64.wrap ((2*k:Nat):Int)=((2*k:Nat):Int):=IntWalk.i64_in _ (by omega);have wl:IntKind.i64.wrap ((2*k+1:Nat):Int)=((2*k+1:Nat):Int):=IntWalk.i64_in _ (by omega);generalize hq:2*k+1=q at *
   generalize hp:2*k=p at *
   clear hq hp HZ HE HD;go_wp2_with fail;refine wf [(0,true),(1,true),(2,true),(3,true),(4,false),(5,true),(6,true),(7,true),(8,true),(9,true),(10,false),(11,true),(12,true),(13,true),(14,true)] [] [15] hL ?_;refine fA ?_;refine fB ?_;clear hL;intro w1 hL;go_wp2_with (first|(refine aQq ?_;clear hL;intro _ w1 hL));go_roundw;case rel=>exact⟨k+1,by omega,by go_num,hL⟩
   case measure=>simp[intOf];omega
  ·obtain rfl:k=16:=by omega
   rw[HE.out]at hL;go_wp2_with (first|(refine aQq ?_;clear hL;intro _ w1 hL));exact bodyPost_ret (ai rfl hL rfl) rfl ⟨rfl,hL.bel⟩
instance Nm:Ent 140:=eo func140
instance Nn(f:Nat→BitVec 8):FnC 140 #[.agg (aa 32 f)] (.agg (rowEl (El.of (leN f)))):=⟨CK f⟩
theorem iq(x y:El)(w:World):Rt 141 #[.agg (rowEl x),.agg (rowEl y)] w (.agg (rowEl (x.add y))):=by
 have hL:=Loc.nil w;haveI f1:FnC 190 #[.agg (ao 16 fun i=>x.f i+y.f i)] (.agg (rowEl (x.add y))):=⟨gV _ fun i hi=>by have:=x.h i hi;have:=y.h i hi;omega⟩;obtain⟨D,hD⟩:∃D:Nat→Nat→Int,D=fun k i=>if i<k then x.f i+y.f i else x.f i:=⟨_,rfl⟩;have HD:=Hd hD;have HZ:=Hd (show rowEl x=ao 16 (D 0)from bH fun i _=>by rw[hD];simp);have HE:=Hd (show ao 16 (D 16)=ao 16 (fun i=>x.f i+y.f i)from bH fun i hi=>by rw[hD];simp only;rw[if_pos hi]);have HX:=Hd x.h;have HY:=Hd y.h;clear hD;rw[HZ.out];have HY':=Hd (show rowEl y=ao 16 y.f from rfl);rw[HY'.out];generalize(fun i=>x.f i+y.f i)=xy at f1 HE;go_enter func141,ntmps141;go_wp2_with (first|(refine gBp 2 ?_;clear hL;intro b2 w1 hL)|(refine gBp 3 ?_;clear hL;intro b3 w1 hL)|(refine gBp 4 ?_;clear hL;intro b4 w1 hL)|(refine aQq ?_;clear hL;intro _ w1 hL));go_loopw [5] (fun kk wr=>∃k:Nat,k≤16∧kk= .int .i64 k∧Loc w wr [(b4,ao 16 fun _=>0,147),(b3,ao 16 y.f,147),(b2,ao 16 (D k),147)]) (fun kk _=>16-(intOf kk).toNat);case atStart=>exact⟨0,by omega,rfl,hL⟩
 case round =>
  clear hL;obtain⟨k,hk,rfl,hL⟩:=hrel;by_cases hlt:k<16
  ·have hk0:(0:Int)≤(k:Int):=by omega
   have hk1:(k:Int)<16:=by omega
   have hx:=HX.out k hlt;have hy:=HY.out k hlt;haveI g1:Cell (ao 16 (D k)) k (.int .i64 (x.f k)):=by
    have:D k k=x.f k:=by rw[HD.out];simp
    rw[← this];exact bQ _ hlt
   haveI g2:Cell (ao 16 y.f) k (.int .i64 (y.f k)):=bQ _ hlt;haveI g3:Put (ao 16 (D k)) k (.int .i64 (x.f k+y.f k)) (ao 16 (D (k+1))):=dS hlt fun i hi=>by
    rw[HD.out];simp only;by_cases e:i=k
    ·subst e;rw[if_pos rfl,if_pos (by omega)]
    ·rw[if_neg e]
     by_cases h:i<k
     ·rw[if_pos h,if_pos (by omega)]
     ·rw[if_neg h,if_neg (by omega)]
   generalize D k=s,y.f=yf at *
   generalize yf k=v,x.f k=u at *
   have wu:IntKind.i64.wrap (u+v)=u+v:=IntWalk.i64_in _ (by omega);clear HZ HE HD HX HY HY';go_wp2_with fail;refine wf [(0,true),(1,true),(2,true),(3,false),(4,true),(5,true),(6,false),(7,true),(8,true)] [] [9] hL ?_;refine fA ?_;refine fB ?_;clear hL;intro w1 hL;go_wp2_with (first|(refine aQq ?_;clear hL;intro _ w1 hL));go_roundw;case rel=>exact⟨k+1,by omega,by go_num,hL⟩
   case measure=>simp[intOf];omega
  ·obtain rfl:k=16:=by omega
   rw[HE.out]at hL;go_wp2_with (first|(refine aQq ?_;clear hL;intro _ w1 hL));exact bodyPost_ret (ai rfl hL rfl) rfl ⟨rfl,hL.bel⟩
instance Lt:Ent 141:=eo func141
instance Lu(x y:El):FnC 141 #[.agg (rowEl x),.agg (rowEl y)] (.agg (rowEl (x.add y))):=⟨iq x y⟩
theorem fy(x y:El)(w:World):Rt 142 #[.agg (rowEl x),.agg (rowEl y)] w (.agg (rowEl (x.sub y))):=by
 have hL:=Loc.nil w;haveI f1:FnC 190 #[.agg (ao 16 fun i=>x.f i-y.f i)] (.agg (rowEl (x.sub y))):=⟨gV _ fun i hi=>by have:=x.h i hi;have:=y.h i hi;omega⟩;obtain⟨D,hD⟩:∃D:Nat→Nat→Int,D=fun k i=>if i<k then x.f i-y.f i else x.f i:=⟨_,rfl⟩;have HD:=Hd hD;have HZ:=Hd (show rowEl x=ao 16 (D 0)from bH fun i _=>by rw[hD];simp);have HE:=Hd (show ao 16 (D 16)=ao 16 (fun i=>x.f i-y.f i)from bH fun i hi=>by rw[hD];simp only;rw[if_pos hi]);have HX:=Hd x.h;have HY:=Hd y.h;clear hD;rw[HZ.out];have HY':=Hd (show rowEl y=ao 16 y.f from rfl);rw[HY'.out];generalize(fun i=>x.f i-y.f i)=xy at f1 HE;go_enter func142,ntmps142;go_wp2_with (first|(refine gBp 2 ?_;clear hL;intro b2 w1 hL)|(refine gBp 3 ?_;clear hL;intro b3 w1 hL)|(refine gBp 4 ?_;clear hL;intro b4 w1 hL)|(refine aQq ?_;clear hL;intro _ w1 hL));go_loopw [5] (fun kk wr=>∃k:Nat,k≤16∧kk= .int .i64 k∧Loc w wr [(b4,ao 16 fun _=>0,147),(b3,ao 16 y.f,147),(b2,ao 16 (D k),147)]) (fun kk _=>16-(intOf kk).toNat);case atStart=>exact⟨0,by omega,rfl,hL⟩
 case round =>
  clear hL;obtain⟨k,hk,rfl,hL⟩:=hrel;by_cases hlt:k<16
  ·have hk0:(0:Int)≤(k:Int):=by omega
   have hk1:(k:Int)<16:=by omega
   have hx:=HX.out k hlt;have hy:=HY.out k hlt;haveI g1:Cell (ao 16 (D k)) k (.int .i64 (x.f k)):=by
    have:D k k=x.f k:=by rw[HD.out];simp
    rw[← this];exact bQ _ hlt
   haveI g2:Cell (ao 16 y.f) k (.int .i64 (y.f k)):=bQ _ hlt;haveI g3:Put (ao 16 (D k)) k (.int .i64 (x.f k-y.f k)) (ao 16 (D (k+1))):=dS hlt fun i hi=>by
    rw[HD.out];simp only;by_cases e:i=k
    ·subst e;rw[if_pos rfl,if_pos (by omega)]
    ·rw[if_neg e]
     by_cases h:i<k
     ·rw[if_pos h,if_pos (by omega)]
     ·rw[if_neg h,if_neg (by omega)]
   generalize D k=s,y.f=yf at *
   generalize yf k=v,x.f k=u at *
   have wu:IntKind.i64.wrap (u-v)=u-v:=IntWalk.i64_in _ (by omega);clear HZ HE HD HX HY HY';go_wp2_with fail;refine wf [(0,true),(1,true),(2,true),(3,false),(4,true),(5,true),(6,false),(7,true),(8,true)] [] [9] hL ?_;refine fA ?_;refine fB ?_;clear hL;intro w1 hL;go_wp2_with (first|(refine aQq ?_;clear hL;intro _ w1 hL));go_roundw;case rel=>exact⟨k+1,by omega,by go_num,hL⟩
   case measure=>simp[intOf];omega
  ·obtain rfl:k=16:=by omega
   rw[HE.out]at hL;go_wp2_with (first|(refine aQq ?_;clear hL;intro _ w1 hL));exact bodyPost_ret (ai rfl hL rfl) rfl ⟨rfl,hL.bel⟩
instance Lv:Ent 142:=eo func142
instance Lw(x y:El):FnC 142 #[.agg (rowEl x),.agg (rowEl y)] (.agg (rowEl (x.sub y))):=⟨fy x y⟩
end R3
namespace R3
open Go Go.Proofs.YtoifhhljfaoejaaGreatDoor Go.RowKit
def El.carried(x:El):El:=⟨bC x.f,oE fun i hi=>by have:=x.h i hi;omega⟩
instance No(x:El):FnC 190 #[.agg (rowEl x)] (.agg (rowEl x.carried)):=⟨gV _ fun i hi=>by have:=x.h i hi;omega⟩
theorem Aw(x y:El):FnC 190 #[.agg (ao 16 (um x y))] (.agg (ao 16 (oG x y))):=⟨gV _ fun i hi=>by have:=yS x y i hi;omega⟩
theorem xp(x y:El):FnC 190 #[.agg (ao 16 (oG x y))] (.agg (rowEl (x.mul y))):=⟨gV _ fun i hi=>by
 rcases Nat.eq_zero_or_pos i with e|e
 ·subst e;have:=un x y;omega
 ·have:=uq x y i e;omega⟩
theorem nE(x y:El)(w:World):Rt 130 #[.agg (rowEl x),.agg (rowEl y)] w (.agg (rowEl (x.mul y))):=by
 have hL:=Loc.nil w;haveI f1:=Aw x y;haveI f2:=xp x y;obtain⟨T,hT⟩:∃T,T=tM x.f y.f 16 0:=⟨_,rfl⟩;have HO:=Hd (show um x y=oF T from by rw[hT];rfl);have HTB:=Hd (show ∀j,-274877906944≤T j∧T j≤274877906944 from fun j=>by rw[hT];exact sy x.h y.h 16 0 (by omega) (by omega) (.inr rfl) j);have HT:=Hd hT;clear hT;have HZ:=Hd (show ao 31 (fun _=>0)=ao 31 (tM x.f y.f 0 0)from by rw[sw]);have HX:=Hd x.h;have HY:=Hd y.h;have HLIM:=Hd (sy x.h y.h);have HX':=Hd (show rowEl x=ao 16 x.f from rfl);have HY':=Hd (show rowEl y=ao 16 y.f from rfl);rw[HX'.out,HY'.out];generalize oG x y=mc,um x y=mo at *
 go_enter func130,ntmps130;go_wp2_with (first|(refine gBp 2 ?_;clear hL;intro b2 w1 hL)|(refine gBp 3 ?_;clear hL;intro b3 w1 hL)|(refine gBp 4 ?_;clear hL;intro b4 w1 hL)|(refine gBp 5 ?_;clear hL;intro b5 w1 hL)|(refine aQq ?_;clear hL;intro _ w1 hL));rw[HZ.out]at hL;go_loopw [6] (fun kk wr=>∃i:Nat,i≤16∧kk= .int .i64 i∧Loc w wr [(b5,ao 31 (tM x.f y.f i 0),265),(b4,ao 16 fun _=>0,147),(b3,ao 16 y.f,147),(b2,ao 16 x.f,147)]) (fun kk _=>16-(intOf kk).toNat);case atStart=>exact⟨0,by omega,rfl,hL⟩
 case round =>
  clear hL;obtain⟨i,hi,rfl,hL⟩:=hrel;by_cases hlt:i<16
  ·have hi0:(0:Int)≤(i:Int):=by omega
   have hi1:(i:Int)<16:=by omega
   go_wp2_with (first|(refine aQq ?_;clear hL;intro _ w1 hL));go_loopw [7] (fun kk wr=>∃k:Nat,k≤16∧kk= .int .i64 k∧Loc w wr [(b5,ao 31 (tM x.f y.f i k),265),(b4,ao 16 fun _=>0,147),(b3,ao 16 y.f,147),(b2,ao 16 x.f,147)]) (fun kk _=>16-(intOf kk).toNat);case atStart=>exact⟨0,by omega,rfl,hL⟩
   case round =>
    clear hL;obtain⟨k,hk,rfl,hL⟩:=hrel;by_cases hkl:k<16
    ·have hk0:(0:Int)≤(k:Int):=by omega
     have hk1:(k:Int)<16:=by omega
     have ht:=HLIM.out i k hi (by omega) (.inl hlt) (i+k);have hm:=CA (HX.out i hlt) (HY.out k hkl);haveI g1:Cell (ao 31 (tM x.f y.f i k)) (i+k) (.int .i64 (tM x.f y.f i k (i+k))):=bQ _ (by omega);haveI g2:Cell (ao 16 x.f) i (.int .i64 (x.f i)):=bQ _ hlt;haveI g3:Cell (ao 16 y.f) k (.int .i64 (y.f k)):=bQ _ hkl;haveI g4:Put (ao 31 (tM x.f y.f i k)) (i+k) (.int .i64 (tM x.f y.f i k (i+k)+x.f i*y.f k)) (ao 31 (tM x.f y.f i (k+1))):=dS (by omega) fun j hj=>by
      rw[sx];simp only;by_cases e:j=i+k
      ·subst e;simp only[if_true]
      ·rw[if_neg e,if_neg e]
     generalize tM x.f y.f i k=s at *
     have hik:(i:Int)+(k:Int)=((i+k:Nat):Int):=by omega
     have hk31:((i+k:Nat):Int)<31:=by omega
     have hk30:(0:Int)≤((i+k:Nat):Int):=by omega
     have wk:IntKind.i64.wrap ((i+k:Nat):Int)=((i+k:Nat):Int):=IntWalk.i64_in _ (by omega);generalize i+k=q at *
     generalize s q=t,x.f=xf,y.f=yf at *
     generalize hp:xf i*yf k=p at *
     have wp:IntKind.i64.wrap p=p:=IntWalk.i64_in _ (by omega);have wt:IntKind.i64.wrap (t+p)=t+p:=IntWalk.i64_in _ (by omega);generalize xf i=u,yf k=v at *
     clear HO HTB HT HZ HX HY HLIM HX' HY';go_wp2_with fail;refine wf [(0,true),(1,true),(2,true),(3,true),(4,true),(5,true),(6,true),(7,false),(8,true),(9,true),(10,false),(11,true),(12,true),(13,false),(14,true),(15,true),(16,true)] [] [17] hL ?_;refine fA ?_;refine fB ?_;clear hL;intro w1 hL;go_wp2_with (first|(refine aQq ?_;clear hL;intro _ w1 hL));go_roundw;case rel=>exact⟨k+1,by omega,by go_num,hL⟩
     case measure=>simp[intOf];omega
    ·obtain rfl:k=16:=by omega
     rw[← xj]at hL;go_wp2_with (first|(refine aQq ?_;clear hL;intro _ w1 hL));go_roundw;case rel=>exact⟨i+1,by omega,by go_num,hL⟩
     case measure=>simp[intOf];omega
  ·obtain rfl:i=16:=by omega
   rw[← HT.out]at hL;have HOE:=Hd (show ∀j,(fun k j=>if j<k then oF T j else 0) 16 j=(fun k j=>if j<k then oF T j else 0) 16 j from fun _=>rfl);obtain⟨D,hD⟩:∃D:Nat→Nat→Int,D=fun k i=>if i<k then oF T i else 0:=⟨_,rfl⟩;have HD:=Hd hD;have HZ2:=Hd (show ao 16 (fun _=>0)=ao 16 (D 0)from bH fun i _=>by rw[hD];simp);have HE:=Hd (show ao 16 (D 16)=ao 16 mo from bH fun i hi=>by rw[hD,HO.out];simp only;rw[if_pos hi]);clear hD HZ HX HY HLIM HX' HY' HOE;generalize x.f=xf,y.f=yf at *
   go_wp2_with (first|(refine gBp 8 ?_;clear hL;intro b8 w1 hL)|(refine aQq ?_;clear hL;intro _ w1 hL));go_loopw [9] (fun kk wr=>∃k:Nat,k≤16∧kk= .int .i64 k∧Loc w wr [(b8,ao 16 (D k),147),(b5,ao 31 T,265),(b4,ao 16 fun _=>0,147),(b3,ao 16 yf,147),(b2,ao 16 xf,147)]) (fun kk _=>16-(intOf kk).toNat);case atStart=>exact⟨0,by omega,rfl,by rw[← HZ2.out];exact hL⟩
   case round =>
    clear hL hlt hi;obtain⟨k,hk,rfl,hL⟩:=hrel;by_cases hkl:k<16
    ·have hk0:(0:Int)≤(k:Int):=by omega
     have hk1:(k:Int)<16:=by omega
     have h1:=HTB.out k;have h2:=HTB.out (k+16);obtain⟨mid,hmid⟩:∃mid:Nat→Int,mid=fun i=>if i=k then T k else D k i:=⟨_,rfl⟩;haveI g1:Cell (ao 31 T) k (.int .i64 (T k)):=bQ _ (by omega);haveI g2:Put (ao 16 (D k)) k (.int .i64 (T k)) (ao 16 mid):=dS hkl fun i hi=>by rw[hmid]
     by_cases h15:k<15
     ·haveI g3:Cell (ao 31 T) (k+16) (.int .i64 (T (k+16))):=bQ _ (by omega)
      haveI g4:Cell (ao 16 mid) k (.int .i64 (T k)):=by
       have:mid k=T k:=by rw[hmid];simp
       rw[← this];exact bQ _ hkl
      haveI g5:Put (ao 16 mid) k (.int .i64 (T k+38*T (k+16))) (ao 16 (D (k+1))):=dS hkl fun i hi=>by
       rw[hmid,HD.out];simp only;by_cases e:i=k
       ·subst e;rw[if_pos rfl,if_pos (by omega)];unfold oF;rw[if_pos h15]
       ·rw[if_neg e,if_neg e]
        by_cases h:i<k
        ·rw[if_pos h,if_pos (by omega)]
        ·rw[if_neg h,if_neg (by omega)]
      clear hmid;have w1:IntKind.i64.wrap (38*T (k+16))=38*T (k+16):=IntWalk.i64_in _ (by omega);have w2:IntKind.i64.wrap (T k+38*T (k+16))=T k+38*T (k+16):=IntWalk.i64_in _ (by omega);have h15':(k:Int)<15:=by omega
      have wk:(k:Int)+16=((k+16:Nat):Int):=by omega
      have hq1:((k+16:Nat):Int)<31:=by omega
      have hq0:(0:Int)≤((k+16:Nat):Int):=by omega
      have ww:IntKind.i64.wrap ((k+16:Nat):Int)=((k+16:Nat):Int):=IntWalk.i64_in _ (by omega);generalize k+16=q at *
      generalize T q=u,T k=v,D k=s at *
      clear HO HTB HT HZ2 HE HD;go_wp2_with (first|(refine aQq ?_;clear hL;intro _ w1 hL));refine wf [(0,true),(1,true),(2,true),(3,false),(4,true),(5,true),(6,true),(7,false),(8,true),(9,true),(10,true)] [] [11] hL ?_;refine fA ?_;refine fB ?_;clear hL;intro w1 hL;go_wp2_with (first|(refine aQq ?_;clear hL;intro _ w1 hL));go_roundw;case rel=>exact⟨k+1,by omega,by go_num,hL⟩
      case measure=>simp[intOf];omega
     ·obtain rfl:k=15:=by omega
      have HM:=Hd (show ao 16 mid=ao 16 (D 16)from bH fun i hi=>by
       rw[hmid,HD.out];simp only;by_cases e:i=15
       ·subst e;rw[if_pos rfl,if_pos (by omega)];unfold oF;rw[if_neg (by omega)]
       ·rw[if_neg e,if_pos (by omega),if_pos (by omega)])
      clear hmid;generalize T 15=v,D 15=s at *
      go_wp2_with (first|(refine aQq ?_;clear hL;intro _ w1 hL));go_roundw;case rel=>exact⟨16,by omega,by go_num,by rw[← HM.out];exact hL⟩
      case measure=>simp[intOf]
    ·obtain rfl:k=16:=by omega
     rw[HE.out]at hL;go_wp2_with (first|(refine aQq ?_;clear hL;intro _ w1 hL));exact bodyPost_ret (ai rfl hL rfl) rfl ⟨rfl,hL.bel⟩
instance Np:Ent 130:=eo func130
instance Nq(x y:El):FnC 130 #[.agg (rowEl x),.agg (rowEl y)] (.agg (rowEl (x.mul y))):=⟨nE x y⟩
theorem Fn(n:Nat)(h:n<65536):Put (ao 16 fun _=>0) 0 (.int .i64 (n:Int)) (rowEl (El.of n)):=dS (by omega) fun i hi=>by
 show _=(dg n i:Int);unfold dg;by_cases e:i=0
 ·subst e;rw[if_pos rfl,Nat.mul_zero,Nat.pow_zero,Nat.div_one,Nat.mod_eq_of_lt h]
 ·rw[if_neg e,Nat.div_eq_of_lt (Nat.lt_of_lt_of_le h (Nat.le_trans (show 65536≤2^16 by omega) (Nat.pow_le_pow_right (by omega) (by omega))))]
  rfl
theorem Fo(w:World):Rt 132 #[.int .i64 1] w (.agg (rowEl El.one)):=by
 have hL:=Loc.nil w;haveI g1:Put (ao 16 fun _=>0) 0 (.int .i64 1) (rowEl El.one):=Fn 1 (by omega);go_enter func132,ntmps132;go_wp2_with (first|(refine aQq ?_;clear hL;intro _ w1 hL));exact bodyPost_ret (ai rfl hL rfl) rfl ⟨rfl,hL.bel⟩
instance Nr:Ent 132:=eo func132
instance Ns:FnC 132 #[.int .i64 1] (.agg (rowEl El.one)):=⟨Fo⟩
end R3
namespace R3
open Go Go.Proofs.YtoifhhljfaoejaaGreatDoor Go.RowKit
theorem sD(x:El):rowEl x.carried.carried.carried.carried=ao 16 (fun i=>(dg (sz x) i:Int)):=bH fun i hi=>Fi x i hi
theorem Fp:∀i:Fin 16,0<i.val→i.val<15→dg P i.val=65535:=by decide +kernel
theorem JA:dg P 0=65517:=by decide +kernel
theorem Hi:dg P 15=32767:=by decide +kernel
theorem CL(n:Nat):cm n 0=(dg n 0:Int)-65517:=by
 unfold cm;rw[JA];show _-_-(0:Int)=_;omega
theorem Fq(n:Nat){i:Nat}(h0:0<i)(h:i<15):cm n i=(dg n i:Int)-65535-bits .and .i64 (cm n (i-1)/65536) 1:=by
 obtain⟨k,rfl⟩:∃k,i=k+1:=⟨i-1,by omega⟩;rw[show k+1-1=k from rfl,and_one,jR];have:=Fp ⟨k+1,by omega⟩ (by simp) (by simpa using h);simp only at this;unfold cm;rw[this];rfl
theorem CM(n:Nat):cm n 15=(dg n 15:Int)-32767-bits .and .i64 (cm n 14/65536) 1:=by
 rw[and_one,jR];unfold cm;rw[Hi];rfl
def kN(n k i:Nat):Int:=if i=k then cm n k else stM n k i
theorem jt(n:Nat){k:Nat}(h:0<k):stM n k (k-1)=cm n (k-1):=by
 unfold stM;rw[if_neg (by omega),if_pos (by omega)]
theorem yX(n:Nat){k:Nat}(h:k<16)(x:Int)(e:cm n k=x):Put (ao 16 (stM n k)) k (.int .i64 x) (ao 16 (kN n k)):=dS h fun i hi=>by
 unfold kN;rw[e]
theorem yY(n:Nat){k:Nat}(h0:0<k)(h:k<16):Put (ao 16 (kN n k)) (k-1) (.int .i64 (bits .and .i64 (cm n (k-1)) 65535)) (ao 16 (stM n (k+1))):=dS (by omega) fun i hi=>by
 rw[Au];unfold kN stM;by_cases e:i=k-1
 ·subst e
  rw[if_pos rfl,if_pos (by omega)]
 ·rw[if_neg e]
  by_cases e2:i=k
  ·subst e2;rw[if_pos rfl,if_neg (by omega),if_pos rfl]
  ·rw[if_neg e2]
   by_cases h3:i+1<k
   ·rw[if_pos h3,if_pos (by omega)]
   ·rw[if_neg h3,if_neg (by omega),if_neg (by omega),if_neg (by omega)]
theorem Hj(n:Nat)(h:n<2^256)(hp:P≤n):ao 16 (stM n 16)=ao 16 (fun i=>(dg (kd n) i:Int)):=bH fun i hi=>by
 have h0:=(lf h).2 hp;have h1:=Hf h hp i hi;rw[CF hp,← h1];unfold stM;by_cases e:i+1<16
 ·rw[if_pos e]
 ·rw[if_neg e,if_pos (by omega)]
  obtain rfl:i=15:=by omega
  have:=ld n 15;omega
def byK(n k:Nat):Nat→BitVec 8:=fun i=>if i<2*k then ab n i else 0
def CN(n k:Nat):Nat→BitVec 8:=fun i=>if i<2*k+1 then ab n i else 0
theorem Hk(n k:Nat)(h:k<16):Put (aa 32 (byK n k)) (2*k) (.int .u8 (B8 (ab n (2*k)))) (aa 32 (CN n k)):=a9 (by omega) (ak fun i _=>by
 unfold upd byK CN;by_cases e:i=2*k
 ·subst e;rw[if_pos rfl,if_pos (by omega)]
 ·rw[if_neg e]
  show Value.int .u8 (B8 (if i<2*k then ab n i else 0))=_;by_cases h:i<2*k
  ·rw[if_pos h,if_pos (by omega)]
  ·rw[if_neg h,if_neg (by omega)])
theorem Hl(n k:Nat)(h:k<16):Put (aa 32 (CN n k)) (2*k+1) (.int .u8 (B8 (ab n (2*k+1)))) (aa 32 (byK n (k+1))):=a9 (by omega) (ak fun i _=>by
 unfold upd byK CN;by_cases e:i=2*k+1
 ·subst e;rw[if_pos rfl,if_pos (by omega)]
 ·rw[if_neg e]
  show Value.int .u8 (B8 (if i<2*k+1 then ab n i else 0))=_;by_cases h:i<2*k+1
  ·rw[if_pos h,if_pos (by omega)]
  ·rw[if_neg h,if_neg (by omega)])
theorem Fr(x:El)(w:World):Rt 129 #[.agg (rowEl x)] w (.agg (aa 32 (ab x.v.val))):=by
 have hL:=Loc.nil w;have HC:=Hd (sD x);have HFIN:=Hd (show kd (kd (kd (sz x)))=x.v.val from by rw[xo (yT x),CD]);have hN0:=yT x;generalize sz x=N0 at *
 obtain⟨N,hN,hNs,hNe⟩:∃N:Nat→Nat,N 0=N0∧(∀k,N (k+1)=kd (N k))∧N 3=x.v.val:=⟨fun k=>Nat.rec N0 (fun _ n=>kd n) k,rfl,fun _=>rfl,HFIN.out⟩;have hNlt:∀k,N k<2^256:=fun k=>by
  induction k with
  | zero=>rw[hN];exact hN0
  | succ k ih=>rw[hNs];exact Fj ih
 rw[← hN]at HC;rw[← hNe];have HN:=Hd hNs;have HLT:=Hd hNlt;clear hN hNs hNe hNlt hN0 HFIN;go_enter func129,ntmps129;go_wp2_with (first|(refine gBp 1 ?_;clear hL;intro b1 w1 hL)|(refine gBp 2 ?_;clear hL;intro b2 w1 hL)|(refine aQq ?_;clear hL;intro _ w1 hL));rw[HC.out]at hL;clear HC;go_loopw [3] (fun kk wr=>∃k:Nat,k≤3∧kk= .int .i64 k∧Loc w wr [(b2,aa 32 fun _=>0,24),(b1,ao 16 (fun i=>(dg (N k) i:Int)),147)]) (fun kk _=>3-(intOf kk).toNat);case atStart=>exact⟨0,by omega,rfl,hL⟩
 case round =>
  clear hL;obtain⟨k,hk,rfl,hL⟩:=hrel;by_cases hlt:k<3
  ·have hk0:(0:Int)≤(k:Int):=by omega
   have hk1:(k:Int)<3:=by omega
   have hn:=HLT.out k;have HNk:=Hd (HN.out k);generalize N k=n at *
   have d0:=oH n 0;have d15:=oH n 15;haveI g1:Cell (ao 16 (fun i=>(dg n i:Int))) 0 (.int .i64 (dg n 0:Nat)):=bQ _ (by omega);haveI g2:Put (ao 16 fun _=>0) 0 (.int .i64 ((dg n 0:Nat)-65517)) (ao 16 (stM n 1)):=dS (by omega) fun i hi=>by
    unfold stM;by_cases e:i=0
    ·subst e;rw[if_pos rfl,if_neg (by omega),if_pos rfl,CL]
    ·rw[if_neg e,if_neg (by omega),if_neg (by omega)]
   haveI g3:Cell (ao 16 (fun i=>(dg n i:Int))) 15 (.int .i64 (dg n 15:Nat)):=bQ _ (by omega);haveI g4:Cell (ao 16 (stM n 15)) 14 (.int .i64 (cm n 14)):=by
    rw[← jt n (k:=15) (by omega)];exact bQ _ (by omega)
   haveI g5:Put (ao 16 (stM n 15)) 15 (.int .i64 ((dg n 15:Nat)-32767-bits .and .i64 (cm n 14/65536) 1)) (ao 16 (kN n 15)):=yX n (by omega) _ (CM n);haveI g6:Put (ao 16 (kN n 15)) 14 (.int .i64 (bits .and .i64 (cm n 14) 65535)) (ao 16 (stM n 16)):=yY n (k:=15) (by omega) (by omega);haveI g7:Cell (ao 16 (stM n 16)) 15 (.int .i64 (cm n 15)):=by
    rw[← jt n (k:=16) (by omega)];exact bQ _ (by omega)
   haveI g8:Cell (ao 16 (kN n 15)) 14 (.int .i64 (cm n 14)):=by
    have:kN n 15 14=cm n 14:=by unfold kN;rw[if_neg (by omega),jt n (k:=15) (by omega)]
    rw[← this];exact bQ _ (by omega)
   have hb:=jR n 14;have hb':=yU n 15;have ha:=and_one (cm n 14/65536);have w0:IntKind.i64.wrap ((dg n 0:Nat)-65517)=(dg n 0:Nat)-65517:=IntWalk.i64_in _ (by omega);have w1:IntKind.i64.wrap ((dg n 15:Nat)-32767)=(dg n 15:Nat)-32767:=IntWalk.i64_in _ (by omega);have w2:IntKind.i64.wrap ((dg n 15:Nat)-32767-bits .and .i64 (cm n 14/65536) 1)=(dg n 15:Nat)-32767-bits .and .i64 (cm n 14/65536) 1:=IntWalk.i64_in _ (by omega);clear hb hb' ha;go_wp2_with (first|(refine gBp 4 ?_;clear hL;intro b4 w1 hL)|(refine aQq ?_;clear hL;intro _ w1 hL));go_loopw [5] (fun kk wr=>∃i:Nat,1≤i∧i≤15∧kk= .int .i64 i∧Loc w wr [(b4,ao 16 (stM n i),147),(b2,aa 32 fun _=>0,24),(b1,ao 16 (fun i=>(dg n i:Int)),147)]) (fun kk _=>15-(intOf kk).toNat);case atStart=>exact⟨1,by omega,by omega,rfl,hL⟩
   case round =>
    clear hL;obtain⟨i,hi1,hi,rfl,hL⟩:=hrel;by_cases hil:i<15
    ·have hi0:(1:Int)≤(i:Int):=by omega
     have hi2:(i:Int)<15:=by omega
     have i00:(0:Int)≤(i:Int):=by omega
     have i16:(i:Int)<16:=by omega
     haveI g1:Cell (ao 16 (fun i=>(dg n i:Int))) i (.int .i64 (dg n i:Nat)):=bQ (fun i=>(dg n i:Int)) (by omega);haveI g2:Cell (ao 16 (stM n i)) (i-1) (.int .i64 (cm n (i-1))):=by
      rw[← jt n (k:=i) (by omega)];exact bQ _ (by omega)
     haveI g3:Put (ao 16 (stM n i)) i (.int .i64 ((dg n i:Nat)-65535-bits .and .i64 (cm n (i-1)/65536) 1)) (ao 16 (kN n i)):=yX n (by omega) _ (Fq n (by omega) hil);haveI g4:Put (ao 16 (kN n i)) (i-1) (.int .i64 (bits .and .i64 (cm n (i-1)) 65535)) (ao 16 (stM n (i+1))):=yY n (by omega) (by omega);haveI g5:Cell (ao 16 (kN n i)) (i-1) (.int .i64 (cm n (i-1))):=by
      have:kN n i (i-1)=cm n (i-1):=by unfold kN;rw[if_neg (by omega),jt n (by omega)]
      rw[← this];exact bQ _ (by omega)
     have hd:=oH n i;have ha:=and_one (cm n (i-1)/65536);have w1:IntKind.i64.wrap ((dg n i:Nat)-65535)=(dg n i:Nat)-65535:=IntWalk.i64_in _ (by omega);have w2:IntKind.i64.wrap ((dg n i:Nat)-65535-bits .and .i64 (cm n (i-1)/65536) 1)=(dg n i:Nat)-65535-bits .and .i64 (cm n (i-1)/65536) 1:=IntWalk.i64_in _ (by omega);have wi:IntKind.i64.wrap ((i-1:Nat):Int)=((i-1:Nat):Int):=by rw[IntKind.wrap_i64];omega
     have q0:(0:Int)≤((i-1:Nat):Int):=by omega
     have q1:((i-1:Nat):Int)<16:=by omega
     have e1:(i:Int)-1=((i-1:Nat):Int):=by omega
     clear ha hd;generalize i-1=j at *
     generalize cm n j=r,kN n i=m,stM n i=s,dg n i=d at *
     go_wp2_with fail;refine wf [(0,true),(1,true),(2,true),(3,false),(4,true),(5,true),(6,true),(7,true),(8,false),(9,true),(10,true),(11,true),(12,true)] [] [13] hL ?_;refine fA ?_;refine fB ?_;clear hL;intro w1 hL;go_wp2_with (first|(refine aQq ?_;clear hL;intro _ w1 hL));go_roundw;case rel=>exact⟨i+1,by omega,by omega,by go_num,hL⟩
     case measure=>simp[intOf];omega
    ·obtain rfl:i=15:=by omega
     by_cases hp:P≤n
     ·have hs:0≤cm n 15:=(lf hn).2 hp
      have HS:=Hd (Hj n hn hp);rw[← HNk.out]at HS;generalize cm n 15=r at *
      go_wp2_with (first|(refine aQq ?_;clear hL;intro _ w1 hL));go_roundw;case rel=>exact⟨k+1,by omega,by go_num,by rw[HS.out]at hL;exact hL.pop⟩
      case measure=>simp[intOf];omega
     ·have hs:¬0≤cm n 15:=fun h=>hp ((lf hn).1 h)
      have HS:=Hd (show N (k+1)=n from by rw[HNk.out,CG hp]);generalize cm n 15=r at *
      go_wp2_with (first|(refine aQq ?_;clear hL;intro _ w1 hL));go_roundw;case rel=>exact⟨k+1,by omega,by go_num,by rw[HS.out];exact hL.pop⟩
      case measure=>simp[intOf];omega
  ·obtain rfl:k=3:=by omega
   clear HN HLT hlt hk;have HB0:=Hd (show(aa 32 fun _=>0)=aa 32 (byK (N 3) 0)from ak fun i _=>by unfold byK;rw[if_neg (by omega)]);have HB16:=Hd (show aa 32 (byK (N 3) 16)=aa 32 (ab (N 3))from ak fun i hi=>by unfold byK;rw[if_pos (by omega)]);go_wp2_with (first|(refine gBp 6 ?_;clear hL;intro b6 w1 hL)|(refine aQq ?_;clear hL;intro _ w1 hL));go_loopw [7] (fun kk wr=>∃k:Nat,k≤16∧kk= .int .i64 k∧Loc w wr [(b6,aa 32 (byK (N 3) k),24),(b2,aa 32 fun _=>0,24),(b1,ao 16 (fun i=>(dg (N 3) i:Int)),147)]) (fun kk _=>16-(intOf kk).toNat);case atStart=>exact⟨0,by omega,rfl,by rw[← HB0.out];exact hL⟩
   case round =>
    clear hL;obtain⟨k,hk,rfl,hL⟩:=hrel;by_cases hlt:k<16
    ·have hk0:(0:Int)≤(k:Int):=by omega
     have hk1:(k:Int)<16:=by omega
     have hd:=oH (N 3) k;have v0:=Av (N 3) k;have v1:=CH (N 3) k;have a0:=and_255 (dg (N 3) k:Nat);have a1:=and_255 ((dg (N 3) k:Nat)/256:Int);have p0:=Hk (N 3) k hlt;have p1:=Hl (N 3) k hlt;rw[← v0,← a0]at p0;rw[← v1,← a1]at p1;haveI p0:=p0;haveI p1:=p1;haveI g1:Cell (ao 16 (fun i=>(dg (N 3) i:Int))) k (.int .i64 (dg (N 3) k:Nat)):=bQ (fun i=>(dg (N 3) i:Int)) hlt;have w0:IntKind.u8.wrap (bits .and .i64 (dg (N 3) k:Nat) 255)=bits .and .i64 (dg (N 3) k:Nat) 255:=by rw[a0,IntKind.wrap_u8];omega
     have w1:IntKind.u8.wrap (bits .and .i64 ((dg (N 3) k:Nat)/256:Int) 255)=bits .and .i64 ((dg (N 3) k:Nat)/256:Int) 255:=by rw[a1,IntKind.wrap_u8];omega
     have e1:2*(k:Int)=((2*k:Nat):Int):=by omega
     have e2:((2*k:Nat):Int)+1=((2*k+1:Nat):Int):=by omega
     have q1:((2*k+1:Nat):Int)<32:=by omega
     have q0:(0:Int)≤((2*k+1:Nat):Int):=by omega
     have r1:((2*k:Nat):Int)<32:=by omega
     have r0:(0:Int)≤((2*k:Nat):Int):=by omega
     have wk:IntKind.i64.wrap ((2*k:Nat):Int)=((2*k:Nat):Int):=IntWalk.i64_in _ (by omega);have wl:IntKind.i64.wrap ((2*k+1:Nat):Int)=((2*k+1:Nat):Int):=IntWalk.i64_in _ (by omega);clear v0 v1 a0 a1 hd HB0 HB16;generalize CN (N 3) k=m,byK (N 3) k=s,2*k+1=q at *
     generalize 2*k=p,dg (N 3) k=d at *
     go_wp2_with (first|(refine aQq ?_;clear hL;intro _ w1 hL));go_roundw;case rel=>exact⟨k+1,by omega,by go_num,hL⟩
     case measure=>simp[intOf];omega
    ·obtain rfl:k=16:=by omega
     rw[HB16.out]at hL;go_wp2_with (first|(refine aQq ?_;clear hL;intro _ w1 hL));exact bodyPost_ret (ai rfl hL rfl) rfl ⟨rfl,hL.bel⟩
instance Nt:Ent 129:=eo func129
instance Nu(x:El):FnC 129 #[.agg (rowEl x)] (.agg (aa 32 (ab x.v.val))):=⟨Fr x⟩
end R3
section
open Go.RowKit
def uu(n:Nat):Array Value:=row 8 (lv n)
theorem Fs{x a b:Nat}(hx:x<2^a)(h:a≤b):x<2^b:=Nat.lt_of_lt_of_le hx (Nat.pow_le_pow_right (by decide) h)
theorem CO:(prog.info? 227).map (fun i=>(i.zero,i.size,i.bytes))=some (some (.int .u64 0),1,8):=by kernel_rfl
theorem Ax:madeCells #[Value.int .u64 0] 8=uu 0:=by kernel_rfl
theorem Hm(w:World):(Instr.makeSlice 354 (.int .i64 8) (.int .i64 8)).run prog w= .ok (.slice (some ⟨w.heap.size,0,none⟩) 8 8) (w.alloc (.cells (uu 0) 227)):=by
 rw[← Ax];exact run_make_row' 354 227 _ 8 underlying354 CO rfl .i64 .i64 8 (by omega) (by omega) w
theorem CP(f:Nat→BitVec 8)(k n:Nat):row n (upd (lv (leK f k)) (k/8) (.int .u64 (lw (leK f (k+1)) (k/8):Nat)))=row n (lv (leK f (k+1))):=ak fun p hp=>by
 unfold upd;by_cases e:p=k/8
 ·subst e;rw[if_pos rfl];rfl
 ·rw[if_neg e]
  have:lw (leK f k) p=lw (leK f (k+1)) p:=by
   rcases Nat.lt_or_ge p (k/8)with h|h
   ·obtain⟨d,hd⟩:∃d,k/8=p+1+d:=⟨k/8-(p+1),by omega⟩
    unfold lw;rw[oa,hd,Nat.mul_add,Nat.pow_add,Nat.mul_succ,Nat.pow_add,Nat.mul_assoc,Nat.mul_assoc,it _ _ _ (Nat.two_pow_pos _)];exact(Nat.add_mul_mod_self_left _ _ _).symm
   ·have h1:leK f k<2^(64*p):=Nat.lt_of_lt_of_le (df f k) (Nat.pow_le_pow_right (by omega) (by omega))
    have h2:leK f (k+1)<2^(64*p):=Nat.lt_of_lt_of_le (df f (k+1)) (Nat.pow_le_pow_right (by omega) (by omega));unfold lw;rw[Nat.div_eq_of_lt h1,Nat.div_eq_of_lt h2]
  unfold lv;rw[this]
theorem Gr(n:Nat):∀k,uv (lw n) k=n%2^(64*k)
 | 0=>by rw[Nat.mul_zero,Nat.pow_zero,Nat.mod_one];rfl
 | k+1=>by
  show uv (lw n) k+lw n k*2^(64*k)=_;rw[Gr n k,Nat.mul_succ,Nat.pow_add,Nat.mod_mul];unfold lw;rw[Nat.mul_comm (2^(64*k)) (n/2^(64*k)%2^64)]
theorem JB{ops:Array Oper}{rest:List Oper}{o:Oper}{a:Act}{w0 w:World}{M:Mem}{Q:Exit→Act→World→Prop}(hL:Loc w0 w M)(hg:o.guard=none)(ho:o.op= .makeSlice 354 (.const (.int .i64 8)) (.const (.int .i64 8)))(h:∀b w',Loc w0 w' ((b,uu 0,227)::M)→wpList prog ops Q rest (a.put o.dst (.slice (some ⟨b,0,none⟩) 8 8)) w'):wpList prog ops Q (o::rest) a w :=
 wpList_plain hg fun _ hK=>by
  unfold Oper.wp execOp;simp only[ho,BigFrame.eval_const,Sem.run_bind,Hm,Result.andThen_ok,Sem.run_pure];exact hK _ _ (h _ _ (hL.alloc _ _))
theorem xq(f:Nat→BitVec 8)(n c B:Nat)(w:World)(hn:n≤64)(hcap:n≤c)(hw:∀i,i<n→Was w B i (.int .u8 (B8 (f i)))) :
 Rt 281 #[.slice (some ⟨B,0,none⟩) n c] w (.agg (aa 32 (ab (leK f n%Qo)))):=by
 have hL:=Loc.nil w;have HW:=Hd hw;have hn1:(n:Int)≤64:=by omega
 have hn2:(n:Int)≤(c:Int):=by omega
 have hm:min (n:Int) 64=(n:Int):=by omega
 have hn0:(0:Int)≤(n:Int):=by omega
 clear hw;go_enter func281,ntmps281;go_wp2_with (first|(refine gBp 2 ?_;clear hL;intro b2 w1 hL)|(refine gN 6 ?_;refine JB hL rfl rfl fun b6 w1 hL1=>?_;clear hL;have hL:=hL1;clear hL1)|(refine aQq ?_;clear hL;intro _ w1 hL));go_loopw [13] (fun kk wr=>∃k:Nat,k≤n∧kk= .int .i64 k∧Loc w wr [(b6,uu (leK f k),227),(b2,aa 32 fun _=>0,24)]) (fun kk _=>n-(intOf kk).toNat);case atStart=>exact⟨0,by omega,rfl,hL⟩
 case round =>
  clear hL;obtain⟨k,hk,rfl,hL⟩:=hrel;by_cases hlt:k<n
  ·have hk0:(0:Int)≤(k:Int):=by omega
   have hk1:(k:Int)<(n:Int):=by omega
   haveI g0:Was w B k (.int .u8 (B8 (f k))):=HW.out k hlt;haveI g1:Cell (uu (leK f k)) (k/8) (.int .u64 (lw (leK f k) (k/8):Nat)):=aI _ (by omega);have gl:=CP f k 8;have hv:=yB f k;rw[← hv]at gl;haveI g2:Put (uu (leK f k)) (k/8) (.int .u64 (bits .or .u64 (lw (leK f k) (k/8):Int) (IntKind.u64.wrap (B8 (f k)*2^(8*(k%8)))))) (uu (leK f (k+1))):=a9 (by omega) gl;clear gl hv;have e1:(k:Int)/8=((k/8:Nat):Int):=by omega
   have e2:(k:Int)%8=((k%8:Nat):Int):=by omega
   have hq1:((k/8:Nat):Int)<8:=by omega
   have hq2:k/8<8:=by omega
   have hr1:((k%8:Nat):Int)<8:=by omega
   have wb:IntKind.u64.wrap (B8 (f k))=B8 (f k):=by have:=bK (f k);rw[IntKind.wrap_u64];omega
   have hm:min (8*(k%8)) 64=8*(k%8):=by omega
   generalize k/8=q,k%8=r at *
   have wq:IntKind.i64.wrap (q:Int)=(q:Int):=IntWalk.i64_in _ (by omega);have wr':IntKind.i64.wrap (r:Int)=(r:Int):=IntWalk.i64_in _ (by omega);have ws:IntKind.i64.wrap (8*(r:Int))=((8*r:Nat):Int):=IntWalk.i64_in _ (by omega);have e3:(k:Int).tdiv 8=(q:Int):=by rw[Int.tdiv_eq_ediv_of_nonneg (by omega)];omega
   have e4:(k:Int).tmod 8=(r:Int):=by rw[Int.tmod_eq_emod_of_nonneg (by omega)];omega
   have hq0:(0:Int)≤(q:Int):=by omega
   have hs0:(0:Int)≤((8*r:Nat):Int):=by omega
   generalize 8*r=s at *
   go_wp2_with (first|((with_reducible show wpList _ _ _ (⟨_,.load 5 _,_,_,_,_⟩::_) _ _);refine lW hL rfl rfl rfl fun w1 hL1=>?_;clear hL;have hL:=hL1;clear hL1)|(refine aQq ?_;clear hL;intro _ w1 hL));refine wf [(0,true),(1,true),(2,true),(3,true),(4,false),(5,true),(6,true),(7,true),(8,true),(9,true),(10,true),(11,true),(12,true)] [] [13] hL ?_;refine fA ?_;refine fB ?_;clear hL;intro w1 hL;go_wp2_with fail;go_roundw;case rel=>exact⟨k+1,by omega,by go_num,hL⟩
   case measure=>simp[intOf];omega
  ·obtain rfl:k=n:=by omega
   have hfin:=Gr (leK f k) 8;rw[Nat.mod_eq_of_lt (Fs (df f k) (show 8*k≤64*8 by omega))]at hfin;have hr:∀w1:World,Loc w w1 [(b6,uu (leK f k),227),(b2,aa 32 fun _=>0,24)]→Rt 305 #[.slice (some ⟨b6,0,none⟩) 8 8] w1 (.agg (am (leK f k%Qo))):=fun w1 h1=>by
    rw[← hfin];refine wZ (lw (leK f k)) 8 8 b6 w1 (fun i=>dn _ _) (by omega) (by omega) fun i hi=>⟨?_,h1.lt (.head _)⟩;rw[cell_of_row w1 b6 i _ _ _ (h1.get (.head _))];exact bI _ hi
   have HR:=Hd hr;clear hr hfin;haveI f9:FnC 284 #[.agg (am (leK f k%Qo))] (.agg (aa 32 (ab (leK f k%Qo)))):=inferInstance;go_wp2_with (first|((go_at_call 305;refine(HR.out _ hL).mono ?_;rintro e w1⟨rfl,hb1⟩;have hL1:=hL.keep hb1;clear hb1;clear hL;have hL:=hL1;clear hL1))|(refine aQq ?_;clear hL;intro _ w1 hL));exact bodyPost_ret (ai rfl hL rfl) rfl ⟨rfl,hL.bel⟩
end
section
open Go.RowKit
def Ft(f:Nat→BitVec 8):List (BitVec 8):=(List.range 32).map f
def sE(n:Nat):List (BitVec 8):=Ft (ab n)
def li(m:List (BitVec 8)):Nat:=leK (Shb.sha m) 64%Qo
def bD(n:Nat):Nat:=n%2^254/8*8+2^254
def nu(seed:List (BitVec 8)):Nat:=bD (leN (Shb.sha seed))
def ju(seed:List (BitVec 8)):List (BitVec 8):=Ft fun i=>Shb.sha seed (32+i)
noncomputable def gI(seed:List (BitVec 8)):Nat:=enc (cQ (nu seed) pB)
def CQ(seed m:List (BitVec 8)):Nat:=li (ju seed++m)
noncomputable def atN(seed m:List (BitVec 8)):Nat:=enc (cQ (CQ seed m) pB)
def jv(key at_:Nat)(m:List (BitVec 8)):Nat:=li (sE at_++sE key++m)
noncomputable def JC(seed m:List (BitVec 8)):Nat:=(CQ seed m+jv (gI seed) (atN seed m) m*nu seed%Qo)%Qo
theorem xr:0<Qo:=by decide +kernel
theorem xt:Qo<2^256:=by decide +kernel
theorem lj(m:List (BitVec 8)):li m<2^256:=Nat.lt_trans (Nat.mod_lt _ xr) xt
theorem jT(n:Nat):bD n<2^256:=by
 unfold bD;have h1:n%2^254/8*8≤n%2^254:=Nat.div_mul_le_self _ _;have h2:n%2^254<2^254:=Nat.mod_lt _ (Nat.two_pow_pos _);have h3:(2:Nat)^256=4*2^254:=by decide +kernel
 generalize(2:Nat)^254=E at *
 omega
theorem Hn(p:Pt):enc p<2^256:=by
 unfold enc;have h1:=Nat.lt_trans p.y.isLt yK;have h2:(2:Nat)^256=2*2^255:=by decide +kernel
 have h3:p.x.val%2<2:=Nat.mod_lt _ (by omega);have h4:2^255*(p.x.val%2)≤2^255*1:=Nat.mul_le_mul_left _ (by omega);generalize(2:Nat)^255=E at *
 omega
noncomputable def dD(key at_ s:Nat)(m:List (BitVec 8)):Bool :=
 match bF at_,bF key with
 | some r,some a=>decide (s<Qo)&&decide (bT (cp exB s)=bT (cZ r (cp a (jv key at_ m))))
 | _,_=>false
theorem uw{p:Pt}(hp:On p){n:Nat}(hn:n<2^256):bT (cp (ns p) n)=enc (cQ n p):=Ah (qQ hp (B5 p) hn)
theorem yZ(key at_:Nat)(m:List (BitVec 8)):jv key at_ m<2^256:=lj _
end
namespace R3
open Go Go.Proofs.YtoifhhljfaoejaaGreatDoor Go.RowKit
def ffs(k:Nat):Nat→BitVec 8:=fun i=>if i<k then 255 else 0
theorem ux(k:Nat)(h:k<32):Put (aa 32 (ffs k)) k (.int .u8 255) (aa 32 (ffs (k+1))):=a9 h (ak fun i _=>by
 unfold upd ffs;by_cases e:i=k
 ·subst e;rw[if_pos rfl,if_pos (by omega)];rfl
 ·rw[if_neg e]
  show Value.int .u8 (B8 (if i<k then 255 else 0))=_;by_cases h:i<k
  ·rw[if_pos h,if_pos (by omega)]
  ·rw[if_neg h,if_neg (by omega)])
def ff1:Nat→BitVec 8:=fun i=>if i=31 then 127 else 255
theorem Fu:Put (aa 32 (ffs 32)) 31 (.int .u8 127) (aa 32 ff1):=a9 (by omega) (ak fun i hi=>by
 unfold upd ffs ff1;by_cases e:i=31
 ·subst e;rfl
 ·rw[if_neg e]
  show Value.int .u8 (B8 (if i<32 then 255 else 0))=_;rw[if_pos hi,if_neg e])
theorem Fv:Put (aa 32 ff1) 0 (.int .u8 235) (aa 32 (ab (P-2))):=a9 (by omega) (by kernel_rfl)
theorem CT(w:World):Rt 189 #[.int .i64 21] w (.agg (aa 32 (ab (P-2)))):=by
 have hL:=Loc.nil w;haveI p1:=Fu;haveI p2:=Fv;have HZ:=Hd (show(aa 32 fun _=>0)=aa 32 (ffs 0)from ak fun i _=>by unfold ffs;rw[if_neg (by omega)]);have HS:=Hd ux;generalize ab (P-2)=out,ff1=f1,ffs=ff at *
 go_enter func189,ntmps189;go_wp2_with (first|(refine gBp 2 ?_;clear hL;intro b2 w1 hL)|(refine gBp 3 ?_;clear hL;intro b3 w1 hL)|(refine aQq ?_;clear hL;intro _ w1 hL));go_loopw [4] (fun kk wr=>∃k:Nat,k≤32∧kk= .int .i64 k∧Loc w wr [(b3,aa 32 (ff k),24),(b2,aa 32 fun _=>0,24)]) (fun kk _=>32-(intOf kk).toNat);case atStart=>exact⟨0,by omega,rfl,by rw[← HZ.out];exact hL⟩
 case round =>
  clear hL;obtain⟨k,hk,rfl,hL⟩:=hrel;by_cases hlt:k<32
  ·have hk0:(0:Int)≤(k:Int):=by omega
   have hk1:(k:Int)<32:=by omega
   haveI g1:Put (aa 32 (ff k)) k (.int .u8 255) (aa 32 (ff (k+1))):=HS.out k hlt;go_wp2_with (first|(refine aQq ?_;clear hL;intro _ w1 hL));go_roundw;case rel=>exact⟨k+1,by omega,by go_num,hL⟩
   case measure=>simp[intOf];omega
  ·obtain rfl:k=32:=by omega
   go_wp2_with (first|(refine aQq ?_;clear hL;intro _ w1 hL));exact bodyPost_ret (ai rfl hL rfl) rfl ⟨rfl,hL.bel⟩
instance Nv:Ent 189:=eo func189
theorem y8(x:El)(e:Nat→BitVec 8)(w:World):Rt 188 #[.agg (rowEl x),.agg (aa 32 e)] w (.agg (rowEl (x.pow (leN e)))):=by
 have hL:=Loc.nil w;have HB:=Hd (fun i=> @oN e i);generalize leN e=n at *
 obtain⟨X,h0,hs,hf⟩:∃X:Nat→El,X 0=El.one∧(∀j,X (j+1)=if n/2^(255-j)%2=1 then((X j).mul (X j)).mul x else(X j).mul (X j))∧X 256=x.pow n:=⟨fun k=>El.powK x n k,rfl,fun j=>rfl,El.pow_eq x n⟩;rw[← hf];have zs:=Hd hs;haveI f0:FnC 132 #[.int .i64 1] (.agg (rowEl (X 0))):=by rw[h0];infer_instance
 clear h0 hs hf;go_enter func188,ntmps188;go_wp2_with (first|(refine gBp 2 ?_;clear hL;intro b2 w1 hL)|(refine gBp 3 ?_;clear hL;intro b3 w1 hL)|(refine gBp 4 ?_;clear hL;intro b4 w1 hL)|(refine gBp 5 ?_;clear hL;intro b5 w1 hL)|(refine aQq ?_;clear hL;intro _ w1 hL));go_loopw [6] (fun kk wr=>∃j:Nat,j≤256∧kk= .int .i64 (255-(j:Int))∧Loc w wr [(b5,rowEl (X j),147),(b4,ao 16 fun _=>0,147),(b3,aa 32 e,24),(b2,rowEl x,147)]) (fun kk _=>(intOf kk+1).toNat);case atStart=>exact⟨0,by omega,rfl,hL⟩
 case round =>
  clear hL;obtain⟨j,hj,rfl,hL⟩:=hrel;by_cases hlt:j<256
  ·have HT:=Hd (zs.out j)
   have hv:=HB.out (i:=255-j) (by omega);obtain⟨k,hk⟩:∃k,k=255-j:=⟨_,rfl⟩;rw[← hk]at hv HT;have ek:255-(j:Int)=(k:Int):=by omega
   rw[ek];have hk1:k<256:=by omega
   haveI g1:Cell (aa 32 e) (k/8) (.int .u8 (B8 (e (k/8)))):=aI _ (by omega);obtain⟨b0,b1⟩:=bK (e (k/8));have k0:(0:Int)≤(k:Int):=by omega
   have HK:=Hd hk;have e1:(k:Int)/8=((k/8:Nat):Int):=by omega
   have e2:(k:Int)%8=((k%8:Nat):Int):=by omega
   have e3:(k:Int).tdiv 8=((k/8:Nat):Int):=by rw[Int.tdiv_eq_ediv_of_nonneg (by omega)];omega
   have e4:(k:Int).tmod 8=((k%8:Nat):Int):=by rw[Int.tmod_eq_emod_of_nonneg (by omega)];omega
   have q0:(0:Int)≤((k/8:Nat):Int):=by omega
   have q1:((k/8:Nat):Int)<32:=by omega
   have r0:(0:Int)≤((k%8:Nat):Int):=by omega
   have r1:((k%8:Nat):Int)<8:=by omega
   clear hk;by_cases hbit:n/2^k%2=1
   ·rw[hbit]at hv
    rw[if_pos hbit]at HT;generalize X j=X0 at hL HT;generalize k/8=q,k%8=r at *
    generalize B8 (e q)=u at *
    clear hbit;go_wp2_with (first|(refine aQq ?_;clear hL;intro _ w1 hL));go_roundw;case rel=>exact⟨j+1,by omega,by rw[show(k:Int)-1=255-((j+1:Nat):Int)from by have:=HK.out;omega],by rw[HT.out];exact hL⟩
    case measure=>simp[intOf]
   ·rw[show n/2^k%2=0 from by omega]at hv
    rw[if_neg hbit]at HT;generalize X j=X0 at hL HT;generalize k/8=q,k%8=r at *
    generalize B8 (e q)=u at *
    clear hbit;go_wp2_with (first|(refine aQq ?_;clear hL;intro _ w1 hL));go_roundw;case rel=>exact⟨j+1,by omega,by rw[show(k:Int)-1=255-((j+1:Nat):Int)from by have:=HK.out;omega],by rw[HT.out];exact hL⟩
    case measure=>simp[intOf]
  ·obtain rfl:j=256:=by omega
   have k1:(255:Int)-((256:Nat):Int)= -1:=by omega
   rw[k1];clear k1;go_wp2_with (first|(refine aQq ?_;clear hL;intro _ w1 hL));exact bodyPost_ret (ai rfl hL rfl) rfl ⟨rfl,hL.bel⟩
instance Nw:Ent 188:=eo func188
theorem Fw(x:El)(w:World):Rt 128 #[.agg (rowEl x)] w (.agg (rowEl x.inv)):=by
 have hL:=Loc.nil w;obtain⟨e,he⟩:∃e,e=ab (P-2):=⟨_,rfl⟩;haveI f1:FnC 188 #[.agg (rowEl x),.agg (aa 32 e)] (.agg (rowEl x.inv)):=⟨by
  have:=y8 x (ab (P-2));rw[bL (by have:=CE;omega),← he]at this;exact this⟩
 haveI f0:FnC 189 #[.int .i64 21] (.agg (aa 32 e)):=⟨by rw[he];exact CT⟩;clear he;go_enter func128,ntmps128;go_wp2_with (first|(refine aQq ?_;clear hL;intro _ w1 hL));refine wf [(0,false),(1,false),(2,false)] [] [3] hL ?_;refine fA ?_;refine fB ?_;clear hL;intro w1 hL;go_wp2_with fail;exact bodyPost_ret (ai rfl hL rfl) rfl ⟨rfl,hL.bel⟩
instance Nx:Ent 128:=eo func128
instance Ny(x:El):FnC 128 #[.agg (rowEl x)] (.agg (rowEl x.inv)):=⟨Fw x⟩
theorem xu:∀x:Fin 256,bits .and .u8 (x.val:Int) 248=((x.val/8*8:Nat):Int):=by decide +kernel
theorem CU:∀x:Fin 256,bits .or .u8 (bits .and .u8 (x.val:Int) 127) 64=((x.val%64+64:Nat):Int):=by decide +kernel
theorem kP(n i:Nat)(h:n<2^256)(hi:i<32):(ab (bD n) i).toNat=if i=0 then(ab n 0).toNat/8*8 else if i=31 then(ab n 31).toNat%64+64 else(ab n i).toNat:=by
 unfold ab bD;rw[BitVec.toNat_ofNat,BitVec.toNat_ofNat,BitVec.toNat_ofNat,BitVec.toNat_ofNat,show(2:Nat)^8=256 from rfl,Nat.mul_zero,Nat.pow_zero,Nat.div_one];by_cases h0:i=0
 ·subst h0
  rw[if_pos rfl,Nat.mul_zero,Nat.pow_zero,Nat.div_one];simp only[Nat.reducePow]at *
  omega
 ·rw[if_neg h0]
  by_cases h1:i=31
  ·subst h1
   rw[if_pos rfl];simp only[Nat.reducePow,Nat.reduceMul]at *
   omega
  ·rw[if_neg h1]
   obtain⟨d,hd⟩:∃d,254=8*i+(8+d):=⟨246-8*i,by omega⟩;obtain⟨j,rfl⟩:∃j,i=j+1:=⟨i-1,by omega⟩;have e8:(2:Nat)^(8*(j+1))=8*2^(8*j+5):=by rw[show 8*(j+1)=3+(8*j+5)from by omega,Nat.pow_add]
   have h254:(2:Nat)^254=2^(8*(j+1))*(256*2^d):=by rw[show(256:Nat)=2^8 from rfl,← Nat.pow_add,← Nat.pow_add,← hd]
   have a1:n%2^254/8*8/2^(8*(j+1))=n%2^254/2^(8*(j+1)):=by
    rw[e8,← Nat.div_div_eq_div_mul,← Nat.div_div_eq_div_mul,Nat.mul_div_cancel _ (by omega)]
   rw[h254,Nat.add_mul_div_left _ _ (Nat.two_pow_pos _),← h254,a1,Nat.add_mul_mod_self_left,h254,Nat.mod_mul_right_div_self,Nat.mod_mul_right_mod]
theorem CV(f:Nat→BitVec 8):Put (aa 32 f) 0 (.int .u8 (bits .and .u8 (B8 (f 0)) 248)) (aa 32 fun i=>if i=0 then ab (bD (leN f)) 0 else f i):=a9 (by omega) (ak fun i _=>by
 unfold upd;by_cases e:i=0
 ·subst e
  rw[if_pos rfl];show _=Value.int .u8 (B8 (if 0=0 then _ else _));rw[if_pos rfl];have h1:=xu ⟨(f 0).toNat,(f 0).isLt⟩;have h2:=kP (leN f) 0 (fh f) (by omega);rw[if_pos rfl,gU f (by omega)]at h2;unfold B8;rw[h2,← h1]
 ·rw[if_neg e]
  show _=Value.int .u8 (B8 (if i=0 then _ else _));rw[if_neg e])
theorem y9(f:Nat→BitVec 8):Put (aa 32 fun i=>if i=0 then ab (bD (leN f)) 0 else f i) 31 (.int .u8 (bits .or .u8 (bits .and .u8 (B8 (f 31)) 127) 64)) (aa 32 (ab (bD (leN f)))):=a9 (by omega) (ak fun i hi=>by
 unfold upd;by_cases e:i=31
 ·subst e
  rw[if_pos rfl];have h1:=CU ⟨(f 31).toNat,(f 31).isLt⟩;have h2:=kP (leN f) 31 (fh f) (by omega);rw[if_neg (by omega),if_pos rfl,gU f (by omega)]at h2;unfold B8;rw[h2,← h1]
 ·rw[if_neg e]
  show Value.int .u8 (B8 (if i=0 then _ else _))=_;by_cases e0:i=0
  ·subst e0;rw[if_pos rfl]
  ·rw[if_neg e0]
   have h2:=kP (leN f) i (fh f) hi;rw[if_neg e0,if_neg e,gU f hi]at h2;rw[BitVec.eq_of_toNat_eq h2])
theorem uy(f:Nat→BitVec 8)(w:World):Rt 127 #[.agg (aa 32 f)] w (.agg (aa 32 (ab (bD (leN f))))):=by
 have hL:=Loc.nil w;haveI p0:=CV f;haveI p1:=y9 f;haveI g0:Cell (aa 32 f) 0 (.int .u8 (B8 (f 0))):=aI _ (by omega);haveI g1:Cell (aa 32 fun i=>if i=0 then ab (bD (leN f)) 0 else f i) 31 (.int .u8 (B8 (f 31))):=aI _ (by omega);generalize ab (bD (leN f))=out at *
 generalize(fun i=>if i=0 then out 0 else f i)=mid,f 0=x,f 31=y at *
 go_enter func127,ntmps127;go_wp2_with (first|(refine aQq ?_;clear hL;intro _ w1 hL));exact bodyPost_ret (ai rfl hL rfl) rfl ⟨rfl,hL.bel⟩
instance Nz:Ent 127:=eo func127
instance NA(f:Nat→BitVec 8):FnC 127 #[.agg (aa 32 f)] (.agg (aa 32 (ab (bD (leN f))))):=⟨uy f⟩
end R3
end Go.Proofs.YtoifhhljfaoejaaGreatDoor
