/-
  Lemmas of the law, part 19: the walks of the functions that it calls and the plain facts about them. No condition beyond those written.
-/
import Derived.Test.YtoifhhljfaoejaaGreatDoorPkAA
import Derived.Test.YtoifhhljfaoejaaGreatDoorPkAR
import Derived.Test.YtoifhhljfaoejaaGreatDoorPkAD
set_option maxRecDepth 100000
set_option maxHeartbeats 8000000
set_option linter.unusedVariables false
set_option linter.unusedSimpArgs false
set_option linter.unusedSectionVars false
namespace Go.Proofs.YtoifhhljfaoejaaGreatDoor
open Go.Proofs.Tryz
namespace R3
open Go Go.Proofs.YtoifhhljfaoejaaGreatDoor Go.RowKit
def rB(key:Nat→BitVec 8)(i:Nat):BitVec 8:=if i%4=3 then key i&&&15 else if i%4=0∧i≠0 then key i&&&252 else key i
def vw(f:Nat→BitVec 8)(n k:Nat):Nat:=leK (fun i=>f (16*k+i)) (min 16 (n-16*k))+2^(8*min 16 (n-16*k))
def pS(r:Nat)(f:Nat→BitVec 8)(n:Nat):Nat→Nat
 | 0=>0
 | k+1=>(pS r f n k+vw f n k)*r%P5
def rj(key:Nat→BitVec 8)(f:Nat→BitVec 8)(n:Nat):Nat:=pS (leK (rB key) 16) f n ((n+15)/16)+leK (fun i=>key (16+i)) 16
instance QF:RowTy 220 16:=⟨⟨_,underlying220,rfl⟩,by kernel_rfl⟩
instance QG:RowZ 220 (aa 16 fun _=>0):=⟨by kernel_rfl⟩
theorem lM(f:Nat→BitVec 8):∀k,aK (fun i=>B8 (f i)) k=(leK f k:Int)
 | 0=>rfl
 | k+1=>by
  show aK (fun i=>B8 (f i)) k+B8 (f k)*2^(8*k)=((leK f k+(f k).toNat*2^(8*k):Nat):Int);rw[lM f k,Int.natCast_add,Int.natCast_mul,Int.natCast_pow];rfl
theorem In(x:BitVec 8):bits .and .i64 (B8 x) 15=B8 (x&&&15):=by
 have:∀x:Fin 256,bits .and .i64 (x.val:Int) 15=(((BitVec.ofFin x:BitVec 8)&&&15).toNat:Int):=by decide +kernel
 exact this x.toFin
theorem FT(x:BitVec 8):bits .and .i64 (B8 x) 252=B8 (x&&&252):=by
 have:∀x:Fin 256,bits .and .i64 (x.val:Int) 252=(((BitVec.ofFin x:BitVec 8)&&&252).toNat:Int):=by decide +kernel
 exact this x.toFin
def r1(key:Nat→BitVec 8)(i j:Nat):Int:=if j<i then B8 (key j)else 0
def r2(key:Nat→BitVec 8)(i j:Nat):Int:=if j<16 then(if j%4=3∧j<i then B8 (key j&&&15)else B8 (key j))else 0
def r3(key:Nat→BitVec 8)(i j:Nat):Int:=if j<16 then(if j%4=3 then B8 (key j&&&15)else if j%4=0∧j≠0∧j<i then B8 (key j&&&252)else B8 (key j))else 0
theorem Io(key:Nat→BitVec 8):aK (r3 key 16) 17=(leK (rB key) 16:Int):=by
 have h:aK (r3 key 16) 16=aK (fun i=>B8 (rB key i)) 16:=cW 16 fun i hi=>by
  unfold r3 rB;rw[if_pos hi];by_cases c:i%4=3
  ·rw[if_pos c,if_pos c]
  ·rw[if_neg c,if_neg c]
   by_cases d:i%4=0∧i≠0
   ·rw[if_pos d,if_pos ⟨d.1,d.2,hi⟩]
   ·rw[if_neg d,if_neg fun e=>d ⟨e.1,e.2.1⟩]
 show aK (r3 key 16) 16+r3 key 16 16*_=_;rw[h,lM,show r3 key 16 16=0 from if_neg (by omega)];omega
theorem Kh(key:Nat→BitVec 8)(i:Nat):0≤r3 key 16 i∧r3 key 16 i≤255:=by
 have b:∀x:BitVec 8,0≤B8 x∧B8 x≤255:=fun x=>by have:=bK x;omega
 unfold r3;have:=b (key i&&&15);have:=b (key i&&&252);have:=b (key i);split
 ·split
  ·assumption
  ·split <;> assumption
 ·omega
def cS(f:Nat→BitVec 8)(s i j:Nat):Int:=if j<i then B8 (f (s+j))else 0
def cF(f:Nat→BitVec 8)(s m j:Nat):Int:=if j=m then 1 else cS f s m j
theorem Ip(f:Nat→BitVec 8)(s m:Nat)(hm:m≤16):aK (cF f s m) 17=((leK (fun i=>f (s+i)) m+2^(8*m):Nat):Int):=by
 have h:aK (cF f s m) m=aK (fun i=>B8 (f (s+i))) m:=cW m fun i hi=>by
  unfold cF cS;rw[if_neg (by omega),if_pos hi]
 have key:∀d,aK (cF f s m) (m+1+d)=aK (cF f s m) (m+1):=fun d=>by
  induction d with
  | zero=>rfl
  | succ d ih =>
   show aK (cF f s m) (m+1+d)+cF f s m (m+1+d)*_=_;rw[ih,show cF f s m (m+1+d)=0 from by unfold cF cS;rw[if_neg (by omega),if_neg (by omega)]];omega
 rw[show 17=m+1+(16-m)from by omega,key];show aK (cF f s m) m+cF f s m m*2^(8*m)=_;rw[h,lM,show cF f s m m=1 from if_pos rfl,Int.natCast_add,Int.natCast_pow,Int.one_mul];rfl
theorem Ki(f:Nat→BitVec 8)(s m i:Nat):0≤cF f s m i∧cF f s m i≤255:=by
 have:=bK (f (s+i));unfold cF cS;split
 ·omega
 ·split <;> omega
def hS(h c:Nat→Int)(i j:Nat):Int:=if j<i then h j+c j else h j
theorem FU:(ao 17 fun _=>0)=ao 17 fun i=>(rD 0 i:Int):=ak fun i _=>by
 have:rD 0 i=0:=by unfold rD dgB;split <;> (try split) <;> simp
 show Value.int .i64 0=Value.int .i64 (rD 0 i:Nat);rw[this];rfl
theorem rl{V R b:Nat}{h c r:Nat→Int}(hV:V<2^131)(hh:h=fun i=>(rD V i:Int))(hc:aK c 17=b)(hcb:∀i,0≤c i∧c i≤255)(hr:aK r 17=R)(hrb:∀i,0≤r i∧r i≤255) :
 ∃V',V'<2^131∧f5 V'%P5=(f5 V%P5+b)*R%P5∧∀w,Rt 236 #[.agg (ao 17 fun i=>h i+c i),.agg (ao 17 r)] w (.agg (ao 17 fun i=>(rD V' i:Int))):=by
 subst hh;have hs:∀i,0≤(rD V i:Int)+c i∧(rD V i:Int)+c i≤2000:=fun i=>by have:=zy hV i;have:=hcb i;omega
 have hval:aK (fun i=>(rD V i:Int)+c i) 17=((f5 V+b:Nat):Int):=by
  have e:=jI (fun i=>(rD V i:Int)) c 1 17;rw[pK,hc]at e;rw[cW (g:=fun i=>(rD V i:Int)+1*c i) 17 fun i _=>by rw[Int.one_mul],e];omega
 have ht:=xW (fun i=>(rD V i:Int)+c i) r hs hrb;have hb:=fun i=>zw hs hrb i 17;have hX:=zx (f:=fun i=>cv (fun i=>(rD V i:Int)+c i) r i 17) (B:=2^32) (fun i=>by have:=hb i;omega) (by omega) 17;have hm:=Im (h:=fun i=>(rD V i:Int)+c i) hval hr hX.1;generalize aK (fun i=>cv (fun i=>(rD V i:Int)+c i) r i 17) 17=X at *
 obtain⟨x,rfl⟩:=Int.eq_ofNat_of_zero_le hX.1;rw[Int.toNat_natCast]at *
 have hx:x<2^180:=by
  have h2:=hX.2;have e:(2:Int)^32*2^(8*17)=((2^168:Nat):Int):=by decide +kernel
  rw[e]at h2;exact Nat.lt_of_le_of_lt (Int.ofNat_le.1 h2) (Nat.pow_lt_pow_right (by omega) (by omega))
 have hf1:f5 x<2^131:=vu hx;refine⟨f5 (f5 x),vu (Nat.lt_of_lt_of_le hf1 (Nat.pow_le_pow_right (by omega) (by omega))),?_,ht⟩;rw[iO,iO,iO,hm,Nat.mul_mod,show(f5 V+b)%P5=(f5 V%P5+b)%P5 from(Nat.mod_add_mod _ _ _).symm,← Nat.mul_mod]
theorem FV{x:Nat→Int}{kb:Nat→BitVec 8}{H:Nat}(hx:∀i,0≤x i)(hv:aK x 17=H):∀i,i<16→d5 (fun i=>x i+B8 (kb i)) i=B8 (ab (H+leK kb 16) i):=by
 have hp:∀i,0≤x i+B8 (kb i):=fun i=>by have:=hx i;have:=bK (kb i);omega
 have h1:=tr (fun i=>x i+B8 (kb i)) 16;have h2:=jI x (fun i=>B8 (kb i)) 1 16;rw[cW (g:=fun i=>x i+B8 (kb i)) 16 fun i _=>by rw[Int.one_mul],lM]at h2;rw[h2]at h1;have h3:aK x 16+x 16*2^(8*16)=H:=hv;have hn:=gY (fp fun i=>x i+B8 (kb i)) 16;have hd:=nH (fp fun i=>x i+B8 (kb i)) 16;have hc:=jH hp 16;obtain⟨S,hS⟩:=Int.eq_ofNat_of_zero_le hn.1;obtain⟨u,hu⟩:=Int.eq_ofNat_of_zero_le (show 0≤c5 (fun i=>x i+B8 (kb i)) 16+x 16 by have:=hx 16;omega);rw[hS,Int.toNat_natCast]at hd;rw[hS]at h1;rw[show 8*16=128 from rfl,show(2:Int)^128=((2^128:Nat):Int)from rfl]at *
 have hT:H+leK kb 16=S+u*2^128:=by
  have e:(H:Int)+(leK kb 16:Nat)=S+(u:Int)*(2^128:Nat):=by
   rw[← hu,Int.add_mul];omega
  rw[← Int.natCast_mul]at e;omega
 intro i hi;rw[hd i hi,hT];have hdg:dgB (S+u*2^128) i=dgB S i:=by
  unfold dgB;rw[show 2^128=2^(8*i)*(256*2^(128-8*i-8))from by rw[show 256=2^8 from rfl,← Nat.pow_add,← Nat.pow_add];congr 1;omega,← Nat.mul_assoc,Nat.mul_comm u,Nat.mul_assoc,Nat.add_mul_div_left _ _ (Nat.two_pow_pos _),← Nat.mul_assoc,Nat.mul_comm u,Nat.mul_assoc,Nat.add_mul_mod_self_left]
 rw[← hdg,← lm];rfl
def byX(n k:Nat):Nat→BitVec 8:=fun i=>if i<k then ab n i else 0
theorem vx(key:Nat→BitVec 8)(v:Value)(l:List (BitVec 8))(w:World)(hv:BRow w v l)(h0:0<l.length)(hl:l.length≤1000000) :
 Rt 194 #[.agg (aa 32 key),v] w (.agg (aa 16 (ab (rj key (fun i=>l.getD i 0) l.length)))):=by
 have hL:=Loc.nil w;obtain⟨a,c,rfl,_,hp⟩:=hv;obtain⟨bl,off,rfl,hbl,hcells⟩:=hp h0;obtain⟨f,hf⟩:∃f:Nat→BitVec 8,f=fun i=>l.getD i 0:=⟨_,rfl⟩;have HW:=Hd (show ∀i,i<l.length→Was w bl (off+i) (.int .u8 (B8 (f i)))from fun i hi=>⟨by rw[hcells i hi,hf];simp only[List.getD_eq_getElem?_getD,List.getElem?_eq_getElem hi,Option.getD_some],hbl⟩);rw[← hf];clear hf hcells hp;generalize l.length=n at *
 have HR0:=Hd (show(ao 17 fun _=>0)=ao 17 (r1 key 0)from ak fun i _=>by unfold r1;rw[if_neg (by omega)]);have HR1:=Hd (show ao 17 (r1 key 16)=ao 17 (r2 key 3)from ak fun i hi=>by
  unfold r1 r2;by_cases c:i<16
  ·rw[if_pos c,if_pos c,if_neg (by omega)]
  ·rw[if_neg c,if_neg c])
 have HR2:=Hd (show ao 17 (r2 key 19)=ao 17 (r3 key 4)from ak fun i hi=>by
  unfold r2 r3;by_cases c:i<16
  ·rw[if_pos c,if_pos c]
   by_cases d:i%4=3
   ·rw[if_pos ⟨d,by omega⟩,if_pos d]
   ·rw[if_neg fun e=>d e.1,if_neg d,if_neg (by omega)]
  ·rw[if_neg c,if_neg c])
 go_enter func194,ntmps194;go_wp2_with (first|(refine gBp 2 ?_;clear hL;intro b2 w1 hL)|(refine gBp 4 ?_;clear hL;intro b4 w1 hL)|(refine gBp 5 ?_;clear hL;intro b5 w1 hL)|(refine gBp 6 ?_;clear hL;intro b6 w1 hL)|(refine aQq ?_;clear hL;intro _ w1 hL));have hL0:Loc w w1 [(b6,ao 17 fun _=>0,302),(b5,ao 17 (r1 key 0),302),(b4,aa 16 fun _=>0,220),(b2,aa 32 key,24)]:=by rw[← HR0.out];exact hL
 clear hL;have hL:=hL0;clear hL0;go_loopw [7] (fun ii wr=>∃i:Nat,i≤16∧ii= .int .i64 i∧Loc w wr [(b6,ao 17 fun _=>0,302),(b5,ao 17 (r1 key i),302),(b4,aa 16 fun _=>0,220),(b2,aa 32 key,24)]) (fun ii _=>16-(intOf ii).toNat);case atStart=>exact⟨0,by omega,rfl,hL⟩
 case round =>
 clear hL;obtain⟨i,hi,rfl,hL⟩:=hrel;by_cases hlt:i<16
 ·have i0:(0:Int)≤(i:Int):=by omega
  have i1:(i:Int)<16:=by omega
  have i2:(i:Int)<32:=by omega
  have i3:(i:Int)<17:=by omega
  haveI g1:Cell (aa 32 key) i (.int .u8 (B8 (key i))):=aI _ (by omega);obtain⟨b0,b1⟩:=bK (key i);have wv:IntKind.i64.wrap (B8 (key i))=B8 (key i):=IntWalk.i64_in _ (by omega);haveI g2:Put (ao 17 (r1 key i)) i (.int .i64 (B8 (key i))) (ao 17 (r1 key (i+1))):=dS (by omega) fun j hj=>by
   unfold r1;by_cases c:j=i
   ·subst c;rw[if_pos rfl,if_pos (by omega)]
   ·rw[if_neg c];by_cases d:j<i
    ·rw[if_pos d,if_pos (by omega)]
    ·rw[if_neg d,if_neg (by omega)]
  generalize B8 (key i)=x at *
  clear HW HR0 HR1 HR2;go_wp2_with (first|(refine aQq ?_;clear hL;intro _ w1 hL));go_roundw;case rel=>exact⟨i+1,by omega,by go_num,hL⟩
  case measure=>simp[intOf];omega
 obtain rfl:i=16:=by omega
 clear hlt hi;rw[HR1.out]at hL;clear HR1 HR0;rw[show((16:Nat):Int)=16 from rfl];go_wp2_with (first|(refine aQq ?_;clear hL;intro _ w1 hL));go_loopw [8] (fun ii wr=>∃i:Nat,i≤4∧ii= .int .i64 (3+4*(i:Int))∧Loc w wr [(b6,ao 17 fun _=>0,302),(b5,ao 17 (r2 key (3+4*i)),302),(b4,aa 16 fun _=>0,220),(b2,aa 32 key,24)]) (fun ii _=>19-(intOf ii).toNat);case atStart=>exact⟨0,by omega,rfl,hL⟩
 case round =>
 clear hL;obtain⟨i,hi,rfl,hL⟩:=hrel;by_cases hlt:i<4
 ·obtain⟨q,hq⟩:∃q,q=3+4*i:=⟨_,rfl⟩
  have HN:=Hd (show 3+4*(i+1)=q+4 from by omega);have eq:3+4*(i:Int)=(q:Int):=by omega
  have HQ:=Hd (show(q:Int)+4=3+4*((i+1:Nat):Int)from by omega);rw[eq];rw[← hq]at hL;have hq4:q%4=3:=by omega
  have hq16:q<16:=by omega
  have HI:=Hd hlt;clear eq hi hlt hq;have i0:(0:Int)≤(q:Int):=by omega
  have i1:(q:Int)<16:=by omega
  have i3:(q:Int)<17:=by omega
  haveI g1:Cell (ao 17 (r2 key q)) q (.int .i64 (B8 (key q))):=by
   have:=bQ (n:=17) (r2 key q) (k:=q) (by omega);rwa[show r2 key q q=B8 (key q)from by unfold r2;rw[if_pos hq16,if_neg (by omega)]]at this
  have ha:=In (key q);haveI g2:Put (ao 17 (r2 key q)) q (.int .i64 (B8 (key q&&&15))) (ao 17 (r2 key (q+4))):=dS (by omega) fun j hj=>by
   unfold r2;by_cases c:j=q
   ·subst c;rw[if_pos rfl,if_pos hq16,if_pos ⟨hq4,by omega⟩]
   ·rw[if_neg c];by_cases d:j<16
    ·rw[if_pos d,if_pos d]
     by_cases e:j%4=3∧j<q
     ·rw[if_pos e,if_pos ⟨e.1,by omega⟩]
     ·rw[if_neg e,if_neg fun e'=>e ⟨e'.1,by omega⟩]
    ·rw[if_neg d,if_neg d]
  clear HW HR2;go_wp2_with (first|(refine aQq ?_;clear hL;intro _ w1 hL));go_roundw;case rel=>exact⟨i+1,by have:=HI.out;omega,by rw[HQ.out],by rw[HN.out];exact hL⟩
  case measure=>simp[intOf];omega
 obtain rfl:i=4:=by omega
 clear hlt hi;rw[show 3+4*4=19 from rfl,HR2.out]at hL;clear HR2;rw[show(3:Int)+4*((4:Nat):Int)=19 from rfl];go_wp2_with (first|(refine aQq ?_;clear hL;intro _ w1 hL));go_loopw [9] (fun ii wr=>∃i:Nat,i≤3∧ii= .int .i64 (4+4*(i:Int))∧Loc w wr [(b6,ao 17 fun _=>0,302),(b5,ao 17 (r3 key (4+4*i)),302),(b4,aa 16 fun _=>0,220),(b2,aa 32 key,24)]) (fun ii _=>16-(intOf ii).toNat);case atStart=>exact⟨0,by omega,rfl,hL⟩
 case round =>
 clear hL;obtain⟨i,hi,rfl,hL⟩:=hrel;by_cases hlt:i<3
 ·obtain⟨q,hq⟩:∃q,q=4+4*i:=⟨_,rfl⟩
  have HN:=Hd (show 4+4*(i+1)=q+4 from by omega);have eq:4+4*(i:Int)=(q:Int):=by omega
  have HQ:=Hd (show(q:Int)+4=4+4*((i+1:Nat):Int)from by omega);rw[eq];rw[← hq]at hL;have hq4:q%4=0∧q≠0:=by omega
  have hq16:q<16:=by omega
  have HI:=Hd hlt;clear eq hi hlt hq;have i0:(0:Int)≤(q:Int):=by omega
  have i1:(q:Int)<16:=by omega
  have i3:(q:Int)<17:=by omega
  haveI g1:Cell (ao 17 (r3 key q)) q (.int .i64 (B8 (key q))):=by
   have:=bQ (n:=17) (r3 key q) (k:=q) (by omega);rwa[show r3 key q q=B8 (key q)from by unfold r3;rw[if_pos hq16,if_neg (by omega),if_neg (by omega)]]at this
  have ha:=FT (key q);haveI g2:Put (ao 17 (r3 key q)) q (.int .i64 (B8 (key q&&&252))) (ao 17 (r3 key (q+4))):=dS (by omega) fun j hj=>by
   unfold r3;by_cases c:j=q
   ·subst c;rw[if_pos rfl,if_pos hq16,if_neg (by omega),if_pos ⟨hq4.1,hq4.2,by omega⟩]
   ·rw[if_neg c];by_cases d:j<16
    ·rw[if_pos d,if_pos d]
     by_cases e:j%4=3
     ·rw[if_pos e,if_pos e]
     ·rw[if_neg e,if_neg e]
      by_cases e2:j%4=0∧j≠0∧j<q
      ·rw[if_pos e2,if_pos ⟨e2.1,e2.2.1,by omega⟩]
      ·rw[if_neg e2,if_neg fun e'=>e2 ⟨e'.1,e'.2.1,by omega⟩]
    ·rw[if_neg d,if_neg d]
  clear HW;go_wp2_with (first|(refine aQq ?_;clear hL;intro _ w1 hL));go_roundw;case rel=>exact⟨i+1,by have:=HI.out;omega,by rw[HQ.out],by rw[HN.out];exact hL⟩
  case measure=>simp[intOf];omega
 obtain rfl:i=3:=by omega
 clear hlt hi;rw[show 4+4*3=16 from rfl]at hL;rw[show(4:Int)+4*((3:Nat):Int)=16 from rfl];have hrv:=Io key;have hrb:=Kh key;have HFIN:=Hd (show rj key f n=pS (leK (rB key) 16) f n ((n+15)/16)+leK (fun i=>key (16+i)) 16 from rfl);generalize leK (rB key) 16=R,r3 key 16=r at *
 have HRV:=Hd hrv;have HRB:=Hd hrb;clear hrv hrb;have hn1:(n:Int)≤1000000:=by omega
 go_wp2_with (first|(refine aQq ?_;clear hL;intro _ w1 hL));have hL0:Loc w wr [(b6,ao 17 fun i=>(rD 0 i:Int),302),(b5,ao 17 r,302),(b4,aa 16 fun _=>0,220),(b2,aa 32 key,24)]:=by rw[← FU];exact hL
 clear hL;have hL:=hL0;clear hL0;go_loopw [10] (fun ss wr=>∃k V s:Nat,s=16*k∧s≤n+15∧ss= .int .i64 s∧V<2^131∧f5 V%P5=pS R f n k∧Loc w wr [(b6,ao 17 fun i=>(rD V i:Int),302),(b5,ao 17 r,302),(b4,aa 16 fun _=>0,220),(b2,aa 32 key,24)]) (fun ss _=>n+16-(intOf ss).toNat);case atStart=>exact⟨0,0,0,rfl,by omega,rfl,by decide,rfl,hL⟩
 case round =>
 clear hL;obtain⟨k,V,s,hs,hsn,rfl,hV,hpk,hL⟩:=hrel;have hs0:(0:Int)≤(s:Int):=by omega
 by_cases hlt:s<n
 ·have hs1:(s:Int)<(n:Int):=by omega
  have HK:=Hd (show(s+16:Nat)=16*(k+1)∧s+16≤n+15 from by omega);have HV:=Hd hV;have HPK:=Hd hpk;have HCB:=Hd (Ki f s);have HCV:=Hd (Ip f s);have HBLK:=Hd (show vw f n k=leK (fun i=>f (s+i)) (min 16 (n-s))+2^(8*min 16 (n-s))from by rw[hs];rfl);have HPS:=Hd (show pS R f n (k+1)=(pS R f n k+vw f n k)*R%P5 from rfl);clear hV hpk hs;obtain⟨h,hh⟩:∃h:Nat→Int,h=fun i=>(rD V i:Int):=⟨_,rfl⟩;have HB:=Hd (show ∀i,0≤h i∧h i≤260 from fun i=>by rw[hh];have:=zy HV.out i;dsimp only;omega);rw[← hh]at hL;have HH:=Hd hh;clear hh;have HC0:=Hd (show(ao 17 fun _=>0)=ao 17 (cS f s 0)from ak fun i _=>by unfold cS;rw[if_neg (by omega)]);have HS0:=Hd (fun(c:Nat→Int)=>show ao 17 h=ao 17 (hS h c 0)from ak fun i _=>by unfold hS;rw[if_neg (by omega)]);have HS17:=Hd (fun(c:Nat→Int)=>show ao 17 (hS h c 17)=ao 17 (fun i=>h i+c i)from ak fun i hi=>by unfold hS;rw[if_pos hi]);have hsub:IntKind.i64.wrap ((n:Int)-(s:Int))=(n:Int)-(s:Int):=IntWalk.i64_in _ (by omega);by_cases hbig:16<n-s
  ·have hb1:(16:Int)<(n:Int)-(s:Int):=by omega
   have HM:=Hd (show min 16 (n-s)=16∧16≤16∧16≤n-s∧((16:Nat):Int)=16 from by omega);have mi0:(0:Int)≤16:=by omega
   have mi1:16<(17:Int):=by omega
   have mi2:(16:Int).toNat=16:=by omega
   clear hbig;go_wp2_with (first|(refine gBp 11 ?_;clear hL;intro b11 w1 hL)|(refine aQq ?_;clear hL;intro _ w1 hL));rw[HC0.out]at hL;go_loopw [13] (fun ii wr=>∃i:Nat,i≤16∧ii= .int .i64 i∧Loc w wr [(b11,ao 17 (cS f s i),302),(b6,ao 17 h,302),(b5,ao 17 r,302),(b4,aa 16 fun _=>0,220),(b2,aa 32 key,24)]) (fun ii _=>16-(intOf ii).toNat);case atStart=>exact⟨0,by omega,rfl,hL⟩
   case round =>
   clear hL;obtain⟨i,hi,rfl,hL⟩:=hrel;have hM:=HM.out;by_cases hil:i<16
   ·have i0:(0:Int)≤(i:Int):=by omega
    have i1:(i:Int)<16:=by omega
    have i2:(i:Int)<17:=by omega
    have x1:(s:Int)+(i:Int)=((s+i:Nat):Int):=by omega
    have x2:(0:Int)≤((s+i:Nat):Int):=by omega
    have x3:((s+i:Nat):Int)<(n:Int):=by omega
    have x4:IntKind.i64.wrap ((s+i:Nat):Int)=((s+i:Nat):Int):=IntWalk.i64_in _ (by omega);haveI g1:Was w bl (off+(s+i)) (.int .u8 (B8 (f (s+i)))):=HW.out _ (by omega);obtain⟨b0,b1⟩:=bK (f (s+i));haveI g2:Put (ao 17 (cS f s i)) i (.int .i64 (B8 (f (s+i)))) (ao 17 (cS f s (i+1))):=dS (by omega) fun j hj=>by
     unfold cS;by_cases c:j=i
     ·subst c;rw[if_pos rfl,if_pos (by omega)]
     ·rw[if_neg c];by_cases d:j<i
      ·rw[if_pos d,if_pos (by omega)]
      ·rw[if_neg d,if_neg (by omega)]
    generalize B8 (f (s+i))=x at *
    generalize s+i=p at *
    clear HW HRV HRB HFIN HK HV HPK HCB HCV HBLK HPS HB HH HC0 HS0 HS17 hM;go_wp2_with (first|(refine aQq ?_;clear hL;intro _ w1 hL));go_roundw;case rel=>exact⟨i+1,by omega,by go_num,hL⟩
    case measure=>simp[intOf];omega
   obtain rfl:i=16:=by omega
   rw[hM.2.2.2];clear hil hi;haveI g3:Put (ao 17 (cS f s (16))) (16) (.int .i64 1) (ao 17 (cF f s (16))):=dS (by omega) fun j hj=>rfl;have hcb:=HCB.out (16);have hcv:=HCV.out (16) (by omega);have hbk:vw f n k=leK (fun i=>f (s+i)) (16)+2^(8*(16)):=by rw[HBLK.out,hM.1]
   rw[← hbk]at hcv;clear hbk;have HCB2:=Hd hcb;have HCV2:=Hd hcv;clear hcb hcv hM;generalize cF f s (16)=c at *
   go_wp2_with (first|(refine aQq ?_;clear hL;intro _ w1 hL));rw[HS0.out c]at hL;go_loopw [14] (fun ii wr=>∃i:Nat,i≤17∧ii= .int .i64 i∧Loc w wr [(b11,ao 17 c,302),(b6,ao 17 (hS h c i),302),(b5,ao 17 r,302),(b4,aa 16 fun _=>0,220),(b2,aa 32 key,24)]) (fun ii _=>17-(intOf ii).toNat);case atStart=>exact⟨0,by omega,rfl,hL⟩
   case round =>
   clear hL;obtain⟨i,hi,rfl,hL⟩:=hrel;by_cases hil:i<17
   ·have i0:(0:Int)≤(i:Int):=by omega
    have i1:(i:Int)<17:=by omega
    obtain⟨q0,q1⟩:=HB.out i;obtain⟨q2,q3⟩:=HCB2.out i;haveI g1:Cell (ao 17 (hS h c i)) i (.int .i64 (h i)):=by
     have:=bQ (n:=17) (hS h c i) (k:=i) hil;rwa[show hS h c i i=h i from by unfold hS;rw[if_neg (by omega)]]at this
    haveI g2:Cell (ao 17 c) i (.int .i64 (c i)):=bQ _ hil;haveI g4:Put (ao 17 (hS h c i)) i (.int .i64 (h i+c i)) (ao 17 (hS h c (i+1))):=dS hil fun j hj=>by
     unfold hS;by_cases c:j=i
     ·subst c;rw[if_pos rfl,if_pos (by omega)]
     ·rw[if_neg c];by_cases d:j<i
      ·rw[if_pos d,if_pos (by omega)]
      ·rw[if_neg d,if_neg (by omega)]
    have z1:IntKind.i64.wrap (h i+c i)=h i+c i:=IntWalk.i64_in _ (by omega);generalize h i=x,c i=y at *
    clear HW HRV HRB HFIN HK HV HPK HCB HCV HBLK HPS HB HH HC0 HS0 HS17 HCB2 HCV2 HM;go_wp2_with (first|(refine aQq ?_;clear hL;intro _ w1 hL));refine wf [(0,true),(1,true),(2,true),(3,false),(4,true),(5,true),(6,false),(7,true),(8,true)] [] [9] hL ?_;refine fA ?_;refine fB ?_;clear hL;intro w1 hL;go_wp2_with (first|(refine aQq ?_;clear hL;intro _ w1 hL));go_roundw;case rel=>exact⟨i+1,by omega,by go_num,hL⟩
    case measure=>simp[intOf];omega
   obtain rfl:i=17:=by omega
   rw[HS17.out]at hL;obtain⟨V',hV',hp',ht⟩:=rl HV.out HH.out HCV2.out HCB2.out HRV.out HRB.out;haveI ft:FnC 236 #[.agg (ao 17 fun i=>h i+c i),.agg (ao 17 r)] (.agg (ao 17 fun i=>(rD V' i:Int))):=⟨ht⟩;have HV':=Hd hV';have HP':=Hd (show f5 V'%P5=pS R f n (k+1)from by rw[hp',HPS.out,HPK.out]);clear ht hp' hV' hil hi HW HRV HRB HFIN HV HPK HCB HCV HBLK HPS HB HH HC0 HS0 HS17 HCB2 HCV2 HM;generalize(fun i=>h i+c i)=hc at *
   go_wp2_with (first|(refine aQq ?_;clear hL;intro _ w1 hL));go_roundw;case rel=>exact⟨k+1,V',s+16,HK.out.1,HK.out.2,by go_num,HV'.out,HP'.out,hL.pop⟩
   case measure=>simp[intOf];omega
  ·have hb1:¬(16:Int)<(n:Int)-(s:Int):=by omega
   have HM:=Hd (show min 16 (n-s)=n-s∧n-s≤16∧n-s≤n-s∧((n-s:Nat):Int)=(n:Int)-(s:Int)from by omega);have mi0:(0:Int)≤(n:Int)-(s:Int):=by omega
   have mi1:(n:Int)-(s:Int)<(17:Int):=by omega
   have mi2:((n:Int)-(s:Int):Int).toNat=n-s:=by omega
   clear hbig;go_wp2_with (first|(refine gBp 11 ?_;clear hL;intro b11 w1 hL)|(refine aQq ?_;clear hL;intro _ w1 hL));rw[HC0.out]at hL;go_loopw [13] (fun ii wr=>∃i:Nat,i≤n-s∧ii= .int .i64 i∧Loc w wr [(b11,ao 17 (cS f s i),302),(b6,ao 17 h,302),(b5,ao 17 r,302),(b4,aa 16 fun _=>0,220),(b2,aa 32 key,24)]) (fun ii _=>n-s-(intOf ii).toNat);case atStart=>exact⟨0,by omega,rfl,hL⟩
   case round =>
   clear hL;obtain⟨i,hi,rfl,hL⟩:=hrel;have hM:=HM.out;by_cases hil:i<n-s
   ·have i0:(0:Int)≤(i:Int):=by omega
    have i1:(i:Int)<(n:Int)-(s:Int):=by omega
    have i2:(i:Int)<17:=by omega
    have x1:(s:Int)+(i:Int)=((s+i:Nat):Int):=by omega
    have x2:(0:Int)≤((s+i:Nat):Int):=by omega
    have x3:((s+i:Nat):Int)<(n:Int):=by omega
    have x4:IntKind.i64.wrap ((s+i:Nat):Int)=((s+i:Nat):Int):=IntWalk.i64_in _ (by omega);haveI g1:Was w bl (off+(s+i)) (.int .u8 (B8 (f (s+i)))):=HW.out _ (by omega);obtain⟨b0,b1⟩:=bK (f (s+i));haveI g2:Put (ao 17 (cS f s i)) i (.int .i64 (B8 (f (s+i)))) (ao 17 (cS f s (i+1))):=dS (by omega) fun j hj=>by
     unfold cS;by_cases c:j=i
     ·subst c;rw[if_pos rfl,if_pos (by omega)]
     ·rw[if_neg c];by_cases d:j<i
      ·rw[if_pos d,if_pos (by omega)]
      ·rw[if_neg d,if_neg (by omega)]
    generalize B8 (f (s+i))=x at *
    generalize s+i=p at *
    clear HW HRV HRB HFIN HK HV HPK HCB HCV HBLK HPS HB HH HC0 HS0 HS17 hM;go_wp2_with (first|(refine aQq ?_;clear hL;intro _ w1 hL));go_roundw;case rel=>exact⟨i+1,by omega,by go_num,hL⟩
    case measure=>simp[intOf];omega
   obtain rfl:i=n-s:=by omega
   rw[hM.2.2.2];clear hil hi;haveI g3:Put (ao 17 (cS f s (n-s))) (n-s) (.int .i64 1) (ao 17 (cF f s (n-s))):=dS (by omega) fun j hj=>rfl;have hcb:=HCB.out (n-s);have hcv:=HCV.out (n-s) (by omega);have hbk:vw f n k=leK (fun i=>f (s+i)) (n-s)+2^(8*(n-s)):=by rw[HBLK.out,hM.1]
   rw[← hbk]at hcv;clear hbk;have HCB2:=Hd hcb;have HCV2:=Hd hcv;clear hcb hcv hM;generalize cF f s (n-s)=c at *
   go_wp2_with (first|(refine aQq ?_;clear hL;intro _ w1 hL));rw[HS0.out c]at hL;go_loopw [14] (fun ii wr=>∃i:Nat,i≤17∧ii= .int .i64 i∧Loc w wr [(b11,ao 17 c,302),(b6,ao 17 (hS h c i),302),(b5,ao 17 r,302),(b4,aa 16 fun _=>0,220),(b2,aa 32 key,24)]) (fun ii _=>17-(intOf ii).toNat);case atStart=>exact⟨0,by omega,rfl,hL⟩
   case round =>
   clear hL;obtain⟨i,hi,rfl,hL⟩:=hrel;by_cases hil:i<17
   ·have i0:(0:Int)≤(i:Int):=by omega
    have i1:(i:Int)<17:=by omega
    obtain⟨q0,q1⟩:=HB.out i;obtain⟨q2,q3⟩:=HCB2.out i;haveI g1:Cell (ao 17 (hS h c i)) i (.int .i64 (h i)):=by
     have:=bQ (n:=17) (hS h c i) (k:=i) hil;rwa[show hS h c i i=h i from by unfold hS;rw[if_neg (by omega)]]at this
    haveI g2:Cell (ao 17 c) i (.int .i64 (c i)):=bQ _ hil;haveI g4:Put (ao 17 (hS h c i)) i (.int .i64 (h i+c i)) (ao 17 (hS h c (i+1))):=dS hil fun j hj=>by
     unfold hS;by_cases c:j=i
     ·subst c;rw[if_pos rfl,if_pos (by omega)]
     ·rw[if_neg c];by_cases d:j<i
      ·rw[if_pos d,if_pos (by omega)]
      ·rw[if_neg d,if_neg (by omega)]
    have z1:IntKind.i64.wrap (h i+c i)=h i+c i:=IntWalk.i64_in _ (by omega);generalize h i=x,c i=y at *
    clear HW HRV HRB HFIN HK HV HPK HCB HCV HBLK HPS HB HH HC0 HS0 HS17 HCB2 HCV2 HM;go_wp2_with (first|(refine aQq ?_;clear hL;intro _ w1 hL));refine wf [(0,true),(1,true),(2,true),(3,false),(4,true),(5,true),(6,false),(7,true),(8,true)] [] [9] hL ?_;refine fA ?_;refine fB ?_;clear hL;intro w1 hL;go_wp2_with (first|(refine aQq ?_;clear hL;intro _ w1 hL));go_roundw;case rel=>exact⟨i+1,by omega,by go_num,hL⟩
    case measure=>simp[intOf];omega
   obtain rfl:i=17:=by omega
   rw[HS17.out]at hL;obtain⟨V',hV',hp',ht⟩:=rl HV.out HH.out HCV2.out HCB2.out HRV.out HRB.out;haveI ft:FnC 236 #[.agg (ao 17 fun i=>h i+c i),.agg (ao 17 r)] (.agg (ao 17 fun i=>(rD V' i:Int))):=⟨ht⟩;have HV':=Hd hV';have HP':=Hd (show f5 V'%P5=pS R f n (k+1)from by rw[hp',HPS.out,HPK.out]);clear ht hp' hV' hil hi HW HRV HRB HFIN HV HPK HCB HCV HBLK HPS HB HH HC0 HS0 HS17 HCB2 HCV2 HM;generalize(fun i=>h i+c i)=hc at *
   go_wp2_with (first|(refine aQq ?_;clear hL;intro _ w1 hL));go_roundw;case rel=>exact⟨k+1,V',s+16,HK.out.1,HK.out.2,by go_num,HV'.out,HP'.out,hL.pop⟩
   case measure=>simp[intOf];omega
 have HKN:=Hd (show k=(n+15)/16 from by omega);obtain⟨x,hxb,hxv,hwh⟩:=Ba V hV;rw[hpk,HKN.out]at hxv;have hT:=FV (kb:=fun i=>key (16+i)) (fun i=>(hxb i).1) hxv;obtain⟨T,hTe⟩:∃T,T=rj key f n:=⟨_,rfl⟩;rw[← HFIN.out,← hTe]at hT;have HTE:=Hd hTe;clear hTe;haveI fw:FnC 237 #[.agg (ao 17 fun i=>(rD V i:Int))] (.agg (ao 17 x)):=⟨hwh⟩;have HT:=Hd hT;have HXB:=Hd hxb;obtain⟨g,hg⟩:∃g:Nat→Int,g=fun i=>x i+B8 (key (16+i)):=⟨_,rfl⟩;have HG:=Hd (show ∀i,g i=x i+B8 (key (16+i))from fun i=>by rw[hg]);have hgb:∀i,0≤g i∧g i≤600:=fun i=>by rw[hg];have:=hxb i;have:=bK (key (16+i));dsimp only;omega
 have HC:=Hd (fun i=>(⟨jH (fun i=>(hgb i).1) i,vr hgb (by omega) i⟩:0≤c5 g i∧c5 g i≤600));rw[← hg]at HT;have HB0:=Hd (show(aa 16 fun _=>0)=aa 16 (byX T 0)from ak fun i _=>by unfold byX;rw[if_neg (by omega)]);have HB16:=Hd (show aa 16 (byX T 16)=aa 16 (ab T)from ak fun i hi=>by unfold byX;rw[if_pos hi]);have hs2:¬(s:Int)<(n:Int):=by omega
 clear hgb hg hT hxb hxv hwh hpk HKN HFIN HW HRV HRB hV hs hsn hlt;go_wp2_with (first|(refine gBp 15 ?_;clear hL;intro b15 w1 hL)|(refine aQq ?_;clear hL;intro _ w1 hL));rw[HB0.out]at hL;have HC0:=Hd (show(0:Int)=c5 g 0 from rfl);go_loopw [16,17] (fun u ii wr=>∃i:Nat,i≤16∧ii= .int .i64 i∧u= .int .i64 (c5 g i)∧Loc w wr [(b15,aa 16 (byX T i),220),(b6,ao 17 x,302),(b5,ao 17 r,302),(b4,aa 16 fun _=>0,220),(b2,aa 32 key,24)]) (fun _ ii _=>16-(intOf ii).toNat);case atStart=>exact⟨0,by omega,rfl,rfl,hL⟩
 case round =>
 clear hL;obtain⟨i,hi,rfl,rfl,hL⟩:=hrel;by_cases hil:i<16
 ·have i0:(0:Int)≤(i:Int):=by omega
  have i1:(i:Int)<16:=by omega
  have i2:(i:Int)<17:=by omega
  have x1:(16:Int)+(i:Int)=((16+i:Nat):Int):=by omega
  have x2:(0:Int)≤((16+i:Nat):Int):=by omega
  have x3:((16+i:Nat):Int)<32:=by omega
  have x4:IntKind.i64.wrap ((16+i:Nat):Int)=((16+i:Nat):Int):=IntWalk.i64_in _ (by omega);obtain⟨c0,c1⟩:=HC.out i;obtain⟨q0,q1⟩:=HXB.out i;obtain⟨b0,b1⟩:=bK (key (16+i));have HS:=Hd (show c5 g (i+1)=(c5 g i+x i+B8 (key (16+i)))/256 from by show(c5 g i+g i)/256=_;rw[HG.out i,Int.add_assoc]);have hd:(c5 g i+x i+B8 (key (16+i)))%256=B8 (ab T i):=by
   have:=HT.out i hil;rw[← this];show _=(c5 g i+g i)%256;rw[HG.out i,Int.add_assoc]
  have ha:=and_255 (c5 g i+x i+B8 (key (16+i)));have hz:=bK (ab T i);rw[hd]at ha;have w8:IntKind.u8.wrap (B8 (ab T i))=B8 (ab T i):=by rw[IntKind.wrap_u8];omega
  have wv:IntKind.i64.wrap (B8 (key (16+i)))=B8 (key (16+i)):=IntWalk.i64_in _ (by omega);have z1:IntKind.i64.wrap (c5 g i+x i)=c5 g i+x i:=IntWalk.i64_in _ (by omega);have z2:IntKind.i64.wrap (c5 g i+x i+B8 (key (16+i)))=c5 g i+x i+B8 (key (16+i)):=IntWalk.i64_in _ (by omega);have u0:0≤c5 g i+x i+B8 (key (16+i)):=by omega
  have u1:c5 g i+x i+B8 (key (16+i))≤2000:=by omega
  haveI g1:Cell (ao 17 x) i (.int .i64 (x i)):=bQ _ (by omega);haveI g2:Cell (aa 32 key) (16+i) (.int .u8 (B8 (key (16+i)))):=aI _ (by omega);haveI g3:Put (aa 16 (byX T i)) i (.int .u8 (B8 (ab T i))) (aa 16 (byX T (i+1))):=a9 hil (ak fun j hj=>by
   unfold upd byX;by_cases c:j=i
   ·subst c;rw[if_pos rfl,if_pos (by omega)]
   ·rw[if_neg c];dsimp only;by_cases d:j<i
    ·rw[if_pos d,if_pos (by omega)]
    ·rw[if_neg d,if_neg (by omega)])
  generalize B8 (ab T i)=z,B8 (key (16+i))=y,x i=xi,c5 g i=c at *
  generalize 16+i=p at *
  clear hd HT HC HXB HG HB0 HB16 HC0 hz;go_wp2_with (first|(refine aQq ?_;clear hL;intro _ w1 hL));refine wf [(0,true),(1,true),(2,true),(3,false),(4,true),(5,true),(6,true),(7,true),(8,false),(9,true),(10,true),(11,true)] [] [] hL ?_;refine fA ?_;refine fC ?_;clear hL;intro w1 hL;go_wp2_with (first|(refine aQq ?_;clear hL;intro _ w1 hL));go_roundw;case rel=>exact⟨i+1,by omega,by go_num,by rw[HS.out],hL⟩
  case measure=>simp[intOf];omega
 obtain rfl:i=16:=by omega
 rw[HB16.out,HTE.out]at hL;go_wp2_with (first|(refine aQq ?_;clear hL;intro _ w1 hL));exact bodyPost_ret (ai rfl hL rfl) rfl ⟨rfl,hL.bel⟩
end R3
section
def Rp(X Z y:F):Prop:=¬(X=0∧Z=0)∧X*(1-y)=Z*(1+y)
theorem D0:(2:F)*inv 2=1:=ei je
theorem zz{X Z y:F}(h:Rp X Z y):∃l,l≠0∧X=l*(1+y)∧Z=l*(1-y):=by
 obtain⟨h1,h2⟩:=h;have hh:=D0;have e1:X=(X+Z)*inv 2*(1+y):=by
  refine dp je ?_;grind
 have e2:Z=(X+Z)*inv 2*(1-y):=by
  refine dp je ?_;grind
 refine⟨(X+Z)*inv 2,fun h0=>h1 ⟨?_,?_⟩,e1,e2⟩
 ·rw[e1,h0,Fin.zero_mul]
 ·rw[e2,h0,Fin.zero_mul]
structure L4 where
 a:F
 b:F
 c:F
 d:F
def fq(x:F)(s:L4):L4 :=
 let p:=s.a+s.b
 let m:=s.a-s.b
 let e:=p*p-m*m
 let da:=(s.c-s.d)*p
 let cb:=(s.c+s.d)*m
 ⟨p*p*(m*m),e*(p*p+121665*e),(da+cb)*(da+cb),x*((da-cb)*(da-cb))⟩
theorem Iq(x y d a:F)(h:y*y-x*x=1+d*x*x*y*y)(hd:d*(a+1)= -a):y*y=(1+a-a*(y*y))*(1+x*x):=by grind
theorem Kj(l y:F):(l*(1+y)+l*(1-y))=2*l:=by grind
theorem Kk(l y:F):(l*(1+y)-l*(1-y))=2*l*y:=by grind
theorem FW{l:F}(h:l≠0):(16:F)*(l*l*(l*l))≠0:=a8 (by decide +kernel) (a8 (a8 h h) (a8 h h))
theorem FX:dF*(121665+1)= -121665:=by decide +kernel
theorem D1{p:Pt}(hp:On p){X Z:F}(h:Rp X Z p.y):Rp ((X+Z)*(X+Z)*((X-Z)*(X-Z))) (((X+Z)*(X+Z)-(X-Z)*(X-Z))*((X+Z)*(X+Z)+121665*((X+Z)*(X+Z)-(X-Z)*(X-Z)))) (cu p p).y:=by
 obtain⟨l,hl,rfl,rfl⟩:=zz h;clear h;have hy:=fR hp hp;have hm:=dV hp hp;have hr:=FX;have hk:(1:F)+121665≠0:=by decide +kernel
 generalize(cu p p).y=Y at *
 generalize(121665:F)=a at *
 have id:=Iq p.x p.y dF a hp hr;unfold On at hp;generalize p.x=x at *
 generalize p.y=y at *
 generalize dF=d at *
 rw[Kj,Kk];have e1:2*l*(2*l)*(2*l*y*(2*l*y))=16*(l*l*(l*l))*(y*y):=by clear hp hy hr id;grind
 have e2:(2*l*(2*l)-2*l*y*(2*l*y))*(2*l*(2*l)+a*(2*l*(2*l)-2*l*y*(2*l*y)))=16*(l*l*(l*l))*((1-y*y)*(1+a-a*(y*y))):=by clear hp hy hr id;grind
 rw[e1,e2];have hl4:=FW hl;generalize(16:F)*(l*l*(l*l))=k at *
 clear e1 e2;refine⟨?_,?_⟩
 ·rintro⟨h1,h2⟩
  have hyy:y*y=0:=by
   rcases fQ h1 with h|h
   ·exact absurd h hl4
   ·exact h
  rcases fQ h2 with h|h
  ·exact hl4 h
  ·rw[hyy]at h
   exact hk (by grind)
 ·refine dp hm ?_
  have c1:(1-Y)*(1-d*x*x*y*y)=2-2*(y*y):=by clear id hr hm;grind
  have c2:(1+Y)*(1-d*x*x*y*y)=2*(1+x*x):=by clear id hr hm;grind
  have f1:k*(y*y)*(1-Y)*(1-d*x*x*y*y)=k*(y*y)*((1-Y)*(1-d*x*x*y*y)):=by grind
  have f2:k*((1-y*y)*(1+a-a*(y*y)))*(1+Y)*(1-d*x*x*y*y)=k*((1-y*y)*(1+a-a*(y*y)))*((1+Y)*(1-d*x*x*y*y)):=by grind
  rw[f1,f2,c1,c2];clear f1 f2 c1 c2 hp hy hr;generalize hz:y*y=z at *
  generalize hw:1+a-a*z=w at *
  generalize hv:1+x*x=v at *
  clear hz hw hv;grind
theorem Ir(x1 y1 x2 y2 d:F)(h1:y1*y1-x1*x1=1+d*x1*x1*y1*y1)(h2:y2*y2-x2*x2=1+d*x2*x2*y2*y2) :
 (y1+y2)*(y1+y2)*(((1-d*x1*x2*y1*y2)-(y1*y2+x1*x2))*((1+d*x1*x2*y1*y2)-(y1*y2-x1*x2)))=(y2-y1)*(y2-y1)*(((1-d*x1*x2*y1*y2)+(y1*y2+x1*x2))*((1+d*x1*x2*y1*y2)+(y1*y2-x1*x2))):=by grind
theorem Kl(l m y1 y2:F):(m*(1+y2)-m*(1-y2))*(l*(1+y1)+l*(1-y1))+(m*(1+y2)+m*(1-y2))*(l*(1+y1)-l*(1-y1))=4*(l*m)*(y1+y2):=by grind
theorem Km(l m y1 y2:F):(m*(1+y2)-m*(1-y2))*(l*(1+y1)+l*(1-y1))-(m*(1+y2)+m*(1-y2))*(l*(1+y1)-l*(1-y1))=4*(l*m)*(y2-y1):=by grind
theorem GA(k a:F):k*a*(k*a)=k*k*(a*a):=by grind
theorem Kn(x k a:F):x*(k*k*(a*a))=k*k*(x*(a*a)):=by grind
theorem Ko{k:F}(h:k≠0):k*k≠0:=a8 h h
theorem FY:(4:F)≠0:=by decide +kernel
theorem MN{a b:F}(h1:a+b=0)(h2:b-a=0):a=0∧b=0:=by
 have e1:(2:F)*a=0:=by grind
 have e2:(2:F)*b=0:=by grind
 refine⟨?_,?_⟩
 ·rcases fQ e1 with h|h
  ·exact absurd h je
  ·exact h
 ·rcases fQ e2 with h|h
  ·exact absurd h je
  ·exact h
theorem sq0{a:F}(h:a*a=0):a=0:=(fQ h).elim id id
theorem Bb(y:F):2=(1-y)+(1+y):=by grind
theorem Kp(R x1 x2:F)(h1:0-x1*x1=1)(h2:0-x2*x2=1)(hs:R=0-x1*x2):(1-R)*(1+R)=0:=by grind
theorem D2{p q r:Pt}(hp:On p)(hq:On q)(hr:(cu q (jf p)).y=r.y){x:F}(hx:x≠0)(hxr:x*(1-r.y)=1+r.y){a b c d:F}(h1:Rp a b p.y)(h2:Rp c d q.y) :
 Rp (((c-d)*(a+b)+(c+d)*(a-b))*((c-d)*(a+b)+(c+d)*(a-b))) (x*(((c-d)*(a+b)-(c+d)*(a-b))*((c-d)*(a+b)-(c+d)*(a-b)))) (cu p q).y:=by
 obtain⟨l,hl,rfl,rfl⟩:=zz h1;obtain⟨m,hm,rfl,rfl⟩:=zz h2;clear h1 h2;rw[Kl,Km,GA (4*(l*m)) (p.y+q.y),GA (4*(l*m)) (q.y-p.y),Kn];have hk:(4:F)*(l*m)*(4*(l*m))≠0:=Ko (a8 FY (a8 hl hm));generalize(4:F)*(l*m)*(4*(l*m))=k at *
 have hR0:1-r.y≠0:=by
  intro h;rw[h,Fin.mul_zero]at hxr;refine je ?_;rw[Bb r.y,h,← hxr];rfl
 have hR1:1+r.y≠0:=by rw[← hxr];exact a8 hx hR0
 have s1:=fR hp hq;have s2:=fR hq (kC hp);rw[hr]at s2;have n1:=dV hp hq;have n2:=dV hq (kC hp);have e1:(jf p).y=p.y:=rfl;have e2:(jf p).x= -p.x:=rfl;rw[e1,e2]at s2 n2;have id:=Ir p.x p.y q.x q.y dF hp hq;unfold On at hp hq;generalize(cu p q).y=S at *
 generalize r.y=R at *
 generalize p.x=x1 at *
 generalize p.y=y1 at *
 generalize q.x=x2 at *
 generalize q.y=y2 at *
 generalize dF=D at *
 have e3:1-D*x2* -x1*y2*y1=1+D*x1*x2*y1*y2:=by clear hp hq s1 s2 id;grind
 rw[e3]at s2 n2;have e4:y2*y1+x2* -x1=y1*y2-x1*x2:=by clear hp hq s1 s2 id;grind
 rw[e4]at s2;rw[← s1,← s2]at id;refine⟨?_,?_⟩
 ·rintro⟨h1,h2⟩
  have z1:y1+y2=0:=sq0 ((fQ h1).resolve_left hk);have z2:y2-y1=0:=sq0 ((fQ ((fQ h2).resolve_left hk)).resolve_left hx);obtain⟨rfl,rfl⟩:=MN z1 z2;clear id h1 h2 z1 z2 s1;have g:(1-R)*(1+R)=0:=by
   simp only[Fin.mul_zero,Fin.add_zero,Fin.mul_one]at s2 hp hq;exact Kp R x1 x2 hp hq s2
  exact(fQ g).elim hR0 hR1
 ·generalize 1-D*x1*x2*y1*y2=M at *
  generalize 1+D*x1*x2*y1*y2=N at *
  clear s1 s2 e3 e4 hp hq;refine dp (a8 (a8 n1 n2) hR0) ?_;have L:k*((y1+y2)*(y1+y2))*(1-S)*(M*N*(1-R))=k*((y1+y2)*(y1+y2)*((M-S*M)*(N-R*N))):=by clear id hxr;grind
  have L':k*(x*((y2-y1)*(y2-y1)))*(1+S)*(M*N*(1-R))=k*((y2-y1)*(y2-y1)*((M+S*M)*(N*(x*(1-R))))):=by clear id hxr;grind
  rw[L,L',hxr,id];clear id hxr L L';grind
def lad(x:F)(n:Nat):Nat→L4
 | 0=>⟨1,0,x,1⟩
 | k+1 =>
  let s:=lad x n k
  if n/2^(254-k)%2=1 then let r:=fq x ⟨s.c,s.d,s.a,s.b⟩;⟨r.c,r.d,r.a,r.b⟩else fq x s
noncomputable def cN(n:Nat)(x:F):F:=(lad x n 255).a*inv (lad x n 255).b
noncomputable def uOf(p:Pt):F:=(1+p.y)*inv (1-p.y)
theorem jJ{r:Pt}(h:On r)(m:Nat):cu (cQ (m+1) r) (jf (cQ m r))=r:=by
 have o:=fj h m;have e:cQ (m+1) r=cu r (cQ m r):=mx _ _;rw[e,n7 h o (kC o),BS o,sa]
theorem Bc(p:Pt):jf (jf p)=p:=by unfold jf;refine Pt.ext' ?_ rfl;simp only;grind
theorem D3(p q:Pt):jf (cu p q)=cu (jf p) (jf q):=by
 unfold jf cu;refine Pt.ext' ?_ ?_
 ·simp only
  rw[show dF* -p.x* -q.x*p.y*q.y=dF*p.x*q.x*p.y*q.y from by grind];grind
 ·simp only
  rw[show dF* -p.x* -q.x*p.y*q.y=dF*p.x*q.x*p.y*q.y from by grind];grind
theorem pM{r:Pt}(h:On r)(m:Nat):(cu (cQ m r) (jf (cQ (m+1) r))).y=r.y:=by
 have e:=jJ h m;have e2:=congrArg jf e;rw[D3,Bc,mx]at e2;rw[e2];rfl
theorem zA{r:Pt}(h:On r){x:F}(hx:x≠0)(hxr:x*(1-r.y)=1+r.y)(n:Nat)(hn:n<2^255):∀k,k≤255 →
 Rp (lad x n k).a (lad x n k).b (cQ (n/2^(255-k)) r).y∧Rp (lad x n k).c (lad x n k).d (cQ (n/2^(255-k)+1) r).y
 | 0,_=>by
  rw[Nat.div_eq_of_lt hn];refine⟨⟨fun h=>n6 h.1,?_⟩,⟨fun h=>n6 h.2,?_⟩⟩
  ·show(1:F)*(1-1)=0*(1+1);decide +kernel
  ·rw[show 0+1=1 from rfl,tX]
   show x*(1-r.y)=1*(1+r.y);rw[hxr];grind
 | k+1,hk=>by
  obtain⟨i1,i2⟩:=zA h hx hxr n hn k (by omega);have e1:n/2^(255-k)=n/2^(254-k)/2:=by rw[Nat.div_div_eq_div_mul,← Nat.pow_succ];congr 2;omega
  rw[e1]at i1 i2;rw[show 255-(k+1)=254-k from by omega];generalize hm:n/2^(254-k)=N at *
  have om:=fj h (N/2);have os:=fj h (N/2+1);have hl:lad x n (k+1)=(if n/2^(254-k)%2=1 then(⟨(fq x ⟨(lad x n k).c,(lad x n k).d,(lad x n k).a,(lad x n k).b⟩).c,(fq x ⟨(lad x n k).c,(lad x n k).d,(lad x n k).a,(lad x n k).b⟩).d,(fq x ⟨(lad x n k).c,(lad x n k).d,(lad x n k).a,(lad x n k).b⟩).a,(fq x ⟨(lad x n k).c,(lad x n k).d,(lad x n k).a,(lad x n k).b⟩).b⟩:L4)else fq x (lad x n k)):=rfl;rw[hl,hm];by_cases hb:N%2=1
  ·rw[if_pos hb]
   have j1:=D1 os i2;have j2:=D2 os om (pM h (N/2)) hx hxr i2 i1;rw[← fS h]at j1 j2;rw[show N/2+1+(N/2+1)=N+1 from by omega]at j1;rw[show N/2+1+N/2=N from by omega]at j2;exact⟨j2,j1⟩
  ·rw[if_neg hb]
   have j1:=D1 om i1;have j2:=D2 om os (congrArg Pt.y (jJ h (N/2))) hx hxr i1 i2;rw[← fS h]at j1 j2;rw[show N/2+N/2=N from by omega]at j1;rw[show N/2+(N/2+1)=N+1 from by omega]at j2;exact⟨j1,j2⟩
theorem FZ{l y:F}(hl:l≠0):l*(1+y)*inv (l*(1-y))=(1+y)*inv (1-y):=by
 by_cases h:1-y=0
 ·rw[h,Fin.mul_zero,BN,Fin.mul_zero,Fin.mul_zero]
 ·have h1:=ei h
  have h2:=ei (a8 hl h);refine dp (a8 hl h) ?_;grind
theorem vy{r:Pt}(h:On r)(h1:r.y≠1)(h2:1+r.y≠0)(n:Nat)(hn:n<2^255):cN n (uOf r)=uOf (cQ n r):=by
 have h1':1-r.y≠0:=fun e=>h1 (by grind);have hx:uOf r≠0:=a8 h2 (BO h1');have hxr:uOf r*(1-r.y)=1+r.y:=by
  unfold uOf;have:=ei h1';grind
 obtain⟨i,_⟩:=zA h hx hxr n hn 255 (Nat.le_refl _);rw[Nat.sub_self,Nat.pow_zero,Nat.div_one]at i;obtain⟨l,hl,e1,e2⟩:=zz i;unfold cN;rw[e1,e2,FZ hl];rfl
theorem GB{p:Pt}(h:On p)(hy:p.y=1):p=pO:=by
 obtain⟨x,y⟩:=p;simp only at hy;subst hy;unfold On at h;simp only at h;have hd:(dF+1)≠0:=by decide +kernel
 have:(dF+1)*(x*x)=0:=by
  generalize dF=d at *
  have e:(1:F)*1-x*x=1+d*x*x*1*1:=h;grind
 rw[show x=0 from sq0 ((fQ this).resolve_left hd)];rfl
theorem Kq{p:Pt}(h:On p)(hy:1+p.y=0):cu p p=pO:=by
 refine GB (r9 h h) ?_;have hs:=fR h h;have hn:=dV h h;unfold On at h;have hy':p.y= -1:=by grind
 rw[hy']at h hs hn;generalize p.x=x at *
 refine dp hn ?_;rw[hs];clear hs hn;grind
theorem D4{p:Pt}(h:On p)(m n:Nat)(hm:cQ m p=pO)(hn:cQ n p=pO):cQ (Nat.gcd m n) p=pO:=by
 induction m,n using Nat.gcd.induction with
 | H0 n=>simpa using hn
 | H1 m n _ ih =>
  rw[Nat.gcd_rec];exact ih ((B4 h hm n).trans hn) hm
theorem D5:pB.y≠1:=by decide +kernel
theorem GC{n:Nat}(h:cQ n pB=pO):Qo∣n:=by
 refine Classical.byContradiction fun hq=>?_;have hg:=D4 qp Qo n EZ h;rw[show Nat.gcd Qo n=1 from Q_prime.coprime hq,tX]at hg;exact D5 (congrArg Pt.y hg)
theorem Kr:¬Qo∣2:=by decide +kernel
theorem B_y{n:Nat}(h:¬Qo∣n):(cQ n pB).y≠1∧1+(cQ n pB).y≠0:=by
 refine⟨fun e=>h (GC (GB (fj qp n) e)),fun e=>?_⟩;have:=Kq (fj qp n) e;rw[← fS qp,← Nat.two_mul]at this;rcases Q_prime.euclid (GC this)with h'|h'
 ·exact Kr h'
 ·exact h h'
theorem u_B:uOf pB=9:=by
 unfold uOf;refine(nZ (by decide +kernel) ?_).symm;decide +kernel
theorem MO{p:Pt}(h1:p.y≠1)(h2:1+p.y≠0):uOf p≠0:=a8 h2 (BO fun e=>h1 (by grind))
theorem Is{m n:Nat}(hm:m<2^255)(hn:n<2^255)(qm:¬Qo∣m)(qn:¬Qo∣n) :
 cN m (cN n 9)=cN n (cN m 9)∧cN m (cN n 9)≠0:=by
 have b1:pB.y≠1:=D5;have b2:1+pB.y≠0:=by decide +kernel
 have one:∀{m n:Nat},m<2^255→n<2^255→¬Qo∣n→cN m (cN n 9)=uOf (cQ (m*n) pB):=by
  intro m n hm hn qn;rw[← u_B,vy qp b1 b2 n hn,vy (fj qp n) (B_y qn).1 (B_y qn).2 m hm,← oc qp]
 refine⟨by rw[one hm hn qn,one hn hm qm,Nat.mul_comm],?_⟩;rw[one hm hn qn];have hq:¬Qo∣m*n:=fun h=>(Q_prime.euclid h).elim qm qn;exact MO (B_y hq).1 (B_y hq).2
theorem D6{n:Nat}(h0:0<n)(h:n<2^255)(h8:n%8=0):¬Qo∣n:=by
 intro hq;obtain⟨c,rfl⟩:=hq;have hc:c%8=0:=by
  have:Qo%8=5:=by decide +kernel
  rw[Nat.mul_mod,this]at h8;omega
 have hc8:8≤c:=by
  rcases Nat.eq_zero_or_pos c with e|e
  ·rw[e]at h0;simp at h0
  ·omega
 have:=Nat.mul_le_mul_left Qo hc8;have hQ:2^255≤Qo*8:=by decide +kernel
 omega
end
end Go.Proofs.YtoifhhljfaoejaaGreatDoor
