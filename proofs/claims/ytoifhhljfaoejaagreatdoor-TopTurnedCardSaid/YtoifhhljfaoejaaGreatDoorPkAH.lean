/- Lemmas of the law; no condition beyond those written. -/
import Derived.Test.YtoifhhljfaoejaaGreatDoorPkAG
set_option maxRecDepth 100000
set_option maxHeartbeats 8000000
set_option linter.unusedVariables false
set_option linter.unusedSimpArgs false
set_option linter.unusedSectionVars false
namespace Go.Proofs.YtoifhhljfaoejaaGreatDoor
open Go.Proofs.Tryz Go Go.RowKit Go.Shelf
theorem ϛ{G' G:Prop}(k:G')(h:G'→G:=by
    intro k
    first
      | (refine aU ?_; first | (refine ab ?_; exact k) | (refine (show (∀ J, Loc _ J _ → wpList _ _ _ _ _ J) → _ from fun k => k _ I) k))
      | (refine ab ?_; exact k)):G:=h k
namespace R3
def rB(κ:Φ)(i:Nat):Γ:=if i%4=3 then κ i&&&15 else if i%4=0∧i≠0 then κ i&&&252 else κ i
def ye(f:Φ)(n k:Nat):Nat:=leK (fun i=>f (16*k+i)) (min 16 (n-16*k))+2^(8*min 16 (n-16*k))
def pS(r:Nat)(f:Φ)(n:Nat):Nat→Nat
 | 0=>0
 | k+1=>(pS r f n k+ye f n k)*r%P5
def tS(κ:Φ)(f:Φ)(n:Nat):Nat:=pS (leK (rB κ) 16) f n ((n+15)/16)+leK (fun i=>κ (16+i)) 16
instance UC:RowTy 220 16:=⟨⟨_,underlying220,rfl⟩,Θ⟩
instance UD:RowZ 220 (aa 16 fun _=>0):=⟨Θ⟩
theorem ns(f:Φ):∀k,aQ (fun i=>B8 (f i)) k=(leK f k:Int)
 | 0=>rfl
 | k+1=>by
  show aQ (fun i=>B8 (f i)) k+B8 (f k)*2^(8*k)=((leK f k+(f k).toNat*2^(8*k):Nat):Int);rw[ns f k,YN,Yg,YM];rfl
theorem Lc(x:Γ):bits .and .i64 (B8 x) 15=B8 (x&&&15):=by
 have:∀x:Fin 256,bits .and .i64 (x.val:Int) 15=(((BitVec.ofFin x:Γ)&&&15).toNat:Int):=Ϛ;exact this x.toFin
theorem I4(x:Γ):bits .and .i64 (B8 x) 252=B8 (x&&&252):=by
 have:∀x:Fin 256,bits .and .i64 (x.val:Int) 252=(((BitVec.ofFin x:Γ)&&&252).toNat:Int):=Ϛ;exact this x.toFin
def r1(κ:Φ)(i j:Nat):Int:=if j<i then B8 (κ j)else 0
def r2(κ:Φ)(i j:Nat):Int:=if j<16 then(if j%4=3∧j<i then B8 (κ j&&&15)else B8 (κ j))else 0
def r3(κ:Φ)(i j:Nat):Int:=if j<16 then(if j%4=3 then B8 (κ j&&&15)else if j%4=0∧j≠0∧j<i then B8 (κ j&&&252)else B8 (κ j))else 0
theorem Ld(κ:Φ):aQ (r3 κ 16) 17=(leK (rB κ) 16:Int):=by
 have h:aQ (r3 κ 16) 16=aQ (fun i=>B8 (rB κ i)) 16:=dj 16 fun i hi=>by
  unfold r3 rB;rw[Ρ hi];by_cases c:i%4=3
  ·rw[Ρ c,Ρ c]
  ·rw[Χ c,Χ c]
   by_cases d:i%4=0∧i≠0
   ·rw[Ρ d,Ρ ⟨d.1,d.2,hi⟩]
   ·rw[Χ d,Χ fun e=>d ⟨e.1,e.2.1⟩]
 show aQ (r3 κ 16) 16+r3 κ 16 16*_=_;rw[h,ns,show r3 κ 16 16=0 from Χ Ω];omega
theorem Nu(κ:Φ)(i:Nat):0≤r3 κ 16 i∧r3 κ 16 i≤255:=by
 have b:∀x:Γ,0≤B8 x∧B8 x≤255:=fun x=>by have:=bP x;omega
 unfold r3;have:=b (κ i&&&15);have:=b (κ i&&&252);have:=b (κ i);split
 ·split
  ·assumption
  ·split <;> assumption
 ·omega
def cS(f:Φ)(s i j:Nat):Int:=if j<i then B8 (f (s+j))else 0
def cF(f:Φ)(s m j:Nat):Int:=if j=m then 1 else cS f s m j
theorem Le(f:Φ)(s m:Nat)(hm:m≤16):aQ (cF f s m) 17=((leK (fun i=>f (s+i)) m+2^(8*m):Nat):Int):=by
 have h:aQ (cF f s m) m=aQ (fun i=>B8 (f (s+i))) m:=dj m fun i hi=>by
  unfold cF cS;rw[Χ Ω,Ρ hi]
 have κ:∀d,aQ (cF f s m) (m+1+d)=aQ (cF f s m) (m+1):=fun d=>by
  induction d with
  | zero=>rfl
  | succ d ih =>
   show aQ (cF f s m) (m+1+d)+cF f s m (m+1+d)*_=_;rw[ih,show cF f s m (m+1+d)=0 from by unfold cF cS;rw[Χ Ω,Χ Ω]];omega
 rw[show 17=m+1+(16-m)from by omega,κ];show aQ (cF f s m) m+cF f s m m*2^(8*m)=_;rw[h,ns,show cF f s m m=1 from Ρ rfl,YN,YM,Int.one_mul];rfl
theorem Nv(f:Φ)(s m i:Nat):0≤cF f s m i∧cF f s m i≤255:=by
 have:=bP (f (s+i));unfold cF cS;split
 ·omega
 ·split <;> omega
def hS(h c:Nat→Int)(i j:Nat):Int:=if j<i then h j+c j else h j
theorem I5:(aq 17 fun _=>0)=aq 17 fun i=>(rD 0 i:Int):=am fun i _=>by
 have:rD 0 i=0:=by unfold rD dgB;split <;> (try split) <;> simp
 show Value.int .i64 0=Value.int .i64 (rD 0 i:Nat);rw[this];rfl
theorem tT{Vzq R b:Nat}{h c r:Nat→Int}(hV:Vzq<2^131)(hh:h=fun i=>(rD Vzq i:Int))(hc:aQ c 17=b)(hcb:∀i,0≤c i∧c i≤255)(hr:aQ r 17=R)(hrb:∀i,0≤r i∧r i≤255) :
 ∃V',V'<2^131∧f5 V'%P5=(f5 Vzq%P5+b)*R%P5∧∀w,Rt 236 #[.agg (aq 17 fun i=>h i+c i),.agg (aq 17 r)] w (.agg (aq 17 fun i=>(rD V' i:Int))):=by
 subst hh;have hs:∀i,0≤(rD Vzq i:Int)+c i∧(rD Vzq i:Int)+c i≤2000:=fun i=>by have:=B4 hV i;have:=hcb i;omega
 have hval:aQ (fun i=>(rD Vzq i:Int)+c i) 17=((f5 Vzq+b:Nat):Int):=by
  have e:=ky (fun i=>(rD Vzq i:Int)) c 1 17;rw[rG,hc]at e;rw[dj (g:=fun i=>(rD Vzq i:Int)+1*c i) 17 fun i _=>by rw[Int.one_mul],e];omega
 have ht:=Ar (fun i=>(rD Vzq i:Int)+c i) r hs hrb;have hb:=fun i=>BZ hs hrb i 17;have hX:=B0 (f:=fun i=>cv (fun i=>(rD Vzq i:Int)+c i) r i 17) (B:=2^32) (fun i=>by have:=hb i;omega) Ω 17;have hm:=Lb (h:=fun i=>(rD Vzq i:Int)+c i) hval hr hX.1;generalize aQ (fun i=>cv (fun i=>(rD Vzq i:Int)+c i) r i 17) 17=X at *
 obtain⟨x,rfl⟩:=YG hX.1;rw[Ys]at *
 have hx:x<2^180:=by
  have h2:=hX.2;have e:(2:Int)^32*2^(8*17)=((2^168:Nat):Int):=Ϛ;rw[e]at h2;exact Yw (Int.ofNat_le.1 h2) (Nat.pow_lt_pow_right Ω Ω)
 have hf1:f5 x<2^131:=yd hx;refine⟨f5 (f5 x),yd (Xl hf1 (Xx Ω Ω)),?_,ht⟩;rw[jy,jy,jy,hm,Zo,show(f5 Vzq+b)%P5=(f5 Vzq%P5+b)%P5 from(Nat.mod_add_mod _ _ _).symm,← Zo]
theorem I6{x:Nat→Int}{kb:Φ}{Hzq:Nat}(hx:∀i,0≤x i)(hv:aQ x 17=Hzq):∀i,i<16→d5 (fun i=>x i+B8 (kb i)) i=B8 (ah (Hzq+leK kb 16) i):=by
 have hp:∀i,0≤x i+B8 (kb i):=fun i=>by have:=hx i;have:=bP (kb i);omega
 have h1:=vH (fun i=>x i+B8 (kb i)) 16;have h2:=ky x (fun i=>B8 (kb i)) 1 16;rw[dj (g:=fun i=>x i+B8 (kb i)) 16 fun i _=>by rw[Int.one_mul],ns]at h2;rw[h2]at h1;have h3:aQ x 16+x 16*2^(8*16)=Hzq:=hv;have hn:=iU (fZ fun i=>x i+B8 (kb i)) 16;have hd:=pz (fZ fun i=>x i+B8 (kb i)) 16;have hc:=kx hp 16;obtain⟨S,hS⟩:=YG hn.1;obtain⟨u,hu⟩:=YG (show 0≤c5 (fun i=>x i+B8 (kb i)) 16+x 16 by have:=hx 16;omega);rw[hS,Ys]at hd;rw[hS]at h1;rw[show 8*16=128 from rfl,show(2:Int)^128=((2^128:Nat):Int)from rfl]at *
 have hT:Hzq+leK kb 16=S+u*2^128:=by
  have e:(Hzq:Int)+(leK kb 16:Nat)=S+(u:Int)*(2^128:Nat):=by
   rw[← hu,Int.add_mul];omega
  rw[← Yg]at e;omega
 intro i hi;rw[hd i hi,hT];have hdg:dgB (S+u*2^128) i=dgB S i:=by
  unfold dgB;rw[show 2^128=2^(8*i)*(256*2^(128-8*i-8))from by rw[show 256=2^8 from rfl,← Xk,← Xk];congr 1;omega,← XK,XU u,XK,Xy _ _ (Xg _),← XK,XU u,XK,XD]
 rw[← hdg,← mV];rfl
def byX(n k:Nat):Nat→Γ:=fun i=>if i<k then ah n i else 0
theorem yg(κ:Φ)(v:ό)(l:Δ)(w:ϑ)(hv:BRow w v l)(h0:0<l.length)(hl:l.length≤1000000) :
 Rt 194 #[.agg (aa 32 κ),v] w (.agg (aa 16 (ah (tS κ (fun i=>l.getD i 0) l.length)))):=by
 have I:=Loc.nil w;obtain⟨a,c,rfl,_,hp⟩:=hv;obtain⟨bl,off,rfl,hbl,hcells⟩:=hp h0;obtain⟨f,hf⟩:∃f:Nat→Γ,f=fun i=>l.getD i 0:=⟨_,rfl⟩;have HW:=Hd (show ∀i,i<l.length→Was w bl (off+i) (.int .u8 (B8 (f i)))from fun i hi=>⟨by rw[hcells i hi,hf];simp only[List.getD_eq_getElem?_getD,List.getElem?_eq_getElem hi,Option.getD_some],hbl⟩);rw[← hf];clear hf hcells hp;generalize l.length=n at *
 have HR0:=Hd (show(aq 17 fun _=>0)=aq 17 (r1 κ 0)from am fun i _=>by unfold r1;rw[Χ Ω]);have HR1:=Hd (show aq 17 (r1 κ 16)=aq 17 (r2 κ 3)from am fun i hi=>by
  unfold r1 r2;by_cases c:i<16
  ·rw[Ρ c,Ρ c,Χ Ω]
  ·rw[Χ c,Χ c])
 have HR2:=Hd (show aq 17 (r2 κ 19)=aq 17 (r3 κ 4)from am fun i hi=>by
  unfold r2 r3;by_cases c:i<16
  ·rw[Ρ c,Ρ c]
   by_cases d:i%4=3
   ·rw[Ρ ⟨d,Ω⟩,Ρ d]
   ·rw[Χ fun e=>d e.1,Χ d,Χ Ω]
  ·rw[Χ c,Χ c])
 go_enter func194,ntmps194;go_wp2_with (first|refine gBp 2 fun b2 J I=>?_|refine gBp 4 fun b4 J I=>?_|refine gBp 5 fun b5 J I=>?_|refine gBp 6 fun b6 J I=>?_|refine aQq fun _ J I=>?_);have hL0:Loc w J [(b6,aq 17 fun _=>0,302),(b5,aq 17 (r1 κ 0),302),(b4,aa 16 fun _=>0,220),(b2,aa 32 κ,24)]:=by rw[← HR0.out];exact I
 clear I;have I:=hL0;clear hL0;go_loopw [7] (fun ii wr=>∃i:Nat,i≤16∧ii= .int .i64 i∧Loc w wr [(b6,aq 17 fun _=>0,302),(b5,aq 17 (r1 κ i),302),(b4,aa 16 fun _=>0,220),(b2,aa 32 κ,24)]) (fun ii _=>16-(intOf ii).toNat);case atStart=>exact⟨0,Ω,rfl,I⟩
 case round =>
 clear I;obtain⟨i,hi,rfl,I⟩:=hrel;by_cases h9:i<16
 ·have i0:(0:Int)≤(i:Int):=Ω
  have i1:(i:Int)<16:=Ω;have i2:(i:Int)<32:=Ω;have i3:(i:Int)<17:=Ω;haveI g1:Cell (aa 32 κ) i (.int .u8 (B8 (κ i))):=aO _ Ω;obtain⟨b0,b1⟩:=bP (κ i);have wv:IntKind.i64.wrap (B8 (κ i))=B8 (κ i):=W3 _ Ω;haveI g2:Put (aq 17 (r1 κ i)) i (.int .i64 (B8 (κ i))) (aq 17 (r1 κ (i+1))):=ec Ω fun j hj=>by
   unfold r1;by_cases c:j=i
   ·subst c;rw[Ρ rfl,Ρ Ω]
   ·rw[Χ c];by_cases d:j<i
    ·rw[Ρ d,Ρ Ω]
    ·rw[Χ d,Χ Ω]
  generalize B8 (κ i)=x at *
  clear HW HR0 HR1 HR2;go_wp2_with (refine aQq fun _ J I=>?_);go_roundw;case rel=>exact⟨i+1,Ω,by go_num,I⟩
  case measure=>exact ϝ
 obtain rfl:i=16:=Ω;clear h9 hi;rw[HR1.out]at I;clear HR1 HR0;rw[show((16:Nat):Int)=16 from rfl];go_wp2_with (refine aQq fun _ J I=>?_);go_loopw [8] (fun ii wr=>∃i:Nat,i≤4∧ii= .int .i64 (3+4*(i:Int))∧Loc w wr [(b6,aq 17 fun _=>0,302),(b5,aq 17 (r2 κ (3+4*i)),302),(b4,aa 16 fun _=>0,220),(b2,aa 32 κ,24)]) (fun ii _=>19-(intOf ii).toNat);case atStart=>exact⟨0,Ω,rfl,I⟩
 case round =>
 clear I;obtain⟨i,hi,rfl,I⟩:=hrel;by_cases h9:i<4
 ·obtain⟨q,hq⟩:∃q,q=3+4*i:=⟨_,rfl⟩
  have HN:=Hd (show 3+4*(i+1)=q+4 from Ω);have eq:3+4*(i:Int)=(q:Int):=Ω;have HQ:=Hd (show(q:Int)+4=3+4*((i+1:Nat):Int)from Ω);rw[eq];rw[← hq]at I;have hq4:q%4=3:=Ω;have hq16:q<16:=Ω;have HI:=Hd h9;clear eq hi h9 hq;have i0:(0:Int)≤(q:Int):=Ω;have i1:(q:Int)<16:=Ω;have i3:(q:Int)<17:=Ω;haveI g1:Cell (aq 17 (r2 κ q)) q (.int .i64 (B8 (κ q))):=by
   have:=bX (n:=17) (r2 κ q) (k:=q) Ω;rwa[show r2 κ q q=B8 (κ q)from by unfold r2;rw[Ρ hq16,Χ Ω]]at this
  have ha:=Lc (κ q);haveI g2:Put (aq 17 (r2 κ q)) q (.int .i64 (B8 (κ q&&&15))) (aq 17 (r2 κ (q+4))):=ec Ω fun j hj=>by
   unfold r2;by_cases c:j=q
   ·subst c;rw[Ρ rfl,Ρ hq16,Ρ ⟨hq4,Ω⟩]
   ·rw[Χ c];by_cases d:j<16
    ·rw[Ρ d,Ρ d]
     by_cases e:j%4=3∧j<q
     ·rw[Ρ e,Ρ ⟨e.1,Ω⟩]
     ·rw[Χ e,Χ fun e'=>e ⟨e'.1,Ω⟩]
    ·rw[Χ d,Χ d]
  clear HW HR2;go_wp2_with (refine aQq fun _ J I=>?_);go_roundw;case rel=>exact⟨i+1,by have:=HI.out;omega,by rw[HQ.out],by rw[HN.out];exact I⟩
  case measure=>exact ϝ
 obtain rfl:i=4:=Ω;clear h9 hi;rw[show 3+4*4=19 from rfl,HR2.out]at I;clear HR2;rw[show(3:Int)+4*((4:Nat):Int)=19 from rfl];go_wp2_with (refine aQq fun _ J I=>?_);go_loopw [9] (fun ii wr=>∃i:Nat,i≤3∧ii= .int .i64 (4+4*(i:Int))∧Loc w wr [(b6,aq 17 fun _=>0,302),(b5,aq 17 (r3 κ (4+4*i)),302),(b4,aa 16 fun _=>0,220),(b2,aa 32 κ,24)]) (fun ii _=>16-(intOf ii).toNat);case atStart=>exact⟨0,Ω,rfl,I⟩
 case round =>
 clear I;obtain⟨i,hi,rfl,I⟩:=hrel;by_cases h9:i<3
 ·obtain⟨q,hq⟩:∃q,q=4+4*i:=⟨_,rfl⟩
  have HN:=Hd (show 4+4*(i+1)=q+4 from Ω);have eq:4+4*(i:Int)=(q:Int):=Ω;have HQ:=Hd (show(q:Int)+4=4+4*((i+1:Nat):Int)from Ω);rw[eq];rw[← hq]at I;have hq4:q%4=0∧q≠0:=Ω;have hq16:q<16:=Ω;have HI:=Hd h9;clear eq hi h9 hq;have i0:(0:Int)≤(q:Int):=Ω;have i1:(q:Int)<16:=Ω;have i3:(q:Int)<17:=Ω;haveI g1:Cell (aq 17 (r3 κ q)) q (.int .i64 (B8 (κ q))):=by
   have:=bX (n:=17) (r3 κ q) (k:=q) Ω;rwa[show r3 κ q q=B8 (κ q)from by unfold r3;rw[Ρ hq16,Χ Ω,Χ Ω]]at this
  have ha:=I4 (κ q);haveI g2:Put (aq 17 (r3 κ q)) q (.int .i64 (B8 (κ q&&&252))) (aq 17 (r3 κ (q+4))):=ec Ω fun j hj=>by
   unfold r3;by_cases c:j=q
   ·subst c;rw[Ρ rfl,Ρ hq16,Χ Ω,Ρ ⟨hq4.1,hq4.2,Ω⟩]
   ·rw[Χ c];by_cases d:j<16
    ·rw[Ρ d,Ρ d]
     by_cases e:j%4=3
     ·rw[Ρ e,Ρ e]
     ·rw[Χ e,Χ e]
      by_cases e2:j%4=0∧j≠0∧j<q
      ·rw[Ρ e2,Ρ ⟨e2.1,e2.2.1,Ω⟩]
      ·rw[Χ e2,Χ fun e'=>e2 ⟨e'.1,e'.2.1,Ω⟩]
    ·rw[Χ d,Χ d]
  clear HW;go_wp2_with (refine aQq fun _ J I=>?_);go_roundw;case rel=>exact⟨i+1,by have:=HI.out;omega,by rw[HQ.out],by rw[HN.out];exact I⟩
  case measure=>exact ϝ
 obtain rfl:i=3:=Ω;clear h9 hi;rw[show 4+4*3=16 from rfl]at I;rw[show(4:Int)+4*((3:Nat):Int)=16 from rfl];have hrv:=Ld κ;have hrb:=Nu κ;have HFIN:=Hd (show tS κ f n=pS (leK (rB κ) 16) f n ((n+15)/16)+leK (fun i=>κ (16+i)) 16 from rfl);generalize leK (rB κ) 16=R,r3 κ 16=r at *
 have HRV:=Hd hrv;have HRB:=Hd hrb;clear hrv hrb;have hn1:(n:Int)≤1000000:=Ω;go_wp2_with (refine aQq fun _ J I=>?_);have hL0:Loc w wr [(b6,aq 17 fun i=>(rD 0 i:Int),302),(b5,aq 17 r,302),(b4,aa 16 fun _=>0,220),(b2,aa 32 κ,24)]:=by rw[← I5];exact I
 clear I;have I:=hL0;clear hL0;go_loopw [10] (fun ss wr=>∃k Vzq s:Nat,s=16*k∧s≤n+15∧ss= .int .i64 s∧Vzq<2^131∧f5 Vzq%P5=pS R f n k∧Loc w wr [(b6,aq 17 fun i=>(rD Vzq i:Int),302),(b5,aq 17 r,302),(b4,aa 16 fun _=>0,220),(b2,aa 32 κ,24)]) (fun ss _=>n+16-(intOf ss).toNat);case atStart=>exact⟨0,0,0,rfl,Ω,rfl,Ξ,rfl,I⟩
 case round =>
 clear I;obtain⟨k,Vzq,s,hs,hsn,rfl,hV,hpk,I⟩:=hrel;have hs0:(0:Int)≤(s:Int):=Ω;by_cases h9:s<n
 ·have hs1:(s:Int)<(n:Int):=Ω
  have HK:=Hd (show(s+16:Nat)=16*(k+1)∧s+16≤n+15 from Ω);have HV:=Hd hV;have HPK:=Hd hpk;have HCB:=Hd (Nv f s);have HCV:=Hd (Le f s);have HBLK:=Hd (show ye f n k=leK (fun i=>f (s+i)) (min 16 (n-s))+2^(8*min 16 (n-s))from by rw[hs];rfl);have HPS:=Hd (show pS R f n (k+1)=(pS R f n k+ye f n k)*R%P5 from rfl);clear hV hpk hs;obtain⟨h,hh⟩:∃h:Nat→Int,h=fun i=>(rD Vzq i:Int):=⟨_,rfl⟩;have HB:=Hd (show ∀i,0≤h i∧h i≤260 from fun i=>by rw[hh];have:=B4 HV.out i;dsimp only;omega);rw[← hh]at I;have HH:=Hd hh;clear hh;have HC0:=Hd (show(aq 17 fun _=>0)=aq 17 (cS f s 0)from am fun i _=>by unfold cS;rw[Χ Ω]);have HS0:=Hd (fun(c:Nat→Int)=>show aq 17 h=aq 17 (hS h c 0)from am fun i _=>by unfold hS;rw[Χ Ω]);have HS17:=Hd (fun(c:Nat→Int)=>show aq 17 (hS h c 17)=aq 17 (fun i=>h i+c i)from am fun i hi=>by unfold hS;rw[Ρ hi]);have hsub:IntKind.i64.wrap ((n:Int)-(s:Int))=(n:Int)-(s:Int):=W3 _ Ω;by_cases hbig:16<n-s
  ·have V:(16:Int)<(n:Int)-(s:Int):=Ω
   have HM:=Hd (show min 16 (n-s)=16∧16≤16∧16≤n-s∧((16:Nat):Int)=16 from Ω);have mi0:(0:Int)≤16:=Ω;have mi1:16<(17:Int):=Ω;have mi2:(16:Int).toNat=16:=Ω;clear hbig;go_wp2_with (first|refine gBp 11 fun b11 J I=>?_|refine aQq fun _ J I=>?_);rw[HC0.out]at I;go_loopw [13] (fun ii wr=>∃i:Nat,i≤16∧ii= .int .i64 i∧Loc w wr [(b11,aq 17 (cS f s i),302),(b6,aq 17 h,302),(b5,aq 17 r,302),(b4,aa 16 fun _=>0,220),(b2,aa 32 κ,24)]) (fun ii _=>16-(intOf ii).toNat);case atStart=>exact⟨0,Ω,rfl,I⟩
   case round =>
   clear I;obtain⟨i,hi,rfl,I⟩:=hrel;have hM:=HM.out;by_cases hil:i<16
   ·have i0:(0:Int)≤(i:Int):=Ω
    have i1:(i:Int)<16:=Ω;have i2:(i:Int)<17:=Ω;have x1:(s:Int)+(i:Int)=((s+i:Nat):Int):=Ω;have x2:(0:Int)≤((s+i:Nat):Int):=Ω;have x3:((s+i:Nat):Int)<(n:Int):=Ω;have x4:IntKind.i64.wrap ((s+i:Nat):Int)=((s+i:Nat):Int):=W3 _ Ω;haveI g1:Was w bl (off+(s+i)) (.int .u8 (B8 (f (s+i)))):=HW.out _ Ω;obtain⟨b0,b1⟩:=bP (f (s+i));haveI g2:Put (aq 17 (cS f s i)) i (.int .i64 (B8 (f (s+i)))) (aq 17 (cS f s (i+1))):=ec Ω fun j hj=>by
     unfold cS;by_cases c:j=i
     ·subst c;rw[Ρ rfl,Ρ Ω]
     ·rw[Χ c];by_cases d:j<i
      ·rw[Ρ d,Ρ Ω]
      ·rw[Χ d,Χ Ω]
    generalize B8 (f (s+i))=x at *
    generalize s+i=p at *
    clear HW HRV HRB HFIN HK HV HPK HCB HCV HBLK HPS HB HH HC0 HS0 HS17 hM;go_wp2_with (refine aQq fun _ J I=>?_);go_roundw;case rel=>exact⟨i+1,Ω,by go_num,I⟩
    case measure=>exact ϝ
   obtain rfl:i=16:=Ω;rw[hM.2.2.2];clear hil hi;haveI g3:Put (aq 17 (cS f s (16))) (16) (.int .i64 1) (aq 17 (cF f s (16))):=ec Ω fun j hj=>rfl;have hcb:=HCB.out (16);have hcv:=HCV.out (16) Ω;have hbk:ye f n k=leK (fun i=>f (s+i)) (16)+2^(8*(16)):=by rw[HBLK.out,hM.1]
   rw[← hbk]at hcv;clear hbk;have HCB2:=Hd hcb;have HCV2:=Hd hcv;clear hcb hcv hM;generalize cF f s (16)=c at *
   go_wp2_with (refine aQq fun _ J I=>?_);rw[HS0.out c]at I;go_loopw [14] (fun ii wr=>∃i:Nat,i≤17∧ii= .int .i64 i∧Loc w wr [(b11,aq 17 c,302),(b6,aq 17 (hS h c i),302),(b5,aq 17 r,302),(b4,aa 16 fun _=>0,220),(b2,aa 32 κ,24)]) (fun ii _=>17-(intOf ii).toNat);case atStart=>exact⟨0,Ω,rfl,I⟩
   case round =>
   clear I;obtain⟨i,hi,rfl,I⟩:=hrel;by_cases hil:i<17
   ·have i0:(0:Int)≤(i:Int):=Ω
    have i1:(i:Int)<17:=Ω;obtain⟨q0,q1⟩:=HB.out i;obtain⟨q2,q3⟩:=HCB2.out i;haveI g1:Cell (aq 17 (hS h c i)) i (.int .i64 (h i)):=by
     have:=bX (n:=17) (hS h c i) (k:=i) hil;rwa[show hS h c i i=h i from by unfold hS;rw[Χ Ω]]at this
    haveI g2:Cell (aq 17 c) i (.int .i64 (c i)):=bX _ hil;haveI g4:Put (aq 17 (hS h c i)) i (.int .i64 (h i+c i)) (aq 17 (hS h c (i+1))):=ec hil fun j hj=>by
     unfold hS;by_cases c:j=i
     ·subst c;rw[Ρ rfl,Ρ Ω]
     ·rw[Χ c];by_cases d:j<i
      ·rw[Ρ d,Ρ Ω]
      ·rw[Χ d,Χ Ω]
    have z1:IntKind.i64.wrap (h i+c i)=h i+c i:=W3 _ Ω;generalize h i=x,c i=y at *
    clear HW HRV HRB HFIN HK HV HPK HCB HCV HBLK HPS HB HH HC0 HS0 HS17 HCB2 HCV2 HM;go_wp2_with (refine aQq fun _ J I=>?_);refine wf [(0,true),(1,true),(2,true),(3,false),(4,true),(5,true),(6,false),(7,true),(8,true)] [] [9] I ?_;refine fA ?_;refine fB fun J I=>?_;go_wp2_with (refine aQq fun _ J I=>?_);go_roundw;case rel=>exact⟨i+1,Ω,by go_num,I⟩
    case measure=>exact ϝ
   obtain rfl:i=17:=Ω;rw[HS17.out]at I;obtain⟨V',hV',hp',ht⟩:=tT HV.out HH.out HCV2.out HCB2.out HRV.out HRB.out;haveI ft:FnC 236 #[.agg (aq 17 fun i=>h i+c i),.agg (aq 17 r)] (.agg (aq 17 fun i=>(rD V' i:Int))):=⟨ht⟩;have HV':=Hd hV';have HP':=Hd (show f5 V'%P5=pS R f n (k+1)from by rw[hp',HPS.out,HPK.out]);clear ht hp' hV' hil hi HW HRV HRB HFIN HV HPK HCB HCV HBLK HPS HB HH HC0 HS0 HS17 HCB2 HCV2 HM;generalize(fun i=>h i+c i)=hc at *
   go_wp2_with (refine aQq fun _ J I=>?_);go_roundw;case rel=>exact⟨k+1,V',s+16,HK.out.1,HK.out.2,by go_num,HV'.out,HP'.out,I.pop⟩
   case measure=>exact ϝ
  ·have V:¬(16:Int)<(n:Int)-(s:Int):=Ω
   have HM:=Hd (show min 16 (n-s)=n-s∧n-s≤16∧n-s≤n-s∧((n-s:Nat):Int)=(n:Int)-(s:Int)from Ω);have mi0:(0:Int)≤(n:Int)-(s:Int):=Ω;have mi1:(n:Int)-(s:Int)<(17:Int):=Ω;have mi2:((n:Int)-(s:Int):Int).toNat=n-s:=Ω;clear hbig;go_wp2_with (first|refine gBp 11 fun b11 J I=>?_|refine aQq fun _ J I=>?_);rw[HC0.out]at I;go_loopw [13] (fun ii wr=>∃i:Nat,i≤n-s∧ii= .int .i64 i∧Loc w wr [(b11,aq 17 (cS f s i),302),(b6,aq 17 h,302),(b5,aq 17 r,302),(b4,aa 16 fun _=>0,220),(b2,aa 32 κ,24)]) (fun ii _=>n-s-(intOf ii).toNat);case atStart=>exact⟨0,Ω,rfl,I⟩
   case round =>
   clear I;obtain⟨i,hi,rfl,I⟩:=hrel;have hM:=HM.out;by_cases hil:i<n-s
   ·have i0:(0:Int)≤(i:Int):=Ω
    have i1:(i:Int)<(n:Int)-(s:Int):=Ω;have i2:(i:Int)<17:=Ω;have x1:(s:Int)+(i:Int)=((s+i:Nat):Int):=Ω;have x2:(0:Int)≤((s+i:Nat):Int):=Ω;have x3:((s+i:Nat):Int)<(n:Int):=Ω;have x4:IntKind.i64.wrap ((s+i:Nat):Int)=((s+i:Nat):Int):=W3 _ Ω;haveI g1:Was w bl (off+(s+i)) (.int .u8 (B8 (f (s+i)))):=HW.out _ Ω;obtain⟨b0,b1⟩:=bP (f (s+i));haveI g2:Put (aq 17 (cS f s i)) i (.int .i64 (B8 (f (s+i)))) (aq 17 (cS f s (i+1))):=ec Ω fun j hj=>by
     unfold cS;by_cases c:j=i
     ·subst c;rw[Ρ rfl,Ρ Ω]
     ·rw[Χ c];by_cases d:j<i
      ·rw[Ρ d,Ρ Ω]
      ·rw[Χ d,Χ Ω]
    generalize B8 (f (s+i))=x at *
    generalize s+i=p at *
    clear HW HRV HRB HFIN HK HV HPK HCB HCV HBLK HPS HB HH HC0 HS0 HS17 hM;go_wp2_with (refine aQq fun _ J I=>?_);go_roundw;case rel=>exact⟨i+1,Ω,by go_num,I⟩
    case measure=>exact ϝ
   obtain rfl:i=n-s:=Ω;rw[hM.2.2.2];clear hil hi;haveI g3:Put (aq 17 (cS f s (n-s))) (n-s) (.int .i64 1) (aq 17 (cF f s (n-s))):=ec Ω fun j hj=>rfl;have hcb:=HCB.out (n-s);have hcv:=HCV.out (n-s) Ω;have hbk:ye f n k=leK (fun i=>f (s+i)) (n-s)+2^(8*(n-s)):=by rw[HBLK.out,hM.1]
   rw[← hbk]at hcv;clear hbk;have HCB2:=Hd hcb;have HCV2:=Hd hcv;clear hcb hcv hM;generalize cF f s (n-s)=c at *
   go_wp2_with (refine aQq fun _ J I=>?_);rw[HS0.out c]at I;go_loopw [14] (fun ii wr=>∃i:Nat,i≤17∧ii= .int .i64 i∧Loc w wr [(b11,aq 17 c,302),(b6,aq 17 (hS h c i),302),(b5,aq 17 r,302),(b4,aa 16 fun _=>0,220),(b2,aa 32 κ,24)]) (fun ii _=>17-(intOf ii).toNat);case atStart=>exact⟨0,Ω,rfl,I⟩
   case round =>
   clear I;obtain⟨i,hi,rfl,I⟩:=hrel;by_cases hil:i<17
   ·have i0:(0:Int)≤(i:Int):=Ω
    have i1:(i:Int)<17:=Ω;obtain⟨q0,q1⟩:=HB.out i;obtain⟨q2,q3⟩:=HCB2.out i;haveI g1:Cell (aq 17 (hS h c i)) i (.int .i64 (h i)):=by
     have:=bX (n:=17) (hS h c i) (k:=i) hil;rwa[show hS h c i i=h i from by unfold hS;rw[Χ Ω]]at this
    haveI g2:Cell (aq 17 c) i (.int .i64 (c i)):=bX _ hil;haveI g4:Put (aq 17 (hS h c i)) i (.int .i64 (h i+c i)) (aq 17 (hS h c (i+1))):=ec hil fun j hj=>by
     unfold hS;by_cases c:j=i
     ·subst c;rw[Ρ rfl,Ρ Ω]
     ·rw[Χ c];by_cases d:j<i
      ·rw[Ρ d,Ρ Ω]
      ·rw[Χ d,Χ Ω]
    have z1:IntKind.i64.wrap (h i+c i)=h i+c i:=W3 _ Ω;generalize h i=x,c i=y at *
    clear HW HRV HRB HFIN HK HV HPK HCB HCV HBLK HPS HB HH HC0 HS0 HS17 HCB2 HCV2 HM;go_wp2_with (refine aQq fun _ J I=>?_);refine wf [(0,true),(1,true),(2,true),(3,false),(4,true),(5,true),(6,false),(7,true),(8,true)] [] [9] I ?_;refine fA ?_;refine fB fun J I=>?_;go_wp2_with (refine aQq fun _ J I=>?_);go_roundw;case rel=>exact⟨i+1,Ω,by go_num,I⟩
    case measure=>exact ϝ
   obtain rfl:i=17:=Ω;rw[HS17.out]at I;obtain⟨V',hV',hp',ht⟩:=tT HV.out HH.out HCV2.out HCB2.out HRV.out HRB.out;haveI ft:FnC 236 #[.agg (aq 17 fun i=>h i+c i),.agg (aq 17 r)] (.agg (aq 17 fun i=>(rD V' i:Int))):=⟨ht⟩;have HV':=Hd hV';have HP':=Hd (show f5 V'%P5=pS R f n (k+1)from by rw[hp',HPS.out,HPK.out]);clear ht hp' hV' hil hi HW HRV HRB HFIN HV HPK HCB HCV HBLK HPS HB HH HC0 HS0 HS17 HCB2 HCV2 HM;generalize(fun i=>h i+c i)=hc at *
   go_wp2_with (refine aQq fun _ J I=>?_);go_roundw;case rel=>exact⟨k+1,V',s+16,HK.out.1,HK.out.2,by go_num,HV'.out,HP'.out,I.pop⟩
   case measure=>exact ϝ
 have HKN:=Hd (show k=(n+15)/16 from Ω);obtain⟨x,hxb,hxv,hwh⟩:=Dr Vzq hV;rw[hpk,HKN.out]at hxv;have hT:=I6 (kb:=fun i=>κ (16+i)) (fun i=>(hxb i).1) hxv;obtain⟨Tzq,hTe⟩:∃Tzq,Tzq=tS κ f n:=⟨_,rfl⟩;rw[← HFIN.out,← hTe]at hT;have HTE:=Hd hTe;clear hTe;haveI fw:FnC 237 #[.agg (aq 17 fun i=>(rD Vzq i:Int))] (.agg (aq 17 x)):=⟨hwh⟩;have HT:=Hd hT;have HXB:=Hd hxb;obtain⟨g,hg⟩:∃g:Nat→Int,g=fun i=>x i+B8 (κ (16+i)):=⟨_,rfl⟩;have HG:=Hd (show ∀i,g i=x i+B8 (κ (16+i))from fun i=>by rw[hg]);have hgb:∀i,0≤g i∧g i≤600:=fun i=>by rw[hg];have:=hxb i;have:=bP (κ (16+i));dsimp only;omega
 have HC:=Hd (fun i=>(⟨kx (fun i=>(hgb i).1) i,yb hgb Ω i⟩:0≤c5 g i∧c5 g i≤600));rw[← hg]at HT;have HB0:=Hd (show(aa 16 fun _=>0)=aa 16 (byX Tzq 0)from am fun i _=>by unfold byX;rw[Χ Ω]);have HB16:=Hd (show aa 16 (byX Tzq 16)=aa 16 (ah Tzq)from am fun i hi=>by unfold byX;rw[Ρ hi]);have hs2:¬(s:Int)<(n:Int):=Ω;clear hgb hg hT hxb hxv hwh hpk HKN HFIN HW HRV HRB hV hs hsn h9;go_wp2_with (first|refine gBp 15 fun b15 J I=>?_|refine aQq fun _ J I=>?_);rw[HB0.out]at I;have HC0:=Hd (show(0:Int)=c5 g 0 from rfl);go_loopw [16,17] (fun u ii wr=>∃i:Nat,i≤16∧ii= .int .i64 i∧u= .int .i64 (c5 g i)∧Loc w wr [(b15,aa 16 (byX Tzq i),220),(b6,aq 17 x,302),(b5,aq 17 r,302),(b4,aa 16 fun _=>0,220),(b2,aa 32 κ,24)]) (fun _ ii _=>16-(intOf ii).toNat);case atStart=>exact⟨0,Ω,rfl,rfl,I⟩
 case round =>
 clear I;obtain⟨i,hi,rfl,rfl,I⟩:=hrel;by_cases hil:i<16
 ·have i0:(0:Int)≤(i:Int):=Ω
  have i1:(i:Int)<16:=Ω;have i2:(i:Int)<17:=Ω;have x1:(16:Int)+(i:Int)=((16+i:Nat):Int):=Ω;have x2:(0:Int)≤((16+i:Nat):Int):=Ω;have x3:((16+i:Nat):Int)<32:=Ω;have x4:IntKind.i64.wrap ((16+i:Nat):Int)=((16+i:Nat):Int):=W3 _ Ω;obtain⟨c0,c1⟩:=HC.out i;obtain⟨q0,q1⟩:=HXB.out i;obtain⟨b0,b1⟩:=bP (κ (16+i));have HS:=Hd (show c5 g (i+1)=(c5 g i+x i+B8 (κ (16+i)))/256 from by show(c5 g i+g i)/256=_;rw[HG.out i,Int.add_assoc]);have hd:(c5 g i+x i+B8 (κ (16+i)))%256=B8 (ah Tzq i):=by
   have:=HT.out i hil;rw[← this];show _=(c5 g i+g i)%256;rw[HG.out i,Int.add_assoc]
  have ha:=and_255 (c5 g i+x i+B8 (κ (16+i)));have hz:=bP (ah Tzq i);rw[hd]at ha;have w8:IntKind.u8.wrap (B8 (ah Tzq i))=B8 (ah Tzq i):=by rw[X7];omega
  have wv:IntKind.i64.wrap (B8 (κ (16+i)))=B8 (κ (16+i)):=W3 _ Ω;have z1:IntKind.i64.wrap (c5 g i+x i)=c5 g i+x i:=W3 _ Ω;have z2:IntKind.i64.wrap (c5 g i+x i+B8 (κ (16+i)))=c5 g i+x i+B8 (κ (16+i)):=W3 _ Ω;have u0:0≤c5 g i+x i+B8 (κ (16+i)):=Ω;have u1:c5 g i+x i+B8 (κ (16+i))≤2000:=Ω;haveI g1:Cell (aq 17 x) i (.int .i64 (x i)):=bX _ Ω;haveI g2:Cell (aa 32 κ) (16+i) (.int .u8 (B8 (κ (16+i)))):=aO _ Ω;haveI g3:Put (aa 16 (byX Tzq i)) i (.int .u8 (B8 (ah Tzq i))) (aa 16 (byX Tzq (i+1))):=bm hil (am fun j hj=>by
   unfold upd byX;by_cases c:j=i
   ·subst c;rw[Ρ rfl,Ρ Ω]
   ·rw[Χ c];dsimp only;by_cases d:j<i
    ·rw[Ρ d,Ρ Ω]
    ·rw[Χ d,Χ Ω])
  generalize B8 (ah Tzq i)=z,B8 (κ (16+i))=y,x i=xi,c5 g i=c at *
  generalize 16+i=p at *
  clear hd HT HC HXB HG HB0 HB16 HC0 hz;go_wp2_with (refine aQq fun _ J I=>?_);refine wf [(0,true),(1,true),(2,true),(3,false),(4,true),(5,true),(6,true),(7,true),(8,false),(9,true),(10,true),(11,true)] [] [] I ?_;refine fA ?_;refine fC fun J I=>?_;go_wp2_with (refine aQq fun _ J I=>?_);go_roundw;case rel=>exact⟨i+1,Ω,by go_num,by rw[HS.out],I⟩
  case measure=>exact ϝ
 obtain rfl:i=16:=Ω;rw[HB16.out,HTE.out]at I;go_wp2_with (refine aQq fun _ J I=>?_);exact Λ
end R3
def Rp(X Zzq y:F):Prop:=¬(X=0∧Zzq=0)∧X*(1-y)=Zzq*(1+y)
theorem GA:(2:F)*inv 2=1:=eL jU
theorem B5{X Zzq y:F}(h:Rp X Zzq y):∃l,l≠0∧X=l*(1+y)∧Zzq=l*(1-y):=by
 obtain⟨h1,h2⟩:=h;have hh:=GA;have e1:X=(X+Zzq)*inv 2*(1+y):=by
  refine dD jU ?_;grind
 have e2:Zzq=(X+Zzq)*inv 2*(1-y):=by
  refine dD jU ?_;grind
 refine⟨(X+Zzq)*inv 2,fun h0=>h1 ⟨?_,?_⟩,e1,e2⟩
 ·rw[e1,h0,Fin.zero_mul]
 ·rw[e2,h0,Fin.zero_mul]
structure L4 where
 a:F
 b:F
 c:F
 d:F
def gg(x:F)(s:L4):L4 :=
 let p:=s.a+s.b
 let m:=s.a-s.b
 let e:=p*p-m*m
 let da:=(s.c-s.d)*p
 let cb:=(s.c+s.d)*m
 ⟨p*p*(m*m),e*(p*p+121665*e),(da+cb)*(da+cb),x*((da-cb)*(da-cb))⟩
theorem Lf(x y d a:F)(h:y*y-x*x=1+d*x*x*y*y)(hd:d*(a+1)= -a):y*y=(1+a-a*(y*y))*(1+x*x):=by grind
theorem Nw(l y:F):(l*(1+y)+l*(1-y))=2*l:=by grind
theorem Nx(l y:F):(l*(1+y)-l*(1-y))=2*l*y:=by grind
theorem I7{l:F}(h:l≠0):(16:F)*(l*l*(l*l))≠0:=bj Ϛ (bj (bj h h) (bj h h))
theorem I8:dF*(121665+1)= -121665:=Ϛ
theorem GB{p:Pt}(hp:On p){X Zzq:F}(h:Rp X Zzq p.y):Rp ((X+Zzq)*(X+Zzq)*((X-Zzq)*(X-Zzq))) (((X+Zzq)*(X+Zzq)-(X-Zzq)*(X-Zzq))*((X+Zzq)*(X+Zzq)+121665*((X+Zzq)*(X+Zzq)-(X-Zzq)*(X-Zzq)))) (cI p p).y:=by
 obtain⟨l,hl,rfl,rfl⟩:=B5 h;clear h;have hy:=gL hp hp;have hm:=ej hp hp;have hr:=I8;have hk:(1:F)+121665≠0:=Ϛ;generalize(cI p p).y=Yzq at *
 generalize(121665:F)=a at *
 have id:=Lf p.x p.y dF a hp hr;unfold On at hp;generalize p.x=x at *
 generalize p.y=y at *
 generalize dF=d at *
 rw[Nw,Nx];have e1:2*l*(2*l)*(2*l*y*(2*l*y))=16*(l*l*(l*l))*(y*y):=by clear hp hy hr id;grind
 have e2:(2*l*(2*l)-2*l*y*(2*l*y))*(2*l*(2*l)+a*(2*l*(2*l)-2*l*y*(2*l*y)))=16*(l*l*(l*l))*((1-y*y)*(1+a-a*(y*y))):=by clear hp hy hr id;grind
 rw[e1,e2];have hl4:=I7 hl;generalize(16:F)*(l*l*(l*l))=k at *
 clear e1 e2;refine⟨?_,?_⟩
 ·rintro⟨h1,h2⟩
  have hyy:y*y=0:=by
   rcases gK h1 with h|h
   ·exact absurd h hl4
   ·exact h
  rcases gK h2 with h|h
  ·exact hl4 h
  ·rw[hyy]at h
   exact hk (by grind)
 ·refine dD hm ?_
  have c1:(1-Yzq)*(1-d*x*x*y*y)=2-2*(y*y):=by clear id hr hm;grind
  have c2:(1+Yzq)*(1-d*x*x*y*y)=2*(1+x*x):=by clear id hr hm;grind
  have f1:k*(y*y)*(1-Yzq)*(1-d*x*x*y*y)=k*(y*y)*((1-Yzq)*(1-d*x*x*y*y)):=by grind
  have f2:k*((1-y*y)*(1+a-a*(y*y)))*(1+Yzq)*(1-d*x*x*y*y)=k*((1-y*y)*(1+a-a*(y*y)))*((1+Yzq)*(1-d*x*x*y*y)):=by grind
  rw[f1,f2,c1,c2];clear f1 f2 c1 c2 hp hy hr;generalize hz:y*y=z at *
  generalize hw:1+a-a*z=w at *
  generalize hv:1+x*x=v at *
  clear hz hw hv;grind
theorem Lg(x1 y1 x2 y2 d:F)(h1:y1*y1-x1*x1=1+d*x1*x1*y1*y1)(h2:y2*y2-x2*x2=1+d*x2*x2*y2*y2) :
 (y1+y2)*(y1+y2)*(((1-d*x1*x2*y1*y2)-(y1*y2+x1*x2))*((1+d*x1*x2*y1*y2)-(y1*y2-x1*x2)))=(y2-y1)*(y2-y1)*(((1-d*x1*x2*y1*y2)+(y1*y2+x1*x2))*((1+d*x1*x2*y1*y2)+(y1*y2-x1*x2))):=by grind
theorem Ny(l m y1 y2:F):(m*(1+y2)-m*(1-y2))*(l*(1+y1)+l*(1-y1))+(m*(1+y2)+m*(1-y2))*(l*(1+y1)-l*(1-y1))=4*(l*m)*(y1+y2):=by grind
theorem Nz(l m y1 y2:F):(m*(1+y2)-m*(1-y2))*(l*(1+y1)+l*(1-y1))-(m*(1+y2)+m*(1-y2))*(l*(1+y1)-l*(1-y1))=4*(l*m)*(y2-y1):=by grind
theorem JU(k a:F):k*a*(k*a)=k*k*(a*a):=by grind
theorem NA(x k a:F):x*(k*k*(a*a))=k*k*(x*(a*a)):=by grind
theorem NB{k:F}(h:k≠0):k*k≠0:=bj h h
theorem I9:(4:F)≠0:=Ϛ
theorem Qm{a b:F}(h1:a+b=0)(h2:b-a=0):a=0∧b=0:=by
 have e1:(2:F)*a=0:=by grind
 have e2:(2:F)*b=0:=by grind
 refine⟨?_,?_⟩
 ·rcases gK e1 with h|h
  ·exact absurd h jU
  ·exact h
 ·rcases gK e2 with h|h
  ·exact absurd h jU
  ·exact h
theorem sq0{a:F}(h:a*a=0):a=0:=(gK h).elim id id
theorem Ds(y:F):2=(1-y)+(1+y):=by grind
theorem NC(R x1 x2:F)(h1:0-x1*x1=1)(h2:0-x2*x2=1)(hs:R=0-x1*x2):(1-R)*(1+R)=0:=by grind
theorem GC{p q r:Pt}(hp:On p)(hq:On q)(hr:(cI q (jV p)).y=r.y){x:F}(hx:x≠0)(hxr:x*(1-r.y)=1+r.y){a b c d:F}(h1:Rp a b p.y)(h2:Rp c d q.y) :
 Rp (((c-d)*(a+b)+(c+d)*(a-b))*((c-d)*(a+b)+(c+d)*(a-b))) (x*(((c-d)*(a+b)-(c+d)*(a-b))*((c-d)*(a+b)-(c+d)*(a-b)))) (cI p q).y:=by
 obtain⟨l,hl,rfl,rfl⟩:=B5 h1;obtain⟨m,hm,rfl,rfl⟩:=B5 h2;clear h1 h2;rw[Ny,Nz,JU (4*(l*m)) (p.y+q.y),JU (4*(l*m)) (q.y-p.y),NA];have hk:(4:F)*(l*m)*(4*(l*m))≠0:=NB (bj I9 (bj hl hm));generalize(4:F)*(l*m)*(4*(l*m))=k at *
 have hR0:1-r.y≠0:=by
  intro h;rw[h,Z3]at hxr;refine jU ?_;rw[Ds r.y,h,← hxr];rfl
 have hR1:1+r.y≠0:=by rw[← hxr];exact bj hx hR0
 have s1:=gL hp hq;have s2:=gL hq (lF hp);rw[hr]at s2;have n1:=ej hp hq;have n2:=ej hq (lF hp);have e1:(jV p).y=p.y:=rfl;have e2:(jV p).x= -p.x:=rfl;rw[e1,e2]at s2 n2;have id:=Lg p.x p.y q.x q.y dF hp hq;unfold On at hp hq;generalize(cI p q).y=S at *
 generalize r.y=R at *
 generalize p.x=x1 at *
 generalize p.y=y1 at *
 generalize q.x=x2 at *
 generalize q.y=y2 at *
 generalize dF=Dzq at *
 have e3:1-Dzq*x2* -x1*y2*y1=1+Dzq*x1*x2*y1*y2:=by clear hp hq s1 s2 id;grind
 rw[e3]at s2 n2;have e4:y2*y1+x2* -x1=y1*y2-x1*x2:=by clear hp hq s1 s2 id;grind
 rw[e4]at s2;rw[← s1,← s2]at id;refine⟨?_,?_⟩
 ·rintro⟨h1,h2⟩
  have z1:y1+y2=0:=sq0 ((gK h1).resolve_left hk);have z2:y2-y1=0:=sq0 ((gK ((gK h2).resolve_left hk)).resolve_left hx);obtain⟨rfl,rfl⟩:=Qm z1 z2;clear id h1 h2 z1 z2 s1;have g:(1-R)*(1+R)=0:=by
   simp only[Z3,Fin.add_zero,Fin.mul_one]at s2 hp hq;exact NC R x1 x2 hp hq s2
  exact(gK g).elim hR0 hR1
 ·generalize 1-Dzq*x1*x2*y1*y2=M at *
  generalize 1+Dzq*x1*x2*y1*y2=N at *
  clear s1 s2 e3 e4 hp hq;refine dD (bj (bj n1 n2) hR0) ?_;have L:k*((y1+y2)*(y1+y2))*(1-S)*(M*N*(1-R))=k*((y1+y2)*(y1+y2)*((M-S*M)*(N-R*N))):=by clear id hxr;grind
  have L':k*(x*((y2-y1)*(y2-y1)))*(1+S)*(M*N*(1-R))=k*((y2-y1)*(y2-y1)*((M+S*M)*(N*(x*(1-R))))):=by clear id hxr;grind
  rw[L,L',hxr,id];clear id hxr L L';grind
def lad(x:F)(n:Nat):Nat→L4
 | 0=>⟨1,0,x,1⟩
 | k+1 =>
  let s:=lad x n k
  if n/2^(254-k)%2=1 then let r:=gg x ⟨s.c,s.d,s.a,s.b⟩;⟨r.c,r.d,r.a,r.b⟩else gg x s
noncomputable def db(n:Nat)(x:F):F:=(lad x n 255).a*inv (lad x n 255).b
noncomputable def uOf(p:Pt):F:=(1+p.y)*inv (1-p.y)
theorem kz{r:Pt}(h:On r)(m:Nat):cI (de (m+1) r) (jV (de m r))=r:=by
 have o:=fY h m;have e:de (m+1) r=cI r (de m r):=nQ _ _;rw[e,pY h o (lF o),Ep o,uE]
theorem Dt(p:Pt):jV (jV p)=p:=by unfold jV;refine Pt.ext' ?_ rfl;simp only;grind
theorem GD(p q:Pt):jV (cI p q)=cI (jV p) (jV q):=by
 unfold jV cI;refine Pt.ext' ?_ ?_
 ·simp only
  rw[show dF* -p.x* -q.x*p.y*q.y=dF*p.x*q.x*p.y*q.y from by grind];grind
 ·simp only
  rw[show dF* -p.x* -q.x*p.y*q.y=dF*p.x*q.x*p.y*q.y from by grind];grind
theorem rI{r:Pt}(h:On r)(m:Nat):(cI (de m r) (jV (de (m+1) r))).y=r.y:=by
 have e:=kz h m;have e2:=XH jV e;rw[GD,Dt,nQ]at e2;rw[e2];rfl
theorem B6{r:Pt}(h:On r){x:F}(hx:x≠0)(hxr:x*(1-r.y)=1+r.y)(n:Nat)(hn:n<2^255):∀k,k≤255 →
 Rp (lad x n k).a (lad x n k).b (de (n/2^(255-k)) r).y∧Rp (lad x n k).c (lad x n k).d (de (n/2^(255-k)+1) r).y
 | 0,_=>by
  rw[Xp hn];refine⟨⟨fun h=>pX h.1,?_⟩,⟨fun h=>pX h.2,?_⟩⟩
  ·show(1:F)*(1-1)=0*(1+1);decide +kernel
  ·rw[show 0+1=1 from rfl,wI]
   show x*(1-r.y)=1*(1+r.y);rw[hxr];grind
 | k+1,hk=>by
  obtain⟨i1,i2⟩:=B6 h hx hxr n hn k Ω;have e1:n/2^(255-k)=n/2^(254-k)/2:=by rw[Xj,← Zb];congr 2;omega
  rw[e1]at i1 i2;rw[show 255-(k+1)=254-k from by omega];generalize hm:n/2^(254-k)=N at *
  have om:=fY h (N/2);have os:=fY h (N/2+1);have hl:lad x n (k+1)=(if n/2^(254-k)%2=1 then(⟨(gg x ⟨(lad x n k).c,(lad x n k).d,(lad x n k).a,(lad x n k).b⟩).c,(gg x ⟨(lad x n k).c,(lad x n k).d,(lad x n k).a,(lad x n k).b⟩).d,(gg x ⟨(lad x n k).c,(lad x n k).d,(lad x n k).a,(lad x n k).b⟩).a,(gg x ⟨(lad x n k).c,(lad x n k).d,(lad x n k).a,(lad x n k).b⟩).b⟩:L4)else gg x (lad x n k)):=rfl;rw[hl,hm];by_cases hb:N%2=1
  ·rw[Ρ hb]
   have j1:=GB os i2;have j2:=GC os om (rI h (N/2)) hx hxr i2 i1;rw[← gM h]at j1 j2;rw[show N/2+1+(N/2+1)=N+1 from by omega]at j1;rw[show N/2+1+N/2=N from by omega]at j2;exact⟨j2,j1⟩
  ·rw[Χ hb]
   have j1:=GB om i1;have j2:=GC om os (XH Pt.y (kz h (N/2))) hx hxr i1 i2;rw[← gM h]at j1 j2;rw[show N/2+N/2=N from by omega]at j1;rw[show N/2+(N/2+1)=N+1 from by omega]at j2;exact⟨j1,j2⟩
theorem Ja{l y:F}(hl:l≠0):l*(1+y)*inv (l*(1-y))=(1+y)*inv (1-y):=by
 by_cases h:1-y=0
 ·rw[h,Z3,Ei,Z3,Z3]
 ·have h1:=eL h
  have h2:=eL (bj hl h);refine dD (bj hl h) ?_;grind
theorem yh{r:Pt}(h:On r)(h1:r.y≠1)(h2:1+r.y≠0)(n:Nat)(hn:n<2^255):db n (uOf r)=uOf (de n r):=by
 have h1':1-r.y≠0:=fun e=>h1 (by grind);have hx:uOf r≠0:=bj h2 (Ej h1');have hxr:uOf r*(1-r.y)=1+r.y:=by
  unfold uOf;have:=eL h1';grind
 obtain⟨i,_⟩:=B6 h hx hxr n hn 255 (Xn _);rw[Nat.sub_self,Yh,Yj]at i;obtain⟨l,hl,e1,e2⟩:=B5 i;unfold db;rw[e1,e2,Ja hl];rfl
theorem JV{p:Pt}(h:On p)(hy:p.y=1):p=pO:=by
 obtain⟨x,y⟩:=p;simp only at hy;subst hy;unfold On at h;simp only at h;have hd:(dF+1)≠0:=Ϛ;have:(dF+1)*(x*x)=0:=by
  generalize dF=d at *
  have e:(1:F)*1-x*x=1+d*x*x*1*1:=h;grind
 rw[show x=0 from sq0 ((gK this).resolve_left hd)];rfl
theorem ND{p:Pt}(h:On p)(hy:1+p.y=0):cI p p=pO:=by
 refine JV (uD h h) ?_;have hs:=gL h h;have hn:=ej h h;unfold On at h;have hy':p.y= -1:=by grind
 rw[hy']at h hs hn;generalize p.x=x at *
 refine dD hn ?_;rw[hs];clear hs hn;grind
theorem GE{p:Pt}(h:On p)(m n:Nat)(hm:de m p=pO)(hn:de n p=pO):de (Nat.gcd m n) p=pO:=by
 induction m,n using Nat.gcd.induction with
 | H0 n=>simpa using hn
 | H1 m n _ ih =>
  rw[Nat.gcd_rec];exact ih ((Ez h hm n).trans hn) hm
theorem GF:pB.y≠1:=Ϛ
theorem JW{n:Nat}(h:de n pB=pO):Qo∣n:=by
 refine YX fun hq=>?_;have hg:=GE sB Qo n Ik h;rw[show Nat.gcd Qo n=1 from Q_prime.coprime hq,wI]at hg;exact GF (XH Pt.y hg)
theorem NE:¬Qo∣2:=Ϛ
theorem B_y{n:Nat}(h:¬Qo∣n):(de n pB).y≠1∧1+(de n pB).y≠0:=by
 refine⟨fun e=>h (JW (JV (fY sB n) e)),fun e=>?_⟩;have:=ND (fY sB n) e;rw[← gM sB,← Nat.two_mul]at this;rcases Q_prime.euclid (JW this)with h'|h'
 ·exact NE h'
 ·exact h h'
theorem u_B:uOf pB=9:=by
 unfold uOf;refine(pW Ϛ ?_).symm;decide +kernel
theorem Qn{p:Pt}(h1:p.y≠1)(h2:1+p.y≠0):uOf p≠0:=bj h2 (Ej fun e=>h1 (by grind))
theorem Lh{m n:Nat}(hm:m<2^255)(hn:n<2^255)(qm:¬Qo∣m)(qn:¬Qo∣n) :
 db m (db n 9)=db n (db m 9)∧db m (db n 9)≠0:=by
 have b1:pB.y≠1:=GF;have b2:1+pB.y≠0:=Ϛ;have one:∀{m n:Nat},m<2^255→n<2^255→¬Qo∣n→db m (db n 9)=uOf (de (m*n) pB):=by
  intro m n hm hn qn;rw[← u_B,yh sB b1 b2 n hn,yh (fY sB n) (B_y qn).1 (B_y qn).2 m hm,← qe sB]
 refine⟨by rw[one hm hn qn,one hn hm qm,XU],?_⟩;rw[one hm hn qn];have hq:¬Qo∣m*n:=fun h=>(Q_prime.euclid h).elim qm qn;exact Qn (B_y hq).1 (B_y hq).2
theorem GG{n:Nat}(h0:0<n)(h:n<2^255)(h8:n%8=0):¬Qo∣n:=by
 intro hq;obtain⟨c,rfl⟩:=hq;have hc:c%8=0:=by
  have:Qo%8=5:=Ϛ;rw[Zo,this]at h8;omega
 have hc8:8≤c:=by
  rcases X4 c with e|e
  ·rw[e]at h0;simp at h0
  ·omega
 have:=YE Qo hc8;have hQ:2^255≤Qo*8:=Ϛ;omega
section
open R3
section
variable {ops:Array Oper} {rest:List Oper} {l:List (Oper×Bool)} {R:Act→Prop} {o:Oper} {a:Act} {D w:ϑ} {M M':Mem} {Q:ώ}
theorem sC6(hg:o.guard=none){f:FuncId}{x y z:Operand}{ts:Array TypeId}(ho:o.op= .call { callee:= .value (.func f),args:= #[x,y,z],argTypes:=ts }){r s:Ψ}{k:IntKind}{n:Int}(hx:a.eval x= .agg r)(hy:a.eval y= .agg s)(hz:a.eval z= .int k n)[he:Ent f]{v:ό}[hf:FnC f #[.agg r,.agg s,.int k n] v](h:bC prog ops (fun w=>Loc D w M) l (a.put o.dst v) R):bC prog ops (fun w=>Loc D w M) ((o,false)::l) a R:=sC (args:= #[.agg r,.agg s,.int k n]) hg ho (by simp[hx,hy,hz]) h
theorem lC7(I:Loc D w M)(hg:o.guard=none){f:FuncId}{x y z x1 y1:Operand}{ts:Array TypeId}(ho:o.op= .call { callee:= .value (.func f),args:= #[x,y,z,x1,y1],argTypes:=ts }){r s t p q:Ψ}(hx:a.eval x= .agg r)(hy:a.eval y= .agg s)(hz:a.eval z= .agg t)(hx1:a.eval x1= .agg p)(hy1:a.eval y1= .agg q)[he:Ent f]{v:ό}[hf:FnC f #[.agg r,.agg s,.agg t,.agg p,.agg q] v](h:∀Z,Loc D Z M→wpList prog ops Q rest (a.put o.dst v) Z):wpList prog ops Q (o::rest) a w:=lC (args:= #[.agg r,.agg s,.agg t,.agg p,.agg q]) I hg ho (by simp[hx,hy,hz,hx1,hy1]) h
end
def pk(s:Nat)(a b:F):F:=if s=1 then b else a
def nt(m n k:Nat):Ψ:=row 4 fun i=>if i<k then lv m i else lv n i
theorem JX(n m k:Nat):bits .xor .u64 (lw n k:Nat) (bits .and .u64 18446744073709551615 (bits .xor .u64 (lw n k:Nat) (lw m k:Nat)))=(lw m k:Nat)∧bits .xor .u64 (lw n k:Nat) (bits .and .u64 0 (bits .xor .u64 (lw n k:Nat) (lw m k:Nat)))=(lw n k:Nat):=by
 have q:∀x:Nat,x<18446744073709551616→(x:Int)=Q (BitVec.ofNat 64 x):=fun x hx=>by
  unfold Q;rw[Xv,Xd hx]
 have l1:=dC n k;have l2:=dC m k;rw[q _ l1,q _ l2,show(18446744073709551615:Int)=Q (BitVec.allOnes 64)from by decide,show(0:Int)=Q 0 from rfl];simp only[Shb.Q_xor,Shb.Q_and];generalize BitVec.ofNat 64 (lw n k)=x;generalize BitVec.ofNat 64 (lw m k)=y;constructor
 ·congr 1;rw[BitVec.allOnes_and,← BitVec.xor_assoc,BitVec.xor_self,BitVec.zero_xor]
 ·congr 1;rw[show(0:BitVec 64)=0#64 from rfl,BitVec.zero_and,BitVec.xor_zero]
instance UE:Ent 286:=eo func286
theorem Du(n m:Nat)(w:ϑ):Rt 286 #[.agg (an n),.agg (an m),.int .u64 0] w (.agg (an n)):=by
 have I:=Loc.nil w;have a1:bits .and .u64 0 1=0:=Ξ;have a2:IntKind.u64.wrap (-0)=0:=Ξ;have z0:=Hd (show an n=nt n n 0 from am fun i hi=>by simp);have z4:=Hd (show nt n n 4=an n from am fun i hi=>Ρ hi);go_enter func286,ntmps286;go_wp2_with (first|refine gBp 3 fun b3 J I=>?_|refine gBp 4 fun b4 J I=>?_|refine gBp 6 fun b6 J I=>?_|refine aQq fun _ J I=>?_);rw[z0.out]at I;go_loopw [12] (fun kk wr=>∃k:Nat,k≤4∧kk= .int .i64 k∧Loc w wr [(b6,an 0,311),(b4,an m,311),(b3,nt n n k,311)]) (fun kk _=>4-(intOf kk).toNat);case atStart=>exact⟨0,Ω,rfl,I⟩
 case round =>
  clear I;obtain⟨k,hk,rfl,I⟩:=hrel;by_cases h9:k<4
  ·have k0:(0:Int)≤(k:Int):=Ω
   have k1:(k:Int)<4:=Ω;have hx:=(JX n m k).2;haveI g1:Cell (nt n n k) k (.int .u64 (lw n k:Nat)):=⟨by
    have:=bG (n:=4) (fun i=>if i<k then lv n i else lv n i) h9;rw[show nt n n k=row 4 fun i=>if i<k then lv n i else lv n i from rfl,this];simp[lv]⟩
   haveI g2:Cell (an m) k (.int .u64 (lw m k:Nat)):=aO _ h9;haveI g3:Put (nt n n k) k (.int .u64 (lw n k:Nat)) (nt n n (k+1)):=bm h9 (am fun i hi=>by
    unfold upd;by_cases c:i=k
    ·subst c;rw[Ρ rfl,Ρ Ω];rfl
    ·rw[Χ c];dsimp only;by_cases d:i<k
     ·rw[Ρ d,Ρ Ω]
     ·rw[Χ d,Χ Ω])
   clear z0 z4 h9;go_wp2_with (refine aQq fun _ J I=>?_);refine wf [(0,true),(1,true),(2,false),(3,true),(4,true),(5,true),(6,false),(7,true),(8,true),(9,false),(10,true),(11,true),(12,true),(13,true)] [] [14] I ?_;refine fA ?_;refine fB fun J I=>?_;go_wp2_with (refine aQq fun _ J I=>?_);go_roundw;case rel=>exact⟨k+1,Ω,by go_num,I⟩
   case measure=>exact ϝ
  ·obtain rfl:k=4:=Ω
   rw[z4.out]at I;go_wp2_with (refine aQq fun _ J I=>?_);exact Λ
theorem Dw(n m:Nat)(w:ϑ):Rt 286 #[.agg (an n),.agg (an m),.int .u64 1] w (.agg (an m)):=by
 have I:=Loc.nil w;have a1:bits .and .u64 1 1=1:=Ξ;have a2:IntKind.u64.wrap (-1)=18446744073709551615:=Ξ;have z0:=Hd (show an n=nt m n 0 from am fun i hi=>by simp);have z4:=Hd (show nt m n 4=an m from am fun i hi=>Ρ hi);go_enter func286,ntmps286;go_wp2_with (first|refine gBp 3 fun b3 J I=>?_|refine gBp 4 fun b4 J I=>?_|refine gBp 6 fun b6 J I=>?_|refine aQq fun _ J I=>?_);rw[z0.out]at I;go_loopw [12] (fun kk wr=>∃k:Nat,k≤4∧kk= .int .i64 k∧Loc w wr [(b6,an 0,311),(b4,an m,311),(b3,nt m n k,311)]) (fun kk _=>4-(intOf kk).toNat);case atStart=>exact⟨0,Ω,rfl,I⟩
 case round =>
  clear I;obtain⟨k,hk,rfl,I⟩:=hrel;by_cases h9:k<4
  ·have k0:(0:Int)≤(k:Int):=Ω
   have k1:(k:Int)<4:=Ω;have hx:=(JX n m k).1;haveI g1:Cell (nt m n k) k (.int .u64 (lw n k:Nat)):=⟨by
    have:=bG (n:=4) (fun i=>if i<k then lv m i else lv n i) h9;rw[show nt m n k=row 4 fun i=>if i<k then lv m i else lv n i from rfl,this];simp[lv]⟩
   haveI g2:Cell (an m) k (.int .u64 (lw m k:Nat)):=aO _ h9;haveI g3:Put (nt m n k) k (.int .u64 (lw m k:Nat)) (nt m n (k+1)):=bm h9 (am fun i hi=>by
    unfold upd;by_cases c:i=k
    ·subst c;rw[Ρ rfl,Ρ Ω];rfl
    ·rw[Χ c];dsimp only;by_cases d:i<k
     ·rw[Ρ d,Ρ Ω]
     ·rw[Χ d,Χ Ω])
   clear z0 z4 h9;go_wp2_with (refine aQq fun _ J I=>?_);refine wf [(0,true),(1,true),(2,false),(3,true),(4,true),(5,true),(6,false),(7,true),(8,true),(9,false),(10,true),(11,true),(12,true),(13,true)] [] [14] I ?_;refine fA ?_;refine fB fun J I=>?_;go_wp2_with (refine aQq fun _ J I=>?_);go_roundw;case rel=>exact⟨k+1,Ω,by go_num,I⟩
   case measure=>exact ϝ
  ·obtain rfl:k=4:=Ω
   rw[z4.out]at I;go_wp2_with (refine aQq fun _ J I=>?_);exact Λ
theorem kR(s:Nat)(hs:s<2)(a b:F):FnC 286 #[.agg (an a.val),.agg (an b.val),.int .u64 (s:Nat)] (.agg (an (pk s a b).val)):=by
 rcases s with _|_|s
 ·exact⟨Du _ _⟩
 ·exact⟨Dw _ _⟩
 ·omega
theorem Dx(f:Φ)(w:ϑ):Rt 285 #[.agg (aa 32 f)] w (.agg (aa 32 (ah (bJ (leN f))))):=by
 have I:=Loc.nil w;haveI p0:=Fv f;haveI p1:=BD f;haveI g0:Cell (aa 32 f) 0 (.int .u8 (B8 (f 0))):=aO _ Ω;haveI g1:Cell (aa 32 fun i=>if i=0 then ah (bJ (leN f)) 0 else f i) 31 (.int .u8 (B8 (f 31))):=aO _ Ω;generalize ah (bJ (leN f))=out at *
 generalize(fun i=>if i=0 then out 0 else f i)=mid,f 0=x,f 31=y at *
 go_enter func285,ntmps285;go_wp2_with (first|refine gBp 1 fun b1 J I=>?_|refine gBp 2 fun b2 J I=>?_|refine aQq fun _ J I=>?_);exact Λ
instance UF:Ent 285:=eo func285
instance UG(f:Φ):FnC 285 #[.agg (aa 32 f)] (.agg (aa 32 (ah (bJ (leN f))))):=⟨Dx f⟩
theorem Dy(w:ϑ):(Instr.build 311 #[(0,.int .u64 121665)]).run prog w= .ok (.agg (an (121665:F).val)) w:=Θ
theorem yi(w:ϑ):(Instr.build 311 #[(0,.int .u64 1)]).run prog w= .ok (.agg (an (1:F).val)) w:=Θ
theorem GH(w:ϑ):(Instr.build 311 #[]).run prog w= .ok (.agg (an 0)) w:=Θ
theorem vJ{fn:Func}{p1 p2 p3 p4:Tmp}{t:ϋ}(h:fn.results= #[.cell p1 t,.cell p2 t,.cell p3 t,.cell p4 t]){D w:ϑ}{M:Mem}(I:Loc D w M){tmps:Ψ}{b1 b2 b3 b4:Nat}(h1:tmps.getD p1 undef= .pointer (ϐ b1))(h2:tmps.getD p2 undef= .pointer (ϐ b2))(h3:tmps.getD p3 undef= .pointer (ϐ b3))(h4:tmps.getD p4 undef= .pointer (ϐ b4)){n:Nat}[ht:RowTy t n]{r1 r2 r3 r4:Ψ}[m1:At M b1 r1 t][m2:At M b2 r2 t][m3:At M b3 r3 t][m4:At M b4 r4 t][q1:Row1 r1 n][q2:Row1 r2 n][q3:Row1 r3 n][q4:Row1 r4 n] :
 (results fn tmps).run prog w= .ok (.tuple #[.agg r1,.agg r2,.agg r3,.agg r4]) w:=by
 obtain⟨d,e1,e2⟩:=ht.und;have κ:∀{b:Nat} {r:Ψ},At M b r t→Row1 r n→(loadVar t ⟨b,0,none⟩).run prog w= .ok (.agg r) w:=fun{b r} hm hr =>
  run_loadVar_row w b t t r (0,0) d (I.get hm.mem) e1 (by cases d <;> first|rfl|cases e2) (by rw[ht.size,hr.size])
 have k1:=κ m1 q1;have k2:=κ m2 q2;have k3:=κ m3 q3;have k4:=κ m4 q4;have h1':tmps[p1]?.getD undef= .pointer (ϐ b1):=by simpa using h1
 have h2':tmps[p2]?.getD undef= .pointer (ϐ b2):=by simpa using h2
 have h3':tmps[p3]?.getD undef= .pointer (ϐ b3):=by simpa using h3
 have h4':tmps[p4]?.getD undef= .pointer (ϐ b4):=by simpa using h4
 simp[results,h,h1',h2',h3',h4',asAddr,k1,k2,k3,k4]
theorem yj(x a b c d:F)(w:ϑ):ϓ 287 #[.agg (an x.val),.agg (an a.val),.agg (an b.val),.agg (an c.val),.agg (an d.val)] w fun e Z =>
 e= .returned (.tuple #[.agg (an (gg x ⟨a,b,c,d⟩).a.val),.agg (an (gg x ⟨a,b,c,d⟩).b.val),.agg (an (gg x ⟨a,b,c,d⟩).c.val),.agg (an (gg x ⟨a,b,c,d⟩).d.val)])∧Υ w Z:=by
 have I:=Loc.nil w;unfold gg;dsimp only;go_enter func287,ntmps287;go_wp2_with (first|refine gBp 5 fun b5 J I=>?_|refine gBp 6 fun b6 J I=>?_|refine gBp 7 fun b7 J I=>?_|refine gBp 8 fun b8 J I=>?_|refine gBp 9 fun b9 J I=>?_|refine gBp 10 fun b10 J I=>?_|refine gBp 11 fun b11 J I=>?_|refine gBp 12 fun b12 J I=>?_|refine gBp 13 fun b13 J I=>?_|refine aQq fun _ J I=>?_);refine au [(0,false),(1,false),(2,false),(3,false),(4,false),(5,false)] [(6,_,311),(7,_,311)] [8,9] Θ Θ ⟨⟨_,rfl,rfl,rfl⟩,Ϙ,⟨⟨_,rfl,rfl,rfl⟩,Ϙ,trivial⟩⟩ I ?_;refine pF ?_;refine fA ?_;refine aC fun b=>?_;refine aC fun b=>?_;refine fB fun J I=>?_;go_wp2_with (first|refine gBp 18 fun b18 J I=>?_|refine aQq fun _ J I=>?_);refine au [(0,false),(1,false),(2,false),(3,false),(4,false),(5,false)] [(6,_,311),(7,_,311)] [8,9] Θ Θ ⟨⟨_,rfl,rfl,rfl⟩,Ϙ,⟨⟨_,rfl,rfl,rfl⟩,Ϙ,trivial⟩⟩ I ?_;refine pF ?_;refine fA ?_;refine aC fun b=>?_;refine aC fun b=>?_;refine fB fun J I=>?_;go_wp2_with (first|refine gBp 18 fun b18 J I=>?_|refine aQq fun _ J I=>?_);refine au [(0,false),(1,false),(2,false),(3,false),(4,false)] [(5,_,311)] [6] Θ Θ ⟨⟨_,rfl,rfl,rfl⟩,Ϙ,trivial⟩ I ?_;refine pF ?_;refine fA ?_;refine aC fun b=>?_;refine fB fun J I=>?_;go_wp2_with (refine aQq fun _ J I=>?_);refine au [(0,false),(1,false),(2,false),(3,false),(4,false)] [(5,_,311)] [6] Θ Θ ⟨⟨_,rfl,rfl,rfl⟩,Ϙ,trivial⟩ I ?_;refine pF ?_;refine fA ?_;refine aC fun b=>?_;refine fB fun J I=>?_;go_wp2_with (refine aQq fun _ J I=>?_);refine au [(0,false),(1,false),(2,false),(3,false),(4,false),(5,false)] [(6,_,311),(7,_,311)] [8,9] Θ Θ ⟨⟨_,rfl,rfl,rfl⟩,Ϙ,⟨⟨_,rfl,rfl,rfl⟩,Ϙ,trivial⟩⟩ I ?_;refine pF ?_;refine fA ?_;refine aC fun b=>?_;refine aC fun b=>?_;refine fB fun J I=>?_;go_wp2_with (refine aQq fun _ J I=>?_);refine wf [(0,false),(1,false),(2,false),(3,false),(4,false),(5,true),(6,false),(7,false),(8,false),(9,false),(10,false),(11,false),(12,false),(13,false),(14,false),(15,false),(16,false),(17,false)] [] [18,19,20,21] I ?_
 repeat(first|((with_reducible show bC _ _ _ (_::_) _ _);refine sU rfl rfl Dy rfl ?_;refine p4 ?_)|refine rS ?_)
 refine aK ?_;refine fB fun J I=>?_;go_wp2_with (refine aQq fun _ J I=>?_);exact Ϣ (vJ rfl I rfl rfl rfl rfl) rfl ⟨rfl,I.bel⟩
instance UH:Ent 287:=eo func287
def dk(n k:Nat)(s:L4):L4:=if n/2^(255-k)%2=1 then⟨s.c,s.d,s.a,s.b⟩else s
theorem As(x:F)(n k:Nat)(hk:k<255):dk n (k+1) (lad x n (k+1))=gg x (if n/2^(254-k)%2=1 then⟨(lad x n k).c,(lad x n k).d,(lad x n k).a,(lad x n k).b⟩else lad x n k):=by
 show dk n (k+1) (if n/2^(254-k)%2=1 then _ else _)=_;unfold dk;rw[show 255-(k+1)=254-k from by omega];by_cases h:n/2^(254-k)%2=1
 ·simp only[Ρ h]
 ·simp only[Χ h]
theorem tU(n k:Nat)(s:L4)(y:Nat)(hy:y<2):(⟨pk ((n/2^(255-k)%2+y)%2) (dk n k s).a (dk n k s).c,pk ((n/2^(255-k)%2+y)%2) (dk n k s).b (dk n k s).d,pk ((n/2^(255-k)%2+y)%2) (dk n k s).c (dk n k s).a,pk ((n/2^(255-k)%2+y)%2) (dk n k s).d (dk n k s).b⟩:L4) =
 if y=1 then⟨s.c,s.d,s.a,s.b⟩else s:=by
 unfold dk pk;generalize n/2^(255-k)=m;by_cases h:m%2=1
 ·rcases(show y=0∨y=1 by omega)with rfl|rfl
  ·simp[h]
  ·simp[h]
 ·have h0:m%2=0:=Ω
  rcases(show y=0∨y=1 by omega)with rfl|rfl
  ·simp[h0]
  ·simp[h0]
theorem Jb(x y:Nat)(hx:x<2)(hy:y<2):bits .xor .u64 (x:Nat) (y:Nat)=((x+y)%2:Nat):=by
 rcases(show x=0∨x=1 by omega)with rfl|rfl <;> rcases(show y=0∨y=1 by omega)with rfl|rfl <;> decide
noncomputable def a7(k u:Φ):Nat:=(Eh (db (bJ (leN k)) (fe (leN (dy u))))).val
theorem pK(k u:Φ):a7 k u=(db (bJ (leN k)) (fe (leN (dy u)))).val:=XH Fin.val (uB _)
theorem jz(n:Nat):bJ n<2^255:=by
 unfold bJ;have:n%2^254<2^254:=XJ _ (Xg _);have h2:(2:Nat)^255=2*2^254:=Ϛ;generalize(2:Nat)^254=Ezq at *
 omega
theorem Au(fk fu:Φ)(w:ϑ):Rt 253 #[.agg (aa 32 fk),.agg (aa 32 fu)] w (.agg (aa 32 (ah (a7 fk fu)))):=by
 have I:=Loc.nil w;haveI g1:Cell (aa 32 fu) 31 (.int .u8 (B8 (fu 31))):=aO _ Ω;haveI g2:Put (aa 32 fu) 31 (.int .u8 (bits .and .u8 (B8 (fu 31)) 127)) (aa 32 (dy fu)):=bm Ω (py fu);obtain⟨n,hn⟩:∃n,n=bJ (leN fk):=⟨_,rfl⟩;obtain⟨x,hx⟩:∃x,x=fe (leN (dy fu)):=⟨_,rfl⟩;haveI f0:FnC 270 #[.agg (aa 32 (ah (bJ (leN fk))))] (.agg (an n)):=by
  have h:=Ev (ah (bJ (leN fk)));rw[bT (kK _)]at h;rw[hn];exact⟨h⟩
 haveI f1:FnC 271 #[.agg (an (leN (dy fu)))] (.agg (an x.val)):=⟨by rw[hx,zk];exact lJ _ (fX _)⟩;haveI fc:FnC 285 #[.agg (aa 32 fk)] (.agg (aa 32 (ah (bJ (leN fk))))):=Ϙ;have HN:=Hd (show n<2^255 from by rw[hn];exact jz _);rw[pK,← hn,← hx];unfold db;clear hn hx;generalize hT:lad x n 255=Tzq;have HT0:=Hd hT;clear hT;haveI hlow:FnC 270 #[.agg (aa 32 (dy fu))] (.agg (an (leN (dy fu)))):=Ϙ;generalize dy fu=fv,ah (bJ (leN fk))=kb at *
 generalize leN fv=y at *
 have z0:=Hd (show dk n 0 ⟨1,0,x,1⟩=⟨1,0,x,1⟩from by
  unfold dk;rw[Χ (by rw[Xp HN.out];decide)])
 have z1:=Hd (show((n/2^(255-0)%2:Nat):Int)=0 from by rw[Xp HN.out];rfl);go_enter func253,ntmps253;go_wp2_with (first|refine gBp 2 fun b2 J I=>?_|refine gBp 3 fun b3 J I=>?_|refine gBp 4 fun b4 J I=>?_|refine gBp 5 fun b5 J I=>?_|refine gBp 6 fun b6 J I=>?_|refine aQq fun _ J I=>?_);refine Ϭ 12 I fun H I=>?_;refine uT 0 (hi:=rfl) (zU ϕ rfl yi rfl) ?_;refine uT 1 (hi:=rfl) (zU ϕ rfl GH rfl) ?_;refine uZ 2 ?_;refine uT 3 (hi:=rfl) (zU ϕ rfl yi rfl) ?_;refine lf 4 4 [(4,_,311),(5,_,311),(6,_,311),(7,_,311)] rfl _ _ _ [] Θ (XC Θ) ⟨⟨_,rfl,rfl,rfl⟩,Ϙ,⟨⟨_,rfl,rfl,rfl⟩,Ϙ,⟨⟨_,rfl,rfl,rfl⟩,Ϙ,⟨⟨_,rfl,rfl,rfl⟩,Ϙ,trivial⟩⟩⟩⟩ I fun bs J Y=>?_;simp only[ZC,List.foldl_nil,alS,kq,List.getElem?_toArray,List.getElem?_cons_zero,List.getElem?_cons_succ,Option.bind_some,List.map_cons,List.map_nil,List.cons_append,List.nil_append]at Y ⊢;generalize bs 4=b7,bs 5=b8,bs 6=b9,bs 7=b10 at *
 clear I;have I:=Y;clear Y H bs;have H:=I.pop.pop.pop.pop;refine p7 ?_;refine rd1 8 fun K T=>?_
 first|refine eT I rfl rfl rfl fun J Y=>?_|refine eTs I rfl rfl rfl fun J Y=>?_|refine eTb I rfl rfl rfl fun J Y=>?_|refine eTp I rfl rfl rfl fun J Y=>?_|refine eS I rfl rfl rfl fun J Y=>?_
 clear I;have I:=Y;clear Y;refine kO T (I.pop.pop.pop.pop) fun H=>?_;refine rd1 9 fun K T=>?_
 first|refine eT I rfl rfl rfl fun J Y=>?_|refine eTs I rfl rfl rfl fun J Y=>?_|refine eTb I rfl rfl rfl fun J Y=>?_|refine eTp I rfl rfl rfl fun J Y=>?_|refine eS I rfl rfl rfl fun J Y=>?_
 clear I;have I:=Y;clear Y;refine kO T (I.pop.pop.pop.pop) fun H=>?_;refine rd1 10 fun K T=>?_
 first|refine eT I rfl rfl rfl fun J Y=>?_|refine eTs I rfl rfl rfl fun J Y=>?_|refine eTb I rfl rfl rfl fun J Y=>?_|refine eTp I rfl rfl rfl fun J Y=>?_|refine eS I rfl rfl rfl fun J Y=>?_
 clear I;have I:=Y;clear Y;refine kO T (I.pop.pop.pop.pop) fun H=>?_;refine rd1 11 fun K T=>?_
 first|refine eT I rfl rfl rfl fun J Y=>?_|refine eTs I rfl rfl rfl fun J Y=>?_|refine eTb I rfl rfl rfl fun J Y=>?_|refine eTp I rfl rfl rfl fun J Y=>?_|refine eS I rfl rfl rfl fun J Y=>?_
 clear I;have I:=Y;clear Y;refine kO T (I.pop.pop.pop.pop) fun H=>?_;refine wD ?_;clear H;go_wp2_with fail;go_loopw [11,12] (fun sv kk wr=>∃k:Nat,k≤255∧kk= .int .i64 (254-(k:Int))∧sv= .int .u64 ((n/2^(255-k)%2:Nat):Int)∧Loc w wr [(b7,an (dk n k (lad x n k)).a.val,311),(b8,an (dk n k (lad x n k)).b.val,311),(b9,an (dk n k (lad x n k)).c.val,311),(b10,an (dk n k (lad x n k)).d.val,311),(b6,an x.val,311),(b5,an n,311),(b4,aa 32 fun _=>0,24),(b3,aa 32 fv,24),(b2,aa 32 fk,24)]) (fun _ kk _=>(intOf kk+1).toNat);case atStart=>exact⟨0,Ω,rfl,by rw[z1.out],by rw[show lad x n 0=⟨1,0,x,1⟩from rfl,z0.out];exact I⟩
 case round =>
  clear I;obtain⟨k,hk,rfl,rfl,I⟩:=hrel;have hb0:n/2^(255-k)%2<2:=XJ _ Ξ;by_cases h9:k<255
  ·have k0:(0:Int)≤254-(k:Int):=Ω
   have k1:¬254-(k:Int)<0:=Ω;have k2:(k:Int)≤254:=Ω;have V:n/2^(254-k)%2<2:=XJ _ Ξ;haveI f2:FnC 283 #[.agg (an n),.int .i64 (254-(k:Int))] (.int .u64 (n/2^(254-k)%2:Nat)):=by
    have h:=pv n (254-k) Ω;rw[show((254-k:Nat):Int)=254-(k:Int)from by omega]at h;exact⟨h⟩
   have HT:=Hd (tU n k (lad x n k) _ V);have HS:=Hd (As x n k h9);have hx:=Jb _ _ hb0 V;have HY:=Hd (show n/2^(255-(k+1))%2=n/2^(254-k)%2 from by rw[show 255-(k+1)=254-k from by omega]);have hz:(n/2^(255-k)%2+n/2^(254-k)%2)%2<2:=XJ _ Ξ;generalize hS':dk n (k+1) (lad x n (k+1))=S',dk n k (lad x n k)=S,(n/2^(255-k)%2+n/2^(254-k)%2)%2=z at *
   generalize n/2^(254-k)%2=y,n/2^(255-k)%2=y0 at *
   haveI j1:=kR z hz S.a S.c;haveI j2:=kR z hz S.c S.a;haveI j3:=kR z hz S.b S.d;haveI j4:=kR z hz S.d S.b;haveI fs:FnC 287 #[.agg (an x.val),.agg (an (pk z S.a S.c).val),.agg (an (pk z S.b S.d).val),.agg (an (pk z S.c S.a).val),.agg (an (pk z S.d S.b).val)] (.tuple #[.agg (an S'.a.val),.agg (an S'.b.val),.agg (an S'.c.val),.agg (an S'.d.val)]):=⟨by
    rw[HS.out,← HT.out];exact yj _ _ _ _ _⟩
   generalize pk z S.a S.c=q1,pk z S.c S.a=q2,pk z S.b S.d=q3,pk z S.d S.b=q4 at *
   obtain⟨Sa,Sb,Sc,Sd⟩:=S;have HS2:=Hd hS';have HY2:=Hd HY.out;clear HT HS hS' HY z0 z1 hb0 V hz HN;dsimp only at *
   go_wp2_with (refine aQq fun _ J I=>?_);refine wf [(0,false),(1,false),(2,true),(3,false),(4,false),(5,false),(6,true),(7,false)] [] [8,9] I ?_
   repeat(first|((with_reducible show bC _ _ _ (_::_) _ _);refine sC6 rfl rfl rfl rfl rfl ?_;refine p4 ?_)|refine rS ?_)
   refine aK ?_;refine fB fun J I=>?_;go_wp2_with fail;refine wf [(0,false),(1,false),(2,true),(3,false),(4,false),(5,false),(6,true),(7,false)] [] [8,9] I ?_
   repeat(first|((with_reducible show bC _ _ _ (_::_) _ _);refine sC6 rfl rfl rfl rfl rfl ?_;refine p4 ?_)|refine rS ?_)
   refine aK ?_;refine fB fun J I=>?_;go_wp2_with (first|(refine gN 61 ?_;refine lC7 I rfl rfl rfl rfl rfl rfl rfl fun J I=>?_)|refine aQq fun _ J I=>?_);go_roundw;case rel=>exact⟨k+1,Ω,by rw[show 254-(k:Int)-1=254-((k+1:Nat):Int)from by omega],by rw[HY2.out],by rw[HS2.out];exact I⟩
   case measure=>exact ϝ
  ·obtain rfl:k=255:=Ω
   rw[HT0.out]at I;have HT:=Hd (tU n 255 Tzq 0 Ξ);generalize dk n 255 Tzq=S at *
   rw[show n/2^(255-255)%2+0=n/2^(255-255)%2 from rfl,Nat.mod_mod]at HT;generalize n/2^(255-255)%2=z at *
   have HA:=HT.out;rw[Χ Ξ]at HA;haveI j1:=kR z hb0 S.a S.c;haveI j2:=kR z hb0 S.b S.d;rw[show pk z S.a S.c=Tzq.a from XH L4.a HA]at j1;rw[show pk z S.b S.d=Tzq.b from XH L4.b HA]at j2;obtain⟨Sa,Sb,Sc,Sd⟩:=S;clear HT HA HT0 z0 z1 hb0 HN;dsimp only at *
   rw[show(254:Int)-((255:Nat):Int)= -1 from by omega];go_wp2_with (refine aQq fun _ J I=>?_);refine wf [(0,false),(1,false),(2,true),(3,false),(4,false),(5,false),(6,true),(7,false)] [] [8,9] I ?_
   repeat(first|((with_reducible show bC _ _ _ (_::_) _ _);refine sC6 rfl rfl rfl rfl rfl ?_;refine p4 ?_)|refine rS ?_)
   refine aK ?_;refine fB fun J I=>?_;go_wp2_with fail;refine wf [(0,false),(1,false),(2,false),(3,false),(4,false)] [] [5] I ?_;refine fA ?_;refine fB fun J I=>?_;go_wp2_with (refine aQq fun _ J I=>?_);exact Λ
instance UI:Ent 253:=eo func253
instance UJ(fk fu:Φ):FnC 253 #[.agg (aa 32 fk),.agg (aa 32 fu)] (.agg (aa 32 (ah (a7 fk fu)))):=⟨Au fk fu⟩
def bO:Nat→Γ:=fun i=>if i=0 then 9 else 0
theorem Av(w:ϑ):(Instr.build 24 #[(0,.int .u8 9)]).run prog w= .ok (.agg (aa 32 bO)) w:=Θ
theorem sY(f:Φ)(w:ϑ):Rt 213 #[.agg (aa 32 f)] w (.agg (aa 32 (ah (a7 f bO)))):=by
 have I:=Loc.nil w;go_enter func213,ntmps213;go_wp2_with (first|refine gBp 1 fun b1 J I=>?_|refine gBp 2 fun b2 J I=>?_|((refine ϗ (.build _ _) ?_);refine lU I rfl rfl Av rfl fun J I=>?_)|refine aQq fun _ J I=>?_);exact Λ
instance UK:Ent 213:=eo func213
instance UL(f:Φ):FnC 213 #[.agg (aa 32 f)] (.agg (aa 32 (ah (a7 f bO)))):=⟨sY f⟩
theorem jA(w:ϑ):(Instr.build 24 #[]).run prog w= .ok (.agg (aa 32 (ah 0))) w:=Θ
theorem B7(k u:Φ):a7 k u<2^256:=jX _
theorem ll(fk fu:Φ)(w:ϑ):Rt 212 #[.agg (aa 32 fk),.agg (aa 32 fu)] w (.tuple #[.agg (aa 32 (ah (a7 fk fu))),.int .i64 (if a7 fk fu=0 then 21 else 0)]):=by
 have I:=Loc.nil w;haveI eq1:=jp (a7 fk fu) 0 (B7 fk fu) Ξ;haveI fm:FnC 253 #[.agg (aa 32 fk),.agg (aa 32 fu)] (.agg (aa 32 (ah (a7 fk fu)))):=Ϙ;generalize a7 fk fu=z at *
 by_cases hz:z=0
 ·subst hz
  rw[Xw rfl]at eq1;rw[Ρ rfl];go_enter func212,ntmps212;go_wp2_with (first|refine gBp 2 fun b2 J I=>?_|refine gBp 3 fun b3 J I=>?_|refine gBp 4 fun b4 J I=>?_|refine gBp 6 fun b6 J I=>?_|((refine ϗ (.build _ _) ?_);refine lU I rfl rfl jA rfl fun J I=>?_)|((refine gN 12 ?_);refine lQ I rfl rfl rfl rfl fun J I=>?_)|refine aQq fun _ J I=>?_);exact Ϣ (ao rfl I rfl rfl) rfl ⟨rfl,I.bel⟩
 ·rw[XB hz]at eq1
  rw[Χ hz];go_enter func212,ntmps212;go_wp2_with (first|refine gBp 2 fun b2 J I=>?_|refine gBp 3 fun b3 J I=>?_|refine gBp 4 fun b4 J I=>?_|refine gBp 6 fun b6 J I=>?_|((refine ϗ (.build _ _) ?_);refine lU I rfl rfl jA rfl fun J I=>?_)|((refine gN 12 ?_);refine lQ I rfl rfl rfl rfl fun J I=>?_)|refine aQq fun _ J I=>?_);exact Ϣ (ao rfl I rfl rfl) rfl ⟨rfl,I.bel⟩
end
section
open R3
theorem GI(w:ϑ):(Instr.build 311 #[(0,.int .u64 18446744073709551611),(1,.int .u64 18446744073709551615),(2,.int .u64 3),(3,.int .u64 0)]).run prog w= .ok (.agg (an P5)) w:=Θ
theorem sZ(w:ϑ):Rt 312 #[] w (.agg (an P5)):=by
 have I:=Loc.nil w;go_enter func312,ntmps312;go_wp2_with (first|refine gBp 0 fun b0 J I=>?_|((refine ϗ (.build _ _) ?_);refine lU I rfl rfl GI rfl fun J I=>?_)|refine aQq fun _ J I=>?_);exact Λ
instance UM:Ent 312:=eo func312
instance UN:FnC 312 #[] (.agg (an P5)):=⟨sZ⟩
theorem pL{n:Nat}{a b c d:Int}(h0:a=(lw n 0:Nat))(h1:b=(lw n 1:Nat))(h2:c=(lw n 2:Nat))(h3:d=(lw n 3:Nat)): #[Value.int .u64 a,Value.int .u64 b,Value.int .u64 c,Value.int .u64 d]=an n:=by
 subst h0 h1 h2 h3;rfl
theorem Jc{n:Nat}(hn:n<2^256):lw (n/2^130) 0=lw n 2/4+lw n 3%4*4611686018427387904∧lw (n/2^130) 1=lw n 3/4:=by
 unfold lw;rw[show 2^130=2^(64*2)*4 from rfl,← Xj];have h3:n/2^(64*3)=n/2^(64*2)/18446744073709551616:=by rw[Xj]
 have hm:n/2^(64*2)<340282366920938463463374607431768211456:=by
  rw[Yn (Xg _)];exact Xl hn Ϛ
 rw[h3,XO,Yh,Yj,show 2^(64*1)=18446744073709551616 from rfl];generalize n/2^(64*2)=x at *
 omega
theorem GJ(a b:Nat)(ha:a<4611686018427387904):bits .or .u64 (a:Int) (IntKind.u64.wrap ((b:Int)*4611686018427387904))=((a+b%4*4611686018427387904:Nat):Int):=by
 have e:IntKind.u64.wrap ((b:Int)*4611686018427387904)=((b%4*4611686018427387904:Nat):Int):=by rw[XM];omega
 rw[e,re a _ Ω Ω,Nat.or_comm];have h:=Yt (i:=62) (b:=a) Ω (b%4);rw[Y3]at h;rw[show(4611686018427387904:Nat)=2^62 from rfl,← h,Nat.add_comm]
theorem Dz(n:Nat):an (n%2^130)= #[.int .u64 (lw n 0:Nat),.int .u64 (lw n 1:Nat),.int .u64 (lw n 2%4:Nat),.int .u64 0]:=by
 symm
 refine pL ?_ ?_ ?_ ?_
 ·congr 1;unfold lw
  rw[show 2^130=2^(64*2)*4 from rfl,YV];simp only[XO,XS,Nat.reduceMul,Nat.reducePow];omega
 ·congr 1;unfold lw
  rw[show 2^130=2^(64*2)*4 from rfl,YV];simp only[XO,XS,Nat.reduceMul,Nat.reducePow];omega
 ·congr 1;unfold lw
  rw[show 2^130=2^(64*2)*4 from rfl,YV];simp only[XO,XS,Nat.reduceMul,Nat.reducePow];omega
 ·show(0:Int)=_
  unfold lw;rw[Xp (Xl (XJ _ (Xg _)) (Xx Ω Ω))];rfl
theorem Aw{x y:Nat}(hx:x<18446744073709551616)(hy:y<4611686018427387904) :
 lw (5*(x+18446744073709551616*y)) 0=x*5%18446744073709551616∧lw (5*(x+18446744073709551616*y)) 1=(y*5%18446744073709551616+x*5/18446744073709551616)%18446744073709551616 ∧
  lw (5*(x+18446744073709551616*y)) 2=y*5/18446744073709551616+(y*5%18446744073709551616+x*5/18446744073709551616)/18446744073709551616∧lw (5*(x+18446744073709551616*y)) 3=0:=by
 have e1:5*(x+18446744073709551616*y)/18446744073709551616=y*5+x*5/18446744073709551616:=Ω;unfold lw;rw[show 2^(64*3)=18446744073709551616*(18446744073709551616*18446744073709551616)from rfl,show 2^(64*2)=18446744073709551616*18446744073709551616 from rfl,show 2^(64*1)=18446744073709551616 from rfl,
  ← Xj,← Xj,← Xj,e1]
 have hz:x*5/18446744073709551616≤4:=Ω;refine⟨?_,?_,?_,?_⟩
 ·rw[XO,Yh,Yj]
  omega
 all_goals
  clear e1;generalize x*5/18446744073709551616=z at *
  clear hx;have h1:=ZA (y*5) 18446744073709551616;have h2:y*5/18446744073709551616≤1:=Ω;have h3:y*5%18446744073709551616<18446744073709551616:=XJ _ Ω;generalize y*5%18446744073709551616=r,y*5/18446744073709551616=a at *
  generalize y*5=A at *
  clear hy;subst h1;omega
theorem Qp{n:Nat}(hn:n<2^256):n/2^130=lw (n/2^130) 0+18446744073709551616*lw (n/2^130) 1∧lw (n/2^130) 1<4611686018427387904:=by
 have hq:n/2^130<85070591730234615865843651857942052864:=by
  rw[Yn (Xg _)];exact Xl hn Ϛ
 unfold lw;rw[XO,Yh,Yj,show 2^(64*1)=18446744073709551616 from rfl];generalize n/2^130=q at *
 omega
theorem gu(n:Nat)(hn:n<2^256)(w:ϑ):Rt 311 #[.agg (an n)] w (.agg (an (f5 n))):=by
 have I:=Loc.nil w;obtain⟨p0,p1⟩:=Jc hn;obtain⟨q0,q1⟩:=Qp hn;have hx:=dC (n/2^130) 0;obtain⟨v0,v1,v2,v3⟩:=Aw hx q1;rw[← q0]at v0 v1 v2 v3;have hlow:=Dz n;haveI fa:FnC 301 #[.agg (an (n%2^130)),.agg (an (5*(n/2^130)))] (.tuple #[.agg (an (f5 n)),.int .u64 (cy (n%2^130) (5*(n/2^130)) 4:Nat)]):=⟨jg _ _⟩;generalize f5 n=out,cy (n%2^130) (5*(n/2^130)) 4=cc at *
 have l2:=dC n 2;have l3:=dC n 3;have hor:=GJ (lw n 2/4) (lw n 3) Ω;rw[← p0]at hor;have ha:=gA (lw (n/2^130) 1*5%18446744073709551616) (lw (n/2^130) 0*5/18446744073709551616) 0 Ω;rw[Zm,← v1]at ha;haveI m1:FnC 144 #[.int .u64 (lw (n/2^130) 0:Nat),.int .u64 5] (.tuple #[.int .u64 ((lw (n/2^130) 0*5/18446744073709551616:Nat):Int),.int .u64 ((lw (n/2^130) 0*5%18446744073709551616:Nat):Int)]):=⟨iK _ 5 hx Ω⟩;haveI m2:FnC 144 #[.int .u64 (lw (n/2^130) 1:Nat),.int .u64 5] (.tuple #[.int .u64 ((lw (n/2^130) 1*5/18446744073709551616:Nat):Int),.int .u64 ((lw (n/2^130) 1*5%18446744073709551616:Nat):Int)]):=⟨iK _ 5 Ω Ω⟩;have hd1:((lw n 3:Int)/4)=((lw (n/2^130) 1:Nat):Int):=by rw[p1];omega
 have hd2:((lw n 2:Int)/4)=((lw n 2/4:Nat):Int):=Ω;have h3:bits .and .u64 (lw n 2:Nat) 3=((lw n 2%4:Nat):Int):=by
  have:=Zp (lw n 2) 3 l2 Ω;rw[show lw n 2&&&3=lw n 2%4 from X5 _ 2]at this;exact this
 have hS:=pL (n:=5*(n/2^130)) (XH Nat.cast v0.symm) rfl (XH Nat.cast v2.symm) (XH Nat.cast v3.symm);rw[← v0]at m1;haveI g0:Cell (an n) 0 (.int .u64 (lw n 0:Nat)):=aO _ Ω;haveI g1:Cell (an n) 1 (.int .u64 (lw n 1:Nat)):=aO _ Ω;haveI g2:Cell (an n) 2 (.int .u64 (lw n 2:Nat)):=aO _ Ω;haveI g3:Cell (an n) 3 (.int .u64 (lw n 3:Nat)):=aO _ Ω;have z0:lw n 0<18446744073709551616:=dC n 0;have z1:lw n 1<18446744073709551616:=dC n 1;clear p0 p1 q0;generalize an (n%2^130)=R1,an (5*(n/2^130))=R2,lw (5*(n/2^130)) 0=y0,lw (5*(n/2^130)) 1=y1,lw (5*(n/2^130)) 2=y2,lw (5*(n/2^130)) 3=y3,lw (n/2^130) 0=x0,lw (n/2^130) 1=x1,lw n 0=a0,lw n 1=a1,lw n 2=a2,lw n 3=a3 at *
 clear hn;have hwz:IntKind.u64.wrap (((x1*5/18446744073709551616:Nat):Int)+(((x1*5%18446744073709551616+x0*5/18446744073709551616)/18446744073709551616:Nat):Int))=(y2:Int):=by rw[XM];omega
 rw[← v2,← v0]at hS;rw[hlow,← hS,show((a2%4:Nat):Int)=(a2:Int)%4 from by omega,show((0:Nat):Int)=0 from rfl]at fa;rw[show((0:Nat):Int)=0 from rfl]at ha;clear hlow hS;rw[show((a2%4:Nat):Int)=(a2:Int)%4 from by omega]at h3;clear v0 v1 v2;generalize x1*5/18446744073709551616=c2,(x1*5%18446744073709551616+x0*5/18446744073709551616)/18446744073709551616=c3 at *
 generalize x1*5%18446744073709551616=c4,x0*5/18446744073709551616=c5 at *
 rw[← hd2]at hor;clear hd2;have z2:(0:Int)≤(a2:Int):=Ω;have u2:(a2:Int)<18446744073709551616:=Ω;have z3:(0:Int)≤(a3:Int):=Ω;have u3:(a3:Int)<18446744073709551616:=Ω;go_enter func311,ntmps311;go_wp2_with (first|refine gBp 1 fun b1 J I=>?_|refine gBp 2 fun b2 J I=>?_|refine gBp 3 fun b3 J I=>?_|refine gBp 9 fun b9 J I=>?_|refine aQp fun _ J I=>?_);exact Λ
instance UO:Ent 311:=eo func311
end
namespace R3
theorem tV(a b c d k:Nat)(ha:a<2^k)(hc:c<2^k):(a+b*2^k)&&&(c+d*2^k)=(a&&&c)+(b&&&d)*2^k:=by
 have h1:((a+b*2^k)&&&(c+d*2^k))%2^k=a&&&c:=by
  rw[Nat.and_mod_two_pow,YU,YU,Xd ha,Xd hc]
 have h2:((a+b*2^k)&&&(c+d*2^k))/2^k=b&&&d:=by
  rw[Nat.and_div_two_pow,Nat.add_mul_div_right _ _ (Xg _),Nat.add_mul_div_right _ _ (Xg _),Xp ha,Xp hc,XA,XA]
 rw[← ZA ((a+b*2^k)&&&(c+d*2^k)) (2^k),h1,h2,XU]
theorem B9(f g:Φ):∀k,leK f k&&&leK g k=leK (fun i=>f i&&&g i) k
 | 0=>by show(0:Nat)&&&0=0;rfl
 | k+1=>by
  show(leK f k+(f k).toNat*2^(8*k))&&&(leK g k+(g k).toNat*2^(8*k))=leK (fun i=>f i&&&g i) k+(f k&&&g k).toNat*2^(8*k);rw[tV _ _ _ _ _ (dt f k) (dt g k),B9 f g k,YA]
theorem pM(f:Φ)(a:Nat):∀b,leK f (a+b)=leK f a+leK (fun i=>f (a+i)) b*2^(8*a)
 | 0=>by show leK f a=leK f a+0*_;omega
 | b+1=>by
  show leK f (a+b)+(f (a+b)).toNat*2^(8*(a+b))=leK f a+(leK (fun i=>f (a+i)) b+(f (a+b)).toNat*2^(8*b))*2^(8*a);rw[pM f a b,YD 8,Xk];grind
theorem Jd(f:Φ)(a b:Nat):leK f (a+b)%2^(8*a)=leK f a:=by
 rw[pM,YU,Xd (dt f a)]
theorem gW{f g:Φ}:∀k,(∀i,i<k→f i=g i)→leK f k=leK g k
 | 0,_=>rfl
 | k+1,h=>by
  show leK f k+(f k).toNat*2^(8*k)=leK g k+(g k).toNat*2^(8*k);rw[gW k (fun i hi=>h i Ω),h k Ω]
def Je(i:Nat):Γ:=if i%4=3 then 15 else if i%4=0∧i≠0 then 252 else 255
theorem Li(κ:Φ)(i:Nat):rB κ i=κ i&&&Je i:=by
 unfold rB Je;split
 ·rfl
 ·split
  ·rfl
  ·exact(BitVec.and_allOnes (x:=κ i)).symm
theorem Ax:leK Je 16=1152921487695413247+1152921487695413244*18446744073709551616:=Ϛ
theorem yk(κ:Φ):lw (leK (rB κ) 16) 0=lw (leN κ) 0&&&1152921487695413247∧lw (leK (rB κ) 16) 1=lw (leN κ) 1&&&1152921487695413244∧leK (rB κ) 16<2^124:=by
 have e:leK (rB κ) 16=leK κ 16&&&leK Je 16:=by
  rw[B9];exact gW 16 fun i _=>Li κ i
 have hk:leK κ 16=leN κ%2^128:=(Jd κ 16 16).symm;have h9:leK κ 16<2^128:=dt κ 16;have hs:leK κ 16=leN κ%18446744073709551616+leN κ/18446744073709551616%18446744073709551616*2^64:=by
  rw[hk,show(2:Nat)^128=340282366920938463463374607431768211456 from rfl,show(2:Nat)^64=18446744073709551616 from rfl];generalize leN κ=n;omega
 have hv:leK (rB κ) 16=(leN κ%18446744073709551616&&&1152921487695413247)+(leN κ/18446744073709551616%18446744073709551616&&&1152921487695413244)*2^64:=by
  rw[e,Ax,hs,show(18446744073709551616:Nat)=2^64 from rfl];exact tV _ _ _ _ 64 (XJ _ (Xg _)) Ξ
 have b0:(leN κ%18446744073709551616&&&1152921487695413247)≤1152921487695413247:=Nat.and_le_right;have b1:(leN κ/18446744073709551616%18446744073709551616&&&1152921487695413244)≤1152921487695413244:=Nat.and_le_right;rw[hv];unfold lw;rw[show 2^(64*0)=1 from rfl,show 2^(64*1)=18446744073709551616 from rfl,show(2:Nat)^124=21267647932558653966460912964485513216 from rfl,Yj,Yj];generalize(leN κ%18446744073709551616&&&1152921487695413247)=x at *
 generalize(leN κ/18446744073709551616%18446744073709551616&&&1152921487695413244)=y at *
 clear e hk h9 hs hv;omega
def fh(b:Φ)(n:Nat):Nat→Γ:=fun i=>if i<n then b i else if i=n then 1 else 0
theorem Ca:∀k,leK (fun i=>if i=0 then 1 else 0) (k+1)=1
 | 0=>rfl
 | k+1=>by
  show leK (fun i=>if i=0 then(1:Γ)else 0) (k+1)+(if k+1=0 then(1:Γ)else 0).toNat*_=1;rw[Ca k,Χ Ω];simp
theorem rJ(b:Φ)(n:Nat)(hn:n≤16):leN (fh b n)=leK b n+2^(8*n)∧leN (fh b n)<2^129:=by
 have e:leN (fh b n)=leK b n+2^(8*n):=by
  unfold leN;rw[show 32=n+(31-n+1)from by omega,pM,gW (f:=fh b n) (g:=b) n (fun i hi=>Ρ hi),gW (f:=fun i=>fh b n (n+i)) (g:=fun i=>if i=0 then 1 else 0) (31-n+1) (fun i _=>?_),Ca,Nat.one_mul];unfold fh;rw[Χ Ω];by_cases c:i=0
  ·subst c;rw[Zm,Ρ rfl,Ρ rfl]
  ·rw[Χ Ω,Χ c]
 refine⟨e,?_⟩;rw[e];have h1:=dt b n;have h2:2^(8*n)≤2^128:=Xx Ω Ω;omega
theorem rK{x:Nat}(h:x<2^256):f5 x<2^131:=by
 unfold f5;have h1:x/2^130<2^126:=by
  rw[Yn (Xg _),← Xk];exact h
 have h2:=XJ x (Xg 130);omega
structure PSt where
 h:Nat
 b:Nat→Γ
 n:Nat
def kA(R:Nat)(s:PSt):PSt:=⟨f5 ((s.h+leN (fh s.b s.n))*R),s.b,0⟩
def kB(R:Nat)(s:PSt)(x:Γ):PSt:=if s.n<15 then⟨s.h,upd s.b s.n x,s.n+1⟩else kA R ⟨s.h,upd s.b s.n x,16⟩
def ce(R:Nat)(s:PSt)(m:Δ):PSt:=m.foldl (kB R) s
theorem lm(R:Nat)(s:PSt)(a b:Δ):ce R s (a++b)=ce R (ce R s a) b:=List.foldl_append
theorem oH(R:Nat)(s:PSt)(a:Δ)(x:Γ):ce R s (a++[x])=kB R (ce R s a) x:=by rw[lm];rfl
structure PSt.Ok(s:PSt):Prop where
 h:s.h<2^131
 n:s.n<16
theorem Cb{h a R:Nat}(hh:h<2^131)(ha:a<2^129)(hR:R<2^124):(h+a)*R<2^256:=by
 have h1:h+a<2^132:=Ω
 calc(h+a)*R≤2^132*R:=YI _ (ZE h1)
  _<2^132*2^124:=Nat.mul_lt_mul_of_pos_left hR (Xg _)
  _=2^256:=(Xk 2 132 124).symm
theorem Cc{R:Nat}(hR:R<2^124){s:PSt}(hh:s.h<2^131)(hn:s.n≤16):(kA R s).h<2^131:=rK (Cb hh (rJ s.b s.n hn).2 hR)
theorem GK{R:Nat}(hR:R<2^124){s:PSt}(hs:s.Ok)(x:Γ):(kB R s x).Ok:=by
 have:=hs.n;unfold kB;split
 ·exact⟨hs.h,by show s.n+1<16;omega⟩
 ·exact⟨Cc hR hs.h (Xn 16),by show 0<16;omega⟩
theorem i6{R:Nat}(hR:R<2^124):∀(m:Δ) {s:PSt},s.Ok→(ce R s m).Ok
 | [],s,h=>h
 | x::m,s,h=>i6 hR m (GK hR h x)
theorem tW(R:Nat)(s:PSt){p k N:Nat}{f:Φ}(hn:s.n=min 16 (N-16*k))(hb:∀i,i<s.n→s.b i=f (16*k+i))(hp:s.h%P5=pS R f N k):(kA R s).h%P5=pS R f N (k+1):=by
 show f5 ((s.h+leN (fh s.b s.n))*R)%P5=(pS R f N k+ye f N k)*R%P5;have e:leN (fh s.b s.n)=ye f N k:=by
  rw[(rJ s.b s.n Ω).1,gW s.n hb,hn];rfl
 rw[jy,e,← hp,Zo (s.h%P5+ye f N k),Nat.mod_add_mod,← Zo]
theorem tX{R:Nat}(hR:R<2^124)(m:Δ):∀j,j≤m.length→(ce R ⟨0,fun _=>0,0⟩ (m.take j)).n=j%16 ∧
 (ce R ⟨0,fun _=>0,0⟩ (m.take j)).h%P5=pS R (fun i=>m.getD i 0) m.length (j/16)∧∀i,i<j%16→(ce R ⟨0,fun _=>0,0⟩ (m.take j)).b i=m.getD (16*(j/16)+i) 0
 | 0,_=>⟨rfl,rfl,fun i hi=>absurd hi Ω⟩
 | j+1,hj=>by
  obtain⟨h1,h2,h3⟩:=tX hR m j Ω;have hx:m[j]=m.getD j 0:=by rw[List.getD_eq_getElem?_getD,List.getElem?_eq_getElem Ω,Option.getD_some]
  rw[Xo Ω,oH,hx];generalize ce R ⟨0,fun _=>0,0⟩ (m.take j)=s at *
  have hb:∀i,i<j%16+1→upd s.b (j%16) (m.getD j 0) i=m.getD (16*(j/16)+i) 0:=fun i hi=>by
   unfold upd;by_cases c:i=j%16
   ·rw[Ρ c,c];congr 1;omega
   ·rw[Χ c,h3 i Ω]
  unfold kB;rw[h1];by_cases c:j%16<15
  ·rw[Ρ c]
   have e1:(j+1)%16=j%16+1:=Ω;have e2:(j+1)/16=j/16:=Ω;rw[e1,e2];exact⟨rfl,h2,hb⟩
  ·rw[Χ c]
   have e1:(j+1)%16=0:=Ω;have e2:(j+1)/16=j/16+1:=Ω;rw[e1,e2];refine⟨rfl,?_,fun i hi=>absurd hi Ω⟩;refine tW R _ (p:=0) (by show 16=_;omega) (fun i hi=>?_) h2;exact hb i (by have:i<16:=hi;omega)
def GL(R:Nat)(s:PSt):Nat:=if 0<s.n then(kA R s).h else s.h
theorem GM{R:Nat}(hR:R<2^124)(m:Δ):GL R (ce R ⟨0,fun _=>0,0⟩ m)%P5=pS R (fun i=>m.getD i 0) m.length ((m.length+15)/16)∧GL R (ce R ⟨0,fun _=>0,0⟩ m)<2^131:=by
 obtain⟨h1,h2,h3⟩:=tX hR m m.length (Xn _);rw[Xq (Xn _)]at h1 h2 h3;have hok:=i6 hR m (s:=⟨0,fun _=>0,0⟩) ⟨Ξ,Ξ⟩;generalize ce R ⟨0,fun _=>0,0⟩ m=s at *
 unfold GL;by_cases c:0<s.n
 ·rw[Ρ c]
  rw[← h1]at h3;refine⟨?_,Cc hR hok.h (ZE hok.n)⟩;rw[tW R s (p:=0) (k:=m.length/16) Ω h3 h2];congr 1;omega
 ·rw[Χ c]
  refine⟨?_,hok.h⟩;rw[h2];congr 1;omega
theorem GN{x:Nat}(h:x<2^131):f5 (f5 (f5 x))<2^130∧(if f5 (f5 (f5 x))<P5 then f5 (f5 (f5 x))else f5 (f5 (f5 x))-P5)=x%P5:=by
 have e1:f5 x<2^130+5:=by
  unfold f5;have:=XJ x (Xg 130);have:x/2^130≤1:=Ω;omega
 have e2:f5 (f5 x)<2^130:=by
  generalize f5 x=y at *
  unfold f5;by_cases c:y<2^130
  ·rw[Xd c,Xp c];omega
  ·omega
 have e3:f5 (f5 (f5 x))=f5 (f5 x):=by
  generalize f5 (f5 x)=y at *
  unfold f5;rw[Xd e2,Xp e2];omega
 have hm:f5 (f5 x)%P5=x%P5:=by rw[jy,jy]
 rw[e3,← hm];have:=BY;generalize f5 (f5 x)=y at *
 refine⟨e2,?_⟩;have hP:P5=1361129467683753853853498429727072845819:=rfl;by_cases c:y<P5
 ·rw[Ρ c,Xd c]
 ·rw[Χ c,Yv Ω,Xd Ω]
end R3
section
open R3
theorem pd(κ:Φ)(w:ϑ):Rt 308 #[.agg (aa 32 κ)] w (.agg (an (leK (rB κ) 16))):=by
 have I:=Loc.nil w;obtain⟨c0,c1,c2⟩:=yk κ;have a0:=Zp (lw (leN κ) 0) 1152921487695413247 (dC _ _) Ω;have a1:=Zp (lw (leN κ) 1) 1152921487695413244 (dC _ _) Ω;rw[← c0,show((1152921487695413247:Nat):Int)=1152921487695413247 from rfl]at a0;rw[← c1,show((1152921487695413244:Nat):Int)=1152921487695413244 from rfl]at a1;have hR:=pL (n:=leK (rB κ) 16) rfl rfl (show(0:Int)=(lw (leK (rB κ) 16) 2:Nat)from by
  rw[nS (Xl c2 (Xx Ω Ω))];rfl) (show(0:Int)=(lw (leK (rB κ) 16) 3:Nat)from by
  rw[nS (Xl c2 (Xx Ω Ω))];rfl)
 rw[← hR];haveI g0:Cell (an (leN κ)) 0 (.int .u64 (lw (leN κ) 0:Nat)):=aO _ Ω;haveI g1:Cell (an (leN κ)) 1 (.int .u64 (lw (leN κ) 1:Nat)):=aO _ Ω;haveI f0:FnC 270 #[.agg (aa 32 κ)] (.agg (an (leN κ))):=Ϙ;have l0:=dC (leN κ) 0;have l1:=dC (leN κ) 1;clear c0 c1 c2 hR;generalize lw (leK (rB κ) 16) 0=y0,lw (leK (rB κ) 16) 1=y1,lw (leN κ) 0=x0,lw (leN κ) 1=x1 at *
 go_enter func308,ntmps308;go_wp2_with (first|refine gBp 2 fun b2 J I=>?_|refine aQq fun _ J I=>?_);exact Λ
instance UP:Ent 308:=eo func308
instance UQ(κ:Φ):FnC 308 #[.agg (aa 32 κ)] (.agg (an (leK (rB κ) 16))):=⟨pd κ⟩
def poF(h r:Nat)(b:Φ)(n:Nat)(i:Nat):Value:=if i<4 then lv h i else if i<8 then lv r (i-4)else if i<24 then .int .u8 (B8 (b (i-8)))else .int .i64 n
def poR(h r:Nat)(b:Φ)(n:Nat):Ψ:=row 25 (poF h r b n)
section
variable {h r:Nat} {b:Φ} {n:Nat}
theorem kS{i:Nat}(hi:i<25):(poR h r b n)[i]?=some (poF h r b n i):=bG _ hi
theorem rL:(poR h r b n).size=25:=aS _ _
theorem nu{m i:Nat}(hi:i<4):(an m)[i]?=some (lv m i):=bG _ hi
instance poH:Part (poR h r b n) 359 0 311 (an h):=⟨fun j v hv=>by
 rw[Array.getElem?_toList]at hv;have hj:j<4:=by have:=(Array.getElem?_eq_some_iff.1 hv).1;simpa[an,aS] using this
 rw[nu hj]at hv;rw[kS Ω,← hv];unfold poF;rw[Ρ Ω,XA]⟩
instance WU:Part (poR h r b n) 359 4 311 (an r):=⟨fun j v hv=>by
 rw[Array.getElem?_toList]at hv;have hj:j<4:=by have:=(Array.getElem?_eq_some_iff.1 hv).1;simpa[an,aS] using this
 rw[nu hj]at hv;rw[kS Ω,← hv];unfold poF;rw[Χ Ω,Ρ Ω,show 4+j-4=j from by omega]⟩
instance WV(m:Nat):Splice (poR h r b n) 0 (an m) (poR m r b n) where
 fit:=by rw[rL];simp[an,aS]
 out:=fun j=>by
  rw[show(an m).size=4 from aS _ _];by_cases hj:j<25
  ·rw[kS hj,kS hj]
   unfold poF;by_cases h4:j<4
   ·rw[Ρ h4,Ρ ⟨Ω,Ω⟩,Nat.sub_zero,nu h4]
   ·rw[Χ h4,Χ (show ¬(0≤j∧j<0+4) by omega),Χ h4]
  ·rw[Χ Ω,Array.getElem?_eq_none (by rw[rL];omega),Array.getElem?_eq_none (by rw[rL];omega)]
instance poN:Cell (poR h r b n) 24 (.int .i64 n):=⟨by rw[kS Ω];rfl⟩
instance Lj(m:Nat):Put (poR h r b n) 24 (.int .i64 m) (poR h r b m):=bm Ω (am fun i hi=>by
 unfold upd poF;by_cases c:i=24
 ·subst c;rfl
 ·rw[Χ c]
  by_cases h24:i<24
  ·simp only[Ρ h24]
  ·omega)
instance WW:Put (poR h r b n) 24 (.int .i64 0) (poR h r b 0):=Lj 0
theorem poB{i:Nat}(hi:i<16)(x:Γ):Put (poR h r b n) (8+i) (.int .u8 (B8 x)) (poR h r (upd b i x) n):=bm Ω (am fun j hj=>by
 unfold upd poF;dsimp only;by_cases c:j=8+i
 ·subst c
  rw[Ρ rfl,Χ Ω,Χ Ω,Ρ Ω,Ρ Ω]
 ·rw[Χ c]
  by_cases h4:j<4
  ·simp only[Ρ h4]
  ·by_cases h8:j<8
   ·simp only[Χ h4,Ρ h8]
   ·by_cases h24:j<24
    ·simp only[Χ h4,Χ h8,Ρ h24]
     rw[Χ Ω]
    ·simp only[Χ h4,Χ h8,Χ h24])
theorem NF{k:Nat}(hk:k≤16):Seg (poR h r b n) 8 k (ak (ae k b)) where
 len:=by rw[ap,ag]
 one:=bY _
 seg:=fun i hi=>by
  rw[ap,ag]at hi;rw[show(ak (ae k b))[i]=Value.int .u8 (B8 (b i))from by simp[ak,ae],kS Ω];unfold poF;rw[Χ Ω,Χ Ω,Ρ Ω,show 8+i-8=i from by omega]
end
class PoM(F:Ψ→Mem)(sb:Nat):Prop where
 a:∀x,At (F x) sb x 359
 u:∀x x',Ups (F x) sb x' (F x')
instance poM(F:Ψ→Mem)(sb:Nat)[h1:∀x,At (F x) sb x 359][h2:∀x x',Ups (F x) sb x' (F x')]:PoM F sb:=⟨h1,h2⟩
theorem GO(a:ϊ)(c:Nat)(w:ϑ):(Instr.arrayAt 311 (.slice a 4 c)).run prog w= .ok (.pointer a) w:=Go.run_arrayAt (P:=prog) (w:=w) 311 227 4 a 4 c underlying311 Ξ
theorem GP(x:Nat):Part (mH x) 261 0 311 (an x):=⟨fun j v hv=>by
 rw[Array.getElem?_toList]at hv;have hj:j<4:=by have:=(Array.getElem?_eq_some_iff.1 hv).1;simpa[an,aS] using this
 rw[nu hj]at hv;rw[← hv,XA];exact bG _ Ω⟩
section
variable {D w:ϑ} {F:Ψ→Mem} {sb:Nat} [hF:PoM F sb] {R:Nat}
theorem nv(hR:R<2^124)(s:PSt)(hh:s.h<2^131)(hn0:0<s.n)(hn:s.n≤16)(I:Loc D w (F (poR s.h R s.b s.n))) :
 ϓ 310 #[.pointer (ϐ sb)] w fun e Z=>e= .returned (.tuple #[])∧Loc D Z (F (poR (kA R s).h R s.b 0)):=by
 have hA:=hF.a;have hU:=hF.u;obtain⟨h,b,n⟩:=s;dsimp only at *
 have n0:(0:Int)≤n:=Ω;have n1:(n:Int)≤16:=Ω;have n2:(n:Int)<32:=Ω;have n3:(0:Int)<n:=Ω;obtain⟨e1,e2⟩:=rJ b n hn;have hp:=Cb hh e2 hR;have hs:h+leN (fh b n)<2^256:=Yo (Nat.add_lt_add hh e2) Ϛ;have HT:=Hd (show(kA R ⟨h,b,n⟩).h=f5 ((h+leN (fh b n))*R)from rfl);rw[HT.out];have χ:(ak (ae n b)).length=n:=by rw[ap,ag]
 haveI sg:=NF (h:=h) (r:=R) (b:=b) (n:=n) (k:=n) hn;haveI sp:Spl (aa 32 fun _=>0) 0 (ak (ae n b)) (aa 32 fun i=>if i<n then b i else 0):=k6 _ _ _ Ω fun i hi=>by
  by_cases c:i<n
  ·rw[Ρ ⟨Ω,Ω⟩,Ρ c];rfl
  ·rw[Χ Ω,Χ c]
 haveI pt:Put (aa 32 fun i=>if i<n then b i else 0) n (.int .u8 1) (aa 32 (fh b n)):=bm Ω (am fun i hi=>by
  unfold upd fh;by_cases c:i=n
  ·subst c;rw[Ρ rfl,Χ Ω,Ρ rfl];rfl
  ·rw[Χ c,Χ c])
 haveI f1:FnC 270 #[.agg (aa 32 (fh b n))] (.agg (an (leN (fh b n)))):=Ϙ;haveI f2:FnC 301 #[.agg (an h),.agg (an (leN (fh b n)))] (.tuple #[.agg (an (h+leN (fh b n))),.int .u64 (cy h (leN (fh b n)) 4:Nat)]):=⟨jg _ _⟩;haveI f3:FnC 298 #[.agg (an (h+leN (fh b n))),.agg (an R)] (.agg (mH ((h+leN (fh b n))*R))):=⟨pu _ _ hs (Yo hR Ϛ)⟩;haveI f4:FnC 311 #[.agg (an ((h+leN (fh b n))*R))] (.agg (an (f5 ((h+leN (fh b n))*R)))):=⟨gu _ hp⟩;haveI pl:=GP ((h+leN (fh b n))*R);have harr:=GO;clear HT e1 e2 hp hs hh hR;generalize f5 ((h+leN (fh b n))*R)=Tzq at *
 generalize(h+leN (fh b n))*R=X at *
 generalize h+leN (fh b n)=S,cy h (leN (fh b n)) 4=C at *
 generalize leN (fh b n)=B at *
 generalize fh b n=B2,ak (ae n b)=B3 at *
 go_enter func310,ntmps310;go_wp2_with (first|refine aU ?_|refine gBp 2 fun b2 J I=>?_|refine ab fun J I=>?_);refine mX (S:=fun Z=>Loc _ Z _) 10 (Loc.rem b2 (I.drew)) ?_;intro H;replace I:=I.drew;refine uG 0 ?_;refine uG 1 ?_;refine uG 4 ?_;refine uG 2 ?_;refine uG 5 ?_;refine uG 3 ?_;refine uG 6 ?_;refine uZ 7 ?_;refine uG 8 ?_;refine rd1 9 fun K T=>?_;refine eCp fun J I=>?_;refine kO T (Loc.rem b2 (I)) fun H=>?_;refine wD ?_;clear H;go_wp2_with (refine ϛ fun J I=>?_);refine au [(0,true),(1,true),(2,true),(3,false),(4,false),(5,false),(6,false),(7,true),(8,true),(9,true)] [(10,_,311)] [11,12] Θ Θ ⟨⟨_,rfl,rfl,rfl⟩,Ϙ,trivial⟩ I ?_;refine pF ?_;refine fA ?_;refine aC fun b=>?_;refine fB fun J I=>?_;go_wp2_with (refine ϛ fun J I=>?_);refine au [(0,false),(1,true),(2,true),(3,true),(4,false),(5,false)] [(6,_,261)] [7] Θ Θ ⟨⟨_,rfl,rfl,rfl⟩,Ϙ,trivial⟩ I ?_;refine pF ?_;refine fA ?_;refine aC fun b=>?_;refine fB fun J I=>?_;go_wp2_with (first|refine aU ?_|refine ab fun J I=>?_|refine Ϯ fun J I=>?_);go_end0;exact⟨rfl,I.pop.pop.pop⟩
end
instance UR:Ent 310:=eo func310
section
variable {D w:ϑ} {F:Ψ→Mem} {sb:Nat} [hF:PoM F sb] {R:Nat}
theorem vK(hR:R<2^124)(s:PSt)(hs:s.Ok)(x:Γ)(I:Loc D w (F (poR s.h R s.b s.n))) :
 ϓ 309 #[.pointer (ϐ sb),.int .u8 (B8 x)] w fun e Z=>e= .returned (.tuple #[])∧Loc D Z (F (poR (kB R s x).h R (kB R s x).b (kB R s x).n)):=by
 have hA:=hF.a;have hU:=hF.u;obtain⟨h,b,n⟩:=s;obtain⟨hh,hn⟩:=hs;dsimp only at *
 have n0:(0:Int)≤n:=Ω;have n1:(n:Int)<16:=Ω;haveI p1:Put (poR h R b n) (8+n) (.int .u8 (B8 x)) (poR h R (upd b n x) n):=poB hn x;have HT:=Hd (fun J (h1:Loc D J (F (poR h R (upd b n x) 16)))=>nv (F:=F) (sb:=sb) (w:=J) hR ⟨h,upd b n x,16⟩ hh (show 0<16 by decide) (show 16≤16 by decide) h1);by_cases c:n<15
 ·have e:kB R ⟨h,b,n⟩ x=⟨h,upd b n x,n+1⟩:=Ρ c
  rw[e];have he:¬(n:Int)+1=16:=Ω;haveI p2:Put (poR h R (upd b n x) n) 24 (.int .i64 ((n:Int)+1)) (poR h R (upd b n x) (n+1)):=by
   have:=Lj (h:=h) (r:=R) (b:=upd b n x) (n:=n) (n+1);rwa[show((n+1:Nat):Int)=(n:Int)+1 from by omega]at this
  clear e c hh hR HT;generalize upd b n x=b',B8 x=y at *
  go_enter func309,ntmps309;go_wp2_with (refine ϛ fun J I=>?_);refine wf [(0,true),(1,true),(2,true),(3,true),(4,false),(5,true),(6,true),(7,true),(8,true)] [] [9] I ?_;refine fA ?_;refine fB fun J I=>?_;go_wp2_with (refine ϛ fun J I=>?_);go_end0;exact⟨rfl,I⟩
 ·have e:kB R ⟨h,b,n⟩ x=kA R ⟨h,upd b n x,16⟩:=Χ c
  rw[e,show(kA R ⟨h,upd b n x,16⟩).b=upd b n x from rfl,show(kA R ⟨h,upd b n x,16⟩).n=0 from rfl];have he:(n:Int)+1=16:=Ω;haveI p2:Put (poR h R (upd b n x) n) 24 (.int .i64 16) (poR h R (upd b n x) 16):=Lj (h:=h) (r:=R) (b:=upd b n x) (n:=n) 16;clear e c hh hR;generalize(kA R ⟨h,upd b n x,16⟩).h=Hzq at *
  generalize upd b n x=b',B8 x=y at *
  go_enter func309,ntmps309;go_wp2_with (refine ϛ fun J I=>?_);refine wf [(0,true),(1,true),(2,true),(3,true),(4,false),(5,true),(6,true),(7,true),(8,true)] [] [9] I ?_;refine fA ?_;refine fB fun J I=>?_;go_wp2_with (first|refine aU ?_|(refine gN 26 ?_;refine lO (HT.out _ I) fun J I=>?_)|refine ab fun J I=>?_);go_end0;exact⟨rfl,I⟩
end
instance US:Ent 309:=eo func309
end
section
open R3
theorem GQ(R:Nat)(w:ϑ):(Instr.build 359 #[(1,.agg (an R))]).run prog w= .ok (.agg (poR 0 R (fun _=>0) 0)) w:=Θ
theorem Jf(a:ϊ)(c:Nat)(w:ϑ):(Instr.arrayAt 220 (.slice a 16 c)).run prog w= .ok (.pointer a) w:=Go.run_arrayAt (P:=prog) (w:=w) 220 5 16 a 16 c underlying220 Ξ
theorem GR(f:Φ):Part (aa 32 f) 24 0 220 (aa 16 f):=⟨fun j v hv=>by
 rw[Array.getElem?_toList]at hv;have hj:j<16:=by have:=(Array.getElem?_eq_some_iff.1 hv).1;simpa[aa,aS] using this
 rw[show(aa 16 f)[j]?=some (.int .u8 (B8 (f j)))from bG _ hj]at hv;rw[← hv,XA];exact bG _ Ω⟩
theorem Jg(κ:Φ):lw (leK (fun i=>κ (16+i)) 16) 0=lw (leN κ) 2∧lw (leK (fun i=>κ (16+i)) 16) 1=lw (leN κ) 3∧leK (fun i=>κ (16+i)) 16<2^128:=by
 have e:leN κ=leK κ 16+leK (fun i=>κ (16+i)) 16*2^(8*16):=pM κ 16 16;have h1:leK κ 16<2^128:=dt κ 16;have h2:leK (fun i=>κ (16+i)) 16<2^128:=dt _ 16;refine⟨?_,?_,h2⟩
 all_goals
  unfold lw;rw[e];generalize leK κ 16=x,leK (fun i=>κ (16+i)) 16=y at *
  clear e;simp only[Nat.reduceMul,Nat.reducePow]at *
  omega
theorem yl(κ:Φ)(v:ό)(l:List Δ)(w:ϑ)(hv:BRows w v l)(hl:l.length≤1000000)(hm:l.flatten.length≤1000000000) :
 Rt 289 #[.agg (aa 32 κ),v] w (.agg (aa 16 (ah (tS κ (fun i=>l.flatten.getD i 0) l.flatten.length)))):=by
 have I:=Loc.nil w;obtain⟨a,c,rfl,_,hv⟩:=hv;have HV:=Hd hv;have hR:=(yk κ).2.2;obtain⟨k0,k1,k2⟩:=Jg κ;obtain⟨v1,v2⟩:=GM hR l.flatten;have hfin:tS κ (fun i=>l.flatten.getD i 0) l.flatten.length=GL (leK (rB κ) 16) (ce (leK (rB κ) 16) ⟨0,fun _=>0,0⟩ l.flatten)%P5+leK (fun i=>κ (16+i)) 16:=by
  rw[v1];rfl
 rw[hfin];clear hfin v1 hv;haveI fc:FnC 308 #[.agg (aa 32 κ)] (.agg (an (leK (rB κ) 16))):=Ϙ;have hR2:=pL (n:=leK (fun i=>κ (16+i)) 16) (XH Nat.cast k0.symm) (XH Nat.cast k1.symm) (show(0:Int)=(lw (leK (fun i=>κ (16+i)) 16) 2:Nat)from by
  rw[nS (Xl k2 (Xx Ω Ω))];rfl) (show(0:Int)=(lw (leK (fun i=>κ (16+i)) 16) 3:Nat)from by
  rw[nS (Xl k2 (Xx Ω Ω))];rfl)
 have HR2:=Hd hR2;clear hR2 k0 k1 k2;generalize leK (rB κ) 16=R,leK (fun i=>κ (16+i)) 16=K2 at *
 have HR:=Hd hR;obtain⟨Ezq,hE⟩:∃Ezq,Ezq=GL R (ce R ⟨0,fun _=>0,0⟩ l.flatten):=⟨_,rfl⟩;obtain⟨Tzq,hT⟩:∃Tzq,Tzq=Ezq%P5:=⟨_,rfl⟩;rw[← hE]at v2 ⊢;rw[← hT];have HE:=Hd v2;have HEE:=Hd hE;have HTT:=Hd hT;clear v2 hR hE hT;have HOK0:=Hd (show PSt.Ok ⟨0,fun _=>0,0⟩from⟨Ξ,Ξ⟩);go_enter func289,ntmps289;go_wp2_with (first|refine aU ?_|refine gBp 2 fun b2 J I=>?_|refine gBp 4 fun b4 J I=>?_|(refine gN 17 ?_;refine ϙ (GQ _) fun J I=>?_)|refine gBp 18 fun b18 J I=>?_|refine ab fun J I=>?_|refine Ϯ fun J I=>?_);go_loopw [21] (fun kk wr=>∃k:Nat,k≤l.length∧kk= .int .i64 k∧Loc w wr [(b18,poR (ce R ⟨0,fun _=>0,0⟩ (l.take k).flatten).h R (ce R ⟨0,fun _=>0,0⟩ (l.take k).flatten).b (ce R ⟨0,fun _=>0,0⟩ (l.take k).flatten).n,359),(b4,aa 16 fun _=>0,220),(b2,aa 32 κ,24)]) (fun kk _=>l.length-(intOf kk).toNat);case atStart=>exact⟨0,Ω,rfl,I⟩
 case round =>
 clear I;obtain⟨k,hk,rfl,I⟩:=hrel;have hk0:(0:Int)≤(k:Int):=Ω;by_cases h9:k<l.length
 ·obtain⟨b,off,ha,hbl,hcells⟩:=HV.out Ω
  obtain⟨vi,hvi,a2,c2,rfl,_,hin⟩:=hcells k h9;have hk1:(k:Int)<(l.length:Int):=Ω;rw[ha];haveI g1:Was w b (off+k) (.slice a2 l[k].length c2):=⟨hvi,hbl⟩;clear hvi hcells;have HI:=Hd hin;have hln:=Shb.flat_take_le l k h9;have HT:=Hd (show l.take (k+1)=l.take k++[l[k]]from Xo h9);clear hin;generalize l[k]=m at *
  have HOKP:=Hd (i6 HR.out (l.take k).flatten HOK0.out);have HP:=Hd (show ce R ⟨0,fun _=>0,0⟩ (l.take (k+1)).flatten=ce R (ce R ⟨0,fun _=>0,0⟩ (l.take k).flatten) m from by
   rw[HT.out,ZI,XP,Yz,Yf,lm])
  clear HT;generalize ce R ⟨0,fun _=>0,0⟩ (l.take k).flatten=p at *
  go_wp2_with (refine ϛ fun J I=>?_);go_loopw [27] (fun jj wr=>∃j:Nat,j≤m.length∧jj= .int .i64 j∧Loc w wr [(b18,poR (ce R p (m.take j)).h R (ce R p (m.take j)).b (ce R p (m.take j)).n,359),(b4,aa 16 fun _=>0,220),(b2,aa 32 κ,24)]) (fun jj _=>m.length-(intOf jj).toNat);case atStart=>exact⟨0,Ω,rfl,I⟩
  case round =>
  clear I;obtain⟨j,hj,rfl,I⟩:=hrel;have hj0:(0:Int)≤(j:Int):=Ω;by_cases hjl:j<m.length
  ·obtain⟨b3,o3,ha3,hbl3,hc3⟩:=HI.out Ω
   haveI g2:Was w b3 (o3+j) (.int .u8 (B8 m[j])):=⟨hc3 j hjl,hbl3⟩;have HTJ:=Hd (show ce R p (m.take (j+1))=kB R (ce R p (m.take j)) m[j] by
    rw[Xo hjl,oH])
   have hj1:(j:Int)<(m.length:Int):=Ω;have HOKJ:=Hd (i6 HR.out (m.take j) HOKP.out);rw[ha3];clear hc3;generalize ce R p (m.take j)=S,m[j]=x at *
   clear g1;go_wp2_with (first|refine aU ?_|(refine gN 33 ?_;refine lO (vK (F:=fun x=>[(b18,x,359),(b4,aa 16 fun _=>0,220),(b2,aa 32 κ,24)]) (sb:=b18) HR.out S HOKJ.out x I) fun J I=>?_)|refine ab fun J I=>?_);go_roundw;case rel=>exact⟨j+1,Ω,by go_num,by rw[HTJ.out];exact I⟩
   case measure=>exact ϝ
  have hje:m.take j=m:=Xq Ω;rw[hje]at I;have hj1:¬(j:Int)<(m.length:Int):=Ω;clear hje;rw[← HP.out]at I;go_wp2_with (refine ϛ fun J I=>?_);go_roundw;case rel=>exact⟨k+1,Ω,by go_num,I⟩
  case measure=>exact ϝ
 have hke:l.take k=l:=Xq Ω;rw[hke]at I;have hk1:¬(k:Int)<(l.length:Int):=Ω;clear hke;have HOK:=Hd (i6 HR.out l.flatten HOK0.out);have hpt:=GR;have hat:=Jf;haveI g2:Cell (an (leN κ)) 2 (.int .u64 (lw (leN κ) 2:Nat)):=aO _ Ω;haveI g3:Cell (an (leN κ)) 3 (.int .u64 (lw (leN κ) 3:Nat)):=aO _ Ω;haveI fo:FnC 270 #[.agg (aa 32 κ)] (.agg (an (leN κ))):=Ϙ;haveI fpr:FnC 312 #[] (.agg (an P5)):=Ϙ;generalize ce R ⟨0,fun _=>0,0⟩ l.flatten=S at *
 have hE2:=HE.out;have hE3:Ezq<2^256:=Yo hE2 Ϛ;have h1:f5 Ezq<2^131:=rK hE3;have h2:f5 (f5 Ezq)<2^131:=rK (Yo h1 Ϛ);haveI f1:FnC 311 #[.agg (an Ezq)] (.agg (an (f5 Ezq))):=⟨gu _ hE3⟩;haveI f2:FnC 311 #[.agg (an (f5 Ezq))] (.agg (an (f5 (f5 Ezq)))):=⟨gu _ (Yo h1 Ϛ)⟩;haveI f3:FnC 311 #[.agg (an (f5 (f5 Ezq)))] (.agg (an (f5 (f5 (f5 Ezq))))):=⟨gu _ (Yo h2 Ϛ)⟩;obtain⟨q1,q2⟩:=GN hE2;haveI f5':FnC 301 #[.agg (an Tzq),.agg (an K2)] (.tuple #[.agg (an (Tzq+K2)),.int .u64 (cy Tzq K2 4:Nat)]):=⟨jg _ _⟩;haveI f6:FnC 284 #[.agg (an (Tzq+K2))] (.agg (aa 32 (ah (Tzq+K2)))):=⟨Bi _⟩;have hP:P5<2^256:=Ϛ;have hf3:f5 (f5 (f5 Ezq))<2^256:=Yo q1 Ϛ;have hsb:=gi (f5 (f5 (f5 Ezq))) P5 hf3 hP;have hbw:bw (f5 (f5 (f5 Ezq))) P5 4=if f5 (f5 (f5 Ezq))<P5 then 1 else 0:=by
  unfold bw;rw[show 64*4=256 from rfl,Xd hf3,Xd hP]
 rw[hbw]at hsb;have HQ1:=Hd (fun(c:¬f5 (f5 (f5 Ezq))<P5)=>show an (f5 (f5 (f5 Ezq))+2^256-P5)=an Tzq from by
  rw[HTT.out,← q2,Χ c,← dZ (f5 (f5 (f5 Ezq))+2^256-P5),show f5 (f5 (f5 Ezq))+2^256-P5=f5 (f5 (f5 Ezq))-P5+2^256 from by omega,ZF,dZ])
 have HQ2:=Hd (fun(c:f5 (f5 (f5 Ezq))<P5)=>show f5 (f5 (f5 Ezq))=Tzq from by
  rw[HTT.out,← q2,Ρ c])
 clear q1 q2 hbw hf3 hP h1 h2 hE2 hE3 fc HE;generalize hf:f5 (f5 (f5 Ezq))=E3 at *
 clear hf;generalize f5 (f5 Ezq)=E2 at *
 generalize f5 Ezq=E1,cy Tzq K2 4=CC at *
 clear HTT;rw[← HR2.out]at f5';generalize lw (leN κ) 2=x2,lw (leN κ) 3=x3 at *
 have HTU:=Hd (fun(c1:0<S.n) J (h1:Loc w J [(b18,poR S.h R S.b S.n,359),(b4,aa 16 fun _=>0,220),(b2,aa 32 κ,24)])=>nv (F:=fun x=>[(b18,x,359),(b4,aa 16 fun _=>0,220),(b2,aa 32 κ,24)]) (sb:=b18) HR.out S HOK.out.h c1 (ZE HOK.out.n) h1);have HE1:=Hd (fun(c1:0<S.n)=>show(kA R S).h=Ezq from by rw[HEE.out];exact(Ρ c1).symm);have HE2:=Hd (fun(c1:¬0<S.n)=>show S.h=Ezq from by rw[HEE.out];exact(Χ c1).symm);clear HV HOK0 HOK HR HR2 HEE hk h9;obtain⟨Sh,Sb,Sn⟩:=S;dsimp only at *
 by_cases c1:0<Sn <;> by_cases c2:E3<P5
 ·have HT:=HTU.out c1;rw[HE1.out c1]at HT;have HT:=Hd HT;have s1:(0:Int)<Sn:=Ω
  obtain rfl:=HQ2.out c2;rw[Ρ c2]at hsb;haveI fs:FnC 296 #[.agg (an E3),.agg (an P5)] (.tuple #[.agg (an (E3+2^256-P5)),.int .u64 1]):=⟨hsb⟩;generalize E3+2^256-P5=Dzq at *
  clear hsb HTU HE1 HE2 HQ1 HQ2 c1 c2;go_wp2_with (first|refine aU ?_|refine gBp 10 fun b10 J I=>?_|(refine gN 42 ?_;refine lO (HT.out _ I) fun J I=>?_)|refine ab fun J I=>?_|refine Ϯ fun J I=>?_);refine au [(0,false),(1,false),(2,false),(3,true),(4,true),(5,true)] [(6,_,311)] [7,8] Θ Θ ⟨⟨_,rfl,rfl,rfl⟩,Ϙ,trivial⟩ I ?_;refine pF ?_;refine fA ?_;refine aC fun b=>?_;refine fB fun J I=>?_;go_wp2_with (first|refine aU ?_|refine gBp 13 fun b13 J I=>?_|refine gBp 14 fun b14 J I=>?_|refine ab fun J I=>?_|refine Ϯ fun J I=>?_);exact Λ
 ·have HT:=HTU.out c1;rw[HE1.out c1]at HT;have HT:=Hd HT;have s1:(0:Int)<Sn:=Ω
  rw[Χ c2,HQ1.out c2]at hsb;haveI fs:FnC 296 #[.agg (an E3),.agg (an P5)] (.tuple #[.agg (an Tzq),.int .u64 0]):=⟨hsb⟩;clear hsb HTU HE1 HE2 HQ1 HQ2 c1 c2;go_wp2_with (first|refine aU ?_|refine gBp 10 fun b10 J I=>?_|(refine gN 42 ?_;refine lO (HT.out _ I) fun J I=>?_)|refine ab fun J I=>?_|refine Ϯ fun J I=>?_);refine au [(0,false),(1,false),(2,false),(3,true),(4,true),(5,true)] [(6,_,311)] [7,8] Θ Θ ⟨⟨_,rfl,rfl,rfl⟩,Ϙ,trivial⟩ I ?_;refine pF ?_;refine fA ?_;refine aC fun b=>?_;refine fB fun J I=>?_;go_wp2_with (first|refine aU ?_|refine gBp 13 fun b13 J I=>?_|refine gBp 14 fun b14 J I=>?_|refine ab fun J I=>?_|refine Ϯ fun J I=>?_);exact Λ
 ·obtain rfl:=HE2.out c1;have s1:¬(0:Int)<Sn:=Ω
  obtain rfl:=HQ2.out c2;rw[Ρ c2]at hsb;haveI fs:FnC 296 #[.agg (an E3),.agg (an P5)] (.tuple #[.agg (an (E3+2^256-P5)),.int .u64 1]):=⟨hsb⟩;generalize E3+2^256-P5=Dzq at *
  clear hsb HTU HE1 HE2 HQ1 HQ2 c1 c2;go_wp2_with (first|refine aU ?_|refine gBp 10 fun b10 J I=>?_|refine ab fun J I=>?_|refine Ϯ fun J I=>?_);refine au [(0,false),(1,false),(2,false),(3,true),(4,true),(5,true)] [(6,_,311)] [7,8] Θ Θ ⟨⟨_,rfl,rfl,rfl⟩,Ϙ,trivial⟩ I ?_;refine pF ?_;refine fA ?_;refine aC fun b=>?_;refine fB fun J I=>?_;go_wp2_with (first|refine aU ?_|refine gBp 13 fun b13 J I=>?_|refine gBp 14 fun b14 J I=>?_|refine ab fun J I=>?_|refine Ϯ fun J I=>?_);exact Λ
 ·obtain rfl:=HE2.out c1;have s1:¬(0:Int)<Sn:=Ω
  rw[Χ c2,HQ1.out c2]at hsb;haveI fs:FnC 296 #[.agg (an E3),.agg (an P5)] (.tuple #[.agg (an Tzq),.int .u64 0]):=⟨hsb⟩;clear hsb HTU HE1 HE2 HQ1 HQ2 c1 c2;go_wp2_with (first|refine aU ?_|refine gBp 10 fun b10 J I=>?_|refine ab fun J I=>?_|refine Ϯ fun J I=>?_);refine au [(0,false),(1,false),(2,false),(3,true),(4,true),(5,true)] [(6,_,311)] [7,8] Θ Θ ⟨⟨_,rfl,rfl,rfl⟩,Ϙ,trivial⟩ I ?_;refine pF ?_;refine fA ?_;refine aC fun b=>?_;refine fB fun J I=>?_;go_wp2_with (first|refine aU ?_|refine gBp 13 fun b13 J I=>?_|refine gBp 14 fun b14 J I=>?_|refine ab fun J I=>?_|refine Ϯ fun J I=>?_);exact Λ
instance UT:Ent 289:=eo func289
end
def od(a b:Δ):Nat→Γ
 | 0=>0
 | k+1=>od a b k|||(a.getD k 0^^^b.getD k 0)
theorem ym(x y:Γ):x|||y=0↔x=0∧y=0:=by
 constructor
 ·intro h
  constructor
  ·ext i hi
   have:=XH (fun z=>z.getLsbD i) h;simp at this;rw[← BitVec.getLsbD_eq_getElem hi,this.1];simp
  ·ext i hi
   have:=XH (fun z=>z.getLsbD i) h;simp at this;rw[← BitVec.getLsbD_eq_getElem hi,this.2];simp
 ·rintro⟨rfl,rfl⟩;rfl
theorem tY(a b:Δ):∀k,od a b k=0↔∀i,i<k→a.getD i 0=b.getD i 0
 | 0=>by simp[od]
 | k+1=>by
  simp only[od];have hx:∀p q:Γ,p^^^q=0↔p=q:=fun p q=>BitVec.xor_eq_zero_iff;rw[ym,tY a b k,hx];constructor
  ·rintro⟨h1,h2⟩ i hi
   by_cases e:i=k
   ·subst e;exact h2
   ·exact h1 i Ω
  ·intro h
   exact⟨fun i hi=>h i Ω,h k Ω⟩
theorem Jh(a b:Δ)(h:a.length=b.length):(od a b a.length=0)=(a=b):=by
 apply propext;rw[tY];constructor
 ·intro hi
  apply Zr h;intro i h1 h2;have:=hi i h1;simpa[List.getD_eq_getElem?_getD,h1,h2] using this
 ·rintro rfl i _;rfl
theorem DA{n:Nat}{a b:ϑ}(h:Below n a b)(m:Nat):Below n a (b.drewN m):=⟨h.os,h.tape,h.output,h.size,h.block⟩
theorem BRow.at{w:ϑ}{a:ϊ}{n c:Nat}{l:Δ}(h:BRow w (.slice a n c) l)(h0:0<l.length):∃b off,a=Option.some ⟨b,off,none⟩∧b<w.heap.size∧∀(i:Nat) (h:i<l.length),w.cell? ⟨b,off+i,none⟩=Option.some (.int .u8 (B8 l[i])):=by
 obtain⟨a',c',e,_,hp⟩:=h;simp only[Value.slice.injEq]at e;obtain⟨rfl,_,_⟩:=e;exact hp h0
theorem Ay(a a2:ϊ)(n n2 c c2:Nat)(w:ϑ)(h:n≠n2) :
 Rt 239 #[.slice a n c,.slice a2 n2 c2] w (.bool false):=by
 have h1:¬((n:Int)=(n2:Int)):=Ω;go_enter func239,ntmps239;go_wp2_with fail;go_ret;exact⟨rfl,XE _ _⟩
theorem Az(a a2:ϊ)(c c2:Nat)(l m:Δ)(w:ϑ)(hv:BRow w (.slice a l.length c) l)(hv2:BRow w (.slice a2 l.length c2) m)(he:l.length=m.length)(hl:l.length≤1000000) :
 Rt 239 #[.slice a l.length c,.slice a2 l.length c2] w (.bool (decide (l=m))):=by
 have HV:=Hd hv;have HV2:=Hd hv2;have HE:=Hd he;obtain⟨n,hn⟩:∃n,n=l.length:=⟨_,rfl⟩;have HN:=Hd hn;rw[← hn]at hl ⊢;clear hv hv2 he hn;go_enter func239,ntmps239;go_wp2_with fail;go_loopw [5,14] (fun o i wr=>∃k:Nat,k≤n∧i= .int .i64 k∧o= .int .u8 (B8 (od l m k))∧Υ w wr) (fun _ i _=>n-(intOf i).toNat);case atStart=>exact⟨0,Yb _,rfl,rfl,XE _ _⟩
 case round =>
  obtain⟨k,hk,rfl,rfl,hb⟩:=hrel;have HB:=Hd hb;by_cases h9:k<n
  ·obtain⟨b,off,rfl,hbl,hc⟩:=HV.out.at (by have:=HN.out;omega)
   obtain⟨b2,off2,rfl,hbl2,hc2⟩:=HV2.out.at (by have:=HN.out;have:=HE.out;omega);have hk0:(0:Int)≤(k:Int):=Ω;have hk1:(k:Int)<(n:Int):=Ω;have hk2:(k:Int)<1000000:=Ω;have h1:wr.cell? ⟨b,off+k,none⟩=some (.int .u8 (B8 (l.getD k 0))):=by
    have hkl:k<l.length:=by rw[← HN.out];exact h9
    rw[hb.cell (p:=⟨b,off+k,none⟩) hbl,hc k hkl,List.getD_eq_getElem?_getD,List.getElem?_eq_getElem hkl];rfl
   have h2:wr.cell? ⟨b2,off2+k,none⟩=some (.int .u8 (B8 (m.getD k 0))):=by
    have hkl:k<m.length:=by rw[← HE.out,← HN.out];exact h9
    rw[hb.cell (p:=⟨b2,off2+k,none⟩) hbl2,hc2 k hkl,List.getD_eq_getElem?_getD,List.getElem?_eq_getElem hkl];rfl
   have HST:=Hd (show od l m (k+1)=od l m k|||(l.getD k 0^^^m.getD k 0)from rfl);clear hc hc2 hbl hbl2 hb;generalize l.getD k 0=p at *
   generalize m.getD k 0=q at *
   generalize od l m k=o at *
   have hx:=je p q;have ho:=LG o (p^^^q);generalize p^^^q=pq at *
   rw[← HST.out]at ho;clear HST;go_wp2_with fail;go_quiet (fail);go_wp2_with fail;go_roundw;case rel=>exact⟨k+1,Ω,by go_num,rfl,DA HB.out _⟩
   case measure=>exact ϝ
  ·have hk1:(n:Int)≤(k:Int):=Ω
   obtain rfl:k=n:=Ω;have hz:(B8 (od l m k)==0)=decide (l=m):=by
    have h1:=Jh l m HE.out;rw[← HN.out]at h1;by_cases h:l=m
    ·rw[Xw h,h1.mpr h];rfl
    ·rw[XB h]
     have:od l m k≠0:=fun e=>h (h1.mp e);have h2:B8 (od l m k)≠0:=fun e=>this (JY (y:=0) e);simpa using h2
   generalize od l m k=o at *
   clear hb;go_wp2_with fail;go_ret;exact⟨by rw[← hz];rfl,HB.out⟩
theorem oI(v vb:ό)(l m:Δ)(w:ϑ)(hv:BRow w v l)(hvb:BRow w vb m)(hl:l.length≤1000000) :
 Rt 239 #[v,vb] w (.bool (decide (l=m))):=by
 obtain⟨a,c,rfl⟩:=hv.shape;obtain⟨a2,c2,rfl⟩:=hvb.shape;by_cases h:l.length=m.length
 ·rw[← h]at hvb ⊢
  exact Az a a2 c c2 l m w hv hvb h hl
 ·rw[XB (by intro e;rw[e]at h;exact h rfl)]
  exact Ay a a2 _ _ c c2 w h
instance UU:Ent 239:=eo func239
def qa(a b c d:BitVec 32):BitVec 32 :=
 a+b+aX (b^^^(c+aX (d^^^(a+b)) 16)) 12
def qd(a b c d:BitVec 32):BitVec 32:=aX (aX (d^^^(a+b)) 16^^^qa a b c d) 8
def q1(a b:Nat)(s:Nat→BitVec 32):Nat→BitVec 32:=upd s a (s a+s b)
def q2(a d n:Nat)(s:Nat→BitVec 32):Nat→BitVec 32:=upd s d (aX (s d^^^s a) n)
def qr(a b c d:Nat)(s:Nat→BitVec 32):Nat→BitVec 32 :=
 q2 c b 7 (q1 c d (q2 a d 8 (q1 a b (q2 c b 12 (q1 c d (q2 a d 16 (q1 a b s)))))))
def AA(s:Nat→BitVec 32):Nat→Nat→BitVec 32
 | 0=>s
 | k+1=>qr k (4+k) (8+k) (12+k) (AA s k)
def DB(s:Nat→BitVec 32):Nat→Nat→BitVec 32
 | 0=>s
 | k+1=>qr k (4+(k+1)%4) (8+(k+2)%4) (12+(k+3)%4) (DB s k)
def dbl(s:Nat→BitVec 32):Nat→BitVec 32:=DB (AA s 4) 4
def nw(s:Nat→BitVec 32):Nat→Nat→BitVec 32
 | 0=>s
 | k+1=>dbl (nw s k)
def le4(b:Φ)(i:Nat):BitVec 32:=eF (b i)|||eF (b (i+1))<<<8|||eF (b (i+2))<<<16|||eF (b (i+3))<<<24
def i8(i:Nat):BitVec 32:=BitVec.ofNat 32 ([0x61707865,0x3320646e,0x79622d32,0x6b206574].getD i 0)
def yn(κ:Φ)(c:BitVec 32)(η:Φ):Nat→BitVec 32:=fun i =>
 if i<4 then i8 i else if i<12 then le4 κ (4*(i-4))else if i=12 then c else le4 η (4*(i-13))
def kC(v s:Nat→BitVec 32):Nat→Γ:=fun i=>((v (i/4)+s (i/4))>>>(8*(i%4))).setWidth 8
def dX(κ:Φ)(c:BitVec 32)(η:Φ):Nat→Γ:=kC (nw (yn κ c η) 10) (yn κ c η)
def GS(κ:Φ)(c:BitVec 32)(η:Φ)(i:Nat):Γ:=dX κ (c+BitVec.ofNat 32 (i/64)) η (i%64)
def dv(κ:Φ)(c:BitVec 32)(η:Φ)(l:Δ):Δ:=l.mapIdx fun i x=>x^^^GS κ c η i
theorem dc(κ:Φ)(c:BitVec 32)(η:Φ)(l:Δ):(dv κ c η l).length=l.length:=by simp[dv]
theorem jB(n:Int):U (BitVec.ofInt 32 n)=n%4294967296:=by
 unfold U;rw[X9];omega
theorem yo(n:Int):IntKind.u32.wrap n=U (BitVec.ofInt 32 n):=by rw[jB,ZY]
theorem Cd(x:BitVec 32):BitVec.ofInt 32 (U x)=x:=Jz (by rw[jB];have:=kX x;omega)
theorem DC(n:Int)(k:Nat):BitVec.ofInt 32 (n+k)=BitVec.ofInt 32 n+BitVec.ofNat 32 k:=by
 apply Jz;rw[jB,← gH,jB];unfold U;rw[Xv];omega
theorem rM(x:BitVec 32)(n m:Nat)(h:m=32-n):bits .or .u32 (U x*((2^n:Nat):Int)%4294967296) (U x/((2^m:Nat):Int))=U (aX x n):=by
 subst h;rw[ow,tn,y9];rfl
theorem pN(x:BitVec 32)(w:ϑ)(s:Int)(n m:Nat)(hm:bits .and .u64 (IntKind.u64.wrap s) 31=n∧bits .and .u64 s 31=n:=by decide)(hq:m=32-n:=by rfl)(h:bits .and .u64 (IntKind.u64.wrap s) 31=n→bits .and .u64 s 31=n→RowKit.Hid (bits .or .u32 (U x*((2^n:Nat):Int)%4294967296) (U x/((2^m:Nat):Int))=U (aX x n))→ϓ 314 #[.int .u32 (U x),.int .i64 s] w (fun e Z=>e= .returned (.int .u32 (U (aX x n)))∧Z=w):=by
  intro hm hm2 HV;obtain⟨h0,h1⟩:=kX x;go_enter func314,ntmps314;go_wp2;go_ret;exact⟨XH (fun z=>Ending.returned (.int .u32 z)) HV.out,rfl⟩):ϓ 314 #[.int .u32 (U x),.int .i64 s] w (fun e Z=>e= .returned (.int .u32 (U (aX x n)))∧Z=w):=h hm.1 hm.2 (Hd (rM x n m hq))
theorem Ji(x:BitVec 32)(w:ϑ)(s:Int)(n m:Nat)(hq:m=32-n:=by rfl)(h:RowKit.Hid (bits .or .u32 (U x*((2^n:Nat):Int)%4294967296) (U x/((2^m:Nat):Int))=U (aX x n))→ϓ 266 #[.int .u32 (U x),.int .u64 s] w (fun e Z=>e= .returned (.int .u32 (U (aX x n)))∧Z=w):=by
  intro HV;obtain⟨h0,h1⟩:=kX x;go_enter func266,ntmps266;go_wp2;go_ret;exact⟨XH (fun z=>Ending.returned (.int .u32 z)) HV.out,rfl⟩):ϓ 266 #[.int .u32 (U x),.int .u64 s] w (fun e Z=>e= .returned (.int .u32 (U (aX x n)))∧Z=w):=h (Hd (rM x n m hq))
theorem NG(x:BitVec 32)(w:ϑ):ϓ 314 #[.int .u32 (U x),.int .i64 16] w fun e Z=>e= .returned (.int .u32 (U (aX x 16)))∧Z=w:=pN x w 16 16 16
theorem NH(x:BitVec 32)(w:ϑ):ϓ 266 #[.int .u32 (U x),.int .u64 16] w fun e Z=>e= .returned (.int .u32 (U (aX x 16)))∧Z=w:=Ji x w 16 16 16
theorem NI(x:BitVec 32)(w:ϑ):ϓ 314 #[.int .u32 (U x),.int .i64 12] w fun e Z=>e= .returned (.int .u32 (U (aX x 12)))∧Z=w:=pN x w 12 12 20
theorem NJ(x:BitVec 32)(w:ϑ):ϓ 266 #[.int .u32 (U x),.int .u64 12] w fun e Z=>e= .returned (.int .u32 (U (aX x 12)))∧Z=w:=Ji x w 12 12 20
theorem Kq(x:BitVec 32)(w:ϑ):ϓ 314 #[.int .u32 (U x),.int .i64 8] w fun e Z=>e= .returned (.int .u32 (U (aX x 8)))∧Z=w:=pN x w 8 8 24
theorem Qq(x:BitVec 32)(w:ϑ):ϓ 266 #[.int .u32 (U x),.int .u64 8] w fun e Z=>e= .returned (.int .u32 (U (aX x 8)))∧Z=w:=Ji x w 8 8 24
theorem Jj(x:BitVec 32)(w:ϑ):ϓ 314 #[.int .u32 (U x),.int .i64 7] w fun e Z=>e= .returned (.int .u32 (U (aX x 7)))∧Z=w:=pN x w 7 7 25
theorem Qr(x:BitVec 32)(w:ϑ):ϓ 266 #[.int .u32 (U x),.int .u64 7] w fun e Z=>e= .returned (.int .u32 (U (aX x 7)))∧Z=w:=Ji x w 7 7 25
theorem qS{D w:ϑ}{g a:Nat}{s:Nat→BitVec 32}{v:BitVec 32}(q:Nat→BitVec 32)(HG:RowKit.Hid (w.heap[g]?=some (.cells (bg 16 s) 298 (0,0))))(HR:RowKit.Hid (D.grownBy w (some g)))(ha:a<16)(hq:q=upd s a v) :
 ∃Wzq s',(w.setCell ⟨g,a,none⟩ (.int .u32 (U v))).drew=Wzq∧RowKit.Hid (s'=q)∧RowKit.Hid (Wzq.heap[g]?=some (.cells (bg 16 s') 298 (0,0)))∧RowKit.Hid (D.grownBy Wzq (some g)) :=
 ⟨_,q,rfl,Hd rfl,Hd (by rw[hq];exact cu _ HG.out ha),Hd (dL (bz HR.out (.inr rfl) _))⟩
theorem oJ(g a b c d:Nat)(s0:Nat→BitVec 32)(D:ϑ)(ha:a<16)(hb:b<16)(hc:c<16)(hd:d<16)(hg:D.heap[g]?=some (.cells (bg 16 s0) 298 (0,0))) :
 ϓ 307 #[.pointer (ϐ g),.int .i64 a,.int .i64 b,.int .i64 c,.int .i64 d] D fun e Z=>e= .returned (.tuple #[])∧Z.heap[g]?=some (.cells (bg 16 (qr a b c d s0)) 298 (0,0))∧D.grownBy Z (some g):=by
 have a0:(0:Int)≤(a:Int):=Ω;have a1:(a:Int)<16:=Ω;have b0:(0:Int)≤(b:Int):=Ω;have b1:(b:Int)<16:=Ω;have c0:(0:Int)≤(c:Int):=Ω;have c1:(c:Int)<16:=Ω;have d0:(0:Int)≤(d:Int):=Ω;have d1:(d:Int)<16:=Ω;have hadd:=iI;have hadd':=gH;have hxor:=mA;have HG0:=Hd hg;have HR0:=Hd (cH D (some g));clear hg;go_enter func307,ntmps307;have x0:=ar HG0.out ha;have y0:=ar HG0.out hb;have f0:D.frozen? ⟨g,a,none⟩=false:=Xi D _ _ _ _ HG0.out;go_wp2_with fail;go_still_tail 13,Θ
 try refine YC ?_
 change wpList _ _ _ _ _ D.drew;go_wp2_with fail;obtain⟨J,s1,e1,HE1,HG1,HR1⟩:=qS (q1 a b s0) HG0 HR0 ha rfl;rw[e1];clear e1 x0 y0 f0 HG0 HR0;have x1:=ar HG1.out hd;have y1:=ar HG1.out ha;have f1:J.frozen? ⟨g,d,none⟩=false:=Xi J _ _ _ _ HG1.out;go_wp2_with fail;go_still_tail 16,Θ;still_call (NG _ _)
 repeat still_step
 try refine YC ?_
 change wpList _ _ _ _ _ J.drew;go_wp2_with fail;obtain⟨w2,s2,e2,HE2,HG2,HR2⟩:=qS (q2 a d 16 s1) HG1 HR1 hd rfl;rw[e2];clear e2 x1 y1 f1 HG1 HR1;have x2:=ar HG2.out hc;have y2:=ar HG2.out hd;have f2:w2.frozen? ⟨g,c,none⟩=false:=Xi w2 _ _ _ _ HG2.out;go_wp2_with fail;go_still_tail 13,Θ
 try refine YC ?_
 change wpList _ _ _ _ _ w2.drew;go_wp2_with fail;obtain⟨w3,s3,e3,HE3,HG3,HR3⟩:=qS (q1 c d s2) HG2 HR2 hc rfl;rw[e3];clear e3 x2 y2 f2 HG2 HR2;have x3:=ar HG3.out hb;have y3:=ar HG3.out hc;have f3:w3.frozen? ⟨g,b,none⟩=false:=Xi w3 _ _ _ _ HG3.out;go_wp2_with fail;go_still_tail 16,Θ;still_call (NI _ _)
 repeat still_step
 try refine YC ?_
 change wpList _ _ _ _ _ w3.drew;go_wp2_with fail;obtain⟨w4,s4,e4,HE4,HG4,HR4⟩:=qS (q2 c b 12 s3) HG3 HR3 hb rfl;rw[e4];clear e4 x3 y3 f3 HG3 HR3;have x4:=ar HG4.out ha;have y4:=ar HG4.out hb;have f4:w4.frozen? ⟨g,a,none⟩=false:=Xi w4 _ _ _ _ HG4.out;go_wp2_with fail;go_still_tail 13,Θ
 try refine YC ?_
 change wpList _ _ _ _ _ w4.drew;go_wp2_with fail;obtain⟨w5,s5,e5,HE5,HG5,HR5⟩:=qS (q1 a b s4) HG4 HR4 ha rfl;rw[e5];clear e5 x4 y4 f4 HG4 HR4;have x5:=ar HG5.out hd;have y5:=ar HG5.out ha;have f5:w5.frozen? ⟨g,d,none⟩=false:=Xi w5 _ _ _ _ HG5.out;go_wp2_with fail;go_still_tail 16,Θ;still_call (Kq _ _)
 repeat still_step
 try refine YC ?_
 change wpList _ _ _ _ _ w5.drew;go_wp2_with fail;obtain⟨w6,s6,e6,HE6,HG6,HR6⟩:=qS (q2 a d 8 s5) HG5 HR5 hd rfl;rw[e6];clear e6 x5 y5 f5 HG5 HR5;have x6:=ar HG6.out hc;have y6:=ar HG6.out hd;have f6:w6.frozen? ⟨g,c,none⟩=false:=Xi w6 _ _ _ _ HG6.out;go_wp2_with fail;go_still_tail 13,Θ
 try refine YC ?_
 change wpList _ _ _ _ _ w6.drew;go_wp2_with fail;obtain⟨w7,s7,e7,HE7,HG7,HR7⟩:=qS (q1 c d s6) HG6 HR6 hc rfl;rw[e7];clear e7 x6 y6 f6 HG6 HR6;have x7:=ar HG7.out hb;have y7:=ar HG7.out hc;have f7:w7.frozen? ⟨g,b,none⟩=false:=Xi w7 _ _ _ _ HG7.out;go_wp2_with fail;go_still_tail 16,Θ;still_call (Jj _ _)
 repeat still_step
 try refine YC ?_
 change wpList _ _ _ _ _ w7.drew;go_wp2_with fail;obtain⟨w8,s8,e8,HE8,HG8,HR8⟩:=qS (q2 c b 7 s7) HG7 HR7 hb rfl;rw[e8];clear e8 x7 y7 f7 HG7 HR7;go_wp2;go_end0;refine⟨rfl,?_,HR8.out⟩;unfold qr;rw[← HE1.out,← HE2.out,← HE3.out,← HE4.out,← HE5.out,← HE6.out,← HE7.out,← HE8.out];exact HG8.out
theorem cC(g a b c d:Nat)(s0:Nat→BitVec 32)(D:ϑ)(ha:a<16)(hb:b<16)(hc:c<16)(hd:d<16)(hg:D.heap[g]?=some (.cells (bg 16 s0) 298 (0,0))) :
 ϓ 235 #[.pointer (ϐ g),.int .i64 a,.int .i64 b,.int .i64 c,.int .i64 d] D fun e Z=>e= .returned (.tuple #[])∧Z.heap[g]?=some (.cells (bg 16 (qr a b c d s0)) 298 (0,0))∧D.grownBy Z (some g):=by
 have a0:(0:Int)≤(a:Int):=Ω;have a1:(a:Int)<16:=Ω;have b0:(0:Int)≤(b:Int):=Ω;have b1:(b:Int)<16:=Ω;have c0:(0:Int)≤(c:Int):=Ω;have c1:(c:Int)<16:=Ω;have d0:(0:Int)≤(d:Int):=Ω;have d1:(d:Int)<16:=Ω;have hadd:=iI;have hadd':=gH;have hxor:=mA;have HG0:=Hd hg;have HR0:=Hd (cH D (some g));clear hg;go_enter func235,ntmps235;have x0:=ar HG0.out ha;have y0:=ar HG0.out hb;have f0:D.frozen? ⟨g,a,none⟩=false:=Xi D _ _ _ _ HG0.out;go_wp2_with fail;go_still_tail 15,Θ
 try refine YC ?_
 change wpList _ _ _ _ _ D.drew;go_wp2_with fail;obtain⟨J,s1,e1,HE1,HG1,HR1⟩:=qS (q1 a b s0) HG0 HR0 ha rfl;rw[e1];clear e1 x0 y0 f0 HG0 HR0;have x1:=ar HG1.out hd;have y1:=ar HG1.out ha;have f1:J.frozen? ⟨g,d,none⟩=false:=Xi J _ _ _ _ HG1.out;go_wp2_with fail;go_still_tail 16,Θ;still_call (NH _ _)
 repeat still_step
 try refine YC ?_
 change wpList _ _ _ _ _ J.drew;go_wp2_with fail;obtain⟨w2,s2,e2,HE2,HG2,HR2⟩:=qS (q2 a d 16 s1) HG1 HR1 hd rfl;rw[e2];clear e2 x1 y1 f1 HG1 HR1;have x2:=ar HG2.out hc;have y2:=ar HG2.out hd;have f2:w2.frozen? ⟨g,c,none⟩=false:=Xi w2 _ _ _ _ HG2.out;go_wp2_with fail;go_still_tail 15,Θ
 try refine YC ?_
 change wpList _ _ _ _ _ w2.drew;go_wp2_with fail;obtain⟨w3,s3,e3,HE3,HG3,HR3⟩:=qS (q1 c d s2) HG2 HR2 hc rfl;rw[e3];clear e3 x2 y2 f2 HG2 HR2;have x3:=ar HG3.out hb;have y3:=ar HG3.out hc;have f3:w3.frozen? ⟨g,b,none⟩=false:=Xi w3 _ _ _ _ HG3.out;go_wp2_with fail;go_still_tail 16,Θ;still_call (NJ _ _)
 repeat still_step
 try refine YC ?_
 change wpList _ _ _ _ _ w3.drew;go_wp2_with fail;obtain⟨w4,s4,e4,HE4,HG4,HR4⟩:=qS (q2 c b 12 s3) HG3 HR3 hb rfl;rw[e4];clear e4 x3 y3 f3 HG3 HR3;have x4:=ar HG4.out ha;have y4:=ar HG4.out hb;have f4:w4.frozen? ⟨g,a,none⟩=false:=Xi w4 _ _ _ _ HG4.out;go_wp2_with fail;go_still_tail 15,Θ
 try refine YC ?_
 change wpList _ _ _ _ _ w4.drew;go_wp2_with fail;obtain⟨w5,s5,e5,HE5,HG5,HR5⟩:=qS (q1 a b s4) HG4 HR4 ha rfl;rw[e5];clear e5 x4 y4 f4 HG4 HR4;have x5:=ar HG5.out hd;have y5:=ar HG5.out ha;have f5:w5.frozen? ⟨g,d,none⟩=false:=Xi w5 _ _ _ _ HG5.out;go_wp2_with fail;go_still_tail 16,Θ;still_call (Qq _ _)
 repeat still_step
 try refine YC ?_
 change wpList _ _ _ _ _ w5.drew;go_wp2_with fail;obtain⟨w6,s6,e6,HE6,HG6,HR6⟩:=qS (q2 a d 8 s5) HG5 HR5 hd rfl;rw[e6];clear e6 x5 y5 f5 HG5 HR5;have x6:=ar HG6.out hc;have y6:=ar HG6.out hd;have f6:w6.frozen? ⟨g,c,none⟩=false:=Xi w6 _ _ _ _ HG6.out;go_wp2_with fail;go_still_tail 15,Θ
 try refine YC ?_
 change wpList _ _ _ _ _ w6.drew;go_wp2_with fail;obtain⟨w7,s7,e7,HE7,HG7,HR7⟩:=qS (q1 c d s6) HG6 HR6 hc rfl;rw[e7];clear e7 x6 y6 f6 HG6 HR6;have x7:=ar HG7.out hb;have y7:=ar HG7.out hc;have f7:w7.frozen? ⟨g,b,none⟩=false:=Xi w7 _ _ _ _ HG7.out;go_wp2_with fail;go_still_tail 16,Θ;still_call (Qr _ _)
 repeat still_step
 try refine YC ?_
 change wpList _ _ _ _ _ w7.drew;go_wp2_with fail;obtain⟨w8,s8,e8,HE8,HG8,HR8⟩:=qS (q2 c b 7 s7) HG7 HR7 hb rfl;rw[e8];clear e8 x7 y7 f7 HG7 HR7;go_wp2;go_end0;refine⟨rfl,?_,HR8.out⟩;unfold qr;rw[← HE1.out,← HE2.out,← HE3.out,← HE4.out,← HE5.out,← HE6.out,← HE7.out,← HE8.out];exact HG8.out
theorem tZ(x:Γ):IntKind.u32.wrap (B8 x)=U (eF x):=by
 rw[ZY];unfold B8 U eF;rw[YL];have:=x.isLt;omega
theorem rO(x:BitVec 32):U x*(16777216:Int)%(4294967296:Int)=U (x<<<24):=ow x 24
theorem rP(x:BitVec 32):U x*(65536:Int)%(4294967296:Int)=U (x<<<16):=ow x 16
theorem yp(g o n c:Nat)(x0 x1 x2 x3:Γ)(w:ϑ)(hn:4≤n)(h0:w.cell? ⟨g,o,none⟩=some (.int .u8 (B8 x0)))(h1:w.cell? ⟨g,o+1,none⟩=some (.int .u8 (B8 x1)))(h2:w.cell? ⟨g,o+2,none⟩=some (.int .u8 (B8 x2)))(h3:w.cell? ⟨g,o+3,none⟩=some (.int .u8 (B8 x3))) :
 ϓ 319 #[.slice (some ⟨g,o,none⟩) n c] w fun e Z=>e= .returned (.int .u32 (U (eF x0|||eF x1<<<8|||eF x2<<<16|||eF x3<<<24)))∧∃m,Z=w.drewN m:=by
 have i0:(0:Int)<(n:Int):=Ω;have i1:(1:Int)<(n:Int):=Ω;have i2:(2:Int)<(n:Int):=Ω;have i3:(3:Int)<(n:Int):=Ω;have k0:=tZ;have k1:=uq;have k2:=rP;have k3:=rO;have k4:=y9;go_enter func319,ntmps319;go_wp2;go_quiet (fail);go_wp2;go_ret;exact⟨rfl,_,rfl⟩
theorem rQ(g o n c:Nat)(x0 x1 x2 x3:Γ)(w:ϑ)(hn:4≤n)(h0:w.cell? ⟨g,o,none⟩=some (.int .u8 (B8 x0)))(h1:w.cell? ⟨g,o+1,none⟩=some (.int .u8 (B8 x1)))(h2:w.cell? ⟨g,o+2,none⟩=some (.int .u8 (B8 x2)))(h3:w.cell? ⟨g,o+3,none⟩=some (.int .u8 (B8 x3))) :
 ϓ 234 #[.slice (some ⟨g,o,none⟩) n c] w fun e Z=>e= .returned (.int .u32 (U (eF x0|||eF x1<<<8|||eF x2<<<16|||eF x3<<<24)))∧∃m,Z=w.drewN m:=by
 have i0:(0:Int)<(n:Int):=Ω;have i1:(1:Int)<(n:Int):=Ω;have i2:(2:Int)<(n:Int):=Ω;have i3:(3:Int)<(n:Int):=Ω;have k0:=tZ;have k1:=uq;have k2:=rP;have k3:=rO;have k4:=y9;go_enter func234,ntmps234;go_wp2;go_quiet (fail);go_wp2;go_ret;exact⟨rfl,_,rfl⟩
theorem AB:(prog.info? 298).map (fun i=>(i.zero,i.size))=some (some (.agg (row 16 fun _=> .int .u32 0)),16):=Θ
theorem vL:(prog.info? 298).map (·.size)=some 16:=Θ
theorem Jk:prog.built 298 [(0,Value.int .u32 1634760805),(1,Value.int .u32 857760878),(2,Value.int .u32 2036477234),(3,Value.int .u32 1797285236)]=some (bg 16 fun i=>if i<4 then i8 i else 0):=Θ
theorem GT{t e:ϋ}{n:Nat}(ht:prog.underlying t=some (.array n e))(ha:prog.arrayLen t=n)(he:prog.elem t=e)(hs:∀w,(sizeOf e).run prog w= .ok 1 w)(g l:Nat)(h:l<n)(z:Int)(hz:z=(l:Int))(w:ϑ) :
 (Instr.sliceAt t (.pointer (ϐ g)) (some (.int .i64 z)) none none).run prog w= .ok (.slice (some ⟨g,l,none⟩) (n-l) (n-l)) w:=by
 subst hz;rw[run_sliceAt_array_l w t ⟨g,0,none⟩ (by rw[ha,he];exact ht) .i64 (l:Int) Ω (by rw[ha];omega),he,hs];simp only[Result.andThen_ok,slicedAt,ha,Ys,XS];rw[Χ Ω,xv rfl];simp
theorem GU(g k:Nat)(h:k<8)(w:ϑ):(Instr.sliceAt 24 (.pointer (ϐ g)) (some (.int .i64 (4*(k:Int)))) none none).run prog w= .ok (.slice (some ⟨g,4*k,none⟩) (32-4*k) (32-4*k)) w :=
 GT (e:=5) Θ Θ Θ (fun w=>by kernel_rfl) g (4*k) Ω _ Ω w
theorem yq(g k:Nat)(h:k<3)(w:ϑ):(Instr.sliceAt 161 (.pointer (ϐ g)) (some (.int .i64 (4*(k:Int)))) none none).run prog w= .ok (.slice (some ⟨g,4*k,none⟩) (12-4*k) (12-4*k)) w :=
 GT (e:=5) Θ Θ Θ (fun w=>by kernel_rfl) g (4*k) Ω _ Ω w
def kD(κ:Φ)(k:Nat):Nat→BitVec 32:=fun i=>if i<4 then i8 i else if i<4+k then le4 κ (4*(i-4))else 0
def jK(κ:Φ)(c:BitVec 32)(η:Φ)(k:Nat):Nat→BitVec 32:=fun i=>if i<4 then i8 i else if i<12 then le4 κ (4*(i-4))else if i=12 then c else if i<13+k then le4 η (4*(i-13))else 0
theorem t8(κ:Φ):(fun i=>if i<4 then i8 i else(0:BitVec 32))=kD κ 0:=by
 funext i;unfold kD;by_cases h:i<4
 ·rw[Ρ h,Ρ h]
 ·rw[Χ h,Χ h,Χ Ω]
theorem t9(κ:Φ){k:Nat}(h:k<8):upd (kD κ k) (4+k) (le4 κ (4*k))=kD κ (k+1):=by
 funext i;unfold upd kD;by_cases e:i=4+k
 ·subst e;rw[Ρ rfl,Χ Ω,Ρ Ω];congr 1;omega
 ·rw[Χ e]
  by_cases h4:i<4
  ·rw[Ρ h4,Ρ h4]
  ·rw[Χ h4,Χ h4]
   by_cases h5:i<4+k
   ·rw[Ρ h5,Ρ Ω]
   ·rw[Χ h5,Χ Ω]
theorem ua(κ:Φ)(c:BitVec 32)(η:Φ):upd (kD κ 8) 12 c=jK κ c η 0:=by
 funext i;unfold upd kD jK;by_cases e:i=12
 ·subst e;rfl
 ·rw[Χ e]
  by_cases h4:i<4
  ·rw[Ρ h4,Ρ h4]
  ·rw[Χ h4,Χ h4]
   by_cases h5:i<12
   ·rw[Ρ Ω,Ρ h5]
   ·rw[Χ Ω,Χ h5,Χ e,Χ Ω]
theorem uc(κ:Φ)(c:BitVec 32)(η:Φ)(k:Nat):upd (jK κ c η k) (13+k) (le4 η (4*k))=jK κ c η (k+1):=by
 funext i;unfold upd jK;by_cases e:i=13+k
 ·subst e;rw[Ρ rfl,Χ Ω,Χ Ω,Χ Ω,Ρ Ω];congr 1;omega
 ·rw[Χ e]
  by_cases h4:i<4
  ·rw[Ρ h4,Ρ h4]
  ·rw[Χ h4,Χ h4]
   by_cases h5:i<12
   ·rw[Ρ h5,Ρ h5]
   ·rw[Χ h5,Χ h5]
    by_cases h6:i=12
    ·rw[Ρ h6,Ρ h6]
    ·rw[Χ h6,Χ h6]
     by_cases h7:i<13+k
     ·rw[Ρ h7,Ρ Ω]
     ·rw[Χ h7,Χ Ω]
theorem ud(κ:Φ)(c:BitVec 32)(η:Φ):bg 16 (jK κ c η 3)=bg 16 (yn κ c η):=am fun i hi=>by
 unfold jK yn;by_cases h4:i<4
 ·rw[Ρ h4,Ρ h4]
 ·rw[Χ h4,Χ h4]
  by_cases h5:i<12
  ·rw[Ρ h5,Ρ h5]
  ·rw[Χ h5,Χ h5]
   by_cases h6:i=12
   ·rw[Ρ h6,Ρ h6]
   ·rw[Χ h6,Χ h6,Ρ Ω]
theorem aD{Wzq Z:ϑ}(h:Υ Wzq Z)(o:Obj):Below Wzq.heap.size Wzq (Z.alloc o):=h.alloc h.size o
theorem fO{Wzq Z J:ϑ}(h:Υ Wzq Z)(hb:Below Z.heap.size Z J):Υ Wzq J:=h.trans (hb.mono h.size)
theorem dT{B:Nat}{a w:ϑ}(h:Below B a w)(n:Nat):Below B a (w.drewN n):=h.trans ⟨rfl,rfl,rfl,Xn _,fun _ _=>rfl⟩
structure BegAt(w:ϑ)(κ η:Φ)(s:Nat→BitVec 32)(wr:ϑ):Prop where
 hk:wr.heap[w.heap.size]?=some (.cells (aa 32 κ) 24 (0,0))
 hn:wr.heap[w.heap.size+1]?=some (.cells (aa 12 η) 161 (0,0))
 hr:wr.heap[w.heap.size+2]?=some (.cells (row 16 fun _=> .int .u32 0) 298 (0,0))
 hs:wr.heap[w.heap.size+3]?=some (.cells (bg 16 s) 298 (0,0))
 hb:Υ w wr
theorem vN(κ η:Φ)(c:BitVec 32)(w:ϑ) :
 Rt 306 #[.agg (aa 32 κ),.int .u32 (U c),.agg (aa 12 η)] w (.agg (bg 16 (yn κ c η))):=by
 have HZ:=Hd (show(prog.info? 298).map (·.size)=some (bg 16 fun i=>if i<4 then i8 i else 0).size by rw[vL,a8]);go_enter func306,ntmps306;go_wp2_with (first
  | (with_reducible refine az rfl 298 rfl 16 _ AB ?_)
  | (refine wpList_buildTo rfl 298 _ rfl _ rfl (bg 16 fun i=>if i<4 then i8 i else 0) Jk ?_)
  | ((refine ϗ (.store 298 _ _) ?_);refine Xu rfl 298 _ _ rfl rfl _ (bg 16 fun i=>if i<4 then i8 i else 0) rfl rfl 298 _ (Xe _ _) HZ.out (by rw[aS,a8]) (bW _ _) ?_))
 have HA:=Hd (show BegAt w κ η (kD κ 0) (((((w.alloc (.cells (aa 32 κ) 24)).alloc (.cells (aa 12 η) 161)).alloc (.cells (row 16 fun _=> .int .u32 0) 298)).alloc (.cells (row 16 fun _=> .int .u32 0) 298)).setRow (w.heap.size+1+1+1) (bg 16 fun i=>if i<4 then i8 i else 0))from by
  refine⟨?_,?_,?_,?_,?_⟩
  ·refine(ax Ω).trans ?_
   refine(Xf _ _ _ Ϟ).trans ((Xf _ _ _ Ϟ).trans ((Xf _ _ _ Ϡ).trans (Xe _ _)))
  ·refine(ax Ω).trans ?_
   refine(Xf _ _ _ Ϡ).trans ((Xf _ _ _ Ϡ).trans ?_);have:=Xe (w.alloc (.cells (aa 32 κ) 24)) (.cells (aa 12 η) 161);simpa using this
  ·refine(ax Ω).trans ?_
   refine(Xf _ _ _ Ϡ).trans ?_;have:=Xe ((w.alloc (.cells (aa 32 κ) 24)).alloc (.cells (aa 12 η) 161)) (.cells (row 16 fun _=> .int .u32 0) 298);simpa using this
  ·rw[t8 κ]
   refine aF (c:=row 16 fun _=> .int .u32 0) ?_;have:=Xe (((w.alloc (.cells (aa 32 κ) 24)).alloc (.cells (aa 12 η) 161)).alloc (.cells (row 16 fun _=> .int .u32 0) 298)) (.cells (row 16 fun _=> .int .u32 0) 298);simpa using this
  ·exact aZ (aD (aD (aD (aD (XE _ _) _) _) _) _) Ω _)
 generalize((((w.alloc (.cells (aa 32 κ) 24)).alloc (.cells (aa 12 η) 161)).alloc (.cells (row 16 fun _=> .int .u32 0) 298)).alloc (.cells (row 16 fun _=> .int .u32 0) 298)).setRow (w.heap.size+1+1+1) (bg 16 fun i=>if i<4 then i8 i else 0)=Wzq at *
 have hadd:=iI;go_loopw [11] (fun i wr=>∃k:Nat,k≤8∧i= .int .i64 k∧BegAt w κ η (kD κ k) wr) (fun i _=>8-(intOf i).toNat);case atStart=>exact⟨0,Ω,rfl,HA.out⟩
 case round =>
  clear HA;obtain⟨k,hk,rfl,hA⟩:=hrel;have HA:=Hd hA;clear hA;by_cases h9:k<8
  ·have hk0:(0:Int)≤(k:Int):=Ω
   have hk1:(k:Int)<8:=Ω;have hsl:=GU w.heap.size k h9;have hw4:=yp w.heap.size (4*k) (32-4*k) (32-4*k) (κ (4*k)) (κ (4*k+1)) (κ (4*k+2)) (κ (4*k+3)) wr Ω (a9 HA.out.hk Ω) (a9 HA.out.hk Ω) (a9 HA.out.hk Ω) (a9 HA.out.hk Ω);have HW4:=Hd hw4;clear hw4;go_wp2_with fail;refine HW4.out.mono ?_;rintro e Z⟨rfl,m,rfl⟩;clear hsl;have HAm:=Hd (show BegAt w κ η (kD κ k) (wr.drewN m)from⟨HA.out.hk,HA.out.hn,HA.out.hr,HA.out.hs,dT HA.out.hb m⟩);generalize wr.drewN m=wm at *
   have f1:wm.frozen? ⟨w.heap.size+1+1+1,4+k,none⟩=false:=Xi _ _ _ _ _ HAm.out.hs;have c1:=ar (i:=4+k) HAm.out.hs Ω;have c2:wm.cell? ⟨w.heap.size+1+1+1,4+k,none⟩=some (.int .u32 (U (kD κ k (4+k)))):=c1;clear c1;go_wp2_with fail;go_roundw;case rel =>
    refine⟨k+1,Ω,by go_num,?_,?_,?_,?_,?_⟩
    ·exact(Xh _ _ _ _ Ϟ).trans HAm.out.hk
    ·exact(Xh _ _ _ _ Ϡ).trans HAm.out.hn
    ·exact(Xh _ _ _ _ Ϡ).trans HAm.out.hr
    ·rw[← t9 κ h9]
     exact cu _ HAm.out.hs Ω
    ·exact HAm.out.hb.setCell Ϟ _
   case measure=>exact ϝ
  ·obtain rfl:k=8:=Ω
   rw[show((8:Nat):Int)=8 from rfl];have f1:wr.frozen? ⟨w.heap.size+1+1+1,12,none⟩=false:=Xi _ _ _ _ _ HA.out.hs;have c2:wr.cell? ⟨w.heap.size+1+1+1,12,none⟩=some (.int .u32 (U (kD κ 8 12))):=ar (i:=12) HA.out.hs Ω;go_wp2_with fail;have HB:=Hd (show BegAt w κ η (jK κ c η 0) (wr.setCell ⟨w.heap.size+1+1+1,12,none⟩ (.int .u32 (U c)))from by
    refine⟨?_,?_,?_,?_,?_⟩
    ·exact(Xh _ _ _ _ Ϟ).trans HA.out.hk
    ·exact(Xh _ _ _ _ Ϡ).trans HA.out.hn
    ·exact(Xh _ _ _ _ Ϡ).trans HA.out.hr
    ·rw[← ua κ c η]
     exact cu _ HA.out.hs Ω
    ·exact HA.out.hb.setCell Ϟ _)
   generalize wr.setCell ⟨w.heap.size+1+1+1,12,none⟩ (.int .u32 (U c))=wb at *
   clear f1 c2 HA;go_loopw [24] (fun i wr=>∃k:Nat,k≤3∧i= .int .i64 k∧BegAt w κ η (jK κ c η k) wr) (fun i _=>3-(intOf i).toNat);case atStart=>exact⟨0,Ω,rfl,HB.out⟩
   case round =>
    clear HB;obtain⟨j,hj,rfl,hA⟩:=hrel;have HA:=Hd hA;clear hA;by_cases hlt3:j<3
    ·have hj0:(0:Int)≤(j:Int):=Ω
     have hj1:(j:Int)<3:=Ω;have hsl:=yq (w.heap.size+1) j hlt3;have hw4:=yp (w.heap.size+1) (4*j) (12-4*j) (12-4*j) (η (4*j)) (η (4*j+1)) (η (4*j+2)) (η (4*j+3)) wr Ω (a9 HA.out.hn Ω) (a9 HA.out.hn Ω) (a9 HA.out.hn Ω) (a9 HA.out.hn Ω);have HW4:=Hd hw4;clear hw4;go_wp2_with fail;refine HW4.out.mono ?_;rintro e Z⟨rfl,m,rfl⟩;clear hsl;have HAm:=Hd (show BegAt w κ η (jK κ c η j) (wr.drewN m)from⟨HA.out.hk,HA.out.hn,HA.out.hr,HA.out.hs,dT HA.out.hb m⟩);generalize wr.drewN m=wm at *
     have f1:wm.frozen? ⟨w.heap.size+1+1+1,13+j,none⟩=false:=Xi _ _ _ _ _ HAm.out.hs;have c1:=ar (i:=13+j) HAm.out.hs Ω;have c2:wm.cell? ⟨w.heap.size+1+1+1,13+j,none⟩=some (.int .u32 (U (jK κ c η j (13+j)))):=c1;clear c1;go_wp2_with fail;go_roundw;case rel =>
      refine⟨j+1,Ω,by go_num,?_,?_,?_,?_,?_⟩
      ·exact(Xh _ _ _ _ Ϟ).trans HAm.out.hk
      ·exact(Xh _ _ _ _ Ϡ).trans HAm.out.hn
      ·exact(Xh _ _ _ _ Ϡ).trans HAm.out.hr
      ·rw[← uc κ c η j]
       exact cu _ HAm.out.hs Ω
      ·exact HAm.out.hb.setCell Ϟ _
     case measure=>exact ϝ
    ·obtain rfl:j=3:=Ω
     have HZ16:=Hd (show(prog.info? 298).map (·.size)=some (bg 16 (jK κ c η 3)).size by rw[vL,a8]);go_wp2_with (first
      | ((refine ϗ (.load 298 _) ?_);refine XW rfl 298 _ rfl (w.heap.size+1+1+1) rfl 298 (bg 16 (jK κ c η 3)) (0,0) _ HA.out.hs underlying298 rfl HZ16.out ?_)
      | ((refine ϗ (.store 298 _ _) ?_);refine Xu rfl 298 _ _ rfl rfl (w.heap.size+1+1) (bg 16 (jK κ c η 3)) rfl rfl 298 _ HA.out.hr HZ16.out (by rw[aS,a8]) (bW _ _) ?_))
     refine Ϣ (Yy rfl _ _ (w.heap.size+1+1) 298 (bg 16 (jK κ c η 3)) (0,0) _ rfl (aF HA.out.hr) underlying298 rfl HZ16.out) rfl ?_;exact⟨by rw[ud],aZ HA.out.hb Ω _⟩
end Go.Proofs.YtoifhhljfaoejaaGreatDoor
