/- Lemmas of the law: walks of functions that it calls, plain facts about them; no condition beyond those written. -/
import Derived.Test.YtoifhhljfaoejaaGreatDoorPkAB
set_option maxRecDepth 100000
set_option maxHeartbeats 8000000
set_option linter.unusedVariables false
set_option linter.unusedSimpArgs false
set_option linter.unusedSectionVars false
namespace Go.Proofs.YtoifhhljfaoejaaGreatDoor
open Go.Proofs.Tryz Go Go.RowKit Go.Shelf
namespace Shb
theorem Bu(x:BitVec 64):IntKind.u64.wrap (Q x*256)=Q (x<<<8):=by rw[XM];exact Kp x
theorem EW:(prog.info? 351).map (·.size)=some 128:=Θ
theorem cQ{w:ϑ}{g n i:Nat}{f:Nat→BitVec 64}{t:ϋ}{fr:Nat×Nat}(hg:w.heap[g]?=some (.cells (bi n f) t fr))(h:i<n):w.cell? ⟨g,i,none⟩=some (.int .u64 (Q (f i))):=aR hg h
theorem lb{w:ϑ}{g n i:Nat}{f:Nat→BitVec 64}{t:ϋ}(x:BitVec 64)(hg:w.heap[g]?=some (.cells (bi n f) t (0,0)))(h:i<n) :
 (w.setCell ⟨g,i,none⟩ (.int .u64 (Q x))).heap[g]?=some (.cells (bi n (upd f i x)) t (0,0)):=by
 rw[bH _ hg h];congr 2;exact am fun j _=>by unfold upd;split <;> rfl
theorem j9{b:Φ}{k:Nat}(h:k<128)(w:ϑ):(Instr.index 351 (.agg (row 128 fun i=>Value.int .u8 (B8 (b i)))) (.int .i64 k)).run prog w= .ok (.int .u8 (B8 (b k))) w :=
 iu _ underlying351 Θ (fun w=>by kernel_rfl) h w
theorem jl(sb:Nat)(S:Nat→ό)(b:Φ)(w:ϑ)(hg:w.heap[sb]?=some (.cells (row 218 S) 353 (0,0)))(hS:∀i,i<128→S (88+i)= .int .u8 (B8 (b i))) :
 Rt 320 #[.pointer (ϐ sb)] w (.agg (bi 80 (aY b))):=by
 have hsb:sb<w.heap.size:=(Array.getElem?_eq_some_iff.1 hg).1;have hg2:((w.alloc (.cells (row 80 fun _=> .int .u64 0) 262)).alloc (.cells (row 80 fun _=> .int .u64 0) 262)).heap[sb]?=some (.cells (row 218 S) 353 (0,0)):=by
  rw[Xf _ _ _ Ϟ,Xf _ _ _ hsb,hg]
 have hR:=ie (o:=88) (n:=128) hg2 Ξ;rw[am hS]at hR;have HR:=Hd hR;have HI:=Hd (show(prog.info? 351).map (·.size)=some (row 128 fun i=>Value.int .u8 (B8 (b i))).toList.length by rw[EW];simp[aS]);clear hg hR hS hg2;go_enter func320,ntmps320;go_wp2_with (first|(with_reducible refine az rfl 262 rfl 80 _ zG ?_)|(with_reducible refine ZQ rfl 351 _ rfl sb 88 rfl _ _ HR.out underlying351 rfl HI.out ?_));go_loopw [15] (fun i wr=>∃k:Nat,k≤128∧i= .int .i64 k∧wr.heap[w.heap.size+1]?=some (.cells (bi 80 (bB b k)) 262 (0,0))∧wr.heap[w.heap.size]?=some (.cells (bi 80 fun _=>0) 262 (0,0))∧Υ w wr) (fun i _=>128-(intOf i).toNat);case atStart=>exact⟨0,Ω,rfl,heap_alloc2_new _ _ _,heap_alloc2_old _ _ _,(((XE _ _).alloc (Xn _) _).alloc Ϡ _)⟩
 case round =>
  obtain⟨k,hk,rfl,hw,hz,hbel⟩:=hrel;by_cases hlt:k<128
  ·have hi:=fun w=>j9 (b:=b) hlt w
   have hk0:(0:Int)≤(k:Int):=Ω;have hk1:(k:Int)<128:=Ω;have hc:wr.cell? ⟨w.heap.size+1,k/8,none⟩=some (.int .u64 (Q (bB b k (k/8)))):=aR hw Ω;have hf:wr.frozen? ⟨w.heap.size+1,k/8,none⟩=false:=Xi wr _ _ _ _ hw;obtain⟨u0,u1⟩:=jH (bB b k (k/8));obtain⟨v0,v1⟩:=bP (b k);have HW:=Hd hw;have HZ:=Hd hz;clear hw hz;go_wp2;go_roundw;case rel =>
    refine⟨k+1,Ω,by go_num,?_,?_,hbel.setCell Ϡ _⟩
    ·rw[Bu,wS,It]
     exact lb _ HW.out Ω
    ·rw[Xh _ _ _ _ Ϡ];exact HZ.out
   case measure=>exact ϝ
  ·have e:bB b k=bB b 128:=by rw[show k=128 by omega]
   rw[e]at hw;clear e;go_wp2;go_loopw [6] (fun i wr=>∃k:Nat,16≤k∧k≤80∧i= .int .i64 k∧wr.heap[w.heap.size+1]?=some (.cells (bi 80 (cz (bB b 128) k)) 262 (0,0))∧wr.heap[w.heap.size]?=some (.cells (bi 80 fun _=>0) 262 (0,0))∧Υ w wr) (fun i _=>80-(intOf i).toNat);case atStart=>exact⟨16,Ω,Ω,rfl,by rw[j8 _ 16 Ω];exact hw,hz,hbel⟩
   case round =>
    clear hw hz hbel hk hlt;obtain⟨K1,rfl⟩:∃K1,K1=k:=⟨_,rfl⟩;obtain⟨k,hk16,hk,rfl,hw,hz,hbel⟩:=hrel;by_cases hlt:k<80
    ·have hk0:(16:Int)≤(k:Int):=Ω
     have hk1:(k:Int)<80:=Ω;have hc2:wr.cell? ⟨w.heap.size+1,k-2,none⟩=some (.int .u64 (Q (cz (bB b 128) k (k-2)))):=aR hw Ω;have hc7:wr.cell? ⟨w.heap.size+1,k-7,none⟩=some (.int .u64 (Q (cz (bB b 128) k (k-7)))):=aR hw Ω;have hc15:wr.cell? ⟨w.heap.size+1,k-15,none⟩=some (.int .u64 (Q (cz (bB b 128) k (k-15)))):=aR hw Ω;have hc16:wr.cell? ⟨w.heap.size+1,k-16,none⟩=some (.int .u64 (Q (cz (bB b 128) k (k-16)))):=aR hw Ω;have hc:wr.cell? ⟨w.heap.size+1,k,none⟩=some (.int .u64 (Q (cz (bB b 128) k k))):=aR hw Ω;have hf:wr.frozen? ⟨w.heap.size+1,k,none⟩=false:=Xi wr _ _ _ _ hw;have HW:=Hd hw;have HZ:=Hd hz;have HS:=Hd (iN (bB b 128) hk16);clear hw hz;generalize cz (bB b 128) k=f at *
     obtain⟨a0,a1⟩:=jH (f (k-2));obtain⟨b0,b1⟩:=jH (f (k-15));have hs0:=j6 (f (k-15));have hs1:=j7 (f (k-2));have hadd:=ov;go_wp2;go_quiet (fail);go_wp2_with (first|(go_at_call 321;with_reducible refine(OU _ _).mono ?_;rintro e Z⟨rfl,rfl⟩)|(go_at_call 321;with_reducible refine(Kq _ _).mono ?_;rintro e Z⟨rfl,rfl⟩)|(go_at_call 321;with_reducible refine(EU _ _).mono ?_;rintro e Z⟨rfl,rfl⟩)|(go_at_call 321;with_reducible refine(My _ _).mono ?_;rintro e Z⟨rfl,rfl⟩));clear hs0 hs1 hc2 hc7 hc15 hc16 hc hf;have hw:(wr.drewN nq).heap[w.heap.size+1]?=some (.cells (bi 80 f) 262 (0,0)):=HW.out;have hz:(wr.drewN nq).heap[w.heap.size]?=some (.cells (bi 80 fun _=>0) 262 (0,0)):=HZ.out;have hbel:=hbel.trans (⟨rfl,rfl,rfl,Xn _,fun _ _=>rfl⟩:Below w.heap.size wr (wr.drewN nq));clear HW HZ;generalize wr.drewN nq=Wzq at *
     have hc7:Wzq.cell? ⟨w.heap.size+1,k-7,none⟩=some (.int .u64 (Q (f (k-7)))):=cQ hw Ω;have hc16:Wzq.cell? ⟨w.heap.size+1,k-16,none⟩=some (.int .u64 (Q (f (k-16)))):=cQ hw Ω;have hc:Wzq.cell? ⟨w.heap.size+1,k,none⟩=some (.int .u64 (Q (f k))):=cQ hw Ω;have hf:Wzq.frozen? ⟨w.heap.size+1,k,none⟩=false:=Xi Wzq _ _ _ _ hw;have HW:=Hd hw;have HZ:=Hd hz;clear hw hz;have e7:IntKind.i64.wrap ((k:Int)-7)=(k:Int)-7:=W3 _ Ω;have e16:IntKind.i64.wrap ((k:Int)-16)=(k:Int)-16:=W3 _ Ω;have t7:((k:Int)-7).toNat=k-7:=Ω;have t16:((k:Int)-16).toNat=k-16:=Ω;have p7:(7:Int)≤(k:Int):=Ω;have q7:(k:Int)-7<80:=Ω;have q16:(k:Int)-16<80:=Ω;go_still_tail 15,Θ;clear e7 e16 t7 t16 p7 q7 q16;change wpList _ _ _ _ _ Wzq.drew;go_wp2;go_roundw;case rel =>
      refine⟨k+1,Ω,Ω,by go_num,?_,?_,(hbel.setCell Ϡ _).drew⟩
      ·rw[HS.out]
       exact lb _ HW.out Ω
      ·show(Wzq.setCell _ _).heap[_]?=_
       rw[Xh _ _ _ _ Ϡ];exact HZ.out
     case measure=>exact ϝ
    ·have e:cz (bB b 128) k=aY b:=by rw[show k=80 by omega];rfl
     rw[e]at hw;clear e;have HW:=Hd hw;have HZ:=Hd hz;have HN:=Hd (show(prog.info? 262).map (·.size)=some (bi 80 (aY b)).size by rw[zH,cP]);clear hw hz;go_wp2_with (first|(with_reducible refine XW rfl 262 _ rfl (w.heap.size+1) rfl 262 (bi 80 (aY b)) (0,0) _ HW.out underlying262 rfl HN.out ?_)|(with_reducible refine Xu rfl 262 _ _ rfl rfl w.heap.size (bi 80 (aY b)) rfl rfl 262 _ HZ.out HN.out (by rw[cP,cP]) (eM _ _) ?_));refine Ϣ (Yy rfl _ _ w.heap.size 262 (bi 80 (aY b)) (0,0) _ rfl (aF HZ.out) underlying262 rfl HN.out) rfl ?_;exact⟨rfl,aZ hbel (Xn _) _⟩
end Shb
namespace Shb
def qs(sb:Nat)(h:Nat→BitVec 64)(b:Φ)(n:Nat)(L:BitVec 64)(w:ϑ)(a':Act)(Z:ϑ):Prop :=
 ∃(t wb vb:Nat) (u:Nat→ό),t≤80∧w.heap.size≤wb∧wb<vb ∧
  a'={ tmps:= #[.pointer (ϐ sb),u 1,.pointer (ϐ wb),.pointer (ϐ vb),.int .i64 t,u 5,u 6,u 7,u 8,u 9,u 10,u 11,u 12,u 13,u 14,u 15,u 16,u 17,u 18,u 19,u 20,u 21,u 22,u 23,u 24,u 25,u 26,u 27,u 28,u 29,u 30,u 31,u 32,u 33,u 34,u 35,u 36,u 37,u 38,u 39,u 40,u 41,u 42,u 43,u 44,u 45,u 46,u 47,u 48,u 49,u 50,u 51,u 52,u 53,u 54,u 55,u 56,u 57,u 58,u 59,u 60,u 61,u 62,u 63,u 64,u 65,u 66,u 67,u 68,u 69,u 70,u 71,u 72,u 73,u 74,u 75,u 76,u 77,u 78,u 79,u 80,u 81,u 82,u 83,u 84,u 85,u 86,u 87,u 88,u 89,u 90,u 91,u 92,u 93,u 94,u 95,u 96,u 97,u 98,u 99,u 100,u 101,u 102,u 103,u 104,u 105,u 106,u 107,u 108,u 109,u 110,u 111,u 112,u 113,u 114,u 115,u 116,u 117,u 118,u 119,u 120,u 121],defers:=[] } ∧
  Z.heap[sb]?=some (.cells (bZ h b n L) 353 (0,0))∧Z.heap[wb]?=some (.cells (bi 80 (aY b)) 262 (0,0)) ∧
  Z.heap[vb]?=some (.cells (bi 8 (dz K512 (aY b) h t)) 261 (0,0))∧w.grownBy Z (some sb)
theorem iO{sb n:Nat}{h:Nat→BitVec 64}{b:Φ}{L:BitVec 64}{w Z:ϑ}{tm:Ψ}(t wb vb:Nat)(ht:t≤80)(hwb:w.heap.size≤wb)(hvb:wb<vb)(he:({ tmps:=tm,defers:=[] }:Act)={ tmps:= #[.pointer (ϐ sb),tm.getD 1 undef,.pointer (ϐ wb),.pointer (ϐ vb),.int .i64 t,tm.getD 5 undef,tm.getD 6 undef,tm.getD 7 undef,tm.getD 8 undef,tm.getD 9 undef,tm.getD 10 undef,tm.getD 11 undef,tm.getD 12 undef,tm.getD 13 undef,tm.getD 14 undef,tm.getD 15 undef,tm.getD 16 undef,tm.getD 17 undef,tm.getD 18 undef,tm.getD 19 undef,tm.getD 20 undef,tm.getD 21 undef,tm.getD 22 undef,tm.getD 23 undef,tm.getD 24 undef,tm.getD 25 undef,tm.getD 26 undef,tm.getD 27 undef,tm.getD 28 undef,tm.getD 29 undef,tm.getD 30 undef,tm.getD 31 undef,tm.getD 32 undef,tm.getD 33 undef,tm.getD 34 undef,tm.getD 35 undef,tm.getD 36 undef,tm.getD 37 undef,tm.getD 38 undef,tm.getD 39 undef,tm.getD 40 undef,tm.getD 41 undef,tm.getD 42 undef,tm.getD 43 undef,tm.getD 44 undef,tm.getD 45 undef,tm.getD 46 undef,tm.getD 47 undef,tm.getD 48 undef,tm.getD 49 undef,tm.getD 50 undef,tm.getD 51 undef,tm.getD 52 undef,tm.getD 53 undef,tm.getD 54 undef,tm.getD 55 undef,tm.getD 56 undef,tm.getD 57 undef,tm.getD 58 undef,tm.getD 59 undef,tm.getD 60 undef,tm.getD 61 undef,tm.getD 62 undef,tm.getD 63 undef,tm.getD 64 undef,tm.getD 65 undef,tm.getD 66 undef,tm.getD 67 undef,tm.getD 68 undef,tm.getD 69 undef,tm.getD 70 undef,tm.getD 71 undef,tm.getD 72 undef,tm.getD 73 undef,tm.getD 74 undef,tm.getD 75 undef,tm.getD 76 undef,tm.getD 77 undef,tm.getD 78 undef,tm.getD 79 undef,tm.getD 80 undef,tm.getD 81 undef,tm.getD 82 undef,tm.getD 83 undef,tm.getD 84 undef,tm.getD 85 undef,tm.getD 86 undef,tm.getD 87 undef,tm.getD 88 undef,tm.getD 89 undef,tm.getD 90 undef,tm.getD 91 undef,tm.getD 92 undef,tm.getD 93 undef,tm.getD 94 undef,tm.getD 95 undef,tm.getD 96 undef,tm.getD 97 undef,tm.getD 98 undef,tm.getD 99 undef,tm.getD 100 undef,tm.getD 101 undef,tm.getD 102 undef,tm.getD 103 undef,tm.getD 104 undef,tm.getD 105 undef,tm.getD 106 undef,tm.getD 107 undef,tm.getD 108 undef,tm.getD 109 undef,tm.getD 110 undef,tm.getD 111 undef,tm.getD 112 undef,tm.getD 113 undef,tm.getD 114 undef,tm.getD 115 undef,tm.getD 116 undef,tm.getD 117 undef,tm.getD 118 undef,tm.getD 119 undef,tm.getD 120 undef,tm.getD 121 undef],defers:=[] })(h1:Z.heap[sb]?=some (.cells (bZ h b n L) 353 (0,0)))(h2:Z.heap[wb]?=some (.cells (bi 80 (aY b)) 262 (0,0)))(h3:Z.heap[vb]?=some (.cells (bi 8 (dz K512 (aY b) h t)) 261 (0,0)))(h4:w.grownBy Z (some sb)):qs sb h b n L w { tmps:=tm,defers:=[] } Z :=
 ⟨t,wb,vb,fun i=>tm.getD i undef,ht,hwb,hvb,he,h1,h2,h3,h4⟩
theorem uU(a b:BitVec 64):(Q a+Q b)%(18446744073709551616:Int)=Q (a+b):=by rw[← ov a b,XM]
theorem wT:(prog.info? 261).map (fun i=>(i.zero,i.size))=some (some (.agg (row 8 fun _=> .int .u64 0)),8):=Θ
theorem lc:(prog.info? 261).map (·.size)=some 8:=Θ
def cg(h v:Nat→BitVec 64)(k:Nat):Nat→BitVec 64:=fun i=>if i<k then h i+v i else h i
theorem lY{h v:Nat→BitVec 64}{b:Φ}{n:Nat}{L:BitVec 64}{k:Nat}(hk:k<8) :
 row 218 (upd (stF (cg h v k) b n L) k (.int .u64 (Q (h k+v k))))=bZ (cg h v (k+1)) b n L:=am fun i _=>by
 unfold upd stF cg;by_cases e:i=k
 ·subst e;simp[hk]
 ·rw[Χ e]
  by_cases h8:i<8
  ·rw[Ρ h8,Ρ h8]
   by_cases hik:i<k
   ·rw[Ρ hik,Ρ Ω]
   ·rw[Χ hik,Χ Ω]
  ·rw[Χ h8,Χ h8]
theorem ka{h h':Nat→BitVec 64}{b:Φ}{n:Nat}{L:BitVec 64}(he:∀i,i<8→h i=h' i):bZ h b n L=bZ h' b n L:=am fun i _=>by
 unfold stF;by_cases h8:i<8
 ·rw[Ρ h8,Ρ h8,he i h8]
 ·rw[Χ h8,Χ h8]
theorem qt(sb:Nat)(h:Nat→BitVec 64)(b:Φ)(n:Nat)(L:BitVec 64)(w:ϑ)(hg:w.heap[sb]?=some (.cells (bZ h b n L) 353 (0,0))) :
 ϓ 318 #[.pointer (ϐ sb)] w fun e Z=>e= .returned (.tuple #[])∧Z.heap[sb]?=some (.cells (bZ (block K512 h b) b n L) 353 (0,0))∧w.grownBy Z (some sb):=by
 have HSZ:=Hd (Array.getElem?_eq_some_iff.1 hg).1;have HG:=Hd hg;clear hg;go_enter func318,ntmps318;refine it 0 (qs sb h b n L w) (fun a' _=>80-(intOf (a'.tmps.getD 4 undef)).toNat) rfl ?_ ?_
 ·rintro a' wr⟨t,wb,vb,u,ht,hwb,hvb,rfl,hs,hw,hv,hgr⟩
  by_cases hlt:t<80
  ·have h0:(0:Int)≤(t:Int):=Ω
   have h1:(t:Int)<80:=Ω;have cw:wr.cell? ⟨wb,t,none⟩=some (.int .u64 (Q (aY b t))):=cQ hw hlt;have ck:wr.cell? ⟨sb,8+t,none⟩=some (.int .u64 (Q (K512 t))):=by
    rw[aR hs Ω];unfold stF;rw[Χ Ω,Ρ Ω];simp
   have HV:=Hd hv;have HS:=Hd hs;have HW:=Hd hw;clear hs hw;have hn:dz K512 (aY b) h (t+1)=rnd K512 (aY b) t (dz K512 (aY b) h t):=rfl;have HN:=Hd hn;clear hn;generalize dz K512 (aY b) h t=v at *
   have c0:=cQ (i:=0) hv Ξ;have c1:=cQ (i:=1) hv Ξ;have c2:=cQ (i:=2) hv Ξ;have c3:=cQ (i:=3) hv Ξ;have c4:=cQ (i:=4) hv Ξ;have c5:=cQ (i:=5) hv Ξ;have c6:=cQ (i:=6) hv Ξ;have c7:=cQ (i:=7) hv Ξ;clear hv;have hadd:=ov;have hxor:=Q_xor;have hand:=Q_and;have hnot:=JH;have hadd':=uU;go_wp2;go_quiet (fail);go_wp2_with fail;refine(Mz _ _).mono ?_;rintro e Z⟨rfl,rfl⟩;go_wp2_with fail;refine(EV _ _).mono ?_;rintro e Z⟨rfl,rfl⟩;go_wp2_with fail;refine(MA _ _).mono ?_;rintro e Z⟨rfl,rfl⟩;go_wp2_with fail;refine(MC _ _).mono ?_;rintro e Z⟨rfl,rfl⟩;go_wp2_with fail;refine(MD _ _).mono ?_;rintro e Z⟨rfl,rfl⟩;go_wp2_with fail;refine(ME _ _).mono ?_;rintro e Z⟨rfl,rfl⟩;go_wp2_with fail;go_quiet (fail);have HV2:=Hd (show ∀m,(wr.drewN m).heap[vb]?=some (.cells (bi 8 v) 261 (0,0))from fun _=>HV.out);have HZ8:=Hd (show(prog.info? 261).map (·.size)=some (bi 8 (rnd K512 (aY b) t v)).size by rw[lc,cP]);go_wp2_with ((refine ϗ (.store _ _ _) ?_);refine Xu rfl 261 _ _ rfl rfl vb (bi 8 (rnd K512 (aY b) t v)) rfl rfl 261 _ (HV2.out _) HZ8.out (by rw[cP,cP]) (eM _ _) ?_);go_step3;refine⟨rfl,iO (t+1) wb vb Ω hwb hvb rfl ?_ ?_ ?_ ?_,?_⟩
   ·have hne:sb≠vb:=by have:=HSZ.out;omega
    exact(ax hne).trans HS.out
   ·have hne:wb≠vb:=Ω
    exact(ax hne).trans HW.out
   ·rw[HN.out]
    exact aF (HV2.out _)
   ·exact dU (oy hgr _) (.inl Ω) _
   ·simp[intOf];omega
  ·have hE:dz K512 (aY b) h t=dz K512 (aY b) h 80:=by rw[show t=80 by omega]
   rw[hE]at hv;have HBL:=Hd (show ∀i,i<8→cg h (dz K512 (aY b) h 80) 8 i=block K512 h b i from fun i hi=>by unfold cg;rw[Ρ hi];rfl);clear hE hw;generalize dz K512 (aY b) h 80=v at *
   have HS:=Hd hs;have HV:=Hd hv;clear hs hv;have hge:(80:Int)≤(t:Int):=Ω;go_wp2;go_loopw [105] (fun i w2=>∃k:Nat,k≤8∧i= .int .i64 k∧w2.heap[sb]?=some (.cells (bZ (cg h v k) b n L) 353 (0,0))∧w2.heap[vb]?=some (.cells (bi 8 v) 261 (0,0))∧w.grownBy w2 (some sb)) (fun i _=>8-(intOf i).toNat);case atStart=>exact⟨0,Ω,rfl,HS.out,HV.out,hgr⟩
   case round =>
    obtain⟨k,hk,rfl,hs,hv,hg2⟩:=hrel;by_cases hk8:k<8
    ·have hk0:(0:Int)≤(k:Int):=Ω
     have hk1:(k:Int)<8:=Ω;have ca:wr.cell? ⟨sb,k,none⟩=some (.int .u64 (Q (h k))):=by
      rw[aR hs Ω];unfold stF cg;rw[Ρ hk8,Χ Ω]
     have cb:wr.cell? ⟨vb,k,none⟩=some (.int .u64 (Q (v k))):=cQ hv hk8;have cf:wr.frozen? ⟨sb,k,none⟩=false:=Xi wr _ _ _ _ hs;have HS:=Hd hs;have HV:=Hd hv;clear hs hv HBL;have hadd:=ov;have hadd':=uU;go_wp2;go_still_tail 13,Θ;change wpList _ _ _ _ _ wr.drew;go_wp2;go_roundw;case rel =>
      refine⟨k+1,Ω,by go_num,?_,?_,dL (bz hg2 (.inr rfl) _)⟩
      ·show(wr.setCell _ _).heap[_]?=_
       rw[bH _ HS.out Ω,lY hk8]
      ·have hne:vb≠sb:=by have:=HSZ.out;omega
       show(wr.setCell _ _).heap[_]?=_;rw[Xh _ _ _ _ hne];exact HV.out
     case measure=>exact ϝ
    ·obtain rfl:k=8:=Ω
     rw[ka HBL.out]at hs;have HS:=Hd hs;clear hs hv HBL;go_wp2;simp only[Exit.jump];go_end0;exact⟨rfl,HS.out,hg2⟩
 ·intro hrest
  have HL:=Hd (show(prog.info? 262).map (·.size)=some (bi 80 (aY b)).size by rw[zH,cP]);have H8:=Hd (show(prog.info? 261).map (·.size)=some (bi 8 h).size by rw[lc,cP]);have H8':=Hd (show(prog.info? 261).map (·.size)=some (bi 8 h).toList.length by rw[lc];simp[cP]);have HB:=Hd (show ∀i,i<128→stF h b n L (88+i)= .int .u8 (B8 (b i))from fun i hi=>by
   unfold stF;rw[Χ Ω,Χ Ω,Ρ Ω];simp)
  have HR:=Hd hrest;clear hrest;go_wp2_with (first
   | (go_at_call 320;refine(jl sb (stF h b n L) b _ HG.out HB.out).mono ?_;rintro e J⟨rfl,V⟩)
   | (with_reducible refine az rfl 262 rfl 80 _ zG ?_)
   | (with_reducible refine az rfl 261 rfl 8 _ wT ?_)
   | ((refine ϗ (.store 262 _ _) ?_);refine Xu rfl 262 _ _ rfl rfl _ (bi 80 (aY b)) rfl rfl 262 _ (Xe _ _) HL.out (by rw[aS,cP]) (eM _ _) ?_)
   | ((refine ϗ (.load 261 _) ?_);refine ZQ rfl 261 _ rfl sb 0 rfl (bi 8 h).toList _ ?r underlying261 rfl H8'.out ?_)
   | ((refine ϗ (.store 261 _ _) ?_);refine Xu rfl 261 _ _ rfl rfl _ (bi 8 h) rfl rfl 261 _ (Xe _ _) H8.out (by rw[aS,cP]) (eM _ _) ?_))
  case r =>
   have hne:sb≠J.heap.size:=by have:=HSZ.out;have:=V.size;omega
   have h1:((J.alloc (.cells (row 80 fun _=> .int .u64 0) 262)).setRow J.heap.size (bi 80 (aY b))).heap[sb]?=some (.cells (row 218 (stF h b n L)) 353 (0,0)):=by
    rw[ax hne,Xf _ _ _ (by have:=HSZ.out;have:=V.size;omega),V.block _ HSZ.out];exact HG.out
   have h2:=ie (o:=0) (n:=8) h1 Ξ;have h3:(row 8 fun i=>stF h b n L (0+i))=bi 8 h:=am fun i hi=>by
    rw[XA];unfold stF;rw[Ρ hi]
   rw[h3]at h2;exact h2
  go_step3;go_step;go_step;have hsz:=V.size;have hlt:=HSZ.out;have hne:sb≠J.heap.size:=Ω;have hne':sb≠J.heap.size+1:=Ω;refine HR.out _ _ (iO 0 J.heap.size (J.heap.size+1) Ω hsz Ω rfl ?_ ?_ ?_ ?_)
  ·rw[ax hne',Xf _ _ _ Ϟ,ax hne,Xf _ _ _ Ω,V.block _ hlt]
   exact HG.out
  ·rw[ax Ω,Xf _ _ _ Ϡ]
   exact aF (Xe _ _)
  ·exact aF (by have:=Xe ((J.alloc (.cells (row 80 fun _=> .int .u64 0) 262)).setRow J.heap.size (bi 80 (aY b))) (.cells (row 8 fun _=> .int .u64 0) 261);simpa using this)
  ·exact dU (dM (dU (dM (jM V) _) (.inl hsz) _) _) (.inl Ω) _
end Shb
namespace Shb
structure St where
 h:Nat→BitVec 64
 b:Nat→Γ
 n:Nat
def a6(s:St)(x:Γ):St :=
 if s.n<127 then⟨s.h,upd s.b s.n x,s.n+1⟩else⟨block K512 s.h (upd s.b s.n x),upd s.b s.n x,0⟩
def st0:St:=⟨uR,fun _=>0,0⟩
def aB(s:St)(m:Δ):St:=m.foldl a6 s
theorem lZ{h:Nat→BitVec 64}{b:Φ}{n i:Nat}{L:BitVec 64}(x:Γ)(hi:i<128):row 218 (upd (stF h b n L) (88+i) (.int .u8 (B8 x)))=bZ h (upd b i x) n L:=am fun j _=>by
 unfold upd stF;by_cases e:j=88+i
 ·subst e
  rw[Ρ rfl,Χ Ω,Χ Ω,Ρ Ω];simp
 ·rw[Χ e]
  by_cases h8:j<8
  ·rw[Ρ h8,Ρ h8]
  ·rw[Χ h8,Χ h8]
   by_cases h88:j<88
   ·rw[Ρ h88,Ρ h88]
   ·rw[Χ h88,Χ h88]
    by_cases h216:j<216
    ·rw[Ρ h216,Ρ h216]
     show _=Value.int .u8 (B8 (if j-88=i then x else b (j-88)));rw[Χ Ω]
    ·rw[Χ h216,Χ h216]
theorem gO{h:Nat→BitVec 64}{b:Φ}{n:Nat}{L:BitVec 64}(m:Nat):row 218 (upd (stF h b n L) 216 (.int .i64 m))=bZ h b m L:=am fun j _=>by
 unfold upd stF;by_cases e:j=216
 ·subst e;simp
 ·rw[Χ e];simp only[Χ e]
theorem l9{h:Nat→BitVec 64}{b:Φ}{n:Nat}{L:BitVec 64}(M:BitVec 64):row 218 (upd (stF h b n L) 217 (.int .u64 (Q M)))=bZ h b n M:=am fun j _=>by
 unfold upd stF;by_cases e:j=217
 ·subst e;simp
 ·rw[Χ e]
  by_cases h8:j<8
  ·rw[Ρ h8,Ρ h8]
  ·rw[Χ h8,Χ h8]
   by_cases h88:j<88
   ·rw[Ρ h88,Ρ h88]
   ·rw[Χ h88,Χ h88]
    by_cases h216:j<216
    ·rw[Ρ h216,Ρ h216]
    ·rw[Χ h216,Χ h216,Ρ Ω,Ρ Ω]
theorem uV{h:Nat→BitVec 64}{b:Φ}{n:Nat}{L:BitVec 64}:stF h b n L 216= .int .i64 n:=by simp[stF]
theorem Kr{h:Nat→BitVec 64}{b:Φ}{n i:Nat}{L:BitVec 64}(hi:i<128):stF h b n L (88+i)= .int .u8 (B8 (b i)):=by
 unfold stF;rw[Χ Ω,Χ Ω,Ρ Ω];simp
theorem Ks{h:Nat→BitVec 64}{b:Φ}{n i:Nat}{L:BitVec 64}(hi:i<8):stF h b n L i= .int .u64 (Q (h i)):=by
 unfold stF;rw[Ρ hi]
theorem EX{h:Nat→BitVec 64}{b:Φ}{n:Nat}{L:BitVec 64}:stF h b n L 217= .int .u64 (Q L):=by simp[stF]
theorem qu(sb:Nat)(s:St)(x:Γ)(L:BitVec 64)(w:ϑ)(hn:s.n<128)(hg:w.heap[sb]?=some (.cells (bZ s.h s.b s.n L) 353 (0,0))) :
 ϓ 304 #[.pointer (ϐ sb),.int .u8 (B8 x)] w fun e Z=>e= .returned (.tuple #[])∧Z.heap[sb]?=some (.cells (bZ (a6 s x).h (a6 s x).b (a6 s x).n L) 353 (0,0))∧w.grownBy Z (some sb):=by
 obtain⟨h,b,n⟩:=s;simp only at hn hg;have hc:w.cell? ⟨sb,216,none⟩=some (.int .i64 n):=by rw[aR hg Ω,uV]
 have hb:w.cell? ⟨sb,88+n,none⟩=some (.int .u8 (B8 (b n))):=by rw[aR hg Ω,Kr hn]
 have hf:w.frozen? ⟨sb,88+n,none⟩=false:=Xi w _ _ _ _ hg;have h0:(0:Int)≤(n:Int):=Ω;have h1:(n:Int)<128:=Ω;have hf2:w.frozen? ⟨sb,216,none⟩=false:=Xi w _ _ _ _ hg;have hw1:∀(m:Nat) (z:Int),z=m→((w.setCell ⟨sb,88+n,none⟩ (.int .u8 (B8 x))).setCell ⟨sb,216,none⟩ (.int .i64 z)).heap[sb]?=some (.cells (bZ h (upd b n x) m L) 353 (0,0)):=by
  intro m z hz;subst hz;have e1:(w.setCell ⟨sb,88+n,none⟩ (.int .u8 (B8 x))).heap[sb]?=some (.cells (bZ h (upd b n x) n L) 353 (0,0)):=by
   rw[bH _ hg Ω,lZ x hn]
  rw[bH _ e1 Ω,gO]
 have HW:=Hd hw1;clear hg hw1;by_cases h127:n<127
 ·have ht:a6 ⟨h,b,n⟩ x=⟨h,upd b n x,n+1⟩:=by unfold a6;rw[Ρ h127]
  rw[ht];clear ht;have he:((n:Int)+1==128)=false:=Ϟ;go_enter func304,ntmps304;go_wp2_with fail;go_still_tail 9,Θ;change wpList _ _ _ _ _ w.drew;go_wp2_with fail;go_end0;have hH:=HW.out (n+1) ((n:Int)+1) Ω;refine⟨rfl,hH,?_⟩;refine dL ?_;refine bz ?_ (.inr rfl) _;exact bz (cH _ _) (.inr rfl) _
 ·obtain rfl:n=127:=Ω
  have ht:a6 ⟨h,b,127⟩ x=⟨block K512 h (upd b 127 x),upd b 127 x,0⟩:=by unfold a6;rw[Χ Ϡ]
  rw[ht];clear ht;go_enter func304,ntmps304;go_wp2_with fail;go_still_tail 9,Θ;change wpList _ _ _ _ _ w.drew;go_wp2_with fail;have hH:(((w.setCell ⟨sb,215,none⟩ (.int .u8 (B8 x))).setCell ⟨sb,216,none⟩ (.int .i64 128)).drew).heap[sb]?=some (.cells (bZ h (upd b 127 x) 128 L) 353 (0,0)):=HW.out 128 128 rfl;refine(qt sb h (upd b 127 x) 128 L _ hH).mono ?_;rintro e J⟨rfl,hs,hg⟩;have hc1:J.cell? ⟨sb,216,none⟩=some (.int .i64 128):=by rw[aR hs Ω,uV];rfl
  have hf1:J.frozen? ⟨sb,216,none⟩=false:=Xi J _ _ _ _ hs;have HS:=Hd hs;clear hs;go_wp2;go_end0;refine⟨rfl,?_,?_⟩
  ·rw[bH _ HS.out Ω]
   exact XH (fun r=>some (Obj.cells r 353 (0,0))) (gO 0)
  ·refine bz (ox ?_ hg) (.inr rfl) _
   refine dL ?_;refine bz ?_ (.inr rfl) _;exact bz (cH _ _) (.inr rfl) _
end Shb
namespace Shb
theorem bM(s:St)(a b:Δ):aB s (a++b)=aB (aB s a) b:=List.foldl_append
theorem df(s:St)(a:Δ)(x:Γ):aB s (a++[x])=a6 (aB s a) x:=by rw[bM];rfl
theorem eN(s:St)(x:Γ):(a6 s x).n<128:=by
 unfold a6;split
 ·show s.n+1<128;omega
 ·show 0<128;omega
theorem cR{s:St}(hs:s.n<128)(m:Δ):(aB s m).n<128:=by
 unfold aB
 induction m generalizing s with
 | nil=>exact hs
 | cons x m ih=>exact ih (eN s x)
theorem jm{s:St}(hs:s.n<128)(x:Γ):(a6 s x).n=(s.n+1)%128:=by
 unfold a6;split
 ·show s.n+1=_;omega
 ·show 0=_;omega
theorem mK{s:St}(hs:s.n<128)(m:Δ):(aB s m).n=(s.n+m.length)%128:=by
 unfold aB
 induction m generalizing s with
 | nil=>simp;omega
 | cons x m ih =>
  show((m.foldl a6 (a6 s x))).n=_;rw[ih (eN s x),jm hs,XZ];omega
def cV(n:Nat):Nat:=(239-n%128)%128
def ay(n:Nat)(i:Nat):Γ:=BitVec.ofNat 8 (8*n/2^(8*(7-i)))
def aG(n:Nat):Δ:=(List.range 8).map (ay n)
def pad(m:Δ):Δ:=m++[128]++List.replicate (cV m.length) 0++List.replicate 8 0++aG m.length
def cm(h:Nat→BitVec 64)(i:Nat):Γ:=(h (i/8)>>>(56-8*(i%8))).setWidth 8
def sha(m:Δ):Nat→Γ:=cm (aB st0 (pad m)).h
theorem bV(n:Nat){j:Nat}(h:j<8):(aG n).take (j+1)=(aG n).take j++[ay n j]:=by
 rw[Xo (by simp[aG];exact h)];simp[aG]
theorem bu(n j:Nat):B8 (ay n j)=((8*n/2^(8*(7-j))%256:Nat):Int):=by
 unfold ay B8;rw[Xv]
theorem gP(m:Δ):(pad m).length%128=0:=by
 unfold pad cV aG;simp only[Xa,XZ,ZB,Zx,ZT,ZX];omega
def acc(b:Φ)(i:Nat):Nat→BitVec 64
 | 0=>0
 | r+1=>acc b i r<<<8|||eF (b (8*i+r))
theorem ke(b:Φ)(i:Nat):∀k,bB b k i=acc b i (min 8 (k-8*i))
 | 0=>by simp[bB,acc]
 | k+1=>by
  have ih:=ke b i k;unfold bB upd;by_cases e:i=k/8
  ·rw[Ρ e,← e,ih]
   have h1:min 8 (k-8*i)=k-8*i:=Ω;have h2:min 8 (k+1-8*i)=(k-8*i)+1:=Ω;rw[h1,h2,acc,show 8*i+(k-8*i)=k by omega]
  ·rw[Χ e,ih]
   congr 1;omega
def wU(b:Φ)(i:Nat):BitVec 64:=if i<16 then acc b i 8 else 0
theorem qv(b:Φ):bB b 128=wU b:=by
 funext i;rw[ke];unfold wU;by_cases h:i<16
 ·rw[Ρ h,show min 8 (128-8*i)=8 by omega]
 ·rw[Χ h,show min 8 (128-8*i)=0 by omega];rfl
theorem gQ{b b':Φ}:∀k,(∀i,i<k→b i=b' i)→bB b k=bB b' k
 | 0,_=>rfl
 | k+1,h=>by
  have ih:=gQ k (fun i hi=>h i Ω);unfold bB;rw[ih,h k Ω]
theorem fQ{K h:Nat→BitVec 64}{b b':Φ}(hb:∀i,i<128→b i=b' i):block K h b=block K h b':=by
 unfold block aY;rw[gQ 128 hb]
def aI(m:Φ):Nat→Nat→BitVec 64
 | 0=>uR
 | k+1=>block K512 (aI m k) (fun j=>m (128*k+j))
theorem gR(h:Nat→BitVec 64):∀(c:Δ) (b:Φ) (n:Nat),n+c.length<128 →
 ∃b',aB ⟨h,b,n⟩ c=⟨h,b',n+c.length⟩∧(∀i,i<n→b' i=b i)∧∀i (hi:i<c.length),b' (n+i)=c[i]
 | [],b,n,_=>⟨b,rfl,fun _ _=>rfl,fun i hi=>absurd hi Ϡ⟩
 | x::c,b,n,hn=>by
  simp only[XZ]at hn;obtain⟨b',e,h1,h2⟩:=gR h c (upd b n x) (n+1) Ω;refine⟨b',?_,?_,?_⟩
  ·show aB (a6 ⟨h,b,n⟩ x) c=_
   have:a6 ⟨h,b,n⟩ x=⟨h,upd b n x,n+1⟩:=by unfold a6;rw[Ρ (by show n<127;omega)]
   rw[this,e];congr 1;simp only[XZ];omega
  ·intro i hi
   rw[h1 i Ω];unfold upd;rw[Χ Ω]
  ·intro i hi
   cases i with
   | zero=>rw[Zm,h1 n Ω];simp[upd]
   | succ i =>
    have:=h2 i (by simpa using hi);rw[show n+(i+1)=n+1+i by omega,this];rfl
theorem kf(h:Nat→BitVec 64)(b:Φ)(c:Δ)(hc:c.length=128):∃b',aB ⟨h,b,0⟩ c=⟨block K512 h (fun j=>c.getD j 0),b',0⟩:=by
 have hne:c≠[]:=fun e=>by rw[e]at hc;cases hc
 obtain⟨b',e,_,h2⟩:=gR h c.dropLast b 0 (by rw[List.length_dropLast];omega);have hs:c.dropLast++[c.getLast hne]=c:=Zk hne;have hl:c.dropLast.length=127:=by rw[List.length_dropLast];omega
 have hT:aB ⟨h,b,0⟩ c=a6 (aB ⟨h,b,0⟩ c.dropLast) (c.getLast hne):=by
  rw[← df,hs]
 have hb:block K512 h (upd b' 127 (c.getLast hne))=block K512 h (fun j=>c.getD j 0):=by
  refine fQ fun i hi=>?_;unfold upd;by_cases e127:i=127
  ·subst e127
   rw[Ρ rfl,List.getD_eq_getElem?_getD,List.getElem?_eq_getElem Ω,Option.getD_some,List.getLast_eq_getElem];congr 1;omega
  ·rw[Χ e127]
   have:=h2 i Ω;rw[XA]at this;rw[this,List.getD_eq_getElem?_getD,List.getElem?_eq_getElem Ω,Option.getD_some,List.getElem_dropLast]
 refine⟨upd b' 127 (c.getLast hne),?_⟩;rw[hT,e,hl];unfold a6;rw[Χ Ϡ];simp only[XA];rw[hb]
theorem eO(m:Φ):∀(q k:Nat) (p:Δ) (b:Φ),p.length=128*q→(∀i,i<p.length→p.getD i 0=m (128*k+i)) →
 ∃b',aB ⟨aI m k,b,0⟩ p=⟨aI m (k+q),b',0⟩
 | 0,k,p,b,hl,_=>by
  have:p=[]:=XG Ω;subst this;exact⟨b,rfl⟩
 | q+1,k,p,b,hl,hm=>by
  have hs:p=p.take 128++p.drop 128:=(List.take_append_drop 128 p).symm;have h128:(p.take 128).length=128:=by rw[Xr];omega
  obtain⟨b1,e1⟩:=kf (aI m k) b (p.take 128) h128;have eb:block K512 (aI m k) (fun j=>(p.take 128).getD j 0)=aI m (k+1):=by
   refine fQ fun i hi=>?_;rw[← hm i Ω,List.getD_eq_getElem?_getD,List.getD_eq_getElem?_getD,List.getElem?_take_of_lt hi]
  rw[eb]at e1;obtain⟨b2,e2⟩:=eO m q (k+1) (p.drop 128) b1 (by rw[Xz];omega) (fun i hi=>by
   rw[Xz]at hi;rw[List.getD_eq_getElem?_getD,List.getElem?_drop,← List.getD_eq_getElem?_getD,hm (128+i) Ω];congr 1;omega)
  refine⟨b2,?_⟩;rw[hs,bM,e1,e2];congr 2;omega
theorem ma(m:Δ):sha m=cm (aI (fun i=>(pad m).getD i 0) ((pad m).length/128)):=by
 have hl:=gP m;obtain⟨b',e⟩:=eO (fun i=>(pad m).getD i 0) ((pad m).length/128) 0 (pad m) (fun _=>0) Ω (fun i _=>by simp);unfold sha st0;rw[show uR=aI (fun i=>(pad m).getD i 0) 0 from rfl,e,XA]
end Shb
namespace R3
def zF(z:Int):F:=⟨(z%(P:Int)).toNat,by
 have h:=Int.emod_lt_of_pos z (show(0:Int)<(P:Int)from Int.natCast_pos.2 tu);have:=Int.emod_nonneg z (show(P:Int)≠0 from Int.natCast_ne_zero.2 (Nat.ne_of_gt tu));omega⟩
theorem jn(z:Int):((zF z).val:Int)=z%(P:Int):=YF (Int.emod_nonneg z (Int.natCast_ne_zero.2 (Nat.ne_of_gt tu)))
theorem EY(a b:Int):zF (a+b)=zF a+zF b:=by
 refine ZM (Int.ofNat_inj.1 ?_);rw[jn,Fin.val_add,Ye,YN,jn,jn,← Int.add_emod]
theorem Kt(a b:Int):zF (a*b)=zF a*zF b:=by
 refine ZM (Int.ofNat_inj.1 ?_);rw[jn,Fin.val_mul,Ye,Yg,jn,jn,← Int.mul_emod]
theorem Ku(a b:Int):zF (a-b)=zF a-zF b:=by
 have h:=EY (a-b) b;rw[Int.sub_add_cancel]at h;rw[h];grind
theorem MF(a k:Int):zF (a+k*(P:Int))=zF a:=by
 refine ZM (Int.ofNat_inj.1 ?_);rw[jn,jn,Int.add_mul_emod_self_right]
theorem EZ(n:Nat):zF (n:Int)=fe n:=by
 refine ZM (Int.ofNat_inj.1 ?_);rw[jn,zk,Ye]
def bF(f:Nat→Int):Nat→Int
 | 0=>0
 | k+1=>bF f k+f k*2^(16*k)
def elF(f:Nat→Int):F:=zF (bF f 16)
theorem mb{f g:Nat→Int}:∀k,(∀i,i<k→f i=g i)→bF f k=bF g k
 | 0,_=>rfl
 | k+1,h=>by unfold bF;rw[mb k fun i hi=>h i Ω,h k Ω]
theorem qw(f g:Nat→Int):∀k,bF (fun i=>f i+g i) k=bF f k+bF g k
 | 0=>rfl
 | k+1=>by unfold bF;rw[qw f g k];grind
theorem wV(f g:Nat→Int):∀k,bF (fun i=>f i-g i) k=bF f k-bF g k
 | 0=>rfl
 | k+1=>by unfold bF;rw[wV f g k];grind
theorem wW(f:Nat→Int)(c:Int):∀k,bF (fun i=>c*f i) k=c*bF f k
 | 0=>by simp[bF]
 | k+1=>by unfold bF;rw[wW f c k];grind
theorem CI(k:Nat):bF (fun _=>0) k=0:=by
 induction k with
 | zero=>rfl
 | succ k ih=>unfold bF;rw[ih];simp
theorem E9(i k:Nat):(2:Int)^(16*(i+k))=2^(16*i)*2^(16*k):=by rw[YD,Int.pow_add]
theorem zJ(k:Nat):(2:Int)^(16*(k+1))=2^(16*k)*65536:=by rw[E9];rfl
theorem qx(f:Nat→Int)(j:Nat)(x:Int):∀k,bF (fun i=>if i=j then f i+x else f i) k=bF f k+if j<k then x*2^(16*j)else 0
 | 0=>by simp[bF]
 | k+1=>by
  unfold bF;rw[qx f j x k];by_cases e:k=j
  ·subst e;rw[Ρ rfl,Χ Ω,Ρ Ω];grind
  ·rw[Χ e]
   by_cases h:j<k
   ·rw[Ρ h,Ρ Ω];grind
   ·rw[Χ h,Χ Ω];grind
theorem qy(f:Nat→Int)(n:Nat):∀k,bF f (n+k)=bF f n+2^(16*n)*bF (fun i=>f (n+i)) k
 | 0=>by simp[bF]
 | k+1=>by
  show bF f (n+k)+f (n+k)*2^(16*(n+k))=_+_*(bF (fun i=>f (n+i)) k+f (n+k)*2^(16*k));rw[qy f n k,E9];grind
def cy(f:Nat→Int):Nat→Int
 | 0=>0
 | k+1=>(f k+cy f k)/65536
def dgC(f:Nat→Int)(i:Nat):Int:=(f i+cy f i)%65536
def bI(f:Nat→Int)(i:Nat):Int:=if i=0 then dgC f i+38*cy f 16 else dgC f i
def stC(f:Nat→Int)(k i:Nat):Int:=if k=16 then bI f i else if i<k then dgC f i else if i=k then f k+cy f k else f i
theorem wX(f:Nat→Int):∀k,bF (dgC f) k=bF f k-cy f k*2^(16*k)
 | 0=>by simp[bF,cy]
 | k+1=>by
  show bF (dgC f) k+(f k+cy f k)%65536*2^(16*k)=bF f k+f k*2^(16*k)-(f k+cy f k)/65536*2^(16*(k+1));rw[wX f k,zJ];have h:=Int.emod_add_mul_ediv (f k+cy f k) 65536;generalize(f k+cy f k)%65536=r at *
  generalize(f k+cy f k)/65536=q at *
  generalize(2:Int)^(16*k)=Ezq at *
  have:r=f k+cy f k-65536*q:=Ω;subst this;grind
theorem wH:(2:Int)^256=2*(P:Int)+38:=Ϛ
theorem zK(f:Nat→Int):bF (bI f) 16=bF f 16+ -2*cy f 16*(P:Int):=by
 have h1:=qx (dgC f) 0 (38*cy f 16) 16;have h2:=wX f 16;have h3:bF (bI f) 16=bF (fun i=>if i=0 then dgC f i+38*cy f 16 else dgC f i) 16:=rfl;rw[h3,h1,h2,Ρ Ω,show 16*16=256 from rfl,wH,XO];generalize cy f 16=c;generalize bF f 16=v;generalize(P:Int)=p;grind
theorem ew(f:Nat→Int):elF (bI f)=elF f:=by unfold elF;rw[zK,MF]
theorem wY{f:Nat→Int}{B C:Int}(hB:∀i,i<16→ -B≤f i∧f i≤B)(h:B+C≤65536*C)(h0:0≤C):∀k,k≤16→ -C≤cy f k∧cy f k≤C
 | 0,_=>by unfold cy;omega
 | k+1,hk=>by
  have ih:=wY hB h h0 k Ω;have:=hB k Ω;unfold cy;omega
theorem qz{f:Nat→Int}(h0: -8589934592≤f 0∧f 0≤8589934592)(h:∀i,0<i→i<16→0≤f i∧f i≤65535):∀k,k≤16→(k=1→ -131072≤cy f k∧cy f k≤131072)∧(k=2→ -3≤cy f k∧cy f k≤3)∧(2<k→ -1≤cy f k∧cy f k≤1)
 | 0,_=>⟨Ω,Ω,Ω⟩
 | k+1,hk=>by
  have ih:=qz h0 h k Ω;have e:cy f (k+1)=(f k+cy f k)/65536:=rfl;rcases X4 k with rfl|hk0
  ·have e0:cy f 0=0:=rfl
   rw[e0]at e;refine⟨fun _=>by omega,Ω,Ω⟩
  ·have h1:=h k hk0 Ω
   refine⟨Ω,fun _=>?_,fun _=>?_⟩
   ·have:=ih.1 Ω;omega
   ·rcases XI 2 k with h2|h2
    ·have:=ih.2.2 h2;omega
    ·have:=ih.2.1 Ω;omega
theorem zM(f:Nat→Int)(i:Nat):0≤dgC f i∧dgC f i≤65535:=by unfold dgC;omega
theorem kH(f:Nat→Int){C:Int}(h: -C≤cy f 16∧cy f 16≤C): -(38*C)≤bI f 0∧bI f 0≤65535+38*C:=by
 have:=zM f 0;unfold bI;rw[Ρ rfl];omega
theorem iP(f:Nat→Int){i:Nat}(h:0<i):0≤bI f i∧bI f i≤65535:=by
 unfold bI;rw[Χ Ω];exact zM f i
theorem qA{f:Nat→Int}(h:∀i,i<16→ -262144≤f i∧f i≤262144):∀i,i<16→ -131072≤bI f i∧bI f i≤131072:=fun i hi=>by
 have hc:=wY (C:=5) h Ω Ω 16 Ω;rcases X4 i with e|e
 ·subst e;have:=kH f hc;omega
 ·have:=iP f e;omega
structure El where
 f:Nat→Int
 h:∀i,i<16→ -131072≤f i∧f i≤131072
def El.v(x:El):F:=elF x.f
def El.add(x y:El):El:=⟨bI fun i=>x.f i+y.f i,qA fun i hi=>by have:=x.h i hi;have:=y.h i hi;omega⟩
def El.sub(x y:El):El:=⟨bI fun i=>x.f i-y.f i,qA fun i hi=>by have:=x.h i hi;have:=y.h i hi;omega⟩
theorem El.add_v(x y:El):(x.add y).v=x.v+y.v:=by
 show elF (bI _)=_;rw[ew];show zF _=zF _+zF _;rw[← EY,← qw]
theorem El.sub_v(x y:El):(x.sub y).v=x.v-y.v:=by
 show elF (bI _)=_;rw[ew];show zF _=zF _-zF _;rw[← Ku,← wV]
def tM(a b:Nat→Int)(i:Nat):Nat→Nat→Int
 | 0=>match i with
  | 0=>fun _=>0
  | i+1=>tM a b i 16
 | k+1=>fun j=>if j=i+k then tM a b i k j+a i*b k else tM a b i k j
termination_by k=>(i,k)
theorem uX(a b:Nat→Int):tM a b 0 0=fun _=>0:=by unfold tM;rfl
theorem zN(a b:Nat→Int)(i:Nat):tM a b (i+1) 0=tM a b i 16:=by conv=>lhs;unfold tM
theorem uY(a b:Nat→Int)(i k:Nat):tM a b i (k+1)=fun j=>if j=i+k then tM a b i k j+a i*b k else tM a b i k j:=by conv=>lhs;unfold tM
theorem Fa(a b:Nat→Int)(i:Nat)(hi:i<16):∀k,k≤16→bF (tM a b i k) 31=bF (tM a b i 0) 31+a i*2^(16*i)*bF b k
 | 0,_=>by show _=_+_*(0:Int);rw[Int.mul_zero,Int.add_zero]
 | k+1,hk=>by
  rw[uY,qx,Fa a b i hi k Ω,Ρ Ω,E9];show _=_+_*(bF b k+b k*2^(16*k));grind
theorem Fb(a b:Nat→Int):∀i,i≤16→bF (tM a b i 0) 31=bF a i*bF b 16
 | 0,_=>by rw[uX,CI];simp[bF]
 | i+1,hi=>by
  rw[zN,Fa a b i Ω 16 Ω,Fb a b i Ω];show _=(bF a i+a i*2^(16*i))*_;grind
theorem Fc{x y:Int}(hx: -131072≤x∧x≤131072)(hy: -131072≤y∧y≤131072): -17179869184≤x*y∧x*y≤17179869184:=by
 have h1:x.natAbs≤131072:=Ω;have h2:y.natAbs≤131072:=Ω;have h3:=Z1 h1 h2;rw[← Int.natAbs_mul]at h3;omega
theorem Fd{a b:Nat→Int}(ha:∀i,i<16→ -131072≤a i∧a i≤131072)(hb:∀i,i<16→ -131072≤b i∧b i≤131072)(i:Nat)(hi:i<16)(h0:∀j,-(17179869184*(i:Int))≤tM a b i 0 j∧tM a b i 0 j≤17179869184*(i:Int)) :
 ∀k,k≤16→∀j,(-(17179869184*((i:Int)+1))≤tM a b i k j∧tM a b i k j≤17179869184*((i:Int)+1))∧(i+k≤j→ -(17179869184*(i:Int))≤tM a b i k j∧tM a b i k j≤17179869184*(i:Int))
 | 0,_,j=>by have:=h0 j;omega
 | k+1,hk,j=>by
  have ih:=Fd ha hb i hi h0 k Ω j;have hm:=Fc (ha i hi) (hb k Ω);rw[uY];simp only;by_cases e:j=i+k
  ·rw[Ρ e]
   have:=ih.2 Ω;omega
  ·rw[Χ e]
   exact⟨ih.1,fun h=>ih.2 Ω⟩
theorem zO{a b:Nat→Int}(ha:∀i,i<16→ -131072≤a i∧a i≤131072)(hb:∀i,i<16→ -131072≤b i∧b i≤131072):∀i:Nat,i≤16→∀j:Nat,-(17179869184*(i:Int))≤tM a b i 0 j∧tM a b i 0 j≤17179869184*(i:Int)
 | 0,_,j=>by rw[uX];simp
 | i+1,hi,j=>by
  rw[zN];have:=(Fd ha hb i Ω (zO ha hb i Ω) 16 Ω j).1;omega
theorem u4{a b:Nat→Int}(ha:∀i,i<16→ -131072≤a i∧a i≤131072)(hb:∀i,i<16→ -131072≤b i∧b i≤131072)(i k:Nat)(hi:i≤16)(hk:k≤16)(hik:i<16∨k=0)(j:Nat): -274877906944≤tM a b i k j∧tM a b i k j≤274877906944:=by
 rcases hik with h|rfl
 ·have:=(Fd ha hb i h (zO ha hb i hi) k hk j).1
  omega
 ·have:=zO ha hb i hi j
  omega
def oF(t:Nat→Int)(i:Nat):Int:=if i<15 then t i+38*t (i+16)else t i
theorem Kv(t:Nat→Int):bF (oF t) 16=bF t 31+ -2*(P:Int)*bF (fun i=>t (16+i)) 15:=by
 have h1:bF (oF t) 16=bF (fun i=>t i+(38*if i<15 then t (i+16)else 0)) 16:=mb 16 fun i _=>by
  unfold oF;split <;> simp
 have h2:bF (fun i=>if i<15 then t (i+16)else 0) 16=bF (fun i=>t (16+i)) 15:=by
  show bF (fun i=>if i<15 then t (i+16)else 0) 15+(if 15<15 then t (15+16)else 0)*2^(16*15)=_;rw[Χ Ω,Int.zero_mul,Int.add_zero];exact mb 15 fun i hi=>by rw[Ρ hi,Nat.add_comm]
 have h3:=qy t 16 15;rw[h1,qw,wW,h2,show 31=16+15 from rfl,h3,show 16*16=256 from rfl,wH];generalize bF (fun i=>t (16+i)) 15=v;generalize bF t 16=u;generalize(P:Int)=p;grind
def wZ(x y:El):Nat→Int:=oF (tM x.f y.f 16 0)
theorem Bv(x y:El):∀i,i<16→ -10720238370816≤wZ x y i∧wZ x y i≤10720238370816:=fun i _=>by
 have h1:=u4 x.h y.h 16 0 Ω Ω (.inr rfl) i;have h2:=u4 x.h y.h 16 0 Ω Ω (.inr rfl) (i+16);unfold wZ oF;split <;> omega
def qC(x y:El):Nat→Int:=bI (wZ x y)
theorem xa(x y:El): -8589934592≤qC x y 0∧qC x y 0≤8589934592:=by
 have hc:=wY (C:=163600000) (Bv x y) Ω Ω 16 Ω;have:=kH (wZ x y) hc;unfold qC;omega
theorem xb(x y:El)(i:Nat)(h:0<i):0≤qC x y i∧qC x y i≤65535:=iP _ h
def El.mul(x y:El):El:=⟨bI (qC x y),fun i hi=>by
 have hc:=(qz (xa x y) (fun i h _=>xb x y i h) 16 Ω).2.2 Ω;rcases X4 i with e|e
 ·subst e;have:=kH (qC x y) hc;omega
 ·have:=iP (qC x y) e;omega⟩
theorem El.mul_v(x y:El):(x.mul y).v=x.v*y.v:=by
 show elF (bI (bI (oF _)))=_;rw[ew,ew];unfold elF;rw[Kv,show ∀v:Int,-2*(P:Int)*v= -2*v*(P:Int)from fun v=>by grind,MF,Fb _ _ 16 Ω,Kt];rfl
def dg(n i:Nat):Nat:=n/2^(16*i)%65536
theorem qD(n i:Nat):dg n i<65536:=XJ _ Ω
theorem zP(n:Nat):∀k,bF (fun i=>(dg n i:Int)) k=((n%2^(16*k):Nat):Int)
 | 0=>by simp[bF,YH]
 | k+1=>by
  unfold bF;have hE:((2^(16*k):Nat):Int)=(2:Int)^(16*k):=by norm_cast
  have hd:dg n k=n/2^(16*k)%2^16:=rfl;rw[zP n k,Yu,Xk,YV,YN,Yg,hE,← hd,Int.mul_comm]
def El.of(n:Nat):El:=⟨fun i=>(dg n i:Int),fun i _=>by have:=qD n i;omega⟩
theorem El.of_v{n:Nat}(h:n<2^256):(El.of n).v=fe n:=by
 show zF (bF _ 16)=_;rw[show(El.of n).f=fun i=>(dg n i:Int)from rfl,zP,Xd h,EZ]
def El.zero:El:=El.of 0
def El.one:El:=El.of 1
def Nrm(f:Nat→Int):Prop:=∀i,i<16→0≤f i∧f i≤65535
theorem mL{f:Nat→Int}(h:Nrm f):∀k,k≤16→0≤bF f k∧bF f k<2^(16*k)
 | 0,_=>by simp[bF]
 | k+1,hk=>by
  have ih:=mL h k Ω;have hf:=h k Ω;unfold bF;rw[zJ];generalize(2:Int)^(16*k)=Ezq at *
  have h1:0≤f k*Ezq:=YR hf.1 Ω;have h2:f k*Ezq≤65535*Ezq:=Yr hf.2 Ω;omega
theorem zQ{f:Nat→Int}(h:Nrm f):∀k,k≤16→∀i,i<k→f i=(dg (bF f k).toNat i:Int)
 | 0,_,i,hi=>absurd hi Ω
 | k+1,hk,i,hi=>by
  have hv:=mL h k Ω;have hf:=h k Ω;have e:(bF f (k+1)).toNat=(bF f k).toNat+2^(16*k)*(f k).toNat:=by
   have:((2^(16*k):Nat):Int)=(2:Int)^(16*k):=by norm_cast
   refine Int.ofNat_inj.1 ?_;have h1:0≤f k*(2:Int)^(16*k):=YR hf.1 Ω;have hvk:bF f (k+1)=bF f k+f k*2^(16*k):=rfl;rw[hvk,YF (show 0≤bF f k+f k*2^(16*k) by omega),YN,Yg,this,YF hv.1,YF hf.1];show bF f k+f k*2^(16*k)=_;grind
  have hlt:(bF f k).toNat<2^(16*k):=by
   have:((2^(16*k):Nat):Int)=(2:Int)^(16*k):=by norm_cast
   omega
  unfold dg;rw[e];rcases XI i k with h1|h1
  ·rw[zQ h k Ω i h1]
   unfold dg;obtain⟨d,hd⟩:∃d,k=i+1+d:=⟨k-(i+1),Ω⟩;rw[show 16*k=16*i+(16+16*d)from by omega,Xk,XK,Xy _ _ (Xg _),Xk,XK,show(2:Nat)^16=65536 from rfl,XD]
  ·obtain rfl:i=k:=Ω
   rw[Xy _ _ (Xg _),Xp hlt,XA];omega
theorem zS{f:Nat→Int}(h:Nrm f):∀k,k≤16→cy f k=0
 | 0,_=>rfl
 | k+1,hk=>by
  have hf:=h k Ω;unfold cy;rw[zS h k Ω];omega
theorem CJ{f:Nat→Int}(h:Nrm f):∀i,i<16→bI f i=f i:=fun i hi=>by
 have h1:=zS h 16 Ω;have h2:=zS h i Ω;have:=h i hi;unfold bI dgC;rw[h1,h2];split <;> omega
theorem qE{f g:Nat→Int}:∀k,(∀i,i<k→f i=g i)→cy f k=cy g k
 | 0,_=>rfl
 | k+1,h=>by unfold cy;rw[qE k fun i hi=>h i Ω,h k Ω]
theorem xc{f g:Nat→Int}(h:∀i,i<16→f i=g i):∀i,i<16→bI f i=bI g i:=fun i hi=>by
 unfold bI dgC;rw[qE 16 h,qE i fun j hj=>h j Ω,h i hi]
theorem JI{f:Nat→Int}(h0: -131072≤f 0∧f 0≤131071)(h:∀i,0<i→i<16→0≤f i∧f i≤65535):∀k,k≤16→0<k→(0<cy f k→f 0 ≥ 65536)∧(cy f k<0→f 0<0)∧ -2≤cy f k∧cy f k≤1
 | 0,_,h=>absurd h Ω
 | 1,_,_=>by
  have:cy f 1=(f 0+0)/65536:=rfl;omega
 | k+2,hk,_=>by
  have ih:=JI h0 h (k+1) Ω Ω;have:=h (k+1) Ω Ω;have e:cy f (k+2)=(f (k+1)+cy f (k+1))/65536:=rfl;omega
theorem CK(x:El):Nrm (bI (bI x.f)):=by
 have hc:=wY (C:=3) x.h Ω Ω 16 Ω;have h0:=kH x.f hc;have h1:=fun i h=>iP (i:=i) x.f h;generalize bI x.f=g at *
 have hs:=qz (f:=g) Ω (fun i h _=>h1 i h) 16 Ω;have hs:=hs.2.2 Ω;have hu:=JI (f:=g) Ω (fun i h _=>h1 i h) 16 Ω Ω;intro i hi;rcases X4 i with e|e
 ·subst e
  unfold bI dgC;rw[Ρ rfl];have:cy g 0=0:=rfl;omega
 ·exact iP g e
def CL(x:El):Nat→Int:=bI (bI (bI (bI x.f)))
theorem qF(x:El):Nrm (CL x):=fun i hi=>by
 have h:=CK x;have h3:=CJ h;have h4:CL x i=bI (bI x.f) i:=(xc h3 i hi).trans (h3 i hi);rw[h4];exact h i hi
theorem Kw(x:El):elF (CL x)=x.v:=by
 unfold CL;rw[ew,ew,ew,ew];rfl
def u5(x:El):Nat:=(bF (CL x) 16).toNat
theorem Bw(x:El):u5 x<2^256:=by
 have:=mL (qF x) 16 Ω;unfold u5;have e:((2^256:Nat):Int)=(2:Int)^(16*16):=by norm_cast
 omega
theorem Iv(x:El):∀i,i<16→CL x i=(dg (u5 x) i:Int):=zQ (qF x) 16 Ω
theorem Kx(x:El):fe (u5 x)=x.v:=by
 rw[← Kw,← EZ];unfold u5;rw[YF (mL (qF x) 16 Ω).1];rfl
theorem Fe(x:El):u5 x%P=x.v.val:=by rw[← Kx];rfl
def k7(n:Nat):Nat:=if n<P then n else n-P
theorem zT{n:Nat}(h:n<2^256):k7 (k7 (k7 n))=n%P:=by
 have h2:2^256<3*P:=Ϛ;unfold k7;by_cases h0:n<P
 ·rw[Ρ h0,Ρ h0,Ρ h0,Xd h0]
 ·rw[Χ h0]
  by_cases h1:n-P<P
  ·rw[Ρ h1,Ρ h1]
   rw[Yv Ω,Xd h1]
  ·rw[Χ h1]
   have h3:n-P-P<P:=Ω;rw[Ρ h3,Yv Ω,Yv Ω,Xd h3]
end R3
namespace R3
theorem mM(n:Int):bits .and .i64 n 1=n%2:=by
 have hm:(BitVec.ofInt 64 1).toNat=2^1-1:=Ξ;have κ:(BitVec.ofInt 64 n&&&BitVec.ofInt 64 1).toNat=(n%((2^64:Nat):Int)).toNat%2^1:=by
  rw[YA,X9,hm,X5]
 show IntKind.i64.wrap ((BitVec.ofInt 64 n&&&BitVec.ofInt 64 1).toNat:Nat)=n%2;rw[κ,XV];omega
theorem and_255(n:Int):bits .and .i64 n 255=n%256:=by
 have hm:(BitVec.ofInt 64 255).toNat=2^8-1:=Ξ;have κ:(BitVec.ofInt 64 n&&&BitVec.ofInt 64 255).toNat=(n%((2^64:Nat):Int)).toNat%2^8:=by
  rw[YA,X9,hm,X5]
 show IntKind.i64.wrap ((BitVec.ofInt 64 n&&&BitVec.ofInt 64 255).toNat:Nat)=n%256;rw[κ,XV];omega
theorem CM(n:Int):bits .and .i64 n 65535=n%65536:=by
 have hm:(BitVec.ofInt 64 65535).toNat=2^16-1:=Ξ;have κ:(BitVec.ofInt 64 n&&&BitVec.ofInt 64 65535).toNat=(n%((2^64:Nat):Int)).toNat%2^16:=by
  rw[YA,X9,hm,X5]
 show IntKind.i64.wrap ((BitVec.ofInt 64 n&&&BitVec.ofInt 64 65535).toNat:Nat)=n%65536;rw[κ,XV];omega
def bo(n:Nat):Nat→Int
 | 0=>0
 | k+1=>if(dg n k:Int)-dg P k-bo n k<0 then 1 else 0
def cD(n i:Nat):Int:=(dg n i:Int)-dg P i-bo n i
theorem Bx(n:Nat):∀k,0≤bo n k∧bo n k≤1
 | 0=>by unfold bo;omega
 | k+1=>by unfold bo;split <;> omega
theorem mN(n i:Nat): -65536≤cD n i∧cD n i≤65535:=by
 have:=Bx n i;have:=qD n i;have:=qD P i;unfold cD;omega
theorem kI(n k:Nat):cD n k/65536%2=bo n (k+1):=by
 have:=mN n k;have e:bo n (k+1)=if cD n k<0 then 1 else 0:=rfl;rw[e];split <;> omega
def stM(n k i:Nat):Int:=if i+1<k then cD n i%65536 else if i+1=k then cD n i else 0
theorem u6(n:Nat):∀k,bF (fun i=>cD n i%65536) k=bF (fun i=>(dg n i:Int)) k-bF (fun i=>(dg P i:Int)) k+bo n k*2^(16*k)
 | 0=>by simp[bF,bo]
 | k+1=>by
  have h:=mN n k;have hb:=kI n k;have hr:cD n k%65536=(dg n k:Int)-dg P k-bo n k+65536*bo n (k+1):=by
   have:cD n k=(dg n k:Int)-dg P k-bo n k:=rfl;have:=Bx n (k+1);omega
  unfold bF;rw[u6 n k,hr,zJ];grind
theorem By(n:Nat):Nrm (fun i=>cD n i%65536):=fun i _=>(show 0≤cD n i%65536∧cD n i%65536≤65535 by omega)
theorem u9{n:Nat}(h:n<2^256):bF (fun i=>(dg n i:Int)) 16=(n:Int):=by rw[zP,Xd h]
theorem Ff:P<2^256:=Ϛ
theorem mO{n:Nat}(h:n<2^256):(0≤cD n 15↔P≤n):=by
 have h1:=u6 n 16;rw[u9 h,u9 Ff]at h1;have h2:=mL (By n) 16 Ω;have h3:cD n 15/65536%2=bo n 16:=kI n 15;have h4:=mN n 15;have h5:=Bx n 16;rw[show 16*16=256 from rfl]at h1 h2;have hn:(n:Int)<2^256:=by
  have:((2^256:Nat):Int)=(2:Int)^256:=by norm_cast
  omega
 have hp:(P:Int)<2^256:=by
  have:((2^256:Nat):Int)=(2:Int)^256:=by norm_cast
  have:=Ff;omega
 generalize bF (fun i=>cD n i%65536) 16=v at *
 generalize(2:Int)^256=Ezq at *
 have hb:bo n 16=0∨bo n 16=1:=Ω;rcases hb with hb|hb
 ·rw[hb,Int.zero_mul]at h1
  rw[hb]at h3;constructor
  ·intro _;omega
  ·intro _;omega
 ·rw[hb,Int.one_mul]at h1
  rw[hb]at h3;constructor
  ·intro _;omega
  ·intro _;omega
theorem Ky{n:Nat}(h:n<2^256)(hp:P≤n):∀i,i<16→cD n i%65536=(dg (n-P) i:Int):=by
 have h1:=u6 n 16;rw[u9 h,u9 Ff]at h1;have h3:cD n 15/65536%2=bo n 16:=kI n 15;have h4:=mN n 15;have h0:=(mO h).2 hp;have hb:bo n 16=0:=Ω;rw[hb,Int.zero_mul]at h1;intro i hi;have h2:=zQ (By n) 16 Ω i hi;rw[h1]at h2;rw[h2,show((n:Int)-(P:Int)+0).toNat=n-P from by omega]
theorem Fg{n:Nat}(h:P≤n):k7 n=n-P:=by unfold k7;rw[Χ Ω]
theorem Fh{n:Nat}(h:¬P≤n):k7 n=n:=by unfold k7;rw[Ρ Ω]
theorem Iw{n:Nat}(h:n<2^256):k7 n<2^256:=by unfold k7;split <;> omega
theorem CN(n i:Nat):((dg n i:Int)%256)=B8 (ah n (2*i)):=by
 unfold dg ah B8;rw[Xv,show 8*(2*i)=16*i from by omega,show(2:Nat)^8=256 from rfl];omega
theorem Fi(n i:Nat):((dg n i:Int)/256%256)=B8 (ah n (2*i+1)):=by
 unfold dg ah B8;rw[Xv,show 8*(2*i+1)=16*i+8 from by omega,show(2:Nat)^8=256 from rfl,Xk,← Xj,show(2:Nat)^8=256 from rfl];omega
def El.powK(x:El)(e:Nat):Nat→El
 | 0=>El.one
 | k+1=>if e/2^(255-k)%2=1 then((El.powK x e k).mul (El.powK x e k)).mul x else(El.powK x e k).mul (El.powK x e k)
theorem El.one_v:El.one.v=1:=by
 unfold El.one;rw[El.of_v Ξ];decide +kernel
theorem El.zero_v:El.zero.v=0:=by
 unfold El.zero;rw[El.of_v Ξ];decide +kernel
theorem El.powK_v(x:El)(e:Nat)(he:e<2^256):∀k,k≤256→(El.powK x e k).v=pw x.v (e/2^(256-k))
 | 0,_=>by rw[Nat.sub_zero,Xp he];exact El.one_v
 | k+1,hk=>by
  have ih:=El.powK_v x e he k Ω;have hs:=qi e k Ω;show(if e/2^(255-k)%2=1 then((El.powK x e k).mul (El.powK x e k)).mul x else(El.powK x e k).mul (El.powK x e k)).v=_;rw[show 256-(k+1)=255-k from by omega];by_cases h:e/2^(255-k)%2=1
  ·rw[Ρ h,El.mul_v,El.mul_v,ih,zv]
   rw[h]at hs;rw[hs];rfl
  ·rw[Χ h,El.mul_v,ih,zv]
   rw[show e/2^(255-k)%2=0 from by omega,Zm]at hs;rw[hs]
noncomputable def El.pow(x:El)(e:Nat):El:=Classical.choose (⟨_,rfl⟩:∃y,y=El.powK x e 256)
theorem El.pow_eq(x:El)(e:Nat):El.powK x e 256=El.pow x e:=(Y0 (⟨_,rfl⟩:∃y,y=El.powK x e 256)).symm
theorem El.pow_v(x:El){e:Nat}(he:e<2^256):(El.pow x e).v=pw x.v e:=by
 rw[← El.pow_eq,El.powK_v x e he 256 Ω,Nat.sub_self,Yh,Yj]
noncomputable def El.inv(x:El):El:=El.pow x (P-2)
theorem El.inv_v(x:El):(El.inv x).v=Go.Proofs.YtoifhhljfaoejaaGreatDoor.inv x.v:=by
 unfold El.inv;rw[El.pow_v x (by have:=Ff;omega),uC]
structure Pe where
 x:El
 y:El
 z:El
 t:El
def Pe.ex(p:Pe):Ex:=⟨p.x.v,p.y.v,p.z.v,p.t.v⟩
def dE:El:=El.of dF.val
theorem Fj:dE.v=dF:=by unfold dE;rw[El.of_v (jX _),fG]
def Pe.add(p q:Pe):Pe :=
 let a:=(p.y.sub p.x).mul (q.y.sub q.x)
 let b:=(p.y.add p.x).mul (q.y.add q.x)
 let c:=(p.t.mul q.t).mul (dE.add dE)
 let e:=(p.z.mul q.z).add (p.z.mul q.z)
 ⟨(b.sub a).mul (e.sub c),(b.add a).mul (e.add c),(e.sub c).mul (e.add c),(b.sub a).mul (b.add a)⟩
theorem Ex.ext'{p q:Ex}(h1:p.x=q.x)(h2:p.y=q.y)(h3:p.z=q.z)(h4:p.t=q.t):p=q:=by cases p;cases q;cases h1;cases h2;cases h3;cases h4;rfl
theorem Pe.add_ex(p q:Pe):(p.add q).ex=dm p.ex q.ex:=by
 have hz:p.z.v*q.z.v+p.z.v*q.z.v=p.z.v*(q.z.v+q.z.v):=by grind
 have hc:p.t.v*q.t.v*(dF+dF)=p.t.v*(dF+dF)*q.t.v:=by grind
 have hm:∀a b:F,a*b=b*a:=fun a b=>by grind
 refine Ex.ext' ?_ ?_ ?_ ?_
 ·unfold Pe.add Pe.ex dm;simp only[El.mul_v,El.add_v,El.sub_v,Fj];rw[hz,hc]
 ·unfold Pe.add Pe.ex dm;simp only[El.mul_v,El.add_v,El.sub_v,Fj];rw[hz,hc];exact hm _ _
 ·unfold Pe.add Pe.ex dm;simp only[El.mul_v,El.add_v,El.sub_v,Fj];rw[hz,hc]
 ·unfold Pe.add Pe.ex dm;simp only[El.mul_v,El.add_v,El.sub_v,Fj]
def Pe.O:Pe:=⟨El.zero,El.one,El.one,El.zero⟩
theorem Pe.O_ex:Pe.O.ex=exO:=by
 unfold Pe.O Pe.ex exO;rw[El.zero_v,El.one_v]
def Pe.B:Pe:=⟨El.of pB.x.val,El.of pB.y.val,El.one,(El.of pB.x.val).mul (El.of pB.y.val)⟩
theorem Pe.B_ex:Pe.B.ex=exB:=by
 unfold Pe.B Pe.ex exB oX;simp only;rw[El.mul_v,El.of_v (jX _),El.of_v (jX _),El.one_v,fG,fG]
def Pe.manyK(p:Pe)(n:Nat):Nat→Pe
 | 0=>Pe.O
 | k+1=>if n/2^(255-k)%2=1 then((Pe.manyK p n k).add (Pe.manyK p n k)).add p else(Pe.manyK p n k).add (Pe.manyK p n k)
theorem Pe.manyK_ex(p:Pe)(n:Nat):∀k,(Pe.manyK p n k).ex=ik p.ex n k
 | 0=>Pe.O_ex
 | k+1=>by
  have ih:=Pe.manyK_ex p n k;show(if n/2^(255-k)%2=1 then((Pe.manyK p n k).add (Pe.manyK p n k)).add p else(Pe.manyK p n k).add (Pe.manyK p n k)).ex=if n/2^(255-k)%2=1 then dm (dm (ik p.ex n k) (ik p.ex n k)) p.ex else dm (ik p.ex n k) (ik p.ex n k);split
  ·rw[Pe.add_ex,Pe.add_ex,ih]
  ·rw[Pe.add_ex,ih]
noncomputable def Pe.many(p:Pe)(n:Nat):Pe:=Classical.choose (⟨_,rfl⟩:∃y,y=Pe.manyK p n 256)
theorem Pe.many_eq(p:Pe)(n:Nat):Pe.manyK p n 256=Pe.many p n:=(Y0 (⟨_,rfl⟩:∃y,y=Pe.manyK p n 256)).symm
theorem Pe.many_ex(p:Pe)(n:Nat):(Pe.many p n).ex=cE p.ex n:=by rw[← Pe.many_eq,Pe.manyK_ex];rfl
end R3
theorem qG(f:Φ):∀k i,i<k→leK f k/2^(8*i)%256=(f i).toNat
 | 0,_,h=>absurd h Ω
 | k+1,i,h=>by
  show(leK f k+(f k).toNat*2^(8*k))/2^(8*i)%256=_;rcases XI i k with h1|h1
  ·obtain⟨d,hd⟩:∃d,k=i+1+d:=⟨k-(i+1),Ω⟩
   rw[← qG f k i h1,XU (f k).toNat,show 8*k=8*i+(8+8*d)from by omega,Xk,XK,Xy _ _ (Xg _),Xk,XK,show(2:Nat)^8=256 from rfl,XD]
  ·obtain rfl:i=k:=Ω
   rw[XU,Xy _ _ (Xg _),Xp (dt f i),XA,Xd (f i).isLt]
theorem kg(f:Φ){i:Nat}(h:i<32):leN f/2^(8*i)%256=(f i).toNat:=qG f 32 i h
theorem iQ(f:Φ){i:Nat}(h:i<32):ah (leN f) i=f i:=by
 unfold ah;refine Yi ?_;rw[Xv];exact kg f h
theorem kJ(n:Nat):∀k,leK (ah n) k=n%2^(8*k)
 | 0=>by simp[leK,YH]
 | k+1=>by
  show leK (ah n) k+(ah n k).toNat*2^(8*k)=_;rw[kJ n k,Yu,Xk,YV];unfold ah;rw[Xv,XU (n/2^(8*k)%2^8)]
theorem bT{n:Nat}(h:n<2^256):leN (ah n)=n:=by
 unfold leN;rw[kJ];exact Xd h
theorem xd(x r:Nat)(h:r<8):x/2^r%2=x%256/2^r%2:=by
 have:r=0∨r=1∨r=2∨r=3∨r=4∨r=5∨r=6∨r=7:=Ω;rcases this with rfl|rfl|rfl|rfl|rfl|rfl|rfl|rfl <;> omega
theorem Ix(f:Φ){i:Nat}(h:i<256):leN f/2^i%2=(f (i/8)).toNat/2^(i%8)%2:=by
 have e:2^i=2^(8*(i/8))*2^(i%8):=by rw[← Xk];congr 1;omega
 rw[e,← Xj,xd _ _ (XJ _ Ω),kg f Ω]
theorem qH(x:Nat)(h:x<256):bits .and .u8 (x:Int) 1=((x%2:Nat):Int):=by
 have:∀x:Fin 256,bits .and .u8 (x.val:Int) 1=((x.val%2:Nat):Int):=Ϛ;exact this ⟨x,h⟩
theorem qI(f:Φ){i:Nat}(h:i<256):bits .and .u8 (B8 (f (i/8))/2^(i%8)) 1=((leN f/2^i%2:Nat):Int):=by
 rw[Ix f h];have e:B8 (f (i/8))/2^(i%8)=(((f (i/8)).toNat/2^(i%8):Nat):Int):=by
  unfold B8;generalize(f (i/8)).toNat=x;generalize i%8=r;rw[Zs,YM];rfl
 rw[e];exact qH _ (Yw (ZR _ _) (f (i/8)).isLt)
theorem Kz(f:Φ){i:Nat}(h:i<16):R3.dg (leN f) i=(f (2*i)).toNat+256*(f (2*i+1)).toNat:=by
 have h0:=kg f (i:=2*i) Ω;have h1:=kg f (i:=2*i+1) Ω;unfold R3.dg;rw[show 8*(2*i)=16*i from by omega]at h0;rw[show 8*(2*i+1)=16*i+8 from by omega,Xk,← Xj,show(2:Nat)^8=256 from rfl]at h1;omega
theorem zV(a b:Nat)(ha:a<2^63)(hb:b<2^63):bits .or .i64 (a:Int) (b:Int)=((a|||b:Nat):Int):=by
 have hor:a|||b<2^63:=Nat.or_lt_two_pow ha hb
 show IntKind.i64.wrap ((BitVec.ofInt 64 (a:Int)|||BitVec.ofInt 64 (b:Int)).toNat:Nat)=_;rw[ZU,X9,X9];have e1:((a:Int)%((2^64:Nat):Int)).toNat=a:=Ω;have e2:((b:Int)%((2^64:Nat):Int)).toNat=b:=Ω;rw[e1,e2,XV];omega
theorem Iy(f:Φ){i:Nat}(h:i<16):bits .or .i64 (B8 (f (2*i))) (B8 (f (2*i+1))*256)=(R3.dg (leN f) i:Int):=by
 have h0:=(f (2*i)).isLt;have h1:=(f (2*i+1)).isLt;rw[Kz f h];have e:B8 (f (2*i+1))*256=(((f (2*i+1)).toNat*256:Nat):Int):=(Yg _ 256).symm;rw[e];unfold B8;rw[zV _ _ Ω Ω,Nat.or_comm];have hs:=Yt (i:=8) h0 (f (2*i+1)).toNat
 rw[Y3,show(2:Nat)^8=256 from rfl]at hs;rw[← hs];omega
namespace R3
def aq(n:Nat)(f:Nat→Int):Ψ:=row n fun i=> .int .i64 (f i)
def rowEl(x:El):Ψ:=aq 16 x.f
instance QT(n:Nat)(f:Nat→Int):Row1 (aq n f) n:=⟨aS _ _,by simp[aq,row,Value.oneCell']⟩
instance QU(x:El):Row1 (rowEl x) 16:=inferInstanceAs (Row1 (aq 16 _) 16)
instance QV:RowTy 147 16:=⟨⟨_,underlying147,rfl⟩,Θ⟩
instance QW:RowZ 147 (aq 16 fun _=>0):=⟨Θ⟩
instance QX:RowZ 265 (aq 31 fun _=>0):=⟨Θ⟩
theorem bL{n:Nat}{f g:Nat→Int}(h:∀i,i<n→f i=g i):aq n f=aq n g:=am fun i hi=>by rw[h i hi]
theorem bX{n k:Nat}(f:Nat→Int)(h:k<n):Cell (aq n f) k (.int .i64 (f k)):=aO _ h
theorem ec{n k:Nat}{f:Nat→Int}{x:Int}{g:Nat→Int}(h:k<n)(e:∀i,i<n→(if i=k then x else f i)=g i):Put (aq n f) k (.int .i64 x) (aq n g) :=
 bm h (am fun i hi=>by
  rw[← e i hi];unfold upd;by_cases c:i=k
  ·rw[Ρ c,Ρ c]
  ·rw[Χ c,Χ c])
theorem Fk(f:Nat→Int):aq 16 (stC f 0)=aq 16 f:=bL fun i _=>by
 unfold stC;rw[Χ Ω,Χ Ω];split
 ·next h=>subst h;show f 0+0=_;omega
 ·rfl
def mP(f:Nat→Int)(k i:Nat):Int:=if i≤k then dgC f i else f i
theorem KA(f:Nat→Int){k:Nat}(h:k<16):stC f k k=f k+cy f k:=by unfold stC;rw[Χ Ω,Χ Ω,Ρ rfl]
theorem iR(f:Nat→Int)(hf:∀i,i<16→ -35184372088832≤f i∧f i≤35184372088832)(w:ϑ):Rt 190 #[.agg (aq 16 f)] w (.agg (aq 16 (bI f))):=by
 have I:=Loc.nil w;have HF:=Hd hf;have HC:=Hd (wY (C:=1073741824) hf Ω Ω);clear hf;have HZ:=Hd (Fk f);have HE:=Hd (show aq 16 (stC f 16)=aq 16 (bI f)from bL fun i _=>by unfold stC;rw[Ρ rfl]);go_enter func190,ntmps190;go_wp2_with (first|refine gBp 1 fun b1 J I=>?_|refine gBp 2 fun b2 J I=>?_|refine aQq fun _ J I=>?_);go_loopw [3] (fun kk wr=>∃k:Nat,k≤16∧kk= .int .i64 k∧Loc w wr [(b2,aq 16 fun _=>0,147),(b1,aq 16 (stC f k),147)]) (fun kk _=>16-(intOf kk).toNat);case atStart=>exact⟨0,Ω,rfl,by rw[HZ.out];exact I⟩
 case round =>
  clear I;obtain⟨k,hk,rfl,I⟩:=hrel;by_cases hlt:k<16
  ·have hk0:(0:Int)≤(k:Int):=Ω
   have hk1:(k:Int)<16:=Ω;have hx0:=HF.out k hlt;have hx1:=HC.out k hk;have hxb: -40000000000000≤f k+cy f k∧f k+cy f k≤40000000000000:=Ω;haveI g1:Cell (aq 16 (stC f k)) k (.int .i64 (f k+cy f k)):=by rw[← KA f hlt];exact bX _ hlt
   haveI g2:Put (aq 16 (stC f k)) k (.int .i64 (f k+cy f k-(f k+cy f k)/65536*65536)) (aq 16 (mP f k)):=ec hlt fun i hi=>by
    unfold stC mP dgC;rw[Χ (show k≠16 by omega)];by_cases e:i=k
    ·subst e;rw[Ρ rfl,Ρ (Xn _)];omega
    ·rw[Χ e]
     by_cases h:i<k
     ·rw[Ρ h,Ρ Ω]
     ·rw[Χ h,Χ e,Χ Ω]
   have hcs:cy f (k+1)=(f k+cy f k)/65536:=rfl;by_cases h15:k<15
   ·have hy:=HF.out (k+1) Ω
    haveI g3:Cell (aq 16 (mP f k)) (k+1) (.int .i64 (f (k+1))):=by
     have:mP f k (k+1)=f (k+1):=by unfold mP;rw[Χ Ω]
     rw[← this];exact bX _ Ω
    haveI g4:Put (aq 16 (mP f k)) (k+1) (.int .i64 (f (k+1)+(f k+cy f k)/65536)) (aq 16 (stC f (k+1))):=ec Ω fun i hi=>by
     unfold stC mP;rw[Χ (show k+1≠16 by omega)];by_cases e:i=k+1
     ·subst e;rw[Ρ rfl,Χ Ω,Ρ rfl];rfl
     ·rw[Χ e]
      by_cases h:i≤k
      ·rw[Ρ h,Ρ Ω]
      ·rw[Χ h,Χ Ω,Χ e]
    generalize f k+cy f k=x,f (k+1)=y,stC f k=s,mP f k=m at *
    have J:IntKind.i64.wrap (x/65536*65536)=x/65536*65536:=W3 _ Ω;have w2:IntKind.i64.wrap (x-x/65536*65536)=x-x/65536*65536:=W3 _ Ω;have w3:IntKind.i64.wrap (y+x/65536)=y+x/65536:=W3 _ Ω;have h15':(k:Int)<15:=Ω;clear HF HC HZ HE;go_wp2_with (refine aQq fun _ J I=>?_);go_roundw;case rel=>exact⟨k+1,Ω,by go_num,I⟩
    case measure=>exact ϝ
   ·obtain rfl:k=15:=Ω
    haveI g3:Cell (aq 16 (mP f 15)) 0 (.int .i64 (dgC f 0)):=by
     have:mP f 15 0=dgC f 0:=by unfold mP;rw[Ρ Ω]
     rw[← this];exact bX _ Ω
    haveI g4:Put (aq 16 (mP f 15)) 0 (.int .i64 (dgC f 0+38*((f 15+cy f 15)/65536))) (aq 16 (stC f 16)):=ec Ω fun i hi=>by
     unfold stC mP bI;rw[Ρ rfl];by_cases e:i=0
     ·subst e;rw[Ρ rfl,Ρ rfl];rfl
     ·rw[Χ e,Χ e,Ρ Ω]
    have hd:=zM f 0;generalize f 15+cy f 15=x,dgC f 0=y,stC f 15=s,mP f 15=m at *
    have J:IntKind.i64.wrap (x/65536*65536)=x/65536*65536:=W3 _ Ω;have w2:IntKind.i64.wrap (x-x/65536*65536)=x-x/65536*65536:=W3 _ Ω;have w4:IntKind.i64.wrap (38*(x/65536))=38*(x/65536):=W3 _ Ω;have w3:IntKind.i64.wrap (y+38*(x/65536))=y+38*(x/65536):=W3 _ Ω;clear HF HC HZ;go_wp2_with (refine aQq fun _ J I=>?_);go_roundw;case rel=>exact⟨16,Ω,by go_num,I⟩
    case measure=>simp[intOf]
  ·obtain rfl:k=16:=Ω
   rw[HE.out]at I;go_wp2_with (refine aQq fun _ J I=>?_);exact Λ
instance QY:Ent 190:=eo func190
theorem Fm(f:Φ)(w:ϑ):Rt 140 #[.agg (aa 32 f)] w (.agg (rowEl (El.of (leN f)))):=by
 have I:=Loc.nil w;obtain⟨Dzq,hD⟩:∃Dzq:Nat→Nat→Int,Dzq=fun k i=>if i<k then(dg (leN f) i:Int)else 0:=⟨_,rfl⟩;have HD:=Hd hD;have HZ:=Hd (show aq 16 (fun _=>0)=aq 16 (Dzq 0)from bL fun i _=>by rw[hD];simp);have HE:=Hd (show aq 16 (Dzq 16)=rowEl (El.of (leN f))from bL fun i hi=>by rw[hD];simp only;rw[Ρ hi];rfl);clear hD;go_enter func140,ntmps140;go_wp2_with (first|refine gBp 1 fun b1 J I=>?_|refine gBp 2 fun b2 J I=>?_|refine gBp 3 fun b3 J I=>?_|refine aQq fun _ J I=>?_);go_loopw [4] (fun kk wr=>∃k:Nat,k≤16∧kk= .int .i64 k∧Loc w wr [(b3,aq 16 (Dzq k),147),(b2,aq 16 fun _=>0,147),(b1,aa 32 f,24)]) (fun kk _=>16-(intOf kk).toNat);case atStart=>exact⟨0,Ω,rfl,by rw[← HZ.out];exact I⟩
 case round =>
  clear I;obtain⟨k,hk,rfl,I⟩:=hrel;by_cases hlt:k<16
  ·have hk0:(0:Int)≤(k:Int):=Ω
   have hk1:(k:Int)<16:=Ω;have hv:=Iy f hlt;obtain⟨a0,a1⟩:=bP (f (2*k));obtain⟨c0,c1⟩:=bP (f (2*k+1));haveI g1:Cell (aa 32 f) (2*k) (.int .u8 (B8 (f (2*k)))):=aO _ Ω;haveI g2:Cell (aa 32 f) (2*k+1) (.int .u8 (B8 (f (2*k+1)))):=aO _ Ω;haveI g3:Put (aq 16 (Dzq k)) k (.int .i64 (bits .or .i64 (B8 (f (2*k))) (B8 (f (2*k+1))*256))) (aq 16 (Dzq (k+1))):=ec hlt fun i hi=>by
    rw[HD.out,hv];simp only;by_cases e:i=k
    ·subst e;rw[Ρ rfl,Ρ Ω]
    ·rw[Χ e]
     by_cases h:i<k
     ·rw[Ρ h,Ρ Ω]
     ·rw[Χ h,Χ Ω]
   clear hv;have e1:2*(k:Int)=((2*k:Nat):Int):=Ω;have e2:((2*k:Nat):Int)+1=((2*k+1:Nat):Int):=Ω;generalize Dzq k=s,B8 (f (2*k))=x at *
   generalize B8 (f (2*k+1))=y at *
   have q1:((2*k+1:Nat):Int)<32:=Ω;have q0:(0:Int)≤((2*k+1:Nat):Int):=Ω;have p1:((2*k:Nat):Int)<32:=Ω;have p0:(0:Int)≤((2*k:Nat):Int):=Ω;have wx:IntKind.i64.wrap x=x:=W3 _ Ω;have wy:IntKind.i64.wrap y=y:=W3 _ Ω;have wz:IntKind.i64.wrap (y*256)=y*256:=W3 _ Ω;have wk:IntKind.i64.wrap ((2*k:Nat):Int)=((2*k:Nat):Int):=W3 _ Ω;have wl:IntKind.i64.wrap ((2*k+1:Nat):Int)=((2*k+1:Nat):Int):=W3 _ Ω;generalize hq:2*k+1=q at *
   generalize hp:2*k=p at *
   clear hq hp HZ HE HD;go_wp2_with fail;refine wf [(0,true),(1,true),(2,true),(3,true),(4,false),(5,true),(6,true),(7,true),(8,true),(9,true),(10,false),(11,true),(12,true),(13,true),(14,true)] [] [15] I ?_;refine fA ?_;refine fB fun J I=>?_;go_wp2_with (refine aQq fun _ J I=>?_);go_roundw;case rel=>exact⟨k+1,Ω,by go_num,I⟩
   case measure=>exact ϝ
  ·obtain rfl:k=16:=Ω
   rw[HE.out]at I;go_wp2_with (refine aQq fun _ J I=>?_);exact Λ
instance QZ:Ent 140:=eo func140
instance Q0(f:Φ):FnC 140 #[.agg (aa 32 f)] (.agg (rowEl (El.of (leN f)))):=⟨Fm f⟩
theorem jg(x y:El)(w:ϑ):Rt 141 #[.agg (rowEl x),.agg (rowEl y)] w (.agg (rowEl (x.add y))):=by
 have I:=Loc.nil w;haveI f1:FnC 190 #[.agg (aq 16 fun i=>x.f i+y.f i)] (.agg (rowEl (x.add y))):=⟨iR _ fun i hi=>by have:=x.h i hi;have:=y.h i hi;omega⟩;obtain⟨Dzq,hD⟩:∃Dzq:Nat→Nat→Int,Dzq=fun k i=>if i<k then x.f i+y.f i else x.f i:=⟨_,rfl⟩;have HD:=Hd hD;have HZ:=Hd (show rowEl x=aq 16 (Dzq 0)from bL fun i _=>by rw[hD];simp);have HE:=Hd (show aq 16 (Dzq 16)=aq 16 (fun i=>x.f i+y.f i)from bL fun i hi=>by rw[hD];simp only;rw[Ρ hi]);have HX:=Hd x.h;have HY:=Hd y.h;clear hD;rw[HZ.out];have HY':=Hd (show rowEl y=aq 16 y.f from rfl);rw[HY'.out];generalize(fun i=>x.f i+y.f i)=xy at f1 HE;go_enter func141,ntmps141;go_wp2_with (first|refine gBp 2 fun b2 J I=>?_|refine gBp 3 fun b3 J I=>?_|refine gBp 4 fun b4 J I=>?_|refine aQq fun _ J I=>?_);go_loopw [5] (fun kk wr=>∃k:Nat,k≤16∧kk= .int .i64 k∧Loc w wr [(b4,aq 16 fun _=>0,147),(b3,aq 16 y.f,147),(b2,aq 16 (Dzq k),147)]) (fun kk _=>16-(intOf kk).toNat);case atStart=>exact⟨0,Ω,rfl,I⟩
 case round =>
  clear I;obtain⟨k,hk,rfl,I⟩:=hrel;by_cases hlt:k<16
  ·have hk0:(0:Int)≤(k:Int):=Ω
   have hk1:(k:Int)<16:=Ω;have hx:=HX.out k hlt;have hy:=HY.out k hlt;haveI g1:Cell (aq 16 (Dzq k)) k (.int .i64 (x.f k)):=by
    have:Dzq k k=x.f k:=by rw[HD.out];simp
    rw[← this];exact bX _ hlt
   haveI g2:Cell (aq 16 y.f) k (.int .i64 (y.f k)):=bX _ hlt;haveI g3:Put (aq 16 (Dzq k)) k (.int .i64 (x.f k+y.f k)) (aq 16 (Dzq (k+1))):=ec hlt fun i hi=>by
    rw[HD.out];simp only;by_cases e:i=k
    ·subst e;rw[Ρ rfl,Ρ Ω]
    ·rw[Χ e]
     by_cases h:i<k
     ·rw[Ρ h,Ρ Ω]
     ·rw[Χ h,Χ Ω]
   generalize Dzq k=s,y.f=yf at *
   generalize yf k=v,x.f k=u at *
   have wu:IntKind.i64.wrap (u+v)=u+v:=W3 _ Ω;clear HZ HE HD HX HY HY';go_wp2_with fail;refine wf [(0,true),(1,true),(2,true),(3,false),(4,true),(5,true),(6,false),(7,true),(8,true)] [] [9] I ?_;refine fA ?_;refine fB fun J I=>?_;go_wp2_with (refine aQq fun _ J I=>?_);go_roundw;case rel=>exact⟨k+1,Ω,by go_num,I⟩
   case measure=>exact ϝ
  ·obtain rfl:k=16:=Ω
   rw[HE.out]at I;go_wp2_with (refine aQq fun _ J I=>?_);exact Λ
instance OV:Ent 141:=eo func141
instance OW(x y:El):FnC 141 #[.agg (rowEl x),.agg (rowEl y)] (.agg (rowEl (x.add y))):=⟨jg x y⟩
theorem gi(x y:El)(w:ϑ):Rt 142 #[.agg (rowEl x),.agg (rowEl y)] w (.agg (rowEl (x.sub y))):=by
 have I:=Loc.nil w;haveI f1:FnC 190 #[.agg (aq 16 fun i=>x.f i-y.f i)] (.agg (rowEl (x.sub y))):=⟨iR _ fun i hi=>by have:=x.h i hi;have:=y.h i hi;omega⟩;obtain⟨Dzq,hD⟩:∃Dzq:Nat→Nat→Int,Dzq=fun k i=>if i<k then x.f i-y.f i else x.f i:=⟨_,rfl⟩;have HD:=Hd hD;have HZ:=Hd (show rowEl x=aq 16 (Dzq 0)from bL fun i _=>by rw[hD];simp);have HE:=Hd (show aq 16 (Dzq 16)=aq 16 (fun i=>x.f i-y.f i)from bL fun i hi=>by rw[hD];simp only;rw[Ρ hi]);have HX:=Hd x.h;have HY:=Hd y.h;clear hD;rw[HZ.out];have HY':=Hd (show rowEl y=aq 16 y.f from rfl);rw[HY'.out];generalize(fun i=>x.f i-y.f i)=xy at f1 HE;go_enter func142,ntmps142;go_wp2_with (first|refine gBp 2 fun b2 J I=>?_|refine gBp 3 fun b3 J I=>?_|refine gBp 4 fun b4 J I=>?_|refine aQq fun _ J I=>?_);go_loopw [5] (fun kk wr=>∃k:Nat,k≤16∧kk= .int .i64 k∧Loc w wr [(b4,aq 16 fun _=>0,147),(b3,aq 16 y.f,147),(b2,aq 16 (Dzq k),147)]) (fun kk _=>16-(intOf kk).toNat);case atStart=>exact⟨0,Ω,rfl,I⟩
 case round =>
  clear I;obtain⟨k,hk,rfl,I⟩:=hrel;by_cases hlt:k<16
  ·have hk0:(0:Int)≤(k:Int):=Ω
   have hk1:(k:Int)<16:=Ω;have hx:=HX.out k hlt;have hy:=HY.out k hlt;haveI g1:Cell (aq 16 (Dzq k)) k (.int .i64 (x.f k)):=by
    have:Dzq k k=x.f k:=by rw[HD.out];simp
    rw[← this];exact bX _ hlt
   haveI g2:Cell (aq 16 y.f) k (.int .i64 (y.f k)):=bX _ hlt;haveI g3:Put (aq 16 (Dzq k)) k (.int .i64 (x.f k-y.f k)) (aq 16 (Dzq (k+1))):=ec hlt fun i hi=>by
    rw[HD.out];simp only;by_cases e:i=k
    ·subst e;rw[Ρ rfl,Ρ Ω]
    ·rw[Χ e]
     by_cases h:i<k
     ·rw[Ρ h,Ρ Ω]
     ·rw[Χ h,Χ Ω]
   generalize Dzq k=s,y.f=yf at *
   generalize yf k=v,x.f k=u at *
   have wu:IntKind.i64.wrap (u-v)=u-v:=W3 _ Ω;clear HZ HE HD HX HY HY';go_wp2_with fail;refine wf [(0,true),(1,true),(2,true),(3,false),(4,true),(5,true),(6,false),(7,true),(8,true)] [] [9] I ?_;refine fA ?_;refine fB fun J I=>?_;go_wp2_with (refine aQq fun _ J I=>?_);go_roundw;case rel=>exact⟨k+1,Ω,by go_num,I⟩
   case measure=>exact ϝ
  ·obtain rfl:k=16:=Ω
   rw[HE.out]at I;go_wp2_with (refine aQq fun _ J I=>?_);exact Λ
instance OX:Ent 142:=eo func142
instance OY(x y:El):FnC 142 #[.agg (rowEl x),.agg (rowEl y)] (.agg (rowEl (x.sub y))):=⟨gi x y⟩
end R3
namespace R3
def El.carried(x:El):El:=⟨bI x.f,qA fun i hi=>by have:=x.h i hi;omega⟩
instance Q1(x:El):FnC 190 #[.agg (rowEl x)] (.agg (rowEl x.carried)):=⟨iR _ fun i hi=>by have:=x.h i hi;omega⟩
theorem CO(x y:El):FnC 190 #[.agg (aq 16 (wZ x y))] (.agg (aq 16 (qC x y))):=⟨iR _ fun i hi=>by have:=Bv x y i hi;omega⟩
theorem zW(x y:El):FnC 190 #[.agg (aq 16 (qC x y))] (.agg (rowEl (x.mul y))):=⟨iR _ fun i hi=>by
 rcases X4 i with e|e
 ·subst e;have:=xa x y;omega
 ·have:=xb x y i e;omega⟩
theorem pu(x y:El)(w:ϑ):Rt 130 #[.agg (rowEl x),.agg (rowEl y)] w (.agg (rowEl (x.mul y))):=by
 have I:=Loc.nil w;haveI f1:=CO x y;haveI f2:=zW x y;obtain⟨Tzq,hT⟩:∃Tzq,Tzq=tM x.f y.f 16 0:=⟨_,rfl⟩;have HO:=Hd (show wZ x y=oF Tzq from by rw[hT];rfl);have HTB:=Hd (show ∀j,-274877906944≤Tzq j∧Tzq j≤274877906944 from fun j=>by rw[hT];exact u4 x.h y.h 16 0 Ω Ω (.inr rfl) j);have HT:=Hd hT;clear hT;have HZ:=Hd (show aq 31 (fun _=>0)=aq 31 (tM x.f y.f 0 0)from by rw[uX]);have HX:=Hd x.h;have HY:=Hd y.h;have HLIM:=Hd (u4 x.h y.h);have HX':=Hd (show rowEl x=aq 16 x.f from rfl);have HY':=Hd (show rowEl y=aq 16 y.f from rfl);rw[HX'.out,HY'.out];generalize qC x y=mc,wZ x y=mo at *
 go_enter func130,ntmps130;go_wp2_with (first|refine gBp 2 fun b2 J I=>?_|refine gBp 3 fun b3 J I=>?_|refine gBp 4 fun b4 J I=>?_|refine gBp 5 fun b5 J I=>?_|refine aQq fun _ J I=>?_);rw[HZ.out]at I;go_loopw [6] (fun kk wr=>∃i:Nat,i≤16∧kk= .int .i64 i∧Loc w wr [(b5,aq 31 (tM x.f y.f i 0),265),(b4,aq 16 fun _=>0,147),(b3,aq 16 y.f,147),(b2,aq 16 x.f,147)]) (fun kk _=>16-(intOf kk).toNat);case atStart=>exact⟨0,Ω,rfl,I⟩
 case round =>
  clear I;obtain⟨i,hi,rfl,I⟩:=hrel;by_cases hlt:i<16
  ·have hi0:(0:Int)≤(i:Int):=Ω
   have hi1:(i:Int)<16:=Ω;go_wp2_with (refine aQq fun _ J I=>?_);go_loopw [7] (fun kk wr=>∃k:Nat,k≤16∧kk= .int .i64 k∧Loc w wr [(b5,aq 31 (tM x.f y.f i k),265),(b4,aq 16 fun _=>0,147),(b3,aq 16 y.f,147),(b2,aq 16 x.f,147)]) (fun kk _=>16-(intOf kk).toNat);case atStart=>exact⟨0,Ω,rfl,I⟩
   case round =>
    clear I;obtain⟨k,hk,rfl,I⟩:=hrel;by_cases hkl:k<16
    ·have hk0:(0:Int)≤(k:Int):=Ω
     have hk1:(k:Int)<16:=Ω;have ht:=HLIM.out i k hi Ω (.inl hlt) (i+k);have hm:=Fc (HX.out i hlt) (HY.out k hkl);haveI g1:Cell (aq 31 (tM x.f y.f i k)) (i+k) (.int .i64 (tM x.f y.f i k (i+k))):=bX _ Ω;haveI g2:Cell (aq 16 x.f) i (.int .i64 (x.f i)):=bX _ hlt;haveI g3:Cell (aq 16 y.f) k (.int .i64 (y.f k)):=bX _ hkl;haveI g4:Put (aq 31 (tM x.f y.f i k)) (i+k) (.int .i64 (tM x.f y.f i k (i+k)+x.f i*y.f k)) (aq 31 (tM x.f y.f i (k+1))):=ec Ω fun j hj=>by
      rw[uY];simp only;by_cases e:j=i+k
      ·subst e;simp only[ZV]
      ·rw[Χ e,Χ e]
     generalize tM x.f y.f i k=s at *
     have hik:(i:Int)+(k:Int)=((i+k:Nat):Int):=Ω;have hk31:((i+k:Nat):Int)<31:=Ω;have hk30:(0:Int)≤((i+k:Nat):Int):=Ω;have wk:IntKind.i64.wrap ((i+k:Nat):Int)=((i+k:Nat):Int):=W3 _ Ω;generalize i+k=q at *
     generalize s q=t,x.f=xf,y.f=yf at *
     generalize hp:xf i*yf k=p at *
     have wp:IntKind.i64.wrap p=p:=W3 _ Ω;have wt:IntKind.i64.wrap (t+p)=t+p:=W3 _ Ω;generalize xf i=u,yf k=v at *
     clear HO HTB HT HZ HX HY HLIM HX' HY';go_wp2_with fail;refine wf [(0,true),(1,true),(2,true),(3,true),(4,true),(5,true),(6,true),(7,false),(8,true),(9,true),(10,false),(11,true),(12,true),(13,false),(14,true),(15,true),(16,true)] [] [17] I ?_;refine fA ?_;refine fB fun J I=>?_;go_wp2_with (refine aQq fun _ J I=>?_);go_roundw;case rel=>exact⟨k+1,Ω,by go_num,I⟩
     case measure=>exact ϝ
    ·obtain rfl:k=16:=Ω
     rw[← zN]at I;go_wp2_with (refine aQq fun _ J I=>?_);go_roundw;case rel=>exact⟨i+1,Ω,by go_num,I⟩
     case measure=>exact ϝ
  ·obtain rfl:i=16:=Ω
   rw[← HT.out]at I;have HOE:=Hd (show ∀j,(fun k j=>if j<k then oF Tzq j else 0) 16 j=(fun k j=>if j<k then oF Tzq j else 0) 16 j from fun _=>rfl);obtain⟨Dzq,hD⟩:∃Dzq:Nat→Nat→Int,Dzq=fun k i=>if i<k then oF Tzq i else 0:=⟨_,rfl⟩;have HD:=Hd hD;have HZ2:=Hd (show aq 16 (fun _=>0)=aq 16 (Dzq 0)from bL fun i _=>by rw[hD];simp);have HE:=Hd (show aq 16 (Dzq 16)=aq 16 mo from bL fun i hi=>by rw[hD,HO.out];simp only;rw[Ρ hi]);clear hD HZ HX HY HLIM HX' HY' HOE;generalize x.f=xf,y.f=yf at *
   go_wp2_with (first|refine gBp 8 fun b8 J I=>?_|refine aQq fun _ J I=>?_);go_loopw [9] (fun kk wr=>∃k:Nat,k≤16∧kk= .int .i64 k∧Loc w wr [(b8,aq 16 (Dzq k),147),(b5,aq 31 Tzq,265),(b4,aq 16 fun _=>0,147),(b3,aq 16 yf,147),(b2,aq 16 xf,147)]) (fun kk _=>16-(intOf kk).toNat);case atStart=>exact⟨0,Ω,rfl,by rw[← HZ2.out];exact I⟩
   case round =>
    clear I hlt hi;obtain⟨k,hk,rfl,I⟩:=hrel;by_cases hkl:k<16
    ·have hk0:(0:Int)≤(k:Int):=Ω
     have hk1:(k:Int)<16:=Ω;have h1:=HTB.out k;have h2:=HTB.out (k+16);obtain⟨mid,hmid⟩:∃mid:Nat→Int,mid=fun i=>if i=k then Tzq k else Dzq k i:=⟨_,rfl⟩;haveI g1:Cell (aq 31 Tzq) k (.int .i64 (Tzq k)):=bX _ Ω;haveI g2:Put (aq 16 (Dzq k)) k (.int .i64 (Tzq k)) (aq 16 mid):=ec hkl fun i hi=>by rw[hmid]
     by_cases h15:k<15
     ·haveI g3:Cell (aq 31 Tzq) (k+16) (.int .i64 (Tzq (k+16))):=bX _ Ω
      haveI g4:Cell (aq 16 mid) k (.int .i64 (Tzq k)):=by
       have:mid k=Tzq k:=by rw[hmid];simp
       rw[← this];exact bX _ hkl
      haveI g5:Put (aq 16 mid) k (.int .i64 (Tzq k+38*Tzq (k+16))) (aq 16 (Dzq (k+1))):=ec hkl fun i hi=>by
       rw[hmid,HD.out];simp only;by_cases e:i=k
       ·subst e;rw[Ρ rfl,Ρ Ω];unfold oF;rw[Ρ h15]
       ·rw[Χ e,Χ e]
        by_cases h:i<k
        ·rw[Ρ h,Ρ Ω]
        ·rw[Χ h,Χ Ω]
      clear hmid;have J:IntKind.i64.wrap (38*Tzq (k+16))=38*Tzq (k+16):=W3 _ Ω;have w2:IntKind.i64.wrap (Tzq k+38*Tzq (k+16))=Tzq k+38*Tzq (k+16):=W3 _ Ω;have h15':(k:Int)<15:=Ω;have wk:(k:Int)+16=((k+16:Nat):Int):=Ω;have hq1:((k+16:Nat):Int)<31:=Ω;have hq0:(0:Int)≤((k+16:Nat):Int):=Ω;have ww:IntKind.i64.wrap ((k+16:Nat):Int)=((k+16:Nat):Int):=W3 _ Ω;generalize k+16=q at *
      generalize Tzq q=u,Tzq k=v,Dzq k=s at *
      clear HO HTB HT HZ2 HE HD;go_wp2_with (refine aQq fun _ J I=>?_);refine wf [(0,true),(1,true),(2,true),(3,false),(4,true),(5,true),(6,true),(7,false),(8,true),(9,true),(10,true)] [] [11] I ?_;refine fA ?_;refine fB fun J I=>?_;go_wp2_with (refine aQq fun _ J I=>?_);go_roundw;case rel=>exact⟨k+1,Ω,by go_num,I⟩
      case measure=>exact ϝ
     ·obtain rfl:k=15:=Ω
      have HM:=Hd (show aq 16 mid=aq 16 (Dzq 16)from bL fun i hi=>by
       rw[hmid,HD.out];simp only;by_cases e:i=15
       ·subst e;rw[Ρ rfl,Ρ Ω];unfold oF;rw[Χ Ω]
       ·rw[Χ e,Ρ Ω,Ρ Ω])
      clear hmid;generalize Tzq 15=v,Dzq 15=s at *
      go_wp2_with (refine aQq fun _ J I=>?_);go_roundw;case rel=>exact⟨16,Ω,by go_num,by rw[← HM.out];exact I⟩
      case measure=>simp[intOf]
    ·obtain rfl:k=16:=Ω
     rw[HE.out]at I;go_wp2_with (refine aQq fun _ J I=>?_);exact Λ
instance Q2:Ent 130:=eo func130
instance Q3(x y:El):FnC 130 #[.agg (rowEl x),.agg (rowEl y)] (.agg (rowEl (x.mul y))):=⟨pu x y⟩
theorem Iz(n:Nat)(h:n<65536):Put (aq 16 fun _=>0) 0 (.int .i64 (n:Int)) (rowEl (El.of n)):=ec Ω fun i hi=>by
 show _=(dg n i:Int);unfold dg;by_cases e:i=0
 ·subst e;rw[Ρ rfl,XO,Yh,Yj,Xd h]
 ·rw[Χ e,Xp (Xl h (ZD (show 65536≤2^16 by omega) (Xx Ω Ω)))]
  rfl
theorem IA(w:ϑ):Rt 132 #[.int .i64 1] w (.agg (rowEl El.one)):=by
 have I:=Loc.nil w;haveI g1:Put (aq 16 fun _=>0) 0 (.int .i64 1) (rowEl El.one):=Iz 1 Ω;go_enter func132,ntmps132;go_wp2_with (refine aQq fun _ J I=>?_);exact Λ
instance Q4:Ent 132:=eo func132
instance Q5:FnC 132 #[.int .i64 1] (.agg (rowEl El.one)):=⟨IA⟩
end R3
namespace R3
theorem va(x:El):rowEl x.carried.carried.carried.carried=aq 16 (fun i=>(dg (u5 x) i:Int)):=bL fun i hi=>Iv x i hi
theorem IB:∀i:Fin 16,0<i.val→i.val<15→dg P i.val=65535:=Ϛ
theorem MG:dg P 0=65517:=Ϛ
theorem KB:dg P 15=32767:=Ϛ
theorem Fn(n:Nat):cD n 0=(dg n 0:Int)-65517:=by
 unfold cD;rw[MG];show _-_-(0:Int)=_;omega
theorem IC(n:Nat){i:Nat}(h0:0<i)(h:i<15):cD n i=(dg n i:Int)-65535-bits .and .i64 (cD n (i-1)/65536) 1:=by
 obtain⟨k,rfl⟩:∃k,i=k+1:=⟨i-1,Ω⟩;rw[show k+1-1=k from rfl,mM,kI];have:=IB ⟨k+1,Ω⟩ Ϡ (by simpa using h);simp only at this;unfold cD;rw[this];rfl
theorem Fo(n:Nat):cD n 15=(dg n 15:Int)-32767-bits .and .i64 (cD n 14/65536) 1:=by
 rw[mM,kI];unfold cD;rw[KB];rfl
def me(n k i:Nat):Int:=if i=k then cD n k else stM n k i
theorem kh(n:Nat){k:Nat}(h:0<k):stM n k (k-1)=cD n (k-1):=by
 unfold stM;rw[Χ Ω,Ρ Ω]
theorem Bz(n:Nat){k:Nat}(h:k<16)(x:Int)(e:cD n k=x):Put (aq 16 (stM n k)) k (.int .i64 x) (aq 16 (me n k)):=ec h fun i hi=>by
 unfold me;rw[e]
theorem BA(n:Nat){k:Nat}(h0:0<k)(h:k<16):Put (aq 16 (me n k)) (k-1) (.int .i64 (bits .and .i64 (cD n (k-1)) 65535)) (aq 16 (stM n (k+1))):=ec Ω fun i hi=>by
 rw[CM];unfold me stM;by_cases e:i=k-1
 ·subst e
  rw[Ρ rfl,Ρ Ω]
 ·rw[Χ e]
  by_cases e2:i=k
  ·subst e2;rw[Ρ rfl,Χ Ω,Ρ rfl]
  ·rw[Χ e2]
   by_cases h3:i+1<k
   ·rw[Ρ h3,Ρ Ω]
   ·rw[Χ h3,Χ Ω,Χ Ω,Χ Ω]
theorem KC(n:Nat)(h:n<2^256)(hp:P≤n):aq 16 (stM n 16)=aq 16 (fun i=>(dg (k7 n) i:Int)):=bL fun i hi=>by
 have h0:=(mO h).2 hp;have h1:=Ky h hp i hi;rw[Fg hp,← h1];unfold stM;by_cases e:i+1<16
 ·rw[Ρ e]
 ·rw[Χ e,Ρ Ω]
  obtain rfl:i=15:=Ω;have:=mN n 15;omega
def byK(n k:Nat):Nat→Γ:=fun i=>if i<2*k then ah n i else 0
def Fp(n k:Nat):Nat→Γ:=fun i=>if i<2*k+1 then ah n i else 0
theorem KD(n k:Nat)(h:k<16):Put (aa 32 (byK n k)) (2*k) (.int .u8 (B8 (ah n (2*k)))) (aa 32 (Fp n k)):=bm Ω (am fun i _=>by
 unfold upd byK Fp;by_cases e:i=2*k
 ·subst e;rw[Ρ rfl,Ρ Ω]
 ·rw[Χ e]
  show Value.int .u8 (B8 (if i<2*k then ah n i else 0))=_;by_cases h:i<2*k
  ·rw[Ρ h,Ρ Ω]
  ·rw[Χ h,Χ Ω])
theorem KE(n k:Nat)(h:k<16):Put (aa 32 (Fp n k)) (2*k+1) (.int .u8 (B8 (ah n (2*k+1)))) (aa 32 (byK n (k+1))):=bm Ω (am fun i _=>by
 unfold upd byK Fp;by_cases e:i=2*k+1
 ·subst e;rw[Ρ rfl,Ρ Ω]
 ·rw[Χ e]
  show Value.int .u8 (B8 (if i<2*k+1 then ah n i else 0))=_;by_cases h:i<2*k+1
  ·rw[Ρ h,Ρ Ω]
  ·rw[Χ h,Χ Ω])
theorem ID(x:El)(w:ϑ):Rt 129 #[.agg (rowEl x)] w (.agg (aa 32 (ah x.v.val))):=by
 have I:=Loc.nil w;have HC:=Hd (va x);have HFIN:=Hd (show k7 (k7 (k7 (u5 x)))=x.v.val from by rw[zT (Bw x),Fe]);have hN0:=Bw x;generalize u5 x=N0 at *
 obtain⟨N,hN,hNs,hNe⟩:∃N:Nat→Nat,N 0=N0∧(∀k,N (k+1)=k7 (N k))∧N 3=x.v.val:=⟨fun k=>Nat.rec N0 (fun _ n=>k7 n) k,rfl,fun _=>rfl,HFIN.out⟩;have hNlt:∀k,N k<2^256:=fun k=>by
  induction k with
  | zero=>rw[hN];exact hN0
  | succ k ih=>rw[hNs];exact Iw ih
 rw[← hN]at HC;rw[← hNe];have HN:=Hd hNs;have HLT:=Hd hNlt;clear hN hNs hNe hNlt hN0 HFIN;go_enter func129,ntmps129;go_wp2_with (first|refine gBp 1 fun b1 J I=>?_|refine gBp 2 fun b2 J I=>?_|refine aQq fun _ J I=>?_);rw[HC.out]at I;clear HC;go_loopw [3] (fun kk wr=>∃k:Nat,k≤3∧kk= .int .i64 k∧Loc w wr [(b2,aa 32 fun _=>0,24),(b1,aq 16 (fun i=>(dg (N k) i:Int)),147)]) (fun kk _=>3-(intOf kk).toNat);case atStart=>exact⟨0,Ω,rfl,I⟩
 case round =>
  clear I;obtain⟨k,hk,rfl,I⟩:=hrel;by_cases hlt:k<3
  ·have hk0:(0:Int)≤(k:Int):=Ω
   have hk1:(k:Int)<3:=Ω;have hn:=HLT.out k;have HNk:=Hd (HN.out k);generalize N k=n at *
   have d0:=qD n 0;have d15:=qD n 15;haveI g1:Cell (aq 16 (fun i=>(dg n i:Int))) 0 (.int .i64 (dg n 0:Nat)):=bX _ Ω;haveI g2:Put (aq 16 fun _=>0) 0 (.int .i64 ((dg n 0:Nat)-65517)) (aq 16 (stM n 1)):=ec Ω fun i hi=>by
    unfold stM;by_cases e:i=0
    ·subst e;rw[Ρ rfl,Χ Ω,Ρ rfl,Fn]
    ·rw[Χ e,Χ Ω,Χ Ω]
   haveI g3:Cell (aq 16 (fun i=>(dg n i:Int))) 15 (.int .i64 (dg n 15:Nat)):=bX _ Ω;haveI g4:Cell (aq 16 (stM n 15)) 14 (.int .i64 (cD n 14)):=by
    rw[← kh n (k:=15) Ω];exact bX _ Ω
   haveI g5:Put (aq 16 (stM n 15)) 15 (.int .i64 ((dg n 15:Nat)-32767-bits .and .i64 (cD n 14/65536) 1)) (aq 16 (me n 15)):=Bz n Ω _ (Fo n);haveI g6:Put (aq 16 (me n 15)) 14 (.int .i64 (bits .and .i64 (cD n 14) 65535)) (aq 16 (stM n 16)):=BA n (k:=15) Ω Ω;haveI g7:Cell (aq 16 (stM n 16)) 15 (.int .i64 (cD n 15)):=by
    rw[← kh n (k:=16) Ω];exact bX _ Ω
   haveI g8:Cell (aq 16 (me n 15)) 14 (.int .i64 (cD n 14)):=by
    have:me n 15 14=cD n 14:=by unfold me;rw[Χ Ω,kh n (k:=15) Ω]
    rw[← this];exact bX _ Ω
   have hb:=kI n 14;have hb':=Bx n 15;have ha:=mM (cD n 14/65536);have D:IntKind.i64.wrap ((dg n 0:Nat)-65517)=(dg n 0:Nat)-65517:=W3 _ Ω;have J:IntKind.i64.wrap ((dg n 15:Nat)-32767)=(dg n 15:Nat)-32767:=W3 _ Ω;have w2:IntKind.i64.wrap ((dg n 15:Nat)-32767-bits .and .i64 (cD n 14/65536) 1)=(dg n 15:Nat)-32767-bits .and .i64 (cD n 14/65536) 1:=W3 _ Ω;clear hb hb' ha;go_wp2_with (first|refine gBp 4 fun b4 J I=>?_|refine aQq fun _ J I=>?_);go_loopw [5] (fun kk wr=>∃i:Nat,1≤i∧i≤15∧kk= .int .i64 i∧Loc w wr [(b4,aq 16 (stM n i),147),(b2,aa 32 fun _=>0,24),(b1,aq 16 (fun i=>(dg n i:Int)),147)]) (fun kk _=>15-(intOf kk).toNat);case atStart=>exact⟨1,Ω,Ω,rfl,I⟩
   case round =>
    clear I;obtain⟨i,hi1,hi,rfl,I⟩:=hrel;by_cases hil:i<15
    ·have hi0:(1:Int)≤(i:Int):=Ω
     have hi2:(i:Int)<15:=Ω;have i00:(0:Int)≤(i:Int):=Ω;have i16:(i:Int)<16:=Ω;haveI g1:Cell (aq 16 (fun i=>(dg n i:Int))) i (.int .i64 (dg n i:Nat)):=bX (fun i=>(dg n i:Int)) Ω;haveI g2:Cell (aq 16 (stM n i)) (i-1) (.int .i64 (cD n (i-1))):=by
      rw[← kh n (k:=i) Ω];exact bX _ Ω
     haveI g3:Put (aq 16 (stM n i)) i (.int .i64 ((dg n i:Nat)-65535-bits .and .i64 (cD n (i-1)/65536) 1)) (aq 16 (me n i)):=Bz n Ω _ (IC n Ω hil);haveI g4:Put (aq 16 (me n i)) (i-1) (.int .i64 (bits .and .i64 (cD n (i-1)) 65535)) (aq 16 (stM n (i+1))):=BA n Ω Ω;haveI g5:Cell (aq 16 (me n i)) (i-1) (.int .i64 (cD n (i-1))):=by
      have:me n i (i-1)=cD n (i-1):=by unfold me;rw[Χ Ω,kh n Ω]
      rw[← this];exact bX _ Ω
     have hd:=qD n i;have ha:=mM (cD n (i-1)/65536);have J:IntKind.i64.wrap ((dg n i:Nat)-65535)=(dg n i:Nat)-65535:=W3 _ Ω;have w2:IntKind.i64.wrap ((dg n i:Nat)-65535-bits .and .i64 (cD n (i-1)/65536) 1)=(dg n i:Nat)-65535-bits .and .i64 (cD n (i-1)/65536) 1:=W3 _ Ω;have wi:IntKind.i64.wrap ((i-1:Nat):Int)=((i-1:Nat):Int):=by rw[XV];omega
     have q0:(0:Int)≤((i-1:Nat):Int):=Ω;have q1:((i-1:Nat):Int)<16:=Ω;have e1:(i:Int)-1=((i-1:Nat):Int):=Ω;clear ha hd;generalize i-1=j at *
     generalize cD n j=r,me n i=m,stM n i=s,dg n i=d at *
     go_wp2_with fail;refine wf [(0,true),(1,true),(2,true),(3,false),(4,true),(5,true),(6,true),(7,true),(8,false),(9,true),(10,true),(11,true),(12,true)] [] [13] I ?_;refine fA ?_;refine fB fun J I=>?_;go_wp2_with (refine aQq fun _ J I=>?_);go_roundw;case rel=>exact⟨i+1,Ω,Ω,by go_num,I⟩
     case measure=>exact ϝ
    ·obtain rfl:i=15:=Ω
     by_cases hp:P≤n
     ·have hs:0≤cD n 15:=(mO hn).2 hp
      have HS:=Hd (KC n hn hp);rw[← HNk.out]at HS;generalize cD n 15=r at *
      go_wp2_with (refine aQq fun _ J I=>?_);go_roundw;case rel=>exact⟨k+1,Ω,by go_num,by rw[HS.out]at I;exact I.pop⟩
      case measure=>exact ϝ
     ·have hs:¬0≤cD n 15:=fun h=>hp ((mO hn).1 h)
      have HS:=Hd (show N (k+1)=n from by rw[HNk.out,Fh hp]);generalize cD n 15=r at *
      go_wp2_with (refine aQq fun _ J I=>?_);go_roundw;case rel=>exact⟨k+1,Ω,by go_num,by rw[HS.out];exact I.pop⟩
      case measure=>exact ϝ
  ·obtain rfl:k=3:=Ω
   clear HN HLT hlt hk;have HB0:=Hd (show(aa 32 fun _=>0)=aa 32 (byK (N 3) 0)from am fun i _=>by unfold byK;rw[Χ Ω]);have HB16:=Hd (show aa 32 (byK (N 3) 16)=aa 32 (ah (N 3))from am fun i hi=>by unfold byK;rw[Ρ Ω]);go_wp2_with (first|refine gBp 6 fun b6 J I=>?_|refine aQq fun _ J I=>?_);go_loopw [7] (fun kk wr=>∃k:Nat,k≤16∧kk= .int .i64 k∧Loc w wr [(b6,aa 32 (byK (N 3) k),24),(b2,aa 32 fun _=>0,24),(b1,aq 16 (fun i=>(dg (N 3) i:Int)),147)]) (fun kk _=>16-(intOf kk).toNat);case atStart=>exact⟨0,Ω,rfl,by rw[← HB0.out];exact I⟩
   case round =>
    clear I;obtain⟨k,hk,rfl,I⟩:=hrel;by_cases hlt:k<16
    ·have hk0:(0:Int)≤(k:Int):=Ω
     have hk1:(k:Int)<16:=Ω;have hd:=qD (N 3) k;have v0:=CN (N 3) k;have v1:=Fi (N 3) k;have a0:=and_255 (dg (N 3) k:Nat);have a1:=and_255 ((dg (N 3) k:Nat)/256:Int);have p0:=KD (N 3) k hlt;have p1:=KE (N 3) k hlt;rw[← v0,← a0]at p0;rw[← v1,← a1]at p1;haveI p0:=p0;haveI p1:=p1;haveI g1:Cell (aq 16 (fun i=>(dg (N 3) i:Int))) k (.int .i64 (dg (N 3) k:Nat)):=bX (fun i=>(dg (N 3) i:Int)) hlt;have D:IntKind.u8.wrap (bits .and .i64 (dg (N 3) k:Nat) 255)=bits .and .i64 (dg (N 3) k:Nat) 255:=by rw[a0,X7];omega
     have J:IntKind.u8.wrap (bits .and .i64 ((dg (N 3) k:Nat)/256:Int) 255)=bits .and .i64 ((dg (N 3) k:Nat)/256:Int) 255:=by rw[a1,X7];omega
     have e1:2*(k:Int)=((2*k:Nat):Int):=Ω;have e2:((2*k:Nat):Int)+1=((2*k+1:Nat):Int):=Ω;have q1:((2*k+1:Nat):Int)<32:=Ω;have q0:(0:Int)≤((2*k+1:Nat):Int):=Ω;have r1:((2*k:Nat):Int)<32:=Ω;have r0:(0:Int)≤((2*k:Nat):Int):=Ω;have wk:IntKind.i64.wrap ((2*k:Nat):Int)=((2*k:Nat):Int):=W3 _ Ω;have wl:IntKind.i64.wrap ((2*k+1:Nat):Int)=((2*k+1:Nat):Int):=W3 _ Ω;clear v0 v1 a0 a1 hd HB0 HB16;generalize Fp (N 3) k=m,byK (N 3) k=s,2*k+1=q at *
     generalize 2*k=p,dg (N 3) k=d at *
     go_wp2_with (refine aQq fun _ J I=>?_);go_roundw;case rel=>exact⟨k+1,Ω,by go_num,I⟩
     case measure=>exact ϝ
    ·obtain rfl:k=16:=Ω
     rw[HB16.out]at I;go_wp2_with (refine aQq fun _ J I=>?_);exact Λ
instance Q6:Ent 129:=eo func129
instance Q7(x:El):FnC 129 #[.agg (rowEl x)] (.agg (aa 32 (ah x.v.val))):=⟨ID x⟩
end R3
def xe(n:Nat):Ψ:=row 8 (lv n)
theorem IE{x a b:Nat}(hx:x<2^a)(h:a≤b):x<2^b:=Xl hx (Xx Ξ h)
theorem Fq:(prog.info? 227).map (fun i=>(i.zero,i.size,i.bytes))=some (some (.int .u64 0),1,8):=Θ
theorem CP:madeCells #[Value.int .u64 0] 8=xe 0:=Θ
theorem KF(w:ϑ):(Instr.makeSlice 354 (.int .i64 8) (.int .i64 8)).run prog w= .ok (.slice (some ⟨w.heap.size,0,none⟩) 8 8) (w.alloc (.cells (xe 0) 227)):=by
 rw[← CP];exact run_make_row' 354 227 _ 8 underlying354 Fq rfl .i64 .i64 8 Ω Ω w
theorem Fr(f:Φ)(k n:Nat):row n (upd (lv (leK f k)) (k/8) (.int .u64 (lw (leK f (k+1)) (k/8):Nat)))=row n (lv (leK f (k+1))):=am fun p hp=>by
 unfold upd;by_cases e:p=k/8
 ·subst e;rw[Ρ rfl];rfl
 ·rw[Χ e]
  have:lw (leK f k) p=lw (leK f (k+1)) p:=by
   rcases XI p (k/8)with h|h
   ·obtain⟨d,hd⟩:∃d,k/8=p+1+d:=⟨k/8-(p+1),Ω⟩
    unfold lw;rw[qc,hd,YD,Xk,Yu,Xk,XK,XK,ji _ _ _ (Xg _)];exact(XD _ _ _).symm
   ·have h1:leK f k<2^(64*p):=Xl (dt f k) (Xx Ω Ω)
    have h2:leK f (k+1)<2^(64*p):=Xl (dt f (k+1)) (Xx Ω Ω);unfold lw;rw[Xp h1,Xp h2]
  unfold lv;rw[this]
theorem JJ(n:Nat):∀k,uv (lw n) k=n%2^(64*k)
 | 0=>by rw[XO,Yh,YH];rfl
 | k+1=>by
  show uv (lw n) k+lw n k*2^(64*k)=_;rw[JJ n k,Yu,Xk,YV];unfold lw;rw[XU (2^(64*k)) (n/2^(64*k)%2^64)]
theorem MH{ops:Array Oper}{rest:List Oper}{o:Oper}{a:Act}{D w:ϑ}{M:Mem}{Q:Exit→Act→ϑ→Prop}(I:Loc D w M)(hg:o.guard=none)(ho:o.op= .makeSlice 354 (.const (.int .i64 8)) (.const (.int .i64 8)))(h:∀b Z,Loc D Z ((b,xe 0,227)::M)→wpList prog ops Q rest (a.put o.dst (.slice (ϐ b) 8 8)) Z):wpList prog ops Q (o::rest) a w :=
 Xt hg fun _ T=>by
  unfold Oper.wp execOp;simp only[ho,BigFrame.eval_const,Sem.run_bind,KF,Result.andThen_ok,Sem.run_pure];exact T _ _ (h _ _ (I.alloc _ _))
theorem zX(f:Φ)(n c B:Nat)(w:ϑ)(hn:n≤64)(hcap:n≤c)(hw:∀i,i<n→Was w B i (.int .u8 (B8 (f i)))) :
 Rt 281 #[.slice (ϐ B) n c] w (.agg (aa 32 (ah (leK f n%Qo)))):=by
 have I:=Loc.nil w;have HW:=Hd hw;have hn1:(n:Int)≤64:=Ω;have hn2:(n:Int)≤(c:Int):=Ω;have hm:min (n:Int) 64=(n:Int):=Ω;have hn0:(0:Int)≤(n:Int):=Ω;clear hw;go_enter func281,ntmps281;go_wp2_with (first|refine gBp 2 fun b2 J I=>?_|(refine gN 6 ?_;refine MH I rfl rfl fun b6 J I=>?_)|refine aQq fun _ J I=>?_);go_loopw [13] (fun kk wr=>∃k:Nat,k≤n∧kk= .int .i64 k∧Loc w wr [(b6,xe (leK f k),227),(b2,aa 32 fun _=>0,24)]) (fun kk _=>n-(intOf kk).toNat);case atStart=>exact⟨0,Ω,rfl,I⟩
 case round =>
  clear I;obtain⟨k,hk,rfl,I⟩:=hrel;by_cases hlt:k<n
  ·have hk0:(0:Int)≤(k:Int):=Ω
   have hk1:(k:Int)<(n:Int):=Ω;haveI g0:Was w B k (.int .u8 (B8 (f k))):=HW.out k hlt;haveI g1:Cell (xe (leK f k)) (k/8) (.int .u64 (lw (leK f k) (k/8):Nat)):=aO _ Ω;have gl:=Fr f k 8;have hv:=Bh f k;rw[← hv]at gl;haveI g2:Put (xe (leK f k)) (k/8) (.int .u64 (bits .or .u64 (lw (leK f k) (k/8):Int) (IntKind.u64.wrap (B8 (f k)*2^(8*(k%8)))))) (xe (leK f (k+1))):=bm Ω gl;clear gl hv;have e1:(k:Int)/8=((k/8:Nat):Int):=Ω;have e2:(k:Int)%8=((k%8:Nat):Int):=Ω;have hq1:((k/8:Nat):Int)<8:=Ω;have hq2:k/8<8:=Ω;have hr1:((k%8:Nat):Int)<8:=Ω;have wb:IntKind.u64.wrap (B8 (f k))=B8 (f k):=by have:=bP (f k);rw[XM];omega
   have hm:min (8*(k%8)) 64=8*(k%8):=Ω;generalize k/8=q,k%8=r at *
   have wq:IntKind.i64.wrap (q:Int)=(q:Int):=W3 _ Ω;have wr':IntKind.i64.wrap (r:Int)=(r:Int):=W3 _ Ω;have ws:IntKind.i64.wrap (8*(r:Int))=((8*r:Nat):Int):=W3 _ Ω;have e3:(k:Int).tdiv 8=(q:Int):=by rw[X6 Ω];omega
   have e4:(k:Int).tmod 8=(r:Int):=by rw[XF Ω];omega
   have hq0:(0:Int)≤(q:Int):=Ω;have hs0:(0:Int)≤((8*r:Nat):Int):=Ω;generalize 8*r=s at *
   go_wp2_with (first|((refine ϗ (.load 5 _) ?_);refine lW I rfl rfl rfl fun J I=>?_)|refine aQq fun _ J I=>?_);refine wf [(0,true),(1,true),(2,true),(3,true),(4,false),(5,true),(6,true),(7,true),(8,true),(9,true),(10,true),(11,true),(12,true)] [] [13] I ?_;refine fA ?_;refine fB fun J I=>?_;go_wp2_with fail;go_roundw;case rel=>exact⟨k+1,Ω,by go_num,I⟩
   case measure=>exact ϝ
  ·obtain rfl:k=n:=Ω
   have hfin:=JJ (leK f k) 8;rw[Xd (IE (dt f k) (show 8*k≤64*8 by omega))]at hfin;have hr:∀J:ϑ,Loc w J [(b6,xe (leK f k),227),(b2,aa 32 fun _=>0,24)]→Rt 305 #[.slice (ϐ b6) 8 8] J (.agg (an (leK f k%Qo))):=fun J h1=>by
    rw[← hfin];refine zB (lw (leK f k)) 8 8 b6 J (fun i=>dC _ _) Ω Ω fun i hi=>⟨?_,h1.lt (.head _)⟩;rw[Ya J b6 i _ _ _ (h1.get (.head _))];exact bG _ hi
   have HR:=Hd hr;clear hr hfin;haveI f9:FnC 284 #[.agg (an (leK f k%Qo))] (.agg (aa 32 (ah (leK f k%Qo)))):=Ϙ;go_wp2_with (first|((go_at_call 305;refine(HR.out _ I).mono ?_;rintro e J⟨rfl,V⟩;replace I:=I.keep V))|refine aQq fun _ J I=>?_);exact Λ
def IF(f:Φ):Δ:=(List.range 32).map f
def vc(n:Nat):Δ:=IF (ah n)
def mQ(m:Δ):Nat:=leK (Shb.sha m) 64%Qo
def bJ(n:Nat):Nat:=n%2^254/8*8+2^254
def oZ(ς:Δ):Nat:=bJ (leN (Shb.sha ς))
def ki(ς:Δ):Δ:=IF fun i=>Shb.sha ς (32+i)
noncomputable def gZ(ς:Δ):Nat:=enc (de (oZ ς) pB)
def Fs(ς m:Δ):Nat:=mQ (ki ς++m)
noncomputable def atN(ς m:Δ):Nat:=enc (de (Fs ς m) pB)
def kj(κ at_:Nat)(m:Δ):Nat:=mQ (vc at_++vc κ++m)
noncomputable def MI(ς m:Δ):Nat:=(Fs ς m+kj (gZ ς) (atN ς m) m*oZ ς%Qo)%Qo
theorem zY:0<Qo:=Ϛ
theorem zZ:Qo<2^256:=Ϛ
theorem mR(m:Δ):mQ m<2^256:=Yo (XJ _ zY) zZ
theorem kK(n:Nat):bJ n<2^256:=by
 unfold bJ;have h1:n%2^254/8*8≤n%2^254:=Nat.div_mul_le_self _ _;have h2:n%2^254<2^254:=XJ _ (Xg _);have h3:(2:Nat)^256=4*2^254:=Ϛ;generalize(2:Nat)^254=Ezq at *
 omega
theorem KG(p:Pt):enc p<2^256:=by
 unfold enc;have h1:=Yo p.y.isLt Bp;have h2:(2:Nat)^256=2*2^255:=Ϛ;have h3:p.x.val%2<2:=XJ _ Ω;have h4:2^255*(p.x.val%2)≤2^255*1:=YE _ Ω;generalize(2:Nat)^255=Ezq at *
 omega
noncomputable def dA(κ at_ s:Nat)(m:Δ):Bool :=
 match bK at_,bK κ with
 | some r,some a=>decide (s<Qo)&&decide (cd (cE exB s)=cd (dm r (cE a (kj κ at_ m))))
 | _,_=>false
theorem xg{p:Pt}(hp:On p){n:Nat}(hn:n<2^256):cd (cE (oX p) n)=enc (de n p):=Cz (tz hp (EA p) hn)
theorem BB(κ at_:Nat)(m:Δ):kj κ at_ m<2^256:=mR _
namespace R3
def ffs(k:Nat):Nat→Γ:=fun i=>if i<k then 255 else 0
theorem xh(k:Nat)(h:k<32):Put (aa 32 (ffs k)) k (.int .u8 255) (aa 32 (ffs (k+1))):=bm h (am fun i _=>by
 unfold upd ffs;by_cases e:i=k
 ·subst e;rw[Ρ rfl,Ρ Ω];rfl
 ·rw[Χ e]
  show Value.int .u8 (B8 (if i<k then 255 else 0))=_;by_cases h:i<k
  ·rw[Ρ h,Ρ Ω]
  ·rw[Χ h,Χ Ω])
def ff1:Nat→Γ:=fun i=>if i=31 then 127 else 255
theorem IG:Put (aa 32 (ffs 32)) 31 (.int .u8 127) (aa 32 ff1):=bm Ω (am fun i hi=>by
 unfold upd ffs ff1;by_cases e:i=31
 ·subst e;rfl
 ·rw[Χ e]
  show Value.int .u8 (B8 (if i<32 then 255 else 0))=_;rw[Ρ hi,Χ e])
theorem IH:Put (aa 32 ff1) 0 (.int .u8 235) (aa 32 (ah (P-2))):=bm Ω Θ
theorem Ft(w:ϑ):Rt 189 #[.int .i64 21] w (.agg (aa 32 (ah (P-2)))):=by
 have I:=Loc.nil w;haveI p1:=IG;haveI p2:=IH;have HZ:=Hd (show(aa 32 fun _=>0)=aa 32 (ffs 0)from am fun i _=>by unfold ffs;rw[Χ Ω]);have HS:=Hd xh;generalize ah (P-2)=out,ff1=f1,ffs=ff at *
 go_enter func189,ntmps189;go_wp2_with (first|refine gBp 2 fun b2 J I=>?_|refine gBp 3 fun b3 J I=>?_|refine aQq fun _ J I=>?_);go_loopw [4] (fun kk wr=>∃k:Nat,k≤32∧kk= .int .i64 k∧Loc w wr [(b3,aa 32 (ff k),24),(b2,aa 32 fun _=>0,24)]) (fun kk _=>32-(intOf kk).toNat);case atStart=>exact⟨0,Ω,rfl,by rw[← HZ.out];exact I⟩
 case round =>
  clear I;obtain⟨k,hk,rfl,I⟩:=hrel;by_cases hlt:k<32
  ·have hk0:(0:Int)≤(k:Int):=Ω
   have hk1:(k:Int)<32:=Ω;haveI g1:Put (aa 32 (ff k)) k (.int .u8 255) (aa 32 (ff (k+1))):=HS.out k hlt;go_wp2_with (refine aQq fun _ J I=>?_);go_roundw;case rel=>exact⟨k+1,Ω,by go_num,I⟩
   case measure=>exact ϝ
  ·obtain rfl:k=32:=Ω
   go_wp2_with (refine aQq fun _ J I=>?_);exact Λ
instance Q8:Ent 189:=eo func189
theorem BC(x:El)(e:Φ)(w:ϑ):Rt 188 #[.agg (rowEl x),.agg (aa 32 e)] w (.agg (rowEl (x.pow (leN e)))):=by
 have I:=Loc.nil w;have HB:=Hd (fun i=> @qI e i);generalize leN e=n at *
 obtain⟨X,h0,hs,hf⟩:∃X:Nat→El,X 0=El.one∧(∀j,X (j+1)=if n/2^(255-j)%2=1 then((X j).mul (X j)).mul x else(X j).mul (X j))∧X 256=x.pow n:=⟨fun k=>El.powK x n k,rfl,fun j=>rfl,El.pow_eq x n⟩;rw[← hf];have zs:=Hd hs;haveI f0:FnC 132 #[.int .i64 1] (.agg (rowEl (X 0))):=by rw[h0];infer_instance
 clear h0 hs hf;go_enter func188,ntmps188;go_wp2_with (first|refine gBp 2 fun b2 J I=>?_|refine gBp 3 fun b3 J I=>?_|refine gBp 4 fun b4 J I=>?_|refine gBp 5 fun b5 J I=>?_|refine aQq fun _ J I=>?_);go_loopw [6] (fun kk wr=>∃j:Nat,j≤256∧kk= .int .i64 (255-(j:Int))∧Loc w wr [(b5,rowEl (X j),147),(b4,aq 16 fun _=>0,147),(b3,aa 32 e,24),(b2,rowEl x,147)]) (fun kk _=>(intOf kk+1).toNat);case atStart=>exact⟨0,Ω,rfl,I⟩
 case round =>
  clear I;obtain⟨j,hj,rfl,I⟩:=hrel;by_cases hlt:j<256
  ·have HT:=Hd (zs.out j)
   have hv:=HB.out (i:=255-j) Ω;obtain⟨k,hk⟩:∃k,k=255-j:=⟨_,rfl⟩;rw[← hk]at hv HT;have ek:255-(j:Int)=(k:Int):=Ω;rw[ek];have hk1:k<256:=Ω;haveI g1:Cell (aa 32 e) (k/8) (.int .u8 (B8 (e (k/8)))):=aO _ Ω;obtain⟨b0,b1⟩:=bP (e (k/8));have k0:(0:Int)≤(k:Int):=Ω;have HK:=Hd hk;have e1:(k:Int)/8=((k/8:Nat):Int):=Ω;have e2:(k:Int)%8=((k%8:Nat):Int):=Ω;have e3:(k:Int).tdiv 8=((k/8:Nat):Int):=by rw[X6 Ω];omega
   have e4:(k:Int).tmod 8=((k%8:Nat):Int):=by rw[XF Ω];omega
   have q0:(0:Int)≤((k/8:Nat):Int):=Ω;have q1:((k/8:Nat):Int)<32:=Ω;have r0:(0:Int)≤((k%8:Nat):Int):=Ω;have r1:((k%8:Nat):Int)<8:=Ω;clear hk;by_cases hbit:n/2^k%2=1
   ·rw[hbit]at hv
    rw[Ρ hbit]at HT;generalize X j=X0 at I HT;generalize k/8=q,k%8=r at *
    generalize B8 (e q)=u at *
    clear hbit;go_wp2_with (refine aQq fun _ J I=>?_);go_roundw;case rel=>exact⟨j+1,Ω,by rw[show(k:Int)-1=255-((j+1:Nat):Int)from by have:=HK.out;omega],by rw[HT.out];exact I⟩
    case measure=>simp[intOf]
   ·rw[show n/2^k%2=0 from by omega]at hv
    rw[Χ hbit]at HT;generalize X j=X0 at I HT;generalize k/8=q,k%8=r at *
    generalize B8 (e q)=u at *
    clear hbit;go_wp2_with (refine aQq fun _ J I=>?_);go_roundw;case rel=>exact⟨j+1,Ω,by rw[show(k:Int)-1=255-((j+1:Nat):Int)from by have:=HK.out;omega],by rw[HT.out];exact I⟩
    case measure=>simp[intOf]
  ·obtain rfl:j=256:=Ω
   have k1:(255:Int)-((256:Nat):Int)= -1:=Ω;rw[k1];clear k1;go_wp2_with (refine aQq fun _ J I=>?_);exact Λ
instance Q9:Ent 188:=eo func188
theorem II(x:El)(w:ϑ):Rt 128 #[.agg (rowEl x)] w (.agg (rowEl x.inv)):=by
 have I:=Loc.nil w;obtain⟨e,he⟩:∃e,e=ah (P-2):=⟨_,rfl⟩;haveI f1:FnC 188 #[.agg (rowEl x),.agg (aa 32 e)] (.agg (rowEl x.inv)):=⟨by
  have:=BC x (ah (P-2));rw[bT (by have:=Ff;omega),← he]at this;exact this⟩
 haveI f0:FnC 189 #[.int .i64 21] (.agg (aa 32 e)):=⟨by rw[he];exact Ft⟩;clear he;go_enter func128,ntmps128;go_wp2_with (refine aQq fun _ J I=>?_);refine wf [(0,false),(1,false),(2,false)] [] [3] I ?_;refine fA ?_;refine fB fun J I=>?_;go_wp2_with fail;exact Λ
instance Ra:Ent 128:=eo func128
instance Rb(x:El):FnC 128 #[.agg (rowEl x)] (.agg (rowEl x.inv)):=⟨II x⟩
theorem z5:∀x:Fin 256,bits .and .u8 (x.val:Int) 248=((x.val/8*8:Nat):Int):=Ϛ
theorem Fu:∀x:Fin 256,bits .or .u8 (bits .and .u8 (x.val:Int) 127) 64=((x.val%64+64:Nat):Int):=Ϛ
theorem mf(n i:Nat)(h:n<2^256)(hi:i<32):(ah (bJ n) i).toNat=if i=0 then(ah n 0).toNat/8*8 else if i=31 then(ah n 31).toNat%64+64 else(ah n i).toNat:=by
 unfold ah bJ;rw[Xv,Xv,Xv,Xv,show(2:Nat)^8=256 from rfl,XO,Yh,Yj];by_cases h0:i=0
 ·subst h0
  rw[Ρ rfl,XO,Yh,Yj];simp only[Nat.reducePow]at *
  omega
 ·rw[Χ h0]
  by_cases h1:i=31
  ·subst h1
   rw[Ρ rfl];simp only[Nat.reducePow,Nat.reduceMul]at *
   omega
  ·rw[Χ h1]
   obtain⟨d,hd⟩:∃d,254=8*i+(8+d):=⟨246-8*i,Ω⟩;obtain⟨j,rfl⟩:∃j,i=j+1:=⟨i-1,Ω⟩;have e8:(2:Nat)^(8*(j+1))=8*2^(8*j+5):=by rw[show 8*(j+1)=3+(8*j+5)from by omega,Xk]
   have h254:(2:Nat)^254=2^(8*(j+1))*(256*2^d):=by rw[show(256:Nat)=2^8 from rfl,← Xk,← Xk,← hd]
   have a1:n%2^254/8*8/2^(8*(j+1))=n%2^254/2^(8*(j+1)):=by
    rw[e8,← Xj,← Xj,Nat.mul_div_cancel _ Ω]
   rw[h254,Xy _ _ (Xg _),← h254,a1,XD,h254,Nat.mod_mul_right_div_self,Nat.mod_mul_right_mod]
theorem Fv(f:Φ):Put (aa 32 f) 0 (.int .u8 (bits .and .u8 (B8 (f 0)) 248)) (aa 32 fun i=>if i=0 then ah (bJ (leN f)) 0 else f i):=bm Ω (am fun i _=>by
 unfold upd;by_cases e:i=0
 ·subst e
  rw[Ρ rfl];show _=Value.int .u8 (B8 (if 0=0 then _ else _));rw[Ρ rfl];have h1:=z5 ⟨(f 0).toNat,(f 0).isLt⟩;have h2:=mf (leN f) 0 (fX f) Ω;rw[Ρ rfl,iQ f Ω]at h2;unfold B8;rw[h2,← h1]
 ·rw[Χ e]
  show _=Value.int .u8 (B8 (if i=0 then _ else _));rw[Χ e])
theorem BD(f:Φ):Put (aa 32 fun i=>if i=0 then ah (bJ (leN f)) 0 else f i) 31 (.int .u8 (bits .or .u8 (bits .and .u8 (B8 (f 31)) 127) 64)) (aa 32 (ah (bJ (leN f)))):=bm Ω (am fun i hi=>by
 unfold upd;by_cases e:i=31
 ·subst e
  rw[Ρ rfl];have h1:=Fu ⟨(f 31).toNat,(f 31).isLt⟩;have h2:=mf (leN f) 31 (fX f) Ω;rw[Χ Ω,Ρ rfl,iQ f Ω]at h2;unfold B8;rw[h2,← h1]
 ·rw[Χ e]
  show Value.int .u8 (B8 (if i=0 then _ else _))=_;by_cases e0:i=0
  ·subst e0;rw[Ρ rfl]
  ·rw[Χ e0]
   have h2:=mf (leN f) i (fX f) hi;rw[Χ e0,Χ e,iQ f hi]at h2;rw[Yi h2])
theorem xj(f:Φ)(w:ϑ):Rt 127 #[.agg (aa 32 f)] w (.agg (aa 32 (ah (bJ (leN f))))):=by
 have I:=Loc.nil w;haveI p0:=Fv f;haveI p1:=BD f;haveI g0:Cell (aa 32 f) 0 (.int .u8 (B8 (f 0))):=aO _ Ω;haveI g1:Cell (aa 32 fun i=>if i=0 then ah (bJ (leN f)) 0 else f i) 31 (.int .u8 (B8 (f 31))):=aO _ Ω;generalize ah (bJ (leN f))=out at *
 generalize(fun i=>if i=0 then out 0 else f i)=mid,f 0=x,f 31=y at *
 go_enter func127,ntmps127;go_wp2_with (refine aQq fun _ J I=>?_);exact Λ
instance Rc:Ent 127:=eo func127
instance Rd(f:Φ):FnC 127 #[.agg (aa 32 f)] (.agg (aa 32 (ah (bJ (leN f))))):=⟨xj f⟩
end R3
namespace Shb
def lenOf:ό→Nat | .slice _ n _=>n|_=>0
def iS(n:Nat):Δ:=List.replicate 8 0++aG n
theorem gt(n:Nat):(iS n).length=16:=by simp[iS,aG]
theorem Fw(n:Nat){j:Nat}(h:j<8):(iS n).take (j+1)=(iS n).take j++[0]:=by
 rw[Xo (by rw[gt];omega)];congr 1;unfold iS;rw[YB (by simpa using h),List.getElem_replicate]
theorem Fx(n:Nat){j:Nat}(h:j<8):(iS n).take (8+j+1)=(iS n).take (8+j)++[ay n j]:=by
 rw[Xo (by rw[gt];omega)];congr 1;unfold iS;rw[Zy Ϡ];simp[aG]
theorem Fy(v:ό)(l:Δ)(w:ϑ)(hv:BRow w v l)(h0:0<l.length)(hl:l.length≤1000000000) :
 ϓ 71 #[v,.int .i64 128,.int .i64 16] w fun e Z=>Fresh w (pad l) e Z:=by
 have I:=Loc.nil w;haveI hA:Arg w v (ak l):=⟨hv.vrow⟩;obtain⟨a,c,rfl,hn,hp⟩:=hv;clear hn hp;go_enter func71,ntmps71;haveI sb:Seg #[Value.int IntKind.u8 128] 0 1 (ak [128]):=il 128;go_wp2_with (first|(refine gN 12 ?_;(refine lP I rfl rfl rfl rfl h0 ϖ fun g12 Y12 Z12 J W12 Y=>?_);clear I;have I:=Y;clear Y;refine p4 ?_)|(refine gN 13 ?_;refine aL fun b13 J I=>?_)|(refine gN 14 ?_;refine aA fun g14 Y14 Z14 J W14 I=>?_)|refine aQp fun _ J I=>?_);go_loopw [7] (fun v wr=>∃(z g W:Nat) (E:Ψ),z≤cV l.length∧v= .slice (ϐ g) (l.length+1+z) W∧OwnR E (l.length+1+z) W (ak (l++[128]++List.replicate z 0))∧Loc w wr [(g,E,5)]) (fun v _=>1000000300-lenOf v);case atStart=>exact⟨0,g14,Y14,Z14,Yb _,rfl,by simpa using W14,I.pop⟩
 case round =>
  clear I;obtain⟨z,g,W,E,hz,rfl,hr,I⟩:=hrel;have hZ:cV l.length=(239-l.length%128)%128:=rfl;by_cases hzl:z<cV l.length
  ·have h56:(((l.length+1+z:Nat):Int)%128 !=112)=true:=by rw[bne_iff_ne];omega
   obtain⟨n,hn⟩:∃n,n=l.length+1+z:=⟨_,rfl⟩;rw[← hn]at h56 hr ⊢;have HN:=Hd hn;have hn1:n≤1000000200:=Ω;clear hn hZ;haveI sb:Seg #[Value.int IntKind.u8 0] 0 1 (ak [0]):=il 0;go_wp2_with (first|(refine gN 24 ?_;refine aL fun b24 J I=>?_)|(refine gN 25 ?_;refine aA fun g25 Y25 Z25 J W25 I=>?_)|refine aQp fun _ J I=>?_);go_roundw;case rel=>exact⟨z+1,g25,Y25,Z25,Ω,by rw[HN.out];rfl,by rw[HN.out]at W25;rw[ZG,← Xc];exact W25,I.pop⟩
   case measure=>have:=HN.out;simp only[lenOf];omega
  ·have hze:z=cV l.length:=Ω
   have h56:(((l.length+1+z:Nat):Int)%128 !=112)=false:=by rw[bne_eq_false_iff_eq];omega
   subst hze;obtain⟨pre,hpre⟩:∃pre,pre=l++[128]++List.replicate (cV l.length) 0:=⟨_,rfl⟩;have hpl:pre.length=l.length+1+cV l.length:=by rw[hpre];simp;omega
   rw[← hpre,← hpl]at hr;rw[← hpl]at h56 ⊢;have HPRE:=Hd (show pad l=pre++iS l.length from by rw[hpre];unfold pad iS;simp);have hlp:pre.length≤1000000200:=by rw[hpl];omega
   clear hpre hpl hZ hzl hz;generalize χ:l.length=len at *
   have HLEN:=Hd χ;clear χ;go_wp2_with (refine aQp fun _ J I=>?_);go_loopw [7,9] (fun v kk wr=>∃(j g W:Nat) (E:Ψ),j≤16∧kk= .int .i64 (15-(j:Int))∧v= .slice (ϐ g) (pre.length+j) W∧OwnR E (pre.length+j) W (ak (pre++(iS len).take j))∧Loc w wr [(g,E,5)]) (fun _ kk _=>(intOf kk+1).toNat);case atStart=>exact⟨0,g,W,E,Ω,rfl,rfl,by simpa using hr,I⟩
   case round =>
    clear I hr h56;obtain⟨j,g,W,E,hj,rfl,rfl,hr,I⟩:=hrel;by_cases hj8:j<8
    ·have HT:=Hd (Fw len hj8)
     have k0:(0:Int)≤15-(j:Int):=Ω;have k1:¬15-(j:Int)<8:=Ω;have k2:¬15-(j:Int)<0:=Ω;have k3:(8:Int)≤15-(j:Int):=Ω;have k4:(j:Int)≤7:=Ω;have k5:(j:Int)≤15:=Ω;generalize hn:pre.length+j=n at *
     have HN:=Hd hn;have hn1:n≤1000000300:=Ω;clear hn;haveI sb:Seg #[Value.int IntKind.u8 0] 0 1 (ak [0]):=il 0;go_wp2_with (first|(refine gN 46 ?_;refine aL fun b46 J I=>?_)|(refine gN 47 ?_;refine aA fun g47 Y47 Z47 J W47 I=>?_)|refine aQp fun _ J I=>?_);go_roundw;case rel=>exact⟨j+1,g47,Y47,Z47,Ω,by go_num,by rw[← XT,HN.out],by rw[HT.out,← Xc,← XT,HN.out];exact W47,I.pop⟩
     case measure=>simp only[intOf];omega
    ·obtain⟨q,rfl⟩:∃q,j=8+q:=⟨j-8,Ω⟩
     by_cases hq8:q<8
     ·have HT:=Hd (Fx len hq8)
      have HVJ:=Hd (bu len q);have hl0:(0:Int)≤(len:Int):=Ω;have hl1:(len:Int)≤1000000000:=Ω;generalize hn:pre.length+(8+q)=n at *
      have HN:=Hd hn;have hn1:n≤1000000300:=Ω;clear hn;have hq8':q=0∨q=1∨q=2∨q=3∨q=4∨q=5∨q=6∨q=7:=Ω;rcases hq8' with rfl|rfl|rfl|rfl|rfl|rfl|rfl|rfl
      ·have hX:bits BinOp.and IntKind.i64 (8*(len:Int)/72057594037927936) 255=B8 (ay len 0):=by
        rw[R3.and_255,HVJ.out,show 2^(8*(7-0))=72057594037927936 from rfl];omega
       obtain⟨x0,x1⟩:=bP (ay len 0);clear HVJ;generalize ay len 0=x at *
       rw[show(15:Int)-((8+0:Nat):Int)=7 from rfl];go_wp2_with (first|(refine gN 46 ?_;refine aL fun b46 J I=>?_)|(refine gN 47 ?_;refine aA fun g47 Y47 Z47 J W47 I=>?_)|refine aQp fun _ J I=>?_);go_roundw;case rel=>exact⟨8+0+1,g47,Y47,Z47,Ω,rfl,by rw[← XT,HN.out],by rw[HT.out,← Xc,← XT,HN.out];exact W47,I.pop⟩
       case measure=>simp only[intOf];omega
      ·have hX:bits BinOp.and IntKind.i64 (8*(len:Int)/281474976710656) 255=B8 (ay len 1):=by
        rw[R3.and_255,HVJ.out,show 2^(8*(7-1))=281474976710656 from rfl];omega
       obtain⟨x0,x1⟩:=bP (ay len 1);clear HVJ;generalize ay len 1=x at *
       rw[show(15:Int)-((8+1:Nat):Int)=6 from rfl];go_wp2_with (first|(refine gN 46 ?_;refine aL fun b46 J I=>?_)|(refine gN 47 ?_;refine aA fun g47 Y47 Z47 J W47 I=>?_)|refine aQp fun _ J I=>?_);go_roundw;case rel=>exact⟨8+1+1,g47,Y47,Z47,Ω,rfl,by rw[← XT,HN.out],by rw[HT.out,← Xc,← XT,HN.out];exact W47,I.pop⟩
       case measure=>simp only[intOf];omega
      ·have hX:bits BinOp.and IntKind.i64 (8*(len:Int)/1099511627776) 255=B8 (ay len 2):=by
        rw[R3.and_255,HVJ.out,show 2^(8*(7-2))=1099511627776 from rfl];omega
       obtain⟨x0,x1⟩:=bP (ay len 2);clear HVJ;generalize ay len 2=x at *
       rw[show(15:Int)-((8+2:Nat):Int)=5 from rfl];go_wp2_with (first|(refine gN 46 ?_;refine aL fun b46 J I=>?_)|(refine gN 47 ?_;refine aA fun g47 Y47 Z47 J W47 I=>?_)|refine aQp fun _ J I=>?_);go_roundw;case rel=>exact⟨8+2+1,g47,Y47,Z47,Ω,rfl,by rw[← XT,HN.out],by rw[HT.out,← Xc,← XT,HN.out];exact W47,I.pop⟩
       case measure=>simp only[intOf];omega
      ·have hX:bits BinOp.and IntKind.i64 (8*(len:Int)/4294967296) 255=B8 (ay len 3):=by
        rw[R3.and_255,HVJ.out,show 2^(8*(7-3))=4294967296 from rfl];omega
       obtain⟨x0,x1⟩:=bP (ay len 3);clear HVJ;generalize ay len 3=x at *
       rw[show(15:Int)-((8+3:Nat):Int)=4 from rfl];go_wp2_with (first|(refine gN 46 ?_;refine aL fun b46 J I=>?_)|(refine gN 47 ?_;refine aA fun g47 Y47 Z47 J W47 I=>?_)|refine aQp fun _ J I=>?_);go_roundw;case rel=>exact⟨8+3+1,g47,Y47,Z47,Ω,rfl,by rw[← XT,HN.out],by rw[HT.out,← Xc,← XT,HN.out];exact W47,I.pop⟩
       case measure=>simp only[intOf];omega
      ·have hX:bits BinOp.and IntKind.i64 (8*(len:Int)/16777216) 255=B8 (ay len 4):=by
        rw[R3.and_255,HVJ.out,show 2^(8*(7-4))=16777216 from rfl];omega
       obtain⟨x0,x1⟩:=bP (ay len 4);clear HVJ;generalize ay len 4=x at *
       rw[show(15:Int)-((8+4:Nat):Int)=3 from rfl];go_wp2_with (first|(refine gN 46 ?_;refine aL fun b46 J I=>?_)|(refine gN 47 ?_;refine aA fun g47 Y47 Z47 J W47 I=>?_)|refine aQp fun _ J I=>?_);go_roundw;case rel=>exact⟨8+4+1,g47,Y47,Z47,Ω,rfl,by rw[← XT,HN.out],by rw[HT.out,← Xc,← XT,HN.out];exact W47,I.pop⟩
       case measure=>simp only[intOf];omega
      ·have hX:bits BinOp.and IntKind.i64 (8*(len:Int)/65536) 255=B8 (ay len 5):=by
        rw[R3.and_255,HVJ.out,show 2^(8*(7-5))=65536 from rfl];omega
       obtain⟨x0,x1⟩:=bP (ay len 5);clear HVJ;generalize ay len 5=x at *
       rw[show(15:Int)-((8+5:Nat):Int)=2 from rfl];go_wp2_with (first|(refine gN 46 ?_;refine aL fun b46 J I=>?_)|(refine gN 47 ?_;refine aA fun g47 Y47 Z47 J W47 I=>?_)|refine aQp fun _ J I=>?_);go_roundw;case rel=>exact⟨8+5+1,g47,Y47,Z47,Ω,rfl,by rw[← XT,HN.out],by rw[HT.out,← Xc,← XT,HN.out];exact W47,I.pop⟩
       case measure=>simp only[intOf];omega
      ·have hX:bits BinOp.and IntKind.i64 (8*(len:Int)/256) 255=B8 (ay len 6):=by
        rw[R3.and_255,HVJ.out,show 2^(8*(7-6))=256 from rfl];omega
       obtain⟨x0,x1⟩:=bP (ay len 6);clear HVJ;generalize ay len 6=x at *
       rw[show(15:Int)-((8+6:Nat):Int)=1 from rfl];go_wp2_with (first|(refine gN 46 ?_;refine aL fun b46 J I=>?_)|(refine gN 47 ?_;refine aA fun g47 Y47 Z47 J W47 I=>?_)|refine aQp fun _ J I=>?_);go_roundw;case rel=>exact⟨8+6+1,g47,Y47,Z47,Ω,rfl,by rw[← XT,HN.out],by rw[HT.out,← Xc,← XT,HN.out];exact W47,I.pop⟩
       case measure=>simp only[intOf];omega
      ·have hX:bits BinOp.and IntKind.i64 (8*(len:Int)) 255=B8 (ay len 7):=by
        rw[R3.and_255,HVJ.out,show 2^(8*(7-7))=1 from rfl];omega
       obtain⟨x0,x1⟩:=bP (ay len 7);clear HVJ;generalize ay len 7=x at *
       rw[show(15:Int)-((8+7:Nat):Int)=0 from rfl];go_wp2_with (first|(refine gN 46 ?_;refine aL fun b46 J I=>?_)|(refine gN 47 ?_;refine aA fun g47 Y47 Z47 J W47 I=>?_)|refine aQp fun _ J I=>?_);go_roundw;case rel=>exact⟨8+7+1,g47,Y47,Z47,Ω,rfl,by rw[← XT,HN.out],by rw[HT.out,← Xc,← XT,HN.out];exact W47,I.pop⟩
       case measure=>simp only[intOf];omega
     ·obtain rfl:q=8:=Ω
      have HT:=Hd (show(iS len).take (8+8)=iS len from Xq (by rw[gt];omega));rw[HT.out,← HPRE.out]at hr;have hpn:pre.length+(8+8)=(pad l).length:=by rw[HPRE.out,Xa,gt]
      rw[hpn]at hr ⊢;rw[show(15:Int)-((8+8:Nat):Int)= -1 from rfl];clear HT HPRE HLEN hpn;go_wp2_with (refine aQp fun _ J I=>?_);go_ret;exact I.back rfl
end Shb
namespace Shb
def vd(s:St)(L:BitVec 64):Ψ:=bZ s.h s.b s.n L
theorem mg:(prog.info? 75).map (fun i=>(i.zero,i.size))=some (some (.agg (row 64 fun _=> .int .u8 0)),64):=Θ
theorem qJ:(prog.info? 75).map (·.size)=some 64:=Θ
theorem dh(sb:Nat)(s:St)(x:Γ)(L:BitVec 64)(w:ϑ)(hn:s.n<128)(hg:w.heap[sb]?=some (.cells (vd s L) 353 (0,0))) :
 ϓ 304 #[.pointer (ϐ sb),.int .u8 (B8 x)] w fun e Z=>e= .returned (.tuple #[])∧Z.heap[sb]?=some (.cells (vd (a6 s x) L) 353 (0,0))∧w.grownBy Z (some sb) :=
 qu sb s x L w hn hg
structure SumAt(w:ϑ)(sb:Nat)(s:St)(L:BitVec 64)(wr:ϑ):Prop where
 lo:w.heap.size<sb
 st:wr.heap[sb]?=some (.cells (vd s L) 353 (0,0))
 res:wr.heap[w.heap.size]?=some (.cells (aa 64 fun _=>0) 75 (0,0))
 bel:Υ w wr
theorem SumAt.grow{w wr Z:ϑ}{sb:Nat}{s s':St}{L L':BitVec 64}(h:SumAt w sb s L wr)(hs:Z.heap[sb]?=some (.cells (vd s' L') 353 (0,0)))(hg:wr.grownBy Z (some sb)):SumAt w sb s' L' Z:=by
 have hsz:w.heap.size<wr.heap.size:=(Array.getElem?_eq_some_iff.1 h.res).1;refine⟨h.lo,hs,?_,h.bel.grown hg Ω (fun k hk=>?_)⟩
 ·rw[hg.block _ hsz (fun e=>by have:=h.lo;cases e;omega)]
  exact h.res
 ·cases hk;exact ZE h.lo
theorem SumAt.setCell{w wr:ϑ}{sb:Nat}{s:St}{L:BitVec 64}(h:SumAt w sb s L wr){x:Addr}(hx:w.heap.size<x.block)(hs:x.block≠sb)(v:ό):SumAt w sb s L (wr.setCell x v) :=
 ⟨h.lo,(Xh wr x sb v (Ne.symm hs)).trans h.st,(Xh wr x _ v Ω).trans h.res,h.bel.setCell Ω v⟩
theorem flat_take_le{α:Type}:∀(l:List (List α)) (k:Nat) (h:k<l.length),(l.take k).flatten.length+l[k].length≤l.flatten.length
 | [],k,h=>absurd h Ϡ
 | x::l,0,_=>by simp
 | x::l,k+1,h=>by
  have:=flat_take_le l k (by simpa using h);simp only[List.take_succ_cons,XP,Xa,List.getElem_cons_succ];omega
def eH(h:Nat→BitVec 64)(k:Nat):Nat→Γ:=fun i=>if i<k then cm h i else 0
theorem iT(h:Nat→BitVec 64)(k:Nat):upd (eH h k) k (cm h k)=eH h (k+1):=by
 funext i;unfold upd eH;by_cases e:i=k
 ·subst e;simp
 ·rw[Χ e]
  by_cases hi:i<k
  ·rw[Ρ hi,Ρ Ω]
  ·rw[Χ hi,Χ Ω]
theorem gS{n:Nat}{f g:Φ}(h:∀i,i<n→f i=g i):aa n f=aa n g:=am fun i hi=>by rw[h i hi]
theorem mS(h:Nat→BitVec 64)(k r:Nat)(hr:k%8=r):Q (h (k/8))/((2^(56-8*r):Nat):Int)%(256:Int)=B8 (cm h k):=by
 unfold Q B8 cm;rw[YL,Zc,YW,hr,Ye,Zs];rfl
theorem sum_any(v:ό)(l:List Δ)(w:ϑ)(hv:BRows w v l)(hl:l.length≤1000000)(hm:l.flatten.length≤1000000000) :
 Rt 280 #[v] w (.agg (aa 64 (sha l.flatten))):=by
 obtain⟨a,c,rfl,_,hv⟩:=hv;have HV:=Hd hv;clear hv;go_enter func280,ntmps280;go_wp2_with (first|(with_reducible refine az rfl 75 rfl 64 _ mg ?_)|(go_at_call 303;refine(nW _).mono ?_;rintro e J⟨sb,rfl,hsb,hs,V⟩));have hat:SumAt w sb st0 0 J:=by
  have e1:(w.alloc (.cells (row 64 fun _=> .int .u8 0) 75)).heap.size=w.heap.size+1:=Ϡ;refine⟨by rw[e1]at hsb;omega,hs,?_,?_⟩
  ·rw[V.block _ (by rw[e1];omega)];exact Xe _ _
  ·exact((XE _ _).alloc (Xn _) _).trans (V.mono (by rw[e1];omega))
 clear hs V hsb;go_loopw [14] (fun i wr=>∃k:Nat,k≤l.length∧i= .int .i64 k∧SumAt w sb (aB st0 (l.take k).flatten) (BitVec.ofNat 64 (l.take k).flatten.length) wr) (fun i _=>l.length-(intOf i).toNat);case atStart=>exact⟨0,Yb _,rfl,hat⟩
 case round =>
  clear hat
  obtain⟨k,hk,rfl,hat⟩:=hrel;by_cases hlt:k<l.length
  ·obtain⟨b,off,ha,hbl,hcells⟩:=HV.out Ω
   obtain⟨vi,hvi,a2,c2,rfl,_,hin⟩:=hcells k hlt;have hk0:(0:Int)≤(k:Int):=Ω;have hk1:(k:Int)<(l.length:Int):=Ω;have hci:=(hat.bel.cell (p:=⟨b,off+k,none⟩) hbl).trans hvi;rw[ha];clear hvi hcells;have HI:=Hd hin;have HT:=Hd (show l.take (k+1)=l.take k++[l[k]]from Xo hlt);have hln:=flat_take_le l k hlt;clear hin;generalize l[k]=m at *
   obtain⟨p,hp⟩:∃p,p=(l.take k).flatten:=⟨_,rfl⟩;rw[← hp]at hat hln;have HP:=Hd hp.symm;clear hp;go_wp2_with fail;obtain⟨D,rfl⟩:∃D:ϑ,D=wr:=⟨_,rfl⟩;go_loopw [20] (fun i w2=>∃j:Nat,j≤m.length∧i= .int .i64 j∧SumAt w sb (aB (aB st0 p) (m.take j)) (BitVec.ofNat 64 p.length) w2∧Below w.heap.size D w2) (fun i _=>m.length-(intOf i).toNat);case atStart=>exact⟨0,Yb _,rfl,hat,XE _ _⟩
   case round =>
    clear hat
    obtain⟨j,hj,rfl,hat,hb0⟩:=hrel;by_cases hjl:j<m.length
    ·obtain⟨b2,o2,ha2,hbl2,hc2⟩:=HI.out Ω
     have hcj:=(hat.bel.cell (p:=⟨b2,o2+j,none⟩) hbl2).trans (hc2 j hjl);have HTJ:=Hd (show aB (aB st0 p) (m.take (j+1))=a6 (aB (aB st0 p) (m.take j)) m[j] by
      rw[Xo hjl,df])
     have hlt64:=cR (cR (s:=st0) Ξ p) (m.take j);have hj0:(0:Int)≤(j:Int):=Ω;have hj1:(j:Int)<(m.length:Int):=Ω;rw[ha2];clear hc2;generalize aB (aB st0 p) (m.take j)=S at *
     generalize m[j]=x at *
     go_wp2_with fail;refine(dh sb S x _ _ hlt64 hat.st).mono ?_;rintro e w3⟨rfl,hs3,hg3⟩;have hat3:=hat.grow hs3 hg3;have hb3:Below w.heap.size D w3:=hb0.grown hg3 (by have:=hat.bel.size;omega) (fun k hk=>by cases hk;exact ZE hat.lo);clear hs3 hg3 hat hb0;go_wp2;go_roundw;case rel=>exact⟨j+1,Ω,by go_num,by rw[HTJ.out];exact hat3,hb3⟩
     case measure=>exact ϝ
    ·have hje:m.take j=m:=Xq Ω
     rw[hje]at hat
     have HTK:=Hd (show aB st0 (l.take (k+1)).flatten=aB (aB st0 p) m∧BitVec.ofNat 64 (l.take (k+1)).flatten.length=BitVec.ofNat 64 p.length+BitVec.ofNat 64 m.length from by
      rw[HT.out,ZI,XP,Yz,Yf,HP.out,bM,Xa,BitVec.ofNat_add];exact⟨rfl,rfl⟩)
     have hst:=hat.st;have cL:wr.cell? ⟨sb,217,none⟩=some (.int .u64 (Q (BitVec.ofNat 64 p.length))):=by rw[aR hst Ω,EX]
     have fL:wr.frozen? ⟨sb,217,none⟩=false:=Xi wr _ _ _ _ hst;have hq:=zc (BitVec.ofNat 64 p.length) m.length Ω;have hq':=A7 (BitVec.ofNat 64 p.length) m.length Ω;have HH:=Hd ((bH (.int .u64 (Q (BitVec.ofNat 64 p.length+BitVec.ofNat 64 m.length))) hst Ω).trans (XH (fun r=>some (Obj.cells r 353 (0,0))) (l9 _)));have HAT:=Hd hat
     clear hat hst hje;generalize BitVec.ofNat 64 p.length=L1 at *
     generalize BitVec.ofNat 64 m.length=L2 at *
     generalize aB (aB st0 p) m=S at *
     go_wp2;go_roundw;case rel =>
      refine⟨k+1,Ω,by go_num,?_⟩;rw[HTK.out.1,HTK.out.2];exact HAT.out.grow HH.out (bz (cH _ _) (.inr rfl) _)
     case measure=>exact ϝ
  ·have hke:l.take k=l:=Xq Ω
   rw[hke]at hat
   clear hke;have hlt64:=cR (s:=st0) Ξ l.flatten;go_wp2_with fail;refine(dh sb _ 128 _ _ hlt64 hat.st).mono ?_;rintro e w2⟨rfl,hs2,hg2⟩;have hat2:=hat.grow hs2 hg2;clear hs2 hg2 hat hlt64;obtain⟨len,χ⟩:∃len,len=l.flatten.length:=⟨_,rfl⟩;have hS0:(a6 (aB st0 l.flatten) 128).n=(len+1)%128:=by
    rw[jm (cR Ξ _),mK Ξ,χ];show((0+l.flatten.length)%128+1)%128=_;omega
   rw[← χ]at hat2;have hlm:len≤1000000000:=Ω;have HLEN:=Hd χ;clear χ;go_wp2;go_loopw [41] (fun _ wr=>∃z:Nat,z≤cV len∧SumAt w sb (aB (a6 (aB st0 l.flatten) 128) (List.replicate z 0)) (BitVec.ofNat 64 len) wr) (fun _ wr=>(240-(intOf ((wr.cell? ⟨sb,216,none⟩).getD undef)).toNat)%128);case atStart=>exact⟨0,Yb _,hat2⟩
   case round =>
    clear hat2;obtain⟨z,hz,hat⟩:=hrel;have hSn:(aB (a6 (aB st0 l.flatten) 128) (List.replicate z 0)).n=(len+1+z)%128:=by
     rw[mK (eN _ _),hS0,Zx];omega
    have hZ:cV len=(239-len%128)%128:=rfl;have hlt64:(aB (a6 (aB st0 l.flatten) 128) (List.replicate z 0)).n<128:=cR (eN _ _) _;have hcn:wr.cell? ⟨sb,216,none⟩=some (.int .i64 (aB (a6 (aB st0 l.flatten) 128) (List.replicate z 0)).n):=by rw[aR hat.st Ω,uV]
    by_cases hzl:z<cV len
    ·have HTZ:=Hd (show aB (a6 (aB st0 l.flatten) 128) (List.replicate (z+1) 0)=a6 (aB (a6 (aB st0 l.flatten) 128) (List.replicate z 0)) 0 by
      rw[ZG,df])
     have h56:(aB (a6 (aB st0 l.flatten) 128) (List.replicate z 0)).n≠112:=by rw[hSn];omega
     clear hSn hZ;generalize aB (a6 (aB st0 l.flatten) 128) (List.replicate z 0)=S at *
     have he:((S.n:Int) !=112)=true:=by rw[bne_iff_ne];omega
     have he':((S.n:Int)==112)=false:=by rw[Zl];omega
     go_wp2_with fail;refine(dh sb S 0 _ _ hlt64 hat.st).mono ?_;rintro e w3⟨rfl,hs3,hg3⟩;have hat3:=hat.grow hs3 hg3;have hc3:w3.cell? ⟨sb,216,none⟩=some (.int .i64 ((S.n+1)%128:Nat)):=by rw[aR hs3 Ω,uV,jm hlt64]
     clear hs3 hg3 hat
     go_wp2;go_roundw;case rel=>exact⟨z+1,Ω,by rw[HTZ.out];exact hat3⟩
     case measure =>
      simp only[hc3,hcn,Option.getD_some,intOf,Ys];omega
    ·have hze:z=cV len:=Ω
     have h56:(aB (a6 (aB st0 l.flatten) 128) (List.replicate z 0)).n=112:=by rw[hSn];omega
     clear hSn hZ hzl;subst hze;obtain⟨S,hS⟩:∃S,S=aB (a6 (aB st0 l.flatten) 128) (List.replicate (cV len) 0):=⟨_,rfl⟩;rw[← hS]at hat hlt64 hcn h56;have HS:=Hd hS;clear hS hz hS0;have he:((S.n:Int) !=112)=false:=by rw[h56];decide
     have he':((S.n:Int)==112)=true:=by rw[h56];decide
     clear h56;go_wp2;go_loopw [48] (fun i w5=>∃j:Nat,j≤8∧i= .int .i64 (j:Int)∧SumAt w sb (aB S (List.replicate j 0)) (BitVec.ofNat 64 len) w5) (fun i _=>8-(intOf i).toNat);case atStart=>exact⟨0,Ω,rfl,hat⟩
     case round =>
     clear hat he he' hcn;obtain⟨j,hj,rfl,hat⟩:=hrel;by_cases hj8:j<8
     ·have hlt64j:=cR hlt64 (List.replicate j 0)
      have HTZ:=Hd (show aB S (List.replicate (j+1) 0)=a6 (aB S (List.replicate j 0)) 0 by rw[ZG,df]);generalize aB S (List.replicate j 0)=S2 at *
      have hj0:(0:Int)≤(j:Int):=Ω;have hj1:(j:Int)<8:=Ω;go_wp2_with fail;refine(dh sb S2 0 _ _ hlt64j hat.st).mono ?_;rintro e w3⟨rfl,hs3,hg3⟩;have hat3:=hat.grow hs3 hg3;clear hs3 hg3 hat
      go_wp2;go_roundw;case rel=>exact⟨j+1,Ω,by go_num,by rw[HTZ.out];exact hat3⟩
      case measure=>exact ϝ
     obtain rfl:j=8:=Ω;rw[show((8:Nat):Int)=8 from rfl];have hlt64:=cR hlt64 (List.replicate 8 0);obtain⟨S',hS'⟩:∃S',S'=aB S (List.replicate 8 0):=⟨_,rfl⟩;rw[← hS']at hat hlt64;have HS8:=Hd hS';clear hS' hj hj8;go_wp2;go_loopw [8] (fun i w5=>∃j:Nat,j≤8∧i= .int .i64 (7-(j:Int))∧SumAt w sb (aB S' ((aG len).take j)) (BitVec.ofNat 64 len) w5) (fun i _=>(intOf i+1).toNat);case atStart=>exact⟨0,Ω,rfl,hat⟩
     case round =>
      clear hat
      obtain⟨j,hj,rfl,hat⟩:=hrel;by_cases hj8:j<8
      ·have cL:wr.cell? ⟨sb,217,none⟩=some (.int .u64 (len:Int)):=by rw[aR hat.st Ω,EX,un len Ω]
       have hlb:(len:Int)≤1000000000:=Ω;have hl0:(0:Int)≤(len:Int):=Ω;have hlt64j:=cR hlt64 ((aG len).take j);have HTJ:=Hd (show aB S' ((aG len).take (j+1))=a6 (aB S' ((aG len).take j)) (ay len j) by
        rw[bV len hj8,df])
       clear hlt64;generalize aB S' ((aG len).take j)=S2 at *
       have E0:=Hd (show(len:Int)*8/72057594037927936=B8 (ay len 0) by rw[bu len 0,show 2^(8*(7-0))=72057594037927936 from rfl];omega);have E1:=Hd (show(len:Int)*8/281474976710656=B8 (ay len 1) by rw[bu len 1,show 2^(8*(7-1))=281474976710656 from rfl];omega);have E2:=Hd (show(len:Int)*8/1099511627776=B8 (ay len 2) by rw[bu len 2,show 2^(8*(7-2))=1099511627776 from rfl];omega);have E3:=Hd (show(len:Int)*8/4294967296=B8 (ay len 3) by rw[bu len 3,show 2^(8*(7-3))=4294967296 from rfl];omega);have E4:=Hd (show(len:Int)*8/16777216%256=B8 (ay len 4) by rw[bu len 4,show 2^(8*(7-4))=16777216 from rfl];omega);have E5:=Hd (show(len:Int)*8/65536%256=B8 (ay len 5) by rw[bu len 5,show 2^(8*(7-5))=65536 from rfl];omega);have E6:=Hd (show(len:Int)*8/256%256=B8 (ay len 6) by rw[bu len 6,show 2^(8*(7-6))=256 from rfl];omega);have E7:=Hd (show(len:Int)*8%256=B8 (ay len 7) by rw[bu len 7,show 2^(8*(7-7))=1 from rfl];omega);have hj8':j=0∨j=1∨j=2∨j=3∨j=4∨j=5∨j=6∨j=7:=Ω;rcases hj8' with rfl|rfl|rfl|rfl|rfl|rfl|rfl|rfl
       all_goals
        first|rw[show(7:Int)-((0:Nat):Int)=7 from rfl]|rw[show(7:Int)-((1:Nat):Int)=6 from rfl]|rw[show(7:Int)-((2:Nat):Int)=5 from rfl]|rw[show(7:Int)-((3:Nat):Int)=4 from rfl]|rw[show(7:Int)-((4:Nat):Int)=3 from rfl]|rw[show(7:Int)-((5:Nat):Int)=2 from rfl]|rw[show(7:Int)-((6:Nat):Int)=1 from rfl]|rw[show(7:Int)-((7:Nat):Int)=0 from rfl]
        go_wp2_with fail
        first|rw[E0.out]|rw[E1.out]|rw[E2.out]|rw[E3.out]|rw[E4.out]|rw[E5.out]|rw[E6.out]|rw[E7.out]
        refine(dh sb S2 _ _ _ hlt64j hat.st).mono ?_;rintro e w6⟨rfl,hs6,hg6⟩;have hat6:=hat.grow hs6 hg6;rw[← HTJ.out]at hat6;clear hs6 hg6 hat cL E0 E1 E2 E3 E4 E5 E6 E7;go_wp2;go_roundw;case rel=>exact⟨_,Ω,rfl,hat6⟩
        case measure=>simp[intOf]
      ·have h8:(aG len).take j=aG len:=Xq (by simp[aG];omega)
       rw[h8]at hat
       clear h8;have hj7:(7:Int)-(j:Int)= -1:=Ω;rw[hj7];clear hj7;go_wp2_with (with_reducible refine az rfl 75 rfl 64 _ mg ?_);have hz:=hat.bel.size;have hrs:w.heap.size<wr.heap.size:=(Array.getElem?_eq_some_iff.1 hat.res).1;have hbs:sb<wr.heap.size:=(Array.getElem?_eq_some_iff.1 hat.st).1;have hat9:SumAt w sb (aB S' (aG len)) (BitVec.ofNat 64 len) (wr.alloc (.cells (row 64 fun _=> .int .u8 0) 75)) :=
        hat.grow ((Xf _ _ _ hbs).trans hat.st) (dM (cH _ _) _)
       obtain⟨ob,hob⟩:∃ob,ob=wr.heap.size:=⟨_,rfl⟩;have hnew:(wr.alloc (.cells (row 64 fun _=> .int .u8 0) 75)).heap[ob]?=some (.cells (aa 64 (eH (aB S' (aG len)).h 0)) 75 (0,0)):=by
        rw[hob];exact Xe _ _
       have hfin:sha l.flatten=cm (aB S' (aG len)).h:=by
        unfold sha pad;rw[bM,bM,bM,bM,HLEN.out,HS8.out,HS.out,HLEN.out];rfl
       have HFIN:=Hd hfin;have hob1:w.heap.size<ob:=Ω;have hob2:sb<ob:=Ω;rw[← hob];clear hat hfin hob hrs hbs hz;generalize aB S' (aG len)=S3 at *
       go_loopw [68] (fun i w9=>∃q:Nat,q≤64∧i= .int .i64 q∧SumAt w sb S3 (BitVec.ofNat 64 len) w9∧w9.heap[ob]?=some (.cells (aa 64 (eH S3.h q)) 75 (0,0))) (fun i _=>64-(intOf i).toNat);case atStart=>exact⟨0,Ω,rfl,hat9,hnew⟩
       case round =>
        clear hat9 hnew;obtain⟨q,hq,rfl,hat,ho⟩:=hrel;by_cases hq64:q<64
        ·have hq0:(0:Int)≤(q:Int):=Ω
         have hq1:(q:Int)<64:=Ω;have ch:wr.cell? ⟨sb,q/8,none⟩=some (.int .u64 (Q (S3.h (q/8)))):=by rw[aR hat.st Ω,Ks Ω]
         have co:wr.cell? ⟨ob,q,none⟩=some (.int .u8 (B8 (eH S3.h q q))):=a9 ho hq64;have fo:wr.frozen? ⟨ob,q,none⟩=false:=Xi wr _ _ _ _ ho;have HO:=Hd ho;have HOK:=Hd (iT S3.h q);have HVAL:=Hd (mS S3.h q);obtain⟨u0,u1⟩:=jH (S3.h (q/8));clear ho;have W8:q%8=0∨q%8=1∨q%8=2∨q%8=3∨q%8=4∨q%8=5∨q%8=6∨q%8=7:=Ω;rcases W8 with hr|hr|hr|hr|hr|hr|hr|hr
         all_goals
          have hv:=HVAL.out _ hr;simp only[Nat.reduceMul,Nat.reduceSub,Nat.reducePow]at hv
          first|have hri:(q:Int)%8=0:=by omega|have hri:(q:Int)%8=1:=by omega|have hri:(q:Int)%8=2:=by omega|have hri:(q:Int)%8=3:=by omega|have hri:(q:Int)%8=4:=by omega|have hri:(q:Int)%8=5:=by omega|have hri:(q:Int)%8=6:=by omega|have hri:(q:Int)%8=7:=Ω
          clear hr;go_wp2;go_roundw;case rel =>
           first|rw[show Q (S3.h (q/8))/72057594037927936=B8 (cm S3.h q) by omega]|rw[show Q (S3.h (q/8))/281474976710656%256=B8 (cm S3.h q) by omega]|rw[show Q (S3.h (q/8))/1099511627776%256=B8 (cm S3.h q) by omega]|rw[show Q (S3.h (q/8))/4294967296%256=B8 (cm S3.h q) by omega]|rw[show Q (S3.h (q/8))/16777216%256=B8 (cm S3.h q) by omega]|rw[show Q (S3.h (q/8))/65536%256=B8 (cm S3.h q) by omega]|rw[show Q (S3.h (q/8))/256%256=B8 (cm S3.h q) by omega]|rw[show Q (S3.h (q/8))%256=B8 (cm S3.h q) by omega]
           refine⟨q+1,Ω,by go_num,hat.setCell hob1 (Nat.ne_of_gt hob2) _,?_⟩;rw[bv _ HO.out hq64,HOK.out]
          case measure=>exact ϝ
        ·have hro:aa 64 (eH S3.h q)=aa 64 (sha l.flatten):=gS fun i hi=>by
          unfold eH;rw[Ρ Ω,HFIN.out]
         rw[hro]at ho;have HO:=Hd ho;have HA:=Hd hat
         have HSZ:=Hd (show(prog.info? 75).map (·.size)=some (aa 64 (sha l.flatten)).size by rw[qJ,ai]);clear ho hro hat HFIN;go_wp2_with (first
          | ((refine ϗ (.load 75 _) ?_);refine XW rfl 75 _ rfl ob rfl 75 (aa 64 (sha l.flatten)) (0,0) _ HO.out underlying75 rfl HSZ.out ?_)
          | ((refine ϗ (.store 75 _ _) ?_);refine Xu rfl 75 _ _ rfl rfl w.heap.size (aa 64 (sha l.flatten)) rfl rfl 75 _ HA.out.res HSZ.out (by rw[ai,ai]) (bS _ _) ?_))
         refine Ϣ (Yy rfl _ _ w.heap.size 75 (aa 64 (sha l.flatten)) (0,0) _ rfl (aF HA.out.res) underlying75 rfl HSZ.out) rfl ?_;exact⟨rfl,aZ HA.out.bel (Xn _) _⟩
end Shb
def aX(x:BitVec 32)(n:Nat):BitVec 32:=x<<<n|||x>>>(32-n)
def eF(x:Γ):BitVec 32:=x.setWidth 32
def wQ(x:BitVec 32):BitVec 32:=aX x 25^^^aX x 14^^^x>>>3
def wR(x:BitVec 32):BitVec 32:=aX x 15^^^aX x 13^^^x>>>10
def Kl(x:BitVec 32):BitVec 32:=aX x 26^^^aX x 21^^^aX x 7
def Km(x:BitVec 32):BitVec 32:=aX x 30^^^aX x 19^^^aX x 10
open Go.RowKit in
theorem j6(x:BitVec 32):bits .xor .u32 (bits .xor .u32 (U (aX x 25)) (U (aX x 14))) (U x/(8:Int))=U (wQ x):=by
 rw[JZ,mA,mA];rfl
open Go.RowKit in
theorem j7(x:BitVec 32):bits .xor .u32 (bits .xor .u32 (U (aX x 15)) (U (aX x 13))) (U x/(1024:Int))=U (wR x):=by
 rw[Hs,mA,mA];rfl
def di(i:Nat):BitVec 32:=BitVec.ofNat 32 ([1116352408,1899447441,3049323471,3921009573,961987163,1508970993,2453635748,2870763221,3624381080,310598401,607225278,1426881987,1925078388,2162078206,2614888103,3248222580,3835390401,4022224774,264347078,604807628,770255983,1249150122,1555081692,1996064986,2554220882,2821834349,2952996808,3210313671,3336571891,3584528711,113926993,338241895,666307205,773529912,1294757372,1396182291,1695183700,1986661051,2177026350,2456956037,2730485921,2820302411,3259730800,3345764771,3516065817,3600352804,4094571909,275423344,430227734,506948616,659060556,883997877,958139571,1322822218,1537002063,1747873779,1955562222,2024104815,2227730452,2361852424,2428436474,2756734187,3204031479,3329325298].getD i 0)
def nX(i:Nat):BitVec 32:=BitVec.ofNat 32 ([1779033703,3144134277,1013904242,2773480762,1359893119,2600822924,528734635,1541459225].getD i 0)
def bB(b:Φ):Nat→Nat→BitVec 32
 | 0=>fun _=>0
 | k+1=>upd (bB b k) (k/4) (bB b k (k/4)<<<8|||eF (b k))
def fK(f:Nat→BitVec 32)(k:Nat):BitVec 32:=wR (f (k-2))+f (k-7)+wQ (f (k-15))+f (k-16)
def cz(Wzq:Nat→BitVec 32):Nat→Nat→BitVec 32
 | 0=>Wzq
 | k+1=>if k<16 then Wzq else upd (cz Wzq k) k (fK (cz Wzq k) k)
def aY(b:Φ):Nat→BitVec 32:=cz (bB b 64) 64
theorem j8(Wzq:Nat→BitVec 32):∀k,k≤16→cz Wzq k=Wzq
 | 0,_=>rfl
 | k+1,h=>by unfold cz;rw[Ρ Ω]
theorem iN(Wzq:Nat→BitVec 32){k:Nat}(h:16≤k):cz Wzq (k+1)=upd (cz Wzq k) k (fK (cz Wzq k) k):=by
 rw[cz,Χ Ω]
def zE(K Wzq:Nat→BitVec 32)(t:Nat)(v:Nat→BitVec 32):BitVec 32:=v 7+Kl (v 4)+(v 4&&&v 5 ^^^ ~~~(v 4)&&&v 6)+K t+Wzq t
def Iu(v:Nat→BitVec 32):BitVec 32:=Km (v 0)+(v 0&&&v 1^^^v 0&&&v 2^^^v 1&&&v 2)
def rnd(K Wzq:Nat→BitVec 32)(t:Nat)(v:Nat→BitVec 32):Nat→BitVec 32
 | 0=>zE K Wzq t v+Iu v
 | 1=>v 0
 | 2=>v 1
 | 3=>v 2
 | 4=>v 3+zE K Wzq t v
 | 5=>v 4
 | 6=>v 5
 | 7=>v 6
 | _=>0
def dz(K Wzq:Nat→BitVec 32)(h:Nat→BitVec 32):Nat→Nat→BitVec 32
 | 0=>h
 | t+1=>rnd K Wzq t (dz K Wzq h t)
def block(K:Nat→BitVec 32)(h:Nat→BitVec 32)(b:Φ):Nat→BitVec 32:=fun i=>h i+dz K (aY b) h 64 i
structure St where
 h:Nat→BitVec 32
 b:Nat→Γ
 n:Nat
def a6(s:St)(x:Γ):St :=
 if s.n<63 then⟨s.h,upd s.b s.n x,s.n+1⟩else⟨block di s.h (upd s.b s.n x),upd s.b s.n x,0⟩
def st0:St:=⟨nX,fun _=>0,0⟩
def aB(s:St)(m:Δ):St:=m.foldl a6 s
theorem bM(s:St)(a b:Δ):aB s (a++b)=aB (aB s a) b:=List.foldl_append
theorem df(s:St)(a:Δ)(x:Γ):aB s (a++[x])=a6 (aB s a) x:=by rw[bM];rfl
theorem eN(s:St)(x:Γ):(a6 s x).n<64:=by
 unfold a6;split
 ·show s.n+1<64;omega
 ·show 0<64;omega
theorem cR{s:St}(hs:s.n<64)(m:Δ):(aB s m).n<64:=by
 unfold aB
 induction m generalizing s with
 | nil=>exact hs
 | cons x m ih=>exact ih (eN s x)
theorem jm{s:St}(hs:s.n<64)(x:Γ):(a6 s x).n=(s.n+1)%64:=by
 unfold a6;split
 ·show s.n+1=_;omega
 ·show 0=_;omega
theorem mK{s:St}(hs:s.n<64)(m:Δ):(aB s m).n=(s.n+m.length)%64:=by
 unfold aB
 induction m generalizing s with
 | nil=>simp;omega
 | cons x m ih =>
  show((m.foldl a6 (a6 s x))).n=_;rw[ih (eN s x),jm hs,XZ];omega
def cV(n:Nat):Nat:=(119-n%64)%64
def ay(n:Nat)(i:Nat):Γ:=BitVec.ofNat 8 (8*n/2^(8*(7-i)))
def aG(n:Nat):Δ:=(List.range 8).map (ay n)
def pad(m:Δ):Δ:=m++[128]++List.replicate (cV m.length) 0++aG m.length
def cm(h:Nat→BitVec 32)(i:Nat):Γ:=(h (i/4)>>>(24-8*(i%4))).setWidth 8
def sha(m:Δ):Nat→Γ:=cm (aB st0 (pad m)).h
theorem bV(n:Nat){j:Nat}(h:j<8):(aG n).take (j+1)=(aG n).take j++[ay n j]:=by
 rw[Xo (by simp[aG];exact h)];simp[aG]
theorem bu(n j:Nat):B8 (ay n j)=((8*n/2^(8*(7-j))%256:Nat):Int):=by
 unfold ay B8;rw[Xv]
theorem gP(m:Δ):(pad m).length%64=0:=by
 unfold pad cV aG;simp only[Xa,XZ,ZB,Zx,ZT,ZX];omega
def acc(b:Φ)(i:Nat):Nat→BitVec 32
 | 0=>0
 | r+1=>acc b i r<<<8|||eF (b (4*i+r))
theorem ke(b:Φ)(i:Nat):∀k,bB b k i=acc b i (min 4 (k-4*i))
 | 0=>by simp[bB,acc]
 | k+1=>by
  have ih:=ke b i k;unfold bB upd;by_cases e:i=k/4
  ·rw[Ρ e,← e,ih]
   have h1:min 4 (k-4*i)=k-4*i:=Ω;have h2:min 4 (k+1-4*i)=(k-4*i)+1:=Ω;rw[h1,h2,acc,show 4*i+(k-4*i)=k by omega]
  ·rw[Χ e,ih]
   congr 1;omega
def qK(b:Φ)(i:Nat):BitVec 32:=eF (b (4*i))<<<24|||eF (b (4*i+1))<<<16|||eF (b (4*i+2))<<<8|||eF (b (4*i+3))
theorem Fz(b:Φ)(i:Nat):acc b i 4=qK b i:=by
 simp only[acc,qK,BitVec.shiftLeft_or_distrib,← BitVec.shiftLeft_add];simp
def wU(b:Φ)(i:Nat):BitVec 32:=if i<16 then qK b i else 0
theorem qv(b:Φ):bB b 64=wU b:=by
 funext i;rw[ke];unfold wU;by_cases h:i<16
 ·rw[Ρ h,show min 4 (64-4*i)=4 by omega,Fz]
 ·rw[Χ h,show min 4 (64-4*i)=0 by omega];rfl
theorem gQ{b b':Φ}:∀k,(∀i,i<k→b i=b' i)→bB b k=bB b' k
 | 0,_=>rfl
 | k+1,h=>by
  have ih:=gQ k (fun i hi=>h i Ω);unfold bB;rw[ih,h k Ω]
theorem fQ{K h:Nat→BitVec 32}{b b':Φ}(hb:∀i,i<64→b i=b' i):block K h b=block K h b':=by
 unfold block aY;rw[gQ 64 hb]
def aI(m:Φ):Nat→Nat→BitVec 32
 | 0=>nX
 | k+1=>block di (aI m k) (fun j=>m (64*k+j))
theorem gR(h:Nat→BitVec 32):∀(c:Δ) (b:Φ) (n:Nat),n+c.length<64 →
 ∃b',aB ⟨h,b,n⟩ c=⟨h,b',n+c.length⟩∧(∀i,i<n→b' i=b i)∧∀i (hi:i<c.length),b' (n+i)=c[i]
 | [],b,n,_=>⟨b,rfl,fun _ _=>rfl,fun i hi=>absurd hi Ϡ⟩
 | x::c,b,n,hn=>by
  simp only[XZ]at hn;obtain⟨b',e,h1,h2⟩:=gR h c (upd b n x) (n+1) Ω;refine⟨b',?_,?_,?_⟩
  ·show aB (a6 ⟨h,b,n⟩ x) c=_
   have:a6 ⟨h,b,n⟩ x=⟨h,upd b n x,n+1⟩:=by unfold a6;rw[Ρ (by show n<63;omega)]
   rw[this,e];congr 1;simp only[XZ];omega
  ·intro i hi
   rw[h1 i Ω];unfold upd;rw[Χ Ω]
  ·intro i hi
   cases i with
   | zero=>rw[Zm,h1 n Ω];simp[upd]
   | succ i =>
    have:=h2 i (by simpa using hi);rw[show n+(i+1)=n+1+i by omega,this];rfl
theorem kf(h:Nat→BitVec 32)(b:Φ)(c:Δ)(hc:c.length=64):∃b',aB ⟨h,b,0⟩ c=⟨block di h (fun j=>c.getD j 0),b',0⟩:=by
 have hne:c≠[]:=fun e=>by rw[e]at hc;cases hc
 obtain⟨b',e,_,h2⟩:=gR h c.dropLast b 0 (by rw[List.length_dropLast];omega);have hs:c.dropLast++[c.getLast hne]=c:=Zk hne;have hl:c.dropLast.length=63:=by rw[List.length_dropLast];omega
 have hT:aB ⟨h,b,0⟩ c=a6 (aB ⟨h,b,0⟩ c.dropLast) (c.getLast hne):=by
  rw[← df,hs]
 have hb:block di h (upd b' 63 (c.getLast hne))=block di h (fun j=>c.getD j 0):=by
  refine fQ fun i hi=>?_;unfold upd;by_cases e63:i=63
  ·subst e63
   rw[Ρ rfl,List.getD_eq_getElem?_getD,List.getElem?_eq_getElem Ω,Option.getD_some,List.getLast_eq_getElem];congr 1;omega
  ·rw[Χ e63]
   have:=h2 i Ω;rw[XA]at this;rw[this,List.getD_eq_getElem?_getD,List.getElem?_eq_getElem Ω,Option.getD_some,List.getElem_dropLast]
 refine⟨upd b' 63 (c.getLast hne),?_⟩;rw[hT,e,hl];unfold a6;rw[Χ Ϡ];simp only[XA];rw[hb]
theorem eO(m:Φ):∀(q k:Nat) (p:Δ) (b:Φ),p.length=64*q→(∀i,i<p.length→p.getD i 0=m (64*k+i)) →
 ∃b',aB ⟨aI m k,b,0⟩ p=⟨aI m (k+q),b',0⟩
 | 0,k,p,b,hl,_=>by
  have:p=[]:=XG Ω;subst this;exact⟨b,rfl⟩
 | q+1,k,p,b,hl,hm=>by
  have hs:p=p.take 64++p.drop 64:=(List.take_append_drop 64 p).symm;have h64:(p.take 64).length=64:=by rw[Xr];omega
  obtain⟨b1,e1⟩:=kf (aI m k) b (p.take 64) h64;have eb:block di (aI m k) (fun j=>(p.take 64).getD j 0)=aI m (k+1):=by
   refine fQ fun i hi=>?_;rw[← hm i Ω,List.getD_eq_getElem?_getD,List.getD_eq_getElem?_getD,List.getElem?_take_of_lt hi]
  rw[eb]at e1;obtain⟨b2,e2⟩:=eO m q (k+1) (p.drop 64) b1 (by rw[Xz];omega) (fun i hi=>by
   rw[Xz]at hi;rw[List.getD_eq_getElem?_getD,List.getElem?_drop,← List.getD_eq_getElem?_getD,hm (64+i) Ω];congr 1;omega)
  refine⟨b2,?_⟩;rw[hs,bM,e1,e2];congr 2;omega
theorem ma(m:Δ):sha m=cm (aI (fun i=>(pad m).getD i 0) ((pad m).length/64)):=by
 have hl:=gP m;obtain⟨b',e⟩:=eO (fun i=>(pad m).getD i 0) ((pad m).length/64) 0 (pad m) (fun _=>0) Ω (fun i _=>by simp);unfold sha st0;rw[show nX=aI (fun i=>(pad m).getD i 0) 0 from rfl,e,XA]
end Go.Proofs.YtoifhhljfaoejaaGreatDoor
