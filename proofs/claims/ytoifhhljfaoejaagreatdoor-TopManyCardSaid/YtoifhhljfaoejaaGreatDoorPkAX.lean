/-
  Lemmas of the law, part 24: the walks of the functions that it calls and the plain facts about them. No condition beyond those written.
-/
import Derived.Test.YtoifhhljfaoejaaGreatDoorPkAA
import Derived.Test.YtoifhhljfaoejaaGreatDoorPkAW
namespace Go.Proofs.YtoifhhljfaoejaaGreatDoor.R3
open Go Go.Proofs.YtoifhhljfaoejaaGreatDoor Go.RowKit
set_option linter.unusedVariables false
set_option linter.unusedSimpArgs false
instance iRqW1:RowTy 296 33:=⟨⟨_,Tryz.underlying296,rfl⟩,by kernel_rfl⟩
instance iRqW2:RowZ 296 (rowI 33 fun _=>0):=⟨by kernel_rfl⟩
def rowD (n:Nat) (x:Nat):Array Value:=rowI n fun i=>(dgB x i:Int)
instance iRqW3 (n x:Nat):Row1 (rowD n x) n:=inferInstanceAs (Row1 (rowI n _) n)
theorem cellD {n k:Nat} (x:Nat) (h:k<n):Cell (rowD n x) k (.int .i64 (dgB x k:Nat)):=cellI (fun i=>(dgB x i:Int)) h
theorem was_ord {w:World} [h:Glob w] {k:Nat} (hk:k<32):Was w 5 k (.int .i64 (dgB Qo k:Nat)):=⟨by have:=h.ord k hk;rw [dgB_byte] at this;exact this,by have:=h.lt;omega⟩
def stL (n k i:Nat):Int:=if i<k then rawQ n i % 256 else (dgB n i:Int)
theorem put_L (n:Nat) {k:Nat} (h:k<33) (x:Int) (e:x=rawQ n k % 256):Put (rowI 33 (stL n k)) k (.int .i64 x) (rowI 33 (stL n (k+1))):=putI h fun i hi=>by
 unfold stL
 rw [e]
 by_cases c:i=k
 ·subst c;rw [if_pos rfl,if_pos (by omega)]
 ·rw [if_neg c]
  by_cases h:i<k
  ·rw [if_pos h,if_pos (by omega)]
  ·rw [if_neg h,if_neg (by omega)]
theorem dgQ_32:dgB Qo 32=0:=by decide +kernel
set_option maxRecDepth 100000 in
set_option maxHeartbeats 2000000 in
theorem lessq_any (n:Nat) (hn:n<2 ^ 264) (w:World) [hG:Glob w]:Calls Tryz.prog 233 #[.agg (rowD 33 n)] w fun e w'=>e= .returned (.agg (rowD 33 (offQ n)))∧Below w.heap.size w w':=by
 have hL:=Loc.nil w
 have HZ:=Lib.hid (show rowD 33 n=rowI 33 (stL n 0) from rowI_congr fun i _=>by unfold stL;rw [if_neg (by omega)])
 have HI:=Lib.hid (bq_iff hn)
 have HS:=Lib.hid (fun (h:Qo≤n)=>show rowI 33 (stL n 33)=rowD 33 (offQ n) from rowI_congr fun i hi=>by
  have e:offQ n=n - Qo:=by unfold offQ;rw [if_neg (by omega)]
  unfold stL
  rw [if_pos hi,e]
  exact subQ_dg hn h i hi)
 have HT:=Lib.hid (fun (h:n<Qo)=>show rowD 33 n=rowD 33 (offQ n) from by unfold offQ;rw [if_pos h])
 clear hn
 go_enter Tryz.func233,Tryz.ntmps233
 go_wp2_with (first | ((with_reducible refine gS 1 ?_);refine aBp ?_;clear hL;intro b1 w1 hL) | ((with_reducible refine gS 2 ?_);refine aBp ?_;clear hL;intro b2 w1 hL) | ((with_reducible refine gS 3 ?_);refine aBp ?_;clear hL;intro b3 w1 hL) | (refine aL4S2C9q ?_;clear hL;intro w1 hL) | (refine aX1A1q ?_;clear hL;intro b w1 hL))
 go_loopw [4,5] (fun cc kk wr=>∃ k:Nat,k≤33∧kk= .int .i64 k∧cc= .int .i64 (bq n k)∧Loc w wr [(b3,rowI 33 (stL n k),296),(b2,rowI 33 fun _=>0,296),(b1,rowD 33 n,296)]) (fun _ kk _=>33 - (intOf kk).toNat)
 case atStart=>exact ⟨0,by omega,rfl,rfl,by rw [← HZ.out];exact hL⟩
 case round =>
  clear hL
  obtain ⟨k,hk,rfl,rfl,hL⟩:=hrel
  by_cases hlt:k<33
  ·have hk0:(0:Int)≤(k:Int):=by omega
   have hk1:(k:Int)<33:=by omega
   have hb:=bq_bd n k
   have hd:=dgB_lt n k
   have hq:=dgB_lt Qo k
   have hs:=bq_succ n k
   have hr:rawQ n k=(dgB n k:Int) - dgB Qo k - bq n k:=rfl
   haveI g1:Cell (rowD 33 n) k (.int .i64 (dgB n k:Nat)):=cellD n hlt
   by_cases h32:k<32
   ·haveI g2:Was w 5 k (.int .i64 (dgB Qo k:Nat)):=was_ord h32
    have h32':(k:Int)<32:=by omega
    by_cases hneg:rawQ n k<0
    ·have HB:=Lib.hid (show bq n (k+1)=1 from by omega)
     haveI p1:Put (rowI 33 (stL n k)) k (.int .i64 ((dgB n k:Nat) - bq n k - (dgB Qo k:Nat)+256)) (rowI 33 (stL n (k+1))):=put_L n hlt _ (by omega)
     have hneg':(dgB n k:Int) - bq n k - dgB Qo k<0:=by omega
     clear hs hr hneg
     generalize stL n k=s at *
     generalize dgB n k=d at *
     generalize dgB Qo k=q at *
     generalize bq n k=c at *
     have w1:IntKind.i64.wrap ((d:Int) - c)=(d:Int) - c:=IntWalk.i64_in _ (by omega)
     have w2:IntKind.i64.wrap ((d:Int) - c - q)=(d:Int) - c - q:=IntWalk.i64_in _ (by omega)
     have w3:IntKind.i64.wrap ((d:Int) - c - q+256)=(d:Int) - c - q+256:=IntWalk.i64_in _ (by omega)
     go_wp2_with (first | (refine aL4S2C9q ?_;clear hL;intro w1 hL) | (refine aX1A1q ?_;clear hL;intro b w1 hL))
     go_roundw
     case rel=>exact ⟨k+1,by omega,by go_num,by rw [HB.out],hL⟩
     case measure=>simp [intOf];omega
    ·have HB:=Lib.hid (show bq n (k+1)=0 from by omega)
     haveI p1:Put (rowI 33 (stL n k)) k (.int .i64 ((dgB n k:Nat) - bq n k - (dgB Qo k:Nat))) (rowI 33 (stL n (k+1))):=put_L n hlt _ (by omega)
     have hneg':¬ (dgB n k:Int) - bq n k - dgB Qo k<0:=by omega
     have hneg2:0≤(dgB n k:Int) - bq n k - dgB Qo k:=by omega
     clear hs hr hneg
     generalize stL n k=s at *
     generalize dgB n k=d at *
     generalize dgB Qo k=q at *
     generalize bq n k=c at *
     have w1:IntKind.i64.wrap ((d:Int) - c)=(d:Int) - c:=IntWalk.i64_in _ (by omega)
     have w2:IntKind.i64.wrap ((d:Int) - c - q)=(d:Int) - c - q:=IntWalk.i64_in _ (by omega)
     go_wp2_with (first | (refine aL4S2C9q ?_;clear hL;intro w1 hL) | (refine aX1A1q ?_;clear hL;intro b w1 hL))
     go_roundw
     case rel=>exact ⟨k+1,by omega,by go_num,by rw [HB.out],hL⟩
     case measure=>simp [intOf];omega
   ·obtain rfl:k=32:=by omega
    rw [dgQ_32] at hr
    by_cases hneg:rawQ n 32<0
    ·have HB:=Lib.hid (show bq n (32+1)=1 from by omega)
     haveI p1:Put (rowI 33 (stL n 32)) 32 (.int .i64 ((dgB n 32:Nat) - bq n 32+256)) (rowI 33 (stL n (32+1))):=put_L n hlt _ (by omega)
     have hneg':(dgB n 32:Int) - bq n 32<0:=by omega
     clear hs hr hneg
     generalize stL n 32=s at *
     generalize dgB n 32=d at *
     generalize bq n 32=c at *
     have w1:IntKind.i64.wrap ((d:Int) - c)=(d:Int) - c:=IntWalk.i64_in _ (by omega)
     have w3:IntKind.i64.wrap ((d:Int) - c+256)=(d:Int) - c+256:=IntWalk.i64_in _ (by omega)
     go_wp2_with (first | (refine aL4S2C9q ?_;clear hL;intro w1 hL) | (refine aX1A1q ?_;clear hL;intro b w1 hL))
     go_roundw
     case rel=>exact ⟨32+1,by omega,by go_num,by rw [HB.out],hL⟩
     case measure=>simp [intOf]
    ·have HB:=Lib.hid (show bq n (32+1)=0 from by omega)
     haveI p1:Put (rowI 33 (stL n 32)) 32 (.int .i64 ((dgB n 32:Nat) - bq n 32)) (rowI 33 (stL n (32+1))):=put_L n hlt _ (by omega)
     have hneg':¬ (dgB n 32:Int) - bq n 32<0:=by omega
     have hneg2:0≤(dgB n 32:Int) - bq n 32:=by omega
     clear hs hr hneg
     generalize stL n 32=s at *
     generalize dgB n 32=d at *
     generalize bq n 32=c at *
     have w1:IntKind.i64.wrap ((d:Int) - c)=(d:Int) - c:=IntWalk.i64_in _ (by omega)
     go_wp2_with (first | (refine aL4S2C9q ?_;clear hL;intro w1 hL) | (refine aX1A1q ?_;clear hL;intro b w1 hL))
     go_roundw
     case rel=>exact ⟨32+1,by omega,by go_num,by rw [HB.out],hL⟩
     case measure=>simp [intOf]
  ·obtain rfl:k=33:=by omega
   rcases HI.out with ⟨h1,h2⟩ | ⟨h1,h2⟩
   ·rw [h1]
    rw [HS.out h2] at hL
    clear h2
    go_wp2_with (first | (refine aL4S2C9q ?_;clear hL;intro w1 hL) | (refine aX1A1q ?_;clear hL;intro b w1 hL))
    exact bodyPost_ret (results_loc rfl hL rfl) rfl ⟨rfl,hL.bel⟩
   ·rw [h1]
    rw [HT.out h2] at hL
    clear h2
    go_wp2_with (first | (refine aL4S2C9q ?_;clear hL;intro w1 hL) | (refine aX1A1q ?_;clear hL;intro b w1 hL))
    exact bodyPost_ret (results_loc rfl hL rfl) rfl ⟨rfl,hL.bel⟩
instance iRqW4:Ent 233:=Ent.of Tryz.func233 (by kernel_rfl) rfl
def stR (n c k i:Nat):Int:=if i<k then (dgB (2*n+c) i:Int) else (dgB n i:Int)
theorem put_R (n c:Nat) {k:Nat} (h:k<33) (x:Int) (e:x=(dgB (2*n+c) k:Int)):Put (rowI 33 (stR n c k)) k (.int .i64 x) (rowI 33 (stR n c (k+1))):=putI h fun i hi=>by
 unfold stR
 rw [e]
 by_cases c:i=k
 ·subst c;rw [if_pos rfl,if_pos (by omega)]
 ·rw [if_neg c]
  by_cases h:i<k
  ·rw [if_pos h,if_pos (by omega)]
  ·rw [if_neg h,if_neg (by omega)]
def byP (n k:Nat):Nat→BitVec 8:=fun i=>if i<k then byteN n i else 0
theorem put_P (n:Nat) {k:Nat} (h:k<32):Put (rowB 32 (byP n k)) k (.int .u8 (dgB n k:Nat)) (rowB 32 (byP n (k+1))):=row_put h (row_congr fun i _=>by
 unfold upd byP
 by_cases e:i=k
 ·subst e;rw [if_pos rfl,if_pos (by omega)];unfold B8;rw [dgB_byte]
 ·rw [if_neg e]
  show Value.int .u8 (B8 (if i<k then byteN n i else 0))=_
  by_cases h:i<k
  ·rw [if_pos h,if_pos (by omega)]
  ·rw [if_neg h,if_neg (by omega)])
set_option maxRecDepth 100000 in
set_option maxHeartbeats 2000000 in
theorem refRed_any (f:Nat→BitVec 8) (n c B:Nat) (w:World) [hG:Glob w] (hn:n≤64) (hcap:n≤c) (hw:∀ i,i<n→Was w B i (.int .u8 (B8 (f i)))) :
 Calls Tryz.prog 186 #[.slice (some ⟨B,0,none⟩) n c] w fun e w'=>e= .returned (.agg (rowB 32 (byteN (leK f n % Qo))))∧Below w.heap.size w w':=by
 have hL:=Loc.nil w
 have HW:=Lib.hid hw
 have hn1:(n:Int)≤64:=by omega
 have hn0:(0:Int)≤(n:Int):=by omega
 have HBIT:=Lib.hid (fun i (h:i<8*n)=>leK_bit f h)
 have HZ:=Lib.hid (show rowI 33 (fun _=>0)=rowD 33 (leK f n / 2 ^ (8*n) % Qo) from by
  rw [Nat.div_eq_of_lt (leK_lt f n),Nat.zero_mod]
  exact rowI_congr fun i _=>by unfold dgB;simp)
 generalize leK f n=A at *
 go_enter Tryz.func186,Tryz.ntmps186
 go_wp2_with (first | ((with_reducible refine gS 2 ?_);refine aBp ?_;clear hL;intro b2 w1 hL) | ((with_reducible refine gS 3 ?_);refine aBp ?_;clear hL;intro b3 w1 hL) | (refine aL4S2C9q ?_;clear hL;intro w1 hL) | (refine aX1A1q ?_;clear hL;intro b w1 hL))
 rw [HZ.out] at hL
 have hm:8*(n:Int) - 1=((8*n:Nat):Int) - 1:=by omega
 rw [hm]
 go_loopw [4] (fun kk wr=>∃ s:Nat,s≤8*n∧kk= .int .i64 ((s:Int) - 1)∧Loc w wr [(b3,rowD 33 (A / 2 ^ s % Qo),296),(b2,rowB 32 fun _=>0,24)]) (fun kk _=>(intOf kk+1).toNat)
 case atStart=>exact ⟨8*n,Nat.le_refl _,rfl,hL⟩
 case round =>
  clear hL
  obtain ⟨s,hs,rfl,hL⟩:=hrel
  by_cases hlt:0<s
  ·obtain ⟨p,rfl⟩:∃ p,s=p+1:=⟨s - 1,by omega⟩
   have ep:((p+1:Nat):Int) - 1=(p:Int):=by omega
   rw [ep]
   have hp8:p<8*n:=by omega
   have hbit:=HBIT.out p hp8
   have HRED:=Lib.hid (red_down A p)
   haveI g1:Was w B (p / 8) (.int .u8 (B8 (f (p / 8)))):=HW.out (p / 8) (by omega)
   obtain ⟨b0,b1⟩:=B8_bd (f (p / 8))
   have hv:bits .and .i64 (B8 (f (p / 8)) / 2 ^ (p % 8)) 1=((A / 2 ^ p % 2:Nat):Int):=by
    rw [and_one,hbit]
    unfold B8
    rw [Int.natCast_emod,Int.natCast_ediv,Int.natCast_pow];rfl
   have p0:(0:Int)≤(p:Int):=by omega
   have e1:(p:Int) / 8=((p / 8:Nat):Int):=by omega
   have e2:(p:Int) % 8=((p % 8:Nat):Int):=by omega
   have e3:(p:Int).tdiv 8=((p / 8:Nat):Int):=by rw [Int.tdiv_eq_ediv_of_nonneg (by omega)];omega
   have e4:(p:Int).tmod 8=((p % 8:Nat):Int):=by rw [Int.tmod_eq_emod_of_nonneg (by omega)];omega
   have q0:(0:Int)≤((p / 8:Nat):Int):=by omega
   have q1:((p / 8:Nat):Int)<(n:Int):=by omega
   have r0:(0:Int)≤((p % 8:Nat):Int):=by omega
   have r1:((p % 8:Nat):Int)<8:=by omega
   have HP:=Lib.hid hp8
   have hbl:A / 2 ^ p % 2≤1:=by omega
   clear hbit hlt hs
   have hN:A / 2 ^ (p+1) % Qo<Qo:=Nat.mod_lt _ Qo_pos
   have hQ:2*Qo<2 ^ 264:=by decide +kernel
   have HOFF:=Lib.hid (show offQ (2*(A / 2 ^ (p+1) % Qo)+A / 2 ^ p % 2)=A / 2 ^ p % Qo from by rw [offQ_mod (by omega),red_down A p,← Nat.two_mul])
   haveI fl:FnG 233 #[.agg (rowD 33 (2*(A / 2 ^ (p+1) % Qo)+A / 2 ^ p % 2))] (.agg (rowD 33 (A / 2 ^ p % Qo))):=⟨fun w hw=>by rw [← HOFF.out];exact lessq_any _ (by omega) w⟩
   clear hN hQ HOFF HRED
   have HC0:=Lib.hid (crK_zero (A / 2 ^ (p+1) % Qo) (A / 2 ^ p % 2))
   have HCL:=Lib.hid (crK_le (A / 2 ^ (p+1) % Qo) (A / 2 ^ p % 2) hbl)
   generalize A / 2 ^ (p+1) % Qo=N at *
   generalize A / 2 ^ p % 2=bit at *
   generalize p / 8=q at *
   generalize p % 8=r at *
   generalize B8 (f q)=u at *
   have wu:IntKind.i64.wrap u=u:=IntWalk.i64_in _ (by omega)
   go_wp2_with (first | (refine aL4S2C9q ?_;clear hL;intro w1 hL) | (refine aX1A1q ?_;clear hL;intro b w1 hL))
   have HR0:=Lib.hid (show rowD 33 N=rowI 33 (stR N bit 0) from rowI_congr fun i _=>by unfold stR;rw [if_neg (by omega)])
   have HR1:=Lib.hid (show rowI 33 (stR N bit 33)=rowD 33 (2*N+bit) from rowI_congr fun i hi=>by unfold stR;rw [if_pos hi])
   go_loopw [5,6] (fun cc kk wr=>∃ k:Nat,k≤33∧kk= .int .i64 k∧cc= .int .i64 (crK N bit k:Nat)∧Loc w wr [(b3,rowI 33 (stR N bit k),296),(b2,rowB 32 fun _=>0,24)]) (fun _ kk _=>33 - (intOf kk).toNat)
   case atStart=>exact ⟨0,by omega,rfl,by rw [HC0.out],by rw [← HR0.out];exact hL⟩
   case round =>
    clear hL
    obtain ⟨k,hk,rfl,rfl,hL⟩:=hrel
    by_cases hkl:k<33
    ·have hk0:(0:Int)≤(k:Int):=by omega
     have hk1:(k:Int)<33:=by omega
     have hd:=dgB_lt N k
     have hc:=HCL.out k
     have ht:=twice_dg N bit k
     have HCS:=Lib.hid (crK_succ N bit k)
     have ha:=and_255 (2*(dgB N k:Int)+(crK N bit k:Int))
     haveI g2:Cell (rowI 33 (stR N bit k)) k (.int .i64 (dgB N k:Nat)):=by
      have:stR N bit k k=(dgB N k:Int):=by unfold stR;rw [if_neg (by omega)]
      rw [← this];exact cellI _ hkl
     haveI p1:Put (rowI 33 (stR N bit k)) k (.int .i64 (bits .and .i64 (2*(dgB N k:Int)+(crK N bit k:Int)) 255)) (rowI 33 (stR N bit (k+1))):=put_R N bit hkl _ (by rw [ha,ht];omega)
     clear ha ht
     generalize stR N bit k=st at *
     generalize hcr:crK N bit (k+1)=c' at *
     generalize dgB N k=d at *
     generalize crK N bit k=c at *
     have w1:IntKind.i64.wrap (2*(d:Int))=2*(d:Int):=IntWalk.i64_in _ (by omega)
     have w2:IntKind.i64.wrap (2*(d:Int)+c)=2*(d:Int)+c:=IntWalk.i64_in _ (by omega)
     have hcc:(2*(d:Int)+c) / 256=(c':Int):=by have:=HCS.out;omega
     have HCR:=Lib.hid hcr
     clear hcr
     go_wp2_with (first | (refine aL4S2C9q ?_;clear hL;intro w1 hL) | (refine aX1A1q ?_;clear hL;intro b w1 hL))
     go_roundw
     case rel=>exact ⟨k+1,by omega,by go_num,by rw [HCR.out],hL⟩
     case measure=>simp [intOf];omega
    ·obtain rfl:k=33:=by omega
     rw [HR1.out] at hL
     go_wp2_with (first | (refine aL4S2C9q ?_;clear hL;intro w1 hL) | (refine aX1A1q ?_;clear hL;intro b w1 hL))
     go_roundw
     case rel=>exact ⟨p,by have:=HP.out;omega,rfl,hL⟩
     case measure=>simp [intOf]
  ·obtain rfl:s=0:=by omega
   rw [Nat.pow_zero,Nat.div_one] at hL
   have k1:((0:Nat):Int) - 1= -1:=by omega
   rw [k1]
   clear k1 hs hlt HW HBIT HZ
   have HB0:=Lib.hid (show (rowB 32 fun _=>0)=rowB 32 (byP (A % Qo) 0) from row_congr fun i _=>by unfold byP;rw [if_neg (by omega)])
   have HB1:=Lib.hid (show rowB 32 (byP (A % Qo) 32)=rowB 32 (byteN (A % Qo)) from row_congr fun i hi=>by unfold byP;rw [if_pos hi])
   go_wp2_with (first | ((with_reducible refine gS 8 ?_);refine aBp ?_;clear hL;intro b8 w1 hL) | (refine aL4S2C9q ?_;clear hL;intro w1 hL) | (refine aX1A1q ?_;clear hL;intro b w1 hL))
   go_loopw [9] (fun kk wr=>∃ k:Nat,k≤32∧kk= .int .i64 k∧Loc w wr [(b8,rowB 32 (byP (A % Qo) k),24),(b3,rowD 33 (A % Qo),296),(b2,rowB 32 fun _=>0,24)]) (fun kk _=>32 - (intOf kk).toNat)
   case atStart=>exact ⟨0,by omega,rfl,by rw [← HB0.out];exact hL⟩
   case round =>
    clear hL
    obtain ⟨k,hk,rfl,hL⟩:=hrel
    by_cases hkl:k<32
    ·have hk0:(0:Int)≤(k:Int):=by omega
     have hk1:(k:Int)<32:=by omega
     have hk2:(k:Int)<33:=by omega
     have hd:=dgB_lt (A % Qo) k
     haveI g1:Cell (rowD 33 (A % Qo)) k (.int .i64 (dgB (A % Qo) k:Nat)):=cellD _ (by omega)
     haveI p1:=put_P (A % Qo) hkl
     generalize dgB (A % Qo) k=d at *
     have w1:IntKind.u8.wrap (d:Int)=(d:Int):=by rw [IntKind.wrap_u8];omega
     go_wp2_with (first | (refine aL4S2C9q ?_;clear hL;intro w1 hL) | (refine aX1A1q ?_;clear hL;intro b w1 hL))
     go_roundw
     case rel=>exact ⟨k+1,by omega,by go_num,hL⟩
     case measure=>simp [intOf];omega
    ·obtain rfl:k=32:=by omega
     rw [HB1.out] at hL
     go_wp2_with (first | (refine aL4S2C9q ?_;clear hL;intro w1 hL) | (refine aX1A1q ?_;clear hL;intro b w1 hL))
     exact bodyPost_ret (results_loc rfl hL rfl) rfl ⟨rfl,hL.bel⟩
end Go.Proofs.YtoifhhljfaoejaaGreatDoor.R3
