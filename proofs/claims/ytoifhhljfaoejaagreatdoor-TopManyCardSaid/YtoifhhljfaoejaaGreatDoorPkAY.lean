/-
  Lemmas of the law, part 25: the walks of the functions that it calls and the plain facts about them. No condition beyond those written.
-/
import Derived.Test.YtoifhhljfaoejaaGreatDoorPkAA
import Derived.Test.YtoifhhljfaoejaaGreatDoorPkAX
namespace Go.Proofs.YtoifhhljfaoejaaGreatDoor.R3
open Go Go.Proofs.YtoifhhljfaoejaaGreatDoor Go.RowKit
set_option linter.unusedVariables false
set_option linter.unusedSimpArgs false
instance iRqV2:RowZ 74 (rowB 64 fun _=>0):=⟨by kernel_rfl⟩
theorem put_P64 (n:Nat) {k:Nat} (h:k<64):Put (rowB 64 (byP n k)) k (.int .u8 (dgB n k:Nat)) (rowB 64 (byP n (k+1))):=row_put h (row_congr fun i _=>by
 unfold upd byP
 by_cases e:i=k
 ·subst e;rw [if_pos rfl,if_pos (by omega)];unfold B8;rw [dgB_byte]
 ·rw [if_neg e]
  show Value.int .u8 (B8 (if i<k then byteN n i else 0))=_
  by_cases h:i<k
  ·rw [if_pos h,if_pos (by omega)]
  ·rw [if_neg h,if_neg (by omega)])
theorem was_loc {w0 w:World} {M:Mem} (hL:Loc w0 w M) {b:Nat} {r:Array Value} {t:TypeId} (hm:(b,r,t)∈M) {k:Nat} {v:Value} (hc:r[k]?=some v):Was w b k v :=
 ⟨by rw [cell_of_row w b k _ _ _ (hL.get hm)];exact hc,hL.lt hm⟩
theorem byte_dg (f:Nat→BitVec 8) {k:Nat} (h:k<32):B8 (f k)=(dgB (leN f) k:Nat):=by
 unfold B8 dgB
 rw [leN_byte f h]
set_option maxRecDepth 100000 in
set_option maxHeartbeats 2000000 in
theorem addq_any (f g:Nat→BitVec 8) (w:World) [hG:Glob w]:Calls Tryz.prog 134 #[.agg (rowB 32 f),.agg (rowB 32 g)] w fun e w'=>e= .returned (.agg (rowB 32 (byteN ((leN f+leN g) % Qo))))∧Below w.heap.size w w':=by
 have hL:=Loc.nil w
 have HF:=Lib.hid (fun k (h:k<32)=>byte_dg f h)
 have HG:=Lib.hid (fun k (h:k<32)=>byte_dg g h)
 have hA:=leN_lt f
 have hB:=leN_lt g
 generalize leN f=A at *
 generalize leN g=B at *
 have HS:=Lib.hid (show rowB 64 (byP (A+B) 33)=rowB 64 (byteN (A+B)) from row_congr fun i hi=>by
  unfold byP
  by_cases h:i<33
  ·rw [if_pos h]
  ·rw [if_neg h]
   unfold byteN
   rw [Nat.div_eq_of_lt (Nat.lt_of_lt_of_le (show A+B<2 ^ 256*2 by omega) (pow_next (show 256<8*i by omega)))]
   rfl)
 have HV:=Lib.hid (show leK (byteN (A+B)) 64=A+B from by rw [leK_byteN,Nat.mod_eq_of_lt (by omega)])
 have HD:=Lib.hid (show dgB A 32=0∧dgB B 32=0 from by unfold dgB;rw [Nat.div_eq_of_lt hA,Nat.div_eq_of_lt hB];exact ⟨rfl,rfl⟩)
 clear hA hB
 go_enter Tryz.func134,Tryz.ntmps134
 go_wp2_with (first | ((with_reducible refine gS 2 ?_);refine aBp ?_;clear hL;intro b2 w1 hL) | ((with_reducible refine gS 3 ?_);refine aBp ?_;clear hL;intro b3 w1 hL) | ((with_reducible refine gS 4 ?_);refine aBp ?_;clear hL;intro b4 w1 hL) | ((with_reducible refine gS 5 ?_);refine aBp ?_;clear hL;intro b5 w1 hL) | (refine aL4S2C9q ?_;clear hL;intro w1 hL) | (refine aX1A1q ?_;clear hL;intro b w1 hL))
 have HC0:=Lib.hid (csK_zero A B)
 have HCL:=Lib.hid (csK_le A B)
 have HB0:=Lib.hid (show (rowB 64 fun _=>0)=rowB 64 (byP (A+B) 0) from row_congr fun i _=>by unfold byP;rw [if_neg (by omega)])
 go_loopw [6,7] (fun cc kk wr=>∃ k:Nat,k≤33∧kk= .int .i64 k∧cc= .int .i64 (csK A B k:Nat)∧Loc w wr [(b5,rowB 64 (byP (A+B) k),74),(b4,rowB 32 fun _=>0,24),(b3,rowB 32 g,24),(b2,rowB 32 f,24)]) (fun _ kk _=>33 - (intOf kk).toNat)
 case atStart=>exact ⟨0,by omega,rfl,by rw [HC0.out];rfl,by rw [← HB0.out];exact hL⟩
 case round =>
  clear hL
  obtain ⟨k,hk,rfl,rfl,hL⟩:=hrel
  by_cases hkl:k<33
  ·have hk0:(0:Int)≤(k:Int):=by omega
   have hk1:(k:Int)<33:=by omega
   have hk2:(k:Int)<64:=by omega
   have hd:=dgB_lt A k
   have he:=dgB_lt B k
   have hc:=HCL.out k
   have ht:=sum_dg A B k
   have HCS:=Lib.hid (csK_succ A B k)
   have p1:=put_P64 (A+B) (k:=k) (by omega)
   by_cases h32:k<32
   ·have h32':(k:Int)<32:=by omega
    haveI g1:Cell (rowB 32 f) k (.int .u8 (dgB A k:Nat)):=by rw [← HF.out k h32];exact row_cell _ h32
    haveI g2:Cell (rowB 32 g) k (.int .u8 (dgB B k:Nat)):=by rw [← HG.out k h32];exact row_cell _ h32
    have ha:=and_255 ((csK A B k:Int)+(dgB A k:Int)+(dgB B k:Int))
    have hv:((dgB (A+B) k:Nat):Int)=bits .and .i64 ((csK A B k:Int)+(dgB A k:Int)+(dgB B k:Int)) 255:=by rw [ha,ht];omega
    rw [hv] at p1
    haveI p1:=p1
    generalize hcs:csK A B (k+1)=c' at *
    generalize csK A B k=c at *
    generalize dgB A k=d at *
    generalize dgB B k=e at *
    have w1:IntKind.i64.wrap ((c:Int)+d)=(c:Int)+d:=IntWalk.i64_in _ (by omega)
    have w2:IntKind.i64.wrap ((c:Int)+d+e)=(c:Int)+d+e:=IntWalk.i64_in _ (by omega)
    have w3:IntKind.i64.wrap (d:Int)=(d:Int):=IntWalk.i64_in _ (by omega)
    have w4:IntKind.i64.wrap (e:Int)=(e:Int):=IntWalk.i64_in _ (by omega)
    have w5:IntKind.u8.wrap (bits .and .i64 ((c:Int)+d+e) 255)=bits .and .i64 ((c:Int)+d+e) 255:=by rw [ha,IntKind.wrap_u8];omega
    have hcc:((c:Int)+d+e) / 256=(c':Int):=by have:=HCS.out;omega
    have HCR:=Lib.hid hcs
    clear hcs ha hv ht HF HG
    generalize byP (A+B) k=st at *
    go_wp2_with (first | (refine aL4S2C9q ?_;clear hL;intro w1 hL) | (refine aX1A1q ?_;clear hL;intro b w1 hL))
    refine wp_region_free [(0,true),(1,true),(2,true),(3,false),(4,true),(5,true),(6,true),(7,true),(8,false),(9,true),(10,true),(11,true)] [] [] (by kernel_rfl) (by kernel_rfl) trivial hL ?_
    refine pF ?_
    repeat refine rS ?_
    refine seqO_nil ?_
    refine seqM_nil fun w1 hL1=>?_
    simp only [List.cons_append,List.nil_append] at hL1
    clear hL;have hL:=hL1;clear hL1
    refine p4 ?_
    refine wpList_nil (NoPanic.normal ?_)
    go_wp2_with (first | (refine aL4S2C9q ?_;clear hL;intro w1 hL) | (refine aX1A1q ?_;clear hL;intro b w1 hL))
    go_roundw
    case rel=>exact ⟨k+1,by omega,by go_num,by rw [HCR.out],hL⟩
    case measure=>simp [intOf];omega
   ·obtain rfl:k=32:=by omega
    obtain ⟨z1,z2⟩:=HD.out
    have ha:=and_255 (csK A B 32:Int)
    have hv:((dgB (A+B) 32:Nat):Int)=bits .and .i64 (csK A B 32:Int) 255:=by rw [ha,ht,z1,z2];omega
    rw [hv] at p1
    haveI p1:=p1
    have hcc:(csK A B 32:Int) / 256=(csK A B (32+1):Int):=by have:=HCS.out;omega
    generalize hcs:csK A B (32+1)=c' at *
    generalize csK A B 32=c at *
    have w5:IntKind.u8.wrap (bits .and .i64 (c:Int) 255)=bits .and .i64 (c:Int) 255:=by rw [ha,IntKind.wrap_u8];omega
    have HCR:=Lib.hid hcs
    clear hcs ha hv ht HF HG HCS HD z1 z2 hd he
    generalize byP (A+B) 32=st at *
    go_wp2_with (first | (refine aL4S2C9q ?_;clear hL;intro w1 hL) | (refine aX1A1q ?_;clear hL;intro b w1 hL))
    go_roundw
    case rel=>exact ⟨32+1,by omega,by go_num,by rw [HCR.out],hL⟩
    case measure=>simp [intOf]
  ·obtain rfl:k=33:=by omega
   rw [HS.out] at hL
   have HR:=Lib.hid (fun w1 (h:Loc w w1 [(b5,rowB 64 (byteN (A+B)),74),(b4,rowB 32 fun _=>0,24),(b3,rowB 32 g,24),(b2,rowB 32 f,24)]) =>
    haveI:=h.glob hG
    refRed_any (byteN (A+B)) 64 64 b5 w1 (by omega) (by omega) fun i hi=>was_loc h (.head _) (row_get _ hi))
   rw [HV.out] at HR
   go_wp2_with (first | ((go_at_call 186;refine (HR.out _ hL).mono ?_;rintro e w1 ⟨rfl,hb1⟩;have hL1:=hL.keep hb1;clear hb1;clear hL;have hL:=hL1;clear hL1)) | (refine aL4S2C9q ?_;clear hL;intro w1 hL) | (refine aX1A1q ?_;clear hL;intro b w1 hL))
   exact bodyPost_ret (results_loc rfl hL rfl) rfl ⟨rfl,hL.bel⟩
instance iRqV3:Ent 134:=Ent.of Tryz.func134 (by kernel_rfl) rfl
instance iRqV4 (f g:Nat→BitVec 8):FnG 134 #[.agg (rowB 32 f),.agg (rowB 32 g)] (.agg (rowB 32 (byteN ((leN f+leN g) % Qo)))):=⟨fun w _=>addq_any f g w⟩
def rowT (t:Nat→Nat):Array Value:=rowI 64 fun i=>(t i:Int)
instance iRqV7:RowZ 266 (rowT fun _=>0):=⟨by kernel_rfl⟩
set_option maxRecDepth 100000 in
set_option maxHeartbeats 2000000 in
theorem mulq_any (f g:Nat→BitVec 8) (w:World) [hG:Glob w]:Calls Tryz.prog 135 #[.agg (rowB 32 f),.agg (rowB 32 g)] w fun e w'=>e= .returned (.agg (rowB 32 (byteN (leN f*leN g % Qo))))∧Below w.heap.size w w':=by
 have hL:=Loc.nil w
 have HF:=Lib.hid (fun k (h:k<32)=>byte_dg f h)
 have HG:=Lib.hid (fun k (h:k<32)=>byte_dg g h)
 have hA:=leN_lt f
 have hB:=leN_lt g
 generalize leN f=A at *
 generalize leN g=B at *
 have hV:valN (tQ (dgB A) (dgB B) 32 0) 64=A*B:=by
  rw [tQ_all _ _ 32 (by omega),valN_dg,valN_dg,Nat.mod_eq_of_lt hA,Nat.mod_eq_of_lt hB]
 have HV:=Lib.hid (show leK (byteN (A*B)) 64=A*B from by
  rw [leK_byteN,Nat.mod_eq_of_lt]
  have:=Nat.mul_lt_mul_of_lt_of_lt hA hB
  rwa [← Nat.pow_add,show 256+256=8*64 from rfl] at this)
 have HLIM:=Lib.hid (fun i k j (hi:i≤32)=>tQ_lim (dgB_lt A) (dgB_lt B) i k j hi)
 obtain ⟨T,hT⟩:∃ T,T=tQ (dgB A) (dgB B) 32 0:=⟨_,rfl⟩
 rw [← hT] at hV
 have HT:=Lib.hid hT
 have HTL:=Lib.hid (show ∀ j,T j≤2162688 from fun j=>by rw [hT];exact tQ_lim (dgB_lt A) (dgB_lt B) 32 0 j (by omega))
 have HDG:=Lib.hid (show ∀ k,k<64→dgB (A*B) k=(ctK T k+T k) % 256 from fun k hk=>by rw [← hV];exact ct_dg T hk)
 have HZ:=Lib.hid (show rowT (fun _=>0)=rowT (tQ (dgB A) (dgB B) 0 0) from by rw [tQ_zero])
 clear hA hB hV hT
 go_enter Tryz.func135,Tryz.ntmps135
 go_wp2_with (first | ((with_reducible refine gS 2 ?_);refine aBp ?_;clear hL;intro b2 w1 hL) | ((with_reducible refine gS 3 ?_);refine aBp ?_;clear hL;intro b3 w1 hL) | ((with_reducible refine gS 4 ?_);refine aBp ?_;clear hL;intro b4 w1 hL) | ((with_reducible refine gS 5 ?_);refine aBp ?_;clear hL;intro b5 w1 hL) | (refine aL4S2C9q ?_;clear hL;intro w1 hL) | (refine aX1A1q ?_;clear hL;intro b w1 hL))
 rw [HZ.out] at hL
 go_loopw [6] (fun kk wr=>∃ i:Nat,i≤32∧kk= .int .i64 i∧Loc w wr [(b5,rowT (tQ (dgB A) (dgB B) i 0),266),(b4,rowB 32 fun _=>0,24),(b3,rowB 32 g,24),(b2,rowB 32 f,24)]) (fun kk _=>32 - (intOf kk).toNat)
 case atStart=>exact ⟨0,by omega,rfl,hL⟩
 case round =>
  clear hL
  obtain ⟨i,hi,rfl,hL⟩:=hrel
  by_cases hlt:i<32
  ·have hi0:(0:Int)≤(i:Int):=by omega
   have hi1:(i:Int)<32:=by omega
   go_wp2_with (first | (refine aL4S2C9q ?_;clear hL;intro w1 hL) | (refine aX1A1q ?_;clear hL;intro b w1 hL))
   go_loopw [7] (fun kk wr=>∃ k:Nat,k≤32∧kk= .int .i64 k∧Loc w wr [(b5,rowT (tQ (dgB A) (dgB B) i k),266),(b4,rowB 32 fun _=>0,24),(b3,rowB 32 g,24),(b2,rowB 32 f,24)]) (fun kk _=>32 - (intOf kk).toNat)
   case atStart=>exact ⟨0,by omega,rfl,hL⟩
   case round =>
    clear hL
    obtain ⟨k,hk,rfl,hL⟩:=hrel
    by_cases hkl:k<32
    ·have hk0:(0:Int)≤(k:Int):=by omega
     have hk1:(k:Int)<32:=by omega
     have ht:=HLIM.out i k (i+k) hi
     have hd:=dgB_lt A i
     have he:=dgB_lt B k
     have hm:=mulB_le hd he
     haveI g1:Cell (rowT (tQ (dgB A) (dgB B) i k)) (i+k) (.int .i64 (tQ (dgB A) (dgB B) i k (i+k):Nat)):=cellI (fun j=>(tQ (dgB A) (dgB B) i k j:Int)) (by omega)
     haveI g2:Cell (rowB 32 f) i (.int .u8 (dgB A i:Nat)):=by rw [← HF.out i hlt];exact row_cell _ hlt
     haveI g3:Cell (rowB 32 g) k (.int .u8 (dgB B k:Nat)):=by rw [← HG.out k hkl];exact row_cell _ hkl
     haveI g4:Put (rowT (tQ (dgB A) (dgB B) i k)) (i+k) (.int .i64 ((tQ (dgB A) (dgB B) i k (i+k):Nat)+(dgB A i:Int)*(dgB B k:Int))) (rowT (tQ (dgB A) (dgB B) i (k+1))):=putI (by omega) fun j hj=>by
      rw [tQ_step]
      simp only
      by_cases e:j=i+k
      ·subst e
       simp only [if_true]
       rw [Int.natCast_add,Int.natCast_mul]
      ·rw [if_neg e,if_neg e]
     generalize tQ (dgB A) (dgB B) i k=s at *
     have hik:(i:Int)+(k:Int)=((i+k:Nat):Int):=by omega
     have hk31:((i+k:Nat):Int)<64:=by omega
     have hk30:(0:Int)≤((i+k:Nat):Int):=by omega
     have wk:IntKind.i64.wrap ((i+k:Nat):Int)=((i+k:Nat):Int):=IntWalk.i64_in _ (by omega)
     generalize i+k=q at *
     generalize s q=t at *
     have hp:(dgB A i:Int)*(dgB B k:Int)=((dgB A i*dgB B k:Nat):Int):=(Int.natCast_mul _ _).symm
     rw [hp] at g4
     generalize dgB A i*dgB B k=p at *
     generalize dgB A i=u at *
     generalize dgB B k=v at *
     have wp:IntKind.i64.wrap (p:Int)=(p:Int):=IntWalk.i64_in _ (by omega)
     have wt:IntKind.i64.wrap ((t:Int)+p)=(t:Int)+p:=IntWalk.i64_in _ (by omega)
     have wu:IntKind.i64.wrap (u:Int)=(u:Int):=IntWalk.i64_in _ (by omega)
     have wv:IntKind.i64.wrap (v:Int)=(v:Int):=IntWalk.i64_in _ (by omega)
     clear HF HG HV HLIM HT HTL HDG HZ hm hd he
     go_wp2_with fail
     refine wp_region_free [(0,true),(1,true),(2,true),(3,true),(4,true),(5,true),(6,true),(7,false),(8,true),(9,true),(10,false),(11,true),(12,true),(13,true),(14,false),(15,true),(16,true),(17,true),(18,true)] [] [19] (by kernel_rfl) (by kernel_rfl) trivial hL ?_
     refine pF ?_
     repeat refine rS ?_
     refine seqO_nil ?_
     refine seqM_nil fun w1 hL1=>?_
     simp only [List.cons_append,List.nil_append] at hL1
     clear hL;have hL:=hL1;clear hL1
     refine p4 ?_
     refine pG ?_
     repeat (refine rW ?_;clear hL;intro w1 hL)
     refine wpList_nil (NoPanic.normal ?_)
     go_wp2_with (first | (refine aL4S2C9q ?_;clear hL;intro w1 hL) | (refine aX1A1q ?_;clear hL;intro b w1 hL))
     go_roundw
     case rel=>exact ⟨k+1,by omega,by go_num,hL⟩
     case measure=>simp [intOf];omega
    ·obtain rfl:k=32:=by omega
     rw [← tQ_row] at hL
     go_wp2_with (first | (refine aL4S2C9q ?_;clear hL;intro w1 hL) | (refine aX1A1q ?_;clear hL;intro b w1 hL))
     go_roundw
     case rel=>exact ⟨i+1,by omega,by go_num,hL⟩
     case measure=>simp [intOf];omega
  ·obtain rfl:i=32:=by omega
   rw [← HT.out] at hL
   clear HF HG HLIM HT HZ hi hlt
   have HB0:=Lib.hid (show (rowB 64 fun _=>0)=rowB 64 (byP (A*B) 0) from row_congr fun i _=>by unfold byP;rw [if_neg (by omega)])
   have HB1:=Lib.hid (show rowB 64 (byP (A*B) 64)=rowB 64 (byteN (A*B)) from row_congr fun i hi=>by unfold byP;rw [if_pos hi])
   have HC0:=Lib.hid (show ctK T 0=0 from by unfold ctK;show 0 / _=0;simp)
   have HCL:=Lib.hid (ctK_lim HTL.out)
   have HCS:=Lib.hid (ctK_succ T)
   generalize ctK T=ct at *
   go_wp2_with (first | ((with_reducible refine gS 8 ?_);refine aBp ?_;clear hL;intro b8 w1 hL) | (refine aL4S2C9q ?_;clear hL;intro w1 hL) | (refine aX1A1q ?_;clear hL;intro b w1 hL))
   go_loopw [9,10] (fun cc kk wr=>∃ k:Nat,k≤64∧kk= .int .i64 k∧cc= .int .i64 (ct k:Nat)∧Loc w wr [(b8,rowB 64 (byP (A*B) k),74),(b5,rowT T,266),(b4,rowB 32 fun _=>0,24),(b3,rowB 32 g,24),(b2,rowB 32 f,24)]) (fun _ kk _=>64 - (intOf kk).toNat)
   case atStart=>exact ⟨0,by omega,rfl,by rw [HC0.out];rfl,by rw [← HB0.out];exact hL⟩
   case round =>
    clear hL
    obtain ⟨k,hk,rfl,rfl,hL⟩:=hrel
    by_cases hkl:k<64
    ·have hk0:(0:Int)≤(k:Int):=by omega
     have hk1:(k:Int)<64:=by omega
     have ht:=HTL.out k
     have hc:=HCL.out k
     have hcs:=HCS.out k
     have hdg:=HDG.out k hkl
     haveI g1:Cell (rowT T) k (.int .i64 (T k:Nat)):=cellI (fun j=>(T j:Int)) hkl
     have p1:=put_P64 (A*B) hkl
     have ha:=and_255 ((ct k:Int)+(T k:Int))
     have hv:((dgB (A*B) k:Nat):Int)=bits .and .i64 ((ct k:Int)+(T k:Int)) 255:=by rw [ha,hdg];omega
     rw [hv] at p1
     haveI p1:=p1
     have w1:IntKind.i64.wrap ((ct k:Int)+(T k:Int))=(ct k:Int)+(T k:Int):=IntWalk.i64_in _ (by omega)
     have w5:IntKind.u8.wrap (bits .and .i64 ((ct k:Int)+(T k:Int)) 255)=bits .and .i64 ((ct k:Int)+(T k:Int)) 255:=by rw [ha,IntKind.wrap_u8];omega
     have hcc:((ct k:Int)+(T k:Int)) / 256=(ct (k+1):Int):=by omega
     have HCR:=Lib.hid hcc
     clear ha hv hdg hcs hcc HV HTL HDG
     generalize hc':ct (k+1)=c' at *
     have HC':=Lib.hid hc'
     have hcc:=HCR.out
     clear hc' HC0 HCL HCS
     generalize byP (A*B) k=st at *
     generalize ct k=c at *
     generalize T k=t at *
     go_wp2_with (first | (refine aL4S2C9q ?_;clear hL;intro w1 hL) | (refine aX1A1q ?_;clear hL;intro b w1 hL))
     go_roundw
     case rel=>exact ⟨k+1,by omega,by go_num,by rw [HC'.out],hL⟩
     case measure=>simp [intOf];omega
    ·obtain rfl:k=64:=by omega
     rw [HB1.out] at hL
     have HR:=Lib.hid (fun w1 (h:Loc w w1 [(b8,rowB 64 (byteN (A*B)),74),(b5,rowT T,266),(b4,rowB 32 fun _=>0,24),(b3,rowB 32 g,24),(b2,rowB 32 f,24)]) =>
      haveI:=h.glob hG
      refRed_any (byteN (A*B)) 64 64 b8 w1 (by omega) (by omega) fun i hi=>was_loc h (.head _) (row_get _ hi))
     rw [HV.out] at HR
     go_wp2_with (first | ((go_at_call 186;refine (HR.out _ hL).mono ?_;rintro e w1 ⟨rfl,hb1⟩;have hL1:=hL.keep hb1;clear hb1;clear hL;have hL:=hL1;clear hL1)) | (refine aL4S2C9q ?_;clear hL;intro w1 hL) | (refine aX1A1q ?_;clear hL;intro b w1 hL))
     exact bodyPost_ret (results_loc rfl hL rfl) rfl ⟨rfl,hL.bel⟩
instance iRqV8:Ent 135:=Ent.of Tryz.func135 (by kernel_rfl) rfl
instance iRqV9 (f g:Nat→BitVec 8):FnG 135 #[.agg (rowB 32 f),.agg (rowB 32 g)] (.agg (rowB 32 (byteN (leN f*leN g % Qo)))):=⟨fun w _=>mulq_any f g w⟩
end Go.Proofs.YtoifhhljfaoejaaGreatDoor.R3
