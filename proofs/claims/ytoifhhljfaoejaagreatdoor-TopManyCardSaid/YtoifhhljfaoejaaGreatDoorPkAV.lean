/-
  Lemmas of the law, part 22: the walks of the functions that it calls and the plain facts about them. No condition beyond those written.
-/
import Derived.Test.YtoifhhljfaoejaaGreatDoorPkAA
import Derived.Test.YtoifhhljfaoejaaGreatDoorPkAS
import Derived.Test.YtoifhhljfaoejaaGreatDoorPkAT
import Derived.Test.YtoifhhljfaoejaaGreatDoorPkAU
namespace Go.Proofs.YtoifhhljfaoejaaGreatDoor.Shb
open Go Go.Proofs.YtoifhhljfaoejaaGreatDoor Go.RowKit
set_option linter.unusedVariables false
set_option linter.unusedSimpArgs false
instance iRefShb1:Ent 187:=Ent.of Tryz.func187 (by kernel_rfl) rfl
theorem rrot1 (x:BitVec 64) (w:World):Calls Tryz.prog 187 #[.int .u64 (Q x),.int .u64 1] w fun e w'=>e= .returned (.int .u64 (Q (rotl x 63)))∧w=w':=by
 obtain ⟨h0,h1⟩:=Q_bd x
 have HV:=Lib.hid (ror_val x 63 1 rfl)
 go_enter Tryz.func187,Tryz.ntmps187
 go_wp2
 go_ret
 exact ⟨congrArg (fun z=>Ending.returned (.int .u64 z)) HV.out,rfl⟩
instance iRefShb2 (x:BitVec 64):FnC 187 #[.int .u64 (Q x),.int .u64 1] (.int .u64 (Q (rotl x 63))):=⟨fun w=>calls_quiet (rrot1 x w)⟩
theorem rrot8 (x:BitVec 64) (w:World):Calls Tryz.prog 187 #[.int .u64 (Q x),.int .u64 8] w fun e w'=>e= .returned (.int .u64 (Q (rotl x 56)))∧w=w':=by
 obtain ⟨h0,h1⟩:=Q_bd x
 have HV:=Lib.hid (ror_val x 56 8 rfl)
 go_enter Tryz.func187,Tryz.ntmps187
 go_wp2
 go_ret
 exact ⟨congrArg (fun z=>Ending.returned (.int .u64 z)) HV.out,rfl⟩
instance iRefShb3 (x:BitVec 64):FnC 187 #[.int .u64 (Q x),.int .u64 8] (.int .u64 (Q (rotl x 56))):=⟨fun w=>calls_quiet (rrot8 x w)⟩
theorem rrot19 (x:BitVec 64) (w:World):Calls Tryz.prog 187 #[.int .u64 (Q x),.int .u64 19] w fun e w'=>e= .returned (.int .u64 (Q (rotl x 45)))∧w=w':=by
 obtain ⟨h0,h1⟩:=Q_bd x
 have HV:=Lib.hid (ror_val x 45 19 rfl)
 go_enter Tryz.func187,Tryz.ntmps187
 go_wp2
 go_ret
 exact ⟨congrArg (fun z=>Ending.returned (.int .u64 z)) HV.out,rfl⟩
instance iRefShb4 (x:BitVec 64):FnC 187 #[.int .u64 (Q x),.int .u64 19] (.int .u64 (Q (rotl x 45))):=⟨fun w=>calls_quiet (rrot19 x w)⟩
theorem rrot61 (x:BitVec 64) (w:World):Calls Tryz.prog 187 #[.int .u64 (Q x),.int .u64 61] w fun e w'=>e= .returned (.int .u64 (Q (rotl x 3)))∧w=w':=by
 obtain ⟨h0,h1⟩:=Q_bd x
 have HV:=Lib.hid (ror_val x 3 61 rfl)
 go_enter Tryz.func187,Tryz.ntmps187
 go_wp2
 go_ret
 exact ⟨congrArg (fun z=>Ending.returned (.int .u64 z)) HV.out,rfl⟩
instance iRefShb5 (x:BitVec 64):FnC 187 #[.int .u64 (Q x),.int .u64 61] (.int .u64 (Q (rotl x 3))):=⟨fun w=>calls_quiet (rrot61 x w)⟩
theorem rrot14 (x:BitVec 64) (w:World):Calls Tryz.prog 187 #[.int .u64 (Q x),.int .u64 14] w fun e w'=>e= .returned (.int .u64 (Q (rotl x 50)))∧w=w':=by
 obtain ⟨h0,h1⟩:=Q_bd x
 have HV:=Lib.hid (ror_val x 50 14 rfl)
 go_enter Tryz.func187,Tryz.ntmps187
 go_wp2
 go_ret
 exact ⟨congrArg (fun z=>Ending.returned (.int .u64 z)) HV.out,rfl⟩
instance iRefShb6 (x:BitVec 64):FnC 187 #[.int .u64 (Q x),.int .u64 14] (.int .u64 (Q (rotl x 50))):=⟨fun w=>calls_quiet (rrot14 x w)⟩
theorem rrot18 (x:BitVec 64) (w:World):Calls Tryz.prog 187 #[.int .u64 (Q x),.int .u64 18] w fun e w'=>e= .returned (.int .u64 (Q (rotl x 46)))∧w=w':=by
 obtain ⟨h0,h1⟩:=Q_bd x
 have HV:=Lib.hid (ror_val x 46 18 rfl)
 go_enter Tryz.func187,Tryz.ntmps187
 go_wp2
 go_ret
 exact ⟨congrArg (fun z=>Ending.returned (.int .u64 z)) HV.out,rfl⟩
instance iRefShb7 (x:BitVec 64):FnC 187 #[.int .u64 (Q x),.int .u64 18] (.int .u64 (Q (rotl x 46))):=⟨fun w=>calls_quiet (rrot18 x w)⟩
theorem rrot41 (x:BitVec 64) (w:World):Calls Tryz.prog 187 #[.int .u64 (Q x),.int .u64 41] w fun e w'=>e= .returned (.int .u64 (Q (rotl x 23)))∧w=w':=by
 obtain ⟨h0,h1⟩:=Q_bd x
 have HV:=Lib.hid (ror_val x 23 41 rfl)
 go_enter Tryz.func187,Tryz.ntmps187
 go_wp2
 go_ret
 exact ⟨congrArg (fun z=>Ending.returned (.int .u64 z)) HV.out,rfl⟩
instance iRefShb8 (x:BitVec 64):FnC 187 #[.int .u64 (Q x),.int .u64 41] (.int .u64 (Q (rotl x 23))):=⟨fun w=>calls_quiet (rrot41 x w)⟩
theorem rrot28 (x:BitVec 64) (w:World):Calls Tryz.prog 187 #[.int .u64 (Q x),.int .u64 28] w fun e w'=>e= .returned (.int .u64 (Q (rotl x 36)))∧w=w':=by
 obtain ⟨h0,h1⟩:=Q_bd x
 have HV:=Lib.hid (ror_val x 36 28 rfl)
 go_enter Tryz.func187,Tryz.ntmps187
 go_wp2
 go_ret
 exact ⟨congrArg (fun z=>Ending.returned (.int .u64 z)) HV.out,rfl⟩
instance iRefShb9 (x:BitVec 64):FnC 187 #[.int .u64 (Q x),.int .u64 28] (.int .u64 (Q (rotl x 36))):=⟨fun w=>calls_quiet (rrot28 x w)⟩
theorem rrot34 (x:BitVec 64) (w:World):Calls Tryz.prog 187 #[.int .u64 (Q x),.int .u64 34] w fun e w'=>e= .returned (.int .u64 (Q (rotl x 30)))∧w=w':=by
 obtain ⟨h0,h1⟩:=Q_bd x
 have HV:=Lib.hid (ror_val x 30 34 rfl)
 go_enter Tryz.func187,Tryz.ntmps187
 go_wp2
 go_ret
 exact ⟨congrArg (fun z=>Ending.returned (.int .u64 z)) HV.out,rfl⟩
instance iRefShb10 (x:BitVec 64):FnC 187 #[.int .u64 (Q x),.int .u64 34] (.int .u64 (Q (rotl x 30))):=⟨fun w=>calls_quiet (rrot34 x w)⟩
theorem rrot39 (x:BitVec 64) (w:World):Calls Tryz.prog 187 #[.int .u64 (Q x),.int .u64 39] w fun e w'=>e= .returned (.int .u64 (Q (rotl x 25)))∧w=w':=by
 obtain ⟨h0,h1⟩:=Q_bd x
 have HV:=Lib.hid (ror_val x 25 39 rfl)
 go_enter Tryz.func187,Tryz.ntmps187
 go_wp2
 go_ret
 exact ⟨congrArg (fun z=>Ending.returned (.int .u64 z)) HV.out,rfl⟩
instance iRefShb11 (x:BitVec 64):FnC 187 #[.int .u64 (Q x),.int .u64 39] (.int .u64 (Q (rotl x 25))):=⟨fun w=>calls_quiet (rrot39 x w)⟩
instance iRefShb12 (n:Nat) (f:Nat→BitVec 64):Row1 (rowQ n f) n:=⟨row_size _ _,by simp [rowQ,row,Value.oneCell']⟩
instance iRefShb14:RowZ 262 (rowQ 80 fun _=>0):=⟨by kernel_rfl⟩
instance iRefShb15:RowTy 75 64:=⟨⟨_,Tryz.underlying75,rfl⟩,by kernel_rfl⟩
instance iRefShb16:RowZ 75 (rowB 64 fun _=>0):=⟨by kernel_rfl⟩
instance r64 (f:Nat→BitVec 8):Row1 (rowB 64 f) 64:=⟨row_size _ _,by simp [rowB,row,Value.oneCell']⟩
theorem cellQ {n k:Nat} (f:Nat→BitVec 64) (h:k<n):Cell (rowQ n f) k (.int .u64 (Q (f k))):=row_cell _ h
theorem putQ {n k:Nat} {f g:Nat→BitVec 64} {x:Int} {y:BitVec 64} (h:k<n) (hx:x=Q y) (e:upd f k y=g):Put (rowQ n f) k (.int .u64 x) (rowQ n g) :=
 row_put h (row_congr fun i hi=>by
  rw [← e,hx];unfold upd
  by_cases c:i=k
  ·rw [if_pos c,if_pos c]
  ·rw [if_neg c,if_neg c])
theorem build_H (w:World):(Instr.build 261 #[(0,.int .u64 7640891576956012808),(1,.int .u64 13503953896175478587),(2,.int .u64 4354685564936845355),(3,.int .u64 11912009170470909681),(4,.int .u64 5840696475078001361),(5,.int .u64 11170449401992604703),(6,.int .u64 2270897969802886507),(7,.int .u64 6620516959819538809)]).run Tryz.prog w= .ok (.agg (rowQ 8 H512)) w:=by kernel_rfl
theorem build_rnd (K W:Nat→BitVec 64) (t:Nat) (v:Nat→BitVec 64) (w:World):(Instr.build 261 #[(0,.int .u64 (Q (rndX K W t v+rndY v))),(1,.int .u64 (Q (v 0))),(2,.int .u64 (Q (v 1))),(3,.int .u64 (Q (v 2))),(4,.int .u64 (Q (v 3+rndX K W t v))),(5,.int .u64 (Q (v 4))),(6,.int .u64 (Q (v 5))),(7,.int .u64 (Q (v 6)))]).run Tryz.prog w= .ok (.agg (rowQ 8 (rnd K W t v))) w:=by kernel_rfl
theorem was_k {w:World} [h:Glob w] {k:Nat} (hk:k<80):Was w 6 k (.int .u64 (Q (K512 k))):=⟨h.k512 k hk,by have:=h.lt;omega⟩
theorem and_outQ (h:Nat→BitVec 64) (k:Nat):bits .and .u64 (Q (h (k / 8)) / 2 ^ (56 - 8*(k % 8))) 255=B8 (outOf h k):=by
 rw [← out_val h k (k % 8) rfl]
 have e:Q (h (k / 8)) / 2 ^ (56 - 8*(k % 8))=(((h (k / 8)).toNat / 2 ^ (56 - 8*(k % 8)):Nat):Int):=by
  unfold Q
  generalize (h (k / 8)).toNat=x
  generalize 56 - 8*(k % 8)=r
  rw [Int.natCast_ediv,Int.natCast_pow];rfl
 have e2:((2 ^ (56 - 8*(k % 8)):Nat):Int)=2 ^ (56 - 8*(k % 8)):=by rw [Int.natCast_pow];rfl
 rw [e2,e]
 have:=bits_and_u64_nat ((h (k / 8)).toNat / 2 ^ (56 - 8*(k % 8))) 255 (Nat.lt_of_le_of_lt (Nat.div_le_self _ _) (h (k / 8)).isLt) (by omega)
 rw [nat_mask8] at this
 exact this.trans (Int.natCast_emod _ 256)
theorem sch1_bytes (b:Nat→BitVec 8) (k i:Nat) (h:k / 8=i):upd (sch1 b k) i (sch1 b k i <<< 8 ||| wide (b k))=sch1 b (k+1):=by subst h;rfl
theorem addTo_upd (h v:Nat→BitVec 64) (k:Nat):upd (addTo h v k) k (h k+v k)=addTo h v (k+1):=by
 funext i
 unfold upd addTo
 by_cases e:i=k
 ·subst e;simp
 ·rw [if_neg e]
  by_cases hi:i<k
  ·rw [if_pos hi,if_pos (by omega)]
  ·rw [if_neg hi,if_neg (by omega)]
set_option maxRecDepth 100000 in
set_option maxHeartbeats 4000000 in
theorem refShb_any (v:Value) (l:List (BitVec 8)) (w:World) [hG:Glob w] (hv:BRow w v l) (h0:0<l.length) (hl:l.length≤1000000000) :
 Calls Tryz.prog 126 #[v] w fun e w'=>e= .returned (.agg (rowB 64 (sha l)))∧Below w.heap.size w w':=by
 have hL:=Loc.nil w
 have HV:=Lib.hid hv
 have HFIN:=Lib.hid (sha_blocks l)
 have HPL:=Lib.hid (pad_length l)
 have HPB:=Lib.hid (show (pad l).length≤1000000400 by unfold pad zeros lenBytes;simp;omega)
 have HPAD:=Lib.hid (fun w1 (h:Loc w w1 [(0, #[],0)])=>h)
 clear HPAD
 obtain ⟨a,c,rfl,hn,hp⟩:=hv
 clear hn hp
 go_enter Tryz.func126,Tryz.ntmps126
 go_wp2_with (first | ((with_reducible refine gS 2 ?_);refine aBp ?_;clear hL;intro b2 w1 hL) | ((with_reducible show wpList _ _ _ (⟨_,.build 261 _,_,_,_,_⟩ :: _) _ _);refine lU hL rfl rfl build_H rfl fun w1 hL1=>?_;clear hL;have hL:=hL1;clear hL1) | ((with_reducible refine gS 3 ?_);refine aBp ?_;clear hL;intro b3 w1 hL) | (go_at_call 71;go_loud (refine (padB_any _ l _ (HV.out.below hL.bel) h0 hl).mono ?_);rintro e w1 ⟨g23,cap23,cur23,rfl,hr23,hg23,hc23,hb23⟩;have hL1:=hL.fresh hb23 hg23 hc23;clear hb23 hg23 hc23;clear hL;have hL:=hL1;clear hL1;refine p4 ?_) | (refine aL4S2C9p ?_;clear hL;intro w1 hL) | (refine aX1A1p ?_;clear hL;intro b w1 hL))
 obtain ⟨f,hf⟩:∃ f:Nat→BitVec 8,f=fun i=>(pad l).getD i 0:=⟨_,rfl⟩
 have HM:=Lib.hid (show ∀ i,i<(pad l).length→Cell cur23 i (.int .u8 (B8 (f i))) from fun i hi=>by
  have:=hr23.cellB hi
  rw [hf];simp only
  rw [List.getD_eq_getElem?_getD,List.getElem?_eq_getElem hi,Option.getD_some]
  exact this)
 rw [← hf] at HFIN
 clear hf HV
 generalize (pad l).length=n at *
 clear hr23
 go_loopw [5] (fun i wr=>∃ k s:Nat,s=128*k∧s≤n∧i= .int .i64 s∧Loc w wr [(g23,cur23,5),(b3,rowQ 8 (blocks f k),261),(b2,rowB 64 fun _=>0,75)]) (fun i _=>n - (intOf i).toNat)
 case atStart=>exact ⟨0,0,rfl,Nat.zero_le _,rfl,hL⟩
 case round =>
  clear hL
  obtain ⟨k,s,hs,hsn,rfl,hL⟩:=hrel
  have hs0:(0:Int)≤(s:Int):=by omega
  by_cases hlt:s<n
  ·have HS:=Lib.hid (show s+128≤n∧s=128*k by have:=HPL.out;omega)
   have hs1:(s:Int)<(n:Int):=by omega
   obtain ⟨b,hb⟩:∃ b:Nat→BitVec 8,b=fun q=>f (s+q):=⟨_,rfl⟩
   have HBL:=Lib.hid (show ∀ i,i<8→addTo (blocks f k) (rnds K512 (sched b) (blocks f k) 80) 8 i=blocks f (k+1) i from fun i hi=>by
    unfold addTo;rw [if_pos hi,hb,hs];rfl)
   have HMB:=Lib.hid (show ∀ q,q<128→Cell cur23 (s+q) (.int .u8 (B8 (b q))) from fun q hq=>by rw [hb];exact HM.out (s+q) (by have:=HS.out;omega))
   clear hb hs hsn hlt
   go_wp2_with (first | ((with_reducible refine gS 6 ?_);refine aBp ?_;clear hL;intro b6 w1 hL) | (refine aL4S2C9p ?_;clear hL;intro w1 hL) | (refine aX1A1p ?_;clear hL;intro b w1 hL))
   have HW0:=Lib.hid (show (rowQ 80 fun _=>0)=rowQ 80 (sch1 b (8*0)) from rfl)
   go_loopw [7] (fun i wr=>∃ j:Nat,j≤16∧i= .int .i64 j∧Loc w wr [(b6,rowQ 80 (sch1 b (8*j)),262),(g23,cur23,5),(b3,rowQ 8 (blocks f k),261),(b2,rowB 64 fun _=>0,75)]) (fun i _=>16 - (intOf i).toNat)
   case atStart=>exact ⟨0,by omega,rfl,by rw [← HW0.out];exact hL⟩
   case round =>
    clear hL
    obtain ⟨j,hj,rfl,hL⟩:=hrel
    by_cases hj16:j<16
    ·have hj0:(0:Int)≤(j:Int):=by omega
     have hj1:(j:Int)<16:=by omega
     have hj2:(j:Int)<80:=by omega
     go_wp2_with (first | (refine aL4S2C9p ?_;clear hL;intro w1 hL) | (refine aX1A1p ?_;clear hL;intro b w1 hL))
     go_loopw [8] (fun i wr=>∃ q:Nat,q≤8∧i= .int .i64 q∧Loc w wr [(b6,rowQ 80 (sch1 b (8*j+q)),262),(g23,cur23,5),(b3,rowQ 8 (blocks f k),261),(b2,rowB 64 fun _=>0,75)]) (fun i _=>8 - (intOf i).toNat)
     case atStart=>exact ⟨0,by omega,rfl,hL⟩
     case round =>
      clear hL
      obtain ⟨q,hq,rfl,hL⟩:=hrel
      by_cases hq8:q<8
      ·have hq0:(0:Int)≤(q:Int):=by omega
       have hq1:(q:Int)<8:=by omega
       have hsb:(n:Int)≤2000000000:=by have:=HPB.out;omega
       haveI g1:Cell cur23 (s+(8*j+q)) (.int .u8 (B8 (b (8*j+q)))):=HMB.out _ (by omega)
       haveI g2:Cell (rowQ 80 (sch1 b (8*j+q))) j (.int .u64 (Q (sch1 b (8*j+q) j))):=cellQ _ (by omega)
       haveI g3:Put (rowQ 80 (sch1 b (8*j+q))) j (.int .u64 (bits .or .u64 (IntKind.u64.wrap (Q (sch1 b (8*j+q) j)*256)) (B8 (b (8*j+q))))) (rowQ 80 (sch1 b (8*j+q+1))) :=
        putQ (by omega) (by rw [Q_wrap8,B8_wideQ,Q_or];rfl) (sch1_bytes b _ j (by omega))
       obtain ⟨u0,u1⟩:=Q_bd (sch1 b (8*j+q) j)
       obtain ⟨v0,v1⟩:=B8_bd (b (8*j+q))
       have wv:IntKind.u64.wrap (B8 (b (8*j+q)))=B8 (b (8*j+q)):=by rw [IntKind.wrap_u64];omega
       have hx:(s:Int)+8*(j:Int)+(q:Int)=((s+(8*j+q):Nat):Int):=by omega
       have y0:(0:Int)≤((s+(8*j+q):Nat):Int):=by omega
       have y1:((s+(8*j+q):Nat):Int)<(n:Int):=by have:=HS.out;omega
       have z0:IntKind.i64.wrap (8*(j:Int))=8*(j:Int):=IntWalk.i64_in _ (by omega)
       have z1:IntKind.i64.wrap ((s:Int)+8*(j:Int))=(s:Int)+8*(j:Int):=IntWalk.i64_in _ (by omega)
       have z2:IntKind.i64.wrap ((s+(8*j+q):Nat):Int)=((s+(8*j+q):Nat):Int):=IntWalk.i64_in _ (by omega)
       generalize sch1 b (8*j+q)=W at *
       generalize b (8*j+q)=x at *
       generalize s+(8*j+q)=p at *
       clear HFIN HPL HPB HM HBL HMB HW0
       go_wp2_with fail
       refine wp_region_free [(0,true),(1,true),(2,true),(3,false),(4,true),(5,true),(6,true),(7,true),(8,true),(9,true),(10,true),(11,true),(12,true),(13,false),(14,true),(15,true),(16,true)] [] [17] (by kernel_rfl) (by kernel_rfl) trivial hL ?_
       refine pF ?_
       repeat refine rS ?_
       refine seqO_nil ?_
       refine seqM_nil fun w1 hL1=>?_
       simp only [List.cons_append,List.nil_append] at hL1
       clear hL;have hL:=hL1;clear hL1
       refine p4 ?_
       refine pG ?_
       repeat (refine rW ?_;clear hL;intro w1 hL)
       refine wpList_nil (NoPanic.normal ?_)
       go_wp2_with (first | (refine aL4S2C9p ?_;clear hL;intro w1 hL) | (refine aX1A1p ?_;clear hL;intro b w1 hL))
       go_roundw
       case rel=>exact ⟨q+1,by omega,by go_num,hL⟩
       case measure=>simp [intOf];omega
      ·obtain rfl:q=8:=by omega
       go_wp2_with (first | (refine aL4S2C9p ?_;clear hL;intro w1 hL) | (refine aX1A1p ?_;clear hL;intro b w1 hL))
       go_roundw
       case rel=>exact ⟨j+1,by omega,by go_num,hL⟩
       case measure=>simp [intOf];omega
    ·obtain rfl:j=16:=by omega
     rw [show 8*16=128 from rfl,← sch2_low (sch1 b 128) 16 (by omega)] at hL
     clear HMB HW0 hj hj16
     go_wp2_with (first | (refine aL4S2C9p ?_;clear hL;intro w1 hL) | (refine aX1A1p ?_;clear hL;intro b w1 hL))
     go_loopw [9] (fun i wr=>∃ j:Nat,16≤j∧j≤80∧i= .int .i64 j∧Loc w wr [(b6,rowQ 80 (sch2 (sch1 b 128) j),262),(g23,cur23,5),(b3,rowQ 8 (blocks f k),261),(b2,rowB 64 fun _=>0,75)]) (fun i _=>80 - (intOf i).toNat)
     case atStart=>exact ⟨16,by omega,by omega,rfl,hL⟩
     case round =>
      clear hL
      obtain ⟨j,hj16,hj,rfl,hL⟩:=hrel
      by_cases hlt:j<80
      ·have hk0:(16:Int)≤(j:Int):=by omega
       have hk1:(j:Int)<80:=by omega
       have HST:=Lib.hid (sch2_step (sch1 b 128) hj16)
       haveI c2:Cell (rowQ 80 (sch2 (sch1 b 128) j)) (j - 2) (.int .u64 (Q (sch2 (sch1 b 128) j (j - 2)))):=cellQ _ (by omega)
       haveI c7:Cell (rowQ 80 (sch2 (sch1 b 128) j)) (j - 7) (.int .u64 (Q (sch2 (sch1 b 128) j (j - 7)))):=cellQ _ (by omega)
       haveI c15:Cell (rowQ 80 (sch2 (sch1 b 128) j)) (j - 15) (.int .u64 (Q (sch2 (sch1 b 128) j (j - 15)))):=cellQ _ (by omega)
       haveI c16:Cell (rowQ 80 (sch2 (sch1 b 128) j)) (j - 16) (.int .u64 (Q (sch2 (sch1 b 128) j (j - 16)))):=cellQ _ (by omega)
       generalize sch2 (sch1 b 128) j=W at *
       haveI p1:Put (rowQ 80 W) j (.int .u64 (Q (W (j - 16)+sig0 (W (j - 15))+W (j - 7)+sig1 (W (j - 2))))) (rowQ 80 (sch2 (sch1 b 128) (j+1))) :=
        putQ hlt rfl (by rw [HST.out,show W (j - 16)+sig0 (W (j - 15))+W (j - 7)+sig1 (W (j - 2))=schStep W j by unfold schStep;ac_rfl])
       obtain ⟨a0,a1⟩:=Q_bd (W (j - 2))
       obtain ⟨b0,b1⟩:=Q_bd (W (j - 15))
       have hs0':=sig0_val (W (j - 15))
       have hs1':=sig1_val (W (j - 2))
       have hadd:=Q_add
       have x2:(j:Int) - 2=((j - 2:Nat):Int):=by omega
       have x7:(j:Int) - 7=((j - 7:Nat):Int):=by omega
       have x15:(j:Int) - 15=((j - 15:Nat):Int):=by omega
       have x16:(j:Int) - 16=((j - 16:Nat):Int):=by omega
       have j0:(0:Int)≤(j:Int):=by omega
       have y2:(0:Int)≤((j - 2:Nat):Int)∧((j - 2:Nat):Int)<80:=by omega
       have y7:(0:Int)≤((j - 7:Nat):Int)∧((j - 7:Nat):Int)<80:=by omega
       have y15:(0:Int)≤((j - 15:Nat):Int)∧((j - 15:Nat):Int)<80:=by omega
       have y16:(0:Int)≤((j - 16:Nat):Int)∧((j - 16:Nat):Int)<80:=by omega
       obtain ⟨y2a,y2b⟩:=y2
       obtain ⟨y7a,y7b⟩:=y7
       obtain ⟨y15a,y15b⟩:=y15
       obtain ⟨y16a,y16b⟩:=y16
       have z2:IntKind.i64.wrap ((j - 2:Nat):Int)=((j - 2:Nat):Int):=IntWalk.i64_in _ (by omega)
       have z7:IntKind.i64.wrap ((j - 7:Nat):Int)=((j - 7:Nat):Int):=IntWalk.i64_in _ (by omega)
       have z15:IntKind.i64.wrap ((j - 15:Nat):Int)=((j - 15:Nat):Int):=IntWalk.i64_in _ (by omega)
       have z16:IntKind.i64.wrap ((j - 16:Nat):Int)=((j - 16:Nat):Int):=IntWalk.i64_in _ (by omega)
       clear HFIN HPL HPB HM HBL HST
       generalize j - 2=i2 at *
       generalize j - 7=i7 at *
       generalize j - 15=i15 at *
       generalize j - 16=i16 at *
       generalize W i2=v2 at *
       generalize W i7=v7 at *
       generalize W i15=v15 at *
       generalize W i16=v16 at *
       go_wp2_with (first | (refine aL4S2C9p ?_;clear hL;intro w1 hL) | (refine aX1A1p ?_;clear hL;intro b w1 hL))
       refine wp_region_free [(0,true),(1,true),(2,true),(3,true),(4,false),(5,true),(6,false),(7,true),(8,false),(9,true),(10,true),(11,true),(12,true),(13,true),(14,true),(15,true),(16,true),(17,false),(18,true),(19,true),(20,false),(21,true),(22,false),(23,true),(24,true),(25,true),(26,true),(27,true),(28,true)] [] [29] (by kernel_rfl) (by kernel_rfl) trivial hL ?_
       refine pF ?_
       repeat refine rS ?_
       refine seqO_nil ?_
       refine seqM_nil fun w1 hL1=>?_
       simp only [List.cons_append,List.nil_append] at hL1
       clear hL;have hL:=hL1;clear hL1
       refine p4 ?_
       refine pG ?_
       repeat (refine rW ?_;clear hL;intro w1 hL)
       refine wpList_nil (NoPanic.normal ?_)
       go_wp2_with (first | (refine aL4S2C9p ?_;clear hL;intro w1 hL) | (refine aX1A1p ?_;clear hL;intro b w1 hL))
       go_roundw
       case rel=>exact ⟨j+1,by omega,by omega,by go_num,hL⟩
       case measure=>simp [intOf];omega
      ·obtain rfl:j=80:=by omega
       have HSC:=Lib.hid (show rowQ 80 (sch2 (sch1 b 128) 80)=rowQ 80 (sched b) from rfl)
       rw [HSC.out] at hL
       clear HSC hj hj16 hlt
       have HR0:=Lib.hid (show rowQ 8 (blocks f k)=rowQ 8 (rnds K512 (sched b) (blocks f k) 0) from rfl)
       go_wp2_with (first | ((with_reducible refine gS 12 ?_);refine aBp ?_;clear hL;intro b12 w1 hL) | (refine aL4S2C9p ?_;clear hL;intro w1 hL) | (refine aX1A1p ?_;clear hL;intro b w1 hL))
       generalize hsc:sched b=SC at *
       go_loopw [13] (fun i wr=>∃ t:Nat,t≤80∧i= .int .i64 t∧Loc w wr [(b12,rowQ 8 (rnds K512 SC (blocks f k) t),261),(b6,rowQ 80 SC,262),(g23,cur23,5),(b3,rowQ 8 (blocks f k),261),(b2,rowB 64 fun _=>0,75)]) (fun i _=>80 - (intOf i).toNat)
       case atStart=>exact ⟨0,Nat.zero_le _,rfl,hL⟩
       case round =>
        clear hL
        obtain ⟨t,ht,rfl,hL⟩:=hrel
        by_cases hlt:t<80
        ·have h0:(0:Int)≤(t:Int):=by omega
         have h1:(t:Int)<80:=by omega
         haveI gk:Was w 6 t (.int .u64 (Q (K512 t))):=was_k hlt
         haveI gw:Cell (rowQ 80 SC) t (.int .u64 (Q (SC t))):=cellQ _ hlt
         have HN:=Lib.hid (show rnds K512 SC (blocks f k) (t+1)=rnd K512 SC t (rnds K512 SC (blocks f k) t) from rfl)
         generalize rnds K512 SC (blocks f k) t=V at *
         haveI v0:Cell (rowQ 8 V) 0 (.int .u64 (Q (V 0))):=cellQ _ (by omega)
         haveI v1:Cell (rowQ 8 V) 1 (.int .u64 (Q (V 1))):=cellQ _ (by omega)
         haveI v2:Cell (rowQ 8 V) 2 (.int .u64 (Q (V 2))):=cellQ _ (by omega)
         haveI v3:Cell (rowQ 8 V) 3 (.int .u64 (Q (V 3))):=cellQ _ (by omega)
         haveI v4:Cell (rowQ 8 V) 4 (.int .u64 (Q (V 4))):=cellQ _ (by omega)
         haveI v5:Cell (rowQ 8 V) 5 (.int .u64 (Q (V 5))):=cellQ _ (by omega)
         haveI v6:Cell (rowQ 8 V) 6 (.int .u64 (Q (V 6))):=cellQ _ (by omega)
         haveI v7:Cell (rowQ 8 V) 7 (.int .u64 (Q (V 7))):=cellQ _ (by omega)
         have hadd:=Q_add
         have hxor:=Q_xor
         have hand:=Q_and
         have hnot:=Q_not
         have hadd':=Q_add'
         clear HFIN HPL HPB HM HBL HR0
         go_wp2_with (first | (refine aL4S2C9p ?_;clear hL;intro w1 hL) | (refine aX1A1p ?_;clear hL;intro b w1 hL))
         refine wp_region_free [(0,true),(1,false),(2,true),(3,false),(4,true),(5,false),(6,true),(7,true),(8,false),(9,true),(10,true),(11,true),(12,true),(13,false),(14,true),(15,true),(16,true),(17,true),(18,false),(19,true),(20,true),(21,true),(22,true),(23,true),(24,false),(25,true),(26,true),(27,true),(28,false),(29,true),(30,true)] [] [] (by kernel_rfl) (by kernel_rfl) trivial hL ?_
         refine pF ?_
         repeat (first | ((with_reducible show seqO _ _ _ (_ :: _) _ _);refine sW rfl rfl rfl ?_;refine p4 ?_) | refine rS ?_)
         refine seqO_nil ?_
         refine seqM_nil fun w1 hL1=>?_
         simp only [List.cons_append,List.nil_append] at hL1
         clear hL;have hL:=hL1;clear hL1
         refine p4 ?_
         refine wpList_nil (NoPanic.normal ?_)
         go_wp2_with (first | (refine aL4S2C9p ?_;clear hL;intro w1 hL) | (refine aX1A1p ?_;clear hL;intro b w1 hL))
         refine wp_region_free [(0,true),(1,false),(2,true),(3,false),(4,true),(5,true),(6,false),(7,true),(8,true),(9,true),(10,false),(11,true),(12,true),(13,true),(14,false),(15,true),(16,true),(17,true),(18,false),(19,true),(20,false),(21,true),(22,true),(23,true),(24,true)] [] [] (by kernel_rfl) (by kernel_rfl) trivial hL ?_
         refine pF ?_
         repeat refine rS ?_
         refine seqO_nil ?_
         refine seqM_nil fun w1 hL1=>?_
         simp only [List.cons_append,List.nil_append] at hL1
         clear hL;have hL:=hL1;clear hL1
         refine p4 ?_
         refine wpList_nil (NoPanic.normal ?_)
         go_wp2_with (first | ((with_reducible show wpList _ _ _ (⟨_,.build 261 _,_,_,_,_⟩ :: _) _ _);refine lU hL rfl rfl (build_rnd K512 SC t V) rfl fun w1 hL1=>?_;clear hL;have hL:=hL1;clear hL1) | (refine aL4S2C9p ?_;clear hL;intro w1 hL) | (refine aX1A1p ?_;clear hL;intro b w1 hL))
         go_roundw
         case rel=>exact ⟨t+1,by omega,by go_num,by rw [HN.out];exact hL⟩
         case measure=>simp [intOf];omega
        ·obtain rfl:t=80:=by omega
         have HA0:=Lib.hid (show rowQ 8 (blocks f k)=rowQ 8 (addTo (blocks f k) (rnds K512 SC (blocks f k) 80) 0) from row_congr fun i _=>by unfold addTo;rw [if_neg (by omega)])
         have HA8:=Lib.hid (show rowQ 8 (addTo (blocks f k) (rnds K512 SC (blocks f k) 80) 8)=rowQ 8 (blocks f (k+1)) from row_congr fun i hi=>by rw [HBL.out i hi])
         clear HBL HR0 ht hlt
         generalize rnds K512 SC (blocks f k) 80=V at *
         rw [HA0.out] at hL
         go_wp2_with (first | (refine aL4S2C9p ?_;clear hL;intro w1 hL) | (refine aX1A1p ?_;clear hL;intro b w1 hL))
         go_loopw [18] (fun i wr=>∃ q:Nat,q≤8∧i= .int .i64 q∧Loc w wr [(b12,rowQ 8 V,261),(b6,rowQ 80 SC,262),(g23,cur23,5),(b3,rowQ 8 (addTo (blocks f k) V q),261),(b2,rowB 64 fun _=>0,75)]) (fun i _=>8 - (intOf i).toNat)
         case atStart=>exact ⟨0,Nat.zero_le _,rfl,hL⟩
         case round =>
          clear hL
          obtain ⟨q,hq,rfl,hL⟩:=hrel
          by_cases hlt:q<8
          ·have q0:(0:Int)≤(q:Int):=by omega
           have q1:(q:Int)<8:=by omega
           haveI c1:Cell (rowQ 8 (addTo (blocks f k) V q)) q (.int .u64 (Q (blocks f k q))):=by
            have:addTo (blocks f k) V q q=blocks f k q:=by unfold addTo;rw [if_neg (by omega)]
            rw [← this];exact cellQ _ hlt
           haveI c2:Cell (rowQ 8 V) q (.int .u64 (Q (V q))):=cellQ _ hlt
           haveI p1:Put (rowQ 8 (addTo (blocks f k) V q)) q (.int .u64 (Q (blocks f k q+V q))) (rowQ 8 (addTo (blocks f k) V (q+1))):=putQ hlt rfl (addTo_upd (blocks f k) V q)
           have hadd:=Q_add
           have hadd':=Q_add'
           clear HFIN HPL HPB HM HA0 HA8
           generalize addTo (blocks f k) V q=A0 at *
           generalize blocks f k q=x at *
           generalize V q=y at *
           go_wp2_with fail
           refine wp_region_free [(0,true),(1,true),(2,true),(3,false),(4,true),(5,true),(6,false),(7,true),(8,true)] [] [9] (by kernel_rfl) (by kernel_rfl) trivial hL ?_
           refine pF ?_
           repeat refine rS ?_
           refine seqO_nil ?_
           refine seqM_nil fun w1 hL1=>?_
           simp only [List.cons_append,List.nil_append] at hL1
           clear hL;have hL:=hL1;clear hL1
           refine p4 ?_
           refine pG ?_
           repeat (refine rW ?_;clear hL;intro w1 hL)
           refine wpList_nil (NoPanic.normal ?_)
           go_wp2_with (first | (refine aL4S2C9p ?_;clear hL;intro w1 hL) | (refine aX1A1p ?_;clear hL;intro b w1 hL))
           go_roundw
           case rel=>exact ⟨q+1,by omega,by go_num,hL⟩
           case measure=>simp [intOf];omega
          ·obtain rfl:q=8:=by omega
           rw [HA8.out] at hL
           have hsb:(s:Int)≤2000000000:=by have:=HS.out;have:=HPB.out;omega
           go_wp2_with (first | (refine aL4S2C9p ?_;clear hL;intro w1 hL) | (refine aX1A1p ?_;clear hL;intro b w1 hL))
           go_roundw
           case rel=>exact ⟨k+1,s+128,by have:=HS.out;omega,HS.out.1,by go_num,hL.pop.pop⟩
           case measure=>simp [intOf];omega
  ·obtain rfl:s=n:=by omega
   have HFIN2:=Lib.hid (show sha l=outOf (blocks f k) by rw [HFIN.out];congr 2;omega)
   generalize blocks f k=hh at *
   have HB0:=Lib.hid (show (rowB 64 fun _=>0)=rowB 64 (outK hh 0) from row_congr fun i _=>by unfold outK;rw [if_neg (by omega)])
   have HB1:=Lib.hid (show rowB 64 (outK hh 64)=rowB 64 (sha l) from row_congr fun i hi=>by unfold outK;rw [if_pos hi,HFIN2.out])
   clear HFIN HPL HPB HM HFIN2 hs hsn hlt
   go_wp2_with (first | ((with_reducible refine gS 19 ?_);refine aBp ?_;clear hL;intro b19 w1 hL) | (refine aL4S2C9p ?_;clear hL;intro w1 hL) | (refine aX1A1p ?_;clear hL;intro b w1 hL))
   go_loopw [20] (fun i wr=>∃ q:Nat,q≤64∧i= .int .i64 q∧Loc w wr [(b19,rowB 64 (outK hh q),75),(g23,cur23,5),(b3,rowQ 8 hh,261),(b2,rowB 64 fun _=>0,75)]) (fun i _=>64 - (intOf i).toNat)
   case atStart=>exact ⟨0,by omega,rfl,by rw [← HB0.out];exact hL⟩
   case round =>
    clear hL
    obtain ⟨q,hq,rfl,hL⟩:=hrel
    by_cases hlt:q<64
    ·have q0:(0:Int)≤(q:Int):=by omega
     have q1:(q:Int)<64:=by omega
     have ho:=and_outQ hh q
     haveI c1:Cell (rowQ 8 hh) (q / 8) (.int .u64 (Q (hh (q / 8)))):=cellQ _ (by omega)
     obtain ⟨x0,x1⟩:=B8_bd (outOf hh q)
     haveI p1:Put (rowB 64 (outK hh q)) q (.int .u8 (bits .and .u64 (Q (hh (q / 8)) / 2 ^ (56 - 8*(q % 8))) 255)) (rowB 64 (outK hh (q+1))):=row_put hlt (by
      rw [ho,← outK_step]
      exact row_congr fun i _=>by unfold upd;split <;> rfl)
     have wo:IntKind.u8.wrap (bits .and .u64 (Q (hh (q / 8)) / 2 ^ (56 - 8*(q % 8))) 255)=bits .and .u64 (Q (hh (q / 8)) / 2 ^ (56 - 8*(q % 8))) 255:=by rw [ho,IntKind.wrap_u8];omega
     have e1:(q:Int) / 8=((q / 8:Nat):Int):=by omega
     have e2:(q:Int) % 8=((q % 8:Nat):Int):=by omega
     have e3:(q:Int).tdiv 8=((q / 8:Nat):Int):=by rw [Int.tdiv_eq_ediv_of_nonneg (by omega)];omega
     have e4:(q:Int).tmod 8=((q % 8:Nat):Int):=by rw [Int.tmod_eq_emod_of_nonneg (by omega)];omega
     have e5:56 - 8*((q % 8:Nat):Int)=((56 - 8*(q % 8):Nat):Int):=by omega
     have k0:(0:Int)≤((q / 8:Nat):Int):=by omega
     have k1:((q / 8:Nat):Int)<8:=by omega
     have r0:(0:Int)≤((q % 8:Nat):Int):=by omega
     have r1:((q % 8:Nat):Int)<8:=by omega
     have s0:(0:Int)≤((56 - 8*(q % 8):Nat):Int):=by omega
     have s1:((56 - 8*(q % 8):Nat):Int)<64:=by omega
     have ws:IntKind.u64.wrap ((56 - 8*(q % 8):Nat):Int)=((56 - 8*(q % 8):Nat):Int):=by rw [IntKind.wrap_u64];omega
     have ws':IntKind.i64.wrap ((56 - 8*(q % 8):Nat):Int)=((56 - 8*(q % 8):Nat):Int):=IntWalk.i64_in _ (by omega)
     have w8:IntKind.i64.wrap (8*((q % 8:Nat):Int))=8*((q % 8:Nat):Int):=IntWalk.i64_in _ (by omega)
     have hm:min (56 - 8*(q % 8)) 64=56 - 8*(q % 8):=by omega
     clear ho x0 x1 HB0 HB1
     generalize outK hh q=oo at *
     generalize hh (q / 8)=x at *
     generalize q / 8=qd at *
     generalize 56 - 8*(q % 8)=sh at *
     generalize q % 8=qr at *
     go_wp2_with (first | (refine aL4S2C9p ?_;clear hL;intro w1 hL) | (refine aX1A1p ?_;clear hL;intro b w1 hL))
     go_roundw
     case rel=>exact ⟨q+1,by omega,by go_num,hL⟩
     case measure=>simp [intOf];omega
    ·obtain rfl:q=64:=by omega
     rw [HB1.out] at hL
     go_wp2_with (first | (refine aL4S2C9p ?_;clear hL;intro w1 hL) | (refine aX1A1p ?_;clear hL;intro b w1 hL))
     exact bodyPost_ret (results_loc rfl hL rfl) rfl ⟨rfl,hL.bel⟩
end Go.Proofs.YtoifhhljfaoejaaGreatDoor.Shb
