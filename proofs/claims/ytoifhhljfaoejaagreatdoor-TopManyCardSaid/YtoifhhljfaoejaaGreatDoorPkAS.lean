/-
  Lemmas of the law, part 19: the walks of the functions that it calls and the plain facts about them. No condition beyond those written.
-/
import Derived.Test.YtoifhhljfaoejaaGreatDoorPkAA
import Derived.Test.YtoifhhljfaoejaaGreatDoorPkAM
import Derived.Test.YtoifhhljfaoejaaGreatDoorPkAO
import Derived.Test.YtoifhhljfaoejaaGreatDoorPkAR
namespace Go.Proofs.YtoifhhljfaoejaaGreatDoor.Shb
open Go Go.Proofs.YtoifhhljfaoejaaGreatDoor Go.RowKit
set_option linter.unusedVariables false
set_option linter.unusedSimpArgs false
def lenOf:Value→Nat | .slice _ n _=>n | _=>0
def tailB (n:Nat):List (BitVec 8):=List.replicate 8 0 ++ lenBytes n
theorem tailB_length (n:Nat):(tailB n).length=16:=by simp [tailB,lenBytes]
theorem tailB_lo (n:Nat) {j:Nat} (h:j<8):(tailB n).take (j+1)=(tailB n).take j ++ [0]:=by
 rw [List.take_succ_eq_append_getElem (by rw [tailB_length];omega)]
 congr 1
 unfold tailB
 rw [List.getElem_append_left (by simpa using h),List.getElem_replicate]
theorem tailB_hi (n:Nat) {j:Nat} (h:j<8):(tailB n).take (8+j+1)=(tailB n).take (8+j) ++ [lenByte n j]:=by
 rw [List.take_succ_eq_append_getElem (by rw [tailB_length];omega)]
 congr 1
 unfold tailB
 rw [List.getElem_append_right (by simp)]
 simp [lenBytes]
set_option maxRecDepth 100000 in
set_option maxHeartbeats 1000000 in
theorem padB_any (v:Value) (l:List (BitVec 8)) (w:World) (hv:BRow w v l) (h0:0<l.length) (hl:l.length≤1000000000) :
 Calls Tryz.prog 71 #[v,.int .i64 128,.int .i64 16] w fun e w'=>Fresh w (pad l) e w':=by
 have hL:=Loc.nil w
 haveI hA:Arg w v (encB l):=⟨hv.vrow⟩
 obtain ⟨a,c,rfl,hn,hp⟩:=hv
 clear hn hp
 go_enter Tryz.func71,Tryz.ntmps71
 haveI sb:Seg #[Value.int IntKind.u8 128] 0 1 (encB [128]):=segByte 128
 go_wp2_with (first | ((with_reducible refine gC 12 ?_);(refine lAppBN hL rfl rfl rfl rfl h0 (by first | omega | (simp;omega) | simp) fun g12 cap12 cur12 w1 hr12 hL1=>?_);clear hL;have hL:=hL1;clear hL1;refine p4 ?_) | ((with_reducible show wpList _ _ _ (⟨some 13,.buildSlice _ _ _,_,_,_,_⟩ :: _) _ _);(first | refine lBS1i hL rfl rfl rfl fun b13 w1 hL1=>?_ | refine lBS1s hL rfl rfl rfl fun b13 w1 hL1=>?_ | refine lBS2s hL rfl rfl rfl rfl fun b13 w1 hL1=>?_ | refine lBS3s hL rfl rfl rfl rfl rfl fun b13 w1 hL1=>?_);clear hL;have hL:=hL1;clear hL1;refine p4 ?_) | ((with_reducible refine gC 14 ?_);(refine lAppB hL rfl rfl rfl rfl (by first | omega | (simp;omega) | simp) fun g14 cap14 cur14 w1 hr14 hL1=>?_);(try dsimp only at hL1);clear hL;have hL:=hL1;clear hL1;refine p4 ?_) | (refine aL4S2C9p ?_;clear hL;intro w1 hL) | (refine aX1A1p ?_;clear hL;intro b w1 hL))
 go_loopw [7] (fun v wr=>∃ (z g cap:Nat) (cur:Array Value),z≤zeros l.length∧v= .slice (some ⟨g,0,none⟩) (l.length+1+z) cap∧OwnR cur (l.length+1+z) cap (encB (l ++ [128] ++ List.replicate z 0))∧Loc w wr [(g,cur,5)]) (fun v _=>1000000300 - lenOf v)
 case atStart=>exact ⟨0,g14,cap14,cur14,Nat.zero_le _,rfl,by simpa using hr14,hL.pop⟩
 case round =>
  clear hL
  obtain ⟨z,g,cap,cur,hz,rfl,hr,hL⟩:=hrel
  have hZ:zeros l.length=(239 - l.length % 128) % 128:=rfl
  by_cases hzl:z<zeros l.length
  ·have h56:(((l.length+1+z:Nat):Int) % 128 !=112)=true:=by rw [bne_iff_ne];omega
   obtain ⟨n,hn⟩:∃ n,n=l.length+1+z:=⟨_,rfl⟩
   rw [← hn] at h56 hr ⊢
   have HN:=Lib.hid hn
   have hn1:n≤1000000200:=by omega
   clear hn hZ
   haveI sb:Seg #[Value.int IntKind.u8 0] 0 1 (encB [0]):=segByte 0
   go_wp2_with (first | ((with_reducible show wpList _ _ _ (⟨some 24,.buildSlice _ _ _,_,_,_,_⟩ :: _) _ _);(first | refine lBS1i hL rfl rfl rfl fun b24 w1 hL1=>?_ | refine lBS1s hL rfl rfl rfl fun b24 w1 hL1=>?_ | refine lBS2s hL rfl rfl rfl rfl fun b24 w1 hL1=>?_ | refine lBS3s hL rfl rfl rfl rfl rfl fun b24 w1 hL1=>?_);clear hL;have hL:=hL1;clear hL1;refine p4 ?_) | ((with_reducible refine gC 25 ?_);(refine lAppB hL rfl rfl rfl rfl (by first | omega | (simp;omega) | simp) fun g25 cap25 cur25 w1 hr25 hL1=>?_);(try dsimp only at hL1);clear hL;have hL:=hL1;clear hL1;refine p4 ?_) | (refine aL4S2C9p ?_;clear hL;intro w1 hL) | (refine aX1A1p ?_;clear hL;intro b w1 hL))
   go_roundw
   case rel=>exact ⟨z+1,g25,cap25,cur25,by omega,by rw [HN.out];rfl,by rw [HN.out] at hr25;rw [List.replicate_succ',← List.append_assoc];exact hr25,hL.pop⟩
   case measure=>have:=HN.out;simp only [lenOf];omega
  ·have hze:z=zeros l.length:=by omega
   have h56:(((l.length+1+z:Nat):Int) % 128 !=112)=false:=by rw [bne_eq_false_iff_eq];omega
   subst hze
   obtain ⟨pre,hpre⟩:∃ pre,pre=l ++ [128] ++ List.replicate (zeros l.length) 0:=⟨_,rfl⟩
   have hpl:pre.length=l.length+1+zeros l.length:=by rw [hpre];simp;omega
   rw [← hpre,← hpl] at hr
   rw [← hpl] at h56 ⊢
   have HPRE:=Lib.hid (show pad l=pre ++ tailB l.length from by rw [hpre];unfold pad tailB;simp)
   have hlp:pre.length≤1000000200:=by rw [hpl];omega
   clear hpre hpl hZ hzl hz
   generalize hlen:l.length=len at *
   have HLEN:=Lib.hid hlen
   clear hlen
   go_wp2_with (first | (refine aL4S2C9p ?_;clear hL;intro w1 hL) | (refine aX1A1p ?_;clear hL;intro b w1 hL))
   go_loopw [7,9] (fun v kk wr=>∃ (j g cap:Nat) (cur:Array Value),j≤16∧kk= .int .i64 (15 - (j:Int))∧v= .slice (some ⟨g,0,none⟩) (pre.length+j) cap∧OwnR cur (pre.length+j) cap (encB (pre ++ (tailB len).take j))∧Loc w wr [(g,cur,5)]) (fun _ kk _=>(intOf kk+1).toNat)
   case atStart=>exact ⟨0,g,cap,cur,by omega,rfl,rfl,by simpa using hr,hL⟩
   case round =>
    clear hL hr h56
    obtain ⟨j,g,cap,cur,hj,rfl,rfl,hr,hL⟩:=hrel
    by_cases hj8:j<8
    ·have HT:=Lib.hid (tailB_lo len hj8)
     have k0:(0:Int)≤15 - (j:Int):=by omega
     have k1:¬ 15 - (j:Int)<8:=by omega
     have k2:¬ 15 - (j:Int)<0:=by omega
     have k3:(8:Int)≤15 - (j:Int):=by omega
     have k4:(j:Int)≤7:=by omega
     have k5:(j:Int)≤15:=by omega
     generalize hn:pre.length+j=n at *
     have HN:=Lib.hid hn
     have hn1:n≤1000000300:=by omega
     clear hn
     haveI sb:Seg #[Value.int IntKind.u8 0] 0 1 (encB [0]):=segByte 0
     go_wp2_with (first | ((with_reducible show wpList _ _ _ (⟨some 46,.buildSlice _ _ _,_,_,_,_⟩ :: _) _ _);(first | refine lBS1i hL rfl rfl rfl fun b46 w1 hL1=>?_ | refine lBS1s hL rfl rfl rfl fun b46 w1 hL1=>?_ | refine lBS2s hL rfl rfl rfl rfl fun b46 w1 hL1=>?_ | refine lBS3s hL rfl rfl rfl rfl rfl fun b46 w1 hL1=>?_);clear hL;have hL:=hL1;clear hL1;refine p4 ?_) | ((with_reducible refine gC 47 ?_);(refine lAppB hL rfl rfl rfl rfl (by first | omega | (simp;omega) | simp) fun g47 cap47 cur47 w1 hr47 hL1=>?_);(try dsimp only at hL1);clear hL;have hL:=hL1;clear hL1;refine p4 ?_) | (refine aL4S2C9p ?_;clear hL;intro w1 hL) | (refine aX1A1p ?_;clear hL;intro b w1 hL))
     go_roundw
     case rel=>exact ⟨j+1,g47,cap47,cur47,by omega,by go_num,by rw [← Nat.add_assoc,HN.out],by rw [HT.out,← List.append_assoc,← Nat.add_assoc,HN.out];exact hr47,hL.pop⟩
     case measure=>simp only [intOf];omega
    ·obtain ⟨q,rfl⟩:∃ q,j=8+q:=⟨j - 8,by omega⟩
     by_cases hq8:q<8
     ·have HT:=Lib.hid (tailB_hi len hq8)
      have HVJ:=Lib.hid (lenByte_val len q)
      have hl0:(0:Int)≤(len:Int):=by omega
      have hl1:(len:Int)≤1000000000:=by omega
      generalize hn:pre.length+(8+q)=n at *
      have HN:=Lib.hid hn
      have hn1:n≤1000000300:=by omega
      clear hn
      have hq8':q=0∨q=1∨q=2∨q=3∨q=4∨q=5∨q=6∨q=7:=by omega
      rcases hq8' with rfl | rfl | rfl | rfl | rfl | rfl | rfl | rfl
      ·have hX:bits BinOp.and IntKind.i64 (8*(len:Int) / 72057594037927936) 255=B8 (lenByte len 0):=by
        rw [R3.and_255,HVJ.out,show 2 ^ (8*(7 - 0))=72057594037927936 from rfl];omega
       obtain ⟨x0,x1⟩:=B8_bd (lenByte len 0)
       clear HVJ
       generalize lenByte len 0=x at *
       rw [show (15:Int) - ((8+0:Nat):Int)=7 from rfl]
       go_wp2_with (first | ((with_reducible show wpList _ _ _ (⟨some 46,.buildSlice _ _ _,_,_,_,_⟩ :: _) _ _);(first | refine lBS1i hL rfl rfl rfl fun b46 w1 hL1=>?_ | refine lBS1s hL rfl rfl rfl fun b46 w1 hL1=>?_ | refine lBS2s hL rfl rfl rfl rfl fun b46 w1 hL1=>?_ | refine lBS3s hL rfl rfl rfl rfl rfl fun b46 w1 hL1=>?_);clear hL;have hL:=hL1;clear hL1;refine p4 ?_) | ((with_reducible refine gC 47 ?_);(refine lAppB hL rfl rfl rfl rfl (by first | omega | (simp;omega) | simp) fun g47 cap47 cur47 w1 hr47 hL1=>?_);(try dsimp only at hL1);clear hL;have hL:=hL1;clear hL1;refine p4 ?_) | (refine aL4S2C9p ?_;clear hL;intro w1 hL) | (refine aX1A1p ?_;clear hL;intro b w1 hL))
       go_roundw
       case rel=>exact ⟨8+0+1,g47,cap47,cur47,by omega,rfl,by rw [← Nat.add_assoc,HN.out],by rw [HT.out,← List.append_assoc,← Nat.add_assoc,HN.out];exact hr47,hL.pop⟩
       case measure=>simp only [intOf];omega
      ·have hX:bits BinOp.and IntKind.i64 (8*(len:Int) / 281474976710656) 255=B8 (lenByte len 1):=by
        rw [R3.and_255,HVJ.out,show 2 ^ (8*(7 - 1))=281474976710656 from rfl];omega
       obtain ⟨x0,x1⟩:=B8_bd (lenByte len 1)
       clear HVJ
       generalize lenByte len 1=x at *
       rw [show (15:Int) - ((8+1:Nat):Int)=6 from rfl]
       go_wp2_with (first | ((with_reducible show wpList _ _ _ (⟨some 46,.buildSlice _ _ _,_,_,_,_⟩ :: _) _ _);(first | refine lBS1i hL rfl rfl rfl fun b46 w1 hL1=>?_ | refine lBS1s hL rfl rfl rfl fun b46 w1 hL1=>?_ | refine lBS2s hL rfl rfl rfl rfl fun b46 w1 hL1=>?_ | refine lBS3s hL rfl rfl rfl rfl rfl fun b46 w1 hL1=>?_);clear hL;have hL:=hL1;clear hL1;refine p4 ?_) | ((with_reducible refine gC 47 ?_);(refine lAppB hL rfl rfl rfl rfl (by first | omega | (simp;omega) | simp) fun g47 cap47 cur47 w1 hr47 hL1=>?_);(try dsimp only at hL1);clear hL;have hL:=hL1;clear hL1;refine p4 ?_) | (refine aL4S2C9p ?_;clear hL;intro w1 hL) | (refine aX1A1p ?_;clear hL;intro b w1 hL))
       go_roundw
       case rel=>exact ⟨8+1+1,g47,cap47,cur47,by omega,rfl,by rw [← Nat.add_assoc,HN.out],by rw [HT.out,← List.append_assoc,← Nat.add_assoc,HN.out];exact hr47,hL.pop⟩
       case measure=>simp only [intOf];omega
      ·have hX:bits BinOp.and IntKind.i64 (8*(len:Int) / 1099511627776) 255=B8 (lenByte len 2):=by
        rw [R3.and_255,HVJ.out,show 2 ^ (8*(7 - 2))=1099511627776 from rfl];omega
       obtain ⟨x0,x1⟩:=B8_bd (lenByte len 2)
       clear HVJ
       generalize lenByte len 2=x at *
       rw [show (15:Int) - ((8+2:Nat):Int)=5 from rfl]
       go_wp2_with (first | ((with_reducible show wpList _ _ _ (⟨some 46,.buildSlice _ _ _,_,_,_,_⟩ :: _) _ _);(first | refine lBS1i hL rfl rfl rfl fun b46 w1 hL1=>?_ | refine lBS1s hL rfl rfl rfl fun b46 w1 hL1=>?_ | refine lBS2s hL rfl rfl rfl rfl fun b46 w1 hL1=>?_ | refine lBS3s hL rfl rfl rfl rfl rfl fun b46 w1 hL1=>?_);clear hL;have hL:=hL1;clear hL1;refine p4 ?_) | ((with_reducible refine gC 47 ?_);(refine lAppB hL rfl rfl rfl rfl (by first | omega | (simp;omega) | simp) fun g47 cap47 cur47 w1 hr47 hL1=>?_);(try dsimp only at hL1);clear hL;have hL:=hL1;clear hL1;refine p4 ?_) | (refine aL4S2C9p ?_;clear hL;intro w1 hL) | (refine aX1A1p ?_;clear hL;intro b w1 hL))
       go_roundw
       case rel=>exact ⟨8+2+1,g47,cap47,cur47,by omega,rfl,by rw [← Nat.add_assoc,HN.out],by rw [HT.out,← List.append_assoc,← Nat.add_assoc,HN.out];exact hr47,hL.pop⟩
       case measure=>simp only [intOf];omega
      ·have hX:bits BinOp.and IntKind.i64 (8*(len:Int) / 4294967296) 255=B8 (lenByte len 3):=by
        rw [R3.and_255,HVJ.out,show 2 ^ (8*(7 - 3))=4294967296 from rfl];omega
       obtain ⟨x0,x1⟩:=B8_bd (lenByte len 3)
       clear HVJ
       generalize lenByte len 3=x at *
       rw [show (15:Int) - ((8+3:Nat):Int)=4 from rfl]
       go_wp2_with (first | ((with_reducible show wpList _ _ _ (⟨some 46,.buildSlice _ _ _,_,_,_,_⟩ :: _) _ _);(first | refine lBS1i hL rfl rfl rfl fun b46 w1 hL1=>?_ | refine lBS1s hL rfl rfl rfl fun b46 w1 hL1=>?_ | refine lBS2s hL rfl rfl rfl rfl fun b46 w1 hL1=>?_ | refine lBS3s hL rfl rfl rfl rfl rfl fun b46 w1 hL1=>?_);clear hL;have hL:=hL1;clear hL1;refine p4 ?_) | ((with_reducible refine gC 47 ?_);(refine lAppB hL rfl rfl rfl rfl (by first | omega | (simp;omega) | simp) fun g47 cap47 cur47 w1 hr47 hL1=>?_);(try dsimp only at hL1);clear hL;have hL:=hL1;clear hL1;refine p4 ?_) | (refine aL4S2C9p ?_;clear hL;intro w1 hL) | (refine aX1A1p ?_;clear hL;intro b w1 hL))
       go_roundw
       case rel=>exact ⟨8+3+1,g47,cap47,cur47,by omega,rfl,by rw [← Nat.add_assoc,HN.out],by rw [HT.out,← List.append_assoc,← Nat.add_assoc,HN.out];exact hr47,hL.pop⟩
       case measure=>simp only [intOf];omega
      ·have hX:bits BinOp.and IntKind.i64 (8*(len:Int) / 16777216) 255=B8 (lenByte len 4):=by
        rw [R3.and_255,HVJ.out,show 2 ^ (8*(7 - 4))=16777216 from rfl];omega
       obtain ⟨x0,x1⟩:=B8_bd (lenByte len 4)
       clear HVJ
       generalize lenByte len 4=x at *
       rw [show (15:Int) - ((8+4:Nat):Int)=3 from rfl]
       go_wp2_with (first | ((with_reducible show wpList _ _ _ (⟨some 46,.buildSlice _ _ _,_,_,_,_⟩ :: _) _ _);(first | refine lBS1i hL rfl rfl rfl fun b46 w1 hL1=>?_ | refine lBS1s hL rfl rfl rfl fun b46 w1 hL1=>?_ | refine lBS2s hL rfl rfl rfl rfl fun b46 w1 hL1=>?_ | refine lBS3s hL rfl rfl rfl rfl rfl fun b46 w1 hL1=>?_);clear hL;have hL:=hL1;clear hL1;refine p4 ?_) | ((with_reducible refine gC 47 ?_);(refine lAppB hL rfl rfl rfl rfl (by first | omega | (simp;omega) | simp) fun g47 cap47 cur47 w1 hr47 hL1=>?_);(try dsimp only at hL1);clear hL;have hL:=hL1;clear hL1;refine p4 ?_) | (refine aL4S2C9p ?_;clear hL;intro w1 hL) | (refine aX1A1p ?_;clear hL;intro b w1 hL))
       go_roundw
       case rel=>exact ⟨8+4+1,g47,cap47,cur47,by omega,rfl,by rw [← Nat.add_assoc,HN.out],by rw [HT.out,← List.append_assoc,← Nat.add_assoc,HN.out];exact hr47,hL.pop⟩
       case measure=>simp only [intOf];omega
      ·have hX:bits BinOp.and IntKind.i64 (8*(len:Int) / 65536) 255=B8 (lenByte len 5):=by
        rw [R3.and_255,HVJ.out,show 2 ^ (8*(7 - 5))=65536 from rfl];omega
       obtain ⟨x0,x1⟩:=B8_bd (lenByte len 5)
       clear HVJ
       generalize lenByte len 5=x at *
       rw [show (15:Int) - ((8+5:Nat):Int)=2 from rfl]
       go_wp2_with (first | ((with_reducible show wpList _ _ _ (⟨some 46,.buildSlice _ _ _,_,_,_,_⟩ :: _) _ _);(first | refine lBS1i hL rfl rfl rfl fun b46 w1 hL1=>?_ | refine lBS1s hL rfl rfl rfl fun b46 w1 hL1=>?_ | refine lBS2s hL rfl rfl rfl rfl fun b46 w1 hL1=>?_ | refine lBS3s hL rfl rfl rfl rfl rfl fun b46 w1 hL1=>?_);clear hL;have hL:=hL1;clear hL1;refine p4 ?_) | ((with_reducible refine gC 47 ?_);(refine lAppB hL rfl rfl rfl rfl (by first | omega | (simp;omega) | simp) fun g47 cap47 cur47 w1 hr47 hL1=>?_);(try dsimp only at hL1);clear hL;have hL:=hL1;clear hL1;refine p4 ?_) | (refine aL4S2C9p ?_;clear hL;intro w1 hL) | (refine aX1A1p ?_;clear hL;intro b w1 hL))
       go_roundw
       case rel=>exact ⟨8+5+1,g47,cap47,cur47,by omega,rfl,by rw [← Nat.add_assoc,HN.out],by rw [HT.out,← List.append_assoc,← Nat.add_assoc,HN.out];exact hr47,hL.pop⟩
       case measure=>simp only [intOf];omega
      ·have hX:bits BinOp.and IntKind.i64 (8*(len:Int) / 256) 255=B8 (lenByte len 6):=by
        rw [R3.and_255,HVJ.out,show 2 ^ (8*(7 - 6))=256 from rfl];omega
       obtain ⟨x0,x1⟩:=B8_bd (lenByte len 6)
       clear HVJ
       generalize lenByte len 6=x at *
       rw [show (15:Int) - ((8+6:Nat):Int)=1 from rfl]
       go_wp2_with (first | ((with_reducible show wpList _ _ _ (⟨some 46,.buildSlice _ _ _,_,_,_,_⟩ :: _) _ _);(first | refine lBS1i hL rfl rfl rfl fun b46 w1 hL1=>?_ | refine lBS1s hL rfl rfl rfl fun b46 w1 hL1=>?_ | refine lBS2s hL rfl rfl rfl rfl fun b46 w1 hL1=>?_ | refine lBS3s hL rfl rfl rfl rfl rfl fun b46 w1 hL1=>?_);clear hL;have hL:=hL1;clear hL1;refine p4 ?_) | ((with_reducible refine gC 47 ?_);(refine lAppB hL rfl rfl rfl rfl (by first | omega | (simp;omega) | simp) fun g47 cap47 cur47 w1 hr47 hL1=>?_);(try dsimp only at hL1);clear hL;have hL:=hL1;clear hL1;refine p4 ?_) | (refine aL4S2C9p ?_;clear hL;intro w1 hL) | (refine aX1A1p ?_;clear hL;intro b w1 hL))
       go_roundw
       case rel=>exact ⟨8+6+1,g47,cap47,cur47,by omega,rfl,by rw [← Nat.add_assoc,HN.out],by rw [HT.out,← List.append_assoc,← Nat.add_assoc,HN.out];exact hr47,hL.pop⟩
       case measure=>simp only [intOf];omega
      ·have hX:bits BinOp.and IntKind.i64 (8*(len:Int)) 255=B8 (lenByte len 7):=by
        rw [R3.and_255,HVJ.out,show 2 ^ (8*(7 - 7))=1 from rfl];omega
       obtain ⟨x0,x1⟩:=B8_bd (lenByte len 7)
       clear HVJ
       generalize lenByte len 7=x at *
       rw [show (15:Int) - ((8+7:Nat):Int)=0 from rfl]
       go_wp2_with (first | ((with_reducible show wpList _ _ _ (⟨some 46,.buildSlice _ _ _,_,_,_,_⟩ :: _) _ _);(first | refine lBS1i hL rfl rfl rfl fun b46 w1 hL1=>?_ | refine lBS1s hL rfl rfl rfl fun b46 w1 hL1=>?_ | refine lBS2s hL rfl rfl rfl rfl fun b46 w1 hL1=>?_ | refine lBS3s hL rfl rfl rfl rfl rfl fun b46 w1 hL1=>?_);clear hL;have hL:=hL1;clear hL1;refine p4 ?_) | ((with_reducible refine gC 47 ?_);(refine lAppB hL rfl rfl rfl rfl (by first | omega | (simp;omega) | simp) fun g47 cap47 cur47 w1 hr47 hL1=>?_);(try dsimp only at hL1);clear hL;have hL:=hL1;clear hL1;refine p4 ?_) | (refine aL4S2C9p ?_;clear hL;intro w1 hL) | (refine aX1A1p ?_;clear hL;intro b w1 hL))
       go_roundw
       case rel=>exact ⟨8+7+1,g47,cap47,cur47,by omega,rfl,by rw [← Nat.add_assoc,HN.out],by rw [HT.out,← List.append_assoc,← Nat.add_assoc,HN.out];exact hr47,hL.pop⟩
       case measure=>simp only [intOf];omega
     ·obtain rfl:q=8:=by omega
      have HT:=Lib.hid (show (tailB len).take (8+8)=tailB len from List.take_of_length_le (by rw [tailB_length];omega))
      rw [HT.out,← HPRE.out] at hr
      have hpn:pre.length+(8+8)=(pad l).length:=by rw [HPRE.out,List.length_append,tailB_length]
      rw [hpn] at hr ⊢
      rw [show (15:Int) - ((8+8:Nat):Int)= -1 from rfl]
      clear HT HPRE HLEN hpn
      go_wp2_with (first | (refine aL4S2C9p ?_;clear hL;intro w1 hL) | (refine aX1A1p ?_;clear hL;intro b w1 hL))
      go_ret
      exact hL.back rfl
end Go.Proofs.YtoifhhljfaoejaaGreatDoor.Shb
