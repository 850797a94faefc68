/-
  Lemmas of the law, part 46: the walks of the functions that it calls and the plain facts about them. No condition beyond those written.
-/
import Derived.Test.YtoifhhljfaoejaaGreatDoorPkAH
import Derived.Test.YtoifhhljfaoejaaGreatDoorPkAU
namespace Go.Proofs.YtoifhhljfaoejaaGreatDoor
open Go.RowKit
def lenOf:Value→Nat | .slice _ n _=>n | _=>0
theorem brow_one {w:World} {g:Nat} (x:BitVec 8) (h:w.heap[g]?=some (.cells #[.int .u8 (B8 x)] 5 (0,0))):BRow w (.slice (some ⟨g,0,none⟩) 1 1) [x] :=
 ⟨_,1,rfl,(fun hc=>by cases hc),fun _=>⟨g,0,rfl,(Array.getElem?_eq_some_iff.1 h).1,fun i hi=>by
  have:i=0:=by simpa using hi
  subst this
  rw [cell_of_row w g _ _ _ _ h];rfl⟩⟩
set_option maxRecDepth 100000 in
set_option maxHeartbeats 400000 in
theorem padded_any (v:Value) (l:List (BitVec 8)) (w:World) (hv:BRow w v l) (hl:l.length≤1000000000) :
 Calls Tryz.prog 71 #[v,.int .i64 64,.int .i64 8] w fun e w'=>∃ v',e= .returned v'∧OwnB w' w.heap.size v' (pad l)∧Below w.heap.size w w':=by
 have HV:=Lib.hid hv
 have h0:OwnB w w.heap.size (.slice none 0 0) []:=World.ownsRow_nil _ _ _ _
 obtain ⟨a,c,rfl,hn,hp⟩:=hv
 clear hn hp
 have H0:=Lib.hid h0
 clear h0
 go_enter Tryz.func71,Tryz.ntmps71
 go_wp2_with (first
  | (at_builtin;refine wpList_append_B rfl (.const (.slice none 0 0)) (.tmp 11) rfl w.heap.size _ [] l rfl H0.out HV.out (by simp;omega) (Nat.le_refl _) ?_;intro v1 w1 hown1 hg1;rw [List.nil_append] at hown1)
  | (at_builtin;refine wpList_append_B rfl (.tmp 12) (.tmp 13) rfl w.heap.size v1 l [128] rfl ?o1 ?o2 ?o3 ?o4 ?_;rotate_left 4;intro v2 w2 hown2 hg2))
 case o1=>exact World.ownsRow.alloc hown1 _
 case o2=>exact brow_one 128 (heap_alloc_new _ _)
 case o3=>simp;omega
 case o4=>have:=hg1.size;simp;omega
 have hb2:Below w.heap.size w w2:=((((Below.refl _ _).grown hg1 (Nat.le_refl _) (fun k hk=>by cases hk)).alloc hg1.size _)).grown hg2 (by have:=hg1.size;simp;omega) (fun k hk=>(hown1.lt k hk).1)
 have HST:=Lib.hid (show ∃ a c,v2= .slice a (l.length+1) c from by obtain ⟨a,c,e,_⟩:=hown2.brow;exact ⟨a,c,by simpa using e⟩)
 clear hg1 hg2 hown1
 go_loopw [7] (fun v wr=>∃ z:Nat,z≤zeros l.length∧(∃ a c,v= .slice a (l.length+1+z) c)∧OwnB wr w.heap.size v (l ++ [128] ++ List.replicate z 0)∧Below w.heap.size w wr) (fun v _=>1000000100 - lenOf v)
 case atStart=>exact ⟨0,Nat.zero_le _,HST.out,by simpa using hown2,hb2⟩
 case round =>
  clear hown2 hb2 HST
  obtain ⟨z,hz,⟨a1,c1,rfl⟩,hown,hbel⟩:=hrel
  have hZ:zeros l.length=(119 - l.length % 64) % 64:=rfl
  have hsz:=hbel.size
  have HOWN:=Lib.hid hown
  have HLT:=Lib.hid hown.lt
  have HBEL:=Lib.hid hbel
  clear hown hbel
  by_cases hzl:z<zeros l.length
  ·have h56:(((l.length+1+z:Nat):Int) % 64 !=56)=true:=by rw [bne_iff_ne];omega
   obtain ⟨n,hn⟩:∃ n,n=l.length+1+z:=⟨_,rfl⟩
   rw [← hn] at h56 ⊢
   rw [← hn] at HOWN HLT
   have HN:=Lib.hid hn
   have hn1:n≤1000000065:=by omega
   clear hn hZ
   go_wp2_with (at_builtin;refine wpList_append_B rfl (.tmp 23) (.tmp 24) rfl w.heap.size (.slice a1 n c1) (l ++ [128] ++ List.replicate z 0) [0] rfl ?p1 ?p2 ?p3 ?p4 ?_;rotate_left 4;intro v3 w3 hown3 hg3)
   case p1=>exact World.ownsRow.alloc HOWN.out _
   case p2=>exact brow_one 0 (heap_alloc_new _ _)
   case p3=>have:=HN.out;simp;omega
   case p4=>simp;omega
   have hb3:=(HBEL.out.alloc hsz (.cells #[.int .u8 0] 5)).grown hg3 (by simp;omega) (fun k hk=>(HLT.out k hk).1)
   have e3:l ++ [128] ++ List.replicate z 0 ++ [0]=l ++ [128] ++ List.replicate (z+1) 0:=by rw [List.replicate_succ',List.append_assoc (l ++ [128])]
   rw [e3] at hown3
   clear e3 hg3
   have HB3:=Lib.hid hb3
   have HO3:=Lib.hid hown3
   have HST:=Lib.hid (show ∃ a c,v3= .slice a (l.length+1+(z+1)) c from by obtain ⟨a,c,e,_⟩:=hown3.brow;exact ⟨a,c,by rw [e];congr 1;simp;omega⟩)
   clear hb3 hown3
   go_wp2
   go_roundw
   case rel=>exact ⟨z+1,by omega,HST.out,HO3.out,HB3.out⟩
   case measure =>
    obtain ⟨a,c,e⟩:=HST.out
    have:=HN.out
    rw [e]
    simp only [lenOf]
    omega
  ·have hze:z=zeros l.length:=by omega
   have h56:(((l.length+1+z:Nat):Int) % 64 !=56)=false:=by rw [bne_eq_false_iff_eq];omega
   subst hze
   obtain ⟨n,hn⟩:∃ n,n=l.length+1+zeros l.length:=⟨_,rfl⟩
   rw [← hn] at h56 ⊢
   rw [← hn] at HOWN HLT
   clear hn hZ hzl hz
   go_wp2
   have HST:=Lib.hid (show ∃ a c,(Value.slice a1 n c1)= .slice a n c from ⟨a1,c1,rfl⟩)
   obtain ⟨pre,hpre⟩:∃ pre,pre=l ++ [128] ++ List.replicate (zeros l.length) 0:=⟨_,rfl⟩
   rw [← hpre] at HOWN
   have HPRE:=Lib.hid hpre
   have hlp:pre.length≤1000000100:=by rw [hpre];simp;unfold zeros;omega
   clear hpre
   obtain ⟨w0,rfl⟩:∃ w0:World,w0=wr:=⟨_,rfl⟩
   go_loopw [7,9] (fun v i wr=>∃ j:Nat,j≤8∧i= .int .i64 (7 - (j:Int))∧OwnB wr w.heap.size v (pre ++ (lenBytes l.length).take j)∧Below w.heap.size w wr) (fun _ i _=>(intOf i+1).toNat)
   case atStart=>exact ⟨0,by omega,rfl,by simpa using HOWN.out,HBEL.out⟩
   case round =>
    clear HOWN HLT HBEL hsz HST
    obtain ⟨j,hj,rfl,hown,hbel⟩:=hrel
    have hsz:=hbel.size
    have HOWN:=Lib.hid hown
    have HLT:=Lib.hid hown.lt
    have HBEL:=Lib.hid hbel
    clear hown hbel
    by_cases hj8:j<8
    ·have HVJ:=Lib.hid (lenByte_val l.length j)
     have hl0:(0:Int)≤(l.length:Int):=by omega
     have hl1:(l.length:Int)≤1000000000:=by omega
     have hj8':j=0∨j=1∨j=2∨j=3∨j=4∨j=5∨j=6∨j=7:=by omega
     rcases hj8' with rfl | rfl | rfl | rfl | rfl | rfl | rfl | rfl
     ·have hX:bits BinOp.and IntKind.i64 (8*(l.length:Int) / 72057594037927936) 255=B8 (lenByte l.length 0):=by
       rw [show 8*(l.length:Int) / 72057594037927936=((8*l.length / 72057594037927936:Nat):Int) by omega,i64_and255 _ (by omega),HVJ.out,show 2 ^ (8*(7 - 0))=72057594037927936 from rfl]
      obtain ⟨x0,x1⟩:=B8_bd (lenByte l.length 0)
      have HT:=Lib.hid (lenBytes_take l.length hj8)
      clear HVJ
      rw [show (7:Int) - ((0:Nat):Int)=7 from rfl]
      go_wp2_with (at_builtin;refine wpList_append_B rfl (.tmp 43) (.tmp 46) rfl w.heap.size u7 (pre ++ (lenBytes l.length).take 0) [lenByte l.length 0] rfl ?p1_0 ?p2_0 ?p3_0 ?p4_0 ?_;rotate_left 4;intro v3 w3 hown3 hg3)
      case p1_0=>exact World.ownsRow.alloc HOWN.out _
      case p2_0=>exact brow_one _ (heap_alloc_new _ _)
      case p3_0=>simp;omega
      case p4_0=>simp;omega
      have hb3:=(HBEL.out.alloc hsz (.cells #[.int .u8 (B8 (lenByte l.length 0))] 5)).grown hg3 (by simp;omega) (fun k hk=>(HLT.out k hk).1)
      rw [List.append_assoc,← HT.out] at hown3
      refine ⟨⟨1,by omega,rfl,hown3,hb3⟩,by simp only [intOf];omega⟩
     ·have hX:bits BinOp.and IntKind.i64 (8*(l.length:Int) / 281474976710656) 255=B8 (lenByte l.length 1):=by
       rw [show 8*(l.length:Int) / 281474976710656=((8*l.length / 281474976710656:Nat):Int) by omega,i64_and255 _ (by omega),HVJ.out,show 2 ^ (8*(7 - 1))=281474976710656 from rfl]
      obtain ⟨x0,x1⟩:=B8_bd (lenByte l.length 1)
      have HT:=Lib.hid (lenBytes_take l.length hj8)
      clear HVJ
      rw [show (7:Int) - ((1:Nat):Int)=6 from rfl]
      go_wp2_with (at_builtin;refine wpList_append_B rfl (.tmp 43) (.tmp 46) rfl w.heap.size u7 (pre ++ (lenBytes l.length).take 1) [lenByte l.length 1] rfl ?p1_1 ?p2_1 ?p3_1 ?p4_1 ?_;rotate_left 4;intro v3 w3 hown3 hg3)
      case p1_1=>exact World.ownsRow.alloc HOWN.out _
      case p2_1=>exact brow_one _ (heap_alloc_new _ _)
      case p3_1=>simp;omega
      case p4_1=>simp;omega
      have hb3:=(HBEL.out.alloc hsz (.cells #[.int .u8 (B8 (lenByte l.length 1))] 5)).grown hg3 (by simp;omega) (fun k hk=>(HLT.out k hk).1)
      rw [List.append_assoc,← HT.out] at hown3
      refine ⟨⟨2,by omega,rfl,hown3,hb3⟩,by simp only [intOf];omega⟩
     ·have hX:bits BinOp.and IntKind.i64 (8*(l.length:Int) / 1099511627776) 255=B8 (lenByte l.length 2):=by
       rw [show 8*(l.length:Int) / 1099511627776=((8*l.length / 1099511627776:Nat):Int) by omega,i64_and255 _ (by omega),HVJ.out,show 2 ^ (8*(7 - 2))=1099511627776 from rfl]
      obtain ⟨x0,x1⟩:=B8_bd (lenByte l.length 2)
      have HT:=Lib.hid (lenBytes_take l.length hj8)
      clear HVJ
      rw [show (7:Int) - ((2:Nat):Int)=5 from rfl]
      go_wp2_with (at_builtin;refine wpList_append_B rfl (.tmp 43) (.tmp 46) rfl w.heap.size u7 (pre ++ (lenBytes l.length).take 2) [lenByte l.length 2] rfl ?p1_2 ?p2_2 ?p3_2 ?p4_2 ?_;rotate_left 4;intro v3 w3 hown3 hg3)
      case p1_2=>exact World.ownsRow.alloc HOWN.out _
      case p2_2=>exact brow_one _ (heap_alloc_new _ _)
      case p3_2=>simp;omega
      case p4_2=>simp;omega
      have hb3:=(HBEL.out.alloc hsz (.cells #[.int .u8 (B8 (lenByte l.length 2))] 5)).grown hg3 (by simp;omega) (fun k hk=>(HLT.out k hk).1)
      rw [List.append_assoc,← HT.out] at hown3
      refine ⟨⟨3,by omega,rfl,hown3,hb3⟩,by simp only [intOf];omega⟩
     ·have hX:bits BinOp.and IntKind.i64 (8*(l.length:Int) / 4294967296) 255=B8 (lenByte l.length 3):=by
       rw [show 8*(l.length:Int) / 4294967296=((8*l.length / 4294967296:Nat):Int) by omega,i64_and255 _ (by omega),HVJ.out,show 2 ^ (8*(7 - 3))=4294967296 from rfl]
      obtain ⟨x0,x1⟩:=B8_bd (lenByte l.length 3)
      have HT:=Lib.hid (lenBytes_take l.length hj8)
      clear HVJ
      rw [show (7:Int) - ((3:Nat):Int)=4 from rfl]
      go_wp2_with (at_builtin;refine wpList_append_B rfl (.tmp 43) (.tmp 46) rfl w.heap.size u7 (pre ++ (lenBytes l.length).take 3) [lenByte l.length 3] rfl ?p1_3 ?p2_3 ?p3_3 ?p4_3 ?_;rotate_left 4;intro v3 w3 hown3 hg3)
      case p1_3=>exact World.ownsRow.alloc HOWN.out _
      case p2_3=>exact brow_one _ (heap_alloc_new _ _)
      case p3_3=>simp;omega
      case p4_3=>simp;omega
      have hb3:=(HBEL.out.alloc hsz (.cells #[.int .u8 (B8 (lenByte l.length 3))] 5)).grown hg3 (by simp;omega) (fun k hk=>(HLT.out k hk).1)
      rw [List.append_assoc,← HT.out] at hown3
      refine ⟨⟨4,by omega,rfl,hown3,hb3⟩,by simp only [intOf];omega⟩
     ·have hX:bits BinOp.and IntKind.i64 (8*(l.length:Int) / 16777216) 255=B8 (lenByte l.length 4):=by
       rw [show 8*(l.length:Int) / 16777216=((8*l.length / 16777216:Nat):Int) by omega,i64_and255 _ (by omega),HVJ.out,show 2 ^ (8*(7 - 4))=16777216 from rfl]
      obtain ⟨x0,x1⟩:=B8_bd (lenByte l.length 4)
      have HT:=Lib.hid (lenBytes_take l.length hj8)
      clear HVJ
      rw [show (7:Int) - ((4:Nat):Int)=3 from rfl]
      go_wp2_with (at_builtin;refine wpList_append_B rfl (.tmp 43) (.tmp 46) rfl w.heap.size u7 (pre ++ (lenBytes l.length).take 4) [lenByte l.length 4] rfl ?p1_4 ?p2_4 ?p3_4 ?p4_4 ?_;rotate_left 4;intro v3 w3 hown3 hg3)
      case p1_4=>exact World.ownsRow.alloc HOWN.out _
      case p2_4=>exact brow_one _ (heap_alloc_new _ _)
      case p3_4=>simp;omega
      case p4_4=>simp;omega
      have hb3:=(HBEL.out.alloc hsz (.cells #[.int .u8 (B8 (lenByte l.length 4))] 5)).grown hg3 (by simp;omega) (fun k hk=>(HLT.out k hk).1)
      rw [List.append_assoc,← HT.out] at hown3
      refine ⟨⟨5,by omega,rfl,hown3,hb3⟩,by simp only [intOf];omega⟩
     ·have hX:bits BinOp.and IntKind.i64 (8*(l.length:Int) / 65536) 255=B8 (lenByte l.length 5):=by
       rw [show 8*(l.length:Int) / 65536=((8*l.length / 65536:Nat):Int) by omega,i64_and255 _ (by omega),HVJ.out,show 2 ^ (8*(7 - 5))=65536 from rfl]
      obtain ⟨x0,x1⟩:=B8_bd (lenByte l.length 5)
      have HT:=Lib.hid (lenBytes_take l.length hj8)
      clear HVJ
      rw [show (7:Int) - ((5:Nat):Int)=2 from rfl]
      go_wp2_with (at_builtin;refine wpList_append_B rfl (.tmp 43) (.tmp 46) rfl w.heap.size u7 (pre ++ (lenBytes l.length).take 5) [lenByte l.length 5] rfl ?p1_5 ?p2_5 ?p3_5 ?p4_5 ?_;rotate_left 4;intro v3 w3 hown3 hg3)
      case p1_5=>exact World.ownsRow.alloc HOWN.out _
      case p2_5=>exact brow_one _ (heap_alloc_new _ _)
      case p3_5=>simp;omega
      case p4_5=>simp;omega
      have hb3:=(HBEL.out.alloc hsz (.cells #[.int .u8 (B8 (lenByte l.length 5))] 5)).grown hg3 (by simp;omega) (fun k hk=>(HLT.out k hk).1)
      rw [List.append_assoc,← HT.out] at hown3
      refine ⟨⟨6,by omega,rfl,hown3,hb3⟩,by simp only [intOf];omega⟩
     ·have hX:bits BinOp.and IntKind.i64 (8*(l.length:Int) / 256) 255=B8 (lenByte l.length 6):=by
       rw [show 8*(l.length:Int) / 256=((8*l.length / 256:Nat):Int) by omega,i64_and255 _ (by omega),HVJ.out,show 2 ^ (8*(7 - 6))=256 from rfl]
      obtain ⟨x0,x1⟩:=B8_bd (lenByte l.length 6)
      have HT:=Lib.hid (lenBytes_take l.length hj8)
      clear HVJ
      rw [show (7:Int) - ((6:Nat):Int)=1 from rfl]
      go_wp2_with (at_builtin;refine wpList_append_B rfl (.tmp 43) (.tmp 46) rfl w.heap.size u7 (pre ++ (lenBytes l.length).take 6) [lenByte l.length 6] rfl ?p1_6 ?p2_6 ?p3_6 ?p4_6 ?_;rotate_left 4;intro v3 w3 hown3 hg3)
      case p1_6=>exact World.ownsRow.alloc HOWN.out _
      case p2_6=>exact brow_one _ (heap_alloc_new _ _)
      case p3_6=>simp;omega
      case p4_6=>simp;omega
      have hb3:=(HBEL.out.alloc hsz (.cells #[.int .u8 (B8 (lenByte l.length 6))] 5)).grown hg3 (by simp;omega) (fun k hk=>(HLT.out k hk).1)
      rw [List.append_assoc,← HT.out] at hown3
      refine ⟨⟨7,by omega,rfl,hown3,hb3⟩,by simp only [intOf];omega⟩
     ·have hX:bits BinOp.and IntKind.i64 (8*(l.length:Int)) 255=B8 (lenByte l.length 7):=by
       rw [show 8*(l.length:Int)=((8*l.length / 1:Nat):Int) by omega,i64_and255 _ (by omega),HVJ.out,show 2 ^ (8*(7 - 7))=1 from rfl]
      obtain ⟨x0,x1⟩:=B8_bd (lenByte l.length 7)
      have HT:=Lib.hid (lenBytes_take l.length hj8)
      clear HVJ
      rw [show (7:Int) - ((7:Nat):Int)=0 from rfl]
      go_wp2_with (at_builtin;refine wpList_append_B rfl (.tmp 43) (.tmp 46) rfl w.heap.size u7 (pre ++ (lenBytes l.length).take 7) [lenByte l.length 7] rfl ?p1_7 ?p2_7 ?p3_7 ?p4_7 ?_;rotate_left 4;intro v3 w3 hown3 hg3)
      case p1_7=>exact World.ownsRow.alloc HOWN.out _
      case p2_7=>exact brow_one _ (heap_alloc_new _ _)
      case p3_7=>simp;omega
      case p4_7=>simp;omega
      have hb3:=(HBEL.out.alloc hsz (.cells #[.int .u8 (B8 (lenByte l.length 7))] 5)).grown hg3 (by simp;omega) (fun k hk=>(HLT.out k hk).1)
      rw [List.append_assoc,← HT.out] at hown3
      refine ⟨⟨8,by omega,rfl,hown3,hb3⟩,by simp only [intOf];omega⟩
    ·have hj9:j=8:=by omega
     subst hj9
     have HT:=Lib.hid (show (lenBytes l.length).take 8=lenBytes l.length from List.take_of_length_le (by simp [lenBytes]))
     go_wp2
     go_ret
     refine ⟨_,rfl,?_,HBEL.out⟩
     have h:=HOWN.out
     rw [HT.out,HPRE.out] at h
     exact h
end Go.Proofs.YtoifhhljfaoejaaGreatDoor
