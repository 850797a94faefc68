/-
  Lemmas of the law, part 28: the walks of the functions that it calls and the plain facts about them. No condition beyond those written.
-/
import Derived.Test.YtoifhhljfaoejaaGreatDoorPkBA
import Derived.Test.YtoifhhljfaoejaaGreatDoorPkAH
import Derived.StillTailTactics
import Derived.Deep.RegionHeld3
import Derived.Deep.AppendLies
import Derived.WalkArith
import Derived.Outline
import Derived.Test.YtoifhhljfaoejaaGreatDoorPkAI
import Derived.Test.YtoifhhljfaoejaaGreatDoorPkAU
import Derived.Deep.OwnRows
import Derived.Laws.OwnMore
import Derived.ProofKit
import Derived.OpenShut
import Derived.Deep.Slices
import Derived.WalkLawsBesides
namespace Go.Proofs.YtoifhhljfaoejaaGreatDoor
open Go.RowKit
def stOf (s:St) (L:BitVec 64):Array Value:=stRow s.h s.b s.n L
theorem info32:(Tryz.prog.info? 24).map (fun i=>(i.zero,i.size))=some (some (.agg (row 32 fun _=> .int .u8 0)),32):=by kernel_rfl
theorem size32:(Tryz.prog.info? 24).map (·.size)=some 32:=by kernel_rfl
theorem takeSt_any (sb:Nat) (s:St) (x:BitVec 8) (L:BitVec 64) (w:World) (hn:s.n<64) (hg:w.heap[sb]?=some (.cells (stOf s L) 325 (0,0))) :
 Calls Tryz.prog 261 #[.pointer (some ⟨sb,0,none⟩),.int .u8 (B8 x)] w fun e w'=>e= .returned (.tuple #[])∧w'.heap[sb]?=some (.cells (stOf (takeS s x) L) 325 (0,0))∧w.grownBy w' (some sb) :=
 take_any sb s x L w hn hg
structure SumAt (w:World) (sb:Nat) (s:St) (L:BitVec 64) (wr:World):Prop where
 lo:w.heap.size<sb
 st:wr.heap[sb]?=some (.cells (stOf s L) 325 (0,0))
 res:wr.heap[w.heap.size]?=some (.cells (rowB 32 fun _=>0) 24 (0,0))
 bel:Below w.heap.size w wr
theorem SumAt.grow {w wr w':World} {sb:Nat} {s s':St} {L L':BitVec 64} (h:SumAt w sb s L wr) (hs:w'.heap[sb]?=some (.cells (stOf s' L') 325 (0,0))) (hg:wr.grownBy w' (some sb)):SumAt w sb s' L' w':=by
 have hsz:w.heap.size<wr.heap.size:=(Array.getElem?_eq_some_iff.1 h.res).1
 refine ⟨h.lo,hs,?_,h.bel.grown hg (by omega) (fun k hk=>?_)⟩
 ·rw [hg.block _ hsz (fun e=>by have:=h.lo;cases e;omega)]
  exact h.res
 ·cases hk;exact Nat.le_of_lt h.lo
theorem SumAt.setCell {w wr:World} {sb:Nat} {s:St} {L:BitVec 64} (h:SumAt w sb s L wr) {x:Addr} (hx:w.heap.size<x.block) (hs:x.block≠sb) (v:Value):SumAt w sb s L (wr.setCell x v) :=
 ⟨h.lo,(heap_setCell_other wr x sb v (Ne.symm hs)).trans h.st,(heap_setCell_other wr x _ v (by omega)).trans h.res,h.bel.setCell (by omega) v⟩
theorem flat_take_le {α:Type}:∀ (l:List (List α)) (k:Nat) (h:k<l.length),(l.take k).flatten.length+l[k].length≤l.flatten.length
 | [],k,h=>absurd h (by simp)
 | x :: l,0,_=>by simp
 | x :: l,k+1,h=>by
  have:=flat_take_le l k (by simpa using h)
  simp only [List.take_succ_cons,List.flatten_cons,List.length_append,List.getElem_cons_succ]
  omega
def outK (h:Nat→BitVec 32) (k:Nat):Nat→BitVec 8:=fun i=>if i<k then outOf h i else 0
theorem outK_step (h:Nat→BitVec 32) (k:Nat):upd (outK h k) k (outOf h k)=outK h (k+1):=by
 funext i
 unfold upd outK
 by_cases e:i=k
 ·subst e;simp
 ·rw [if_neg e]
  by_cases hi:i<k
  ·rw [if_pos hi,if_pos (by omega)]
  ·rw [if_neg hi,if_neg (by omega)]
theorem rowB_congr {n:Nat} {f g:Nat→BitVec 8} (h:∀ i,i<n→f i=g i):rowB n f=rowB n g:=row_congr fun i hi=>by rw [h i hi]
theorem out_val (h:Nat→BitVec 32) (k r:Nat) (hr:k % 4=r):U (h (k / 4)) / ((2 ^ (24 - 8*r):Nat):Int) % (256:Int)=B8 (outOf h k):=by
 unfold U B8 outOf
 rw [BitVec.toNat_setWidth,BitVec.toNat_ushiftRight,Nat.shiftRight_eq_div_pow,hr,Int.natCast_emod,Int.natCast_ediv]
 rfl
set_option maxRecDepth 100000 in
set_option maxHeartbeats 1000000 in
theorem sum_any (v:Value) (l:List (List (BitVec 8))) (w:World) (hv:BRows w v l) (hl:l.length≤1000000) (hm:l.flatten.length≤1000000000) :
 Calls Tryz.prog 224 #[v] w fun e w'=>e= .returned (.agg (rowB 32 (sha l.flatten)))∧Below w.heap.size w w':=by
 obtain ⟨a,c,rfl,_,hv⟩:=hv
 have HV:=Lib.hid hv
 clear hv
 go_enter Tryz.func224,Tryz.ntmps224
 go_wp2_with (first | (with_reducible refine wpList_alloc_row rfl 24 rfl 32 _ info32 ?_) | (go_at_call 260;refine (begin_any _).mono ?_;rintro e w1 ⟨sb,rfl,hsb,hs,hb1⟩))
 have hat:SumAt w sb st0 0 w1:=by
  have e1:(w.alloc (.cells (row 32 fun _=> .int .u8 0) 24)).heap.size=w.heap.size+1:=by simp
  refine ⟨by rw [e1] at hsb;omega,hs,?_,?_⟩
  ·rw [hb1.block _ (by rw [e1];omega)];exact heap_alloc_new _ _
  ·exact ((Below.refl _ _).alloc (Nat.le_refl _) _).trans (hb1.mono (by rw [e1];omega))
 clear hs hb1 hsb
 go_loopw [14] (fun i wr=>∃ k:Nat,k≤l.length∧i= .int .i64 k∧SumAt w sb (takes st0 (l.take k).flatten) (BitVec.ofNat 64 (l.take k).flatten.length) wr) (fun i _=>l.length - (intOf i).toNat)
 case atStart=>exact ⟨0,Nat.zero_le _,rfl,hat⟩
 case round =>
  clear hat
  obtain ⟨k,hk,rfl,hat⟩:=hrel
  by_cases hlt:k<l.length
  ·obtain ⟨b,off,ha,hbl,hcells⟩:=HV.out (by omega)
   obtain ⟨vi,hvi,a2,c2,rfl,_,hin⟩:=hcells k hlt
   have hk0:(0:Int)≤(k:Int):=by omega
   have hk1:(k:Int)<(l.length:Int):=by omega
   have hci:=(hat.bel.cell (p:=⟨b,off+k,none⟩) hbl).trans hvi
   rw [ha]
   clear hvi hcells
   have HI:=Lib.hid hin
   have HT:=Lib.hid (show l.take (k+1)=l.take k ++ [l[k]] from List.take_succ_eq_append_getElem hlt)
   have hln:=flat_take_le l k hlt
   clear hin
   generalize l[k]=m at *
   obtain ⟨p,hp⟩:∃ p,p=(l.take k).flatten:=⟨_,rfl⟩
   rw [← hp] at hat hln
   have HP:=Lib.hid hp.symm
   clear hp
   go_wp2_with fail
   obtain ⟨w0,rfl⟩:∃ w0:World,w0=wr:=⟨_,rfl⟩
   go_loopw [20] (fun i w2=>∃ j:Nat,j≤m.length∧i= .int .i64 j∧SumAt w sb (takes (takes st0 p) (m.take j)) (BitVec.ofNat 64 p.length) w2∧Below w.heap.size w0 w2) (fun i _=>m.length - (intOf i).toNat)
   case atStart=>exact ⟨0,Nat.zero_le _,rfl,hat,Below.refl _ _⟩
   case round =>
    clear hat
    obtain ⟨j,hj,rfl,hat,hb0⟩:=hrel
    by_cases hjl:j<m.length
    ·obtain ⟨b2,o2,ha2,hbl2,hc2⟩:=HI.out (by omega)
     have hcj:=(hat.bel.cell (p:=⟨b2,o2+j,none⟩) hbl2).trans (hc2 j hjl)
     have HTJ:=Lib.hid (show takes (takes st0 p) (m.take (j+1))=takeS (takes (takes st0 p) (m.take j)) m[j] by
      rw [List.take_succ_eq_append_getElem hjl,takes_snoc])
     have hlt64:=takes_lt (takes_lt (s:=st0) (by decide) p) (m.take j)
     have hj0:(0:Int)≤(j:Int):=by omega
     have hj1:(j:Int)<(m.length:Int):=by omega
     rw [ha2]
     clear hc2
     generalize takes (takes st0 p) (m.take j)=S at *
     generalize m[j]=x at *
     go_wp2_with fail
     refine (takeSt_any sb S x _ _ hlt64 hat.st).mono ?_
     rintro e w3 ⟨rfl,hs3,hg3⟩
     have hat3:=hat.grow hs3 hg3
     have hb3:Below w.heap.size w0 w3:=hb0.grown hg3 (by have:=hat.bel.size;omega) (fun k hk=>by cases hk;exact Nat.le_of_lt hat.lo)
     clear hs3 hg3 hat hb0
     go_wp2
     go_roundw
     case rel=>exact ⟨j+1,by omega,by go_num,by rw [HTJ.out];exact hat3,hb3⟩
     case measure=>simp [intOf];omega
    ·have hje:m.take j=m:=List.take_of_length_le (by omega)
     rw [hje] at hat
     have HTK:=Lib.hid (show takes st0 (l.take (k+1)).flatten=takes (takes st0 p) m∧BitVec.ofNat 64 (l.take (k+1)).flatten.length=BitVec.ofNat 64 p.length+BitVec.ofNat 64 m.length from by
      rw [HT.out,List.flatten_append,List.flatten_cons,List.flatten_nil,List.append_nil,HP.out,takes_append,List.length_append,BitVec.ofNat_add]
      exact ⟨rfl,rfl⟩)
     have hst:=hat.st
     have cL:wr.cell? ⟨sb,137,none⟩=some (.int .u64 (Q (BitVec.ofNat 64 p.length))):=by rw [cell_row hst (by omega),st_L]
     have fL:wr.frozen? ⟨sb,137,none⟩=false:=frozen_of_row wr _ _ _ _ hst
     have hq:=Q_addn (BitVec.ofNat 64 p.length) m.length (by omega)
     have hq':=Q_addn' (BitVec.ofNat 64 p.length) m.length (by omega)
     have HH:=Lib.hid ((heap_set_row (.int .u64 (Q (BitVec.ofNat 64 p.length+BitVec.ofNat 64 m.length))) hst (by omega)).trans (congrArg (fun r=>some (Obj.cells r 325 (0,0))) (stRow_setL _)))
     have HAT:=Lib.hid hat
     clear hat hst hje
     generalize BitVec.ofNat 64 p.length=L1 at *
     generalize BitVec.ofNat 64 m.length=L2 at *
     generalize takes (takes st0 p) m=S at *
     go_wp2
     go_roundw
     case rel =>
      refine ⟨k+1,by omega,by go_num,?_⟩
      rw [HTK.out.1,HTK.out.2]
      exact HAT.out.grow HH.out (grown_setCell (grown_refl _ _) (.inr rfl) _)
     case measure=>simp [intOf];omega
  ·have hke:l.take k=l:=List.take_of_length_le (by omega)
   rw [hke] at hat
   clear hke
   have hlt64:=takes_lt (s:=st0) (by decide) l.flatten
   go_wp2_with fail
   refine (takeSt_any sb _ 128 _ _ hlt64 hat.st).mono ?_
   rintro e w2 ⟨rfl,hs2,hg2⟩
   have hat2:=hat.grow hs2 hg2
   clear hs2 hg2 hat hlt64
   obtain ⟨len,hlen⟩:∃ len,len=l.flatten.length:=⟨_,rfl⟩
   have hS0:(takeS (takes st0 l.flatten) 128).n=(len+1) % 64:=by
    rw [takeS_n (takes_lt (by decide) _),takes_n (by decide),hlen]
    show ((0+l.flatten.length) % 64+1) % 64=_
    omega
   rw [← hlen] at hat2
   have hlm:len≤1000000000:=by omega
   have HLEN:=Lib.hid hlen
   clear hlen
   go_wp2
   go_loopw [41] (fun _ wr=>∃ z:Nat,z≤zeros len∧SumAt w sb (takes (takeS (takes st0 l.flatten) 128) (List.replicate z 0)) (BitVec.ofNat 64 len) wr) (fun _ wr=>(120 - (intOf ((wr.cell? ⟨sb,136,none⟩).getD undef)).toNat) % 64)
   case atStart=>exact ⟨0,Nat.zero_le _,hat2⟩
   case round =>
    clear hat2
    obtain ⟨z,hz,hat⟩:=hrel
    have hSn:(takes (takeS (takes st0 l.flatten) 128) (List.replicate z 0)).n=(len+1+z) % 64:=by
     rw [takes_n (takeS_lt _ _),hS0,List.length_replicate];omega
    have hZ:zeros len=(119 - len % 64) % 64:=rfl
    have hlt64:(takes (takeS (takes st0 l.flatten) 128) (List.replicate z 0)).n<64:=takes_lt (takeS_lt _ _) _
    have hcn:wr.cell? ⟨sb,136,none⟩=some (.int .i64 (takes (takeS (takes st0 l.flatten) 128) (List.replicate z 0)).n):=by rw [cell_row hat.st (by omega),st_n]
    by_cases hzl:z<zeros len
    ·have HTZ:=Lib.hid (show takes (takeS (takes st0 l.flatten) 128) (List.replicate (z+1) 0)=takeS (takes (takeS (takes st0 l.flatten) 128) (List.replicate z 0)) 0 by
      rw [List.replicate_succ',takes_snoc])
     have h56:(takes (takeS (takes st0 l.flatten) 128) (List.replicate z 0)).n≠56:=by rw [hSn];omega
     clear hSn hZ
     generalize takes (takeS (takes st0 l.flatten) 128) (List.replicate z 0)=S at *
     have he:((S.n:Int) !=56)=true:=by rw [bne_iff_ne];omega
     have he':((S.n:Int) == 56)=false:=by rw [beq_eq_false_iff_ne];omega
     go_wp2_with fail
     refine (takeSt_any sb S 0 _ _ hlt64 hat.st).mono ?_
     rintro e w3 ⟨rfl,hs3,hg3⟩
     have hat3:=hat.grow hs3 hg3
     have hc3:w3.cell? ⟨sb,136,none⟩=some (.int .i64 ((S.n+1) % 64:Nat)):=by rw [cell_row hs3 (by omega),st_n,takeS_n hlt64]
     clear hs3 hg3 hat
     go_wp2
     go_roundw
     case rel=>exact ⟨z+1,by omega,by rw [HTZ.out];exact hat3⟩
     case measure =>
      simp only [hc3,hcn,Option.getD_some,intOf,Int.toNat_natCast]
      omega
    ·have hze:z=zeros len:=by omega
     have h56:(takes (takeS (takes st0 l.flatten) 128) (List.replicate z 0)).n=56:=by rw [hSn];omega
     clear hSn hZ hzl
     subst hze
     obtain ⟨S,hS⟩:∃ S,S=takes (takeS (takes st0 l.flatten) 128) (List.replicate (zeros len) 0):=⟨_,rfl⟩
     rw [← hS] at hat hlt64 hcn h56
     have HS:=Lib.hid hS
     clear hS hz hS0
     have he:((S.n:Int) !=56)=false:=by rw [h56];decide
     have he':((S.n:Int) == 56)=true:=by rw [h56];decide
     clear h56
     go_wp2
     go_loopw [8] (fun i w5=>∃ j:Nat,j≤8∧i= .int .i64 (7 - (j:Int))∧SumAt w sb (takes S ((lenBytes len).take j)) (BitVec.ofNat 64 len) w5) (fun i _=>(intOf i+1).toNat)
     case atStart=>exact ⟨0,by omega,rfl,hat⟩
     case round =>
      clear hat hcn he he'
      obtain ⟨j,hj,rfl,hat⟩:=hrel
      by_cases hj8:j<8
      ·have cL:wr.cell? ⟨sb,137,none⟩=some (.int .u64 (len:Int)):=by rw [cell_row hat.st (by omega),st_L,Q_ofNat len (by omega)]
       have hlb:(len:Int)≤1000000000:=by omega
       have hl0:(0:Int)≤(len:Int):=by omega
       have hlt64j:=takes_lt hlt64 ((lenBytes len).take j)
       have HTJ:=Lib.hid (show takes S ((lenBytes len).take (j+1))=takeS (takes S ((lenBytes len).take j)) (lenByte len j) by
        rw [lenBytes_take len hj8,takes_snoc])
       have HVJ:=Lib.hid (lenByte_val len j)
       clear hlt64
       generalize takes S ((lenBytes len).take j)=S2 at *
       have hj8':j=0∨j=1∨j=2∨j=3∨j=4∨j=5∨j=6∨j=7:=by omega
       rcases hj8' with rfl | rfl | rfl | rfl | rfl | rfl | rfl | rfl
       ·have hB:(len:Int)*8 / 72057594037927936=B8 (lenByte len 0):=by
         rw [HVJ.out,show 2 ^ (8*(7 - 0))=72057594037927936 from rfl];omega
        have HB:=Lib.hid hB
        clear hB
        rw [show (7:Int) - ((0:Nat):Int)=7 from rfl]
        go_wp2_with fail
        rw [HB.out]
        refine (takeSt_any sb S2 (lenByte len 0) _ _ hlt64j hat.st).mono ?_
        rintro e w6 ⟨rfl,hs6,hg6⟩
        have hat6:=hat.grow hs6 hg6
        clear hs6 hg6 hat HB cL
        go_wp2
        go_roundw
        case rel=>exact ⟨1,by omega,rfl,by rw [HTJ.out];exact hat6⟩
        case measure=>simp [intOf]
       ·have hB:(len:Int)*8 / 281474976710656=B8 (lenByte len 1):=by
         rw [HVJ.out,show 2 ^ (8*(7 - 1))=281474976710656 from rfl];omega
        have HB:=Lib.hid hB
        clear hB
        rw [show (7:Int) - ((1:Nat):Int)=6 from rfl]
        go_wp2_with fail
        rw [HB.out]
        refine (takeSt_any sb S2 (lenByte len 1) _ _ hlt64j hat.st).mono ?_
        rintro e w6 ⟨rfl,hs6,hg6⟩
        have hat6:=hat.grow hs6 hg6
        clear hs6 hg6 hat HB cL
        go_wp2
        go_roundw
        case rel=>exact ⟨2,by omega,rfl,by rw [HTJ.out];exact hat6⟩
        case measure=>simp [intOf]
       ·have hB:(len:Int)*8 / 1099511627776=B8 (lenByte len 2):=by
         rw [HVJ.out,show 2 ^ (8*(7 - 2))=1099511627776 from rfl];omega
        have HB:=Lib.hid hB
        clear hB
        rw [show (7:Int) - ((2:Nat):Int)=5 from rfl]
        go_wp2_with fail
        rw [HB.out]
        refine (takeSt_any sb S2 (lenByte len 2) _ _ hlt64j hat.st).mono ?_
        rintro e w6 ⟨rfl,hs6,hg6⟩
        have hat6:=hat.grow hs6 hg6
        clear hs6 hg6 hat HB cL
        go_wp2
        go_roundw
        case rel=>exact ⟨3,by omega,rfl,by rw [HTJ.out];exact hat6⟩
        case measure=>simp [intOf]
       ·have hB:(len:Int)*8 / 4294967296=B8 (lenByte len 3):=by
         rw [HVJ.out,show 2 ^ (8*(7 - 3))=4294967296 from rfl];omega
        have HB:=Lib.hid hB
        clear hB
        rw [show (7:Int) - ((3:Nat):Int)=4 from rfl]
        go_wp2_with fail
        rw [HB.out]
        refine (takeSt_any sb S2 (lenByte len 3) _ _ hlt64j hat.st).mono ?_
        rintro e w6 ⟨rfl,hs6,hg6⟩
        have hat6:=hat.grow hs6 hg6
        clear hs6 hg6 hat HB cL
        go_wp2
        go_roundw
        case rel=>exact ⟨4,by omega,rfl,by rw [HTJ.out];exact hat6⟩
        case measure=>simp [intOf]
       ·have hB:(len:Int)*8 / 16777216 % 256=B8 (lenByte len 4):=by
         rw [HVJ.out,show 2 ^ (8*(7 - 4))=16777216 from rfl];omega
        have HB:=Lib.hid hB
        clear hB
        rw [show (7:Int) - ((4:Nat):Int)=3 from rfl]
        go_wp2_with fail
        rw [HB.out]
        refine (takeSt_any sb S2 (lenByte len 4) _ _ hlt64j hat.st).mono ?_
        rintro e w6 ⟨rfl,hs6,hg6⟩
        have hat6:=hat.grow hs6 hg6
        clear hs6 hg6 hat HB cL
        go_wp2
        go_roundw
        case rel=>exact ⟨5,by omega,rfl,by rw [HTJ.out];exact hat6⟩
        case measure=>simp [intOf]
       ·have hB:(len:Int)*8 / 65536 % 256=B8 (lenByte len 5):=by
         rw [HVJ.out,show 2 ^ (8*(7 - 5))=65536 from rfl];omega
        have HB:=Lib.hid hB
        clear hB
        rw [show (7:Int) - ((5:Nat):Int)=2 from rfl]
        go_wp2_with fail
        rw [HB.out]
        refine (takeSt_any sb S2 (lenByte len 5) _ _ hlt64j hat.st).mono ?_
        rintro e w6 ⟨rfl,hs6,hg6⟩
        have hat6:=hat.grow hs6 hg6
        clear hs6 hg6 hat HB cL
        go_wp2
        go_roundw
        case rel=>exact ⟨6,by omega,rfl,by rw [HTJ.out];exact hat6⟩
        case measure=>simp [intOf]
       ·have hB:(len:Int)*8 / 256 % 256=B8 (lenByte len 6):=by
         rw [HVJ.out,show 2 ^ (8*(7 - 6))=256 from rfl];omega
        have HB:=Lib.hid hB
        clear hB
        rw [show (7:Int) - ((6:Nat):Int)=1 from rfl]
        go_wp2_with fail
        rw [HB.out]
        refine (takeSt_any sb S2 (lenByte len 6) _ _ hlt64j hat.st).mono ?_
        rintro e w6 ⟨rfl,hs6,hg6⟩
        have hat6:=hat.grow hs6 hg6
        clear hs6 hg6 hat HB cL
        go_wp2
        go_roundw
        case rel=>exact ⟨7,by omega,rfl,by rw [HTJ.out];exact hat6⟩
        case measure=>simp [intOf]
       ·have hB:(len:Int)*8 % 256=B8 (lenByte len 7):=by
         rw [HVJ.out,show 2 ^ (8*(7 - 7))=1 from rfl];omega
        have HB:=Lib.hid hB
        clear hB
        rw [show (7:Int) - ((7:Nat):Int)=0 from rfl]
        go_wp2_with fail
        rw [HB.out]
        refine (takeSt_any sb S2 (lenByte len 7) _ _ hlt64j hat.st).mono ?_
        rintro e w6 ⟨rfl,hs6,hg6⟩
        have hat6:=hat.grow hs6 hg6
        clear hs6 hg6 hat HB cL
        go_wp2
        go_roundw
        case rel=>exact ⟨8,by omega,rfl,by rw [HTJ.out];exact hat6⟩
        case measure=>simp [intOf]
      ·have h8:(lenBytes len).take j=lenBytes len:=List.take_of_length_le (by simp [lenBytes];omega)
       rw [h8] at hat
       clear h8
       have hj7:(7:Int) - (j:Int)= -1:=by omega
       rw [hj7]
       clear hj7
       go_wp2_with (with_reducible refine wpList_alloc_row rfl 24 rfl 32 _ info32 ?_)
       have hz:=hat.bel.size
       have hrs:w.heap.size<wr.heap.size:=(Array.getElem?_eq_some_iff.1 hat.res).1
       have hbs:sb<wr.heap.size:=(Array.getElem?_eq_some_iff.1 hat.st).1
       have hat9:SumAt w sb (takes S (lenBytes len)) (BitVec.ofNat 64 len) (wr.alloc (.cells (row 32 fun _=> .int .u8 0) 24)) :=
        hat.grow ((Below.heap_alloc _ _ _ hbs).trans hat.st) (grown_alloc (grown_refl _ _) _)
       obtain ⟨ob,hob⟩:∃ ob,ob=wr.heap.size:=⟨_,rfl⟩
       have hnew:(wr.alloc (.cells (row 32 fun _=> .int .u8 0) 24)).heap[ob]?=some (.cells (rowB 32 (outK (takes S (lenBytes len)).h 0)) 24 (0,0)):=by
        rw [hob];exact heap_alloc_new _ _
       have hfin:sha l.flatten=outOf (takes S (lenBytes len)).h:=by
        unfold sha pad;rw [takes_append,takes_append,takes_append,HLEN.out,HS.out,HLEN.out];rfl
       have HFIN:=Lib.hid hfin
       have hob1:w.heap.size<ob:=by omega
       have hob2:sb<ob:=by omega
       rw [← hob]
       clear hat hfin hob hrs hbs hz
       generalize takes S (lenBytes len)=S3 at *
       go_loopw [63] (fun i w9=>∃ q:Nat,q≤32∧i= .int .i64 q∧SumAt w sb S3 (BitVec.ofNat 64 len) w9∧w9.heap[ob]?=some (.cells (rowB 32 (outK S3.h q)) 24 (0,0))) (fun i _=>32 - (intOf i).toNat)
       case atStart=>exact ⟨0,by omega,rfl,hat9,hnew⟩
       case round =>
        clear hat9 hnew
        obtain ⟨q,hq,rfl,hat,ho⟩:=hrel
        by_cases hq32:q<32
        ·have hq0:(0:Int)≤(q:Int):=by omega
         have hq1:(q:Int)<32:=by omega
         have ch:wr.cell? ⟨sb,q / 4,none⟩=some (.int .u32 (U (S3.h (q / 4)))):=by rw [cell_row hat.st (by omega),st_h (by omega)]
         have co:wr.cell? ⟨ob,q,none⟩=some (.int .u8 (B8 (outK S3.h q q))):=cell_rowB ho hq32
         have fo:wr.frozen? ⟨ob,q,none⟩=false:=frozen_of_row wr _ _ _ _ ho
         have HO:=Lib.hid ho
         have HOK:=Lib.hid (outK_step S3.h q)
         have HVAL:=Lib.hid (out_val S3.h q)
         obtain ⟨u0,u1⟩:=U_bd (S3.h (q / 4))
         clear ho
         have hr4:q % 4=0∨q % 4=1∨q % 4=2∨q % 4=3:=by omega
         rcases hr4 with hr | hr | hr | hr
         ·have hvv:U (S3.h (q / 4)) / 16777216=B8 (outOf S3.h q):=by
           have:=HVAL.out 0 hr
           rw [show ((2 ^ (24 - 8*0):Nat):Int)=16777216 from rfl] at this
           omega
          have HVV:=Lib.hid hvv
          have hri:(q:Int) % 4=0:=by omega
          clear hr hvv
          go_wp2
          go_roundw
          case rel =>
           rw [HVV.out]
           refine ⟨q+1,by omega,by go_num,hat.setCell hob1 (Nat.ne_of_gt hob2) _,?_⟩
           rw [heap_set_rowB _ HO.out hq32,HOK.out]
          case measure=>simp [intOf];omega
         ·have hvv:U (S3.h (q / 4)) / 65536 % 256=B8 (outOf S3.h q):=by
           have:=HVAL.out 1 hr
           rw [show ((2 ^ (24 - 8*1):Nat):Int)=65536 from rfl] at this
           omega
          have HVV:=Lib.hid hvv
          have hri:(q:Int) % 4=1:=by omega
          clear hr hvv
          go_wp2
          go_roundw
          case rel =>
           rw [HVV.out]
           refine ⟨q+1,by omega,by go_num,hat.setCell hob1 (Nat.ne_of_gt hob2) _,?_⟩
           rw [heap_set_rowB _ HO.out hq32,HOK.out]
          case measure=>simp [intOf];omega
         ·have hvv:U (S3.h (q / 4)) / 256 % 256=B8 (outOf S3.h q):=by
           have:=HVAL.out 2 hr
           rw [show ((2 ^ (24 - 8*2):Nat):Int)=256 from rfl] at this
           omega
          have HVV:=Lib.hid hvv
          have hri:(q:Int) % 4=2:=by omega
          clear hr hvv
          go_wp2
          go_roundw
          case rel =>
           rw [HVV.out]
           refine ⟨q+1,by omega,by go_num,hat.setCell hob1 (Nat.ne_of_gt hob2) _,?_⟩
           rw [heap_set_rowB _ HO.out hq32,HOK.out]
          case measure=>simp [intOf];omega
         ·have hvv:U (S3.h (q / 4)) % 256=B8 (outOf S3.h q):=by
           have:=HVAL.out 3 hr
           rw [show ((2 ^ (24 - 8*3):Nat):Int)=1 from rfl] at this
           omega
          have HVV:=Lib.hid hvv
          have hri:(q:Int) % 4=3:=by omega
          clear hr hvv
          go_wp2
          go_roundw
          case rel =>
           rw [HVV.out]
           refine ⟨q+1,by omega,by go_num,hat.setCell hob1 (Nat.ne_of_gt hob2) _,?_⟩
           rw [heap_set_rowB _ HO.out hq32,HOK.out]
          case measure=>simp [intOf];omega
        ·have hro:rowB 32 (outK S3.h q)=rowB 32 (sha l.flatten):=rowB_congr fun i hi=>by
          unfold outK;rw [if_pos (by omega),HFIN.out]
         rw [hro] at ho
         have HO:=Lib.hid ho
         have HA:=Lib.hid hat
         have HSZ:=Lib.hid (show (Tryz.prog.info? 24).map (·.size)=some (rowB 32 (sha l.flatten)).size by rw [size32,rowB_size])
         clear ho hro hat HFIN
         go_wp2_with (first
          | ((with_reducible show wpList _ _ _ (⟨_,.load 24 _,_,_,_,_⟩ :: _) _ _);refine wpList_load_row rfl 24 _ rfl ob rfl 24 (rowB 32 (sha l.flatten)) (0,0) _ HO.out Tryz.underlying24 rfl HSZ.out ?_)
          | ((with_reducible show wpList _ _ _ (⟨_,.store 24 _ _,_,_,_,_⟩ :: _) _ _);refine wpList_store_rowTo rfl 24 _ _ rfl rfl w.heap.size (rowB 32 (sha l.flatten)) rfl rfl 24 _ HA.out.res HSZ.out (by rw [rowB_size,rowB_size]) (rowB_oneCell _ _) ?_))
         refine bodyPost_ret (results_cell_row rfl _ _ w.heap.size 24 (rowB 32 (sha l.flatten)) (0,0) _ rfl (heap_setRow_at HA.out.res) Tryz.underlying24 rfl HSZ.out) rfl ?_
         exact ⟨rfl,below_setRow HA.out.bel (Nat.le_refl _) _⟩
end Go.Proofs.YtoifhhljfaoejaaGreatDoor
namespace Go.Proofs.YtoifhhljfaoejaaGreatDoor
open Go.RowKit
theorem BRows.shape {w:World} {v:Value} {l:List (List (BitVec 8))} (h:BRows w v l):∃ a c,v= .slice a l.length c:=by obtain ⟨a,c,e,_⟩:=h;exact ⟨a,c,e⟩
theorem BRow.shape {w:World} {v:Value} {l:List (BitVec 8)} (h:BRow w v l):∃ a c,v= .slice a l.length c:=by obtain ⟨a,c,e,_⟩:=h;exact ⟨a,c,e⟩
end Go.Proofs.YtoifhhljfaoejaaGreatDoor

namespace Go.Proofs.YtoifhhljfaoejaaGreatDoor
open Go.RowKit
theorem made_row (n:Nat):madeCells #[Value.int .u8 0] n=rowB n fun _=>0:=by
 apply Array.ext'
 rw [toList_madeCells_one]
 simp only [rowB,row,List.toList_toArray]
 rw [List.map_const',List.length_range]
 rfl
theorem make_B (n:Nat) (h:n≤1000000000) (w:World):(Instr.makeSlice 29 (.int .i64 (n:Int)) (.int .i64 (n:Int))).run Tryz.prog w= .ok (.slice (some ⟨w.heap.size,0,none⟩) n n) (w.alloc (.cells (rowB n fun _=>0) 5)):=by
 rw [← made_row]
 exact run_make_row' 29 5 _ 1 Tryz.underlying29 info_u8 rfl .i64 .i64 n (by omega) (by omega) w
end Go.Proofs.YtoifhhljfaoejaaGreatDoor
namespace Go.Proofs.YtoifhhljfaoejaaGreatDoor
open Go.ChangeShapes Go.WideShapes Go.ChangeAt Go.RowKit Go.Deep
def NRow (w:World) (v:Value) (l:List (Nat→BitVec 8)):Prop :=
 ∃ a c,v= .slice a l.length c∧(a=none→c=0)∧(0<l.length→∃ b off,a=some ⟨b,off,none⟩∧b<w.heap.size∧∀ (i:Nat) (h:i<l.length) (j:Nat),j<32→w.cell? ⟨b,off+i*32+j,none⟩=some (.int .u8 (B8 (l[i] j))))
theorem NRow.below {w w':World} {v:Value} {l:List (Nat→BitVec 8)} (h:NRow w v l) (hb:Below w.heap.size w w'):NRow w' v l:=by
 obtain ⟨a,c,rfl,hn,h⟩:=h
 refine ⟨a,c,rfl,hn,fun h0=>?_⟩
 obtain ⟨b,off,rfl,h1,h2⟩:=h h0
 exact ⟨b,off,rfl,Nat.lt_of_lt_of_le h1 hb.size,fun i hi j hj=>(hb.cell (p:=⟨b,off+i*32+j,none⟩) h1).trans (h2 i hi j hj)⟩
theorem i64_of_wf {y:Int} (h:(Lit.int .i64 y).wf=true): -9223372036854775808≤y∧y≤9223372036854775807:=by
 unfold Lit.wf at h
 rw [Bool.and_eq_true,decide_eq_true_eq,decide_eq_true_eq,show IntKind.i64.min= -9223372036854775808 by decide,show IntKind.i64.max=9223372036854775807 by decide] at h
 exact h
theorem cell_lt {w:World} {a:Addr} {v:Value} (h:w.cell? a=some v):a.block<w.heap.size:=by
 unfold World.cell? at h
 split at h
 ·rename_i hb
  exact (Array.getElem?_eq_some_iff.1 hb).1
 ·cases h
theorem add_spot {a:Addr} {i:Nat} (h:a.spot=none):a.add i=⟨a.block,a.off+i,none⟩:=by
 obtain ⟨b,off,spot⟩:=a
 simp only at h
 subst h
 unfold Addr.add;split
 ·rename_i hz;subst hz;rfl
 ·rfl
end Go.Proofs.YtoifhhljfaoejaaGreatDoor
namespace Go.Proofs.YtoifhhljfaoejaaGreatDoor
open Go.RowKit
def cutA (A:Option Addr) (c i:Nat):Option Addr:=if c=i then A else A.map (·.add (i*1))
theorem cutA_zero (A:Option Addr) (c:Nat):cutA A c 0=A:=by
 unfold cutA
 split
 ·rfl
 ·cases A with
  | none=>rfl
  | some a=>show some (a.add 0)=_;unfold Addr.add;simp
theorem elem_B:Tryz.prog.underlying 29=some (.slice (Tryz.prog.elem 29)):=by kernel_rfl
theorem size_B (w:World):(sizeOf (Tryz.prog.elem 29)).run Tryz.prog w= .ok 1 w:=by kernel_rfl
theorem BRow.cut {w:World} {A:Option Addr} {n c:Nat} {l:List (BitVec 8)} (h:BRow w (.slice A n c) l) {i k:Nat} (h1:i≤k) (h2:k≤l.length) (hc:l.length≤c):BRow w (.slice (cutA A c i) (k - i) (c - i)) ((l.drop i).take (k - i)):=by
 obtain ⟨a,c',e,hn,hp⟩:=h
 cases e
 have hl:((l.drop i).take (k - i)).length=k - i:=by rw [List.length_take,List.length_drop];omega
 refine ⟨cutA A c i,c - i,by rw [hl],fun hz=>?_,fun h0=>?_⟩
 ·cases A with
  | none=>rw [hn rfl];omega
  | some a=>unfold cutA at hz;split at hz <;> cases hz
 ·rw [hl] at h0
  obtain ⟨b,off,rfl,hb,hcell⟩:=hp (by omega)
  refine ⟨b,off+i,?_,hb,fun j hj=>?_⟩
  ·unfold cutA
   rw [if_neg (by omega),Nat.mul_one]
   show some ((⟨b,off,none⟩:Addr).add i)=_
   rw [add_spot rfl]
  ·rw [hl] at hj
   rw [Nat.add_assoc,hcell (i+j) (by omega)]
   simp
theorem BRow.cutHi {w:World} {A:Option Addr} {n c:Nat} {l:List (BitVec 8)} (h:BRow w (.slice A n c) l) {k:Nat} (h2:k≤l.length) (hc:l.length≤c):BRow w (.slice A k c) (l.take k):=by
 have:=h.cut (Nat.zero_le k) h2 hc
 simpa [cutA_zero] using this
end Go.Proofs.YtoifhhljfaoejaaGreatDoor
