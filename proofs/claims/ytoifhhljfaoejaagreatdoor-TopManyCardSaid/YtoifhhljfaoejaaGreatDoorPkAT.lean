/-
  Lemmas of the law, part 20: the walks of the functions that it calls and the plain facts about them. No condition beyond those written.
-/
import Derived.Test.YtoifhhljfaoejaaGreatDoorPkAO
import Derived.Test.YtoifhhljfaoejaaGreatDoorPkAH
import Derived.Test.YtoifhhljfaoejaaGreatDoorPkAA
namespace Go.Proofs.YtoifhhljfaoejaaGreatDoor.Shb
open Go.Proofs.YtoifhhljfaoejaaGreatDoor Go.RowKit
def stOf (s:St) (L:BitVec 64):Array Value:=stRow s.h s.b s.n L
theorem info64:(Tryz.prog.info? 75).map (fun i=>(i.zero,i.size))=some (some (.agg (row 64 fun _=> .int .u8 0)),64):=by kernel_rfl
theorem size64:(Tryz.prog.info? 75).map (·.size)=some 64:=by kernel_rfl
theorem takeSt_any (sb:Nat) (s:St) (x:BitVec 8) (L:BitVec 64) (w:World) (hn:s.n<128) (hg:w.heap[sb]?=some (.cells (stOf s L) 353 (0,0))) :
 Calls Tryz.prog 304 #[.pointer (some ⟨sb,0,none⟩),.int .u8 (B8 x)] w fun e w'=>e= .returned (.tuple #[])∧w'.heap[sb]?=some (.cells (stOf (takeS s x) L) 353 (0,0))∧w.grownBy w' (some sb) :=
 take_any sb s x L w hn hg
structure SumAt (w:World) (sb:Nat) (s:St) (L:BitVec 64) (wr:World):Prop where
 lo:w.heap.size<sb
 st:wr.heap[sb]?=some (.cells (stOf s L) 353 (0,0))
 res:wr.heap[w.heap.size]?=some (.cells (rowB 64 fun _=>0) 75 (0,0))
 bel:Below w.heap.size w wr
theorem SumAt.grow {w wr w':World} {sb:Nat} {s s':St} {L L':BitVec 64} (h:SumAt w sb s L wr) (hs:w'.heap[sb]?=some (.cells (stOf s' L') 353 (0,0))) (hg:wr.grownBy w' (some sb)):SumAt w sb s' L' w':=by
 have hsz:w.heap.size<wr.heap.size:=(Array.getElem?_eq_some_iff.1 h.res).1
 refine ⟨h.lo,hs,?_,h.bel.grown hg (by omega) (fun k hk=>?_)⟩
 ·rw [hg.block _ hsz (fun e=>by have:=h.lo;cases e;omega)]
  exact h.res
 ·cases hk;exact Nat.le_of_lt h.lo
theorem SumAt.setCell {w wr:World} {sb:Nat} {s:St} {L:BitVec 64} (h:SumAt w sb s L wr) {x:Addr} (hx:w.heap.size<x.block) (hs:x.block≠sb) (v:Value):SumAt w sb s L (wr.setCell x v) :=
 ⟨h.lo,(heap_setCell_other wr x sb v (Ne.symm hs)).trans h.st,(heap_setCell_other wr x _ v (by omega)).trans h.res,h.bel.setCell (by omega) v⟩
theorem flat_take_le {α:Type}:∀ (l:List (List α)) (k:Nat) (h:k<l.length),(l.take k).flatten.length+l[k].length≤l.flatten.length
 | [],k,h=>absurd h (by simp)
 | x :: l,0,_=>by simp
 | x :: l,k+1,h=>by
  have:=flat_take_le l k (by simpa using h)
  simp only [List.take_succ_cons,List.flatten_cons,List.length_append,List.getElem_cons_succ]
  omega
def outK (h:Nat→BitVec 64) (k:Nat):Nat→BitVec 8:=fun i=>if i<k then outOf h i else 0
theorem outK_step (h:Nat→BitVec 64) (k:Nat):upd (outK h k) k (outOf h k)=outK h (k+1):=by
 funext i
 unfold upd outK
 by_cases e:i=k
 ·subst e;simp
 ·rw [if_neg e]
  by_cases hi:i<k
  ·rw [if_pos hi,if_pos (by omega)]
  ·rw [if_neg hi,if_neg (by omega)]
theorem rowB_congr {n:Nat} {f g:Nat→BitVec 8} (h:∀ i,i<n→f i=g i):rowB n f=rowB n g:=row_congr fun i hi=>by rw [h i hi]
theorem out_val (h:Nat→BitVec 64) (k r:Nat) (hr:k % 8=r):Q (h (k / 8)) / ((2 ^ (56 - 8*r):Nat):Int) % (256:Int)=B8 (outOf h k):=by
 unfold Q B8 outOf
 rw [BitVec.toNat_setWidth,BitVec.toNat_ushiftRight,Nat.shiftRight_eq_div_pow,hr,Int.natCast_emod,Int.natCast_ediv]
 rfl
set_option maxRecDepth 100000 in
set_option maxHeartbeats 1000000 in
theorem sum_any (v:Value) (l:List (List (BitVec 8))) (w:World) (hv:BRows w v l) (hl:l.length≤1000000) (hm:l.flatten.length≤1000000000) :
 Calls Tryz.prog 280 #[v] w fun e w'=>e= .returned (.agg (rowB 64 (sha l.flatten)))∧Below w.heap.size w w':=by
 obtain ⟨a,c,rfl,_,hv⟩:=hv
 have HV:=Lib.hid hv
 clear hv
 go_enter Tryz.func280,Tryz.ntmps280
 go_wp2_with (first | (with_reducible refine wpList_alloc_row rfl 75 rfl 64 _ info64 ?_) | (go_at_call 303;refine (begin_any _).mono ?_;rintro e w1 ⟨sb,rfl,hsb,hs,hb1⟩))
 have hat:SumAt w sb st0 0 w1:=by
  have e1:(w.alloc (.cells (row 64 fun _=> .int .u8 0) 75)).heap.size=w.heap.size+1:=by simp
  refine ⟨by rw [e1] at hsb;omega,hs,?_,?_⟩
  ·rw [hb1.block _ (by rw [e1];omega)];exact heap_alloc_new _ _
  ·exact ((Below.refl _ _).alloc (Nat.le_refl _) _).trans (hb1.mono (by rw [e1];omega))
 clear hs hb1 hsb
 go_loopw [14] (fun i wr=>∃ k:Nat,k≤l.length∧i= .int .i64 k∧SumAt w sb (takes st0 (l.take k).flatten) (BitVec.ofNat 64 (l.take k).flatten.length) wr) (fun i _=>l.length - (intOf i).toNat)
 case atStart=>exact ⟨0,Nat.zero_le _,rfl,hat⟩
 case round =>
  clear hat
  obtain ⟨k,hk,rfl,hat⟩:=hrel
  by_cases hlt:k<l.length
  ·obtain ⟨b,off,ha,hbl,hcells⟩:=HV.out (by omega)
   obtain ⟨vi,hvi,a2,c2,rfl,_,hin⟩:=hcells k hlt
   have hk0:(0:Int)≤(k:Int):=by omega
   have hk1:(k:Int)<(l.length:Int):=by omega
   have hci:=(hat.bel.cell (p:=⟨b,off+k,none⟩) hbl).trans hvi
   rw [ha]
   clear hvi hcells
   have HI:=Lib.hid hin
   have HT:=Lib.hid (show l.take (k+1)=l.take k ++ [l[k]] from List.take_succ_eq_append_getElem hlt)
   have hln:=flat_take_le l k hlt
   clear hin
   generalize l[k]=m at *
   obtain ⟨p,hp⟩:∃ p,p=(l.take k).flatten:=⟨_,rfl⟩
   rw [← hp] at hat hln
   have HP:=Lib.hid hp.symm
   clear hp
   go_wp2_with fail
   obtain ⟨w0,rfl⟩:∃ w0:World,w0=wr:=⟨_,rfl⟩
   go_loopw [20] (fun i w2=>∃ j:Nat,j≤m.length∧i= .int .i64 j∧SumAt w sb (takes (takes st0 p) (m.take j)) (BitVec.ofNat 64 p.length) w2∧Below w.heap.size w0 w2) (fun i _=>m.length - (intOf i).toNat)
   case atStart=>exact ⟨0,Nat.zero_le _,rfl,hat,Below.refl _ _⟩
   case round =>
    clear hat
    obtain ⟨j,hj,rfl,hat,hb0⟩:=hrel
    by_cases hjl:j<m.length
    ·obtain ⟨b2,o2,ha2,hbl2,hc2⟩:=HI.out (by omega)
     have hcj:=(hat.bel.cell (p:=⟨b2,o2+j,none⟩) hbl2).trans (hc2 j hjl)
     have HTJ:=Lib.hid (show takes (takes st0 p) (m.take (j+1))=takeS (takes (takes st0 p) (m.take j)) m[j] by
      rw [List.take_succ_eq_append_getElem hjl,takes_snoc])
     have hlt64:=takes_lt (takes_lt (s:=st0) (by decide) p) (m.take j)
     have hj0:(0:Int)≤(j:Int):=by omega
     have hj1:(j:Int)<(m.length:Int):=by omega
     rw [ha2]
     clear hc2
     generalize takes (takes st0 p) (m.take j)=S at *
     generalize m[j]=x at *
     go_wp2_with fail
     refine (takeSt_any sb S x _ _ hlt64 hat.st).mono ?_
     rintro e w3 ⟨rfl,hs3,hg3⟩
     have hat3:=hat.grow hs3 hg3
     have hb3:Below w.heap.size w0 w3:=hb0.grown hg3 (by have:=hat.bel.size;omega) (fun k hk=>by cases hk;exact Nat.le_of_lt hat.lo)
     clear hs3 hg3 hat hb0
     go_wp2
     go_roundw
     case rel=>exact ⟨j+1,by omega,by go_num,by rw [HTJ.out];exact hat3,hb3⟩
     case measure=>simp [intOf];omega
    ·have hje:m.take j=m:=List.take_of_length_le (by omega)
     rw [hje] at hat
     have HTK:=Lib.hid (show takes st0 (l.take (k+1)).flatten=takes (takes st0 p) m∧BitVec.ofNat 64 (l.take (k+1)).flatten.length=BitVec.ofNat 64 p.length+BitVec.ofNat 64 m.length from by
      rw [HT.out,List.flatten_append,List.flatten_cons,List.flatten_nil,List.append_nil,HP.out,takes_append,List.length_append,BitVec.ofNat_add]
      exact ⟨rfl,rfl⟩)
     have hst:=hat.st
     have cL:wr.cell? ⟨sb,217,none⟩=some (.int .u64 (Q (BitVec.ofNat 64 p.length))):=by rw [cell_row hst (by omega),st_L]
     have fL:wr.frozen? ⟨sb,217,none⟩=false:=frozen_of_row wr _ _ _ _ hst
     have hq:=Q_addn (BitVec.ofNat 64 p.length) m.length (by omega)
     have hq':=Q_addn' (BitVec.ofNat 64 p.length) m.length (by omega)
     have HH:=Lib.hid ((heap_set_row (.int .u64 (Q (BitVec.ofNat 64 p.length+BitVec.ofNat 64 m.length))) hst (by omega)).trans (congrArg (fun r=>some (Obj.cells r 353 (0,0))) (stRow_setL _)))
     have HAT:=Lib.hid hat
     clear hat hst hje
     generalize BitVec.ofNat 64 p.length=L1 at *
     generalize BitVec.ofNat 64 m.length=L2 at *
     generalize takes (takes st0 p) m=S at *
     go_wp2
     go_roundw
     case rel =>
      refine ⟨k+1,by omega,by go_num,?_⟩
      rw [HTK.out.1,HTK.out.2]
      exact HAT.out.grow HH.out (grown_setCell (grown_refl _ _) (.inr rfl) _)
     case measure=>simp [intOf];omega
  ·have hke:l.take k=l:=List.take_of_length_le (by omega)
   rw [hke] at hat
   clear hke
   have hlt64:=takes_lt (s:=st0) (by decide) l.flatten
   go_wp2_with fail
   refine (takeSt_any sb _ 128 _ _ hlt64 hat.st).mono ?_
   rintro e w2 ⟨rfl,hs2,hg2⟩
   have hat2:=hat.grow hs2 hg2
   clear hs2 hg2 hat hlt64
   obtain ⟨len,hlen⟩:∃ len,len=l.flatten.length:=⟨_,rfl⟩
   have hS0:(takeS (takes st0 l.flatten) 128).n=(len+1) % 128:=by
    rw [takeS_n (takes_lt (by decide) _),takes_n (by decide),hlen]
    show ((0+l.flatten.length) % 128+1) % 128=_
    omega
   rw [← hlen] at hat2
   have hlm:len≤1000000000:=by omega
   have HLEN:=Lib.hid hlen
   clear hlen
   go_wp2
   go_loopw [41] (fun _ wr=>∃ z:Nat,z≤zeros len∧SumAt w sb (takes (takeS (takes st0 l.flatten) 128) (List.replicate z 0)) (BitVec.ofNat 64 len) wr) (fun _ wr=>(240 - (intOf ((wr.cell? ⟨sb,216,none⟩).getD undef)).toNat) % 128)
   case atStart=>exact ⟨0,Nat.zero_le _,hat2⟩
   case round =>
    clear hat2
    obtain ⟨z,hz,hat⟩:=hrel
    have hSn:(takes (takeS (takes st0 l.flatten) 128) (List.replicate z 0)).n=(len+1+z) % 128:=by
     rw [takes_n (takeS_lt _ _),hS0,List.length_replicate];omega
    have hZ:zeros len=(239 - len % 128) % 128:=rfl
    have hlt64:(takes (takeS (takes st0 l.flatten) 128) (List.replicate z 0)).n<128:=takes_lt (takeS_lt _ _) _
    have hcn:wr.cell? ⟨sb,216,none⟩=some (.int .i64 (takes (takeS (takes st0 l.flatten) 128) (List.replicate z 0)).n):=by rw [cell_row hat.st (by omega),st_n]
    by_cases hzl:z<zeros len
    ·have HTZ:=Lib.hid (show takes (takeS (takes st0 l.flatten) 128) (List.replicate (z+1) 0)=takeS (takes (takeS (takes st0 l.flatten) 128) (List.replicate z 0)) 0 by
      rw [List.replicate_succ',takes_snoc])
     have h56:(takes (takeS (takes st0 l.flatten) 128) (List.replicate z 0)).n≠112:=by rw [hSn];omega
     clear hSn hZ
     generalize takes (takeS (takes st0 l.flatten) 128) (List.replicate z 0)=S at *
     have he:((S.n:Int) !=112)=true:=by rw [bne_iff_ne];omega
     have he':((S.n:Int) == 112)=false:=by rw [beq_eq_false_iff_ne];omega
     go_wp2_with fail
     refine (takeSt_any sb S 0 _ _ hlt64 hat.st).mono ?_
     rintro e w3 ⟨rfl,hs3,hg3⟩
     have hat3:=hat.grow hs3 hg3
     have hc3:w3.cell? ⟨sb,216,none⟩=some (.int .i64 ((S.n+1) % 128:Nat)):=by rw [cell_row hs3 (by omega),st_n,takeS_n hlt64]
     clear hs3 hg3 hat
     go_wp2
     go_roundw
     case rel=>exact ⟨z+1,by omega,by rw [HTZ.out];exact hat3⟩
     case measure =>
      simp only [hc3,hcn,Option.getD_some,intOf,Int.toNat_natCast]
      omega
    ·have hze:z=zeros len:=by omega
     have h56:(takes (takeS (takes st0 l.flatten) 128) (List.replicate z 0)).n=112:=by rw [hSn];omega
     clear hSn hZ hzl
     subst hze
     obtain ⟨S,hS⟩:∃ S,S=takes (takeS (takes st0 l.flatten) 128) (List.replicate (zeros len) 0):=⟨_,rfl⟩
     rw [← hS] at hat hlt64 hcn h56
     have HS:=Lib.hid hS
     clear hS hz hS0
     have he:((S.n:Int) !=112)=false:=by rw [h56];decide
     have he':((S.n:Int) == 112)=true:=by rw [h56];decide
     clear h56
     go_wp2
     go_loopw [48] (fun i w5=>∃ j:Nat,j≤8∧i= .int .i64 (j:Int)∧SumAt w sb (takes S (List.replicate j 0)) (BitVec.ofNat 64 len) w5) (fun i _=>8 - (intOf i).toNat)
     case atStart=>exact ⟨0,by omega,rfl,hat⟩
     case round =>
     clear hat he he' hcn
     obtain ⟨j,hj,rfl,hat⟩:=hrel
     by_cases hj8:j<8
     ·have hlt64j:=takes_lt hlt64 (List.replicate j 0)
      have HTZ:=Lib.hid (show takes S (List.replicate (j+1) 0)=takeS (takes S (List.replicate j 0)) 0 by rw [List.replicate_succ',takes_snoc])
      generalize takes S (List.replicate j 0)=S2 at *
      have hj0:(0:Int)≤(j:Int):=by omega
      have hj1:(j:Int)<8:=by omega
      go_wp2_with fail
      refine (takeSt_any sb S2 0 _ _ hlt64j hat.st).mono ?_
      rintro e w3 ⟨rfl,hs3,hg3⟩
      have hat3:=hat.grow hs3 hg3
      clear hs3 hg3 hat
      go_wp2
      go_roundw
      case rel=>exact ⟨j+1,by omega,by go_num,by rw [HTZ.out];exact hat3⟩
      case measure=>simp [intOf];omega
     obtain rfl:j=8:=by omega
     rw [show ((8:Nat):Int)=8 from rfl]
     have hlt64:=takes_lt hlt64 (List.replicate 8 0)
     obtain ⟨S',hS'⟩:∃ S',S'=takes S (List.replicate 8 0):=⟨_,rfl⟩
     rw [← hS'] at hat hlt64
     have HS8:=Lib.hid hS'
     clear hS' hj hj8
     go_wp2
     go_loopw [8] (fun i w5=>∃ j:Nat,j≤8∧i= .int .i64 (7 - (j:Int))∧SumAt w sb (takes S' ((lenBytes len).take j)) (BitVec.ofNat 64 len) w5) (fun i _=>(intOf i+1).toNat)
     case atStart=>exact ⟨0,by omega,rfl,hat⟩
     case round =>
      clear hat
      obtain ⟨j,hj,rfl,hat⟩:=hrel
      by_cases hj8:j<8
      ·have cL:wr.cell? ⟨sb,217,none⟩=some (.int .u64 (len:Int)):=by rw [cell_row hat.st (by omega),st_L,Q_ofNat len (by omega)]
       have hlb:(len:Int)≤1000000000:=by omega
       have hl0:(0:Int)≤(len:Int):=by omega
       have hlt64j:=takes_lt hlt64 ((lenBytes len).take j)
       have HTJ:=Lib.hid (show takes S' ((lenBytes len).take (j+1))=takeS (takes S' ((lenBytes len).take j)) (lenByte len j) by
        rw [lenBytes_take len hj8,takes_snoc])
       have HVJ:=Lib.hid (lenByte_val len j)
       clear hlt64
       generalize takes S' ((lenBytes len).take j)=S2 at *
       have hj8':j=0∨j=1∨j=2∨j=3∨j=4∨j=5∨j=6∨j=7:=by omega
       rcases hj8' with rfl | rfl | rfl | rfl | rfl | rfl | rfl | rfl
       ·have hB:(len:Int)*8 / 72057594037927936=B8 (lenByte len 0):=by
         rw [HVJ.out,show 2 ^ (8*(7 - 0))=72057594037927936 from rfl];omega
        have HB:=Lib.hid hB
        clear hB
        rw [show (7:Int) - ((0:Nat):Int)=7 from rfl]
        go_wp2_with fail
        rw [HB.out]
        refine (takeSt_any sb S2 (lenByte len 0) _ _ hlt64j hat.st).mono ?_
        rintro e w6 ⟨rfl,hs6,hg6⟩
        have hat6:=hat.grow hs6 hg6
        clear hs6 hg6 hat HB cL
        go_wp2
        go_roundw
        case rel=>exact ⟨1,by omega,rfl,by rw [HTJ.out];exact hat6⟩
        case measure=>simp [intOf]
       ·have hB:(len:Int)*8 / 281474976710656=B8 (lenByte len 1):=by
         rw [HVJ.out,show 2 ^ (8*(7 - 1))=281474976710656 from rfl];omega
        have HB:=Lib.hid hB
        clear hB
        rw [show (7:Int) - ((1:Nat):Int)=6 from rfl]
        go_wp2_with fail
        rw [HB.out]
        refine (takeSt_any sb S2 (lenByte len 1) _ _ hlt64j hat.st).mono ?_
        rintro e w6 ⟨rfl,hs6,hg6⟩
        have hat6:=hat.grow hs6 hg6
        clear hs6 hg6 hat HB cL
        go_wp2
        go_roundw
        case rel=>exact ⟨2,by omega,rfl,by rw [HTJ.out];exact hat6⟩
        case measure=>simp [intOf]
       ·have hB:(len:Int)*8 / 1099511627776=B8 (lenByte len 2):=by
         rw [HVJ.out,show 2 ^ (8*(7 - 2))=1099511627776 from rfl];omega
        have HB:=Lib.hid hB
        clear hB
        rw [show (7:Int) - ((2:Nat):Int)=5 from rfl]
        go_wp2_with fail
        rw [HB.out]
        refine (takeSt_any sb S2 (lenByte len 2) _ _ hlt64j hat.st).mono ?_
        rintro e w6 ⟨rfl,hs6,hg6⟩
        have hat6:=hat.grow hs6 hg6
        clear hs6 hg6 hat HB cL
        go_wp2
        go_roundw
        case rel=>exact ⟨3,by omega,rfl,by rw [HTJ.out];exact hat6⟩
        case measure=>simp [intOf]
       ·have hB:(len:Int)*8 / 4294967296=B8 (lenByte len 3):=by
         rw [HVJ.out,show 2 ^ (8*(7 - 3))=4294967296 from rfl];omega
        have HB:=Lib.hid hB
        clear hB
        rw [show (7:Int) - ((3:Nat):Int)=4 from rfl]
        go_wp2_with fail
        rw [HB.out]
        refine (takeSt_any sb S2 (lenByte len 3) _ _ hlt64j hat.st).mono ?_
        rintro e w6 ⟨rfl,hs6,hg6⟩
        have hat6:=hat.grow hs6 hg6
        clear hs6 hg6 hat HB cL
        go_wp2
        go_roundw
        case rel=>exact ⟨4,by omega,rfl,by rw [HTJ.out];exact hat6⟩
        case measure=>simp [intOf]
       ·have hB:(len:Int)*8 / 16777216 % 256=B8 (lenByte len 4):=by
         rw [HVJ.out,show 2 ^ (8*(7 - 4))=16777216 from rfl];omega
        have HB:=Lib.hid hB
        clear hB
        rw [show (7:Int) - ((4:Nat):Int)=3 from rfl]
        go_wp2_with fail
        rw [HB.out]
        refine (takeSt_any sb S2 (lenByte len 4) _ _ hlt64j hat.st).mono ?_
        rintro e w6 ⟨rfl,hs6,hg6⟩
        have hat6:=hat.grow hs6 hg6
        clear hs6 hg6 hat HB cL
        go_wp2
        go_roundw
        case rel=>exact ⟨5,by omega,rfl,by rw [HTJ.out];exact hat6⟩
        case measure=>simp [intOf]
       ·have hB:(len:Int)*8 / 65536 % 256=B8 (lenByte len 5):=by
         rw [HVJ.out,show 2 ^ (8*(7 - 5))=65536 from rfl];omega
        have HB:=Lib.hid hB
        clear hB
        rw [show (7:Int) - ((5:Nat):Int)=2 from rfl]
        go_wp2_with fail
        rw [HB.out]
        refine (takeSt_any sb S2 (lenByte len 5) _ _ hlt64j hat.st).mono ?_
        rintro e w6 ⟨rfl,hs6,hg6⟩
        have hat6:=hat.grow hs6 hg6
        clear hs6 hg6 hat HB cL
        go_wp2
        go_roundw
        case rel=>exact ⟨6,by omega,rfl,by rw [HTJ.out];exact hat6⟩
        case measure=>simp [intOf]
       ·have hB:(len:Int)*8 / 256 % 256=B8 (lenByte len 6):=by
         rw [HVJ.out,show 2 ^ (8*(7 - 6))=256 from rfl];omega
        have HB:=Lib.hid hB
        clear hB
        rw [show (7:Int) - ((6:Nat):Int)=1 from rfl]
        go_wp2_with fail
        rw [HB.out]
        refine (takeSt_any sb S2 (lenByte len 6) _ _ hlt64j hat.st).mono ?_
        rintro e w6 ⟨rfl,hs6,hg6⟩
        have hat6:=hat.grow hs6 hg6
        clear hs6 hg6 hat HB cL
        go_wp2
        go_roundw
        case rel=>exact ⟨7,by omega,rfl,by rw [HTJ.out];exact hat6⟩
        case measure=>simp [intOf]
       ·have hB:(len:Int)*8 % 256=B8 (lenByte len 7):=by
         rw [HVJ.out,show 2 ^ (8*(7 - 7))=1 from rfl];omega
        have HB:=Lib.hid hB
        clear hB
        rw [show (7:Int) - ((7:Nat):Int)=0 from rfl]
        go_wp2_with fail
        rw [HB.out]
        refine (takeSt_any sb S2 (lenByte len 7) _ _ hlt64j hat.st).mono ?_
        rintro e w6 ⟨rfl,hs6,hg6⟩
        have hat6:=hat.grow hs6 hg6
        clear hs6 hg6 hat HB cL
        go_wp2
        go_roundw
        case rel=>exact ⟨8,by omega,rfl,by rw [HTJ.out];exact hat6⟩
        case measure=>simp [intOf]
      ·have h8:(lenBytes len).take j=lenBytes len:=List.take_of_length_le (by simp [lenBytes];omega)
       rw [h8] at hat
       clear h8
       have hj7:(7:Int) - (j:Int)= -1:=by omega
       rw [hj7]
       clear hj7
       go_wp2_with (with_reducible refine wpList_alloc_row rfl 75 rfl 64 _ info64 ?_)
       have hz:=hat.bel.size
       have hrs:w.heap.size<wr.heap.size:=(Array.getElem?_eq_some_iff.1 hat.res).1
       have hbs:sb<wr.heap.size:=(Array.getElem?_eq_some_iff.1 hat.st).1
       have hat9:SumAt w sb (takes S' (lenBytes len)) (BitVec.ofNat 64 len) (wr.alloc (.cells (row 64 fun _=> .int .u8 0) 75)) :=
        hat.grow ((Below.heap_alloc _ _ _ hbs).trans hat.st) (grown_alloc (grown_refl _ _) _)
       obtain ⟨ob,hob⟩:∃ ob,ob=wr.heap.size:=⟨_,rfl⟩
       have hnew:(wr.alloc (.cells (row 64 fun _=> .int .u8 0) 75)).heap[ob]?=some (.cells (rowB 64 (outK (takes S' (lenBytes len)).h 0)) 75 (0,0)):=by
        rw [hob];exact heap_alloc_new _ _
       have hfin:sha l.flatten=outOf (takes S' (lenBytes len)).h:=by
        unfold sha pad;rw [takes_append,takes_append,takes_append,takes_append,HLEN.out,HS8.out,HS.out,HLEN.out];rfl
       have HFIN:=Lib.hid hfin
       have hob1:w.heap.size<ob:=by omega
       have hob2:sb<ob:=by omega
       rw [← hob]
       clear hat hfin hob hrs hbs hz
       generalize takes S' (lenBytes len)=S3 at *
       go_loopw [68] (fun i w9=>∃ q:Nat,q≤64∧i= .int .i64 q∧SumAt w sb S3 (BitVec.ofNat 64 len) w9∧w9.heap[ob]?=some (.cells (rowB 64 (outK S3.h q)) 75 (0,0))) (fun i _=>64 - (intOf i).toNat)
       case atStart=>exact ⟨0,by omega,rfl,hat9,hnew⟩
       case round =>
        clear hat9 hnew
        obtain ⟨q,hq,rfl,hat,ho⟩:=hrel
        by_cases hq64:q<64
        ·have hq0:(0:Int)≤(q:Int):=by omega
         have hq1:(q:Int)<64:=by omega
         have ch:wr.cell? ⟨sb,q / 8,none⟩=some (.int .u64 (Q (S3.h (q / 8)))):=by rw [cell_row hat.st (by omega),st_h (by omega)]
         have co:wr.cell? ⟨ob,q,none⟩=some (.int .u8 (B8 (outK S3.h q q))):=cell_rowB ho hq64
         have fo:wr.frozen? ⟨ob,q,none⟩=false:=frozen_of_row wr _ _ _ _ ho
         have HO:=Lib.hid ho
         have HOK:=Lib.hid (outK_step S3.h q)
         have HVAL:=Lib.hid (out_val S3.h q)
         obtain ⟨u0,u1⟩:=Q_bd (S3.h (q / 8))
         clear ho
         have hr8:q % 8=0∨q % 8=1∨q % 8=2∨q % 8=3∨q % 8=4∨q % 8=5∨q % 8=6∨q % 8=7:=by omega
         rcases hr8 with hr | hr | hr | hr | hr | hr | hr | hr
         ·have hvv:Q (S3.h (q / 8)) / 72057594037927936=B8 (outOf S3.h q):=by
           have:=HVAL.out 0 hr
           rw [show ((2 ^ (56 - 8*0):Nat):Int)=72057594037927936 from rfl] at this
           omega
          have HVV:=Lib.hid hvv
          have hri:(q:Int) % 8=0:=by omega
          clear hr hvv
          go_wp2
          go_roundw
          case rel =>
           rw [HVV.out]
           refine ⟨q+1,by omega,by go_num,hat.setCell hob1 (Nat.ne_of_gt hob2) _,?_⟩
           rw [heap_set_rowB _ HO.out hq64,HOK.out]
          case measure=>simp [intOf];omega
         ·have hvv:Q (S3.h (q / 8)) / 281474976710656 % 256=B8 (outOf S3.h q):=by
           have:=HVAL.out 1 hr
           rw [show ((2 ^ (56 - 8*1):Nat):Int)=281474976710656 from rfl] at this
           omega
          have HVV:=Lib.hid hvv
          have hri:(q:Int) % 8=1:=by omega
          clear hr hvv
          go_wp2
          go_roundw
          case rel =>
           rw [HVV.out]
           refine ⟨q+1,by omega,by go_num,hat.setCell hob1 (Nat.ne_of_gt hob2) _,?_⟩
           rw [heap_set_rowB _ HO.out hq64,HOK.out]
          case measure=>simp [intOf];omega
         ·have hvv:Q (S3.h (q / 8)) / 1099511627776 % 256=B8 (outOf S3.h q):=by
           have:=HVAL.out 2 hr
           rw [show ((2 ^ (56 - 8*2):Nat):Int)=1099511627776 from rfl] at this
           omega
          have HVV:=Lib.hid hvv
          have hri:(q:Int) % 8=2:=by omega
          clear hr hvv
          go_wp2
          go_roundw
          case rel =>
           rw [HVV.out]
           refine ⟨q+1,by omega,by go_num,hat.setCell hob1 (Nat.ne_of_gt hob2) _,?_⟩
           rw [heap_set_rowB _ HO.out hq64,HOK.out]
          case measure=>simp [intOf];omega
         ·have hvv:Q (S3.h (q / 8)) / 4294967296 % 256=B8 (outOf S3.h q):=by
           have:=HVAL.out 3 hr
           rw [show ((2 ^ (56 - 8*3):Nat):Int)=4294967296 from rfl] at this
           omega
          have HVV:=Lib.hid hvv
          have hri:(q:Int) % 8=3:=by omega
          clear hr hvv
          go_wp2
          go_roundw
          case rel =>
           rw [HVV.out]
           refine ⟨q+1,by omega,by go_num,hat.setCell hob1 (Nat.ne_of_gt hob2) _,?_⟩
           rw [heap_set_rowB _ HO.out hq64,HOK.out]
          case measure=>simp [intOf];omega
         ·have hvv:Q (S3.h (q / 8)) / 16777216 % 256=B8 (outOf S3.h q):=by
           have:=HVAL.out 4 hr
           rw [show ((2 ^ (56 - 8*4):Nat):Int)=16777216 from rfl] at this
           omega
          have HVV:=Lib.hid hvv
          have hri:(q:Int) % 8=4:=by omega
          clear hr hvv
          go_wp2
          go_roundw
          case rel =>
           rw [HVV.out]
           refine ⟨q+1,by omega,by go_num,hat.setCell hob1 (Nat.ne_of_gt hob2) _,?_⟩
           rw [heap_set_rowB _ HO.out hq64,HOK.out]
          case measure=>simp [intOf];omega
         ·have hvv:Q (S3.h (q / 8)) / 65536 % 256=B8 (outOf S3.h q):=by
           have:=HVAL.out 5 hr
           rw [show ((2 ^ (56 - 8*5):Nat):Int)=65536 from rfl] at this
           omega
          have HVV:=Lib.hid hvv
          have hri:(q:Int) % 8=5:=by omega
          clear hr hvv
          go_wp2
          go_roundw
          case rel =>
           rw [HVV.out]
           refine ⟨q+1,by omega,by go_num,hat.setCell hob1 (Nat.ne_of_gt hob2) _,?_⟩
           rw [heap_set_rowB _ HO.out hq64,HOK.out]
          case measure=>simp [intOf];omega
         ·have hvv:Q (S3.h (q / 8)) / 256 % 256=B8 (outOf S3.h q):=by
           have:=HVAL.out 6 hr
           rw [show ((2 ^ (56 - 8*6):Nat):Int)=256 from rfl] at this
           omega
          have HVV:=Lib.hid hvv
          have hri:(q:Int) % 8=6:=by omega
          clear hr hvv
          go_wp2
          go_roundw
          case rel =>
           rw [HVV.out]
           refine ⟨q+1,by omega,by go_num,hat.setCell hob1 (Nat.ne_of_gt hob2) _,?_⟩
           rw [heap_set_rowB _ HO.out hq64,HOK.out]
          case measure=>simp [intOf];omega
         ·have hvv:Q (S3.h (q / 8)) % 256=B8 (outOf S3.h q):=by
           have:=HVAL.out 7 hr
           rw [show ((2 ^ (56 - 8*7):Nat):Int)=1 from rfl] at this
           omega
          have HVV:=Lib.hid hvv
          have hri:(q:Int) % 8=7:=by omega
          clear hr hvv
          go_wp2
          go_roundw
          case rel =>
           rw [HVV.out]
           refine ⟨q+1,by omega,by go_num,hat.setCell hob1 (Nat.ne_of_gt hob2) _,?_⟩
           rw [heap_set_rowB _ HO.out hq64,HOK.out]
          case measure=>simp [intOf];omega
        ·have hro:rowB 64 (outK S3.h q)=rowB 64 (sha l.flatten):=rowB_congr fun i hi=>by
          unfold outK;rw [if_pos (by omega),HFIN.out]
         rw [hro] at ho
         have HO:=Lib.hid ho
         have HA:=Lib.hid hat
         have HSZ:=Lib.hid (show (Tryz.prog.info? 75).map (·.size)=some (rowB 64 (sha l.flatten)).size by rw [size64,rowB_size])
         clear ho hro hat HFIN
         go_wp2_with (first
          | ((with_reducible show wpList _ _ _ (⟨_,.load 75 _,_,_,_,_⟩ :: _) _ _);refine wpList_load_row rfl 75 _ rfl ob rfl 75 (rowB 64 (sha l.flatten)) (0,0) _ HO.out Tryz.underlying75 rfl HSZ.out ?_)
          | ((with_reducible show wpList _ _ _ (⟨_,.store 75 _ _,_,_,_,_⟩ :: _) _ _);refine wpList_store_rowTo rfl 75 _ _ rfl rfl w.heap.size (rowB 64 (sha l.flatten)) rfl rfl 75 _ HA.out.res HSZ.out (by rw [rowB_size,rowB_size]) (rowB_oneCell _ _) ?_))
         refine bodyPost_ret (results_cell_row rfl _ _ w.heap.size 75 (rowB 64 (sha l.flatten)) (0,0) _ rfl (heap_setRow_at HA.out.res) Tryz.underlying75 rfl HSZ.out) rfl ?_
         exact ⟨rfl,below_setRow HA.out.bel (Nat.le_refl _) _⟩
end Go.Proofs.YtoifhhljfaoejaaGreatDoor.Shb
namespace Go.Proofs.YtoifhhljfaoejaaGreatDoor
def rotl (x:BitVec 32) (n:Nat):BitVec 32:=x <<< n ||| x >>> (32 - n)
def wide (x:BitVec 8):BitVec 32:=x.setWidth 32
def sig0 (x:BitVec 32):BitVec 32:=rotl x 25 ^^^ rotl x 14 ^^^ x >>> 3
def sig1 (x:BitVec 32):BitVec 32:=rotl x 15 ^^^ rotl x 13 ^^^ x >>> 10
def Sig1 (x:BitVec 32):BitVec 32:=rotl x 26 ^^^ rotl x 21 ^^^ rotl x 7
def Sig0 (x:BitVec 32):BitVec 32:=rotl x 30 ^^^ rotl x 19 ^^^ rotl x 10
open Go.RowKit in
theorem sig0_val (x:BitVec 32):bits .xor .u32 (bits .xor .u32 (U (rotl x 25)) (U (rotl x 14))) (U x / (8:Int))=U (sig0 x):=by
 rw [U_shr3,U_xor,U_xor];rfl
open Go.RowKit in
theorem sig1_val (x:BitVec 32):bits .xor .u32 (bits .xor .u32 (U (rotl x 15)) (U (rotl x 13))) (U x / (1024:Int))=U (sig1 x):=by
 rw [U_shr10,U_xor,U_xor];rfl
def K256 (i:Nat):BitVec 32:=BitVec.ofNat 32 ([1116352408,1899447441,3049323471,3921009573,961987163,1508970993,2453635748,2870763221,3624381080,310598401,607225278,1426881987,1925078388,2162078206,2614888103,3248222580,3835390401,4022224774,264347078,604807628,770255983,1249150122,1555081692,1996064986,2554220882,2821834349,2952996808,3210313671,3336571891,3584528711,113926993,338241895,666307205,773529912,1294757372,1396182291,1695183700,1986661051,2177026350,2456956037,2730485921,2820302411,3259730800,3345764771,3516065817,3600352804,4094571909,275423344,430227734,506948616,659060556,883997877,958139571,1322822218,1537002063,1747873779,1955562222,2024104815,2227730452,2361852424,2428436474,2756734187,3204031479,3329325298].getD i 0)
def H256 (i:Nat):BitVec 32:=BitVec.ofNat 32 ([1779033703,3144134277,1013904242,2773480762,1359893119,2600822924,528734635,1541459225].getD i 0)
def sch1 (b:Nat→BitVec 8):Nat→Nat→BitVec 32
 | 0=>fun _=>0
 | k+1=>upd (sch1 b k) (k / 4) (sch1 b k (k / 4) <<< 8 ||| wide (b k))
def schStep (f:Nat→BitVec 32) (k:Nat):BitVec 32:=sig1 (f (k - 2))+f (k - 7)+sig0 (f (k - 15))+f (k - 16)
def sch2 (W:Nat→BitVec 32):Nat→Nat→BitVec 32
 | 0=>W
 | k+1=>if k<16 then W else upd (sch2 W k) k (schStep (sch2 W k) k)
def sched (b:Nat→BitVec 8):Nat→BitVec 32:=sch2 (sch1 b 64) 64
theorem sch2_low (W:Nat→BitVec 32):∀ k,k≤16→sch2 W k=W
 | 0,_=>rfl
 | k+1,h=>by unfold sch2;rw [if_pos (by omega)]
theorem sch2_step (W:Nat→BitVec 32) {k:Nat} (h:16≤k):sch2 W (k+1)=upd (sch2 W k) k (schStep (sch2 W k) k):=by
 rw [sch2,if_neg (by omega)]
def rndX (K W:Nat→BitVec 32) (t:Nat) (v:Nat→BitVec 32):BitVec 32:=v 7+Sig1 (v 4)+(v 4 &&& v 5 ^^^ ~~~(v 4) &&& v 6)+K t+W t
def rndY (v:Nat→BitVec 32):BitVec 32:=Sig0 (v 0)+(v 0 &&& v 1 ^^^ v 0 &&& v 2 ^^^ v 1 &&& v 2)
def rnd (K W:Nat→BitVec 32) (t:Nat) (v:Nat→BitVec 32):Nat→BitVec 32
 | 0=>rndX K W t v+rndY v
 | 1=>v 0
 | 2=>v 1
 | 3=>v 2
 | 4=>v 3+rndX K W t v
 | 5=>v 4
 | 6=>v 5
 | 7=>v 6
 | _=>0
def rnds (K W:Nat→BitVec 32) (h:Nat→BitVec 32):Nat→Nat→BitVec 32
 | 0=>h
 | t+1=>rnd K W t (rnds K W h t)
def block (K:Nat→BitVec 32) (h:Nat→BitVec 32) (b:Nat→BitVec 8):Nat→BitVec 32:=fun i=>h i+rnds K (sched b) h 64 i
end Go.Proofs.YtoifhhljfaoejaaGreatDoor
