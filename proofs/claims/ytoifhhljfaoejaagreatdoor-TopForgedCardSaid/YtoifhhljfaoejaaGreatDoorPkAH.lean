/-
  Lemmas of the law, part 8: the walks of the functions that it calls and the plain facts about them. No condition beyond those written.
-/
import Derived.Test.YtoifhhljfaoejaaGreatDoorPkAA
import Derived.Test.YtoifhhljfaoejaaGreatDoorPkAE
import Derived.Test.YtoifhhljfaoejaaGreatDoorPkAF
import Derived.Test.YtoifhhljfaoejaaGreatDoorPkAG
import Derived.Test.YtoifhhljfaoejaaGreatDoorPkAD
set_option maxRecDepth 100000
set_option maxHeartbeats 8000000
set_option linter.unusedVariables false
set_option linter.unusedSimpArgs false
set_option linter.unusedSectionVars false
namespace Go.Proofs.YtoifhhljfaoejaaGreatDoor
open Go.Proofs.Tryz
namespace Shb
open Go Go.Proofs.YtoifhhljfaoejaaGreatDoor Go.RowKit
def lenOf:Value→Nat | .slice _ n _=>n|_=>0
def gW(n:Nat):List (BitVec 8):=List.replicate 8 0++aD n
theorem fz(n:Nat):(gW n).length=16:=by simp[gW,aD]
theorem CW(n:Nat){j:Nat}(h:j<8):(gW n).take (j+1)=(gW n).take j++[0]:=by
 rw[List.take_succ_eq_append_getElem (by rw[fz];omega)];congr 1;unfold gW;rw[List.getElem_append_left (by simpa using h),List.getElem_replicate]
theorem CX(n:Nat){j:Nat}(h:j<8):(gW n).take (8+j+1)=(gW n).take (8+j)++[av n j]:=by
 rw[List.take_succ_eq_append_getElem (by rw[fz];omega)];congr 1;unfold gW;rw[List.getElem_append_right (by simp)];simp[aD]
theorem CY(v:Value)(l:List (BitVec 8))(w:World)(hv:BRow w v l)(h0:0<l.length)(hl:l.length≤1000000000) :
 Calls prog 71 #[v,.int .i64 128,.int .i64 16] w fun e w'=>Fresh w (pad l) e w':=by
 have hL:=Loc.nil w;haveI hA:Arg w v (an l):=⟨hv.vrow⟩;obtain⟨a,c,rfl,hn,hp⟩:=hv;clear hn hp;go_enter func71,ntmps71;haveI sb:Seg #[Value.int IntKind.u8 128] 0 1 (an [128]):=gB 128;go_wp2_with (first|(refine gN 12 ?_;(refine mG hL rfl rfl rfl rfl h0 (by first|omega|(simp;omega)|simp) fun g12 cap12 cur12 w1 hr12 hL1=>?_);clear hL;have hL:=hL1;clear hL1;refine p4 ?_)|(refine gN 13 ?_;refine aL ?_;clear hL;intro b13 w1 hL)|(refine gN 14 ?_;refine aA ?_;clear hL;intro g14 cap14 cur14 w1 hr14 hL)|(refine aQp ?_;clear hL;intro _ w1 hL));go_loopw [7] (fun v wr=>∃(z g cap:Nat) (cur:Array Value),z≤cI l.length∧v= .slice (some ⟨g,0,none⟩) (l.length+1+z) cap∧OwnR cur (l.length+1+z) cap (an (l++[128]++List.replicate z 0))∧Loc w wr [(g,cur,5)]) (fun v _=>1000000300-lenOf v);case atStart=>exact⟨0,g14,cap14,cur14,Nat.zero_le _,rfl,by simpa using hr14,hL.pop⟩
 case round =>
  clear hL;obtain⟨z,g,cap,cur,hz,rfl,hr,hL⟩:=hrel;have hZ:cI l.length=(239-l.length%128)%128:=rfl;by_cases hzl:z<cI l.length
  ·have h56:(((l.length+1+z:Nat):Int)%128 !=112)=true:=by rw[bne_iff_ne];omega
   obtain⟨n,hn⟩:∃n,n=l.length+1+z:=⟨_,rfl⟩;rw[← hn]at h56 hr ⊢;have HN:=Hd hn;have hn1:n≤1000000200:=by omega
   clear hn hZ;haveI sb:Seg #[Value.int IntKind.u8 0] 0 1 (an [0]):=gB 0;go_wp2_with (first|(refine gN 24 ?_;refine aL ?_;clear hL;intro b24 w1 hL)|(refine gN 25 ?_;refine aA ?_;clear hL;intro g25 cap25 cur25 w1 hr25 hL)|(refine aQp ?_;clear hL;intro _ w1 hL));go_roundw;case rel=>exact⟨z+1,g25,cap25,cur25,by omega,by rw[HN.out];rfl,by rw[HN.out]at hr25;rw[List.replicate_succ',← List.append_assoc];exact hr25,hL.pop⟩
   case measure=>have:=HN.out;simp only[lenOf];omega
  ·have hze:z=cI l.length:=by omega
   have h56:(((l.length+1+z:Nat):Int)%128 !=112)=false:=by rw[bne_eq_false_iff_eq];omega
   subst hze;obtain⟨pre,hpre⟩:∃pre,pre=l++[128]++List.replicate (cI l.length) 0:=⟨_,rfl⟩;have hpl:pre.length=l.length+1+cI l.length:=by rw[hpre];simp;omega
   rw[← hpre,← hpl]at hr;rw[← hpl]at h56 ⊢;have HPRE:=Hd (show pad l=pre++gW l.length from by rw[hpre];unfold pad gW;simp);have hlp:pre.length≤1000000200:=by rw[hpl];omega
   clear hpre hpl hZ hzl hz;generalize hlen:l.length=len at *
   have HLEN:=Hd hlen;clear hlen;go_wp2_with (first|(refine aQp ?_;clear hL;intro _ w1 hL));go_loopw [7,9] (fun v kk wr=>∃(j g cap:Nat) (cur:Array Value),j≤16∧kk= .int .i64 (15-(j:Int))∧v= .slice (some ⟨g,0,none⟩) (pre.length+j) cap∧OwnR cur (pre.length+j) cap (an (pre++(gW len).take j))∧Loc w wr [(g,cur,5)]) (fun _ kk _=>(intOf kk+1).toNat);case atStart=>exact⟨0,g,cap,cur,by omega,rfl,rfl,by simpa using hr,hL⟩
   case round =>
    clear hL hr h56;obtain⟨j,g,cap,cur,hj,rfl,rfl,hr,hL⟩:=hrel;by_cases hj8:j<8
    ·have HT:=Hd (CW len hj8)
     have k0:(0:Int)≤15-(j:Int):=by omega
     have k1:¬15-(j:Int)<8:=by omega
     have k2:¬15-(j:Int)<0:=by omega
     have k3:(8:Int)≤15-(j:Int):=by omega
     have k4:(j:Int)≤7:=by omega
     have k5:(j:Int)≤15:=by omega
     generalize hn:pre.length+j=n at *
     have HN:=Hd hn;have hn1:n≤1000000300:=by omega
     clear hn;haveI sb:Seg #[Value.int IntKind.u8 0] 0 1 (an [0]):=gB 0;go_wp2_with (first|(refine gN 46 ?_;refine aL ?_;clear hL;intro b46 w1 hL)|(refine gN 47 ?_;refine aA ?_;clear hL;intro g47 cap47 cur47 w1 hr47 hL)|(refine aQp ?_;clear hL;intro _ w1 hL));go_roundw;case rel=>exact⟨j+1,g47,cap47,cur47,by omega,by go_num,by rw[← Nat.add_assoc,HN.out],by rw[HT.out,← List.append_assoc,← Nat.add_assoc,HN.out];exact hr47,hL.pop⟩
     case measure=>simp only[intOf];omega
    ·obtain⟨q,rfl⟩:∃q,j=8+q:=⟨j-8,by omega⟩
     by_cases hq8:q<8
     ·have HT:=Hd (CX len hq8)
      have HVJ:=Hd (bj len q);have hl0:(0:Int)≤(len:Int):=by omega
      have hl1:(len:Int)≤1000000000:=by omega
      generalize hn:pre.length+(8+q)=n at *
      have HN:=Hd hn;have hn1:n≤1000000300:=by omega
      clear hn;have hq8':q=0∨q=1∨q=2∨q=3∨q=4∨q=5∨q=6∨q=7:=by omega
      rcases hq8' with rfl|rfl|rfl|rfl|rfl|rfl|rfl|rfl
      ·have hX:bits BinOp.and IntKind.i64 (8*(len:Int)/72057594037927936) 255=B8 (av len 0):=by
        rw[R3.and_255,HVJ.out,show 2^(8*(7-0))=72057594037927936 from rfl];omega
       obtain⟨x0,x1⟩:=bK (av len 0);clear HVJ;generalize av len 0=x at *
       rw[show(15:Int)-((8+0:Nat):Int)=7 from rfl];go_wp2_with (first|(refine gN 46 ?_;refine aL ?_;clear hL;intro b46 w1 hL)|(refine gN 47 ?_;refine aA ?_;clear hL;intro g47 cap47 cur47 w1 hr47 hL)|(refine aQp ?_;clear hL;intro _ w1 hL));go_roundw;case rel=>exact⟨8+0+1,g47,cap47,cur47,by omega,rfl,by rw[← Nat.add_assoc,HN.out],by rw[HT.out,← List.append_assoc,← Nat.add_assoc,HN.out];exact hr47,hL.pop⟩
       case measure=>simp only[intOf];omega
      ·have hX:bits BinOp.and IntKind.i64 (8*(len:Int)/281474976710656) 255=B8 (av len 1):=by
        rw[R3.and_255,HVJ.out,show 2^(8*(7-1))=281474976710656 from rfl];omega
       obtain⟨x0,x1⟩:=bK (av len 1);clear HVJ;generalize av len 1=x at *
       rw[show(15:Int)-((8+1:Nat):Int)=6 from rfl];go_wp2_with (first|(refine gN 46 ?_;refine aL ?_;clear hL;intro b46 w1 hL)|(refine gN 47 ?_;refine aA ?_;clear hL;intro g47 cap47 cur47 w1 hr47 hL)|(refine aQp ?_;clear hL;intro _ w1 hL));go_roundw;case rel=>exact⟨8+1+1,g47,cap47,cur47,by omega,rfl,by rw[← Nat.add_assoc,HN.out],by rw[HT.out,← List.append_assoc,← Nat.add_assoc,HN.out];exact hr47,hL.pop⟩
       case measure=>simp only[intOf];omega
      ·have hX:bits BinOp.and IntKind.i64 (8*(len:Int)/1099511627776) 255=B8 (av len 2):=by
        rw[R3.and_255,HVJ.out,show 2^(8*(7-2))=1099511627776 from rfl];omega
       obtain⟨x0,x1⟩:=bK (av len 2);clear HVJ;generalize av len 2=x at *
       rw[show(15:Int)-((8+2:Nat):Int)=5 from rfl];go_wp2_with (first|(refine gN 46 ?_;refine aL ?_;clear hL;intro b46 w1 hL)|(refine gN 47 ?_;refine aA ?_;clear hL;intro g47 cap47 cur47 w1 hr47 hL)|(refine aQp ?_;clear hL;intro _ w1 hL));go_roundw;case rel=>exact⟨8+2+1,g47,cap47,cur47,by omega,rfl,by rw[← Nat.add_assoc,HN.out],by rw[HT.out,← List.append_assoc,← Nat.add_assoc,HN.out];exact hr47,hL.pop⟩
       case measure=>simp only[intOf];omega
      ·have hX:bits BinOp.and IntKind.i64 (8*(len:Int)/4294967296) 255=B8 (av len 3):=by
        rw[R3.and_255,HVJ.out,show 2^(8*(7-3))=4294967296 from rfl];omega
       obtain⟨x0,x1⟩:=bK (av len 3);clear HVJ;generalize av len 3=x at *
       rw[show(15:Int)-((8+3:Nat):Int)=4 from rfl];go_wp2_with (first|(refine gN 46 ?_;refine aL ?_;clear hL;intro b46 w1 hL)|(refine gN 47 ?_;refine aA ?_;clear hL;intro g47 cap47 cur47 w1 hr47 hL)|(refine aQp ?_;clear hL;intro _ w1 hL));go_roundw;case rel=>exact⟨8+3+1,g47,cap47,cur47,by omega,rfl,by rw[← Nat.add_assoc,HN.out],by rw[HT.out,← List.append_assoc,← Nat.add_assoc,HN.out];exact hr47,hL.pop⟩
       case measure=>simp only[intOf];omega
      ·have hX:bits BinOp.and IntKind.i64 (8*(len:Int)/16777216) 255=B8 (av len 4):=by
        rw[R3.and_255,HVJ.out,show 2^(8*(7-4))=16777216 from rfl];omega
       obtain⟨x0,x1⟩:=bK (av len 4);clear HVJ;generalize av len 4=x at *
       rw[show(15:Int)-((8+4:Nat):Int)=3 from rfl];go_wp2_with (first|(refine gN 46 ?_;refine aL ?_;clear hL;intro b46 w1 hL)|(refine gN 47 ?_;refine aA ?_;clear hL;intro g47 cap47 cur47 w1 hr47 hL)|(refine aQp ?_;clear hL;intro _ w1 hL));go_roundw;case rel=>exact⟨8+4+1,g47,cap47,cur47,by omega,rfl,by rw[← Nat.add_assoc,HN.out],by rw[HT.out,← List.append_assoc,← Nat.add_assoc,HN.out];exact hr47,hL.pop⟩
       case measure=>simp only[intOf];omega
      ·have hX:bits BinOp.and IntKind.i64 (8*(len:Int)/65536) 255=B8 (av len 5):=by
        rw[R3.and_255,HVJ.out,show 2^(8*(7-5))=65536 from rfl];omega
       obtain⟨x0,x1⟩:=bK (av len 5);clear HVJ;generalize av len 5=x at *
       rw[show(15:Int)-((8+5:Nat):Int)=2 from rfl];go_wp2_with (first|(refine gN 46 ?_;refine aL ?_;clear hL;intro b46 w1 hL)|(refine gN 47 ?_;refine aA ?_;clear hL;intro g47 cap47 cur47 w1 hr47 hL)|(refine aQp ?_;clear hL;intro _ w1 hL));go_roundw;case rel=>exact⟨8+5+1,g47,cap47,cur47,by omega,rfl,by rw[← Nat.add_assoc,HN.out],by rw[HT.out,← List.append_assoc,← Nat.add_assoc,HN.out];exact hr47,hL.pop⟩
       case measure=>simp only[intOf];omega
      ·have hX:bits BinOp.and IntKind.i64 (8*(len:Int)/256) 255=B8 (av len 6):=by
        rw[R3.and_255,HVJ.out,show 2^(8*(7-6))=256 from rfl];omega
       obtain⟨x0,x1⟩:=bK (av len 6);clear HVJ;generalize av len 6=x at *
       rw[show(15:Int)-((8+6:Nat):Int)=1 from rfl];go_wp2_with (first|(refine gN 46 ?_;refine aL ?_;clear hL;intro b46 w1 hL)|(refine gN 47 ?_;refine aA ?_;clear hL;intro g47 cap47 cur47 w1 hr47 hL)|(refine aQp ?_;clear hL;intro _ w1 hL));go_roundw;case rel=>exact⟨8+6+1,g47,cap47,cur47,by omega,rfl,by rw[← Nat.add_assoc,HN.out],by rw[HT.out,← List.append_assoc,← Nat.add_assoc,HN.out];exact hr47,hL.pop⟩
       case measure=>simp only[intOf];omega
      ·have hX:bits BinOp.and IntKind.i64 (8*(len:Int)) 255=B8 (av len 7):=by
        rw[R3.and_255,HVJ.out,show 2^(8*(7-7))=1 from rfl];omega
       obtain⟨x0,x1⟩:=bK (av len 7);clear HVJ;generalize av len 7=x at *
       rw[show(15:Int)-((8+7:Nat):Int)=0 from rfl];go_wp2_with (first|(refine gN 46 ?_;refine aL ?_;clear hL;intro b46 w1 hL)|(refine gN 47 ?_;refine aA ?_;clear hL;intro g47 cap47 cur47 w1 hr47 hL)|(refine aQp ?_;clear hL;intro _ w1 hL));go_roundw;case rel=>exact⟨8+7+1,g47,cap47,cur47,by omega,rfl,by rw[← Nat.add_assoc,HN.out],by rw[HT.out,← List.append_assoc,← Nat.add_assoc,HN.out];exact hr47,hL.pop⟩
       case measure=>simp only[intOf];omega
     ·obtain rfl:q=8:=by omega
      have HT:=Hd (show(gW len).take (8+8)=gW len from List.take_of_length_le (by rw[fz];omega));rw[HT.out,← HPRE.out]at hr;have hpn:pre.length+(8+8)=(pad l).length:=by rw[HPRE.out,List.length_append,fz]
      rw[hpn]at hr ⊢;rw[show(15:Int)-((8+8:Nat):Int)= -1 from rfl];clear HT HPRE HLEN hpn;go_wp2_with (first|(refine aQp ?_;clear hL;intro _ w1 hL));go_ret;exact hL.back rfl
end Shb
namespace Shb
open Go.Proofs.YtoifhhljfaoejaaGreatDoor Go.RowKit
def sF(s:St)(L:BitVec 64):Array Value:=bR s.h s.b s.n L
theorem kQ:(prog.info? 75).map (fun i=>(i.zero,i.size))=some (some (.agg (row 64 fun _=> .int .u8 0)),64):=by kernel_rfl
theorem oP:(prog.info? 75).map (·.size)=some 64:=by kernel_rfl
theorem cU(sb:Nat)(s:St)(x:BitVec 8)(L:BitVec 64)(w:World)(hn:s.n<128)(hg:w.heap[sb]?=some (.cells (sF s L) 353 (0,0))) :
 Calls prog 304 #[.pointer (some ⟨sb,0,none⟩),.int .u8 (B8 x)] w fun e w'=>e= .returned (.tuple #[])∧w'.heap[sb]?=some (.cells (sF (aY s x) L) 353 (0,0))∧w.grownBy w' (some sb) :=
 oy sb s x L w hn hg
structure SumAt(w:World)(sb:Nat)(s:St)(L:BitVec 64)(wr:World):Prop where
 lo:w.heap.size<sb
 st:wr.heap[sb]?=some (.cells (sF s L) 353 (0,0))
 res:wr.heap[w.heap.size]?=some (.cells (aa 64 fun _=>0) 75 (0,0))
 bel:Below w.heap.size w wr
theorem SumAt.grow{w wr w':World}{sb:Nat}{s s':St}{L L':BitVec 64}(h:SumAt w sb s L wr)(hs:w'.heap[sb]?=some (.cells (sF s' L') 353 (0,0)))(hg:wr.grownBy w' (some sb)):SumAt w sb s' L' w':=by
 have hsz:w.heap.size<wr.heap.size:=(Array.getElem?_eq_some_iff.1 h.res).1;refine⟨h.lo,hs,?_,h.bel.grown hg (by omega) (fun k hk=>?_)⟩
 ·rw[hg.block _ hsz (fun e=>by have:=h.lo;cases e;omega)]
  exact h.res
 ·cases hk;exact Nat.le_of_lt h.lo
theorem SumAt.setCell{w wr:World}{sb:Nat}{s:St}{L:BitVec 64}(h:SumAt w sb s L wr){x:Addr}(hx:w.heap.size<x.block)(hs:x.block≠sb)(v:Value):SumAt w sb s L (wr.setCell x v) :=
 ⟨h.lo,(heap_setCell_other wr x sb v (Ne.symm hs)).trans h.st,(heap_setCell_other wr x _ v (by omega)).trans h.res,h.bel.setCell (by omega) v⟩
theorem flat_take_le{α:Type}:∀(l:List (List α)) (k:Nat) (h:k<l.length),(l.take k).flatten.length+l[k].length≤l.flatten.length
 | [],k,h=>absurd h (by simp)
 | x::l,0,_=>by simp
 | x::l,k+1,h=>by
  have:=flat_take_le l k (by simpa using h);simp only[List.take_succ_cons,List.flatten_cons,List.length_append,List.getElem_cons_succ];omega
def eg(h:Nat→BitVec 64)(k:Nat):Nat→BitVec 8:=fun i=>if i<k then bX h i else 0
theorem gX(h:Nat→BitVec 64)(k:Nat):upd (eg h k) k (bX h k)=eg h (k+1):=by
 funext i;unfold upd eg;by_cases e:i=k
 ·subst e;simp
 ·rw[if_neg e]
  by_cases hi:i<k
  ·rw[if_pos hi,if_pos (by omega)]
  ·rw[if_neg hi,if_neg (by omega)]
theorem eO{n:Nat}{f g:Nat→BitVec 8}(h:∀i,i<n→f i=g i):aa n f=aa n g:=ak fun i hi=>by rw[h i hi]
theorem lk(h:Nat→BitVec 64)(k r:Nat)(hr:k%8=r):Q (h (k/8))/((2^(56-8*r):Nat):Int)%(256:Int)=B8 (bX h k):=by
 unfold Q B8 bX;rw[BitVec.toNat_setWidth,BitVec.toNat_ushiftRight,Nat.shiftRight_eq_div_pow,hr,Int.natCast_emod,Int.natCast_ediv];rfl
theorem sum_any(v:Value)(l:List (List (BitVec 8)))(w:World)(hv:BRows w v l)(hl:l.length≤1000000)(hm:l.flatten.length≤1000000000) :
 Rt 280 #[v] w (.agg (aa 64 (sha l.flatten))):=by
 obtain⟨a,c,rfl,_,hv⟩:=hv;have HV:=Hd hv;clear hv;go_enter func280,ntmps280;go_wp2_with (first|(with_reducible refine aw rfl 75 rfl 64 _ kQ ?_)|(go_at_call 303;refine(mI _).mono ?_;rintro e w1⟨sb,rfl,hsb,hs,hb1⟩));have hat:SumAt w sb st0 0 w1:=by
  have e1:(w.alloc (.cells (row 64 fun _=> .int .u8 0) 75)).heap.size=w.heap.size+1:=by simp
  refine⟨by rw[e1]at hsb;omega,hs,?_,?_⟩
  ·rw[hb1.block _ (by rw[e1];omega)];exact heap_alloc_new _ _
  ·exact((Below.refl _ _).alloc (Nat.le_refl _) _).trans (hb1.mono (by rw[e1];omega))
 clear hs hb1 hsb;go_loopw [14] (fun i wr=>∃k:Nat,k≤l.length∧i= .int .i64 k∧SumAt w sb (ax st0 (l.take k).flatten) (BitVec.ofNat 64 (l.take k).flatten.length) wr) (fun i _=>l.length-(intOf i).toNat);case atStart=>exact⟨0,Nat.zero_le _,rfl,hat⟩
 case round =>
  clear hat
  obtain⟨k,hk,rfl,hat⟩:=hrel;by_cases hlt:k<l.length
  ·obtain⟨b,off,ha,hbl,hcells⟩:=HV.out (by omega)
   obtain⟨vi,hvi,a2,c2,rfl,_,hin⟩:=hcells k hlt;have hk0:(0:Int)≤(k:Int):=by omega
   have hk1:(k:Int)<(l.length:Int):=by omega
   have hci:=(hat.bel.cell (p:=⟨b,off+k,none⟩) hbl).trans hvi;rw[ha];clear hvi hcells;have HI:=Hd hin;have HT:=Hd (show l.take (k+1)=l.take k++[l[k]]from List.take_succ_eq_append_getElem hlt);have hln:=flat_take_le l k hlt;clear hin;generalize l[k]=m at *
   obtain⟨p,hp⟩:∃p,p=(l.take k).flatten:=⟨_,rfl⟩;rw[← hp]at hat hln;have HP:=Hd hp.symm;clear hp;go_wp2_with fail;obtain⟨w0,rfl⟩:∃w0:World,w0=wr:=⟨_,rfl⟩;go_loopw [20] (fun i w2=>∃j:Nat,j≤m.length∧i= .int .i64 j∧SumAt w sb (ax (ax st0 p) (m.take j)) (BitVec.ofNat 64 p.length) w2∧Below w.heap.size w0 w2) (fun i _=>m.length-(intOf i).toNat);case atStart=>exact⟨0,Nat.zero_le _,rfl,hat,Below.refl _ _⟩
   case round =>
    clear hat
    obtain⟨j,hj,rfl,hat,hb0⟩:=hrel;by_cases hjl:j<m.length
    ·obtain⟨b2,o2,ha2,hbl2,hc2⟩:=HI.out (by omega)
     have hcj:=(hat.bel.cell (p:=⟨b2,o2+j,none⟩) hbl2).trans (hc2 j hjl);have HTJ:=Hd (show ax (ax st0 p) (m.take (j+1))=aY (ax (ax st0 p) (m.take j)) m[j] by
      rw[List.take_succ_eq_append_getElem hjl,cR])
     have hlt64:=cE (cE (s:=st0) (by decide) p) (m.take j);have hj0:(0:Int)≤(j:Int):=by omega
     have hj1:(j:Int)<(m.length:Int):=by omega
     rw[ha2];clear hc2;generalize ax (ax st0 p) (m.take j)=S at *
     generalize m[j]=x at *
     go_wp2_with fail;refine(cU sb S x _ _ hlt64 hat.st).mono ?_;rintro e w3⟨rfl,hs3,hg3⟩;have hat3:=hat.grow hs3 hg3;have hb3:Below w.heap.size w0 w3:=hb0.grown hg3 (by have:=hat.bel.size;omega) (fun k hk=>by cases hk;exact Nat.le_of_lt hat.lo);clear hs3 hg3 hat hb0;go_wp2;go_roundw;case rel=>exact⟨j+1,by omega,by go_num,by rw[HTJ.out];exact hat3,hb3⟩
     case measure=>simp[intOf];omega
    ·have hje:m.take j=m:=List.take_of_length_le (by omega)
     rw[hje]at hat
     have HTK:=Hd (show ax st0 (l.take (k+1)).flatten=ax (ax st0 p) m∧BitVec.ofNat 64 (l.take (k+1)).flatten.length=BitVec.ofNat 64 p.length+BitVec.ofNat 64 m.length from by
      rw[HT.out,List.flatten_append,List.flatten_cons,List.flatten_nil,List.append_nil,HP.out,bJ,List.length_append,BitVec.ofNat_add];exact⟨rfl,rfl⟩)
     have hst:=hat.st;have cL:wr.cell? ⟨sb,217,none⟩=some (.int .u64 (Q (BitVec.ofNat 64 p.length))):=by rw[aP hst (by omega),Cu]
     have fL:wr.frozen? ⟨sb,217,none⟩=false:=frozen_of_row wr _ _ _ _ hst;have hq:=wA (BitVec.ofNat 64 p.length) m.length (by omega);have hq':=yp (BitVec.ofNat 64 p.length) m.length (by omega);have HH:=Hd ((bB (.int .u64 (Q (BitVec.ofNat 64 p.length+BitVec.ofNat 64 m.length))) hst (by omega)).trans (congrArg (fun r=>some (Obj.cells r 353 (0,0))) (kK _)));have HAT:=Hd hat
     clear hat hst hje;generalize BitVec.ofNat 64 p.length=L1 at *
     generalize BitVec.ofNat 64 m.length=L2 at *
     generalize ax (ax st0 p) m=S at *
     go_wp2;go_roundw;case rel =>
      refine⟨k+1,by omega,by go_num,?_⟩;rw[HTK.out.1,HTK.out.2];exact HAT.out.grow HH.out (bn (cq _ _) (.inr rfl) _)
     case measure=>simp[intOf];omega
  ·have hke:l.take k=l:=List.take_of_length_le (by omega)
   rw[hke]at hat
   clear hke;have hlt64:=cE (s:=st0) (by decide) l.flatten;go_wp2_with fail;refine(cU sb _ 128 _ _ hlt64 hat.st).mono ?_;rintro e w2⟨rfl,hs2,hg2⟩;have hat2:=hat.grow hs2 hg2;clear hs2 hg2 hat hlt64;obtain⟨len,hlen⟩:∃len,len=l.flatten.length:=⟨_,rfl⟩;have hS0:(aY (ax st0 l.flatten) 128).n=(len+1)%128:=by
    rw[iw (cE (by decide) _),lb (by decide),hlen];show((0+l.flatten.length)%128+1)%128=_;omega
   rw[← hlen]at hat2;have hlm:len≤1000000000:=by omega
   have HLEN:=Hd hlen;clear hlen;go_wp2;go_loopw [41] (fun _ wr=>∃z:Nat,z≤cI len∧SumAt w sb (ax (aY (ax st0 l.flatten) 128) (List.replicate z 0)) (BitVec.ofNat 64 len) wr) (fun _ wr=>(240-(intOf ((wr.cell? ⟨sb,216,none⟩).getD undef)).toNat)%128);case atStart=>exact⟨0,Nat.zero_le _,hat2⟩
   case round =>
    clear hat2;obtain⟨z,hz,hat⟩:=hrel;have hSn:(ax (aY (ax st0 l.flatten) 128) (List.replicate z 0)).n=(len+1+z)%128:=by
     rw[lb (el _ _),hS0,List.length_replicate];omega
    have hZ:cI len=(239-len%128)%128:=rfl;have hlt64:(ax (aY (ax st0 l.flatten) 128) (List.replicate z 0)).n<128:=cE (el _ _) _;have hcn:wr.cell? ⟨sb,216,none⟩=some (.int .i64 (ax (aY (ax st0 l.flatten) 128) (List.replicate z 0)).n):=by rw[aP hat.st (by omega),su]
    by_cases hzl:z<cI len
    ·have HTZ:=Hd (show ax (aY (ax st0 l.flatten) 128) (List.replicate (z+1) 0)=aY (ax (aY (ax st0 l.flatten) 128) (List.replicate z 0)) 0 by
      rw[List.replicate_succ',cR])
     have h56:(ax (aY (ax st0 l.flatten) 128) (List.replicate z 0)).n≠112:=by rw[hSn];omega
     clear hSn hZ;generalize ax (aY (ax st0 l.flatten) 128) (List.replicate z 0)=S at *
     have he:((S.n:Int) !=112)=true:=by rw[bne_iff_ne];omega
     have he':((S.n:Int)==112)=false:=by rw[beq_eq_false_iff_ne];omega
     go_wp2_with fail;refine(cU sb S 0 _ _ hlt64 hat.st).mono ?_;rintro e w3⟨rfl,hs3,hg3⟩;have hat3:=hat.grow hs3 hg3;have hc3:w3.cell? ⟨sb,216,none⟩=some (.int .i64 ((S.n+1)%128:Nat)):=by rw[aP hs3 (by omega),su,iw hlt64]
     clear hs3 hg3 hat
     go_wp2;go_roundw;case rel=>exact⟨z+1,by omega,by rw[HTZ.out];exact hat3⟩
     case measure =>
      simp only[hc3,hcn,Option.getD_some,intOf,Int.toNat_natCast];omega
    ·have hze:z=cI len:=by omega
     have h56:(ax (aY (ax st0 l.flatten) 128) (List.replicate z 0)).n=112:=by rw[hSn];omega
     clear hSn hZ hzl;subst hze;obtain⟨S,hS⟩:∃S,S=ax (aY (ax st0 l.flatten) 128) (List.replicate (cI len) 0):=⟨_,rfl⟩;rw[← hS]at hat hlt64 hcn h56;have HS:=Hd hS;clear hS hz hS0;have he:((S.n:Int) !=112)=false:=by rw[h56];decide
     have he':((S.n:Int)==112)=true:=by rw[h56];decide
     clear h56;go_wp2;go_loopw [48] (fun i w5=>∃j:Nat,j≤8∧i= .int .i64 (j:Int)∧SumAt w sb (ax S (List.replicate j 0)) (BitVec.ofNat 64 len) w5) (fun i _=>8-(intOf i).toNat);case atStart=>exact⟨0,by omega,rfl,hat⟩
     case round =>
     clear hat he he' hcn;obtain⟨j,hj,rfl,hat⟩:=hrel;by_cases hj8:j<8
     ·have hlt64j:=cE hlt64 (List.replicate j 0)
      have HTZ:=Hd (show ax S (List.replicate (j+1) 0)=aY (ax S (List.replicate j 0)) 0 by rw[List.replicate_succ',cR]);generalize ax S (List.replicate j 0)=S2 at *
      have hj0:(0:Int)≤(j:Int):=by omega
      have hj1:(j:Int)<8:=by omega
      go_wp2_with fail;refine(cU sb S2 0 _ _ hlt64j hat.st).mono ?_;rintro e w3⟨rfl,hs3,hg3⟩;have hat3:=hat.grow hs3 hg3;clear hs3 hg3 hat
      go_wp2;go_roundw;case rel=>exact⟨j+1,by omega,by go_num,by rw[HTZ.out];exact hat3⟩
      case measure=>simp[intOf];omega
     obtain rfl:j=8:=by omega
     rw[show((8:Nat):Int)=8 from rfl];have hlt64:=cE hlt64 (List.replicate 8 0);obtain⟨S',hS'⟩:∃S',S'=ax S (List.replicate 8 0):=⟨_,rfl⟩;rw[← hS']at hat hlt64;have HS8:=Hd hS';clear hS' hj hj8;go_wp2;go_loopw [8] (fun i w5=>∃j:Nat,j≤8∧i= .int .i64 (7-(j:Int))∧SumAt w sb (ax S' ((aD len).take j)) (BitVec.ofNat 64 len) w5) (fun i _=>(intOf i+1).toNat);case atStart=>exact⟨0,by omega,rfl,hat⟩
     case round =>
      clear hat
      obtain⟨j,hj,rfl,hat⟩:=hrel;by_cases hj8:j<8
      ·have cL:wr.cell? ⟨sb,217,none⟩=some (.int .u64 (len:Int)):=by rw[aP hat.st (by omega),Cu,rO len (by omega)]
       have hlb:(len:Int)≤1000000000:=by omega
       have hl0:(0:Int)≤(len:Int):=by omega
       have hlt64j:=cE hlt64 ((aD len).take j);have HTJ:=Hd (show ax S' ((aD len).take (j+1))=aY (ax S' ((aD len).take j)) (av len j) by
        rw[bO len hj8,cR])
       clear hlt64;generalize ax S' ((aD len).take j)=S2 at *
       have E0:=Hd (show(len:Int)*8/72057594037927936=B8 (av len 0) by rw[bj len 0,show 2^(8*(7-0))=72057594037927936 from rfl];omega);have E1:=Hd (show(len:Int)*8/281474976710656=B8 (av len 1) by rw[bj len 1,show 2^(8*(7-1))=281474976710656 from rfl];omega);have E2:=Hd (show(len:Int)*8/1099511627776=B8 (av len 2) by rw[bj len 2,show 2^(8*(7-2))=1099511627776 from rfl];omega);have E3:=Hd (show(len:Int)*8/4294967296=B8 (av len 3) by rw[bj len 3,show 2^(8*(7-3))=4294967296 from rfl];omega);have E4:=Hd (show(len:Int)*8/16777216%256=B8 (av len 4) by rw[bj len 4,show 2^(8*(7-4))=16777216 from rfl];omega);have E5:=Hd (show(len:Int)*8/65536%256=B8 (av len 5) by rw[bj len 5,show 2^(8*(7-5))=65536 from rfl];omega);have E6:=Hd (show(len:Int)*8/256%256=B8 (av len 6) by rw[bj len 6,show 2^(8*(7-6))=256 from rfl];omega);have E7:=Hd (show(len:Int)*8%256=B8 (av len 7) by rw[bj len 7,show 2^(8*(7-7))=1 from rfl];omega);have hj8':j=0∨j=1∨j=2∨j=3∨j=4∨j=5∨j=6∨j=7:=by omega
       rcases hj8' with rfl|rfl|rfl|rfl|rfl|rfl|rfl|rfl
       all_goals
        first|rw[show(7:Int)-((0:Nat):Int)=7 from rfl]|rw[show(7:Int)-((1:Nat):Int)=6 from rfl]|rw[show(7:Int)-((2:Nat):Int)=5 from rfl]|rw[show(7:Int)-((3:Nat):Int)=4 from rfl]|rw[show(7:Int)-((4:Nat):Int)=3 from rfl]|rw[show(7:Int)-((5:Nat):Int)=2 from rfl]|rw[show(7:Int)-((6:Nat):Int)=1 from rfl]|rw[show(7:Int)-((7:Nat):Int)=0 from rfl]
        go_wp2_with fail
        first|rw[E0.out]|rw[E1.out]|rw[E2.out]|rw[E3.out]|rw[E4.out]|rw[E5.out]|rw[E6.out]|rw[E7.out]
        refine(cU sb S2 _ _ _ hlt64j hat.st).mono ?_;rintro e w6⟨rfl,hs6,hg6⟩;have hat6:=hat.grow hs6 hg6;rw[← HTJ.out]at hat6;clear hs6 hg6 hat cL E0 E1 E2 E3 E4 E5 E6 E7;go_wp2;go_roundw;case rel=>exact⟨_,by omega,rfl,hat6⟩
        case measure=>simp[intOf]
      ·have h8:(aD len).take j=aD len:=List.take_of_length_le (by simp[aD];omega)
       rw[h8]at hat
       clear h8;have hj7:(7:Int)-(j:Int)= -1:=by omega
       rw[hj7];clear hj7;go_wp2_with (with_reducible refine aw rfl 75 rfl 64 _ kQ ?_);have hz:=hat.bel.size;have hrs:w.heap.size<wr.heap.size:=(Array.getElem?_eq_some_iff.1 hat.res).1;have hbs:sb<wr.heap.size:=(Array.getElem?_eq_some_iff.1 hat.st).1;have hat9:SumAt w sb (ax S' (aD len)) (BitVec.ofNat 64 len) (wr.alloc (.cells (row 64 fun _=> .int .u8 0) 75)) :=
        hat.grow ((Below.heap_alloc _ _ _ hbs).trans hat.st) (dA (cq _ _) _)
       obtain⟨ob,hob⟩:∃ob,ob=wr.heap.size:=⟨_,rfl⟩;have hnew:(wr.alloc (.cells (row 64 fun _=> .int .u8 0) 75)).heap[ob]?=some (.cells (aa 64 (eg (ax S' (aD len)).h 0)) 75 (0,0)):=by
        rw[hob];exact heap_alloc_new _ _
       have hfin:sha l.flatten=bX (ax S' (aD len)).h:=by
        unfold sha pad;rw[bJ,bJ,bJ,bJ,HLEN.out,HS8.out,HS.out,HLEN.out];rfl
       have HFIN:=Hd hfin;have hob1:w.heap.size<ob:=by omega
       have hob2:sb<ob:=by omega
       rw[← hob];clear hat hfin hob hrs hbs hz;generalize ax S' (aD len)=S3 at *
       go_loopw [68] (fun i w9=>∃q:Nat,q≤64∧i= .int .i64 q∧SumAt w sb S3 (BitVec.ofNat 64 len) w9∧w9.heap[ob]?=some (.cells (aa 64 (eg S3.h q)) 75 (0,0))) (fun i _=>64-(intOf i).toNat);case atStart=>exact⟨0,by omega,rfl,hat9,hnew⟩
       case round =>
        clear hat9 hnew;obtain⟨q,hq,rfl,hat,ho⟩:=hrel;by_cases hq64:q<64
        ·have hq0:(0:Int)≤(q:Int):=by omega
         have hq1:(q:Int)<64:=by omega
         have ch:wr.cell? ⟨sb,q/8,none⟩=some (.int .u64 (Q (S3.h (q/8)))):=by rw[aP hat.st (by omega),G8 (by omega)]
         have co:wr.cell? ⟨ob,q,none⟩=some (.int .u8 (B8 (eg S3.h q q))):=a4 ho hq64;have fo:wr.frozen? ⟨ob,q,none⟩=false:=frozen_of_row wr _ _ _ _ ho;have HO:=Hd ho;have HOK:=Hd (gX S3.h q);have HVAL:=Hd (lk S3.h q);obtain⟨u0,u1⟩:=iW (S3.h (q/8));clear ho;have hr8:q%8=0∨q%8=1∨q%8=2∨q%8=3∨q%8=4∨q%8=5∨q%8=6∨q%8=7:=by omega
         rcases hr8 with hr|hr|hr|hr|hr|hr|hr|hr
         all_goals
          have hv:=HVAL.out _ hr;simp only[Nat.reduceMul,Nat.reduceSub,Nat.reducePow]at hv
          first|have hri:(q:Int)%8=0:=by omega|have hri:(q:Int)%8=1:=by omega|have hri:(q:Int)%8=2:=by omega|have hri:(q:Int)%8=3:=by omega|have hri:(q:Int)%8=4:=by omega|have hri:(q:Int)%8=5:=by omega|have hri:(q:Int)%8=6:=by omega|have hri:(q:Int)%8=7:=by omega
          clear hr;go_wp2;go_roundw;case rel =>
           first|rw[show Q (S3.h (q/8))/72057594037927936=B8 (bX S3.h q) by omega]|rw[show Q (S3.h (q/8))/281474976710656%256=B8 (bX S3.h q) by omega]|rw[show Q (S3.h (q/8))/1099511627776%256=B8 (bX S3.h q) by omega]|rw[show Q (S3.h (q/8))/4294967296%256=B8 (bX S3.h q) by omega]|rw[show Q (S3.h (q/8))/16777216%256=B8 (bX S3.h q) by omega]|rw[show Q (S3.h (q/8))/65536%256=B8 (bX S3.h q) by omega]|rw[show Q (S3.h (q/8))/256%256=B8 (bX S3.h q) by omega]|rw[show Q (S3.h (q/8))%256=B8 (bX S3.h q) by omega]
           refine⟨q+1,by omega,by go_num,hat.setCell hob1 (Nat.ne_of_gt hob2) _,?_⟩;rw[bm _ HO.out hq64,HOK.out]
          case measure=>simp[intOf];omega
        ·have hro:aa 64 (eg S3.h q)=aa 64 (sha l.flatten):=eO fun i hi=>by
          unfold eg;rw[if_pos (by omega),HFIN.out]
         rw[hro]at ho;have HO:=Hd ho;have HA:=Hd hat
         have HSZ:=Hd (show(prog.info? 75).map (·.size)=some (aa 64 (sha l.flatten)).size by rw[oP,aj]);clear ho hro hat HFIN;go_wp2_with (first
          | ((with_reducible show wpList _ _ _ (⟨_,.load 75 _,_,_,_,_⟩::_) _ _);refine wpList_load_row rfl 75 _ rfl ob rfl 75 (aa 64 (sha l.flatten)) (0,0) _ HO.out underlying75 rfl HSZ.out ?_)
          | ((with_reducible show wpList _ _ _ (⟨_,.store 75 _ _,_,_,_,_⟩::_) _ _);refine wpList_store_rowTo rfl 75 _ _ rfl rfl w.heap.size (aa 64 (sha l.flatten)) rfl rfl 75 _ HA.out.res HSZ.out (by rw[aj,aj]) (bU _ _) ?_))
         refine bodyPost_ret (results_cell_row rfl _ _ w.heap.size 75 (aa 64 (sha l.flatten)) (0,0) _ rfl (aC HA.out.res) underlying75 rfl HSZ.out) rfl ?_;exact⟨rfl,aW HA.out.bel (Nat.le_refl _) _⟩
end Shb
section
def aS(x:BitVec 32)(n:Nat):BitVec 32:=x<<<n|||x>>>(32-n)
def ef(x:BitVec 8):BitVec 32:=x.setWidth 32
def ud(x:BitVec 32):BitVec 32:=aS x 25^^^aS x 14^^^x>>>3
def ue(x:BitVec 32):BitVec 32:=aS x 15^^^aS x 13^^^x>>>10
def G1(x:BitVec 32):BitVec 32:=aS x 26^^^aS x 21^^^aS x 7
def G2(x:BitVec 32):BitVec 32:=aS x 30^^^aS x 19^^^aS x 10
open Go.RowKit in
theorem jl(x:BitVec 32):bits .xor .u32 (bits .xor .u32 (U (aS x 25)) (U (aS x 14))) (U x/(8:Int))=U (ud x):=by
 rw[GF,kV,kV];rfl
open Go.RowKit in
theorem jm(x:BitVec 32):bits .xor .u32 (bits .xor .u32 (U (aS x 15)) (U (aS x 13))) (U x/(1024:Int))=U (ue x):=by
 rw[EG,kV,kV];rfl
def cV(i:Nat):BitVec 32:=BitVec.ofNat 32 ([1116352408,1899447441,3049323471,3921009573,961987163,1508970993,2453635748,2870763221,3624381080,310598401,607225278,1426881987,1925078388,2162078206,2614888103,3248222580,3835390401,4022224774,264347078,604807628,770255983,1249150122,1555081692,1996064986,2554220882,2821834349,2952996808,3210313671,3336571891,3584528711,113926993,338241895,666307205,773529912,1294757372,1396182291,1695183700,1986661051,2177026350,2456956037,2730485921,2820302411,3259730800,3345764771,3516065817,3600352804,4094571909,275423344,430227734,506948616,659060556,883997877,958139571,1322822218,1537002063,1747873779,1955562222,2024104815,2227730452,2361852424,2428436474,2756734187,3204031479,3329325298].getD i 0)
def mJ(i:Nat):BitVec 32:=BitVec.ofNat 32 ([1779033703,3144134277,1013904242,2773480762,1359893119,2600822924,528734635,1541459225].getD i 0)
def br(b:Nat→BitVec 8):Nat→Nat→BitVec 32
 | 0=>fun _=>0
 | k+1=>upd (br b k) (k/4) (br b k (k/4)<<<8|||ef (b k))
def eW(f:Nat→BitVec 32)(k:Nat):BitVec 32:=ue (f (k-2))+f (k-7)+ud (f (k-15))+f (k-16)
def cd(W:Nat→BitVec 32):Nat→Nat→BitVec 32
 | 0=>W
 | k+1=>if k<16 then W else upd (cd W k) k (eW (cd W k) k)
def aT(b:Nat→BitVec 8):Nat→BitVec 32:=cd (br b 64) 64
theorem jn(W:Nat→BitVec 32):∀k,k≤16→cd W k=W
 | 0,_=>rfl
 | k+1,h=>by unfold cd;rw[if_pos (by omega)]
theorem gR(W:Nat→BitVec 32){k:Nat}(h:16≤k):cd W (k+1)=upd (cd W k) k (eW (cd W k) k):=by
 rw[cd,if_neg (by omega)]
def xb(K W:Nat→BitVec 32)(t:Nat)(v:Nat→BitVec 32):BitVec 32:=v 7+G1 (v 4)+(v 4&&&v 5 ^^^ ~~~(v 4)&&&v 6)+K t+W t
def Fh(v:Nat→BitVec 32):BitVec 32:=G2 (v 0)+(v 0&&&v 1^^^v 0&&&v 2^^^v 1&&&v 2)
def rnd(K W:Nat→BitVec 32)(t:Nat)(v:Nat→BitVec 32):Nat→BitVec 32
 | 0=>xb K W t v+Fh v
 | 1=>v 0
 | 2=>v 1
 | 3=>v 2
 | 4=>v 3+xb K W t v
 | 5=>v 4
 | 6=>v 5
 | 7=>v 6
 | _=>0
def dj(K W:Nat→BitVec 32)(h:Nat→BitVec 32):Nat→Nat→BitVec 32
 | 0=>h
 | t+1=>rnd K W t (dj K W h t)
def block(K:Nat→BitVec 32)(h:Nat→BitVec 32)(b:Nat→BitVec 8):Nat→BitVec 32:=fun i=>h i+dj K (aT b) h 64 i
end
section
structure St where
 h:Nat→BitVec 32
 b:Nat→BitVec 8
 n:Nat
def aY(s:St)(x:BitVec 8):St :=
 if s.n<63 then⟨s.h,upd s.b s.n x,s.n+1⟩else⟨block cV s.h (upd s.b s.n x),upd s.b s.n x,0⟩
def st0:St:=⟨mJ,fun _=>0,0⟩
def ax(s:St)(m:List (BitVec 8)):St:=m.foldl aY s
theorem bJ(s:St)(a b:List (BitVec 8)):ax s (a++b)=ax (ax s a) b:=List.foldl_append
theorem cR(s:St)(a:List (BitVec 8))(x:BitVec 8):ax s (a++[x])=aY (ax s a) x:=by rw[bJ];rfl
theorem el(s:St)(x:BitVec 8):(aY s x).n<64:=by
 unfold aY;split
 ·show s.n+1<64;omega
 ·show 0<64;omega
theorem cE{s:St}(hs:s.n<64)(m:List (BitVec 8)):(ax s m).n<64:=by
 unfold ax
 induction m generalizing s with
 | nil=>exact hs
 | cons x m ih=>exact ih (el s x)
theorem iw{s:St}(hs:s.n<64)(x:BitVec 8):(aY s x).n=(s.n+1)%64:=by
 unfold aY;split
 ·show s.n+1=_;omega
 ·show 0=_;omega
theorem lb{s:St}(hs:s.n<64)(m:List (BitVec 8)):(ax s m).n=(s.n+m.length)%64:=by
 unfold ax
 induction m generalizing s with
 | nil=>simp;omega
 | cons x m ih =>
  show((m.foldl aY (aY s x))).n=_;rw[ih (el s x),iw hs,List.length_cons];omega
def cI(n:Nat):Nat:=(119-n%64)%64
def av(n:Nat)(i:Nat):BitVec 8:=BitVec.ofNat 8 (8*n/2^(8*(7-i)))
def aD(n:Nat):List (BitVec 8):=(List.range 8).map (av n)
def pad(m:List (BitVec 8)):List (BitVec 8):=m++[128]++List.replicate (cI m.length) 0++aD m.length
def bX(h:Nat→BitVec 32)(i:Nat):BitVec 8:=(h (i/4)>>>(24-8*(i%4))).setWidth 8
def sha(m:List (BitVec 8)):Nat→BitVec 8:=bX (ax st0 (pad m)).h
theorem bO(n:Nat){j:Nat}(h:j<8):(aD n).take (j+1)=(aD n).take j++[av n j]:=by
 rw[List.take_succ_eq_append_getElem (by simp[aD];exact h)];simp[aD]
theorem bj(n j:Nat):B8 (av n j)=((8*n/2^(8*(7-j))%256:Nat):Int):=by
 unfold av B8;rw[BitVec.toNat_ofNat]
theorem fV(m:List (BitVec 8)):(pad m).length%64=0:=by
 unfold pad cI aD;simp only[List.length_append,List.length_cons,List.length_nil,List.length_replicate,List.length_map,List.length_range];omega
def acc(b:Nat→BitVec 8)(i:Nat):Nat→BitVec 32
 | 0=>0
 | r+1=>acc b i r<<<8|||ef (b (4*i+r))
theorem jq(b:Nat→BitVec 8)(i:Nat):∀k,br b k i=acc b i (min 4 (k-4*i))
 | 0=>by simp[br,acc]
 | k+1=>by
  have ih:=jq b i k;unfold br upd;by_cases e:i=k/4
  ·rw[if_pos e,← e,ih]
   have h1:min 4 (k-4*i)=k-4*i:=by omega
   have h2:min 4 (k+1-4*i)=(k-4*i)+1:=by omega
   rw[h1,h2,acc,show 4*i+(k-4*i)=k by omega]
  ·rw[if_neg e,ih]
   congr 1;omega
def oQ(b:Nat→BitVec 8)(i:Nat):BitVec 32:=ef (b (4*i))<<<24|||ef (b (4*i+1))<<<16|||ef (b (4*i+2))<<<8|||ef (b (4*i+3))
theorem CZ(b:Nat→BitVec 8)(i:Nat):acc b i 4=oQ b i:=by
 simp only[acc,oQ,BitVec.shiftLeft_or_distrib,← BitVec.shiftLeft_add];simp
def uh(b:Nat→BitVec 8)(i:Nat):BitVec 32:=if i<16 then oQ b i else 0
theorem oz(b:Nat→BitVec 8):br b 64=uh b:=by
 funext i;rw[jq];unfold uh;by_cases h:i<16
 ·rw[if_pos h,show min 4 (64-4*i)=4 by omega,CZ]
 ·rw[if_neg h,show min 4 (64-4*i)=0 by omega];rfl
theorem fW{b b':Nat→BitVec 8}:∀k,(∀i,i<k→b i=b' i)→br b k=br b' k
 | 0,_=>rfl
 | k+1,h=>by
  have ih:=fW k (fun i hi=>h i (by omega));unfold br;rw[ih,h k (by omega)]
theorem fb{K h:Nat→BitVec 32}{b b':Nat→BitVec 8}(hb:∀i,i<64→b i=b' i):block K h b=block K h b':=by
 unfold block aT;rw[fW 64 hb]
def aF(m:Nat→BitVec 8):Nat→Nat→BitVec 32
 | 0=>mJ
 | k+1=>block cV (aF m k) (fun j=>m (64*k+j))
theorem fX(h:Nat→BitVec 32):∀(c:List (BitVec 8)) (b:Nat→BitVec 8) (n:Nat),n+c.length<64 →
 ∃b',ax ⟨h,b,n⟩ c=⟨h,b',n+c.length⟩∧(∀i,i<n→b' i=b i)∧∀i (hi:i<c.length),b' (n+i)=c[i]
 | [],b,n,_=>⟨b,rfl,fun _ _=>rfl,fun i hi=>absurd hi (by simp)⟩
 | x::c,b,n,hn=>by
  simp only[List.length_cons]at hn;obtain⟨b',e,h1,h2⟩:=fX h c (upd b n x) (n+1) (by omega);refine⟨b',?_,?_,?_⟩
  ·show ax (aY ⟨h,b,n⟩ x) c=_
   have:aY ⟨h,b,n⟩ x=⟨h,upd b n x,n+1⟩:=by unfold aY;rw[if_pos (by show n<63;omega)]
   rw[this,e];congr 1;simp only[List.length_cons];omega
  ·intro i hi
   rw[h1 i (by omega)];unfold upd;rw[if_neg (by omega)]
  ·intro i hi
   cases i with
   | zero=>rw[Nat.add_zero,h1 n (by omega)];simp[upd]
   | succ i =>
    have:=h2 i (by simpa using hi);rw[show n+(i+1)=n+1+i by omega,this];rfl
theorem jr(h:Nat→BitVec 32)(b:Nat→BitVec 8)(c:List (BitVec 8))(hc:c.length=64):∃b',ax ⟨h,b,0⟩ c=⟨block cV h (fun j=>c.getD j 0),b',0⟩:=by
 have hne:c≠[]:=fun e=>by rw[e]at hc;cases hc
 obtain⟨b',e,_,h2⟩:=fX h c.dropLast b 0 (by rw[List.length_dropLast];omega);have hs:c.dropLast++[c.getLast hne]=c:=List.dropLast_concat_getLast hne;have hl:c.dropLast.length=63:=by rw[List.length_dropLast];omega
 have hT:ax ⟨h,b,0⟩ c=aY (ax ⟨h,b,0⟩ c.dropLast) (c.getLast hne):=by
  rw[← cR,hs]
 have hb:block cV h (upd b' 63 (c.getLast hne))=block cV h (fun j=>c.getD j 0):=by
  refine fb fun i hi=>?_;unfold upd;by_cases e63:i=63
  ·subst e63
   rw[if_pos rfl,List.getD_eq_getElem?_getD,List.getElem?_eq_getElem (by omega),Option.getD_some,List.getLast_eq_getElem];congr 1;omega
  ·rw[if_neg e63]
   have:=h2 i (by omega);rw[Nat.zero_add]at this;rw[this,List.getD_eq_getElem?_getD,List.getElem?_eq_getElem (by omega),Option.getD_some,List.getElem_dropLast]
 refine⟨upd b' 63 (c.getLast hne),?_⟩;rw[hT,e,hl];unfold aY;rw[if_neg (by simp)];simp only[Nat.zero_add];rw[hb]
theorem em(m:Nat→BitVec 8):∀(q k:Nat) (p:List (BitVec 8)) (b:Nat→BitVec 8),p.length=64*q→(∀i,i<p.length→p.getD i 0=m (64*k+i)) →
 ∃b',ax ⟨aF m k,b,0⟩ p=⟨aF m (k+q),b',0⟩
 | 0,k,p,b,hl,_=>by
  have:p=[]:=List.eq_nil_of_length_eq_zero (by omega);subst this;exact⟨b,rfl⟩
 | q+1,k,p,b,hl,hm=>by
  have hs:p=p.take 64++p.drop 64:=(List.take_append_drop 64 p).symm;have h64:(p.take 64).length=64:=by rw[List.length_take];omega
  obtain⟨b1,e1⟩:=jr (aF m k) b (p.take 64) h64;have eb:block cV (aF m k) (fun j=>(p.take 64).getD j 0)=aF m (k+1):=by
   refine fb fun i hi=>?_;rw[← hm i (by omega),List.getD_eq_getElem?_getD,List.getD_eq_getElem?_getD,List.getElem?_take_of_lt hi]
  rw[eb]at e1;obtain⟨b2,e2⟩:=em m q (k+1) (p.drop 64) b1 (by rw[List.length_drop];omega) (fun i hi=>by
   rw[List.length_drop]at hi;rw[List.getD_eq_getElem?_getD,List.getElem?_drop,← List.getD_eq_getElem?_getD,hm (64+i) (by omega)];congr 1;omega)
  refine⟨b2,?_⟩;rw[hs,bJ,e1,e2];congr 2;omega
theorem kL(m:List (BitVec 8)):sha m=bX (aF (fun i=>(pad m).getD i 0) ((pad m).length/64)):=by
 have hl:=fV m;obtain⟨b',e⟩:=em (fun i=>(pad m).getD i 0) ((pad m).length/64) 0 (pad m) (fun _=>0) (by omega) (fun i _=>by simp);unfold sha st0;rw[show mJ=aF (fun i=>(pad m).getD i 0) 0 from rfl,e,Nat.zero_add]
end
section
open Go.RowKit Go.Shelf
class Glob(w:World):Prop where
 lt:6<w.heap.size
 k256:∀i,i<64→w.cell? ⟨0,i,none⟩=some (.int .u32 (U (cV i)))
 bx:∀i,i<16→w.cell? ⟨1,i,none⟩=some (.int .i64 (R3.dg pB.x.val i:Nat))
 by_:∀i,i<16→w.cell? ⟨2,i,none⟩=some (.int .i64 (R3.dg pB.y.val i:Nat))
 dd:∀i,i<16→w.cell? ⟨4,i,none⟩=some (.int .i64 (R3.dg dF.val i:Nat))
 ord:∀i,i<32→w.cell? ⟨5,i,none⟩=some (.int .i64 ((ab Qo i).toNat:Nat))
 k512:∀i,i<80→w.cell? ⟨6,i,none⟩=some (.int .u64 (Q (Shb.K512 i)))
theorem Glob.below{w w':World}(h:Glob w)(hb:Below w.heap.size w w'):Glob w':=by
 have c:∀(b i:Nat) (v:Value),b≤6→w.cell? ⟨b,i,none⟩=some v→w'.cell? ⟨b,i,none⟩=some v:=fun b i v hb' hc=>(hb.cell (p:=⟨b,i,none⟩) (Nat.lt_of_le_of_lt hb' h.lt)).trans hc;exact⟨Nat.lt_of_lt_of_le h.lt hb.size,fun i hi=>c _ _ _ (by omega) (h.k256 i hi),fun i hi=>c _ _ _ (by omega) (h.bx i hi),fun i hi=>c _ _ _ (by omega) (h.by_ i hi),fun i hi=>c _ _ _ (by omega) (h.dd i hi),
  fun i hi=>c _ _ _ (by omega) (h.ord i hi),fun i hi=>c _ _ _ (by omega) (h.k512 i hi)⟩
class GlobI(w:World):Prop where
 lt:7<w.heap.size
 im:∀i,i<16→w.cell? ⟨7,i,none⟩=some (.int .i64 (R3.dg iF.val i:Nat))
theorem GlobI.below{w w':World}(h:GlobI w)(hb:Below w.heap.size w w'):GlobI w' :=
 ⟨Nat.lt_of_lt_of_le h.lt hb.size,fun i hi=>(hb.cell (p:=⟨7,i,none⟩) h.lt).trans (h.im i hi)⟩
theorem Loc.glob{w0 w:World}{M:Mem}(h:Loc w0 w M)(hg:Glob w0):Glob w:=hg.below h.bel
class FnG(f:FuncId)(args:Array Value)(v:outParam Value):Prop where
 calls:∀w,Glob w→Calls prog f args w fun e w'=>e= .returned v∧Below w.heap.size w w'
class WasR(w0:World)(b:Nat)(r:outParam (Array Value)):Prop where
 cell:∀(j:Nat) (v:Value),r.toList[j]?=some v→w0.cell? ⟨b,0+j,none⟩=some v
 lt:b<w0.heap.size
theorem ll{w0:World}{b n:Nat}{S:Nat→Value}(hc:∀i,i<n→w0.cell? ⟨b,i,none⟩=some (S i))(hl:b<w0.heap.size):WasR w0 b (row n S):=⟨fun j v hv=>by
 have hj:j<n:=by
  rcases Nat.lt_or_ge j n with h|h
  ·exact h
  ·rw[List.getElem?_eq_none (by simp[aQ];exact h)]at hv;cases hv
 rw[Array.getElem?_toList,bI S hj]at hv;cases hv
 rw[Nat.zero_add];exact hc j hj,hl⟩
section
variable {ops:Array Oper} {rest:List Oper} {l:List (Oper×Bool)} {R:Act→Prop} {o:Oper} {a:Act} {w0 w:World} {M M':Mem} {Q:Exit→Act→World→Prop}
theorem lR(hL:Loc w0 w M)(hg:o.guard=none){t:TypeId}{x:Operand}(ho:o.op= .load t x){b:Nat}(hx:a.eval x= .pointer (some ⟨b,0,none⟩)){s:Array Value}{n:Nat}[ht:RowTy t n][hm:WasR w0 b s][hr:Row1 s n](h:∀w',Loc w0 w' M→wpList prog ops Q rest (a.put o.dst (.agg s)) w'):wpList prog ops Q (o::rest) a w:=by
 obtain⟨d,h1,h2⟩:=ht.und;have:=wpList_load_mid (ops:=ops) (rest:=rest) (Q:=Q) hg t x ho b 0 hx s.toList d (fun j v hv=>(hL.bel.cell (p:=⟨b,0+j,none⟩) hm.lt).trans (hm.cell j v hv)) h1 h2 (by rw[ht.size,Array.length_toList,hr.size]);simp only[Array.toArray_toList]at this;exact this (h w hL)
theorem sR(hg:o.guard=none){t:TypeId}{x:Operand}(ho:o.op= .load t x){b:Nat}(hx:a.eval x= .pointer (some ⟨b,0,none⟩)){s:Array Value}{n:Nat}[ht:RowTy t n][hm:WasR w0 b s][hr:Row1 s n](h:bu prog ops (fun w=>Loc w0 w M) l (a.put o.dst (.agg s)) R):bu prog ops (fun w=>Loc w0 w M) ((o,false)::l) a R:=by
 obtain⟨d,h1,h2⟩:=ht.und;have hy:=yieldsIf_load_mid (P:=prog) (ops:=ops) (S:=fun w=>Loc w0 w M) (op:=o) (a:=a) (by simp[Region.wanted,hg]) t x ho b 0 hx s.toList d (fun w h=>fun j v hv=>(h.bel.cell (p:=⟨b,0+j,none⟩) hm.lt).trans (hm.cell j v hv)) h1 h2 (by rw[ht.size,Array.length_toList,hr.size]);simp only[Array.toArray_toList]at hy;rcases hy with⟨hw,hv⟩|⟨_,h0⟩
 ·exact⟨_,⟨hw,fun w hS=> .inl (hv w hS)⟩,h⟩
 ·cases h0
theorem lG(hL:Loc w0 w M)(hg:o.guard=none){f:FuncId}{xs:Array Operand}{ts:Array TypeId}(ho:o.op= .call { callee:= .value (.func f),args:=xs,argTypes:=ts }){args:Array Value}(hx:xs.map a.eval=args)[he:Ent f][hG:Glob w0]{v:Value}[hf:FnG f args v](h:∀w',Loc w0 w' M→wpList prog ops Q rest (a.put o.dst v) w'):wpList prog ops Q (o::rest) a w :=
 wpList_plain hg fun K hK=>by
  unfold Oper.wp;rw[ky ho rfl w,hx,Oper.upon_enter];refine(hf.calls w (hL.glob hG)).mono fun e w'' hh=>?_;obtain⟨rfl,hb⟩:=hh;exact hK _ _ (h w'' (hL.keep hb))
theorem lG0(hL:Loc w0 w M)(hg:o.guard=none){f:FuncId}{ts:Array TypeId}(ho:o.op= .call { callee:= .value (.func f),args:= #[],argTypes:=ts })[he:Ent f][hG:Glob w0]{v:Value}[hf:FnG f #[] v](h:∀w',Loc w0 w' M→wpList prog ops Q rest (a.put o.dst v) w'):wpList prog ops Q (o::rest) a w:=lG (args:= #[]) hL hg ho (by simp) h
theorem lG1(hL:Loc w0 w M)(hg:o.guard=none){f:FuncId}{x:Operand}{ts:Array TypeId}(ho:o.op= .call { callee:= .value (.func f),args:= #[x],argTypes:=ts }){r:Array Value}(hx:a.eval x= .agg r)[he:Ent f][hG:Glob w0]{v:Value}[hf:FnG f #[.agg r] v](h:∀w',Loc w0 w' M→wpList prog ops Q rest (a.put o.dst v) w'):wpList prog ops Q (o::rest) a w:=lG (args:= #[.agg r]) hL hg ho (by simp[hx]) h
theorem lG2(hL:Loc w0 w M)(hg:o.guard=none){f:FuncId}{x y:Operand}{ts:Array TypeId}(ho:o.op= .call { callee:= .value (.func f),args:= #[x,y],argTypes:=ts }){r s:Array Value}(hx:a.eval x= .agg r)(hy:a.eval y= .agg s)[he:Ent f][hG:Glob w0]{v:Value}[hf:FnG f #[.agg r,.agg s] v](h:∀w',Loc w0 w' M→wpList prog ops Q rest (a.put o.dst v) w'):wpList prog ops Q (o::rest) a w:=lG (args:= #[.agg r,.agg s]) hL hg ho (by simp[hx,hy]) h
theorem sG(hg:o.guard=none){f:FuncId}{xs:Array Operand}{ts:Array TypeId}(ho:o.op= .call { callee:= .value (.func f),args:=xs,argTypes:=ts }){args:Array Value}(hx:xs.map a.eval=args)[he:Ent f][hG:Glob w0]{v:Value}[hf:FnG f args v](h:bu prog ops (fun w=>Loc w0 w M) l (a.put o.dst v) R):bu prog ops (fun w=>Loc w0 w M) ((o,false)::l) a R :=
 mv hg (fun w=>by rw[ky ho rfl w,hx]) (fun w hS=>hf.calls w (hS.glob hG)) h
theorem sG0(hg:o.guard=none){f:FuncId}{ts:Array TypeId}(ho:o.op= .call { callee:= .value (.func f),args:= #[],argTypes:=ts })[he:Ent f][hG:Glob w0]{v:Value}[hf:FnG f #[] v](h:bu prog ops (fun w=>Loc w0 w M) l (a.put o.dst v) R):bu prog ops (fun w=>Loc w0 w M) ((o,false)::l) a R:=sG (args:= #[]) hg ho (by simp) h
theorem sG1(hg:o.guard=none){f:FuncId}{x:Operand}{ts:Array TypeId}(ho:o.op= .call { callee:= .value (.func f),args:= #[x],argTypes:=ts }){r:Array Value}(hx:a.eval x= .agg r)[he:Ent f][hG:Glob w0]{v:Value}[hf:FnG f #[.agg r] v](h:bu prog ops (fun w=>Loc w0 w M) l (a.put o.dst v) R):bu prog ops (fun w=>Loc w0 w M) ((o,false)::l) a R:=sG (args:= #[.agg r]) hg ho (by simp[hx]) h
theorem sG2(hg:o.guard=none){f:FuncId}{x y:Operand}{ts:Array TypeId}(ho:o.op= .call { callee:= .value (.func f),args:= #[x,y],argTypes:=ts }){r s:Array Value}(hx:a.eval x= .agg r)(hy:a.eval y= .agg s)[he:Ent f][hG:Glob w0]{v:Value}[hf:FnG f #[.agg r,.agg s] v](h:bu prog ops (fun w=>Loc w0 w M) l (a.put o.dst v) R):bu prog ops (fun w=>Loc w0 w M) ((o,false)::l) a R:=sG (args:= #[.agg r,.agg s]) hg ho (by simp[hx,hy]) h
end
instance Lx(w:World)[h:Glob w]:WasR w 1 (R3.rowEl (R3.El.of pB.x.val)):=ll h.bx (by have:=h.lt;omega)
instance Ly(w:World)[h:Glob w]:WasR w 2 (R3.rowEl (R3.El.of pB.y.val)):=ll h.by_ (by have:=h.lt;omega)
instance Lz(w:World)[h:Glob w]:WasR w 4 (R3.rowEl R3.dE):=ll h.dd (by have:=h.lt;omega)
instance LA(w:World)[h:GlobI w]:WasR w 7 (R3.rowEl (R3.El.of iF.val)):=ll h.im (by have:=h.lt;omega)
end
end Go.Proofs.YtoifhhljfaoejaaGreatDoor
