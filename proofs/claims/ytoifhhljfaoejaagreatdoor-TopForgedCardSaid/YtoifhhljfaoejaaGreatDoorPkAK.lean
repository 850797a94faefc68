/-
  Lemmas of the law, part 11: the walks of the functions that it calls and the plain facts about them. No condition beyond those written.
-/
import Derived.Test.YtoifhhljfaoejaaGreatDoorPkAA
import Derived.Test.YtoifhhljfaoejaaGreatDoorPkAJ
import Derived.Test.YtoifhhljfaoejaaGreatDoorPkAH
import Derived.Test.YtoifhhljfaoejaaGreatDoorPkAD
import Derived.StillTailTactics
import Derived.Deep.RegionHeld3
import Derived.Deep.AppendLies
import Derived.WalkArith
import Derived.Outline
import Derived.Deep.OwnRows
import Derived.Laws.OwnMore
import Derived.ProofKit
import Derived.OpenShut
import Derived.Deep.Slices
import Derived.WalkLawsBesides
import Derived.Lib.SlBytesConst
import Derived.Test.YtoifhhljfaoejaaGreatDoorPkAE
import Derived.Test.YtoifhhljfaoejaaGreatDoorPkAG
set_option maxRecDepth 100000
set_option maxHeartbeats 8000000
set_option linter.unusedVariables false
set_option linter.unusedSimpArgs false
set_option linter.unusedSectionVars false
namespace Go.Proofs.YtoifhhljfaoejaaGreatDoor
open Go.Proofs.Tryz
section
open Go.RowKit
theorem kJ{h:Nat→BitVec 32}{b:Nat→BitVec 8}{n i:Nat}{L:BitVec 64}(x:BitVec 8)(hi:i<64):row 138 (upd (stF h b n L) (72+i) (.int .u8 (B8 x)))=bR h (upd b i x) n L:=ak fun j _=>by
 unfold upd stF;by_cases e:j=72+i
 ·subst e
  rw[if_pos rfl,if_neg (by omega),if_neg (by omega),if_pos (by omega)];simp
 ·rw[if_neg e]
  by_cases h8:j<8
  ·rw[if_pos h8,if_pos h8]
  ·rw[if_neg h8,if_neg h8]
   by_cases h72:j<72
   ·rw[if_pos h72,if_pos h72]
   ·rw[if_neg h72,if_neg h72]
    by_cases h136:j<136
    ·rw[if_pos h136,if_pos h136]
     show _=Value.int .u8 (B8 (if j-72=i then x else b (j-72)));rw[if_neg (by omega)]
    ·rw[if_neg h136,if_neg h136]
theorem fU{h:Nat→BitVec 32}{b:Nat→BitVec 8}{n:Nat}{L:BitVec 64}(m:Nat):row 138 (upd (stF h b n L) 136 (.int .i64 m))=bR h b m L:=ak fun j _=>by
 unfold upd stF;by_cases e:j=136
 ·subst e;simp
 ·rw[if_neg e];simp only[if_neg e]
theorem kK{h:Nat→BitVec 32}{b:Nat→BitVec 8}{n:Nat}{L:BitVec 64}(M:BitVec 64):row 138 (upd (stF h b n L) 137 (.int .u64 (Q M)))=bR h b n M:=ak fun j _=>by
 unfold upd stF;by_cases e:j=137
 ·subst e;simp
 ·rw[if_neg e]
  by_cases h8:j<8
  ·rw[if_pos h8,if_pos h8]
  ·rw[if_neg h8,if_neg h8]
   by_cases h72:j<72
   ·rw[if_pos h72,if_pos h72]
   ·rw[if_neg h72,if_neg h72]
    by_cases h136:j<136
    ·rw[if_pos h136,if_pos h136]
    ·rw[if_neg h136,if_neg h136,if_pos (by omega),if_pos (by omega)]
theorem su{h:Nat→BitVec 32}{b:Nat→BitVec 8}{n:Nat}{L:BitVec 64}:stF h b n L 136= .int .i64 n:=by simp[stF]
theorem G7{h:Nat→BitVec 32}{b:Nat→BitVec 8}{n i:Nat}{L:BitVec 64}(hi:i<64):stF h b n L (72+i)= .int .u8 (B8 (b i)):=by
 unfold stF;rw[if_neg (by omega),if_neg (by omega),if_pos (by omega)];simp
theorem G8{h:Nat→BitVec 32}{b:Nat→BitVec 8}{n i:Nat}{L:BitVec 64}(hi:i<8):stF h b n L i= .int .u32 (U (h i)):=by
 unfold stF;rw[if_pos hi]
theorem Cu{h:Nat→BitVec 32}{b:Nat→BitVec 8}{n:Nat}{L:BitVec 64}:stF h b n L 137= .int .u64 (Q L):=by simp[stF]
theorem oy(sb:Nat)(s:St)(x:BitVec 8)(L:BitVec 64)(w:World)(hn:s.n<64)(hg:w.heap[sb]?=some (.cells (bR s.h s.b s.n L) 325 (0,0))) :
 Calls prog 261 #[.pointer (some ⟨sb,0,none⟩),.int .u8 (B8 x)] w fun e w'=>e= .returned (.tuple #[])∧w'.heap[sb]?=some (.cells (bR (aY s x).h (aY s x).b (aY s x).n L) 325 (0,0))∧w.grownBy w' (some sb):=by
 obtain⟨h,b,n⟩:=s;simp only at hn hg;have hc:w.cell? ⟨sb,136,none⟩=some (.int .i64 n):=by rw[aP hg (by omega),su]
 have hb:w.cell? ⟨sb,72+n,none⟩=some (.int .u8 (B8 (b n))):=by rw[aP hg (by omega),G7 hn]
 have hf:w.frozen? ⟨sb,72+n,none⟩=false:=frozen_of_row w _ _ _ _ hg;have h0:(0:Int)≤(n:Int):=by omega
 have h1:(n:Int)<64:=by omega
 have hf2:w.frozen? ⟨sb,136,none⟩=false:=frozen_of_row w _ _ _ _ hg;have hw1:∀(m:Nat) (z:Int),z=m→((w.setCell ⟨sb,72+n,none⟩ (.int .u8 (B8 x))).setCell ⟨sb,136,none⟩ (.int .i64 z)).heap[sb]?=some (.cells (bR h (upd b n x) m L) 325 (0,0)):=by
  intro m z hz;subst hz;have e1:(w.setCell ⟨sb,72+n,none⟩ (.int .u8 (B8 x))).heap[sb]?=some (.cells (bR h (upd b n x) n L) 325 (0,0)):=by
   rw[bB _ hg (by omega),kJ x hn]
  rw[bB _ e1 (by omega),fU]
 have HW:=Hd hw1;clear hg hw1;by_cases h63:n<63
 ·have ht:aY ⟨h,b,n⟩ x=⟨h,upd b n x,n+1⟩:=by unfold aY;rw[if_pos h63]
  rw[ht];clear ht;have he:((n:Int)+1==64)=false:=by simp;omega
  go_enter func261,ntmps261;go_wp2_with fail;go_still_tail 9,(by kernel_rfl);change wpList _ _ _ _ _ w.drew;go_wp2_with fail;go_end0;have hH:=HW.out (n+1) ((n:Int)+1) (by omega);refine⟨rfl,hH,?_⟩;refine dz ?_;refine bn ?_ (.inr rfl) _;exact bn (cq _ _) (.inr rfl) _
 ·obtain rfl:n=63:=by omega
  have ht:aY ⟨h,b,63⟩ x=⟨block cV h (upd b 63 x),upd b 63 x,0⟩:=by unfold aY;rw[if_neg (by simp)]
  rw[ht];clear ht;go_enter func261,ntmps261;go_wp2_with fail;go_still_tail 9,(by kernel_rfl);change wpList _ _ _ _ _ w.drew;go_wp2_with fail;have hH:(((w.setCell ⟨sb,135,none⟩ (.int .u8 (B8 x))).setCell ⟨sb,136,none⟩ (.int .i64 64)).drew).heap[sb]?=some (.cells (bR h (upd b 63 x) 64 L) 325 (0,0)):=HW.out 64 64 rfl;refine(ox sb h (upd b 63 x) 64 L _ hH).mono ?_;rintro e w1⟨rfl,hs,hg⟩;have hc1:w1.cell? ⟨sb,136,none⟩=some (.int .i64 64):=by rw[aP hs (by omega),su];rfl
  have hf1:w1.frozen? ⟨sb,136,none⟩=false:=frozen_of_row w1 _ _ _ _ hs;have HS:=Hd hs;clear hs;go_wp2;go_end0;refine⟨rfl,?_,?_⟩
  ·rw[bB _ HS.out (by omega)]
   exact congrArg (fun r=>some (Obj.cells r 325 (0,0))) (fU 0)
  ·refine bn (mZ ?_ hg) (.inr rfl) _
   refine dz ?_;refine bn ?_ (.inr rfl) _;exact bn (cq _ _) (.inr rfl) _
end
section
open Go.RowKit
def sF(s:St)(L:BitVec 64):Array Value:=bR s.h s.b s.n L
theorem sP:(prog.info? 24).map (fun i=>(i.zero,i.size))=some (some (.agg (row 32 fun _=> .int .u8 0)),32):=by kernel_rfl
theorem xA:(prog.info? 24).map (·.size)=some 32:=by kernel_rfl
theorem cU(sb:Nat)(s:St)(x:BitVec 8)(L:BitVec 64)(w:World)(hn:s.n<64)(hg:w.heap[sb]?=some (.cells (sF s L) 325 (0,0))) :
 Calls prog 261 #[.pointer (some ⟨sb,0,none⟩),.int .u8 (B8 x)] w fun e w'=>e= .returned (.tuple #[])∧w'.heap[sb]?=some (.cells (sF (aY s x) L) 325 (0,0))∧w.grownBy w' (some sb) :=
 oy sb s x L w hn hg
structure SumAt(w:World)(sb:Nat)(s:St)(L:BitVec 64)(wr:World):Prop where
 lo:w.heap.size<sb
 st:wr.heap[sb]?=some (.cells (sF s L) 325 (0,0))
 res:wr.heap[w.heap.size]?=some (.cells (aa 32 fun _=>0) 24 (0,0))
 bel:Below w.heap.size w wr
theorem SumAt.grow{w wr w':World}{sb:Nat}{s s':St}{L L':BitVec 64}(h:SumAt w sb s L wr)(hs:w'.heap[sb]?=some (.cells (sF s' L') 325 (0,0)))(hg:wr.grownBy w' (some sb)):SumAt w sb s' L' w':=by
 have hsz:w.heap.size<wr.heap.size:=(Array.getElem?_eq_some_iff.1 h.res).1;refine⟨h.lo,hs,?_,h.bel.grown hg (by omega) (fun k hk=>?_)⟩
 ·rw[hg.block _ hsz (fun e=>by have:=h.lo;cases e;omega)]
  exact h.res
 ·cases hk;exact Nat.le_of_lt h.lo
theorem SumAt.setCell{w wr:World}{sb:Nat}{s:St}{L:BitVec 64}(h:SumAt w sb s L wr){x:Addr}(hx:w.heap.size<x.block)(hs:x.block≠sb)(v:Value):SumAt w sb s L (wr.setCell x v) :=
 ⟨h.lo,(heap_setCell_other wr x sb v (Ne.symm hs)).trans h.st,(heap_setCell_other wr x _ v (by omega)).trans h.res,h.bel.setCell (by omega) v⟩
theorem flat_take_le{α:Type}:∀(l:List (List α)) (k:Nat) (h:k<l.length),(l.take k).flatten.length+l[k].length≤l.flatten.length
 | [],k,h=>absurd h (by simp)
 | x::l,0,_=>by simp
 | x::l,k+1,h=>by
  have:=flat_take_le l k (by simpa using h);simp only[List.take_succ_cons,List.flatten_cons,List.length_append,List.getElem_cons_succ];omega
def eg(h:Nat→BitVec 32)(k:Nat):Nat→BitVec 8:=fun i=>if i<k then bX h i else 0
theorem gX(h:Nat→BitVec 32)(k:Nat):upd (eg h k) k (bX h k)=eg h (k+1):=by
 funext i;unfold upd eg;by_cases e:i=k
 ·subst e;simp
 ·rw[if_neg e]
  by_cases hi:i<k
  ·rw[if_pos hi,if_pos (by omega)]
  ·rw[if_neg hi,if_neg (by omega)]
theorem eO{n:Nat}{f g:Nat→BitVec 8}(h:∀i,i<n→f i=g i):aa n f=aa n g:=ak fun i hi=>by rw[h i hi]
theorem lk(h:Nat→BitVec 32)(k r:Nat)(hr:k%4=r):U (h (k/4))/((2^(24-8*r):Nat):Int)%(256:Int)=B8 (bX h k):=by
 unfold U B8 bX;rw[BitVec.toNat_setWidth,BitVec.toNat_ushiftRight,Nat.shiftRight_eq_div_pow,hr,Int.natCast_emod,Int.natCast_ediv];rfl
theorem sum_any(v:Value)(l:List (List (BitVec 8)))(w:World)(hv:BRows w v l)(hl:l.length≤1000000)(hm:l.flatten.length≤1000000000) :
 Rt 224 #[v] w (.agg (aa 32 (sha l.flatten))):=by
 obtain⟨a,c,rfl,_,hv⟩:=hv;have HV:=Hd hv;clear hv;go_enter func224,ntmps224;go_wp2_with (first|(with_reducible refine aw rfl 24 rfl 32 _ sP ?_)|(go_at_call 260;refine(mI _).mono ?_;rintro e w1⟨sb,rfl,hsb,hs,hb1⟩));have hat:SumAt w sb st0 0 w1:=by
  have e1:(w.alloc (.cells (row 32 fun _=> .int .u8 0) 24)).heap.size=w.heap.size+1:=by simp
  refine⟨by rw[e1]at hsb;omega,hs,?_,?_⟩
  ·rw[hb1.block _ (by rw[e1];omega)];exact heap_alloc_new _ _
  ·exact((Below.refl _ _).alloc (Nat.le_refl _) _).trans (hb1.mono (by rw[e1];omega))
 clear hs hb1 hsb;go_loopw [14] (fun i wr=>∃k:Nat,k≤l.length∧i= .int .i64 k∧SumAt w sb (ax st0 (l.take k).flatten) (BitVec.ofNat 64 (l.take k).flatten.length) wr) (fun i _=>l.length-(intOf i).toNat);case atStart=>exact⟨0,Nat.zero_le _,rfl,hat⟩
 case round =>
  clear hat
  obtain⟨k,hk,rfl,hat⟩:=hrel;by_cases hlt:k<l.length
  ·obtain⟨b,off,ha,hbl,hcells⟩:=HV.out (by omega)
   obtain⟨vi,hvi,a2,c2,rfl,_,hin⟩:=hcells k hlt;have hk0:(0:Int)≤(k:Int):=by omega
   have hk1:(k:Int)<(l.length:Int):=by omega
   have hci:=(hat.bel.cell (p:=⟨b,off+k,none⟩) hbl).trans hvi;rw[ha];clear hvi hcells;have HI:=Hd hin;have HT:=Hd (show l.take (k+1)=l.take k++[l[k]]from List.take_succ_eq_append_getElem hlt);have hln:=flat_take_le l k hlt;clear hin;generalize l[k]=m at *
   obtain⟨p,hp⟩:∃p,p=(l.take k).flatten:=⟨_,rfl⟩;rw[← hp]at hat hln;have HP:=Hd hp.symm;clear hp;go_wp2_with fail;obtain⟨w0,rfl⟩:∃w0:World,w0=wr:=⟨_,rfl⟩;go_loopw [20] (fun i w2=>∃j:Nat,j≤m.length∧i= .int .i64 j∧SumAt w sb (ax (ax st0 p) (m.take j)) (BitVec.ofNat 64 p.length) w2∧Below w.heap.size w0 w2) (fun i _=>m.length-(intOf i).toNat);case atStart=>exact⟨0,Nat.zero_le _,rfl,hat,Below.refl _ _⟩
   case round =>
    clear hat
    obtain⟨j,hj,rfl,hat,hb0⟩:=hrel;by_cases hjl:j<m.length
    ·obtain⟨b2,o2,ha2,hbl2,hc2⟩:=HI.out (by omega)
     have hcj:=(hat.bel.cell (p:=⟨b2,o2+j,none⟩) hbl2).trans (hc2 j hjl);have HTJ:=Hd (show ax (ax st0 p) (m.take (j+1))=aY (ax (ax st0 p) (m.take j)) m[j] by
      rw[List.take_succ_eq_append_getElem hjl,cR])
     have hlt64:=cE (cE (s:=st0) (by decide) p) (m.take j);have hj0:(0:Int)≤(j:Int):=by omega
     have hj1:(j:Int)<(m.length:Int):=by omega
     rw[ha2];clear hc2;generalize ax (ax st0 p) (m.take j)=S at *
     generalize m[j]=x at *
     go_wp2_with fail;refine(cU sb S x _ _ hlt64 hat.st).mono ?_;rintro e w3⟨rfl,hs3,hg3⟩;have hat3:=hat.grow hs3 hg3;have hb3:Below w.heap.size w0 w3:=hb0.grown hg3 (by have:=hat.bel.size;omega) (fun k hk=>by cases hk;exact Nat.le_of_lt hat.lo);clear hs3 hg3 hat hb0;go_wp2;go_roundw;case rel=>exact⟨j+1,by omega,by go_num,by rw[HTJ.out];exact hat3,hb3⟩
     case measure=>simp[intOf];omega
    ·have hje:m.take j=m:=List.take_of_length_le (by omega)
     rw[hje]at hat
     have HTK:=Hd (show ax st0 (l.take (k+1)).flatten=ax (ax st0 p) m∧BitVec.ofNat 64 (l.take (k+1)).flatten.length=BitVec.ofNat 64 p.length+BitVec.ofNat 64 m.length from by
      rw[HT.out,List.flatten_append,List.flatten_cons,List.flatten_nil,List.append_nil,HP.out,bJ,List.length_append,BitVec.ofNat_add];exact⟨rfl,rfl⟩)
     have hst:=hat.st;have cL:wr.cell? ⟨sb,137,none⟩=some (.int .u64 (Q (BitVec.ofNat 64 p.length))):=by rw[aP hst (by omega),Cu]
     have fL:wr.frozen? ⟨sb,137,none⟩=false:=frozen_of_row wr _ _ _ _ hst;have hq:=wA (BitVec.ofNat 64 p.length) m.length (by omega);have hq':=yp (BitVec.ofNat 64 p.length) m.length (by omega);have HH:=Hd ((bB (.int .u64 (Q (BitVec.ofNat 64 p.length+BitVec.ofNat 64 m.length))) hst (by omega)).trans (congrArg (fun r=>some (Obj.cells r 325 (0,0))) (kK _)));have HAT:=Hd hat
     clear hat hst hje;generalize BitVec.ofNat 64 p.length=L1 at *
     generalize BitVec.ofNat 64 m.length=L2 at *
     generalize ax (ax st0 p) m=S at *
     go_wp2;go_roundw;case rel =>
      refine⟨k+1,by omega,by go_num,?_⟩;rw[HTK.out.1,HTK.out.2];exact HAT.out.grow HH.out (bn (cq _ _) (.inr rfl) _)
     case measure=>simp[intOf];omega
  ·have hke:l.take k=l:=List.take_of_length_le (by omega)
   rw[hke]at hat
   clear hke;have hlt64:=cE (s:=st0) (by decide) l.flatten;go_wp2_with fail;refine(cU sb _ 128 _ _ hlt64 hat.st).mono ?_;rintro e w2⟨rfl,hs2,hg2⟩;have hat2:=hat.grow hs2 hg2;clear hs2 hg2 hat hlt64;obtain⟨len,hlen⟩:∃len,len=l.flatten.length:=⟨_,rfl⟩;have hS0:(aY (ax st0 l.flatten) 128).n=(len+1)%64:=by
    rw[iw (cE (by decide) _),lb (by decide),hlen];show((0+l.flatten.length)%64+1)%64=_;omega
   rw[← hlen]at hat2;have hlm:len≤1000000000:=by omega
   have HLEN:=Hd hlen;clear hlen;go_wp2;go_loopw [41] (fun _ wr=>∃z:Nat,z≤cI len∧SumAt w sb (ax (aY (ax st0 l.flatten) 128) (List.replicate z 0)) (BitVec.ofNat 64 len) wr) (fun _ wr=>(120-(intOf ((wr.cell? ⟨sb,136,none⟩).getD undef)).toNat)%64);case atStart=>exact⟨0,Nat.zero_le _,hat2⟩
   case round =>
    clear hat2;obtain⟨z,hz,hat⟩:=hrel;have hSn:(ax (aY (ax st0 l.flatten) 128) (List.replicate z 0)).n=(len+1+z)%64:=by
     rw[lb (el _ _),hS0,List.length_replicate];omega
    have hZ:cI len=(119-len%64)%64:=rfl;have hlt64:(ax (aY (ax st0 l.flatten) 128) (List.replicate z 0)).n<64:=cE (el _ _) _;have hcn:wr.cell? ⟨sb,136,none⟩=some (.int .i64 (ax (aY (ax st0 l.flatten) 128) (List.replicate z 0)).n):=by rw[aP hat.st (by omega),su]
    by_cases hzl:z<cI len
    ·have HTZ:=Hd (show ax (aY (ax st0 l.flatten) 128) (List.replicate (z+1) 0)=aY (ax (aY (ax st0 l.flatten) 128) (List.replicate z 0)) 0 by
      rw[List.replicate_succ',cR])
     have h56:(ax (aY (ax st0 l.flatten) 128) (List.replicate z 0)).n≠56:=by rw[hSn];omega
     clear hSn hZ;generalize ax (aY (ax st0 l.flatten) 128) (List.replicate z 0)=S at *
     have he:((S.n:Int) !=56)=true:=by rw[bne_iff_ne];omega
     have he':((S.n:Int)==56)=false:=by rw[beq_eq_false_iff_ne];omega
     go_wp2_with fail;refine(cU sb S 0 _ _ hlt64 hat.st).mono ?_;rintro e w3⟨rfl,hs3,hg3⟩;have hat3:=hat.grow hs3 hg3;have hc3:w3.cell? ⟨sb,136,none⟩=some (.int .i64 ((S.n+1)%64:Nat)):=by rw[aP hs3 (by omega),su,iw hlt64]
     clear hs3 hg3 hat
     go_wp2;go_roundw;case rel=>exact⟨z+1,by omega,by rw[HTZ.out];exact hat3⟩
     case measure =>
      simp only[hc3,hcn,Option.getD_some,intOf,Int.toNat_natCast];omega
    ·have hze:z=cI len:=by omega
     have h56:(ax (aY (ax st0 l.flatten) 128) (List.replicate z 0)).n=56:=by rw[hSn];omega
     clear hSn hZ hzl;subst hze;obtain⟨S,hS⟩:∃S,S=ax (aY (ax st0 l.flatten) 128) (List.replicate (cI len) 0):=⟨_,rfl⟩;rw[← hS]at hat hlt64 hcn h56;have HS:=Hd hS;clear hS hz hS0;have he:((S.n:Int) !=56)=false:=by rw[h56];decide
     have he':((S.n:Int)==56)=true:=by rw[h56];decide
     clear h56;go_wp2;go_loopw [8] (fun i w5=>∃j:Nat,j≤8∧i= .int .i64 (7-(j:Int))∧SumAt w sb (ax S ((aD len).take j)) (BitVec.ofNat 64 len) w5) (fun i _=>(intOf i+1).toNat);case atStart=>exact⟨0,by omega,rfl,hat⟩
     case round =>
      clear hat hcn he he';obtain⟨j,hj,rfl,hat⟩:=hrel;by_cases hj8:j<8
      ·have cL:wr.cell? ⟨sb,137,none⟩=some (.int .u64 (len:Int)):=by rw[aP hat.st (by omega),Cu,rO len (by omega)]
       have hlb:(len:Int)≤1000000000:=by omega
       have hl0:(0:Int)≤(len:Int):=by omega
       have hlt64j:=cE hlt64 ((aD len).take j);have HTJ:=Hd (show ax S ((aD len).take (j+1))=aY (ax S ((aD len).take j)) (av len j) by
        rw[bO len hj8,cR])
       clear hlt64;generalize ax S ((aD len).take j)=S2 at *
       have E0:=Hd (show(len:Int)*8/72057594037927936=B8 (av len 0) by rw[bj len 0,show 2^(8*(7-0))=72057594037927936 from rfl];omega);have E1:=Hd (show(len:Int)*8/281474976710656=B8 (av len 1) by rw[bj len 1,show 2^(8*(7-1))=281474976710656 from rfl];omega);have E2:=Hd (show(len:Int)*8/1099511627776=B8 (av len 2) by rw[bj len 2,show 2^(8*(7-2))=1099511627776 from rfl];omega);have E3:=Hd (show(len:Int)*8/4294967296=B8 (av len 3) by rw[bj len 3,show 2^(8*(7-3))=4294967296 from rfl];omega);have E4:=Hd (show(len:Int)*8/16777216%256=B8 (av len 4) by rw[bj len 4,show 2^(8*(7-4))=16777216 from rfl];omega);have E5:=Hd (show(len:Int)*8/65536%256=B8 (av len 5) by rw[bj len 5,show 2^(8*(7-5))=65536 from rfl];omega);have E6:=Hd (show(len:Int)*8/256%256=B8 (av len 6) by rw[bj len 6,show 2^(8*(7-6))=256 from rfl];omega);have E7:=Hd (show(len:Int)*8%256=B8 (av len 7) by rw[bj len 7,show 2^(8*(7-7))=1 from rfl];omega);have hj8':j=0∨j=1∨j=2∨j=3∨j=4∨j=5∨j=6∨j=7:=by omega
       rcases hj8' with rfl|rfl|rfl|rfl|rfl|rfl|rfl|rfl
       all_goals
        first|rw[show(7:Int)-((0:Nat):Int)=7 from rfl]|rw[show(7:Int)-((1:Nat):Int)=6 from rfl]|rw[show(7:Int)-((2:Nat):Int)=5 from rfl]|rw[show(7:Int)-((3:Nat):Int)=4 from rfl]|rw[show(7:Int)-((4:Nat):Int)=3 from rfl]|rw[show(7:Int)-((5:Nat):Int)=2 from rfl]|rw[show(7:Int)-((6:Nat):Int)=1 from rfl]|rw[show(7:Int)-((7:Nat):Int)=0 from rfl]
        go_wp2_with fail
        first|rw[E0.out]|rw[E1.out]|rw[E2.out]|rw[E3.out]|rw[E4.out]|rw[E5.out]|rw[E6.out]|rw[E7.out]
        refine(cU sb S2 _ _ _ hlt64j hat.st).mono ?_;rintro e w6⟨rfl,hs6,hg6⟩;have hat6:=hat.grow hs6 hg6;rw[← HTJ.out]at hat6;clear hs6 hg6 hat cL E0 E1 E2 E3 E4 E5 E6 E7;go_wp2;go_roundw;case rel=>exact⟨_,by omega,rfl,hat6⟩
        case measure=>simp[intOf]
      ·have h8:(aD len).take j=aD len:=List.take_of_length_le (by simp[aD];omega)
       rw[h8]at hat
       clear h8;have hj7:(7:Int)-(j:Int)= -1:=by omega
       rw[hj7];clear hj7;go_wp2_with (with_reducible refine aw rfl 24 rfl 32 _ sP ?_);have hz:=hat.bel.size;have hrs:w.heap.size<wr.heap.size:=(Array.getElem?_eq_some_iff.1 hat.res).1;have hbs:sb<wr.heap.size:=(Array.getElem?_eq_some_iff.1 hat.st).1;have hat9:SumAt w sb (ax S (aD len)) (BitVec.ofNat 64 len) (wr.alloc (.cells (row 32 fun _=> .int .u8 0) 24)) :=
        hat.grow ((Below.heap_alloc _ _ _ hbs).trans hat.st) (dA (cq _ _) _)
       obtain⟨ob,hob⟩:∃ob,ob=wr.heap.size:=⟨_,rfl⟩;have hnew:(wr.alloc (.cells (row 32 fun _=> .int .u8 0) 24)).heap[ob]?=some (.cells (aa 32 (eg (ax S (aD len)).h 0)) 24 (0,0)):=by
        rw[hob];exact heap_alloc_new _ _
       have hfin:sha l.flatten=bX (ax S (aD len)).h:=by
        unfold sha pad;rw[bJ,bJ,bJ,HLEN.out,HS.out,HLEN.out];rfl
       have HFIN:=Hd hfin;have hob1:w.heap.size<ob:=by omega
       have hob2:sb<ob:=by omega
       rw[← hob];clear hat hfin hob hrs hbs hz;generalize ax S (aD len)=S3 at *
       go_loopw [63] (fun i w9=>∃q:Nat,q≤32∧i= .int .i64 q∧SumAt w sb S3 (BitVec.ofNat 64 len) w9∧w9.heap[ob]?=some (.cells (aa 32 (eg S3.h q)) 24 (0,0))) (fun i _=>32-(intOf i).toNat);case atStart=>exact⟨0,by omega,rfl,hat9,hnew⟩
       case round =>
        clear hat9 hnew;obtain⟨q,hq,rfl,hat,ho⟩:=hrel;by_cases hq32:q<32
        ·have hq0:(0:Int)≤(q:Int):=by omega
         have hq1:(q:Int)<32:=by omega
         have ch:wr.cell? ⟨sb,q/4,none⟩=some (.int .u32 (U (S3.h (q/4)))):=by rw[aP hat.st (by omega),G8 (by omega)]
         have co:wr.cell? ⟨ob,q,none⟩=some (.int .u8 (B8 (eg S3.h q q))):=a4 ho hq32;have fo:wr.frozen? ⟨ob,q,none⟩=false:=frozen_of_row wr _ _ _ _ ho;have HO:=Hd ho;have HOK:=Hd (gX S3.h q);have HVAL:=Hd (lk S3.h q);obtain⟨u0,u1⟩:=j8 (S3.h (q/4));clear ho;have hr4:q%4=0∨q%4=1∨q%4=2∨q%4=3:=by omega
         rcases hr4 with hr|hr|hr|hr
         all_goals
          have hv:=HVAL.out _ hr;simp only[Nat.reduceMul,Nat.reduceSub,Nat.reducePow]at hv
          first|have hri:(q:Int)%4=0:=by omega|have hri:(q:Int)%4=1:=by omega|have hri:(q:Int)%4=2:=by omega|have hri:(q:Int)%4=3:=by omega
          clear hr;go_wp2;go_roundw;case rel =>
           first|rw[show U (S3.h (q/4))/16777216=B8 (bX S3.h q) by omega]|rw[show U (S3.h (q/4))/65536%256=B8 (bX S3.h q) by omega]|rw[show U (S3.h (q/4))/256%256=B8 (bX S3.h q) by omega]|rw[show U (S3.h (q/4))%256=B8 (bX S3.h q) by omega]
           refine⟨q+1,by omega,by go_num,hat.setCell hob1 (Nat.ne_of_gt hob2) _,?_⟩;rw[bm _ HO.out hq32,HOK.out]
          case measure=>simp[intOf];omega
        ·have hro:aa 32 (eg S3.h q)=aa 32 (sha l.flatten):=eO fun i hi=>by
          unfold eg;rw[if_pos (by omega),HFIN.out]
         rw[hro]at ho;have HO:=Hd ho;have HA:=Hd hat
         have HSZ:=Hd (show(prog.info? 24).map (·.size)=some (aa 32 (sha l.flatten)).size by rw[xA,aj]);clear ho hro hat HFIN;go_wp2_with (first
          | ((with_reducible show wpList _ _ _ (⟨_,.load 24 _,_,_,_,_⟩::_) _ _);refine wpList_load_row rfl 24 _ rfl ob rfl 24 (aa 32 (sha l.flatten)) (0,0) _ HO.out underlying24 rfl HSZ.out ?_)
          | ((with_reducible show wpList _ _ _ (⟨_,.store 24 _ _,_,_,_,_⟩::_) _ _);refine wpList_store_rowTo rfl 24 _ _ rfl rfl w.heap.size (aa 32 (sha l.flatten)) rfl rfl 24 _ HA.out.res HSZ.out (by rw[aj,aj]) (bU _ _) ?_))
         refine bodyPost_ret (results_cell_row rfl _ _ w.heap.size 24 (aa 32 (sha l.flatten)) (0,0) _ rfl (aC HA.out.res) underlying24 rfl HSZ.out) rfl ?_;exact⟨rfl,aW HA.out.bel (Nat.le_refl _) _⟩
end
section
open Go.RowKit
theorem BRows.shape{w:World}{v:Value}{l:List (List (BitVec 8))}(h:BRows w v l):∃a c,v= .slice a l.length c:=by obtain⟨a,c,e,_⟩:=h;exact⟨a,c,e⟩
theorem BRow.shape{w:World}{v:Value}{l:List (BitVec 8)}(h:BRow w v l):∃a c,v= .slice a l.length c:=by obtain⟨a,c,e,_⟩:=h;exact⟨a,c,e⟩
end

section
open Go.RowKit
theorem Dh(n:Nat):madeCells #[Value.int .u8 0] n=aa n fun _=>0:=by
 apply Array.ext';rw[toList_madeCells_one];simp only[aa,row,List.toList_toArray];rw[List.map_const',List.length_range];rfl
theorem Di(n:Nat)(h:n≤1000000000)(w:World):(Instr.makeSlice 29 (.int .i64 (n:Int)) (.int .i64 (n:Int))).run prog w= .ok (.slice (some ⟨w.heap.size,0,none⟩) n n) (w.alloc (.cells (aa n fun _=>0) 5)):=by
 rw[← Dh];exact run_make_row' 29 5 _ 1 underlying29 sf rfl .i64 .i64 n (by omega) (by omega) w
end
section
open Go.ChangeShapes Go.WideShapes Go.ChangeAt Go.RowKit Go.Deep
def NRow(w:World)(v:Value)(l:List (Nat→BitVec 8)):Prop :=
 ∃a c,v= .slice a l.length c∧(a=none→c=0)∧(0<l.length→∃b off,a=some ⟨b,off,none⟩∧b<w.heap.size∧∀(i:Nat) (h:i<l.length) (j:Nat),j<32→w.cell? ⟨b,off+i*32+j,none⟩=some (.int .u8 (B8 (l[i] j))))
theorem NRow.below{w w':World}{v:Value}{l:List (Nat→BitVec 8)}(h:NRow w v l)(hb:Below w.heap.size w w'):NRow w' v l:=by
 obtain⟨a,c,rfl,hn,h⟩:=h;refine⟨a,c,rfl,hn,fun h0=>?_⟩;obtain⟨b,off,rfl,h1,h2⟩:=h h0;exact⟨b,off,rfl,Nat.lt_of_lt_of_le h1 hb.size,fun i hi j hj=>(hb.cell (p:=⟨b,off+i*32+j,none⟩) h1).trans (h2 i hi j hj)⟩
theorem AI{y:Int}(h:(Lit.int .i64 y).wf=true): -9223372036854775808≤y∧y≤9223372036854775807:=by
 unfold Lit.wf at h;rw[Bool.and_eq_true,decide_eq_true_eq,decide_eq_true_eq,show IntKind.i64.min= -9223372036854775808 by decide,show IntKind.i64.max=9223372036854775807 by decide]at h;exact h
theorem zl{w:World}{a:Addr}{v:Value}(h:w.cell? a=some v):a.block<w.heap.size:=by
 unfold World.cell? at h;split at h
 ·rename_i hb
  exact(Array.getElem?_eq_some_iff.1 hb).1
 ·cases h
theorem uJ{a:Addr}{i:Nat}(h:a.spot=none):a.add i=⟨a.block,a.off+i,none⟩:=by
 obtain⟨b,off,spot⟩:=a;simp only at h;subst h;unfold Addr.add;split
 ·rename_i hz;subst hz;rfl
 ·rfl
end
section
open Go.RowKit
def jy(A:Option Addr)(c i:Nat):Option Addr:=if c=i then A else A.map (·.add (i*1))
theorem qV(A:Option Addr)(c:Nat):jy A c 0=A:=by
 unfold jy;split
 ·rfl
 ·cases A with
  | none=>rfl
  | some a=>show some (a.add 0)=_;unfold Addr.add;simp
theorem sS:prog.underlying 29=some (.slice (prog.elem 29)):=by kernel_rfl
theorem Dj(w:World):(sizeOf (prog.elem 29)).run prog w= .ok 1 w:=by kernel_rfl
theorem uK{A:Option Addr}{n c i:Nat}(h1:i≤n)(w:World):(Instr.sliceAt 29 (.slice A n c) (some (.int .i64 i)) none none).run prog w= .ok (.slice (jy A c i) (n-i) (c-i)) w:=by
 rw[run_sliceAt_slice _ _ _ _ _ _ sS,run_slice_l _ _ _ _ _ sS _ _ (by omega) (by omega),Dj];rfl
theorem uM{A:Option Addr}{n c k:Nat}(h2:k≤c)(w:World):(Instr.sliceAt 29 (.slice A n c) none (some (.int .i64 k)) none).run prog w= .ok (.slice A k c) w:=by
 rw[run_sliceAt_slice _ _ _ _ _ _ sS,run_slice_h _ _ _ _ _ sS _ _ (by omega) (by omega),Dj];have:=qV A c;unfold jy at this;show Result.ok (Value.slice (if c=0 then A else A.map (·.add (0*1))) ((k:Int).toNat-0) (c-0)) w=_;rw[this];rfl
theorem BRow.cut{w:World}{A:Option Addr}{n c:Nat}{l:List (BitVec 8)}(h:BRow w (.slice A n c) l){i k:Nat}(h1:i≤k)(h2:k≤l.length)(hc:l.length≤c):BRow w (.slice (jy A c i) (k-i) (c-i)) ((l.drop i).take (k-i)):=by
 obtain⟨a,c',e,hn,hp⟩:=h;cases e
 have hl:((l.drop i).take (k-i)).length=k-i:=by rw[List.length_take,List.length_drop];omega
 refine⟨jy A c i,c-i,by rw[hl],fun hz=>?_,fun h0=>?_⟩
 ·cases A with
  | none=>rw[hn rfl];omega
  | some a=>unfold jy at hz;split at hz <;> cases hz
 ·rw[hl]at h0
  obtain⟨b,off,rfl,hb,hcell⟩:=hp (by omega);refine⟨b,off+i,?_,hb,fun j hj=>?_⟩
  ·unfold jy
   rw[if_neg (by omega),Nat.mul_one];show some ((⟨b,off,none⟩:Addr).add i)=_;rw[uJ rfl]
  ·rw[hl]at hj
   rw[Nat.add_assoc,hcell (i+j) (by omega)];simp
theorem BRow.cutHi{w:World}{A:Option Addr}{n c:Nat}{l:List (BitVec 8)}(h:BRow w (.slice A n c) l){k:Nat}(h2:k≤l.length)(hc:l.length≤c):BRow w (.slice A k c) (l.take k):=by
 have:=h.cut (Nat.zero_le k) h2 hc;simpa[qV] using this
theorem BRow.cutLo{w:World}{A:Option Addr}{n c:Nat}{l:List (BitVec 8)}(h:BRow w (.slice A n c) l){i:Nat}(h1:i≤l.length)(hc:l.length≤c):BRow w (.slice (jy A c i) (n-i) (c-i)) (l.drop i):=by
 have hn:n=l.length:=by obtain⟨a,c',e,_⟩:=h;cases e;rfl
 have:=h.cut h1 (Nat.le_refl _) hc;rw[hn];rwa[List.take_of_length_le (by simp)]at this
end
section
open Go.RowKit
theorem nK{w:World}{g c:Nat}{t:TypeId}{fr:Nat×Nat}(l:List (BitVec 8))(h:w.heap[g]?=some (.cells (l.map fun x=>Value.int .u8 (B8 x)).toArray t fr)):BRow w (.slice (some ⟨g,0,none⟩) l.length c) l :=
 ⟨_,c,rfl,(fun hc=>by cases hc),fun _=>⟨g,0,rfl,(Array.getElem?_eq_some_iff.1 h).1,fun i hi=>by
  rw[Nat.zero_add,cell_of_row w g _ _ _ _ h];simp[hi]⟩⟩
theorem ln{w:World}{g c:Nat}{t:TypeId}{fr:Nat×Nat}(vs:List Value)(ms:List (List (BitVec 8)))(h:w.heap[g]?=some (.cells vs.toArray t fr))(hl:vs.length=ms.length)(hb:∀(i:Nat) (h:i<ms.length),BRow w (vs[i]'(by omega)) ms[i]):BRows w (.slice (some ⟨g,0,none⟩) ms.length c) ms :=
 ⟨_,c,rfl,(fun hc=>by cases hc),fun _=>⟨g,0,rfl,(Array.getElem?_eq_some_iff.1 h).1,fun i hi=>by
  refine⟨vs[i]'(by omega),?_,hb i hi⟩;rw[Nat.zero_add,cell_of_row w g _ _ _ _ h];simp[show i<vs.length by omega]⟩⟩
theorem jU{w:World}{g c:Nat}{t:TypeId}{fr:Nat×Nat}{v:Value}{m:List (BitVec 8)}(h:w.heap[g]?=some (.cells #[v] t fr))(hb:BRow w v m):BRows w (.slice (some ⟨g,0,none⟩) 1 c) [m] :=
 ln [v] [m] h rfl fun i hi=>by
  obtain rfl:i=0:=by simpa using hi
  exact hb
theorem fH{w:World}{g c:Nat}{t:TypeId}{fr:Nat×Nat}{v0 v1:Value}{m0 m1:List (BitVec 8)}(h:w.heap[g]?=some (.cells #[v0,v1] t fr))(h0:BRow w v0 m0)(h1:BRow w v1 m1):BRows w (.slice (some ⟨g,0,none⟩) 2 c) [m0,m1] :=
 ln [v0,v1] [m0,m1] h rfl fun i hi=>by
  have:i=0∨i=1:=by simp at hi;omega
  rcases this with rfl|rfl
  ·exact h0
  ·exact h1
theorem dG{w:World}{g c:Nat}{t:TypeId}{fr:Nat×Nat}{v0 v1 v2:Value}{m0 m1 m2:List (BitVec 8)}(h:w.heap[g]?=some (.cells #[v0,v1,v2] t fr))(h0:BRow w v0 m0)(h1:BRow w v1 m1)(h2:BRow w v2 m2):BRows w (.slice (some ⟨g,0,none⟩) 3 c) [m0,m1,m2] :=
 ln [v0,v1,v2] [m0,m1,m2] h rfl fun i hi=>by
  have:i=0∨i=1∨i=2:=by simp at hi;omega
  rcases this with rfl|rfl|rfl
  ·exact h0
  ·exact h1
  ·exact h2
theorem iG{W w':World}(h:Below W.heap.size W w')(o:Obj):Below W.heap.size W (w'.alloc o):=h.alloc h.size o
end
section
open Go Go.RowKit
theorem qW(f:Nat→BitVec 8)(w:World)[hG:Glob w]:Calls prog 74 #[.agg (aa 32 f)] w fun e w' =>
 ∃(g cap:Nat) (cur:Array Value),e= .returned (.tuple #[.agg (aa 32 (ab (nu (ae 32 f)))),.slice (some ⟨g,0,none⟩) 32 cap])∧OwnR cur 32 cap (an (ju (ae 32 f)))∧w.heap.size≤g∧w'.heap[g]?=some (.cells cur 5 (0,0))∧Below w.heap.size w w':=by
 have hL:=Loc.nil w;obtain⟨L,hl⟩:∃L,L=ae 32 f:=⟨_,rfl⟩;have HS:=Hd (fun w1 (hg:Glob w1) (v:Value) (hv:BRow w1 v (ae 32 f))=>Shb.refShb_any v (ae 32 f) w1 hv (by rw[ag];omega) (by rw[ag];omega));obtain⟨H,hH⟩:∃H,H=Shb.sha (ae 32 f):=⟨_,rfl⟩;rw[← hH]at HS;have HT:=Hd (show an (ae 32 fun i=>H (32+i))=an (ju (ae 32 f))from by rw[hH];rfl);have HC:=Hd (show bD (leN H)=nu (ae 32 f)from by rw[hH];rfl);rw[← HT.out,← HC.out];clear hH HT HC hl L;haveI s1:Seg (aa 64 H) 0 32 (an (ae 32 fun i=>H (0+i))):=segB H 0 32 (by omega);haveI s2:Seg (aa 64 H) 32 32 (an (ae 32 fun i=>H (32+i))):=segB H 32 32 (by omega);haveI p1:Spl (aa 32 fun _=>0) 0 (an (ae 32 fun i=>H (0+i))) (aa 32 H):=mH (m:=32) _ _ _ (by omega) fun i hi=>by rw[if_pos ⟨by omega,by omega⟩];simp
 have hlen:(an (ae 32 fun i=>H (0+i))).length=32:=by rw[aq,ag]
 go_enter func74,ntmps74;go_wp2_with (first|(refine gBp 1 ?_;clear hL;intro b1 w1 hL)|(refine gBp 2 ?_;clear hL;intro b2 w1 hL)|(go_at_call 126;go_loud (refine(HS.out _ (hL.glob hG) _ (See.bytes hL)).mono ?_);rintro e w1⟨rfl,hb1⟩;have hL1:=hL.keep hb1;clear hb1;clear hL;have hL:=hL1;clear hL1;refine p4 ?_)|(refine gBp 4 ?_;clear hL;intro b4 w1 hL)|(refine gBp 5 ?_;clear hL;intro b5 w1 hL)|(refine aQp ?_;clear hL;intro _ w1 hL));refine mX (S:=fun w'=>Loc w w' _) 3 (Loc.rem b5 (hL.drew)) ?_;intro hHeld;replace hL:=hL.drew;refine uG 0 ?_;refine uG 1 ?_;refine rd1 2 ?_;intro K hK;refine eCp ?_;clear hL;intro w1 hL;refine kO hK (Loc.rem b5 (hL)) ?_;clear hK K hHeld;intro hHeld;refine wpAnyH_done (by kernel_rfl) (NoPanic.normal ?_) _;go_wp2_with (first|(refine aQp ?_;clear hL;intro _ w1 hL));refine mX (S:=fun w'=>Loc w w' _) 6 (Loc.rem b2 (hL.drew)) ?_;intro hHeld;replace hL:=hL.drew
 first|refine tk 0 rfl (yL rfl rfl rfl) hHeld ?_|refine tk 0 rfl (yI rfl rfl rfl) hHeld ?_|refine tk 0 rfl (yW rfl rfl rfl) hHeld ?_
 refine p7 ?_;refine uG 2 ?_;refine rd1 1 ?_;intro K hK;refine eCl ?_;clear hL;intro w1 hL;refine kO hK (Loc.rem b2 (hL)) ?_;clear hK K hHeld;intro hHeld;refine rd1 3 ?_;intro K hK;refine eAn ?_;clear hL;intro g14 cap14 cur14 w1 hr14 hL;refine kO hK (Loc.rem b2 (hL.pop)) ?_;clear hK K hHeld;intro hHeld;refine rd1 4 ?_;intro K hK;refine eS hL rfl rfl rfl ?_;clear hL;intro w1 hL;refine kO hK (Loc.rem b2 (hL.pop)) ?_;clear hK K hHeld;intro hHeld;refine rd1 5 ?_;intro K hK;refine eV hL rfl ?_;clear hL;intro w1 hL;refine kO hK (Loc.rem b2 (hL.pop)) ?_;clear hK K hHeld;intro hHeld;refine wpAnyH_done (by kernel_rfl) (NoPanic.normal ?_) _;go_wp2_with (first|(refine aQp ?_;clear hL;intro _ w1 hL));refine bodyPost_ret (ay rfl hL rfl rfl) rfl ?_;exact⟨g14,cap14,cur14,rfl,hr14,hL.ge (List.Mem.head _),hL.get (List.Mem.head _),hL.bel⟩
theorem oX{n:Nat}(h:n<2^256):bT (R3.Pe.B.many n).ex=enc (cQ n pB):=by
 rw[R3.Pe.many_ex,R3.Pe.B_ex];exact uw qp h
theorem kR(f:Nat→BitVec 8)(w:World)[hG:Glob w]:Rt 31 #[.agg (aa 32 f)] w (.agg (aa 32 (ab (gI (ae 32 f))))):=by
 have hL:=Loc.nil w;have HP:=Hd (fun w1 (hg:Glob w1)=>qW f w1);have HE:=Hd (show bT (R3.Pe.B.many (leN (ab (nu (ae 32 f))))).ex=gI (ae 32 f)from by
  have h:=jT (leN (Shb.sha (ae 32 f)));rw[bL (n:=nu (ae 32 f)) h];exact oX h)
 rw[← HE.out];clear HE;generalize ab (nu (ae 32 f))=sec,ju (ae 32 f)=tl at *
 go_enter func31,ntmps31;go_wp2_with (first|(refine gBp 1 ?_;clear hL;intro b1 w1 hL)|(refine gBp 2 ?_;clear hL;intro b2 w1 hL)|(refine gBp 3 ?_;clear hL;intro b3 w1 hL)|((go_at_call 74;go_loud (refine(HP.out _ (hL.glob hG)).mono ?_);rintro e w1⟨g7,cap7,cur7,rfl,hr7,hg7,hc7,hb7⟩;have hL1:=hL.fresh hb7 hg7 hc7;clear hb7 hg7 hc7;clear hL;have hL:=hL1;clear hL1))|(refine aQp ?_;clear hL;intro _ w1 hL));refine wf [(0,false),(1,false),(2,false),(3,false)] [] [4] hL ?_;refine fA ?_;refine fB ?_;clear hL;intro w1 hL;go_wp2_with fail;exact bodyPost_ret (ai rfl hL rfl) rfl ⟨rfl,hL.bel⟩
instance N7:Ent 31:=eo func31
theorem Loc.at_{w0 w:World}{M:Mem}(h:Loc w0 w M)(b:Nat){r:Array Value}{t:TypeId}[hm:At M b r t]:w.heap[b]?=some (.cells r t (0,0)):=h.get hm.mem
noncomputable def kS(seed m:List (BitVec 8)):Nat→BitVec 8:=fun i=>if i<32 then ab (atN seed m) i else ab (JC seed m) (i-32)
theorem Gu(a b:List (BitVec 8)):[a,b].flatten=a++b:=by simp
theorem Gv(a b c:List (BitVec 8)):[a,b,c].flatten=a++b++c:=by simp
theorem uN(f:Nat→BitVec 8)(v:Value)(m:List (BitVec 8))(w:World)[hG:Glob w](hv:BRow w v m)(hm:m.length≤1000000) :
 Rt 81 #[.agg (aa 32 f),v] w (.agg (aa 64 (kS (ae 32 f) m))):=by
 have hL:=Loc.nil w;haveI hA:Arg w v (an m):=⟨hv.vrow⟩;have HP:=Hd (fun w1 (hg:Glob w1)=>qW f w1);have HPUB:=Hd (fun w1 (hg:Glob w1)=>kR f w1);have hsec:=jT (leN (Shb.sha (ae 32 f)));have htl:(ju (ae 32 f)).length=32:=by simp[ju,Ft]
 obtain⟨R,hR⟩:∃R,R=CQ (ae 32 f) m:=⟨_,rfl⟩;obtain⟨T,hT⟩:∃T,T=atN (ae 32 f) m:=⟨_,rfl⟩;obtain⟨PK,hPK⟩:∃PK,PK=gI (ae 32 f):=⟨_,rfl⟩;obtain⟨KK,hKK⟩:∃KK,KK=jv PK T m:=⟨_,rfl⟩;obtain⟨SS,hSS⟩:∃SS,SS=JC (ae 32 f) m:=⟨_,rfl⟩;have HW1:=Hd (fun w1 (hg:Glob w1) (u:Value) (hu:BRows w1 u [ju (ae 32 f),m])=>(oW u [ju (ae 32 f),m] w1 hu ⟨_,_,rfl,by rw[htl];omega⟩ (by simp) (by rw[Gu,List.length_append,htl];omega)));rw[Gu,show li (ju (ae 32 f)++m)=R from hR.symm]at HW1;have HW2:=Hd (fun w1 (hg:Glob w1) (u:Value) (hu:BRows w1 u [ae 32 (ab T),ae 32 (ab PK),m])=>(oW u [ae 32 (ab T),ae 32 (ab PK),m] w1 hu ⟨_,_,rfl,by rw[ag];omega⟩ (by simp) (by rw[Gv,List.length_append,List.length_append,ag,ag];omega)));rw[Gv,show li (ae 32 (ab T)++ae 32 (ab PK)++m)=KK from hKK.symm]at HW2;have HAT:=Hd (show bT (R3.Pe.B.many (leN (ab R))).ex=T from by
  have h:=lj (ju (ae 32 f)++m);rw[hR,bL (n:=CQ (ae 32 f) m) h,oX (n:=CQ (ae 32 f) m) h,hT];rfl)
 have HSS:=Hd (show(leN (ab R)+leN (ab (leN (ab KK)*leN (ab (nu (ae 32 f)))%Qo)))%Qo=SS from by
  have h1:R<2^256:=by rw[hR];exact lj _
  have h2:KK<2^256:=by rw[hKK];exact lj _
  have h3:nu (ae 32 f)<2^256:=hsec;rw[bL h1,bL h2,bL h3,bL (Nat.lt_trans (Nat.mod_lt _ xr) xt),hSS,hKK,hPK,hT,hR];rfl)
 have HOUT:=Hd (show aa 64 (fun i=>if i<32 then ab T i else ab SS (i-32))=aa 64 (kS (ae 32 f) m)from by rw[hT,hSS];rfl);rw[← HOUT.out];rw[← hPK]at HPUB;clear hsec hR hT hPK hKK hSS HOUT;generalize ab (nu (ae 32 f))=sec at *
 haveI f1:FnG 31 #[.agg (aa 32 f)] (.agg (aa 32 (ab PK))):=⟨HPUB.out⟩;clear HPUB;generalize ju (ae 32 f)=tl at *
 haveI f2:FnC 75 #[.agg (R3.rowPe (R3.Pe.B.many (leN (ab R))))] (.agg (aa 32 (ab T))):=by
  rw[← HAT.out];infer_instance
 haveI f3:FnG 134 #[.agg (aa 32 (ab R)),.agg (aa 32 (ab (leN (ab KK)*leN sec%Qo)))] (.agg (aa 32 (ab SS))):=by
  rw[← HSS.out];infer_instance
 haveI p1:Spl (aa 64 fun _=>0) 0 (an (ae 32 (ab T))) (aa 64 fun i=>if i<32 then ab T i else 0):=mH (m:=32) _ _ _ (by omega) fun i hi=>by
  by_cases h:i<32
  ·rw[if_pos ⟨by omega,by omega⟩,if_pos h];rfl
  ·rw[if_neg (by omega),if_neg h]
 haveI p2:Spl (aa 64 fun i=>if i<32 then ab T i else 0) 32 (an (ae 32 (ab SS))) (aa 64 fun i=>if i<32 then ab T i else ab SS (i-32)):=mH (m:=32) _ _ _ (by omega) fun i hi=>by
  by_cases h:i<32
  ·rw[if_neg (by omega),if_pos h,if_pos h]
  ·rw[if_pos ⟨by omega,by omega⟩,if_neg h]
 have hl1:(an (ae 32 (ab T))).length=32:=by rw[aq,ag]
 have hl2:(an (ae 32 (ab SS))).length=32:=by rw[aq,ag]
 obtain⟨a,c,rfl,_,_⟩:=hv;clear HAT HSS;go_enter func81,ntmps81;go_wp2_with (first|(refine gBp 2 ?_;clear hL;intro b2 w1 hL)|(refine gBp 4 ?_;clear hL;intro b4 w1 hL)|(refine gBp 5 ?_;clear hL;intro b5 w1 hL)|(refine gBp 7 ?_;clear hL;intro b7 w1 hL)|((go_at_call 74;go_loud (refine(HP.out _ (hL.glob hG)).mono ?_);rintro e w1⟨g15,cap15,cur15,rfl,hr15,hg15,hc15,hb15⟩;have hL1:=hL.fresh hb15 hg15 hc15;clear hb15 hg15 hc15;clear hL;have hL:=hL1;clear hL1))|(refine gN 20 ?_;refine aL ?_;clear hL;intro b20 w1 hL)|(go_at_call 124;go_loud (refine(HW1.out _ (hL.glob hG) _ (fH (hL.get (List.Mem.head _)) (See.bytes hL) (See.bytes hL))).mono ?_);rintro e w1⟨rfl,hb1⟩;have hL1:=hL.keep hb1;clear hb1;clear hL;have hL:=hL1;clear hL1;refine p4 ?_)|(refine aQp ?_;clear hL;intro _ w1 hL));refine ar [(0,false),(1,false),(2,false),(3,false)] [(4,_,24)] [5] (by kernel_rfl) (by kernel_rfl) ⟨⟨_,rfl,rfl,rfl⟩,inferInstance,trivial⟩ hL ?_;refine pF ?_;refine fA ?_;refine az fun b=>?_;refine fB ?_;clear hL;intro w1 hL;go_wp2_with (first|(refine gBp 9 ?_;clear hL;intro b9 w1 hL)|(refine aQp ?_;clear hL;intro _ w1 hL));refine jx (R:=?R) (fun hR=>?h1) ?h2;case h1 =>
  refine mX (S:=fun w'=>Loc w w' _) 7 (hL.drew) ?_;intro hHeld;replace hL:=hL.drew;refine uG 0 ?_;refine uG 1 ?_;refine uG 2 ?_;refine rd2 3 5 ?_ ?_
  ·intro K hK
   refine eBS ?_;clear hL;intro b31 w1 hL;refine kO hK (hL.pop) ?_;clear hK K hHeld;intro hHeld;refine rd2 4 5 ?_ ?_
   ·intro K hK
    refine eVv (HW2.out _ (hL.glob hG) _ (dG (hL.at_ b31) (See.bytes hL) (See.bytes hL) (See.bytes hL))) hL ?_;clear hL;intro w1 hL;refine kO hK (hL.pop) ?_;clear hK K hHeld;intro hHeld;refine rd1 5 ?_;intro K hK;refine eA hL rfl ?_;clear hL;intro b10 w1 hL;refine kO hK (hL.pop.pop) ?_;clear hK K hHeld;intro hHeld;refine rd1 6 ?_;intro K hK;refine eS hL rfl rfl rfl ?_;clear hL;intro w1 hL;refine kO hK (hL.pop.pop) ?_;clear hK K hHeld;intro hHeld;refine wD ?_;clear hHeld;have hLp:=hL;clear hL;revert hLp;revert w1;revert b31;revert b10;exact pm hR
   ·intro K hK
    refine eA hL rfl ?_;clear hL;intro b10 w1 hL;refine kO hK (hL.pop.pop) ?_;clear hK K hHeld;intro hHeld;refine rd1 4 ?_;intro K hK;refine eVv (HW2.out _ (hL.glob hG) _ (dG (hL.at_ b31) (See.bytes hL) (See.bytes hL) (See.bytes hL))) hL ?_;clear hL;intro w1 hL;refine kO hK (hL.pop.pop) ?_;clear hK K hHeld;intro hHeld;refine rd1 6 ?_;intro K hK;refine eS hL rfl rfl rfl ?_;clear hL;intro w1 hL;refine kO hK (hL.pop.pop) ?_;clear hK K hHeld;intro hHeld;refine wD ?_;clear hHeld;have hLp:=hL;clear hL;revert hLp;revert w1;revert b31;revert b10;exact pm hR
  ·intro K hK
   refine eA hL rfl ?_;clear hL;intro b10 w1 hL;refine kO hK (hL.pop) ?_;clear hK K hHeld;intro hHeld;refine rd1 3 ?_;intro K hK;refine eBS ?_;clear hL;intro b31 w1 hL;refine kO hK (hL.pop.pop) ?_;clear hK K hHeld;intro hHeld;refine rd1 4 ?_;intro K hK;refine eVv (HW2.out _ (hL.glob hG) _ (dG (hL.at_ b31) (See.bytes hL) (See.bytes hL) (See.bytes hL))) hL ?_;clear hL;intro w1 hL;refine kO hK (hL.pop.pop) ?_;clear hK K hHeld;intro hHeld;refine rd1 6 ?_;intro K hK;refine eS hL rfl rfl rfl ?_;clear hL;intro w1 hL;refine kO hK (hL.pop.pop) ?_;clear hK K hHeld;intro hHeld;refine wD ?_;clear hHeld;have hLp:=hL;clear hL;revert hLp;revert w1;revert b31;revert b10;exact pm hR
 intro b10 b31 w1 hL1;clear hL;have hL:=hL1;clear hL1;go_wp2_with (first|(refine aQp ?_;clear hL;intro _ w1 hL));refine ar [(0,false),(1,false),(2,false),(3,false),(4,false)] [(5,_,24)] [6] (by kernel_rfl) (by kernel_rfl) ⟨⟨_,rfl,rfl,rfl⟩,inferInstance,trivial⟩ hL ?_;refine pF ?_;refine fA ?_;refine az fun b=>?_;refine fB ?_;clear hL;intro w1 hL;go_wp2_with (first|(refine gBp 12 ?_;clear hL;intro b12 w1 hL)|(refine aQp ?_;clear hL;intro _ w1 hL));refine mX (S:=fun w'=>Loc w w' _) 3 (Loc.rem b12 (hL.drew)) ?_;intro hHeld;replace hL:=hL.drew;refine uG 0 ?_;refine uG 1 ?_;refine rd1 2 ?_;intro K hK;refine eCp ?_;clear hL;intro w1 hL;refine kO hK (Loc.rem b12 (hL)) ?_;clear hK K hHeld;intro hHeld;refine wpAnyH_done (by kernel_rfl) (NoPanic.normal ?_) _;go_wp2_with (first|(refine aQp ?_;clear hL;intro _ w1 hL));refine mX (S:=fun w'=>Loc w w' _) 3 (Loc.rem b12 (hL.drew)) ?_;intro hHeld;replace hL:=hL.drew;refine uG 0 ?_;refine uG 1 ?_;refine rd1 2 ?_;intro K hK;refine eCp ?_;clear hL;intro w1 hL;refine kO hK (Loc.rem b12 (hL)) ?_;clear hK K hHeld;intro hHeld;refine wpAnyH_done (by kernel_rfl) (NoPanic.normal ?_) _;go_wp2_with (first|(refine aQp ?_;clear hL;intro _ w1 hL));exact bodyPost_ret (ai rfl hL rfl) rfl ⟨rfl,hL.bel⟩
instance N8:Ent 81:=eo func81
end
section
open Go Go.RowKit
theorem uO{w:World}{v:Value}{vs:List Value}{ms:List (List (BitVec 8))}(h:VRow w v vs)(hl:vs.length=ms.length)(hb:∀(i:Nat) (h1:i<vs.length) (h2:i<ms.length),BRow w vs[i] ms[i]):BRows w v ms:=by
 obtain⟨_,a,c,rfl,hn,hp⟩:=h;refine⟨a,c,by rw[hl],hn,fun h0=>?_⟩;obtain⟨b,off,e,hlt,hc⟩:=hp (by omega);exact⟨b,off,e,hlt,fun i hi=>⟨vs[i],hc i (by omega),hb i (by omega) hi⟩⟩
theorem sV{w:World}{v:Value}{ms:List (List (BitVec 8))}(h:BRows w v ms):∃vs,VRow w v vs∧vs.length=ms.length∧∀(i:Nat) (h1:i<vs.length) (h2:i<ms.length),BRow w vs[i] ms[i]:=by
 obtain⟨a,c,rfl,hn,hp⟩:=h;by_cases h0:0<ms.length
 ·obtain⟨b,off,e,hlt,hc⟩:=hp h0
  refine⟨List.ofFn fun i:Fin ms.length=>Classical.choose (hc i.1 i.2),⟨?_,a,c,by rw[List.length_ofFn],hn,fun h1=>⟨b,off,e,hlt,fun i hi=>?_⟩⟩,List.length_ofFn,fun i h1 h2=>?_⟩
  ·intro u hu
   obtain⟨i,rfl⟩:=(List.mem_ofFn ..).1 hu;obtain⟨_,_,e2,_⟩:=(Classical.choose_spec (hc i.1 i.2)).2;rw[e2];rfl
  ·rw[List.length_ofFn]at hi
   rw[List.getElem_ofFn];exact(Classical.choose_spec (hc i hi)).1
  ·rw[List.getElem_ofFn]
   exact(Classical.choose_spec (hc i h2)).2
 ·have:ms=[]:=List.eq_nil_of_length_eq_zero (by omega)
  subst this;exact⟨[],⟨fun u hu=>(List.not_mem_nil hu).elim,a,c,rfl,hn,fun h=>absurd h (by simp)⟩,rfl,fun i h1 _=>absurd h1 (by simp)⟩
section
variable {ops:Array Oper} {rest:List Oper} {o:Oper} {a:Act} {w0 w:World} {M M':Mem} {Q:Exit→Act→World→Prop}
theorem J8(hL:Loc w0 w M)(hg:o.guard=none){s x:Operand}{t e:TypeId}(ho:o.op= .call { callee:= .builtin .append,args:= #[s,x],argTypes:= #[t,t] })[he:Elt t e]{p0:Option Addr}{n:Nat}(hs:a.eval s= .slice p0 n n){xs:List Value}[hxs:See w0 M (.slice p0 n n) xs](hn0:0<n){p:Option Addr}{k cc:Nat}(hx:a.eval x= .slice p k cc){ys:List Value}[hy:See w0 M (.slice p k cc) ys](h0:0<k)(hsz:n+k≤100000000000)(h:∀g' cap' cur' w',OwnR cur' (n+k) cap' (xs++ys)→Loc w0 w' ((g',cur',e)::M)→wpList prog ops Q rest (a.put o.dst (.slice (some ⟨g',0,none⟩) (n+k) cap')) w'):wpList prog ops Q (o::rest) a w :=
 wpList_plain hg fun K hK=>by
  obtain rfl:=hy.len hL;obtain rfl:=hxs.len hL;obtain⟨i,z,hi,hz,hs1,hb,hzs⟩:=he.info;obtain⟨hx1,a1,c1,e1,_,hp1⟩:=hxs.see w hL;obtain⟨hy1,a2,c2,e2,_,hp2⟩:=hy.see w hL;cases e1
  cases e2
  obtain⟨b1,o1,rfl,_,hc1⟩:=hp1 hn0;obtain⟨b2,o2,rfl,_,hc2⟩:=hp2 h0;have cell:∀(l:List Value) (b o:Nat),(∀(i:Nat) (h:i<l.length),w.cell? ⟨b,o+i,none⟩=some l[i])→∀(j:Nat) (u:Value),l[j]?=some u→w.cell? ((⟨b,o,none⟩:Addr).add j)=some u:=fun l b o hc j u hj=>by
   have hjl:j<l.length:=by
    rcases Nat.lt_or_ge j l.length with h|h
    ·exact h
    ·rw[List.getElem?_eq_none h]at hj;cases hj
   rw[Addr.add_mid,hc j hjl,← hj,List.getElem?_eq_getElem hjl]
  have hrun:=run_append_grow (P:=prog) w t o.type e i z he.und hi hz ⟨b1,o1,none⟩ xs.length xs.length xs (by rw[hs1,Nat.mul_one]) (cell _ _ _ hc1) ⟨b2,o2,none⟩ ys.length cc ys (by rw[hs1,Nat.mul_one]) (cell _ _ _ hc2) (by omega) (by omega)
   (growslice_fits (by omega) (Nat.le_trans (Nat.mul_le_mul_left _ hb) (by omega)))
  have hge:=grownCap_ge w (xs.length+ys.length) xs.length e;have key:∃g' cap' cur' w',(Builtin.append_ #[t,t] o.type #[.slice (some ⟨b1,o1,none⟩) xs.length xs.length,.slice (some ⟨b2,o2,none⟩) ys.length cc]).run prog w= .ok (.slice (some ⟨g',0,none⟩) (xs.length+ys.length) cap') w' ∧
   OwnR cur' (xs.length+ys.length) cap' (xs++ys)∧Below w.heap.size w w'∧w'.heap[g']?=some (.cells cur' e (0,0))∧w.heap.size≤g':=by
   refine⟨_,_,_,_,hrun,⟨by rw[List.length_append],fun u hu=>?_,?_,hge,grownCap_le_maxLen w _ _ e (by unfold maxLen;omega),?_⟩,⟨rfl,rfl,rfl,by simp,fun k hk=>heap_alloc_old w.drew _ hk⟩,heap_alloc_new w.drew _,Nat.le_refl _⟩
   ·rcases List.mem_append.1 hu with h|h
    ·exact hx1 u h
    ·exact hy1 u h
   ·simp only[Array.size_append,List.size_toArray,size_zeroCells,hzs]
    omega
   ·have:xs.length+ys.length=(xs++ys).length:=by rw[List.length_append]
    rw[this];simp only[Array.toList_append,List.append_assoc];rw[← List.append_assoc];exact List.take_left
  obtain⟨g',cap',cur',w',hrun2,h1,h2,h3,h4⟩:=key;unfold Oper.wp execOp;simp only[ho,resolve,invoke,builtin,Sem.run_bind,Sem.run_pure,Result.andThen_ok,List.map_toArray,List.map_cons,List.map_nil,hs,hx,hrun2];exact hK _ _ (h g' cap' cur' w' h1 (hL.fresh h2 h4 h3))
end
theorem Dk(vb:Value)(pa:Option Addr)(ls ms:List (List (BitVec 8)))(w:World)(hb:BRows w vb ms)(ha:BRows w (.slice pa ls.length ls.length) ls)(ha0:0<ls.length)(hm0:0<ms.length)(hl:ls.length+ms.length≤1000000)(hm:(ls++ms).flatten.length≤1000000000) :
 Rt 247 #[vb,.slice pa ls.length ls.length] w (.agg (aa 32 (ab (li (ls++ms).flatten)))):=by
 have hL:=Loc.nil w;obtain⟨xs,hx,hxl,hxb⟩:=sV ha;obtain⟨ys,hy,hyl,hyb⟩:=sV hb;haveI a1:Arg w (.slice pa ls.length ls.length) xs:=⟨hx⟩;haveI a2:Arg w vb ys:=⟨hy⟩;have HB:=Hd (fun(i:Nat) (h1:i<(xs++ys).length) (h2:i<(ls++ms).length)=>show BRow w (xs++ys)[i] (ls++ms)[i]from by
  by_cases hi:i<xs.length
  ·rw[List.getElem_append_left hi,List.getElem_append_left (by omega)]
   exact hxb i hi (by omega)
  ·rw[List.getElem_append_right (by omega),List.getElem_append_right (by omega)]
   simp only[← hxl];exact hyb _ _ _)
 have HLEN:=Hd (show(xs++ys).length=(ls++ms).length from by rw[List.length_append,List.length_append,hxl,hyl]);have hkl:ls.length+ms.length=(ls++ms).length:=List.length_append.symm;obtain⟨pb,cb,rfl,hbn,hbp⟩:=hb;clear hbn hbp;generalize ls++ms=fl at *
 clear hx hxb hxl hy hyb hyl ha;generalize hal:ls.length=na at *
 generalize hml:ms.length=nm at *
 clear hal;have HSUM:=Hd (fun w1 (u:Value) (hu:BRows w1 u fl)=>Shb.sum_any u fl w1 hu (by omega) hm);generalize fl.flatten=fm at *
 have HKL:=Hd hkl;clear hkl hml;go_enter func247,ntmps247;go_wp2_with (first|(refine gBp 4 ?_;clear hL;intro b4 w1 hL)|(refine gN 8 ?_;go_loud (refine J8 hL rfl rfl rfl ha0 rfl hm0 (by omega) fun g8 cap8 cur8 w1 hr8 hL1=>?_);clear hL;have hL:=hL1;clear hL1)|(go_at_call 280;go_loud (refine(HSUM.out _ _ (uO (See.see (ys:=xs++ys) _ hL) HLEN.out fun i h1 h2=>(HB.out i h1 h2).below hL.bel)).mono ?_);rintro e w1⟨rfl,hb1⟩;have hL1:=hL.keep hb1;clear hb1;clear hL;have hL:=hL1;clear hL1;refine p4 ?_)|(go_at_call 281;go_loud (refine((xq (Shb.sha fm) 64 64 _ _ (by omega) (by omega) fun i hi=>R3.was_loc hL (List.Mem.head _) (bI _ hi))).mono ?_);rintro e w1⟨rfl,hb1⟩;have hL1:=hL.keep hb1;clear hb1;clear hL;have hL:=hL1;clear hL1;refine p4 ?_)|(refine aQp ?_;clear hL;intro _ w1 hL));exact bodyPost_ret (ai rfl hL rfl) rfl ⟨rfl,hL.bel⟩
end
section
open Go Go.RowKit
def oY(md:Region.Mode)(ops:Array Oper):Nat→Array Bool→List Nat→Bool
 | 0,_,_=>true
 | n+1,L,I=>(Region.ready md ops L==I)&&I.all fun i=>oY md ops n (L.setIfInBounds i true) (I.erase i)
def jz(ops:Array Oper)(i:Nat):Option Tmp:=(ops[i]?).bind (·.dst)
def alS(ops:Array Oper)(bs:Nat→Nat)(s:Array Bool×Act)(x:Nat×Array Value×TypeId):Array Bool×Act:=(s.1.setIfInBounds x.1 true,s.2.put (jz ops x.1) (.pointer (some ⟨bs x.1,0,none⟩)))
theorem put_comm(a:Act){c d:Option Tmp}(h:c≠d)(u v:Value):(a.put c u).put d v=(a.put d v).put c u:=by
 unfold Act.put;cases c with
 | none=>cases d <;> rfl
 | some c =>
  cases d with
  | none=>rfl
  | some d =>
   simp only;rw[Array.setIfInBounds_comm _ _ (fun e=>h (by rw[e]))]
theorem Dl(ops:Array Oper)(bs:Nat→Nat)(x y:Nat×Array Value×TypeId)(h:x=y∨(x.1≠y.1∧jz ops x.1≠jz ops y.1))(s:Array Bool×Act):alS ops bs (alS ops bs s x) y=alS ops bs (alS ops bs s y) x:=by
 rcases h with rfl|⟨h1,h2⟩
 ·rfl
 ·unfold alS
  simp only;rw[put_comm _ h2,Array.setIfInBounds_comm _ _ h1]
theorem Loc.subl{w0 w:World}{M M':Mem}(h:Loc w0 w M)(hs:M'.Sublist M):Loc w0 w M':=⟨h.bel,fun b r t hm=>h.ok b r t (hs.subset hm),h.nd.sublist (hs.map _)⟩
theorem qX{α β:Type}(f:α→β):∀(l:List α),(l.map f).Nodup→∀{x y:α},x∈l→y∈l→f x=f y→x=y
 | [],_,_,_,hx,_,_=>absurd hx List.not_mem_nil
 | z::l,h,x,y,hx,hy,e=>by
  rw[List.map_cons,List.nodup_cons]at h;cases hx with
  | head=>cases hy with
   | head=>rfl
   | tail _ hy=>exact absurd (List.mem_map.2 ⟨y,hy,e.symm⟩) h.1
  | tail _ hx=>cases hy with
   | head=>exact absurd (List.mem_map.2 ⟨x,hx,e⟩) h.1
   | tail _ hy=>exact qX f l h.2 hx hy e
theorem oZ{α β:Type}(f g:β→α→β):∀(l:List α),(∀x∈l,∀s,f s x=g s x)→∀s,l.foldl f s=l.foldl g s
 | [],_,_=>rfl
 | x::l,h,s=>by rw[List.foldl_cons,List.foldl_cons,h x (.head _),oZ f g l (fun y hy=>h y (.tail _ hy))]
theorem ko{md:Region.Mode}{ops:Array Oper}{Q:Exit→Act→World→Prop}{w0:World}{M0:Mem}(fuel:Nat):∀(n:Nat) (A:jb),A.length=n→∀(L:Array Bool) (a:Act) (w:World) (D:Mem),oY md ops n L (A.map (·.1))=true →
 (A.map fun x=>jz ops x.1).Nodup→okA ops A→Loc w0 w (D++M0) →
 (∀(bs:Nat→Nat) w',Loc w0 w' ((A.map fun x=>(bs x.1,x.2.1,x.2.2))++(D++M0))→wpAnyH prog md ops Q (fun w=>Loc w0 w M0) fuel (A.foldl (alS ops bs) (L,a)).1 (A.foldl (alS ops bs) (L,a)).2 w') →
 wpAnyH prog md ops Q (fun w=>Loc w0 w M0) (n+fuel) L a w
 | 0,A,hl,L,a,w,D,_,_,_,hL,h=>by
  obtain rfl:=List.eq_nil_of_length_eq_zero hl;rw[Nat.zero_add];exact h (fun _=>0) w hL
 | n+1,A,hl,L,a,w,D,hr,hd,hA,hL,h=>by
  rw[show n+1+fuel=n+fuel+1 from by omega];unfold oY at hr;rw[Bool.and_eq_true,beq_iff_eq]at hr;refine wpAnyH_all hr.1 (fun e=>by have:=congrArg List.length e;simp[hl]at this) fun i hi=>?_;obtain⟨x,hx,rfl⟩:=List.mem_map.1 hi;have hnx:=List.all_eq_true.1 hr.2 x.1 hi;obtain⟨⟨o,ho,hop,hg⟩,hz⟩:=rV A hA x hx;have hdst:jz ops x.1=o.dst:=by unfold jz;rw[ho];rfl
  obtain⟨l,r,rfl⟩:=List.append_of_mem hx;have hd1:=hd;rw[List.map_append,List.map_cons]at hd1;obtain⟨dl,dr,dx⟩:=List.nodup_append.1 hd1;have hne:∀y∈l++r,jz ops x.1≠jz ops y.1:=fun y hy e=>by
   rcases List.mem_append.1 hy with hy|hy
   ·exact dx _ (List.mem_map.2 ⟨y,hy,rfl⟩) _ (.head _) e.symm
   ·exact(List.nodup_cons.1 dr).1 (List.mem_map.2 ⟨y,hy,e.symm⟩)
  have hnl:x.1 ∉ l.map (·.1):=fun hm=>by
   obtain⟨y,hy,e⟩:=List.mem_map.1 hm;exact hne y (List.mem_append_left _ hy) (by rw[e])
  have hI:((l++x::r).map (·.1)).erase x.1=(l++r).map (·.1):=by
   rw[List.map_append,List.map_cons,List.erase_append_right _ hnl,List.erase_cons_head,List.map_append]
  rw[hI]at hnx;unfold wpOp;simp only[ho];rw[if_pos (by simp[Region.wanted,hg])];refine .inl (eA hL hop fun b w1 hL1=>?_);refine⟨hL1.subl ((List.sublist_append_right D M0).trans (List.sublist_cons_self _ _)),?_⟩;refine ko fuel n (l++r) (by simp at hl ⊢; omega) _ _ w1 ((b,x.2.1,x.2.2)::D) hnx ?_ ?_ hL1 fun bs w2 hL2=>?_
  ·exact hd.sublist ((List.Sublist.append (List.Sublist.refl l) (List.sublist_cons_self x r)).map _)
  ·have sub:∀(l':jb),(∀y∈l',y∈l++x::r)→okA ops l':=fun l'=>by
    induction l' with
    | nil=>intro _;trivial
    | cons y l' ih =>
     intro hy;obtain⟨h1,h2⟩:=rV _ hA y (hy y (.head _));exact⟨h1,h2,ih fun z hz=>hy z (.tail _ hz)⟩
   exact sub _ fun y hy=>by rcases List.mem_append.1 hy with hy|hy <;> simp[hy]
  ·have hp:(l++x::r).Perm (x::(l++r)):=List.perm_middle
   have key:=h (fun j=>if j=x.1 then b else bs j) w2 ?_
   ·rw[hp.foldl_eq' (fun y hy z hz s=>Dl ops _ y z (by
     by_cases e:y=z
     ·exact .inl e
     ·refine .inr ?_
      have hq:jz ops y.1≠jz ops z.1:=fun eq=>e (qX _ _ hd hy hz eq);exact⟨fun eq=>hq (by rw[eq]),hq⟩) s) (L,a),List.foldl_cons]at key
    rw[show alS ops (fun j=>if j=x.1 then b else bs j) (L,a) x=(L.setIfInBounds x.1 true,a.put o.dst (.pointer (some ⟨b,0,none⟩)))from by unfold alS;rw[hdst];simp]at key;rwa[oZ _ (alS ops bs) (l++r) (fun y hy s=>by
     unfold alS;have:y.1≠x.1:=fun e=>hne y hy (by rw[e]);simp[this])]at key
   ·refine hL2.perm ?_
    have e1:((l++x::r).map fun y=>((fun j=>if j=x.1 then b else bs j) y.1,y.2.1,y.2.2)).Perm ((b,x.2.1,x.2.2)::(l++r).map fun y=>(bs y.1,y.2.1,y.2.2)):=by
     refine(hp.map _).trans ?_;rw[List.map_cons];simp only[if_true];refine List.Perm.cons _ (List.Perm.of_eq (List.map_congr_left fun y hy=>?_));have:y.1≠x.1:=fun e=>hne y hy (by rw[e]);simp[this]
    exact((List.perm_middle).trans ((e1.symm.append_right (D++M0)).trans (List.Perm.refl _)):_)
end
end Go.Proofs.YtoifhhljfaoejaaGreatDoor
