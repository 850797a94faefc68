/-
  Lemmas of the law, part 21: the walks of the functions that it calls and the plain facts about them. No condition beyond those written.
-/
import Derived.Test.YtoifhhljfaoejaaGreatDoorPkAT
import Derived.Test.YtoifhhljfaoejaaGreatDoorPkAR
import Derived.Test.YtoifhhljfaoejaaGreatDoorPkAL
namespace Go.Proofs.YtoifhhljfaoejaaGreatDoor
structure St where
 h:Nat→BitVec 32
 b:Nat→BitVec 8
 n:Nat
def takeS (s:St) (x:BitVec 8):St :=
 if s.n<63 then ⟨s.h,upd s.b s.n x,s.n+1⟩ else ⟨block K256 s.h (upd s.b s.n x),upd s.b s.n x,0⟩
def st0:St:=⟨H256,fun _=>0,0⟩
def takes (s:St) (m:List (BitVec 8)):St:=m.foldl takeS s
theorem takes_append (s:St) (a b:List (BitVec 8)):takes s (a ++ b)=takes (takes s a) b:=List.foldl_append
theorem takes_snoc (s:St) (a:List (BitVec 8)) (x:BitVec 8):takes s (a ++ [x])=takeS (takes s a) x:=by rw [takes_append];rfl
theorem takeS_lt (s:St) (x:BitVec 8):(takeS s x).n<64:=by
 unfold takeS;split
 ·show s.n+1<64;omega
 ·show 0<64;omega
theorem takes_lt {s:St} (hs:s.n<64) (m:List (BitVec 8)):(takes s m).n<64:=by
 unfold takes
 induction m generalizing s with
 | nil=>exact hs
 | cons x m ih=>exact ih (takeS_lt s x)
theorem takeS_n {s:St} (hs:s.n<64) (x:BitVec 8):(takeS s x).n=(s.n+1) % 64:=by
 unfold takeS;split
 ·show s.n+1=_;omega
 ·show 0=_;omega
theorem takes_n {s:St} (hs:s.n<64) (m:List (BitVec 8)):(takes s m).n=(s.n+m.length) % 64:=by
 unfold takes
 induction m generalizing s with
 | nil=>simp;omega
 | cons x m ih =>
  show ((m.foldl takeS (takeS s x))).n=_
  rw [ih (takeS_lt s x),takeS_n hs,List.length_cons];omega
def zeros (n:Nat):Nat:=(119 - n % 64) % 64
def lenByte (n:Nat) (i:Nat):BitVec 8:=BitVec.ofNat 8 (8*n / 2 ^ (8*(7 - i)))
def lenBytes (n:Nat):List (BitVec 8):=(List.range 8).map (lenByte n)
def pad (m:List (BitVec 8)):List (BitVec 8):=m ++ [128] ++ List.replicate (zeros m.length) 0 ++ lenBytes m.length
def outOf (h:Nat→BitVec 32) (i:Nat):BitVec 8:=(h (i / 4) >>> (24 - 8*(i % 4))).setWidth 8
def sha (m:List (BitVec 8)):Nat→BitVec 8:=outOf (takes st0 (pad m)).h
theorem lenBytes_take (n:Nat) {j:Nat} (h:j<8):(lenBytes n).take (j+1)=(lenBytes n).take j ++ [lenByte n j]:=by
 rw [List.take_succ_eq_append_getElem (by simp [lenBytes];exact h)]
 simp [lenBytes]
theorem lenByte_val (n j:Nat):B8 (lenByte n j)=((8*n / 2 ^ (8*(7 - j)) % 256:Nat):Int):=by
 unfold lenByte B8;rw [BitVec.toNat_ofNat]
theorem pad_length (m:List (BitVec 8)):(pad m).length % 64=0:=by
 unfold pad zeros lenBytes
 simp only [List.length_append,List.length_cons,List.length_nil,List.length_replicate,List.length_map,List.length_range]
 omega
def acc (b:Nat→BitVec 8) (i:Nat):Nat→BitVec 32
 | 0=>0
 | r+1=>acc b i r <<< 8 ||| wide (b (4*i+r))
theorem sch1_acc (b:Nat→BitVec 8) (i:Nat):∀ k,sch1 b k i=acc b i (min 4 (k - 4*i))
 | 0=>by simp [sch1,acc]
 | k+1=>by
  have ih:=sch1_acc b i k
  unfold sch1 upd
  by_cases e:i=k / 4
  ·rw [if_pos e,← e,ih]
   have h1:min 4 (k - 4*i)=k - 4*i:=by omega
   have h2:min 4 (k+1 - 4*i)=(k - 4*i)+1:=by omega
   rw [h1,h2,acc,show 4*i+(k - 4*i)=k by omega]
  ·rw [if_neg e,ih]
   congr 1
   omega
def word4 (b:Nat→BitVec 8) (i:Nat):BitVec 32:=wide (b (4*i)) <<< 24 ||| wide (b (4*i+1)) <<< 16 ||| wide (b (4*i+2)) <<< 8 ||| wide (b (4*i+3))
theorem acc_four (b:Nat→BitVec 8) (i:Nat):acc b i 4=word4 b i:=by
 simp only [acc,word4,BitVec.shiftLeft_or_distrib,← BitVec.shiftLeft_add]
 simp
def words (b:Nat→BitVec 8) (i:Nat):BitVec 32:=if i<16 then word4 b i else 0
theorem sch1_words (b:Nat→BitVec 8):sch1 b 64=words b:=by
 funext i
 rw [sch1_acc]
 unfold words
 by_cases h:i<16
 ·rw [if_pos h,show min 4 (64 - 4*i)=4 by omega,acc_four]
 ·rw [if_neg h,show min 4 (64 - 4*i)=0 by omega];rfl
theorem sch1_congr {b b':Nat→BitVec 8}:∀ k,(∀ i,i<k→b i=b' i)→sch1 b k=sch1 b' k
 | 0,_=>rfl
 | k+1,h=>by
  have ih:=sch1_congr k (fun i hi=>h i (by omega))
  unfold sch1
  rw [ih,h k (by omega)]
theorem block_congr {K h:Nat→BitVec 32} {b b':Nat→BitVec 8} (hb:∀ i,i<64→b i=b' i):block K h b=block K h b':=by
 unfold block sched
 rw [sch1_congr 64 hb]
def blocks (m:Nat→BitVec 8):Nat→Nat→BitVec 32
 | 0=>H256
 | k+1=>block K256 (blocks m k) (fun j=>m (64*k+j))
theorem takes_part (h:Nat→BitVec 32):∀ (c:List (BitVec 8)) (b:Nat→BitVec 8) (n:Nat),n+c.length<64 →
 ∃ b',takes ⟨h,b,n⟩ c=⟨h,b',n+c.length⟩∧(∀ i,i<n→b' i=b i)∧∀ i (hi:i<c.length),b' (n+i)=c[i]
 | [],b,n,_=>⟨b,rfl,fun _ _=>rfl,fun i hi=>absurd hi (by simp)⟩
 | x :: c,b,n,hn=>by
  simp only [List.length_cons] at hn
  obtain ⟨b',e,h1,h2⟩:=takes_part h c (upd b n x) (n+1) (by omega)
  refine ⟨b',?_,?_,?_⟩
  ·show takes (takeS ⟨h,b,n⟩ x) c=_
   have:takeS ⟨h,b,n⟩ x=⟨h,upd b n x,n+1⟩:=by unfold takeS;rw [if_pos (by show n<63;omega)]
   rw [this,e]
   congr 1
   simp only [List.length_cons];omega
  ·intro i hi
   rw [h1 i (by omega)];unfold upd;rw [if_neg (by omega)]
  ·intro i hi
   cases i with
   | zero=>rw [Nat.add_zero,h1 n (by omega)];simp [upd]
   | succ i =>
    have:=h2 i (by simpa using hi)
    rw [show n+(i+1)=n+1+i by omega,this];rfl
theorem takes_block (h:Nat→BitVec 32) (b:Nat→BitVec 8) (c:List (BitVec 8)) (hc:c.length=64):∃ b',takes ⟨h,b,0⟩ c=⟨block K256 h (fun j=>c.getD j 0),b',0⟩:=by
 have hne:c≠[]:=fun e=>by rw [e] at hc;cases hc
 obtain ⟨b',e,_,h2⟩:=takes_part h c.dropLast b 0 (by rw [List.length_dropLast];omega)
 have hs:c.dropLast ++ [c.getLast hne]=c:=List.dropLast_concat_getLast hne
 have hl:c.dropLast.length=63:=by rw [List.length_dropLast];omega
 have hT:takes ⟨h,b,0⟩ c=takeS (takes ⟨h,b,0⟩ c.dropLast) (c.getLast hne):=by
  rw [← takes_snoc,hs]
 have hb:block K256 h (upd b' 63 (c.getLast hne))=block K256 h (fun j=>c.getD j 0):=by
  refine block_congr fun i hi=>?_
  unfold upd
  by_cases e63:i=63
  ·subst e63
   rw [if_pos rfl,List.getD_eq_getElem?_getD,List.getElem?_eq_getElem (by omega),Option.getD_some,List.getLast_eq_getElem]
   congr 1
   omega
  ·rw [if_neg e63]
   have:=h2 i (by omega)
   rw [Nat.zero_add] at this
   rw [this,List.getD_eq_getElem?_getD,List.getElem?_eq_getElem (by omega),Option.getD_some,List.getElem_dropLast]
 refine ⟨upd b' 63 (c.getLast hne),?_⟩
 rw [hT,e,hl]
 unfold takeS
 rw [if_neg (by simp)]
 simp only [Nat.zero_add]
 rw [hb]
theorem takes_blocks (m:Nat→BitVec 8):∀ (q k:Nat) (p:List (BitVec 8)) (b:Nat→BitVec 8),p.length=64*q→(∀ i,i<p.length→p.getD i 0=m (64*k+i)) →
 ∃ b',takes ⟨blocks m k,b,0⟩ p=⟨blocks m (k+q),b',0⟩
 | 0,k,p,b,hl,_=>by
  have:p=[]:=List.eq_nil_of_length_eq_zero (by omega)
  subst this
  exact ⟨b,rfl⟩
 | q+1,k,p,b,hl,hm=>by
  have hs:p=p.take 64 ++ p.drop 64:=(List.take_append_drop 64 p).symm
  have h64:(p.take 64).length=64:=by rw [List.length_take];omega
  obtain ⟨b1,e1⟩:=takes_block (blocks m k) b (p.take 64) h64
  have eb:block K256 (blocks m k) (fun j=>(p.take 64).getD j 0)=blocks m (k+1):=by
   refine block_congr fun i hi=>?_
   rw [← hm i (by omega),List.getD_eq_getElem?_getD,List.getD_eq_getElem?_getD,List.getElem?_take_of_lt hi]
  rw [eb] at e1
  obtain ⟨b2,e2⟩:=takes_blocks m q (k+1) (p.drop 64) b1 (by rw [List.length_drop];omega) (fun i hi=>by
   rw [List.length_drop] at hi
   rw [List.getD_eq_getElem?_getD,List.getElem?_drop,← List.getD_eq_getElem?_getD,hm (64+i) (by omega)]
   congr 1;omega)
  refine ⟨b2,?_⟩
  rw [hs,takes_append,e1,e2]
  congr 2
  omega
theorem sha_blocks (m:List (BitVec 8)):sha m=outOf (blocks (fun i=>(pad m).getD i 0) ((pad m).length / 64)):=by
 have hl:=pad_length m
 obtain ⟨b',e⟩:=takes_blocks (fun i=>(pad m).getD i 0) ((pad m).length / 64) 0 (pad m) (fun _=>0) (by omega) (fun i _=>by simp)
 unfold sha st0
 rw [show H256=blocks (fun i=>(pad m).getD i 0) 0 from rfl,e,Nat.zero_add]
end Go.Proofs.YtoifhhljfaoejaaGreatDoor
namespace Go.Proofs.YtoifhhljfaoejaaGreatDoor
open Go.RowKit Go.Shelf
set_option linter.unusedVariables false
class Glob (w:World):Prop where
 lt:6<w.heap.size
 k256:∀ i,i<64→w.cell? ⟨0,i,none⟩=some (.int .u32 (U (K256 i)))
 bx:∀ i,i<16→w.cell? ⟨1,i,none⟩=some (.int .i64 (R3.dg pB.x.val i:Nat))
 by_:∀ i,i<16→w.cell? ⟨2,i,none⟩=some (.int .i64 (R3.dg pB.y.val i:Nat))
 dd:∀ i,i<16→w.cell? ⟨4,i,none⟩=some (.int .i64 (R3.dg dF.val i:Nat))
 ord:∀ i,i<32→w.cell? ⟨5,i,none⟩=some (.int .i64 ((byteN Qo i).toNat:Nat))
 k512:∀ i,i<80→w.cell? ⟨6,i,none⟩=some (.int .u64 (Q (Shb.K512 i)))
theorem Glob.below {w w':World} (h:Glob w) (hb:Below w.heap.size w w'):Glob w':=by
 have c:∀ (b i:Nat) (v:Value),b≤6→w.cell? ⟨b,i,none⟩=some v→w'.cell? ⟨b,i,none⟩=some v:=fun b i v hb' hc=>(hb.cell (p:=⟨b,i,none⟩) (Nat.lt_of_le_of_lt hb' h.lt)).trans hc
 exact ⟨Nat.lt_of_lt_of_le h.lt hb.size,fun i hi=>c _ _ _ (by omega) (h.k256 i hi),fun i hi=>c _ _ _ (by omega) (h.bx i hi),fun i hi=>c _ _ _ (by omega) (h.by_ i hi),fun i hi=>c _ _ _ (by omega) (h.dd i hi),
  fun i hi=>c _ _ _ (by omega) (h.ord i hi),fun i hi=>c _ _ _ (by omega) (h.k512 i hi)⟩
class GlobI (w:World):Prop where
 lt:7<w.heap.size
 im:∀ i,i<16→w.cell? ⟨7,i,none⟩=some (.int .i64 (R3.dg iF.val i:Nat))
theorem GlobI.below {w w':World} (h:GlobI w) (hb:Below w.heap.size w w'):GlobI w' :=
 ⟨Nat.lt_of_lt_of_le h.lt hb.size,fun i hi=>(hb.cell (p:=⟨7,i,none⟩) h.lt).trans (h.im i hi)⟩
theorem Loc.glob {w0 w:World} {M:Mem} (h:Loc w0 w M) (hg:Glob w0):Glob w:=hg.below h.bel
class FnG (f:FuncId) (args:Array Value) (v:outParam Value):Prop where
 calls:∀ w,Glob w→Calls Tryz.prog f args w fun e w'=>e= .returned v∧Below w.heap.size w w'
class WasR (w0:World) (b:Nat) (r:outParam (Array Value)):Prop where
 cell:∀ (j:Nat) (v:Value),r.toList[j]?=some v→w0.cell? ⟨b,0+j,none⟩=some v
 lt:b<w0.heap.size
theorem wasR_row {w0:World} {b n:Nat} {S:Nat→Value} (hc:∀ i,i<n→w0.cell? ⟨b,i,none⟩=some (S i)) (hl:b<w0.heap.size):WasR w0 b (row n S):=⟨fun j v hv=>by
 have hj:j<n:=by
  rcases Nat.lt_or_ge j n with h | h
  ·exact h
  ·rw [List.getElem?_eq_none (by simp [row_size];exact h)] at hv;cases hv
 rw [Array.getElem?_toList,row_get S hj] at hv
 cases hv
 rw [Nat.zero_add];exact hc j hj,hl⟩
section
variable {ops:Array Oper} {rest:List Oper} {l:List (Oper×Bool)} {R:Act→Prop} {o:Oper} {a:Act} {w0 w:World} {M M':Mem} {Q:Exit→Act→World→Prop}
theorem lR (hL:Loc w0 w M) (hg:o.guard=none) {t:TypeId} {x:Operand} (ho:o.op= .load t x) {b:Nat} (hx:a.eval x= .pointer (some ⟨b,0,none⟩)) {s:Array Value} {n:Nat} [ht:RowTy t n] [hm:WasR w0 b s] [hr:Row1 s n]
 (h:∀ w',Loc w0 w' M→wpList Tryz.prog ops Q rest (a.put o.dst (.agg s)) w'):wpList Tryz.prog ops Q (o :: rest) a w:=by
 obtain ⟨d,h1,h2⟩:=ht.und
 have:=wpList_load_mid (ops:=ops) (rest:=rest) (Q:=Q) hg t x ho b 0 hx s.toList d (fun j v hv=>(hL.bel.cell (p:=⟨b,0+j,none⟩) hm.lt).trans (hm.cell j v hv)) h1 h2 (by rw [ht.size,Array.length_toList,hr.size])
 simp only [Array.toArray_toList] at this
 exact this (h w hL)
theorem sR (hg:o.guard=none) {t:TypeId} {x:Operand} (ho:o.op= .load t x) {b:Nat} (hx:a.eval x= .pointer (some ⟨b,0,none⟩)) {s:Array Value} {n:Nat} [ht:RowTy t n] [hm:WasR w0 b s] [hr:Row1 s n]
 (h:seqO Tryz.prog ops (fun w=>Loc w0 w M) l (a.put o.dst (.agg s)) R):seqO Tryz.prog ops (fun w=>Loc w0 w M) ((o,false) :: l) a R:=by
 obtain ⟨d,h1,h2⟩:=ht.und
 have hy:=yieldsIf_load_mid (P:=Tryz.prog) (ops:=ops) (S:=fun w=>Loc w0 w M) (op:=o) (a:=a) (by simp [Region.wanted,hg]) t x ho b 0 hx s.toList d (fun w h=>fun j v hv=>(h.bel.cell (p:=⟨b,0+j,none⟩) hm.lt).trans (hm.cell j v hv)) h1 h2 (by rw [ht.size,Array.length_toList,hr.size])
 simp only [Array.toArray_toList] at hy
 rcases hy with ⟨hw,hv⟩ | ⟨_,h0⟩
 ·exact ⟨_,⟨hw,fun w hS=> .inl (hv w hS)⟩,h⟩
 ·cases h0
theorem lG (hL:Loc w0 w M) (hg:o.guard=none) {f:FuncId} {xs:Array Operand} {ts:Array TypeId} (ho:o.op= .call { callee:= .value (.func f),args:=xs,argTypes:=ts }) {args:Array Value} (hx:xs.map a.eval=args) [he:Ent f] [hG:Glob w0] {v:Value} [hf:FnG f args v]
 (h:∀ w',Loc w0 w' M→wpList Tryz.prog ops Q rest (a.put o.dst v) w'):wpList Tryz.prog ops Q (o :: rest) a w :=
 wpList_plain hg fun K hK=>by
  unfold Oper.wp
  rw [run_fn ho rfl w,hx,Oper.upon_enter]
  refine (hf.calls w (hL.glob hG)).mono fun e w'' hh=>?_
  obtain ⟨rfl,hb⟩:=hh
  exact hK _ _ (h w'' (hL.keep hb))
theorem lG0 (hL:Loc w0 w M) (hg:o.guard=none) {f:FuncId} {ts:Array TypeId} (ho:o.op= .call { callee:= .value (.func f),args:= #[],argTypes:=ts }) [he:Ent f] [hG:Glob w0] {v:Value} [hf:FnG f #[] v]
 (h:∀ w',Loc w0 w' M→wpList Tryz.prog ops Q rest (a.put o.dst v) w'):wpList Tryz.prog ops Q (o :: rest) a w:=lG (args:= #[]) hL hg ho (by simp) h
theorem lG1 (hL:Loc w0 w M) (hg:o.guard=none) {f:FuncId} {x:Operand} {ts:Array TypeId} (ho:o.op= .call { callee:= .value (.func f),args:= #[x],argTypes:=ts }) {r:Array Value} (hx:a.eval x= .agg r) [he:Ent f] [hG:Glob w0] {v:Value} [hf:FnG f #[.agg r] v]
 (h:∀ w',Loc w0 w' M→wpList Tryz.prog ops Q rest (a.put o.dst v) w'):wpList Tryz.prog ops Q (o :: rest) a w:=lG (args:= #[.agg r]) hL hg ho (by simp [hx]) h
theorem lG2 (hL:Loc w0 w M) (hg:o.guard=none) {f:FuncId} {x y:Operand} {ts:Array TypeId} (ho:o.op= .call { callee:= .value (.func f),args:= #[x,y],argTypes:=ts }) {r s:Array Value} (hx:a.eval x= .agg r) (hy:a.eval y= .agg s) [he:Ent f] [hG:Glob w0] {v:Value} [hf:FnG f #[.agg r,.agg s] v]
 (h:∀ w',Loc w0 w' M→wpList Tryz.prog ops Q rest (a.put o.dst v) w'):wpList Tryz.prog ops Q (o :: rest) a w:=lG (args:= #[.agg r,.agg s]) hL hg ho (by simp [hx,hy]) h
theorem sG (hg:o.guard=none) {f:FuncId} {xs:Array Operand} {ts:Array TypeId} (ho:o.op= .call { callee:= .value (.func f),args:=xs,argTypes:=ts }) {args:Array Value} (hx:xs.map a.eval=args) [he:Ent f] [hG:Glob w0] {v:Value} [hf:FnG f args v]
 (h:seqO Tryz.prog ops (fun w=>Loc w0 w M) l (a.put o.dst v) R):seqO Tryz.prog ops (fun w=>Loc w0 w M) ((o,false) :: l) a R :=
 seqO_call hg (fun w=>by rw [run_fn ho rfl w,hx]) (fun w hS=>hf.calls w (hS.glob hG)) h
theorem sG0 (hg:o.guard=none) {f:FuncId} {ts:Array TypeId} (ho:o.op= .call { callee:= .value (.func f),args:= #[],argTypes:=ts }) [he:Ent f] [hG:Glob w0] {v:Value} [hf:FnG f #[] v]
 (h:seqO Tryz.prog ops (fun w=>Loc w0 w M) l (a.put o.dst v) R):seqO Tryz.prog ops (fun w=>Loc w0 w M) ((o,false) :: l) a R:=sG (args:= #[]) hg ho (by simp) h
theorem sG1 (hg:o.guard=none) {f:FuncId} {x:Operand} {ts:Array TypeId} (ho:o.op= .call { callee:= .value (.func f),args:= #[x],argTypes:=ts }) {r:Array Value} (hx:a.eval x= .agg r) [he:Ent f] [hG:Glob w0] {v:Value} [hf:FnG f #[.agg r] v]
 (h:seqO Tryz.prog ops (fun w=>Loc w0 w M) l (a.put o.dst v) R):seqO Tryz.prog ops (fun w=>Loc w0 w M) ((o,false) :: l) a R:=sG (args:= #[.agg r]) hg ho (by simp [hx]) h
theorem sG2 (hg:o.guard=none) {f:FuncId} {x y:Operand} {ts:Array TypeId} (ho:o.op= .call { callee:= .value (.func f),args:= #[x,y],argTypes:=ts }) {r s:Array Value} (hx:a.eval x= .agg r) (hy:a.eval y= .agg s) [he:Ent f] [hG:Glob w0] {v:Value} [hf:FnG f #[.agg r,.agg s] v]
 (h:seqO Tryz.prog ops (fun w=>Loc w0 w M) l (a.put o.dst v) R):seqO Tryz.prog ops (fun w=>Loc w0 w M) ((o,false) :: l) a R:=sG (args:= #[.agg r,.agg s]) hg ho (by simp [hx,hy]) h
end
instance iGlob1 (w:World) [h:Glob w]:WasR w 1 (R3.rowEl (R3.El.of pB.x.val)):=wasR_row h.bx (by have:=h.lt;omega)
instance iGlob2 (w:World) [h:Glob w]:WasR w 2 (R3.rowEl (R3.El.of pB.y.val)):=wasR_row h.by_ (by have:=h.lt;omega)
instance iGlob3 (w:World) [h:Glob w]:WasR w 4 (R3.rowEl R3.dE):=wasR_row h.dd (by have:=h.lt;omega)
end Go.Proofs.YtoifhhljfaoejaaGreatDoor
