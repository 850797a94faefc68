/-
  Lemmas of the law, part 33: the walks of the functions that it calls and the plain facts about them. No condition beyond those written.
-/
import Derived.Laws.CopyOwn
import Derived.Laws.AppendOwn
import Derived.Laws.OwnMore
import Derived.Test.YtoifhhljfaoejaaGreatDoorPkAA
import Derived.Test.YtoifhhljfaoejaaGreatDoorPkBC
namespace Go.Proofs.YtoifhhljfaoejaaGreatDoor
open Go.RowKit
set_option linter.unusedVariables false
set_option linter.unusedSimpArgs false
def padK (key:List (BitVec 8)) (x:BitVec 8):List (BitVec 8):=(List.range 64).map fun i=>key.getD i 0 ^^^ x
def keyS (key:List (BitVec 8)):List (BitVec 8):=if key.length≤64 then key else (List.range 32).map (sha key)
def macS (key m:List (BitVec 8)):Nat→BitVec 8:=sha (padK (keyS key) 92 ++ (List.range 32).map (sha (padK (keyS key) 54 ++ m)))
theorem padK_length (key:List (BitVec 8)) (x:BitVec 8):(padK key x).length=64:=by simp [padK]
theorem keyS_short {key:List (BitVec 8)} (h:key.length≤64):keyS key=key:=if_pos h
theorem keyS_long {key:List (BitVec 8)} (h:64<key.length):keyS key=(List.range 32).map (sha key):=if_neg (by omega)
def padT (key:List (BitVec 8)) (x:BitVec 8) (k:Nat):Nat→BitVec 8:=fun i=>if i<k then key.getD i 0 ^^^ x else key.getD i 0
theorem padT_step (key:List (BitVec 8)) (x:BitVec 8) (k:Nat):upd (padT key x k) k (padT key x k k ^^^ x)=padT key x (k+1):=by
 funext i
 unfold upd padT
 by_cases e:i=k
 ·subst e;simp
 ·rw [if_neg e]
  by_cases hi:i<k
  ·rw [if_pos hi,if_pos (by omega)]
  ·rw [if_neg hi,if_neg (by omega)]
theorem padT_full (key:List (BitVec 8)) (x:BitVec 8):(List.range 64).map (padT key x 64)=padK key x:=List.map_congr_left fun i hi=>by
 unfold padT;rw [if_pos (List.mem_range.1 hi)]
theorem rowB_toList (n:Nat) (f:Nat→BitVec 8):(rowB n f).toList=(List.range n).map fun i=>Value.int .u8 (B8 (f i)):=by simp [rowB,row]
theorem splice_key (key:List (BitVec 8)) (x:BitVec 8) (h:key.length≤64):(splice (rowB 64 fun _=>0).toList 0 (encB key)).toArray=rowB 64 (padT key x 0):=by
 apply Array.ext'
 rw [rowB_toList,rowB_toList]
 apply List.ext_getElem
 ·simp [splice,encB];omega
 ·intro i h1 h2
  have hi:i<64:=by simpa using h2
  by_cases hk:i<key.length
  ·simp [splice,encB,padT,hk]
  ·simp [splice,encB,padT,hk,List.getElem_append]
theorem info_one:(Tryz.prog.info? 5).map (·.size)=some 1:=by kernel_rfl
theorem brow_src {w w':World} {a:Option Addr} {n c:Nat} {l:List (BitVec 8)} (h:BRow w (.slice a n c) l) (hb:Below w.heap.size w w') (h0:0<(encB l).length):∃ ad,a=some ad∧∀ (j:Nat) v,(encB l)[j]?=some v→w'.cell? (ad.add j)=some v:=by
 obtain ⟨a',c',e,_,hp⟩:=h
 simp only [Value.slice.injEq] at e
 obtain ⟨rfl,_,_⟩:=e
 have h0:0<l.length:=by simpa [encB] using h0
 obtain ⟨b,off,rfl,hlt,hc⟩:=hp h0
 refine ⟨_,rfl,fun j v hj=>?_⟩
 have hjl:j<l.length:=by
  rcases Nat.lt_or_ge j l.length with h | h
  ·exact h
  ·rw [List.getElem?_eq_none (by simp [encB];exact h)] at hj;cases hj
 rw [Addr.add_mid,hb.cell (p:=⟨b,off+j,none⟩) hlt,hc j hjl]
 simpa [encB,hjl] using hj
theorem encB_one (l:List (BitVec 8)):∀ v∈encB l,v.oneCell'=true:=fun v hv=>by
 obtain ⟨x,_,rfl⟩:=List.mem_map.1 hv
 rfl
set_option maxRecDepth 100000 in
set_option maxHeartbeats 1000000 in
theorem macPadded_any (v:Value) (key:List (BitVec 8)) (x:BitVec 8) (w:World) (hv:BRow w v key) (hl:key.length≤64) :
 Calls Tryz.prog 269 #[v,.int .u8 (B8 x)] w fun e w'=>(∃ g,e= .returned (.slice (some ⟨g,0,none⟩) 64 64)∧BRow w' (.slice (some ⟨g,0,none⟩) 64 64) (padK key x))∧Below w.heap.size w w':=by
 have hmk:∀ w,(Instr.makeSlice 29 (.int .i64 64) (.int .i64 64)).run Tryz.prog w= .ok (.slice (some ⟨w.heap.size,0,none⟩) 64 64) (w.alloc (.cells (rowB 64 fun _=>0) 5)):=make_B 64 (by decide)
 obtain ⟨a,c,e,hv⟩:∃ a c,v= .slice a key.length c∧BRow w (.slice a key.length c) key:=by
  obtain ⟨a,c,rfl,h⟩:=hv
  exact ⟨a,c,rfl,a,c,rfl,h⟩
 subst e
 have HV:=Lib.hid hv
 have HL:=Lib.hid hl
 clear hv hl
 have HG0:=Lib.hid (show (w.alloc (.cells (rowB 64 fun _=>0) 5)).heap[w.heap.size]?=some (.cells (rowB 64 fun _=>0).toList.toArray 5 (0,0)) from by rw [Array.toArray_toList];exact heap_alloc_new _ _)
 have HB0:=Lib.hid (show Below w.heap.size w (w.alloc (.cells (rowB 64 fun _=>0) 5)) from below_allocS (Below.refl _ _) _)
 go_enter Tryz.func269,Tryz.ntmps269
 go_wp2_with (refine wpList_copy_splice rfl (.tmp 8) (.tmp 9) 29 29 rfl 5 Tryz.underlying29 info_one (some ⟨w.heap.size,0,none⟩) a 64 64 key.length c rfl rfl w.heap.size 0 (rowB 64 fun _=>0).toList 5 HG0.out (encB key) (by simp only [encB,List.length_map];exact (Nat.min_eq_left HL.out).symm) (fun h0=>⟨rfl,brow_src HV.out HB0.out h0⟩) (by simp only [encB,List.length_map,Array.length_toList,rowB_size];have:=HL.out;omega) (encB_one key) w.heap.size w HB0.out (Nat.le_refl _) ?_;intro w2 hg2 hb2;have HB2:=Lib.hid hb2;clear hb2)
 have HG2:=Lib.hid (show w2.heap[w.heap.size]?=some (.cells (rowB 64 (padT key x 0)) 5 (0,0)) from by rw [← splice_key key x HL.out];exact hg2.out)
 clear hg2 hmk hv
 go_loopw [13] (fun i wr=>∃ k:Nat,k≤64∧i= .int .i64 k∧wr.heap[w.heap.size]?=some (.cells (rowB 64 (padT key x k)) 5 (0,0))∧Below w.heap.size w wr) (fun i _=>64 - (intOf i).toNat)
 case atStart=>exact ⟨0,by omega,rfl,HG2.out,HB2.out⟩
 case round =>
  clear HG2 HB2
  obtain ⟨k,hk,rfl,hg,hb⟩:=hrel
  have HG:=Lib.hid hg
  have HB:=Lib.hid hb
  clear hg hb
  by_cases hlt:k<64
  ·have hk0:(0:Int)≤(k:Int):=by omega
   have hk1:(k:Int)<64:=by omega
   have co:wr.cell? ⟨w.heap.size,k,none⟩=some (.int .u8 (B8 (padT key x k k))):=cell_rowB HG.out hlt
   have fo:wr.frozen? ⟨w.heap.size,k,none⟩=false:=frozen_of_row wr _ _ _ _ HG.out
   have HST:=Lib.hid (padT_step key x k)
   have hx:=B8_xor (padT key x k k) x
   go_wp2_with fail
   go_roundw
   case rel=>exact ⟨k+1,by omega,by go_num,by rw [← HST.out];exact heap_set_rowB _ HG.out hlt,HB.out.setCell (Nat.le_refl _) _⟩
   case measure=>simp [intOf];omega
  ·obtain rfl:k=64:=by omega
   rw [show ((64:Nat):Int)=64 from rfl]
   go_wp2_with fail
   go_ret
   exact ⟨⟨_,rfl,by rw [← padT_full];exact brow_row HG.out⟩,HB.out⟩
def OwnS (w:World) (base:Nat) (v:Value) (us:List Value):Prop:=w.ownsRow base 29 1 v us.length us
theorem info_sl:(Tryz.prog.info? 29).map (fun i=>(i.zero,i.size,i.bytes))=some (some (.slice none 0 0),1,24):=by kernel_rfl
theorem brows_vals {w:World} {v:Value} {l:List (List (BitVec 8))} (h:BRows w v l):∃ us:List Value,us.length=l.length∧(∀ (i:Nat) (h1:i<us.length) (h2:i<l.length),BRow w us[i] l[i]) ∧
 ∃ a c,v= .slice a us.length c∧(a=none→c=0)∧(0<us.length→∃ b off,a=some ⟨b,off,none⟩∧b<w.heap.size∧∀ (i:Nat) (h:i<us.length),w.cell? ⟨b,off+i,none⟩=some us[i]):=by
 obtain ⟨a,c,rfl,hn,hp⟩:=h
 by_cases h0:l.length=0
 ·exact ⟨[],h0.symm,fun i h1=>absurd h1 (by simp),a,c,by rw [h0];rfl,hn,fun h=>absurd h (by simp)⟩
 ·obtain ⟨b,off,rfl,hb,hc⟩:=hp (by omega)
  have key:∀ i:Nat,∃ x:Value,∀ h:i<l.length,w.cell? ⟨b,off+i,none⟩=some x∧BRow w x l[i]:=fun i=>by
   by_cases h:i<l.length
   ·obtain ⟨x,h1,h2⟩:=hc i h
    exact ⟨x,fun _=>⟨h1,h2⟩⟩
   ·exact ⟨undef,fun h'=>absurd h' h⟩
  refine ⟨(List.range l.length).map fun i=>(key i).choose,by simp,fun i h1 h2=>?_,_,c,by simp,(fun h=>by cases h),fun _=>⟨b,off,rfl,hb,fun i h=>?_⟩⟩
  ·have:=((key i).choose_spec h2).2
   simpa using this
  ·have hi:i<l.length:=by simpa using h
   have:=((key i).choose_spec hi).1
   simpa using this
theorem brow_oneCell {w:World} {v:Value} {l:List (BitVec 8)} (h:BRow w v l):v.oneCell'=true:=by
 obtain ⟨a,c,rfl,_⟩:=h
 rfl
theorem OwnS.brows {w:World} {base:Nat} {v:Value} {us:List Value} (h:OwnS w base v us) {l:List (List (BitVec 8))} (hl:us.length=l.length) (hr:∀ (i:Nat) (h1:i<us.length) (h2:i<l.length),BRow w us[i] l[i]):BRows w v l:=by
 rcases h.2 with ⟨rfl,h0⟩ | ⟨g,cap,cur,rfl,_,hg,_,_,_,htake⟩
 ·exact ⟨none,0,by rw [← hl,h0],fun _=>rfl,fun h=>by omega⟩
 ·refine ⟨_,cap,by rw [hl],(fun hc=>by cases hc),fun _=>⟨g,0,rfl,(Array.getElem?_eq_some_iff.1 hg).1,fun i hi=>⟨us[i]'(by omega),?_,hr i (by omega) hi⟩⟩⟩
  have hc:=World.ownsRow.cells h (g:=g) rfl i (us[i]'(by omega)) (by simp)
  rw [Addr.add_mid] at hc
  exact hc
theorem wpList_append_S {ops:Array Oper} {rest:List Oper} {o:Oper} {a:Act} {w:World} {Q:Exit→Act→World→Prop} (hgd:o.guard=none) (s x:Operand)
 (ho:o.op= .call { callee:= .builtin .append,args:= #[s,x],argTypes:= #[30,30] }) (w0:World)
 (base:Nat) (v:Value) (xs:List Value) (ms l:List (List (BitVec 8))) (hs:a.eval s=v) (hown:OwnS w base v xs) (hml:xs.length=ms.length) (hm:∀ (i:Nat) (h1:i<xs.length) (h2:i<ms.length),BRow w0 xs[i] ms[i])
 (hx:BRows w0 (a.eval x) l) (hb0:Below w0.heap.size w0 w) (hbb:w0.heap.size≤base) (hsz:xs.length+l.length≤10000000) (hbase:base≤w.heap.size)
 (h:∀ v' w',BRows w' v' (ms ++ l)→w.grownBy w' v.ownBlock→wpList Tryz.prog ops Q rest (a.put o.dst v') w'):wpList Tryz.prog ops Q (o :: rest) a w:=by
 have hgrow:∀ w',w.grownBy w' v.ownBlock→Below w0.heap.size w0 w':=fun w' hg=>hb0.grown hg hb0.size (fun k hk=>Nat.le_trans hbb (World.ownsRow.lt hown k hk).1)
 obtain ⟨us,hul,hur,ad,c,e,hn,hp⟩:=brows_vals hx
 obtain ⟨i0,hi0,hz0,hz1,hz2⟩:=info_parts info_sl
 have hfin:∀ v' w',OwnS w' base v' (xs ++ us)→w.grownBy w' v.ownBlock→BRows w' v' (ms ++ l):=fun v' w' ho hg=>ho.brows (by simp [hml,hul]) fun i h1 h2=>by
  by_cases hi:i<xs.length
  ·rw [List.getElem_append_left hi,List.getElem_append_left (by omega)]
   exact (hm i hi (by omega)).below (hgrow w' hg)
  ·rw [List.getElem_append_right (by omega),List.getElem_append_right (by omega)]
   simp only [← hml]
   exact (hur (i - xs.length) (by simp at h1;omega) (by simp at h2;omega)).below (hgrow w' hg)
 cases ad with
 | none =>
  have hl:us=[]:=by
   rcases Nat.eq_zero_or_pos us.length with h0 | h0
   ·exact List.eq_nil_of_length_eq_zero h0
   ·obtain ⟨_,_,hc,_⟩:=hp h0;cases hc
  subst hl
  rw [hn rfl] at e
  refine wpList_append_own_none hgd s x 30 ho base 29 i0 1 Tryz.underlying30 hi0 v _ _ hs hown e ?_
  exact h v w (hfin v w (by rw [List.append_nil];exact hown) (grown_refl _ _)) (grown_refl _ _)
 | some ad =>
  refine wpList_append_own w hgd s x 30 ho base 29 i0 _ 1 24 Tryz.underlying30 hi0 hz0 hz1 hz2 rfl (by decide) v xs.length xs hs hown ad us.length c us e (by simp) ?_ ?_ (by unfold maxLen;omega) (by omega) hbase ?_
  ·intro j u hj
   have hjl:j<us.length:=by
    rcases Nat.lt_or_ge j us.length with h | h
    ·exact h
    ·rw [List.getElem?_eq_none h] at hj;cases hj
   obtain ⟨b,off,hc,hlt,hcell⟩:=hp (by omega)
   cases hc
   rw [Addr.add_mid,hb0.cell (p:=⟨b,off+j,none⟩) hlt,hcell j hjl]
   simpa [hjl] using hj
  ·intro u hu
   obtain ⟨i,hi,rfl⟩:=List.getElem_of_mem hu
   exact brow_oneCell (hur i hi (by omega))
  ·intro v' w' h1 h2 _
   have h1':OwnS w' base v' (xs ++ us):=by unfold OwnS;rw [List.length_append];exact h1
   exact h v' w' (hfin v' w' h1' h2) h2
theorem ownS_one {w:World} {g:Nat} {x:Value} (h:w.heap[g]?=some (.cells #[x] 29 (0,0))):OwnS w g (.slice (some ⟨g,0,none⟩) 1 1) [x] :=
 ⟨rfl,.inr ⟨g,1, #[x],rfl,Nat.le_refl _,h,Nat.le_refl _,by decide,rfl,rfl⟩⟩
set_option maxRecDepth 100000 in
set_option maxHeartbeats 2000000 in
theorem mac_short (v vb:Value) (key:List (BitVec 8)) (l:List (List (BitVec 8))) (w:World) (hv:BRow w v key) (hvb:BRows w vb l) (hk:key.length≤64) (hl:l.length≤999000) (hm:l.flatten.length≤999999000) :
 Calls Tryz.prog 242 #[v,vb] w fun e w'=>e= .returned (.agg (rowB 32 (sha (padK key 92 ++ (List.range 32).map (sha (padK key 54 ++ l.flatten))))))∧Below w.heap.size w w':=by
 obtain ⟨a,c,rfl⟩:=hv.shape
 have hz1:((64:Int)<(key.length:Int))=False:=eq_false (by omega)
 have HL0:=Lib.hid hk
 have HLL:=Lib.hid hl
 have HLM:=Lib.hid hm
 have HB0:=Lib.hid (show Below w.heap.size w (w.alloc (.cells (row 32 fun _=> .int .u8 0) 24)) from below_allocS (Below.refl _ _) _)
 have HR0:=Lib.hid (show (w.alloc (.cells (row 32 fun _=> .int .u8 0) 24)).heap[w.heap.size]?=some (.cells (row 32 fun _=> .int .u8 0) 24 (0,0)) from heap_alloc_new _ _)
 have HK0:=Lib.hid (hv.below HB0.out)
 have HVB0:=Lib.hid (hvb.below HB0.out)
 clear hv hvb hk hl hm
 go_enter Tryz.func242,Tryz.ntmps242
 go_wp2_with (with_reducible refine wpList_alloc_row rfl 24 rfl 32 _ info32 ?_;generalize w.alloc (.cells (row 32 fun _=> .int .u8 0) 24)=w1 at *)
 refine (macPadded_any _ key 54 _ HK0.out HL0.out).mono ?_
 rintro e w2 ⟨⟨g2,rfl,hp2⟩,hb2⟩
 have HP2:=Lib.hid hp2
 have HB2:=Lib.hid (below_keep HB0.out hb2)
 have HR2:=Lib.hid ((hb2.block _ (Array.getElem?_eq_some_iff.1 HR0.out).1).trans HR0.out)
 have HK2:=Lib.hid (HK0.out.below hb2)
 have HVB2:=Lib.hid (HVB0.out.below hb2)
 clear hp2 hb2 HB0 HR0 HK0 HVB0
 go_wp2_with (at_builtin;refine wpList_append_S rfl (.tmp 16) (.tmp 17) rfl w2 w2.heap.size (.slice (some ⟨w2.heap.size,0,none⟩) 1 1) [.slice (some ⟨g2,0,none⟩) 64 64] [padK key 54] l rfl (ownS_one (heap_alloc_new _ _)) rfl (fun i h1 h2=>by obtain rfl:i=0:=(by simpa using h1);exact HP2.out) HVB2.out ((Below.refl _ _).alloc (Nat.le_refl _) _) (Nat.le_refl _) (by have:=HLL.out;simp;omega) (by simp) ?_;intro v3 w3 hbr3 hg3;have HBR3:=Lib.hid hbr3;have HB3:=Lib.hid (show Below w2.heap.size w2 w3 from ((Below.refl w2.heap.size w2).alloc (Nat.le_refl _) _).grown hg3 (by simp) (fun k hk=>by cases hk;exact Nat.le_refl _));clear hbr3 hg3)
 refine (sum_any _ (padK key 54 :: l) _ HBR3.out (by rw [List.length_cons];have:=HLL.out;omega) (by rw [List.flatten_cons,List.length_append,padK_length];have:=HLM.out;omega)).mono ?_
 rintro e w4 ⟨rfl,hb4⟩
 have HB4:=Lib.hid (show Below w2.heap.size w2 w4 from HB3.out.trans (hb4.mono HB3.out.size))
 obtain ⟨h1,hh1⟩:∃ h1,h1=sha (padK key 54 :: l).flatten:=⟨_,rfl⟩
 rw [← hh1]
 have HH1:=Lib.hid hh1
 clear hb4 hh1
 have HZ:=Lib.hid (show (Tryz.prog.info? 24).map (·.size)=some (rowB 32 h1).size by rw [size32,rowB_size])
 go_wp2_with (first
  | (with_reducible refine wpList_alloc_row rfl 24 rfl 32 _ info32 ?_)
  | ((with_reducible show wpList _ _ _ (⟨_,.store 24 _ _,_,_,_,_⟩ :: _) _ _);refine wpList_store_rowTo rfl 24 _ _ rfl rfl _ (rowB 32 h1) rfl rfl 24 _ (heap_alloc_new _ _) HZ.out (by rw [row_size,rowB_size]) (rowB_oneCell _ _) ?_))
 refine p4 ?_
 obtain ⟨gi,egi⟩:∃ gi,gi=w4.heap.size:=⟨_,rfl⟩
 have HB5:=Lib.hid (show Below w2.heap.size w2 ((w4.alloc (.cells (row 32 fun _=> .int .u8 0) 24)).setRow w4.heap.size (rowB 32 h1)) from below_setRow (below_allocS HB4.out _) HB4.out.size _)
 have HI:=Lib.hid (show ((w4.alloc (.cells (row 32 fun _=> .int .u8 0) 24)).setRow w4.heap.size (rowB 32 h1)).heap[gi]?=some (.cells (rowB 32 h1) 24 (0,0)) from by rw [egi];exact heap_setRow_at (heap_alloc_new _ _))
 generalize (w4.alloc (.cells (row 32 fun _=> .int .u8 0) 24)).setRow w4.heap.size (rowB 32 h1)=w5 at *
 rw [← egi]
 clear egi HB4 HB3 HBR3
 have HB6:=Lib.hid (below_keep HB2.out HB5.out)
 have HR6:=Lib.hid ((HB5.out.block _ (Array.getElem?_eq_some_iff.1 HR2.out).1).trans HR2.out)
 have HK6:=Lib.hid (HK2.out.below HB5.out)
 clear HB5 HR2 HK2 HVB2 HB2
 refine wp_region_plan (S:=fun w'=>w5.grownBy w' (some w.heap.size)) [0,2,1,3,4,5] [true,true,false,false,false,false] (by kernel_rfl) (by kernel_rfl) (grown_drew (grown_refl _ _)) (fun _=>?_)
 simp only [List.filterMap_cons,List.filterMap_nil,List.getElem?_toArray,List.getElem?_cons_zero,List.getElem?_cons_succ]
 refine seqH_take (v:=?_) (Or.inl ⟨by rfl,?_⟩) ?_
 rotate_left
 ·(intro w hSw;go_simp;first | done | with_reducible rfl)
 refine p4 ?_
 refine seqH_take (v:=?_) (Or.inl ⟨by rfl,?_⟩) ?_
 rotate_left
 ·(intro w hSw;go_simp;first | done | with_reducible rfl)
 refine p4 ?_
 refine seqH_go (fun K hK=>?_)
 rw [if_pos (by rfl)]
 go_simp
 refine (macPadded_any _ key 92 _ (HK6.out.below (Below.refl _ _).drew) HL0.out).mono ?_;rintro e w6 ⟨⟨g6,rfl,hp6⟩,hbc⟩;have HP6:=Lib.hid hp6;have HB7:=Lib.hid (show Below w5.heap.size w5 w6 from (Below.refl _ _).drew.trans hbc);clear hp6 hbc
 try dsimp only
 refine hK.out _ _ (grown_of_below HB7.out) (fun _=>?_)
 clear hK K
 refine p4 ?_
 refine seqH_go (fun K hK=>?_)
 rw [if_pos (by rfl)]
 go_simp
 refine hK.out _ _ (grown_of_below (below_allocS HB7.out _)) (fun _=>?_)
 clear hK K
 refine p4 ?_
 refine seqH_go (fun K hK=>?_)
 rw [if_pos (by rfl)]
 go_simp
 refine (sum_two _ (padK key 92) ((List.range 32).map h1) _ (brows_two (heap_alloc_new w6 _) (HP6.out.below ((Below.refl _ _).alloc (Nat.le_refl _) _)) ((brow_num HI.out).below (below_allocS HB7.out _))) (by simp [padK_length])).mono ?_;rintro e w7 ⟨rfl,hbc⟩;obtain ⟨h2,hh2⟩:∃ h2,h2=sha (padK key 92 ++ (List.range 32).map h1):=⟨_,rfl⟩;rw [← hh2];have HH2:=Lib.hid hh2;have HB8:=Lib.hid (show Below w5.heap.size w5 w7 from below_keep (below_allocS HB7.out _) hbc);clear hh2 hbc
 try dsimp only
 refine hK.out _ _ (grown_of_below HB8.out) (fun _=>?_)
 clear hK K
 refine p4 ?_
 refine seqH_go (fun K hK=>?_)
 rw [if_pos (by rfl)]
 have HZ2:=Lib.hid (show (Tryz.prog.info? 24).map (·.size)=some (rowB 32 h2).size by rw [size32,rowB_size]);have HR7:=Lib.hid ((HB8.out.block _ (Array.getElem?_eq_some_iff.1 HR6.out).1).trans HR6.out);refine wp_store_row 24 (.tmp 4) (.tmp 24) rfl w.heap.size (rowB 32 h2) rfl rfl 24 _ HR7.out HZ2.out (by rw [rowB_size,row_size]) (rowB_oneCell _ _) ?_
 refine hK.out _ _ (grown_setRow (grown_of_below HB8.out) (.inr rfl) _) (fun _=>?_)
 clear hK K
 refine p4 ?_
 refine seqH_nil (NoPanic.normal ?_)
 go_wp2
 refine bodyPost_ret (results_cell_row rfl _ _ w.heap.size 24 (rowB 32 h2) (0,0) _ rfl (heap_setRow_at HR7.out) Tryz.underlying24 rfl HZ2.out) rfl ?_
 exact ⟨by rw [HH2.out,HH1.out];rfl,below_setRow (below_keep HB6.out HB8.out) (Nat.le_refl _) _⟩
set_option maxRecDepth 100000 in
set_option maxHeartbeats 2000000 in
theorem mac_long (v vb:Value) (key:List (BitVec 8)) (l:List (List (BitVec 8))) (w:World) (hv:BRow w v key) (hvb:BRows w vb l) (hk:64<key.length) (hk2:key.length≤1000000000) (hl:l.length≤999000) (hm:l.flatten.length≤999999000) :
 Calls Tryz.prog 242 #[v,vb] w fun e w'=>e= .returned (.agg (rowB 32 (sha (padK ((List.range 32).map (sha key)) 92 ++ (List.range 32).map (sha (padK ((List.range 32).map (sha key)) 54 ++ l.flatten))))))∧Below w.heap.size w w':=by
 obtain ⟨a,c,rfl⟩:=hv.shape
 have hz1:((64:Int)<(key.length:Int))=True:=eq_true (by omega)
 have HLL:=Lib.hid hl
 have HLM:=Lib.hid hm
 have HKL:=Lib.hid hk2
 have HB9:=Lib.hid (show Below w.heap.size w (w.alloc (.cells (row 32 fun _=> .int .u8 0) 24)) from below_allocS (Below.refl _ _) _)
 have HR9:=Lib.hid (show (w.alloc (.cells (row 32 fun _=> .int .u8 0) 24)).heap[w.heap.size]?=some (.cells (row 32 fun _=> .int .u8 0) 24 (0,0)) from heap_alloc_new _ _)
 have HV9:=Lib.hid (hv.below HB9.out)
 have HVB9:=Lib.hid (hvb.below HB9.out)
 obtain ⟨hk0,hhk⟩:∃ h,h=sha key:=⟨_,rfl⟩
 have HHK:=Lib.hid hhk
 have HL0:=Lib.hid (show ((List.range 32).map hk0).length≤64 by simp)
 have HZK:=Lib.hid (show (Tryz.prog.info? 24).map (·.size)=some (rowB 32 hk0).size by rw [size32,rowB_size])
 rw [← hhk]
 clear hv hvb hk hl hm hk2 hhk
 go_enter Tryz.func242,Tryz.ntmps242
 go_wp2_with (with_reducible refine wpList_alloc_row rfl 24 rfl 32 _ info32 ?_;generalize w.alloc (.cells (row 32 fun _=> .int .u8 0) 24)=w9 at *)
 refine (sum_one _ key _ (brows_one (heap_alloc_new _ _) (HV9.out.below ((Below.refl _ _).alloc (Nat.le_refl _) _))) HKL.out).mono ?_
 rintro e w8 ⟨rfl,hb8⟩
 rw [← HHK.out]
 have HB8:=Lib.hid (show Below w9.heap.size w9 w8 from below_keep (below_allocS (Below.refl w9.heap.size w9) (.cells #[.slice a key.length c] 29)) hb8)
 clear hb8
 go_wp2_with (first
  | (with_reducible refine wpList_alloc_row rfl 24 rfl 32 _ info32 ?_)
  | ((with_reducible show wpList _ _ _ (⟨_,.store 24 _ _,_,_,_,_⟩ :: _) _ _);refine wpList_store_rowTo rfl 24 _ _ rfl rfl _ (rowB 32 hk0) rfl rfl 24 _ (heap_alloc_new _ _) HZK.out (by rw [row_size,rowB_size]) (rowB_oneCell _ _) ?_))
 obtain ⟨gk,egk⟩:∃ gk,gk=w8.heap.size:=⟨_,rfl⟩
 have HB7:=Lib.hid (show Below w9.heap.size w9 ((w8.alloc (.cells (row 32 fun _=> .int .u8 0) 24)).setRow w8.heap.size (rowB 32 hk0)) from below_setRow (below_allocS HB8.out _) HB8.out.size _)
 have HK0:=Lib.hid (show BRow ((w8.alloc (.cells (row 32 fun _=> .int .u8 0) 24)).setRow w8.heap.size (rowB 32 hk0)) (.slice (some ⟨gk,0,none⟩) 32 32) ((List.range 32).map hk0) from by rw [egk];exact brow_num (heap_setRow_at (heap_alloc_new _ _)))
 generalize (w8.alloc (.cells (row 32 fun _=> .int .u8 0) 24)).setRow w8.heap.size (rowB 32 hk0)=w7 at *
 rw [← egk]
 clear egk HB8
 have HB0:=Lib.hid (below_keep HB9.out HB7.out)
 have HR0:=Lib.hid ((HB7.out.block _ (Array.getElem?_eq_some_iff.1 HR9.out).1).trans HR9.out)
 have HVB0:=Lib.hid (HVB9.out.below HB7.out)
 clear HB9 HR9 HV9 HVB9 HB7
 refine (macPadded_any _ ((List.range 32).map hk0) 54 _ HK0.out HL0.out).mono ?_
 rintro e w2 ⟨⟨g2,rfl,hp2⟩,hb2⟩
 have HP2:=Lib.hid hp2
 have HB2:=Lib.hid (below_keep HB0.out hb2)
 have HR2:=Lib.hid ((hb2.block _ (Array.getElem?_eq_some_iff.1 HR0.out).1).trans HR0.out)
 have HK2:=Lib.hid (HK0.out.below hb2)
 have HVB2:=Lib.hid (HVB0.out.below hb2)
 clear hp2 hb2 HB0 HR0 HK0 HVB0
 go_wp2_with (at_builtin;refine wpList_append_S rfl (.tmp 16) (.tmp 17) rfl w2 w2.heap.size (.slice (some ⟨w2.heap.size,0,none⟩) 1 1) [.slice (some ⟨g2,0,none⟩) 64 64] [padK ((List.range 32).map hk0) 54] l rfl (ownS_one (heap_alloc_new _ _)) rfl (fun i h1 h2=>by obtain rfl:i=0:=(by simpa using h1);exact HP2.out) HVB2.out ((Below.refl _ _).alloc (Nat.le_refl _) _) (Nat.le_refl _) (by have:=HLL.out;simp;omega) (by simp) ?_;intro v3 w3 hbr3 hg3;have HBR3:=Lib.hid hbr3;have HB3:=Lib.hid (show Below w2.heap.size w2 w3 from ((Below.refl w2.heap.size w2).alloc (Nat.le_refl _) _).grown hg3 (by simp) (fun k hk=>by cases hk;exact Nat.le_refl _));clear hbr3 hg3)
 refine (sum_any _ (padK ((List.range 32).map hk0) 54 :: l) _ HBR3.out (by rw [List.length_cons];have:=HLL.out;omega) (by rw [List.flatten_cons,List.length_append,padK_length];have:=HLM.out;omega)).mono ?_
 rintro e w4 ⟨rfl,hb4⟩
 have HB4:=Lib.hid (show Below w2.heap.size w2 w4 from HB3.out.trans (hb4.mono HB3.out.size))
 obtain ⟨h1,hh1⟩:∃ h1,h1=sha (padK ((List.range 32).map hk0) 54 :: l).flatten:=⟨_,rfl⟩
 rw [← hh1]
 have HH1:=Lib.hid hh1
 clear hb4 hh1
 have HZ:=Lib.hid (show (Tryz.prog.info? 24).map (·.size)=some (rowB 32 h1).size by rw [size32,rowB_size])
 go_wp2_with (first
  | (with_reducible refine wpList_alloc_row rfl 24 rfl 32 _ info32 ?_)
  | ((with_reducible show wpList _ _ _ (⟨_,.store 24 _ _,_,_,_,_⟩ :: _) _ _);refine wpList_store_rowTo rfl 24 _ _ rfl rfl _ (rowB 32 h1) rfl rfl 24 _ (heap_alloc_new _ _) HZ.out (by rw [row_size,rowB_size]) (rowB_oneCell _ _) ?_))
 refine p4 ?_
 obtain ⟨gi,egi⟩:∃ gi,gi=w4.heap.size:=⟨_,rfl⟩
 have HB5:=Lib.hid (show Below w2.heap.size w2 ((w4.alloc (.cells (row 32 fun _=> .int .u8 0) 24)).setRow w4.heap.size (rowB 32 h1)) from below_setRow (below_allocS HB4.out _) HB4.out.size _)
 have HI:=Lib.hid (show ((w4.alloc (.cells (row 32 fun _=> .int .u8 0) 24)).setRow w4.heap.size (rowB 32 h1)).heap[gi]?=some (.cells (rowB 32 h1) 24 (0,0)) from by rw [egi];exact heap_setRow_at (heap_alloc_new _ _))
 generalize (w4.alloc (.cells (row 32 fun _=> .int .u8 0) 24)).setRow w4.heap.size (rowB 32 h1)=w5 at *
 rw [← egi]
 clear egi HB4 HB3 HBR3
 have HB6:=Lib.hid (below_keep HB2.out HB5.out)
 have HR6:=Lib.hid ((HB5.out.block _ (Array.getElem?_eq_some_iff.1 HR2.out).1).trans HR2.out)
 have HK6:=Lib.hid (HK2.out.below HB5.out)
 clear HB5 HR2 HK2 HVB2 HB2
 refine wp_region_plan (S:=fun w'=>w5.grownBy w' (some w.heap.size)) [0,2,1,3,4,5] [true,true,false,false,false,false] (by kernel_rfl) (by kernel_rfl) (grown_drew (grown_refl _ _)) (fun _=>?_)
 simp only [List.filterMap_cons,List.filterMap_nil,List.getElem?_toArray,List.getElem?_cons_zero,List.getElem?_cons_succ]
 refine seqH_take (v:=?_) (Or.inl ⟨by rfl,?_⟩) ?_
 rotate_left
 ·(intro w hSw;go_simp;first | done | with_reducible rfl)
 refine p4 ?_
 refine seqH_take (v:=?_) (Or.inl ⟨by rfl,?_⟩) ?_
 rotate_left
 ·(intro w hSw;go_simp;first | done | with_reducible rfl)
 refine p4 ?_
 refine seqH_go (fun K hK=>?_)
 rw [if_pos (by rfl)]
 go_simp
 refine (macPadded_any _ ((List.range 32).map hk0) 92 _ (HK6.out.below (Below.refl _ _).drew) HL0.out).mono ?_;rintro e w6 ⟨⟨g6,rfl,hp6⟩,hbc⟩;have HP6:=Lib.hid hp6;have HB7:=Lib.hid (show Below w5.heap.size w5 w6 from (Below.refl _ _).drew.trans hbc);clear hp6 hbc
 try dsimp only
 refine hK.out _ _ (grown_of_below HB7.out) (fun _=>?_)
 clear hK K
 refine p4 ?_
 refine seqH_go (fun K hK=>?_)
 rw [if_pos (by rfl)]
 go_simp
 refine hK.out _ _ (grown_of_below (below_allocS HB7.out _)) (fun _=>?_)
 clear hK K
 refine p4 ?_
 refine seqH_go (fun K hK=>?_)
 rw [if_pos (by rfl)]
 go_simp
 refine (sum_two _ (padK ((List.range 32).map hk0) 92) ((List.range 32).map h1) _ (brows_two (heap_alloc_new w6 _) (HP6.out.below ((Below.refl _ _).alloc (Nat.le_refl _) _)) ((brow_num HI.out).below (below_allocS HB7.out _))) (by simp [padK_length])).mono ?_;rintro e w77 ⟨rfl,hbc⟩;obtain ⟨h2,hh2⟩:∃ h2,h2=sha (padK ((List.range 32).map hk0) 92 ++ (List.range 32).map h1):=⟨_,rfl⟩;rw [← hh2];have HH2:=Lib.hid hh2;have HB8:=Lib.hid (show Below w5.heap.size w5 w77 from below_keep (below_allocS HB7.out _) hbc);clear hh2 hbc
 try dsimp only
 refine hK.out _ _ (grown_of_below HB8.out) (fun _=>?_)
 clear hK K
 refine p4 ?_
 refine seqH_go (fun K hK=>?_)
 rw [if_pos (by rfl)]
 have HZ2:=Lib.hid (show (Tryz.prog.info? 24).map (·.size)=some (rowB 32 h2).size by rw [size32,rowB_size]);have HR7:=Lib.hid ((HB8.out.block _ (Array.getElem?_eq_some_iff.1 HR6.out).1).trans HR6.out);refine wp_store_row 24 (.tmp 4) (.tmp 24) rfl w.heap.size (rowB 32 h2) rfl rfl 24 _ HR7.out HZ2.out (by rw [rowB_size,row_size]) (rowB_oneCell _ _) ?_
 refine hK.out _ _ (grown_setRow (grown_of_below HB8.out) (.inr rfl) _) (fun _=>?_)
 clear hK K
 refine p4 ?_
 refine seqH_nil (NoPanic.normal ?_)
 go_wp2
 refine bodyPost_ret (results_cell_row rfl _ _ w.heap.size 24 (rowB 32 h2) (0,0) _ rfl (heap_setRow_at HR7.out) Tryz.underlying24 rfl HZ2.out) rfl ?_
 exact ⟨by rw [HH2.out,HH1.out];rfl,below_setRow (below_keep HB6.out HB8.out) (Nat.le_refl _) _⟩
theorem mac_any (v vb:Value) (key:List (BitVec 8)) (l:List (List (BitVec 8))) (w:World) (hv:BRow w v key) (hvb:BRows w vb l) (hk:key.length≤1000000000) (hl:l.length≤999000) (hm:l.flatten.length≤999999000) :
 Calls Tryz.prog 242 #[v,vb] w fun e w'=>e= .returned (.agg (rowB 32 (macS key l.flatten)))∧Below w.heap.size w w':=by
 unfold macS
 by_cases h:key.length≤64
 ·rw [keyS_short h]
  exact mac_short v vb key l w hv hvb h hl hm
 ·rw [keyS_long (by omega)]
  exact mac_long v vb key l w hv hvb (by omega) hk hl hm
end Go.Proofs.YtoifhhljfaoejaaGreatDoor
