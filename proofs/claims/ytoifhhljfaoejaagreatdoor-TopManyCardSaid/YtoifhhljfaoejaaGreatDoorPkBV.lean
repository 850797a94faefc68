/-
  Lemmas of the law, part 48: the walks of the functions that it calls and the plain facts about them. No condition beyond those written.
-/
import Derived.Lib.AppendStr
import Derived.Test.YtoifhhljfaoejaaGreatDoorPkAA
import Derived.Test.YtoifhhljfaoejaaGreatDoorPkBS
import Derived.Test.YtoifhhljfaoejaaGreatDoorPkBU
namespace Go.Proofs.YtoifhhljfaoejaaGreatDoor
open Go Go.RowKit Go.Shelf
set_option linter.unusedVariables false
set_option linter.unusedSimpArgs false
set_option linter.unusedSectionVars false
theorem strCells_strB (l:List (BitVec 8)):Lib.strCells (strB l)=encB l:=by
 unfold Lib.strCells strB encB
 simp only [List.map_map]
 refine List.map_congr_left fun x _=>?_
 simp [B8,Nat.mod_eq_of_lt x.isLt]
theorem strB_size (l:List (BitVec 8)):(strB l).size=l.length:=by
 have:=Lib.strCells_length (strB l)
 rw [strCells_strB,encB_length] at this
 exact this.symm
section
variable {w:World}
theorem run_append_str {ty:TypeId} {g n cap:Nat} {cur:Array Value} {xs l:List (BitVec 8)} (hr:OwnR cur n cap (encB xs)) (hg:w.heap[g]?=some (.cells cur 5 (0,0))) (hsz:n+l.length≤100000000000) :
 ∃ g' cap' cur' w',(Builtin.append_ #[29,9] ty #[.slice (some ⟨g,0,none⟩) n cap,.string (strB l)]).run Tryz.prog w= .ok (.slice (some ⟨g',0,none⟩) (n+l.length) cap') w' ∧
  OwnR cur' (n+l.length) cap' (encB (xs ++ l))∧w.grownBy w' (some g)∧w'.heap[g']?=some (.cells cur' 5 (0,0))∧(g'=g∨w.heap.size≤g'):=by
 obtain ⟨i,z,hi,hz,hs1,hb,hzs⟩:=(inferInstance:Elt 29 5).info
 have hsl:=strB_size l
 have hown:w.ownsRow 0 5 1 (.slice (some ⟨g,0,none⟩) n cap) n (encB xs):=⟨by rw [hr.len];omega,.inr ⟨g,cap,cur,rfl,Nat.zero_le _,hg,hr.le,hr.max,by rw [hr.size];omega,by rw [Nat.mul_one];exact hr.take⟩⟩
 have hle:=hr.le
 by_cases hroom:n+l.length≤cap
 ·have hrun:=Lib.run_append_room_string (P:=Tryz.prog) w 29 9 ty 5 i Tryz.underlying29 Tryz.underlying9 hi hs1 g n cap cur hg (strB l) (by rw [hsl];exact hroom) (by rw [hsl,hr.size];exact hroom)
  rw [hsl,strCells_strB] at hrun
  refine ⟨g,cap,_,_,hrun,⟨by rw [encB_append,List.length_append,hr.len,encB_length],encB_one' _,?_,hroom,hr.max,?_⟩,⟨rfl,rfl,rfl,by simp,fun k _ hk=>setRow_other w g k _ (fun e=>hk (by rw [e]))⟩,setRow_heap w g cur _ _ _ hg,.inl rfl⟩
  ·simp only [List.size_toArray,List.length_append,List.length_take,List.length_drop,Array.length_toList,hr.size,encB_length]
   omega
  ·rw [hr.take,encB_append]
   have:n+l.length=(encB xs ++ encB l).length:=by rw [List.length_append,hr.len,encB_length]
   rw [this]
   exact List.take_left
 ·have hrun:=Lib.run_append_grow_string (P:=Tryz.prog) w 29 9 ty 5 i z Tryz.underlying29 Tryz.underlying9 hi hz ⟨g,0,none⟩ n cap (encB xs) (by rw [hs1,hr.len,Nat.mul_one]) (hown.cells (g:=g) rfl) (strB l) (by rw [hsl];omega) (by rw [hsl];omega)
   (growslice_fits (by rw [hsl];omega) (Nat.le_trans (Nat.mul_le_mul_left _ hb) (by rw [hsl];omega)))
  rw [hsl,strCells_strB] at hrun
  have hge:=grownCap_ge w (n+l.length) cap 5
  refine ⟨_,_,_,_,hrun,⟨by rw [encB_append,List.length_append,hr.len,encB_length],encB_one' _,?_,hge,grownCap_le_maxLen w _ _ _ (by unfold maxLen;omega),?_⟩,⟨rfl,rfl,rfl,by simp,fun k hk _=>heap_alloc_old w.drew _ hk⟩,heap_alloc_new w.drew _,.inr (Nat.le_refl _)⟩
  ·simp only [Array.size_append,List.size_toArray,size_zeroCells,hzs,hr.len,encB_length]
   omega
  ·have:n+l.length=(encB xs ++ encB l).length:=by rw [List.length_append,hr.len,encB_length]
   simp only [Array.toList_append,encB_append]
   rw [this]
   exact List.take_left
end
section
variable {o:Oper} {a:Act} {w0 w:World} {M M':Mem} {Q:Exit→Act→World→Prop} {K:Act→World→Prop}
theorem eAppStr (l:List (BitVec 8)) (hL:Loc w0 w M) {s x:Operand} (ho:o.op= .call { callee:= .builtin .append,args:= #[s,x],argTypes:= #[29,9] })
 {g n cap:Nat} (hs:a.eval s= .slice (some ⟨g,0,none⟩) n cap) {cur:Array Value} [hm:At M g cur 5] {xs:List (BitVec 8)} [hr:OwnR cur n cap (encB xs)] {F:Nat→Array Value→Mem} [hf:Reps M g F]
 (hx:a.eval x= .string (strB l)) (hsz:n+l.length≤100000000000)
 (h:∀ g' cap' cur' w',OwnR cur' (n+l.length) cap' (encB (xs ++ l))→Loc w0 w' (F g' cur')→K (a.put o.dst (.slice (some ⟨g',0,none⟩) (n+l.length) cap')) w'):o.wp Tryz.prog a w K Q:=by
 obtain ⟨g',cap',cur',w',hrun,h1,h2,h3,h4⟩:=run_append_str (ty:=o.type) (l:=l) hr (hL.get hm.mem) hsz
 unfold Oper.wp execOp
 simp only [ho,resolve,invoke,builtin,Sem.run_bind,Sem.run_pure,Result.andThen_ok,List.map_toArray,List.map_cons,List.map_nil,hs,hx,hrun]
 exact h g' cap' cur' w' h1 (hL.reps hm.mem hf h2 h3 h4)
theorem lBS4t {ops:Array Oper} {rest:List Oper} (hL:Loc w0 w M) (hg:o.guard=none) {t e:TypeId} {x y z' q:Operand} (ho:o.op= .buildSlice t 4 #[(0,x),(1,y),(2,z'),(3,q)]) [he:Elt t e] {s1 s2 s3 s4:ByteArray} (hx:a.eval x= .string s1) (hy:a.eval y= .string s2) (hz':a.eval z'= .string s3) (hq:a.eval q= .string s4)
 (h:∀ b w',Loc w0 w' ((b, #[.string s1,.string s2,.string s3,.string s4],e) :: M)→wpList Tryz.prog ops Q rest (a.put o.dst (.slice (some ⟨b,0,none⟩) 4 4)) w'):wpList Tryz.prog ops Q (o :: rest) a w :=
 wpList_plain hg fun K hK=>by
  obtain ⟨i,z,hi,hz,hs1,hb,hzs⟩:=he.info
  refine wp_buildSlice t e 4 #[(0,x),(1,y),(2,z'),(3,q)] ho #[.string s1,.string s2,.string s3,.string s4] i z he.und hi hz (by rw [hs1];decide) (by rw [hs1];decide) ?_ (hK _ _ (h _ _ (hL.alloc #[.string s1,.string s2,.string s3,.string s4] e)))
  rw [hs1]
  have e:(Array.map (fun (y:Nat×Operand)=>(y.1,a.eval y.2)) #[(0,x),(1,y),(2,z'),(3,q)]).toList=[(0,.string s1),(1,.string s2),(2,.string s3),(3,.string s4)]:=by simp [hx,hy,hz',hq]
  rw [e]
  have e1:Array.range 4= #[0,1,2,3]:=rfl
  simp [Instr.fill,Value.cells,e1]
end
theorem info_str:(Tryz.prog.info? 9).map (fun i=>(i.zero,i.size,i.bytes))=some (some (.string ByteArray.empty),1,16):=by kernel_rfl
instance eltT:Elt 85 9:=elt_of Tryz.underlying85 info_str (by omega) rfl
instance iSet1:ScTy 9:=⟨fun w=>by kernel_rfl,by kernel_rfl⟩
def setR (a b c d:Nat→BitVec 8):Array Value:=rowB 32 a ++ rowB 32 b ++ rowB 32 c ++ rowB 32 d
abbrev z32:Nat→BitVec 8:=fun _=>0
section
variable (a b c d x:Nat→BitVec 8) {u:TypeId}
theorem setR_size:(setR a b c d).size=128:=by simp [setR,rowB_size]
instance iSet2:Row1 (setR a b c d) 128:=⟨setR_size _ _ _ _,by simp only [setR,Array.all_append,rowB_oneCell,Bool.and_self]⟩
instance setP0:Part (setR a b c d) u 0 24 (rowB 32 a):=part_mid (pre:= #[]) (post:=rowB 32 b ++ rowB 32 c ++ rowB 32 d) (by simp only [setR,Array.append_assoc,Array.empty_append]) rfl
instance setP1:Part (setR a b c d) u 32 24 (rowB 32 b):=part_mid (pre:=rowB 32 a) (post:=rowB 32 c ++ rowB 32 d) (by simp only [setR,Array.append_assoc]) (by simp [rowB_size])
instance setP2:Part (setR a b c d) u 64 24 (rowB 32 c):=part_mid (pre:=rowB 32 a ++ rowB 32 b) (post:=rowB 32 d) (by simp only [setR,Array.append_assoc]) (by simp [rowB_size])
instance setP3:Part (setR a b c d) u 96 24 (rowB 32 d):=part_mid (pre:=rowB 32 a ++ rowB 32 b ++ rowB 32 c) (post:= #[]) (by simp only [setR,Array.append_empty]) (by simp [rowB_size])
instance setQ0:Splice (setR a b c d) 0 (rowB 32 x) (setR x b c d):=by
 have:=splice_mid #[] (rowB 32 a) (rowB 32 x) (rowB 32 b ++ rowB 32 c ++ rowB 32 d) 0 rfl (by simp [rowB_size])
 simpa only [setR,Array.append_assoc,Array.empty_append] using this
instance setQ1:Splice (setR a b c d) 32 (rowB 32 x) (setR a x c d):=by
 have:=splice_mid (rowB 32 a) (rowB 32 b) (rowB 32 x) (rowB 32 c ++ rowB 32 d) 32 (by simp [rowB_size]) (by simp [rowB_size])
 simpa only [setR,Array.append_assoc] using this
instance setQ2:Splice (setR a b c d) 64 (rowB 32 x) (setR a b x d):=by
 have:=splice_mid (rowB 32 a ++ rowB 32 b) (rowB 32 c) (rowB 32 x) (rowB 32 d) 64 (by simp [rowB_size]) (by simp [rowB_size])
 simpa only [setR,Array.append_assoc] using this
instance setQ3:Splice (setR a b c d) 96 (rowB 32 x) (setR a b c x):=by
 have:=splice_mid (rowB 32 a ++ rowB 32 b ++ rowB 32 c) (rowB 32 d) (rowB 32 x) #[] 96 (by simp [rowB_size]) (by simp [rowB_size])
 simpa only [setR,Array.append_empty] using this
end
instance iSet3:RowTy 26 128:=⟨⟨_,Tryz.underlying26,rfl⟩,by kernel_rfl⟩
instance iSet4:RowZ 26 (setR z32 z32 z32 z32):=⟨by kernel_rfl⟩
instance iSet5:RowZ 86 (setR z32 z32 z32 z32):=⟨by kernel_rfl⟩
theorem build_set (a b c d:Nat→BitVec 8) (w:World):(Instr.build 26 #[(0,.agg (rowB 32 a)),(1,.agg (rowB 32 b)),(2,.agg (rowB 32 c)),(3,.agg (rowB 32 d))]).run Tryz.prog w= .ok (.agg (setR a b c d)) w:=by kernel_rfl
def nmRoot:List (BitVec 8):=[114,111,111,116]
def nmSigner:List (BitVec 8):=[115,105,103,110,101,114]
def nmDevice:List (BitVec 8):=[100,101,118,105,99,101]
def nmKey:List (BitVec 8):=[107,101,121]
instance entSha:Ent 29:=Ent.of Tryz.func29 (by kernel_rfl) rfl
def kOf (seed:Int) (nm:List (BitVec 8)):Nat→BitVec 8:=sha (packI seed ++ nm)
set_option maxRecDepth 100000 in
set_option maxHeartbeats 400000 in
theorem setOf_any (seed:Int) (hs: -9223372036854775808≤seed∧seed≤9223372036854775807) (w:World) (hk:KAt w):Calls Tryz.prog 9 #[.int .i64 seed] w fun e w'=>e= .returned (.agg (setR (kOf seed nmRoot) (kOf seed nmSigner) (kOf seed nmDevice) (kOf seed nmKey)))∧Below w.heap.size w w':=by
 have hL:=Loc.nil w
 have HKW:=Lib.hid (fun w1 (h:Below w.heap.size w w1)=>hk.below h)
 have HONE:=Lib.hid (fun w1=>(refOne_any seed w1 hs).mono fun e w' h=>(show ∃ g cap cur,e= .returned (.slice (some ⟨g,0,none⟩) 8 cap)∧OwnR cur 8 cap (encB (packI seed))∧w1.heap.size≤g∧w'.heap[g]?=some (.cells cur 5 (0,0))∧Below w1.heap.size w1 w' from by have h':=h;unfold Fresh at h';rw [packI_length] at h';exact h'))
 have HS0:=Lib.hid (fun w1 (hk:KAt w1) v (h:BRow w1 v (packI seed ++ [114,111,111,116]))=>(show Calls Tryz.prog 29 #[v] w1 fun e w'=>e= .returned (.agg (rowB 32 (kOf seed nmRoot)))∧Below w1.heap.size w1 w' from refSha_any v _ w1 h (by rw [List.length_append,packI_length];decide) hk))
 have HS1:=Lib.hid (fun w1 (hk:KAt w1) v (h:BRow w1 v (packI seed ++ [115,105,103,110,101,114]))=>(show Calls Tryz.prog 29 #[v] w1 fun e w'=>e= .returned (.agg (rowB 32 (kOf seed nmSigner)))∧Below w1.heap.size w1 w' from refSha_any v _ w1 h (by rw [List.length_append,packI_length];decide) hk))
 have HS2:=Lib.hid (fun w1 (hk:KAt w1) v (h:BRow w1 v (packI seed ++ [100,101,118,105,99,101]))=>(show Calls Tryz.prog 29 #[v] w1 fun e w'=>e= .returned (.agg (rowB 32 (kOf seed nmDevice)))∧Below w1.heap.size w1 w' from refSha_any v _ w1 h (by rw [List.length_append,packI_length];decide) hk))
 have HS3:=Lib.hid (fun w1 (hk:KAt w1) v (h:BRow w1 v (packI seed ++ [107,101,121]))=>(show Calls Tryz.prog 29 #[v] w1 fun e w'=>e= .returned (.agg (rowB 32 (kOf seed nmKey)))∧Below w1.heap.size w1 w' from refSha_any v _ w1 h (by rw [List.length_append,packI_length];decide) hk))
 clear hs hk
 generalize kOf seed nmRoot=k0 at *
 generalize kOf seed nmSigner=k1 at *
 generalize kOf seed nmDevice=k2 at *
 generalize kOf seed nmKey=k3 at *
 generalize packI seed=ps at *
 go_enter Tryz.func9,Tryz.ntmps9
 go_wp2_with (first | refine aU ?_ | ((with_reducible refine gS 2 ?_);refine aBp ?_;clear hL;intro b2 w1 hL) | ((with_reducible refine gS 4 ?_);refine aBp ?_;clear hL;intro b4 w1 hL) | ((with_reducible refine gS 6 ?_);refine lBS4t hL rfl rfl rfl rfl rfl rfl ?_;intro b6;clear hL;intro w1 hL) | (refine aL3S6p ?_;clear hL;intro w1 hL))
 go_loopw [5] (fun kk wr=>(kk= .int .i64 0∧Loc w wr [(b4,setR z32 z32 z32 z32,86),(b6, #[.string ⟨#[114,111,111,116]⟩,.string ⟨#[115,105,103,110,101,114]⟩,.string ⟨#[100,101,118,105,99,101]⟩,.string ⟨#[107,101,121]⟩],9),(b2,setR z32 z32 z32 z32,26)]) ∨
  (kk= .int .i64 1∧Loc w wr [(b4,setR k0 z32 z32 z32,86),(b6, #[.string ⟨#[114,111,111,116]⟩,.string ⟨#[115,105,103,110,101,114]⟩,.string ⟨#[100,101,118,105,99,101]⟩,.string ⟨#[107,101,121]⟩],9),(b2,setR z32 z32 z32 z32,26)]) ∨
  (kk= .int .i64 2∧Loc w wr [(b4,setR k0 k1 z32 z32,86),(b6, #[.string ⟨#[114,111,111,116]⟩,.string ⟨#[115,105,103,110,101,114]⟩,.string ⟨#[100,101,118,105,99,101]⟩,.string ⟨#[107,101,121]⟩],9),(b2,setR z32 z32 z32 z32,26)]) ∨
  (kk= .int .i64 3∧Loc w wr [(b4,setR k0 k1 k2 z32,86),(b6, #[.string ⟨#[114,111,111,116]⟩,.string ⟨#[115,105,103,110,101,114]⟩,.string ⟨#[100,101,118,105,99,101]⟩,.string ⟨#[107,101,121]⟩],9),(b2,setR z32 z32 z32 z32,26)]) ∨
  (kk= .int .i64 4∧Loc w wr [(b4,setR k0 k1 k2 k3,86),(b6, #[.string ⟨#[114,111,111,116]⟩,.string ⟨#[115,105,103,110,101,114]⟩,.string ⟨#[100,101,118,105,99,101]⟩,.string ⟨#[107,101,121]⟩],9),(b2,setR z32 z32 z32 z32,26)])) (fun kk _=>4 - (intOf kk).toNat)
 case atStart=>exact .inl ⟨rfl,hL⟩
 case round =>
  clear hL
  rcases hrel with ⟨rfl,hL⟩ | ⟨rfl,hL⟩ | ⟨rfl,hL⟩ | ⟨rfl,hL⟩ | ⟨rfl,hL⟩
  ·skip
   go_wp2_with (first | refine aU ?_ | (refine aL3S6p ?_;clear hL;intro w1 hL))
   refine wp_region_mix (S:=fun w'=>∃ x,Loc w w' [(b4,x,86),(b6, #[.string ⟨#[114,111,111,116]⟩,.string ⟨#[115,105,103,110,101,114]⟩,.string ⟨#[100,101,118,105,99,101]⟩,.string ⟨#[107,101,121]⟩],9),(b2,setR z32 z32 z32 z32,26)]) 11 (by kernel_rfl) (by kernel_rfl) (⟨_,hL.drew⟩) (fun hHeld=>?_)
   replace hL:=hL.drew
   refine tg 0 hHeld ?_
   refine p7 ?_
   refine tg 1 hHeld ?_
   refine p7 ?_
   refine tg 3 hHeld ?_
   refine p7 ?_
   refine tg 4 hHeld ?_
   refine p7 ?_
   refine tg 5 hHeld ?_
   refine p7 ?_
   refine tz 6 hHeld ?_
   refine p7 ?_
   refine wpAnyH_ready (rs:=[2]) (by kernel_rfl) (by simp) ((AllReadyH.cons rfl (fun K hK=>?_) AllReadyH.nil))
   rw [if_pos (by rfl)]
   refine eCall rfl (by simp only [List.map_toArray,List.map_cons,List.map_nil];rfl) ((HONE.out _).mono ?_)
   rintro e w1 ⟨g13,cap13,cur13,rfl,hr13,hg13,hc13,hb13⟩;refine ⟨_,rfl,?_⟩;have hL1:=hL.fresh hb13 hg13 hc13;clear hb13 hg13 hc13
   clear hL;have hL:=hL1;clear hL1
   refine hK.out _ _ (⟨_,hL.pop⟩) (fun hHeld2=>?_)
   clear hK K hHeld;have hHeld:=hHeld2;clear hHeld2
   refine p7 ?_
   refine wpAnyH_ready (rs:=[7]) (by kernel_rfl) (by simp) ((AllReadyH.cons rfl (fun K hK=>?_) AllReadyH.nil))
   rw [if_pos (by rfl)]
   refine eAppStr [114,111,111,116] hL rfl rfl rfl (by first | omega | (simp;omega) | simp) fun g18 cap18 cur18 w1 hr18 hL1=>?_
   clear hL;have hL:=hL1;clear hL1
   refine hK.out _ _ (⟨_,hL.pop⟩) (fun hHeld2=>?_)
   clear hK K hHeld;have hHeld:=hHeld2;clear hHeld2
   refine p7 ?_
   refine wpAnyH_ready (rs:=[8]) (by kernel_rfl) (by simp) ((AllReadyH.cons rfl (fun K hK=>?_) AllReadyH.nil))
   rw [if_pos (by rfl)]
   refine eCall rfl (by simp only [List.map_toArray,List.map_cons,List.map_nil];rfl) ((HS0.out _ (HKW.out _ hL.bel) (.slice (some ⟨g18,0,none⟩) (8+4) cap18) (See.bytes hL)).mono ?_)
   rintro e w1 ⟨rfl,hb1⟩;refine ⟨_,rfl,?_⟩;have hL1:=hL.keep hb1;clear hb1
   clear hL;have hL:=hL1;clear hL1
   refine hK.out _ _ (⟨_,hL.pop⟩) (fun hHeld2=>?_)
   clear hK K hHeld;have hHeld:=hHeld2;clear hHeld2
   refine p7 ?_
   refine tg 9 hHeld ?_
   refine p7 ?_
   refine wpAnyH_ready (rs:=[10]) (by kernel_rfl) (by simp) ((AllReadyH.cons rfl (fun K hK=>?_) AllReadyH.nil))
   rw [if_pos (by rfl)]
   refine eAny ?_;intro w1 hL1
   clear hL;have hL:=hL1;clear hL1
   refine hK.out _ _ (⟨_,hL.pop⟩) (fun hHeld2=>?_)
   clear hK K hHeld;have hHeld:=hHeld2;clear hHeld2
   refine p7 ?_
   refine wpAnyH_done (by kernel_rfl) (NoPanic.normal ?_) _
   clear hHeld
   have hL1:=Loc.rem g18 hL
   clear hL;have hL:=hL1;clear hL1
   go_wp2_with (first | refine aU ?_ | (refine aL3S6p ?_;clear hL;intro w1 hL))
   go_roundw
   case rel=>exact .inr (.inl ⟨rfl,hL⟩)
   case measure=>simp only [intOf];decide
  ·skip
   go_wp2_with (first | refine aU ?_ | (refine aL3S6p ?_;clear hL;intro w1 hL))
   refine wp_region_mix (S:=fun w'=>∃ x,Loc w w' [(b4,x,86),(b6, #[.string ⟨#[114,111,111,116]⟩,.string ⟨#[115,105,103,110,101,114]⟩,.string ⟨#[100,101,118,105,99,101]⟩,.string ⟨#[107,101,121]⟩],9),(b2,setR z32 z32 z32 z32,26)]) 11 (by kernel_rfl) (by kernel_rfl) (⟨_,hL.drew⟩) (fun hHeld=>?_)
   replace hL:=hL.drew
   refine tg 0 hHeld ?_
   refine p7 ?_
   refine tg 1 hHeld ?_
   refine p7 ?_
   refine tg 3 hHeld ?_
   refine p7 ?_
   refine tg 4 hHeld ?_
   refine p7 ?_
   refine tg 5 hHeld ?_
   refine p7 ?_
   refine tz 6 hHeld ?_
   refine p7 ?_
   refine wpAnyH_ready (rs:=[2]) (by kernel_rfl) (by simp) ((AllReadyH.cons rfl (fun K hK=>?_) AllReadyH.nil))
   rw [if_pos (by rfl)]
   refine eCall rfl (by simp only [List.map_toArray,List.map_cons,List.map_nil];rfl) ((HONE.out _).mono ?_)
   rintro e w1 ⟨g13,cap13,cur13,rfl,hr13,hg13,hc13,hb13⟩;refine ⟨_,rfl,?_⟩;have hL1:=hL.fresh hb13 hg13 hc13;clear hb13 hg13 hc13
   clear hL;have hL:=hL1;clear hL1
   refine hK.out _ _ (⟨_,hL.pop⟩) (fun hHeld2=>?_)
   clear hK K hHeld;have hHeld:=hHeld2;clear hHeld2
   refine p7 ?_
   refine wpAnyH_ready (rs:=[7]) (by kernel_rfl) (by simp) ((AllReadyH.cons rfl (fun K hK=>?_) AllReadyH.nil))
   rw [if_pos (by rfl)]
   refine eAppStr [115,105,103,110,101,114] hL rfl rfl rfl (by first | omega | (simp;omega) | simp) fun g18 cap18 cur18 w1 hr18 hL1=>?_
   clear hL;have hL:=hL1;clear hL1
   refine hK.out _ _ (⟨_,hL.pop⟩) (fun hHeld2=>?_)
   clear hK K hHeld;have hHeld:=hHeld2;clear hHeld2
   refine p7 ?_
   refine wpAnyH_ready (rs:=[8]) (by kernel_rfl) (by simp) ((AllReadyH.cons rfl (fun K hK=>?_) AllReadyH.nil))
   rw [if_pos (by rfl)]
   refine eCall rfl (by simp only [List.map_toArray,List.map_cons,List.map_nil];rfl) ((HS1.out _ (HKW.out _ hL.bel) (.slice (some ⟨g18,0,none⟩) (8+6) cap18) (See.bytes hL)).mono ?_)
   rintro e w1 ⟨rfl,hb1⟩;refine ⟨_,rfl,?_⟩;have hL1:=hL.keep hb1;clear hb1
   clear hL;have hL:=hL1;clear hL1
   refine hK.out _ _ (⟨_,hL.pop⟩) (fun hHeld2=>?_)
   clear hK K hHeld;have hHeld:=hHeld2;clear hHeld2
   refine p7 ?_
   refine tg 9 hHeld ?_
   refine p7 ?_
   refine wpAnyH_ready (rs:=[10]) (by kernel_rfl) (by simp) ((AllReadyH.cons rfl (fun K hK=>?_) AllReadyH.nil))
   rw [if_pos (by rfl)]
   refine eAny ?_;intro w1 hL1
   clear hL;have hL:=hL1;clear hL1
   refine hK.out _ _ (⟨_,hL.pop⟩) (fun hHeld2=>?_)
   clear hK K hHeld;have hHeld:=hHeld2;clear hHeld2
   refine p7 ?_
   refine wpAnyH_done (by kernel_rfl) (NoPanic.normal ?_) _
   clear hHeld
   have hL1:=Loc.rem g18 hL
   clear hL;have hL:=hL1;clear hL1
   go_wp2_with (first | refine aU ?_ | (refine aL3S6p ?_;clear hL;intro w1 hL))
   go_roundw
   case rel=>exact .inr (.inr (.inl ⟨rfl,hL⟩))
   case measure=>simp only [intOf];decide
  ·skip
   go_wp2_with (first | refine aU ?_ | (refine aL3S6p ?_;clear hL;intro w1 hL))
   refine wp_region_mix (S:=fun w'=>∃ x,Loc w w' [(b4,x,86),(b6, #[.string ⟨#[114,111,111,116]⟩,.string ⟨#[115,105,103,110,101,114]⟩,.string ⟨#[100,101,118,105,99,101]⟩,.string ⟨#[107,101,121]⟩],9),(b2,setR z32 z32 z32 z32,26)]) 11 (by kernel_rfl) (by kernel_rfl) (⟨_,hL.drew⟩) (fun hHeld=>?_)
   replace hL:=hL.drew
   refine tg 0 hHeld ?_
   refine p7 ?_
   refine tg 1 hHeld ?_
   refine p7 ?_
   refine tg 3 hHeld ?_
   refine p7 ?_
   refine tg 4 hHeld ?_
   refine p7 ?_
   refine tg 5 hHeld ?_
   refine p7 ?_
   refine tz 6 hHeld ?_
   refine p7 ?_
   refine wpAnyH_ready (rs:=[2]) (by kernel_rfl) (by simp) ((AllReadyH.cons rfl (fun K hK=>?_) AllReadyH.nil))
   rw [if_pos (by rfl)]
   refine eCall rfl (by simp only [List.map_toArray,List.map_cons,List.map_nil];rfl) ((HONE.out _).mono ?_)
   rintro e w1 ⟨g13,cap13,cur13,rfl,hr13,hg13,hc13,hb13⟩;refine ⟨_,rfl,?_⟩;have hL1:=hL.fresh hb13 hg13 hc13;clear hb13 hg13 hc13
   clear hL;have hL:=hL1;clear hL1
   refine hK.out _ _ (⟨_,hL.pop⟩) (fun hHeld2=>?_)
   clear hK K hHeld;have hHeld:=hHeld2;clear hHeld2
   refine p7 ?_
   refine wpAnyH_ready (rs:=[7]) (by kernel_rfl) (by simp) ((AllReadyH.cons rfl (fun K hK=>?_) AllReadyH.nil))
   rw [if_pos (by rfl)]
   refine eAppStr [100,101,118,105,99,101] hL rfl rfl rfl (by first | omega | (simp;omega) | simp) fun g18 cap18 cur18 w1 hr18 hL1=>?_
   clear hL;have hL:=hL1;clear hL1
   refine hK.out _ _ (⟨_,hL.pop⟩) (fun hHeld2=>?_)
   clear hK K hHeld;have hHeld:=hHeld2;clear hHeld2
   refine p7 ?_
   refine wpAnyH_ready (rs:=[8]) (by kernel_rfl) (by simp) ((AllReadyH.cons rfl (fun K hK=>?_) AllReadyH.nil))
   rw [if_pos (by rfl)]
   refine eCall rfl (by simp only [List.map_toArray,List.map_cons,List.map_nil];rfl) ((HS2.out _ (HKW.out _ hL.bel) (.slice (some ⟨g18,0,none⟩) (8+6) cap18) (See.bytes hL)).mono ?_)
   rintro e w1 ⟨rfl,hb1⟩;refine ⟨_,rfl,?_⟩;have hL1:=hL.keep hb1;clear hb1
   clear hL;have hL:=hL1;clear hL1
   refine hK.out _ _ (⟨_,hL.pop⟩) (fun hHeld2=>?_)
   clear hK K hHeld;have hHeld:=hHeld2;clear hHeld2
   refine p7 ?_
   refine tg 9 hHeld ?_
   refine p7 ?_
   refine wpAnyH_ready (rs:=[10]) (by kernel_rfl) (by simp) ((AllReadyH.cons rfl (fun K hK=>?_) AllReadyH.nil))
   rw [if_pos (by rfl)]
   refine eAny ?_;intro w1 hL1
   clear hL;have hL:=hL1;clear hL1
   refine hK.out _ _ (⟨_,hL.pop⟩) (fun hHeld2=>?_)
   clear hK K hHeld;have hHeld:=hHeld2;clear hHeld2
   refine p7 ?_
   refine wpAnyH_done (by kernel_rfl) (NoPanic.normal ?_) _
   clear hHeld
   have hL1:=Loc.rem g18 hL
   clear hL;have hL:=hL1;clear hL1
   go_wp2_with (first | refine aU ?_ | (refine aL3S6p ?_;clear hL;intro w1 hL))
   go_roundw
   case rel=>exact .inr (.inr (.inr (.inl ⟨rfl,hL⟩)))
   case measure=>simp only [intOf];decide
  ·skip
   go_wp2_with (first | refine aU ?_ | (refine aL3S6p ?_;clear hL;intro w1 hL))
   refine wp_region_mix (S:=fun w'=>∃ x,Loc w w' [(b4,x,86),(b6, #[.string ⟨#[114,111,111,116]⟩,.string ⟨#[115,105,103,110,101,114]⟩,.string ⟨#[100,101,118,105,99,101]⟩,.string ⟨#[107,101,121]⟩],9),(b2,setR z32 z32 z32 z32,26)]) 11 (by kernel_rfl) (by kernel_rfl) (⟨_,hL.drew⟩) (fun hHeld=>?_)
   replace hL:=hL.drew
   refine tg 0 hHeld ?_
   refine p7 ?_
   refine tg 1 hHeld ?_
   refine p7 ?_
   refine tg 3 hHeld ?_
   refine p7 ?_
   refine tg 4 hHeld ?_
   refine p7 ?_
   refine tg 5 hHeld ?_
   refine p7 ?_
   refine tz 6 hHeld ?_
   refine p7 ?_
   refine wpAnyH_ready (rs:=[2]) (by kernel_rfl) (by simp) ((AllReadyH.cons rfl (fun K hK=>?_) AllReadyH.nil))
   rw [if_pos (by rfl)]
   refine eCall rfl (by simp only [List.map_toArray,List.map_cons,List.map_nil];rfl) ((HONE.out _).mono ?_)
   rintro e w1 ⟨g13,cap13,cur13,rfl,hr13,hg13,hc13,hb13⟩;refine ⟨_,rfl,?_⟩;have hL1:=hL.fresh hb13 hg13 hc13;clear hb13 hg13 hc13
   clear hL;have hL:=hL1;clear hL1
   refine hK.out _ _ (⟨_,hL.pop⟩) (fun hHeld2=>?_)
   clear hK K hHeld;have hHeld:=hHeld2;clear hHeld2
   refine p7 ?_
   refine wpAnyH_ready (rs:=[7]) (by kernel_rfl) (by simp) ((AllReadyH.cons rfl (fun K hK=>?_) AllReadyH.nil))
   rw [if_pos (by rfl)]
   refine eAppStr [107,101,121] hL rfl rfl rfl (by first | omega | (simp;omega) | simp) fun g18 cap18 cur18 w1 hr18 hL1=>?_
   clear hL;have hL:=hL1;clear hL1
   refine hK.out _ _ (⟨_,hL.pop⟩) (fun hHeld2=>?_)
   clear hK K hHeld;have hHeld:=hHeld2;clear hHeld2
   refine p7 ?_
   refine wpAnyH_ready (rs:=[8]) (by kernel_rfl) (by simp) ((AllReadyH.cons rfl (fun K hK=>?_) AllReadyH.nil))
   rw [if_pos (by rfl)]
   refine eCall rfl (by simp only [List.map_toArray,List.map_cons,List.map_nil];rfl) ((HS3.out _ (HKW.out _ hL.bel) (.slice (some ⟨g18,0,none⟩) (8+3) cap18) (See.bytes hL)).mono ?_)
   rintro e w1 ⟨rfl,hb1⟩;refine ⟨_,rfl,?_⟩;have hL1:=hL.keep hb1;clear hb1
   clear hL;have hL:=hL1;clear hL1
   refine hK.out _ _ (⟨_,hL.pop⟩) (fun hHeld2=>?_)
   clear hK K hHeld;have hHeld:=hHeld2;clear hHeld2
   refine p7 ?_
   refine tg 9 hHeld ?_
   refine p7 ?_
   refine wpAnyH_ready (rs:=[10]) (by kernel_rfl) (by simp) ((AllReadyH.cons rfl (fun K hK=>?_) AllReadyH.nil))
   rw [if_pos (by rfl)]
   refine eAny ?_;intro w1 hL1
   clear hL;have hL:=hL1;clear hL1
   refine hK.out _ _ (⟨_,hL.pop⟩) (fun hHeld2=>?_)
   clear hK K hHeld;have hHeld:=hHeld2;clear hHeld2
   refine p7 ?_
   refine wpAnyH_done (by kernel_rfl) (NoPanic.normal ?_) _
   clear hHeld
   have hL1:=Loc.rem g18 hL
   clear hL;have hL:=hL1;clear hL1
   go_wp2_with (first | refine aU ?_ | (refine aL3S6p ?_;clear hL;intro w1 hL))
   go_roundw
   case rel=>exact .inr (.inr (.inr (.inr (⟨rfl,hL⟩))))
   case measure=>simp only [intOf];decide
  ·skip
   obtain ⟨sr,hsr⟩:∃ sr,sr=setR k0 k1 k2 k3:=⟨_,rfl⟩
   have hB:=build_set k0 k1 k2 k3
   rw [← hsr] at hB
   haveI hS1:Row1 sr 128:=by rw [hsr];infer_instance
   have HSR:=Lib.hid hsr
   clear hsr
   go_wp2_with (first | refine aU ?_ | ((with_reducible show wpList _ _ _ (⟨some 29,.build _ _,_,_,_,_⟩ :: _) _ _);refine lU hL rfl rfl hB rfl ?_;clear hL;intro w1 hL;refine p4 ?_) | (refine aL3S6p ?_;clear hL;intro w1 hL))
   exact bodyPost_ret (results_loc rfl hL rfl) rfl ⟨by rw [HSR.out],hL.bel⟩
instance iSet6:Ent 9:=Ent.of Tryz.func9 (by kernel_rfl) rfl
end Go.Proofs.YtoifhhljfaoejaaGreatDoor
