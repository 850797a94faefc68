/-
  Lemmas of the law, part 17: the walks of the functions that it calls and the plain facts about them. No condition beyond those written.
-/
import Derived.Lib.AppendStr
import Derived.Test.YtoifhhljfaoejaaGreatDoorPkAA
import Derived.Test.YtoifhhljfaoejaaGreatDoorPkAP
import Derived.Test.YtoifhhljfaoejaaGreatDoorPkAK
import Derived.Test.YtoifhhljfaoejaaGreatDoorPkAO
set_option maxRecDepth 100000
set_option maxHeartbeats 8000000
set_option linter.unusedVariables false
set_option linter.unusedSimpArgs false
set_option linter.unusedSectionVars false
namespace Go.Proofs.YtoifhhljfaoejaaGreatDoor
open Go.Proofs.Tryz
section
open Go Go.RowKit Go.Shelf
theorem gL(l:List (BitVec 8)):Lib.strCells (dw l)=an l:=by
 unfold Lib.strCells dw an;simp only[List.map_map];refine List.map_congr_left fun x _=>?_;simp[B8,Nat.mod_eq_of_lt x.isLt]
theorem A1(l:List (BitVec 8)):(dw l).size=l.length:=by
 have:=Lib.strCells_length (dw l);rw[gL,aq]at this;exact this.symm
section
variable {w:World}
theorem pI{ty:TypeId}{g n cap:Nat}{cur:Array Value}{xs l:List (BitVec 8)}(hr:OwnR cur n cap (an xs))(hg:w.heap[g]?=some (.cells cur 5 (0,0)))(hsz:n+l.length≤100000000000) :
 ∃g' cap' cur' w',(Builtin.append_ #[29,9] ty #[.slice (some ⟨g,0,none⟩) n cap,.string (dw l)]).run prog w= .ok (.slice (some ⟨g',0,none⟩) (n+l.length) cap') w' ∧
  OwnR cur' (n+l.length) cap' (an (xs++l))∧w.grownBy w' (some g)∧w'.heap[g']?=some (.cells cur' 5 (0,0))∧(g'=g∨w.heap.size≤g'):=by
 obtain⟨i,z,hi,hz,hs1,hb,hzs⟩:=(inferInstance:Elt 29 5).info;have hsl:=A1 l;have hown:w.ownsRow 0 5 1 (.slice (some ⟨g,0,none⟩) n cap) n (an xs):=⟨by rw[hr.len];omega,.inr ⟨g,cap,cur,rfl,Nat.zero_le _,hg,hr.le,hr.max,by rw[hr.size];omega,by rw[Nat.mul_one];exact hr.take⟩⟩;have hle:=hr.le;by_cases hroom:n+l.length≤cap
 ·have hrun:=Lib.run_append_room_string (P:=prog) w 29 9 ty 5 i underlying29 underlying9 hi hs1 g n cap cur hg (dw l) (by rw[hsl];exact hroom) (by rw[hsl,hr.size];exact hroom)
  rw[hsl,gL]at hrun;refine⟨g,cap,_,_,hrun,⟨by rw[dY,List.length_append,hr.len,aq],bY _,?_,hroom,hr.max,?_⟩,⟨rfl,rfl,rfl,by simp,fun k _ hk=>setRow_other w g k _ (fun e=>hk (by rw[e]))⟩,setRow_heap w g cur _ _ _ hg,.inl rfl⟩
  ·simp only[List.size_toArray,List.length_append,List.length_take,List.length_drop,Array.length_toList,hr.size,aq]
   omega
  ·rw[hr.take,dY]
   have:n+l.length=(an xs++an l).length:=by rw[List.length_append,hr.len,aq]
   rw[this];exact List.take_left
 ·have hrun:=Lib.run_append_grow_string (P:=prog) w 29 9 ty 5 i z underlying29 underlying9 hi hz ⟨g,0,none⟩ n cap (an xs) (by rw[hs1,hr.len,Nat.mul_one]) (hown.cells (g:=g) rfl) (dw l) (by rw[hsl];omega) (by rw[hsl];omega)
   (growslice_fits (by rw[hsl];omega) (Nat.le_trans (Nat.mul_le_mul_left _ hb) (by rw[hsl];omega)))
  rw[hsl,gL]at hrun;have hge:=grownCap_ge w (n+l.length) cap 5;refine⟨_,_,_,_,hrun,⟨by rw[dY,List.length_append,hr.len,aq],bY _,?_,hge,grownCap_le_maxLen w _ _ _ (by unfold maxLen;omega),?_⟩,⟨rfl,rfl,rfl,by simp,fun k hk _=>heap_alloc_old w.drew _ hk⟩,heap_alloc_new w.drew _,.inr (Nat.le_refl _)⟩
  ·simp only[Array.size_append,List.size_toArray,size_zeroCells,hzs,hr.len,aq]
   omega
  ·have:n+l.length=(an xs++an l).length:=by rw[List.length_append,hr.len,aq]
   simp only[Array.toList_append,dY];rw[this];exact List.take_left
end
section
variable {o:Oper} {a:Act} {w0 w:World} {M M':Mem} {Q:Exit→Act→World→Prop} {K:Act→World→Prop}
theorem nP(l:List (BitVec 8))(hL:Loc w0 w M){s x:Operand}(ho:o.op= .call { callee:= .builtin .append,args:= #[s,x],argTypes:= #[29,9] }){g n cap:Nat}(hs:a.eval s= .slice (some ⟨g,0,none⟩) n cap){cur:Array Value}[hm:At M g cur 5]{xs:List (BitVec 8)}[hr:OwnR cur n cap (an xs)]{F:Nat→Array Value→Mem}[hf:Reps M g F](hx:a.eval x= .string (dw l))(hsz:n+l.length≤100000000000)(h:∀g' cap' cur' w',OwnR cur' (n+l.length) cap' (an (xs++l))→Loc w0 w' (F g' cur')→K (a.put o.dst (.slice (some ⟨g',0,none⟩) (n+l.length) cap')) w'):o.wp prog a w K Q:=by
 obtain⟨g',cap',cur',w',hrun,h1,h2,h3,h4⟩:=pI (ty:=o.type) (l:=l) hr (hL.get hm.mem) hsz;unfold Oper.wp execOp;simp only[ho,resolve,invoke,builtin,Sem.run_bind,Sem.run_pure,Result.andThen_ok,List.map_toArray,List.map_cons,List.map_nil,hs,hx,hrun];exact h g' cap' cur' w' h1 (hL.reps hm.mem hf h2 h3 h4)
theorem Kf{ops:Array Oper}{rest:List Oper}(hL:Loc w0 w M)(hg:o.guard=none){t e:TypeId}{x y z' q:Operand}(ho:o.op= .buildSlice t 4 #[(0,x),(1,y),(2,z'),(3,q)])[he:Elt t e]{s1 s2 s3 s4:ByteArray}(hx:a.eval x= .string s1)(hy:a.eval y= .string s2)(hz':a.eval z'= .string s3)(hq:a.eval q= .string s4)(h:∀b w',Loc w0 w' ((b, #[.string s1,.string s2,.string s3,.string s4],e)::M)→wpList prog ops Q rest (a.put o.dst (.slice (some ⟨b,0,none⟩) 4 4)) w'):wpList prog ops Q (o::rest) a w :=
 wpList_plain hg fun K hK=>by
  obtain⟨i,z,hi,hz,hs1,hb,hzs⟩:=he.info;refine wp_buildSlice t e 4 #[(0,x),(1,y),(2,z'),(3,q)] ho #[.string s1,.string s2,.string s3,.string s4] i z he.und hi hz (by rw[hs1];decide) (by rw[hs1];decide) ?_ (hK _ _ (h _ _ (hL.alloc #[.string s1,.string s2,.string s3,.string s4] e)));rw[hs1];have e:(Array.map (fun(y:Nat×Operand)=>(y.1,a.eval y.2)) #[(0,x),(1,y),(2,z'),(3,q)]).toList=[(0,.string s1),(1,.string s2),(2,.string s3),(3,.string s4)]:=by simp[hx,hy,hz',hq]
  rw[e];have e1:Array.range 4= #[0,1,2,3]:=rfl;simp[Instr.fill,Value.cells,e1]
end
theorem DV:(prog.info? 9).map (fun i=>(i.zero,i.size,i.bytes))=some (some (.string ByteArray.empty),1,16):=by kernel_rfl
instance Sf:Elt 85 9:=sm underlying85 DV (by omega) rfl
instance PY:ScTy 9:=⟨fun w=>by kernel_rfl,by kernel_rfl⟩
def bA(a b c d:Nat→BitVec 8):Array Value:=aa 32 a++aa 32 b++aa 32 c++aa 32 d
abbrev z32:Nat→BitVec 8:=fun _=>0
section
variable (a b c d x:Nat→BitVec 8) {u:TypeId}
theorem A2:(bA a b c d).size=128:=by simp[bA,aj]
instance PZ:Row1 (bA a b c d) 128:=⟨A2 _ _ _ _,by simp only[bA,Array.all_append,bU,Bool.and_self]⟩
instance P0:Part (bA a b c d) u 0 24 (aa 32 a):=ce (pre:= #[]) (post:=aa 32 b++aa 32 c++aa 32 d) (by simp only[bA,Array.append_assoc,Array.empty_append]) rfl
instance P8:Part (bA a b c d) u 32 24 (aa 32 b):=ce (pre:=aa 32 a) (post:=aa 32 c++aa 32 d) (by simp only[bA,Array.append_assoc]) (by simp[aj])
instance P9:Part (bA a b c d) u 64 24 (aa 32 c):=ce (pre:=aa 32 a++aa 32 b) (post:=aa 32 d) (by simp only[bA,Array.append_assoc]) (by simp[aj])
instance Qa:Part (bA a b c d) u 96 24 (aa 32 d):=ce (pre:=aa 32 a++aa 32 b++aa 32 c) (post:= #[]) (by simp only[bA,Array.append_empty]) (by simp[aj])
instance Qb:Splice (bA a b c d) 0 (aa 32 x) (bA x b c d):=by
 have:=cG #[] (aa 32 a) (aa 32 x) (aa 32 b++aa 32 c++aa 32 d) 0 rfl (by simp[aj]);simpa only[bA,Array.append_assoc,Array.empty_append] using this
instance Qc:Splice (bA a b c d) 32 (aa 32 x) (bA a x c d):=by
 have:=cG (aa 32 a) (aa 32 b) (aa 32 x) (aa 32 c++aa 32 d) 32 (by simp[aj]) (by simp[aj]);simpa only[bA,Array.append_assoc] using this
instance Qd:Splice (bA a b c d) 64 (aa 32 x) (bA a b x d):=by
 have:=cG (aa 32 a++aa 32 b) (aa 32 c) (aa 32 x) (aa 32 d) 64 (by simp[aj]) (by simp[aj]);simpa only[bA,Array.append_assoc] using this
instance Qe:Splice (bA a b c d) 96 (aa 32 x) (bA a b c x):=by
 have:=cG (aa 32 a++aa 32 b++aa 32 c) (aa 32 d) (aa 32 x) #[] 96 (by simp[aj]) (by simp[aj]);simpa only[bA,Array.append_empty] using this
end
instance Qf:RowTy 26 128:=⟨⟨_,underlying26,rfl⟩,by kernel_rfl⟩
instance Qg:RowZ 26 (bA z32 z32 z32 z32):=⟨by kernel_rfl⟩
instance Qh:RowZ 86 (bA z32 z32 z32 z32):=⟨by kernel_rfl⟩
theorem A3(a b c d:Nat→BitVec 8)(w:World):(Instr.build 26 #[(0,.agg (aa 32 a)),(1,.agg (aa 32 b)),(2,.agg (aa 32 c)),(3,.agg (aa 32 d))]).run prog w= .ok (.agg (bA a b c d)) w:=by kernel_rfl
def cX:List (BitVec 8):=[114,111,111,116]
def bS:List (BitVec 8):=[115,105,103,110,101,114]
def bN:List (BitVec 8):=[100,101,118,105,99,101]
def dh:List (BitVec 8):=[107,101,121]
def kOf(seed:Int)(nm:List (BitVec 8)):Nat→BitVec 8:=sha (aR seed++nm)
abbrev setO(seed:Int):Array Value:=bA (kOf seed cX) (kOf seed bS) (kOf seed bN) (kOf seed dh)
theorem ec(seed:Int)(hs: -9223372036854775808≤seed∧seed≤9223372036854775807)(w:World)(hk:KAt w):Rt 9 #[.int .i64 seed] w (.agg (bA (kOf seed cX) (kOf seed bS) (kOf seed bN) (kOf seed dh))):=by
 have hL:=Loc.nil w;have HKW:=Hd (fun w1 (h:Below w.heap.size w w1)=>hk.below h);have HONE:=Hd (fun w1=>(pd seed w1 hs).mono fun e w' h=>(show ∃g cap cur,e= .returned (.slice (some ⟨g,0,none⟩) 8 cap)∧OwnR cur 8 cap (an (aR seed))∧w1.heap.size≤g∧w'.heap[g]?=some (.cells cur 5 (0,0))∧Below w1.heap.size w1 w' from by have h':=h;unfold Fresh at h';rw[aO]at h';exact h'));have HS0:=Hd (fun w1 (hk:KAt w1) v (h:BRow w1 v (aR seed++[114,111,111,116]))=>(show Rt 29 #[v] w1 (.agg (aa 32 (kOf seed cX)))from dm v _ w1 h (by rw[List.length_append,aO];decide) hk));have HS1:=Hd (fun w1 (hk:KAt w1) v (h:BRow w1 v (aR seed++[115,105,103,110,101,114]))=>(show Rt 29 #[v] w1 (.agg (aa 32 (kOf seed bS)))from dm v _ w1 h (by rw[List.length_append,aO];decide) hk));have HS2:=Hd (fun w1 (hk:KAt w1) v (h:BRow w1 v (aR seed++[100,101,118,105,99,101]))=>(show Rt 29 #[v] w1 (.agg (aa 32 (kOf seed bN)))from dm v _ w1 h (by rw[List.length_append,aO];decide) hk));have HS3:=Hd (fun w1 (hk:KAt w1) v (h:BRow w1 v (aR seed++[107,101,121]))=>(show Rt 29 #[v] w1 (.agg (aa 32 (kOf seed dh)))from dm v _ w1 h (by rw[List.length_append,aO];decide) hk));clear hs hk;generalize kOf seed cX=k0,kOf seed bS=k1,kOf seed bN=k2,kOf seed dh=k3,aR seed=ps at *
 go_enter func9,ntmps9;go_wp2_with (first|refine aU ?_|(refine gBp 2 ?_;clear hL;intro b2 w1 hL)|(refine gBp 4 ?_;clear hL;intro b4 w1 hL)|(refine gN 6 ?_;refine Kf hL rfl rfl rfl rfl rfl rfl ?_;intro b6;clear hL;intro w1 hL)|(refine ah ?_;clear hL;intro w1 hL));go_loopw [5] (fun kk wr=>(kk= .int .i64 0∧Loc w wr [(b4,bA z32 z32 z32 z32,86),(b6, #[.string ⟨#[114,111,111,116]⟩,.string ⟨#[115,105,103,110,101,114]⟩,.string ⟨#[100,101,118,105,99,101]⟩,.string ⟨#[107,101,121]⟩],9),(b2,bA z32 z32 z32 z32,26)]) ∨
  (kk= .int .i64 1∧Loc w wr [(b4,bA k0 z32 z32 z32,86),(b6, #[.string ⟨#[114,111,111,116]⟩,.string ⟨#[115,105,103,110,101,114]⟩,.string ⟨#[100,101,118,105,99,101]⟩,.string ⟨#[107,101,121]⟩],9),(b2,bA z32 z32 z32 z32,26)]) ∨
  (kk= .int .i64 2∧Loc w wr [(b4,bA k0 k1 z32 z32,86),(b6, #[.string ⟨#[114,111,111,116]⟩,.string ⟨#[115,105,103,110,101,114]⟩,.string ⟨#[100,101,118,105,99,101]⟩,.string ⟨#[107,101,121]⟩],9),(b2,bA z32 z32 z32 z32,26)]) ∨
  (kk= .int .i64 3∧Loc w wr [(b4,bA k0 k1 k2 z32,86),(b6, #[.string ⟨#[114,111,111,116]⟩,.string ⟨#[115,105,103,110,101,114]⟩,.string ⟨#[100,101,118,105,99,101]⟩,.string ⟨#[107,101,121]⟩],9),(b2,bA z32 z32 z32 z32,26)]) ∨
  (kk= .int .i64 4∧Loc w wr [(b4,bA k0 k1 k2 k3,86),(b6, #[.string ⟨#[114,111,111,116]⟩,.string ⟨#[115,105,103,110,101,114]⟩,.string ⟨#[100,101,118,105,99,101]⟩,.string ⟨#[107,101,121]⟩],9),(b2,bA z32 z32 z32 z32,26)])) (fun kk _=>4-(intOf kk).toNat)
 case atStart=>exact .inl ⟨rfl,hL⟩
 case round =>
  clear hL;rcases hrel with⟨rfl,hL⟩|⟨rfl,hL⟩|⟨rfl,hL⟩|⟨rfl,hL⟩|⟨rfl,hL⟩
  ·skip
   go_wp2_with (first|refine aU ?_|(refine ah ?_;clear hL;intro w1 hL));refine mX (S:=fun w'=>∃x,Loc w w' [(b4,x,86),(b6, #[.string ⟨#[114,111,111,116]⟩,.string ⟨#[115,105,103,110,101,114]⟩,.string ⟨#[100,101,118,105,99,101]⟩,.string ⟨#[107,101,121]⟩],9),(b2,bA z32 z32 z32 z32,26)]) 11 (⟨_,hL.drew⟩) ?_;intro hHeld;replace hL:=hL.drew;refine uG 0 ?_;refine uG 1 ?_;refine uG 3 ?_;refine uG 4 ?_;refine uG 5 ?_;refine uZ 6 ?_;refine rd1 2 ?_;intro K hK;refine eK (HONE.out _) ?_;rintro e w1⟨g13,cap13,cur13,rfl,hr13,hg13,hc13,hb13⟩;refine⟨_,rfl,?_⟩;have hL1:=hL.fresh hb13 hg13 hc13;clear hb13 hg13 hc13;clear hL;have hL:=hL1;clear hL1;refine kO hK (⟨_,hL.pop⟩) ?_;clear hK K hHeld;intro hHeld;refine rd1 7 ?_;intro K hK;refine nP [114,111,111,116] hL rfl rfl rfl (by first|omega|(simp;omega)|simp) fun g18 cap18 cur18 w1 hr18 hL1=>?_;clear hL;have hL:=hL1;clear hL1;refine kO hK (⟨_,hL.pop⟩) ?_;clear hK K hHeld;intro hHeld;refine rd1 8 ?_;intro K hK;refine eVv (HS0.out _ (HKW.out _ hL.bel) (.slice (some ⟨g18,0,none⟩) (8+4) cap18) (See.bytes hL)) hL ?_;clear hL;intro w1 hL;refine kO hK (⟨_,hL.pop⟩) ?_;clear hK K hHeld;intro hHeld;refine uG 9 ?_;refine rd1 10 ?_;intro K hK;refine eJ ?_;clear hL;intro w1 hL;refine kO hK (⟨_,hL.pop⟩) ?_;clear hK K hHeld;intro hHeld;refine wD ?_;clear hHeld;have hL1:=Loc.rem g18 hL;clear hL;have hL:=hL1;clear hL1;go_wp2_with (first|refine aU ?_|(refine ah ?_;clear hL;intro w1 hL));go_roundw;case rel=>exact .inr (.inl ⟨rfl,hL⟩)
   case measure=>simp only[intOf];decide
  ·skip
   go_wp2_with (first|refine aU ?_|(refine ah ?_;clear hL;intro w1 hL));refine mX (S:=fun w'=>∃x,Loc w w' [(b4,x,86),(b6, #[.string ⟨#[114,111,111,116]⟩,.string ⟨#[115,105,103,110,101,114]⟩,.string ⟨#[100,101,118,105,99,101]⟩,.string ⟨#[107,101,121]⟩],9),(b2,bA z32 z32 z32 z32,26)]) 11 (⟨_,hL.drew⟩) ?_;intro hHeld;replace hL:=hL.drew;refine uG 0 ?_;refine uG 1 ?_;refine uG 3 ?_;refine uG 4 ?_;refine uG 5 ?_;refine uZ 6 ?_;refine rd1 2 ?_;intro K hK;refine eK (HONE.out _) ?_;rintro e w1⟨g13,cap13,cur13,rfl,hr13,hg13,hc13,hb13⟩;refine⟨_,rfl,?_⟩;have hL1:=hL.fresh hb13 hg13 hc13;clear hb13 hg13 hc13;clear hL;have hL:=hL1;clear hL1;refine kO hK (⟨_,hL.pop⟩) ?_;clear hK K hHeld;intro hHeld;refine rd1 7 ?_;intro K hK;refine nP [115,105,103,110,101,114] hL rfl rfl rfl (by first|omega|(simp;omega)|simp) fun g18 cap18 cur18 w1 hr18 hL1=>?_;clear hL;have hL:=hL1;clear hL1;refine kO hK (⟨_,hL.pop⟩) ?_;clear hK K hHeld;intro hHeld;refine rd1 8 ?_;intro K hK;refine eVv (HS1.out _ (HKW.out _ hL.bel) (.slice (some ⟨g18,0,none⟩) (8+6) cap18) (See.bytes hL)) hL ?_;clear hL;intro w1 hL;refine kO hK (⟨_,hL.pop⟩) ?_;clear hK K hHeld;intro hHeld;refine uG 9 ?_;refine rd1 10 ?_;intro K hK;refine eJ ?_;clear hL;intro w1 hL;refine kO hK (⟨_,hL.pop⟩) ?_;clear hK K hHeld;intro hHeld;refine wD ?_;clear hHeld;have hL1:=Loc.rem g18 hL;clear hL;have hL:=hL1;clear hL1;go_wp2_with (first|refine aU ?_|(refine ah ?_;clear hL;intro w1 hL));go_roundw;case rel=>exact .inr (.inr (.inl ⟨rfl,hL⟩))
   case measure=>simp only[intOf];decide
  ·skip
   go_wp2_with (first|refine aU ?_|(refine ah ?_;clear hL;intro w1 hL));refine mX (S:=fun w'=>∃x,Loc w w' [(b4,x,86),(b6, #[.string ⟨#[114,111,111,116]⟩,.string ⟨#[115,105,103,110,101,114]⟩,.string ⟨#[100,101,118,105,99,101]⟩,.string ⟨#[107,101,121]⟩],9),(b2,bA z32 z32 z32 z32,26)]) 11 (⟨_,hL.drew⟩) ?_;intro hHeld;replace hL:=hL.drew;refine uG 0 ?_;refine uG 1 ?_;refine uG 3 ?_;refine uG 4 ?_;refine uG 5 ?_;refine uZ 6 ?_;refine rd1 2 ?_;intro K hK;refine eK (HONE.out _) ?_;rintro e w1⟨g13,cap13,cur13,rfl,hr13,hg13,hc13,hb13⟩;refine⟨_,rfl,?_⟩;have hL1:=hL.fresh hb13 hg13 hc13;clear hb13 hg13 hc13;clear hL;have hL:=hL1;clear hL1;refine kO hK (⟨_,hL.pop⟩) ?_;clear hK K hHeld;intro hHeld;refine rd1 7 ?_;intro K hK;refine nP [100,101,118,105,99,101] hL rfl rfl rfl (by first|omega|(simp;omega)|simp) fun g18 cap18 cur18 w1 hr18 hL1=>?_;clear hL;have hL:=hL1;clear hL1;refine kO hK (⟨_,hL.pop⟩) ?_;clear hK K hHeld;intro hHeld;refine rd1 8 ?_;intro K hK;refine eVv (HS2.out _ (HKW.out _ hL.bel) (.slice (some ⟨g18,0,none⟩) (8+6) cap18) (See.bytes hL)) hL ?_;clear hL;intro w1 hL;refine kO hK (⟨_,hL.pop⟩) ?_;clear hK K hHeld;intro hHeld;refine uG 9 ?_;refine rd1 10 ?_;intro K hK;refine eJ ?_;clear hL;intro w1 hL;refine kO hK (⟨_,hL.pop⟩) ?_;clear hK K hHeld;intro hHeld;refine wD ?_;clear hHeld;have hL1:=Loc.rem g18 hL;clear hL;have hL:=hL1;clear hL1;go_wp2_with (first|refine aU ?_|(refine ah ?_;clear hL;intro w1 hL));go_roundw;case rel=>exact .inr (.inr (.inr (.inl ⟨rfl,hL⟩)))
   case measure=>simp only[intOf];decide
  ·skip
   go_wp2_with (first|refine aU ?_|(refine ah ?_;clear hL;intro w1 hL));refine mX (S:=fun w'=>∃x,Loc w w' [(b4,x,86),(b6, #[.string ⟨#[114,111,111,116]⟩,.string ⟨#[115,105,103,110,101,114]⟩,.string ⟨#[100,101,118,105,99,101]⟩,.string ⟨#[107,101,121]⟩],9),(b2,bA z32 z32 z32 z32,26)]) 11 (⟨_,hL.drew⟩) ?_;intro hHeld;replace hL:=hL.drew;refine uG 0 ?_;refine uG 1 ?_;refine uG 3 ?_;refine uG 4 ?_;refine uG 5 ?_;refine uZ 6 ?_;refine rd1 2 ?_;intro K hK;refine eK (HONE.out _) ?_;rintro e w1⟨g13,cap13,cur13,rfl,hr13,hg13,hc13,hb13⟩;refine⟨_,rfl,?_⟩;have hL1:=hL.fresh hb13 hg13 hc13;clear hb13 hg13 hc13;clear hL;have hL:=hL1;clear hL1;refine kO hK (⟨_,hL.pop⟩) ?_;clear hK K hHeld;intro hHeld;refine rd1 7 ?_;intro K hK;refine nP [107,101,121] hL rfl rfl rfl (by first|omega|(simp;omega)|simp) fun g18 cap18 cur18 w1 hr18 hL1=>?_;clear hL;have hL:=hL1;clear hL1;refine kO hK (⟨_,hL.pop⟩) ?_;clear hK K hHeld;intro hHeld;refine rd1 8 ?_;intro K hK;refine eVv (HS3.out _ (HKW.out _ hL.bel) (.slice (some ⟨g18,0,none⟩) (8+3) cap18) (See.bytes hL)) hL ?_;clear hL;intro w1 hL;refine kO hK (⟨_,hL.pop⟩) ?_;clear hK K hHeld;intro hHeld;refine uG 9 ?_;refine rd1 10 ?_;intro K hK;refine eJ ?_;clear hL;intro w1 hL;refine kO hK (⟨_,hL.pop⟩) ?_;clear hK K hHeld;intro hHeld;refine wD ?_;clear hHeld;have hL1:=Loc.rem g18 hL;clear hL;have hL:=hL1;clear hL1;go_wp2_with (first|refine aU ?_|(refine ah ?_;clear hL;intro w1 hL));go_roundw;case rel=>exact .inr (.inr (.inr (.inr (⟨rfl,hL⟩))))
   case measure=>simp only[intOf];decide
  ·skip
   obtain⟨sr,hsr⟩:∃sr,sr=bA k0 k1 k2 k3:=⟨_,rfl⟩;have hB:=A3 k0 k1 k2 k3;rw[← hsr]at hB;haveI hS1:Row1 sr 128:=by rw[hsr];infer_instance
   have HSR:=Hd hsr;clear hsr;go_wp2_with (first|refine aU ?_|(refine gN 29 ?_;refine lU hL rfl rfl hB rfl ?_;clear hL;intro w1 hL;refine p4 ?_)|(refine ah ?_;clear hL;intro w1 hL));exact bodyPost_ret (ai rfl hL rfl) rfl ⟨by rw[HSR.out],hL.bel⟩
instance Qi:Ent 9:=eo func9
end
section
open Go Go.RowKit Go.Shelf
theorem gC(a b c d:Nat→BitVec 8)(w:World)(hG:Glob w):Rt 10 #[.agg (bA a b c d)] w (.agg (aa 32 (ab (gI (ae 32 a))))):=by
 have hL:=Loc.nil w;have HP:=Hd (fun w1 (h:Glob w1)=>kR a w1 (hG:=h));have HG:=Hd hG;clear hG;generalize ab (gI (ae 32 a))=pk at *
 go_enter func10,ntmps10;go_wp2_with (first|refine aU ?_|(refine gBp 1 ?_;clear hL;intro b1 w1 hL)|(refine gBp 2 ?_;clear hL;intro b2 w1 hL)|(refine gN 5 ?_;refine lV (HP.out _ (hL.glob HG.out)) hL ?_;clear hL;intro w1 hL)|(refine ah ?_;clear hL;intro w1 hL));exact bodyPost_ret (ai rfl hL rfl) rfl ⟨rfl,hL.bel⟩
theorem A4(n:Int)(h:py n)(w:World):Calls prog 79 #[.int .i64 n] w fun e w'=>e= .returned (.bool true)∧w=w':=by
 obtain⟨h0,h1⟩:=h;go_enter func79,ntmps79;go_wp2_with (first|refine aU ?_|(refine ah ?_;clear hL;intro w1 hL))
 all_goals(go_ret;exact⟨rfl,rfl⟩)
instance Qj:Ent 79:=eo func79
end
section
open Go Go.RowKit Go.Shelf
theorem tn{bf cc dd:Nat}{p:Option Addr}{n c:Nat}{N:Int}{l:List (BitVec 8)}(w:World)(h0:Was w dd 0 (bM bf))(h1:Was w dd 1 (bM cc))(h2:Was w dd 2 (.bool false))(h3:Was w bf 3 (.bool false))(hv:BRow w (.slice p n c) l)(hl0:0<l.length)(hl4:l.length<4) :
 Rt 18 #[bM dd,.agg (mvR 1 p n c N)] w (.tuple #[.slice none 0 0,.int .i64 4]):=by
 have hL:=Loc.nil w;haveI hA:Arg w (.slice p n c) (an l):=⟨hv.vrow⟩;have HDEAD:=Hd (fun(b:Nat) w1 (h:Loc w w1 [(b,mvR 1 p n c N,47)])=>(show Calls prog 51 #[bM bf] w1 fun e w'=>e= .returned (.bool false)∧Loc w w' [(b,mvR 1 p n c N,47)]from by
  have hL:=h;go_enter func51,ntmps51;go_wp2_with (first|refine aU ?_|(refine ah ?_;clear hL;intro w1 hL))
  all_goals(go_ret;exact⟨rfl,hL⟩)))
 have HC:=Hd (fun(b:Nat) w1 (h:Loc w w1 [(b,mvR 1 p n c N,47)])=>mP (cc:=cc) (N:=N) (p:=p) (n:=n) (c:=c) (fun v M'=>v=4∧M'=[(b,mvR 1 p n c N,47)]) (fun b' w2 h2=>(xR (cc:=cc) (.slice p n c) l (fun w3 h3=>See.bytes h3) hl0 hl4 h2).mono fun e w' ⟨e1,e2⟩=>⟨4,_,e1,⟨rfl,rfl⟩,e2⟩) h);clear hv;go_enter func18,ntmps18;go_wp2_with (first|refine aU ?_|(refine gBp 3 ?_;clear hL;intro b3 w1 hL)|(refine gN 17 ?_;refine lO (HDEAD.out _ _ hL) ?_;clear hL;intro w1 hL)|(refine ah ?_;clear hL;intro w1 hL));refine mX (S:=fun w'=>Loc w w' [(b3,mvR 1 p n c N,47)]) 11 (hL.drew) ?_;intro hHeld;replace hL:=hL.drew;refine uG 0 ?_;refine uZ 4 ?_;refine uG 1 ?_;refine uG 2 ?_;refine uZ 3 ?_;refine rd1 5 ?_;intro K hK;refine eK (HC.out _ _ hL) ?_;rintro e w1⟨_,_,rfl,⟨rfl,rfl⟩,hL1⟩;refine⟨_,rfl,?_⟩;clear hL;revert hL1;refine aN ?_;intro hL;refine kO hK (hL) ?_;clear hK K hHeld;intro hHeld;refine uG 6 ?_;refine uG 7 ?_;refine uG 8 ?_;refine uG 9 ?_;refine uG 10 ?_;refine wD ?_;clear hHeld;go_wp2_with (first|refine aU ?_|(refine ah ?_;clear hL;intro w1 hL))
 all_goals(go_ret2;exact⟨rfl,hL.bel⟩)
section
variable {w0 w:World} {F:Array Value→Array Value→Array Value→Array Value→Array Value→Mem} {bf bb bo bk kp a0 a1 cc dd:Nat} {fr fs:Nat→BitVec 8} {p:Option Addr} {n c:Nat} {N:Int}
theorem tp(hF:CoM F bf bb bo bk kp a0 a1 cc)(hD:∀x y z u c,At (F x y z u c) dd (dvR bf cc) 126)(d:Dv)(hS:∀x y z u c,SeeS w0 (F x y z u c) d.s d.q)(hg:Good d.s)(hm0:d.s.m0=[])(hm1:d.s.m1=[])(hac:d.s.ac= -1)(hd:d.s.d0=false)(hbt:d.bt= -1)(hL:Loc w0 w (d.at F bf bb bo kp fr fs)) :
 Calls prog 18 #[bM dd,.agg (mvR 4 p n c N)] w fun e w'=>e= .returned (.tuple #[.slice none 0 0,.int .i64 18])∧Loc w0 w' (d.at F bf bb bo kp fr fs):=by
 have hA:=hF.a;have hU:=hF.u;have hB:=hF.b;have hV:=hF.v;have hO:=hF.o;have hPP:=hF.p;have hQ:=hF.q;have hRR:=hF.r;have hG:=hF.g;have hH:=hF.h;have hKK:=hF.k;have hll:=hF.l;have hmm:=hF.m;refine(DN (bb:=bb) (er:=d.er) (pr:=d.pr) (hA _ _ _ _ _) (hD _ _ _ _ _) (fun o v M'=>o= .slice none 0 0∧v=18∧M'=d.at F bf bb bo kp fr fs) (fun o v M' ⟨h1,h2,h3⟩=>⟨by rw[h2];decide,by rw[h3];exact(hD _ _ _ _ _).mem⟩) (fun b w1 h1=>?_) hL).mono ?_
 ·refine(AZ (fun v M'=>v=18∧M'=(b,mvR 4 p n c N,47)::d.at F bf bb bo kp fr fs) (fun b' w2 h2=>?_) h1).mono ?_
  ·refine(AY (F:=fun x y z u e=>(b',mvR 4 p n c N,47)::(b,mvR 4 p n c N,47)::F x y z u e) (bf:=bf) (bb:=bb) (bo:=bo) (bk:=bk) (kp:=kp) (a0:=a0) (a1:=a1) (cc:=cc) (fr:=fr) (fs:=fs) inferInstance d (fun x y z u e=>inferInstance) hg hm0 hm1 hac hd hbt h2).mono ?_
   rintro e w'⟨e1,e2⟩;exact⟨18,_,e1,⟨rfl,rfl⟩,e2⟩
  ·rintro e w'⟨v,M',e1,⟨rfl,rfl⟩,e2⟩
   exact⟨none,0,0,18,_,e1,⟨rfl,rfl,rfl⟩,e2⟩
 ·rintro e w'⟨po,no,co,v,M',e1,⟨h1,rfl,rfl⟩,e2⟩
  rw[h1]at e1;exact⟨e1,e2⟩
theorem FP(S1 S0 Sr M:Mem)(a b:Nat×Array Value×TypeId):List.Perm (S1++(S0++(Sr++(a::b::M)))) (a::b::(S1++(S0++(Sr++M)))) :=
 (xP S1 S0 Sr (b::M) a).trans (List.Perm.cons a (xP S1 S0 Sr M b))
end
end
section
open Go Go.RowKit Go.Shelf
theorem cg(n:Int)(w:World):Rt 17 #[.int .i64 n] w (.int .i64 n):=by
 go_enter func17,ntmps17;go_wp2_with (first|refine aU ?_|(refine ah ?_;clear hL;intro w1 hL))
 all_goals(go_ret;exact⟨rfl,Below.refl _ _⟩)
instance Qk:Ent 17:=eo func17
def A5(x:BitVec 8):Nat→BitVec 8:=fun i=>if i=0 then x else 0
theorem A6(w:World):(Instr.build 24 #[(0,.int .u8 1)]).run prog w= .ok (.agg (aa 32 (A5 1))) w:=by kernel_rfl
theorem DW(w:World):(Instr.build 24 #[(0,.int .u8 2)]).run prog w= .ok (.agg (aa 32 (A5 2))) w:=by kernel_rfl
theorem DX(k:Int)(w:World):(Instr.build 47 #[(0,.int .i64 k)]).run prog w= .ok (.agg (mvR k none 0 0 0)) w:=by kernel_rfl
theorem ie(k:Int)(p:Option Addr)(n c:Nat)(w:World):(Instr.build 47 #[(0,.int .i64 k),(1,.slice p n c)]).run prog w= .ok (.agg (mvR k p n c 0)) w:=by kernel_rfl
theorem jW{w w':World}{b k:Nat}{v:Value}(h:Was w b k v)(hb:Below w.heap.size w w'):Was w' b k v:=⟨(hb.cell (p:=⟨b,k,none⟩) h.lt).trans h.cell,Nat.lt_of_lt_of_le h.lt hb.size⟩
abbrev foF(M:Mem)(bf bb bo:Nat):Array Value→Array Value→Array Value→Mem:=fun x y z=>(bo,z,108)::(bf,x,106)::(bb,y,5)::M
instance tq(M:Mem)(bf bb bo bk kp a0 a1 cc dd:Nat):CoM (nw (foF M bf bb bo) bf bo bk kp a0 a1 cc dd) bf bb bo bk kp a0 a1 cc:=by
 unfold nw foF;constructor
 all_goals intros
 all_goals try dsimp only
 all_goals infer_instance
theorem Ik{w0 w:World}{M:Mem}{bf bb bo bk kp a0 a1 cc dd:Nat}{fr fs:Nat→BitVec 8}(d:Dv)(hL:Loc w0 w (d.at (nw (foF M bf bb bo) bf bo bk kp a0 a1 cc dd) bf bb bo kp fr fs)):Was w dd 0 (bM bf)∧Was w dd 1 (bM cc)∧Was w dd 2 (.bool false)∧Was w bf 3 (.bool false):=by
 have hm:(bf,flR bb d.er d.pr,106)∈d.at (nw (foF M bf bb bo) bf bo bk kp a0 a1 cc dd) bf bb bo kp fr fs:=At.mem;exact⟨iL hL (.head _) rfl,iL hL (.head _) rfl,iL hL (.head _) rfl,iL hL hm rfl⟩
theorem ig(w:World):Rt 8 #[] w (.bool true):=by
 have hL:=Loc.nil w;have h3:((3:Nat):Int)=3:=rfl;go_enter func8,ntmps8;go_wp2_with (first|refine aU ?_|(refine gN 10 ?_;refine lKk (es _) ?_;rintro e w1⟨bf,bb,cur0,rfl,hFil,hN⟩;have hL1:=hL.join hN;clear hN hL;revert hL1;refine aH ?_;intro hL)|(refine gN 12 ?_;refine lU hL rfl rfl A6 rfl ?_;clear hL;intro w1 hL;refine p4 ?_)|(refine gN 13 ?_;refine lU hL rfl rfl DW rfl ?_;clear hL;intro w1 hL;refine p4 ?_)|(refine gN 14 ?_;refine lKk (fY bf (A5 1) (A5 2) 3 (by decide) _) ?_;rintro e w1⟨bo,rfl,hN⟩;have hL1:=hL.join hN;clear hN hL;revert hL1;refine aH ?_;intro hL)|(refine gN 18 ?_;refine lKk (lF (F:=foF [] bf bb bo) (bf:=bf) (bb:=bb) (bo:=bo) inferInstance (by decide) (by decide) (by decide) (by decide) hFil.fl hL) ?_;rintro e w1⟨bk,kp,a0,a1,cc,dd,d,rfl,hFr,hL1⟩;have HFR:=Hd hFr;clear hFr;clear hL;revert hL1;refine aE ?_;intro hL)|(refine gN 22 ?_;refine lV (cg _ _) hL ?_;clear hL;intro w1 hL)|(refine gN 30 ?_;refine lU hL rfl rfl (DX 4) rfl ?_;clear hL;intro w1 hL;refine p4 ?_)|(refine gN 31 ?_;refine lO (tp (F:=nw (foF [] bf bb bo) bf bo bk kp a0 a1 cc dd) (bf:=bf) (bb:=bb) (bo:=bo) (bk:=bk) (kp:=kp) (a0:=a0) (a1:=a1) (cc:=cc) inferInstance (fun x y z u c=>inferInstance) d (fun x y z u c=>by rw[HFR.out.s,HFR.out.q];exact lD _ _) (by rw[HFR.out.s];exact vc) (by rw[HFR.out.s];rfl) (by rw[HFR.out.s];rfl) (by rw[HFR.out.s];rfl) (by rw[HFR.out.s];rfl) HFR.out.bt hL) ?_;clear hL;intro w1 hL)|((with_reducible show wpList _ _ _ (⟨some 36,_,_,_,_,_⟩::⟨some 37,_,_,_,_,_⟩::_) _ _);go_loud (refine Kb 120 hL rfl rfl rfl rfl rfl (fun _=>rfl) ?_);clear hL;intro b36 w37 hb36 hL0;have hA36:Arg w37 (.slice (some ⟨b36,0,none⟩) 1 1) (an [120]):=⟨hb36.vrow⟩;obtain⟨g0,g1,g2,g3⟩:=Ik d hL0;have hL:=Loc.nil w37)|(refine gN 38 ?_;refine lU hL rfl rfl (ie 1 (some ⟨b36,0,none⟩) 1 1) rfl ?_;clear hL;intro w1 hL;refine p4 ?_)|(refine gN 39 ?_;refine lKk (tn (bf:=bf) (cc:=cc) (dd:=dd) (l:=[120]) _ (jW g0 hL.bel) (jW g1 hL.bel) (jW g2 hL.bel) (jW g3 hL.bel) (See.bytes hL) (by decide) (by decide)) ?_;rintro e w1⟨rfl,hb1⟩;refine⟨_,rfl,?_⟩;have hL1:=hL0.join (hL.keep hb1);clear hL hL0 hA36 hb36 g0 g1 g2 g3;simp only[List.nil_append]at hL1;have hL:=hL1;clear hL1;refine p4 ?_)|(refine gN 43 ?_;refine lKk (DO (F:=nw (foF [] bf bb bo) bf bo bk kp a0 a1 cc dd) (bf:=bf) (bb:=bb) (bo:=bo) (bk:=bk) (kp:=kp) (a0:=a0) (a1:=a1) (cc:=cc) inferInstance (fun x y z u c=>inferInstance) d HFR.out.ok (fun x y z u c=>by rw[HFR.out.s,HFR.out.q];exact lD _ _) hL) ?_;rintro e w1⟨q',Sr,S0,S1,rfl,hQ,hL1⟩;clear hL;revert hL1;refine aE ?_;intro hL)|(refine gBp 9 ?_;clear hL;intro b9 w1 hL)|(refine gN 45 ?_;refine lV (cg _ _) hL ?_;clear hL;intro w1 hL)|(refine gN 49 ?_;refine lV (cg _ _) hL ?_;clear hL;intro w1 hL)|(refine gN 54 ?_;refine lKk (et (F:=fun x y z=>(b9,stR d.s q',58)::(S1++(S0++(Sr++nw (foF [] bf bb bo) bf bo bk kp a0 a1 cc dd x y z (bkR bf bo d.p d.kn d.kc d.half) (coR kp (A5 1) (A5 2) d.s d.q d.bt d.rg))))) (bf:=bf) (bb:=bb) hL) ?_;rintro e w1⟨rfl,hL1⟩;rw[HFR.out.n];have hac:d.s.ac= -1:=(by rw[HFR.out.s];rfl);clear hL;revert hL1;refine aE ?_;intro hL)|(refine ah ?_;clear hL;intro w1 hL))
 all_goals(go_ret;exact⟨rfl,hL.bel⟩)
instance Ql:Ent 8:=eo func8
end
section
open Go Go.RowKit Go.Shelf
theorem FQ{o:Oper}{ev:Operand→Value}{f:FuncId}{x:Operand}{xs:Array Operand}{ts:Array TypeId}{cs:Array Value}(ho:o.op= .call { callee:= .value x,args:=xs,argTypes:=ts })(hf:ev x= .func (.func f) #[] cs)[he:Ent f](w:World) :
 (execOp ev o).run prog w= .ok (.enter f (xs.map ev++cs)) w:=by
 unfold execOp;simp only[ho,resolve,hf,Deferred.ofValue,Sem.run_bind,Sem.run_pure,Result.andThen_ok,invoke,Array.empty_append];exact he.enter (xs.map ev++cs) w
section
variable {ops:Array Oper} {rest:List Oper} {o:Oper} {a:Act} {w0 w:World} {M M':Mem} {Q:Exit→Act→World→Prop}
theorem ML(hg:o.guard=none){f:FuncId}{x:Operand}{xs:Array Operand}{ts:Array TypeId}(ho:o.op= .call { callee:= .value x,args:=xs,argTypes:=ts }){cs:Array Value}(hv:a.eval x= .func (.func f) #[] cs)[he:Ent f]{l:List Value}(hc:Calls prog f l.toArray w fun e w'=>∃v,e= .returned v∧wpList prog ops Q rest (a.put o.dst v) w')(hx:xs.toList.map a.eval++cs.toList=l):wpList prog ops Q (o::rest) a w :=
 wpList_plain hg fun K hK=>by
  unfold Oper.wp;have e:xs.map a.eval++cs=l.toArray:=by rw[← Array.toList_inj,Array.toList_append,Array.toList_map];exact hx
  rw[FQ ho hv w,e,Oper.upon_enter];refine hc.mono fun e w' hh=>?_;obtain⟨v,rfl,h⟩:=hh;exact hK _ _ h
theorem lBs(hL:Loc w0 w M)(hg:o.guard=none){t:TypeId}{x:Operand}(ho:o.op= .box t x){p:Option Addr}{n c:Nat}(hx:a.eval x= .slice p n c)(h:∀b w',Loc w0 w' ((b, #[.slice p n c],t)::M)→wpList prog ops Q rest (a.put o.dst (.pointer (some ⟨b,0,none⟩))) w'):wpList prog ops Q (o::rest) a w :=
 Go.Great.wpList_boxTo hg t x ho o.dst rfl _ rfl #[.slice p n c] (by rw[hx];rfl) (h _ _ (hL.alloc #[.slice p n c] t))
end
theorem xU(p:Option Addr)(n c:Nat)(w:World):(Instr.build 55 #[(0,.slice p n c)]).run prog w= .ok (.agg (slR p n c false 0)) w:=by kernel_rfl
instance KX(a b x y z c d e f x' y' z':Value):Splice #[a,b,x,y,z,c,d,e,f] 2 #[x',y',z'] #[a,b,x',y',z',c,d,e,f]:=cG #[a,b] #[x,y,z] #[x',y',z'] #[c,d,e,f] 2 rfl rfl
def Sta.fed(s:Sta)(l:List (BitVec 8)):Sta:=⟨s.fl,s.rv,l,false,0,s.m1,s.d1,s.t1,s.ac⟩
section
variable {w0 w:World} {F:Array Value→Mem} {bs bc:Nat} [hA:∀x,At (F x) bs x 58] [hU:∀x y,Ups (F x) bs y (F y)] {s:Sta} {q:Sq} {p:Option Addr} {c:Nat} {l:List (BitVec 8)}
theorem A7(hg:Was w0 bc 0 (.slice p 300 c))(hv:BRow w0 (.slice p 300 c) l)(hl:l.length=300)(hL:Loc w0 w (F (stR s q))) :
 Calls prog 218 #[.pointer (some ⟨bs,0,none⟩),.pointer (some ⟨bs,2,none⟩),.pointer (some ⟨bc,0,none⟩)] w fun e w'=>∃g cap cur,e= .returned (.tuple #[])∧OwnR cur 300 cap (an l)∧Loc w0 w' ((g,cur,5)::F (stR (s.fed l) ⟨q.pr,q.cr,some ⟨g,0,none⟩,cap,q.p1,q.c1⟩)):=by
 haveI hA0:Arg w0 (.slice p 300 c) (an l):=⟨hv.vrow⟩;have hcl:=(fun w1 (h:BRow w1 (.slice p 300 c) l)=>d9 _ l w1 h (by omega) (by omega));unfold Fresh at hcl;simp only[hl]at hcl;have HC:=Hd hcl;have HL:=Hd hl;obtain⟨fl,rv,m0,d0,t0,m1,d1,t1,ac⟩:=s;obtain⟨pr,cr,p0,c0,p1,c1⟩:=q;unfold Sta.fed;dsimp only at *
 clear hv hcl hl;dsimp only[stR];rw[HL.out];go_enter func218,ntmps218;go_wp2_with (first|refine aU ?_|(go_at_call 94;go_loud (refine(HC.out _ (See.bytes hL)).mono ?_);rintro e w1⟨g7,cap7,cur7,rfl,hr7,hg7,hc7,hb7⟩;have hL1:=hL.fresh hb7 hg7 hc7;clear hb7 hg7 hc7;clear hL;have hL:=hL1;clear hL1;refine p4 ?_)|(refine gN 8 ?_;refine lU hL rfl rfl (xU _ _ _) rfl ?_;clear hL;intro w1 hL;refine p4 ?_)|(refine ah ?_;clear hL;intro w1 hL));exact⟨rfl,_,results_none rfl _ _ _,rfl,g7,cap7,cur7,hr7,hL⟩
end
instance Qm:Ent 218:=eo func218
theorem qy(s:Sta)(q:Sq)(w:World)(hr:ReadS w s q)(hg:Good s)(hac:s.ac= -1){bc:Nat}{p:Option Addr}{c:Nat}{l:List (BitVec 8)}(hw:Was w bc 0 (.slice p 300 c))(hv:BRow w (.slice p 300 c) l)(hl:l.length=300) :
 Calls prog 217 #[.agg (stR s q),.func (.func 218) #[] #[.pointer (some ⟨bc,0,none⟩)]] w fun e w'=>∃q' Sr S0 S1,e= .returned (.agg (stR (s.fed l) q'))∧HoldQ Sr S0 S1 (s.fed l) q'∧Loc w w' (S1++(S0++Sr)):=by
 have hL:=Loc.nil w;have hlen0:s.m0.length≤300:=by rcases hg.s0 with⟨h,_⟩|⟨h,_⟩ <;> omega
 have hlen1:s.m1.length≤300:=by rcases hg.s1 with⟨h,_⟩|⟨h,_⟩ <;> omega
 have hlen2:=hg.n;have HM:=Hd (fun w1 (hb1:Below w.heap.size w w1)=>nM s q w1 ⟨hr.r.below hb1,by have:=hr.a.vrow.below hb1;exact this.brow,by have:=hr.b.vrow.below hb1;exact this.brow,hr.zr,hr.za,hr.zb⟩ hg);have HC:=Hd (fun w1 (hb1:Below w.heap.size w w1)=>ve s q w1 ⟨hr.r.below hb1,by have:=hr.a.vrow.below hb1;exact this.brow,by have:=hr.b.vrow.below hb1;exact this.brow,hr.zr,hr.za,hr.zb⟩ (by omega) (by omega) (by omega));have HT:=Hd (fun w1=>jF s q (by rw[hac];decide) w1);have HF:=Hd (fun(G:Array Value→Mem) {b:Nat} w1 (h1:∀x,At (G x) b x 58) (h2:∀x y,Ups (G x) b y (G y)) q' (h:Loc w w1 (G (stR s q')))=> @A7 w w1 G b bc h1 h2 s q' p c l hw hv hl h);have HL:=Hd hl;have HFD:=Hd (fun q'=>show stR (s.fed l) q'= #[.int .i64 s.fl,.slice q'.pr s.rv.length q'.cr,.slice q'.p0 l.length q'.c0,.bool false,.int .i64 0,.slice q'.p1 s.m1.length q'.c1,.bool s.d1,.int .i64 s.t1,.int .i64 s.ac]from rfl);clear hr hg hac hlen0 hlen1 hlen2 hw hv hl;go_enter func217,ntmps217;go_wp2_with (first|refine aU ?_|(refine gBp 2 ?_;clear hL;intro b2 w1 hL)|(refine gBp 4 ?_;clear hL;intro b4 w1 hL)|(refine gBp 5 ?_;clear hL;intro b5 w1 hL)|(go_at_call 201;go_loud (refine(HM.out _ hL.bel).mono ?_);rintro e w1⟨rfl,hb1⟩;have hL1:=hL.keep hb1;clear hb1;clear hL;have hL:=hL1;clear hL1;refine p4 ?_)|(refine gN 11 ?_;refine lKk (HC.out _ hL.bel) ?_;rintro e w1⟨⟨pr',cr',p0',c0',p1',c1'⟩,Sr,S0,S1,rfl,hQ,hN⟩;have hL1:=hL.join hN;clear hN hL;revert hL1;refine aH ?_;intro hL)|(go_at_call 216;go_loud (refine(HT.out _).mono ?_);rintro e w1⟨rfl,hb1⟩;have hL1:=hL.keep hb1;clear hb1;clear hL;have hL:=hL1;clear hL1;refine p4 ?_)|(refine gN 17 ?_;go_loud (refine ML rfl rfl rfl ((HF.out (fun x=>(b5,x,58)::(S1++(S0++(Sr++[(b4,DJ,58),(b2,stR s q,58)])))) _ (fun _=>inferInstance) (fun _ _=>inferInstance) _ hL).mono ?_) rfl);rintro e w1⟨g17,cap17,cur17,rfl,hr17,hL1⟩;refine⟨_,rfl,?_⟩;clear hL;have hL:=hL1;clear hL1;refine p4 ?_)|(refine ah ?_;clear hL;intro w1 hL));have hH0:=Hold.own (g:=g17) (e:=5) hr17;have hL1:=Loc.rem b5 hL;have hL2:Loc w w1 ((g17,cur17,5)::(S1++Sr)):=hL1.sub (List.Sublist.cons_cons _ ((List.Sublist.refl S1).append ((List.sublist_append_left Sr _).trans (List.sublist_append_right S0 _))));refine bodyPost_ret (ai rfl hL rfl) rfl ⟨⟨pr',cr',some ⟨g17,0,none⟩,cap17,p1',c1'⟩,rfl,Sr,[(g17,cur17,5)],S1,⟨hQ.r,?_,hQ.b,hQ.zr,fun h=>?_,hQ.zb⟩,hL2.perm List.perm_middle.symm⟩
 ·show Hold _ (.slice (some ⟨g17,0,none⟩) l.length cap17) _ _
  rw[HL.out];exact hH0
 ·exact absurd (show l=[]from h) (fun e=>by have:=HL.out;rw[e]at this;cases this)
instance Qn:Ent 217:=eo func217
theorem FR(s:Sta)(q:Sq)(w:World)(hr:ReadS w s q)(hg:Good s)(hac:s.ac= -1){p:Option Addr}{c:Nat}{l:List (BitVec 8)}(hv:BRow w (.slice p 300 c) l)(hl:l.length=300) :
 Calls prog 162 #[.agg (stR s q),.slice p 300 c] w fun e w'=>∃q' Sr S0 S1,e= .returned (.agg (stR (s.fed l) q'))∧HoldQ Sr S0 S1 (s.fed l) q'∧Loc w w' (S1++(S0++Sr)):=by
 have hL:=Loc.nil w;have HC:=Hd (fun w1 (hb1:Below w.heap.size w w1) bc (hw:Was w1 bc 0 (.slice p 300 c))=>qy s q w1 ⟨hr.r.below hb1,by have:=hr.a.vrow.below hb1;exact this.brow,by have:=hr.b.vrow.below hb1;exact this.brow,hr.zr,hr.za,hr.zb⟩ hg hac hw (hv.below hb1) hl);clear hr hg hac hv hl;generalize s.fed l=s2 at *
 go_enter func162,ntmps162;go_wp2_with (first|refine aU ?_|(refine gBp 2 ?_;clear hL;intro b2 w1 hL)|((with_reducible show wpList _ _ _ (⟨some 3,.box _ _,_,_,_,_⟩::_) _ _);refine lBs hL rfl rfl rfl fun b3 w1 hL1=>?_;clear hL;have hL:=hL1;clear hL1;refine p4 ?_)|(refine gBp 4 ?_;clear hL;intro b4 w1 hL)|(refine gN 11 ?_;refine lKk (HC.out _ hL.bel b3 (iL hL (.tail _ (.head _)) rfl)) ?_;rintro e w1⟨q',Sr,S0,S1,rfl,hQ,hN⟩;have hL1:=hL.join hN;clear hN hL;revert hL1;refine aH ?_;intro hL)|(refine ah ?_;clear hL;intro w1 hL));exact bodyPost_ret (ai rfl hL rfl) rfl ⟨q',Sr,S0,S1,rfl,hQ,hL.sub (Kc _ _ _ _)⟩
instance Qp:Ent 162:=eo func162
end
section
open Go Go.RowKit Go.Shelf
structure Man where
 ver:Int
 blk:Int
 root:Nat→BitVec 8
 wr:List (BitVec 8)
 id:Int
 key:Nat→BitVec 8
 cs:Nat→BitVec 8
 sg:Nat→BitVec 8
structure Man.Ok(m:Man):Prop where
 v0:0≤m.ver
 v1:m.ver≤2147483647
 b0:1≤m.blk
 b1:m.blk≤32
 w:m.wr.length=80
 i0:0≤m.id
 i1:m.id≤2147483647
def Man.row(m:Man)(p:Option Addr)(n c:Nat):Array Value:=mfR m.ver m.blk m.root p n c m.id m.key m.cs m.sg
def Man.body(m:Man):List (BitVec 8):=[80,67,77,49]++(aR m.ver++(aR m.blk++(ae 32 m.root++(m.wr++(aR m.id++(ae 32 m.key++ae 64 m.cs))))))
def Man.bytes(m:Man):List (BitVec 8):=m.body++ae 64 m.sg
theorem Man.body_length{m:Man}(h:m.Ok):m.body.length=236:=by
 unfold Man.body;simp[aO,ag,h.w]
theorem Man.bytes_length{m:Man}(h:m.Ok):m.bytes.length=300:=by
 unfold Man.bytes;rw[List.length_append,Man.body_length h,ag]
theorem iN{a b:List (BitVec 8)}{n:Nat}(h:a.length=n):(a++b).take n=a∧(a++b).drop n=b:=by
 rw[← h];exact⟨List.take_left,List.drop_left⟩
structure Man.Parts(m:Man)(l:List (BitVec 8)):Prop where
 p0:l.take 4=[80,67,77,49]
 p1:(l.drop 4).take 8=aR m.ver
 p2:(l.drop 12).take 8=aR m.blk
 p3:(l.drop 20).take 32=ae 32 m.root
 p4:(l.drop 52).take 80=m.wr
 p5:(l.drop 132).take 8=aR m.id
 p6:(l.drop 140).take 32=ae 32 m.key
 p7:(l.drop 172).take 64=ae 64 m.cs
 p8:(l.drop 236).take 64=ae 64 m.sg
theorem Man.parts{m:Man}(h:m.Ok):m.Parts m.bytes:=by
 have e:m.bytes=[80,67,77,49]++(aR m.ver++(aR m.blk++(ae 32 m.root++(m.wr++(aR m.id++(ae 32 m.key++(ae 64 m.cs++(ae 64 m.sg++[])))))))):=by
  unfold Man.bytes Man.body;simp only[List.append_assoc,List.append_nil]
 rw[e];have c0:=iN (a:=[80,67,77,49]) (b:=aR m.ver++(aR m.blk++(ae 32 m.root++(m.wr++(aR m.id++(ae 32 m.key++(ae 64 m.cs++(ae 64 m.sg++[])))))))) (n:=4) rfl;have c1:=iN (b:=aR m.blk++(ae 32 m.root++(m.wr++(aR m.id++(ae 32 m.key++(ae 64 m.cs++(ae 64 m.sg++[]))))))) (aO m.ver);have c2:=iN (b:=ae 32 m.root++(m.wr++(aR m.id++(ae 32 m.key++(ae 64 m.cs++(ae 64 m.sg++[])))))) (aO m.blk);have c3:=iN (b:=m.wr++(aR m.id++(ae 32 m.key++(ae 64 m.cs++(ae 64 m.sg++[]))))) (ag 32 m.root);have c4:=iN (b:=aR m.id++(ae 32 m.key++(ae 64 m.cs++(ae 64 m.sg++[])))) h.w;have c5:=iN (b:=ae 32 m.key++(ae 64 m.cs++(ae 64 m.sg++[]))) (aO m.id);have c6:=iN (b:=ae 64 m.cs++(ae 64 m.sg++[])) (ag 32 m.key);have c7:=iN (b:=ae 64 m.sg++[]) (ag 64 m.cs);have c8:=iN (b:=[]) (ag 64 m.sg);generalize ae 64 m.sg++[]=l8 at *
 generalize ae 64 m.cs++l8=l7 at *
 generalize ae 32 m.key++l7=l6 at *
 generalize aR m.id++l6=l5 at *
 generalize m.wr++l5=l4 at *
 generalize ae 32 m.root++l4=l3 at *
 generalize aR m.blk++l3=l2 at *
 generalize aR m.ver++l2=l1 at *
 generalize[80,67,77,49]++l1=l0 at *
 have d1:l0.drop 4=l1:=c0.2;have d2:l0.drop 12=l2:=by rw[← c1.2,← d1,List.drop_drop]
 have d3:l0.drop 20=l3:=by rw[← c2.2,← d2,List.drop_drop]
 have d4:l0.drop 52=l4:=by rw[← c3.2,← d3,List.drop_drop]
 have d5:l0.drop 132=l5:=by rw[← c4.2,← d4,List.drop_drop]
 have d6:l0.drop 140=l6:=by rw[← c5.2,← d5,List.drop_drop]
 have d7:l0.drop 172=l7:=by rw[← c6.2,← d6,List.drop_drop]
 have d8:l0.drop 236=l8:=by rw[← c7.2,← d7,List.drop_drop]
 exact⟨c0.1,by rw[d1];exact c1.1,by rw[d2];exact c2.1,by rw[d3];exact c3.1,by rw[d4];exact c4.1,by rw[d5];exact c5.1,by rw[d6];exact c6.1,by rw[d7];exact c7.1,by rw[d8];exact c8.1⟩
section
variable {w0 w:World} {F:Array Value→Mem} {bc:Nat} [hA:∀x,At (F x) bc x 274] [hU:∀x y,Ups (F x) bc y (F y)] {g off m cap:Nat} {l:List (BitVec 8)} {cur:Array Value} [hG:∀x,At (F x) g cur 5] {f:Nat→BitVec 8}
theorem DY(hs:Seg cur off m (an l))(hn:32≤m)(hc:m≤cap)(hm:m≤1000000)(hT:l.take 32=ae 32 f)(hL:Loc w0 w (F #[.slice (some ⟨g,off,none⟩) m cap,.bool false])) :
 Calls prog 205 #[.pointer (some ⟨bc,0,none⟩)] w fun e w'=>∃p,e= .returned (.agg (aa 32 f))∧(32<m→p=some ⟨g,off+32,none⟩)∧Loc w0 w' (F #[.slice p (m-32) (cap-32),.bool false]):=by
 have HT:=Hd hT;have h32:(an (ae 32 f)).length=32:=by rw[aq,ag]
 haveI sp:Spl (aa 32 fun _=>0) 0 (an (ae 32 f)) (aa 32 f):=mH _ _ _ (by omega) fun i hi=>by rw[if_pos ⟨by omega,by omega⟩];rfl
 clear hT;go_enter func205,ntmps205;go_wp2_with (first|refine aU ?_|(refine gBp 2 ?_;clear hL;intro b2 w1 hL)|(refine gBp 3 ?_;clear hL;intro b3 w1 hL)|(refine ah ?_;clear hL;intro w1 hL));refine mX (S:=(fun _=>True)) 4 (trivial) ?_;intro hHeld;replace hL:=hL.drew;refine uG 0 ?_;refine uG 1 ?_;refine rd1 2 ?_;intro K hK;refine eK (xE (F:=fun x=>(b3,aa 32 (fun _=>0),24)::(b2,aa 32 (fun _=>0),24)::F x) (bc:=bc) (l:=l) hs 32 (by omega) hn hc hm hL) ?_;rintro e w1⟨g6,cap6,cur6,p6,rfl,hr6,hp6,hL1⟩;refine⟨_,rfl,?_⟩;rw[HT.out]at hr6;clear hL;revert hL1;refine aN ?_;intro hL;refine kO hK (trivial) ?_;clear hK K hHeld;intro hHeld;refine rd1 3 ?_;intro K hK;refine eCp ?_;clear hL;intro w1 hL;refine kO hK (trivial) ?_;clear hK K hHeld;intro hHeld;refine wD ?_;clear hHeld;go_wp2_with (first|refine aU ?_|(refine ah ?_;clear hL;intro w1 hL));exact bodyPost_ret (ai rfl hL rfl) rfl ⟨p6,rfl,hp6,Loc.rem b2 (Loc.rem b3 hL.pop)⟩
theorem lH(hs:Seg cur off m (an l))(hn:64≤m)(hc:m≤cap)(hm:m≤1000000)(hT:l.take 64=ae 64 f)(hL:Loc w0 w (F #[.slice (some ⟨g,off,none⟩) m cap,.bool false])) :
 Calls prog 206 #[.pointer (some ⟨bc,0,none⟩)] w fun e w'=>∃p,e= .returned (.agg (aa 64 f))∧(64<m→p=some ⟨g,off+64,none⟩)∧Loc w0 w' (F #[.slice p (m-64) (cap-64),.bool false]):=by
 have HT:=Hd hT;have h32:(an (ae 64 f)).length=64:=by rw[aq,ag]
 haveI sp:Spl (aa 64 fun _=>0) 0 (an (ae 64 f)) (aa 64 f):=mH _ _ _ (by omega) fun i hi=>by rw[if_pos ⟨by omega,by omega⟩];rfl
 clear hT;go_enter func206,ntmps206;go_wp2_with (first|refine aU ?_|(refine gBp 2 ?_;clear hL;intro b2 w1 hL)|(refine gBp 3 ?_;clear hL;intro b3 w1 hL)|(refine ah ?_;clear hL;intro w1 hL));refine mX (S:=(fun _=>True)) 4 (trivial) ?_;intro hHeld;replace hL:=hL.drew;refine uG 0 ?_;refine uG 1 ?_;refine rd1 2 ?_;intro K hK;refine eK (xE (F:=fun x=>(b3,aa 64 (fun _=>0),75)::(b2,aa 64 (fun _=>0),75)::F x) (bc:=bc) (l:=l) hs 64 (by omega) hn hc hm hL) ?_;rintro e w1⟨g6,cap6,cur6,p6,rfl,hr6,hp6,hL1⟩;refine⟨_,rfl,?_⟩;rw[HT.out]at hr6;clear hL;revert hL1;refine aN ?_;intro hL;refine kO hK (trivial) ?_;clear hK K hHeld;intro hHeld;refine rd1 3 ?_;intro K hK;refine eCp ?_;clear hL;intro w1 hL;refine kO hK (trivial) ?_;clear hK K hHeld;intro hHeld;refine wD ?_;clear hHeld;go_wp2_with (first|refine aU ?_|(refine ah ?_;clear hL;intro w1 hL));exact bodyPost_ret (ai rfl hL rfl) rfl ⟨p6,rfl,hp6,Loc.rem b2 (Loc.rem b3 hL.pop)⟩
end
theorem rh{ver blk id:Int}{root key cs sg:Nat→BitVec 8}{p:Option Addr}{c:Nat}(hv0:0≤ver)(hv1:ver≤2147483647)(hb0:1≤blk)(hb1:blk≤32)(hi0:0≤id)(hi1:id≤2147483647)(w:World) :
 Rt 207 #[.agg (mfR ver blk root p 80 c id key cs sg)] w (.bool true):=by
 have hL:=Loc.nil w;have hM:uV id=true:=by unfold uV;rw[decide_eq_true];omega
 haveI f1:FnC 226 #[.int .i64 id] (.bool true):=⟨fun w1=>by have:=rb id w1;rwa[hM]at this⟩;clear hM;go_enter func207,ntmps207;go_wp2_with (first|refine aU ?_|(refine gBp 1 ?_;clear hL;intro b1 w1 hL)|(refine ah ?_;clear hL;intro w1 hL)|((with_reducible show wpList _ _ _ (⟨_,.call _,_,_,_,_⟩::_) _ _);(first|refine lC2 hL rfl rfl rfl rfl ?_|refine lC1 hL rfl rfl rfl ?_|refine lC3 hL rfl rfl rfl rfl ?_|refine lC4 hL rfl rfl rfl rfl ?_|refine lC0 hL rfl rfl ?_|refine lC5 hL rfl rfl rfl ?_);clear hL;intro w1 hL;refine p4 ?_));go_ret;exact⟨rfl,hL.bel⟩
end
section
open Go Go.RowKit Go.Shelf
theorem pJ(m:Man)(hm:m.Ok)(v:Value)(w:World)(hv:BRow w v m.bytes) :
 Calls prog 156 #[v] w fun e w'=>∃g cap cur,e= .returned (.tuple #[.agg (m.row (some ⟨g,0,none⟩) 80 cap),.int .i64 0])∧OwnR cur 80 cap (an m.wr)∧Loc w w' [(g,cur,5)]:=by
 have hL:=Loc.nil w;haveI hA:Arg w v (an m.bytes):=⟨hv.vrow⟩;have hlen:=Man.bytes_length hm;have HN:=Hd (fun w1 (h:BRow w1 v m.bytes)=>jB v m.bytes w1 h (by omega) (by omega));rw[hlen]at HN;obtain⟨p0,p1,p2,p3,p4,p5,p6,p7,p8⟩:=Man.parts hm;obtain⟨ver,blk,root,wr,id,key,cs,sg⟩:=m;obtain⟨v0,v1,b0,b1,hw,i0,i1⟩:=hm;dsimp only at *
 have HM:=Hd (fun(p:Option Addr) (c:Nat) w1=>rh (root:=root) (key:=key) (cs:=cs) (sg:=sg) (p:=p) (c:=c) v0 v1 b0 b1 i0 i1 w1);have HROW:=Hd (fun p n c=>show Man.row ⟨ver,blk,root,wr,id,key,cs,sg⟩ p n c=mfR ver blk root p n c id key cs sg from rfl);have E0:=Hd p0;have E1:=Hd (show lu ((Man.bytes ⟨ver,blk,root,wr,id,key,cs,sg⟩).drop 4 |>.take 8)=ver from by rw[p1];exact eR ver (by omega));have E2:=Hd (show lu ((Man.bytes ⟨ver,blk,root,wr,id,key,cs,sg⟩).drop 12 |>.take 8)=blk from by rw[p2];exact eR blk (by omega));have E3:=Hd p3;have E4:=Hd p4;have E5:=Hd (show lu ((Man.bytes ⟨ver,blk,root,wr,id,key,cs,sg⟩).drop 132 |>.take 8)=id from by rw[p5];exact eR id (by omega));have E6:=Hd p6;have E7:=Hd p7;have E8:=Hd p8;simp only[HROW.out];clear p0 p1 p2 p3 p4 p5 p6 p7 p8 hv v0 v1 b0 b1 i0 i1 hw HROW;generalize Man.bytes ⟨ver,blk,root,wr,id,key,cs,sg⟩=l at *
 have hS:dw [80,67,77,49]=⟨#[80,67,77,49]⟩:=rfl;have hzc:=Ig;go_enter func156,ntmps156;go_wp2_with (first|refine aU ?_|(refine gBp 2 ?_;clear hL;intro b2 w1 hL)|(refine gBp 6 ?_;clear hL;intro b6 w1 hL)|(refine gN 8 ?_;refine lKk (HN.out _ (See.bytes hL)) ?_;rintro e w1⟨b8,g8,cap8,cur8,rfl,hr8,hN⟩;refine⟨_,rfl,?_⟩;have hs1:=hr8.segB;have hc8:=hr8.le;have hL1:=hL.join hN;clear hN hL;revert hL1;refine aJ ?_;intro hL)|(refine gN 10 ?_;refine lKk (xF (F:=fun x=>[(b8,x,274),(g8,cur8,5),(b2,mfZ,79)]) (bc:=b8) (l:=l) hs1 4 (by omega) (by omega) hc8 (by omega) hL) ?_;rintro e w1⟨g10,cap10,cur10,rfl,hr10,hL1⟩;rw[E0.out]at hr10;clear hL;revert hL1;refine aE ?_;intro hL)|(refine gN 11 ?_;refine Dt hL rfl rfl rfl ?_;rw[hS];clear hL;intro w1 hL;replace hL:=hL.pop;refine p4 ?_)|(refine gN 13 ?_;refine lKk (xG (F:=fun x=>[(b8,x,274),(g8,cur8,5),(b2,mfZ,79)]) (bc:=b8) (l:=l.drop 4) (hs1.drop 4 (by omega)) (by omega) (by omega) (by omega) hL) ?_;rintro e w1⟨rfl,hL1⟩;rw[E1.out];clear hL;revert hL1;refine aE ?_;intro hL)|(refine gN 14 ?_;refine lU hL rfl rfl (mO _) rfl ?_;clear hL;intro w1 hL;refine p4 ?_)|(refine gN 16 ?_;refine lKk (xG (F:=fun x=>[(b6,mfR ver 0 (fun _=>0) none 0 0 0 (fun _=>0) (fun _=>0) (fun _=>0),79),(b8,x,274),(g8,cur8,5),(b2,mfZ,79)]) (bc:=b8) (l:=l.drop 12) (hs1.drop 12 (by omega)) (by omega) (by omega) (by omega) hL) ?_;rintro e w1⟨rfl,hL1⟩;rw[E2.out];clear hL;revert hL1;refine aE ?_;intro hL)|(refine gN 19 ?_;refine lKk (DY (F:=fun x=>[(b6,mfR ver blk (fun _=>0) none 0 0 0 (fun _=>0) (fun _=>0) (fun _=>0),79),(b8,x,274),(g8,cur8,5),(b2,mfZ,79)]) (bc:=b8) (l:=l.drop 20) (hs1.drop 20 (by omega)) (by omega) (by omega) (by omega) E3.out hL) ?_;rintro e w1⟨p19,rfl,hp19,hL1⟩;rw[hp19 (by omega)]at hL1;clear hL;revert hL1;refine aE ?_;intro hL)|(refine gN 22 ?_;refine lKk (xF (F:=fun x=>[(b6,mfR ver blk root none 0 0 0 (fun _=>0) (fun _=>0) (fun _=>0),79),(b8,x,274),(g8,cur8,5),(b2,mfZ,79)]) (bc:=b8) (l:=l.drop 52) (hs1.drop 52 (by omega)) 80 (by omega) (by omega) (by omega) (by omega) hL) ?_;rintro e w1⟨g22,cap22,cur22,rfl,hr22,hL1⟩;rw[E4.out]at hr22;clear hL;revert hL1;refine aE ?_;intro hL)|(refine gN 25 ?_;refine lKk (xG (F:=fun x=>[(g22,cur22,5),(b6,mfR ver blk root (some ⟨g22,0,none⟩) 80 cap22 0 (fun _=>0) (fun _=>0) (fun _=>0),79),(b8,x,274),(g8,cur8,5),(b2,mfZ,79)]) (bc:=b8) (l:=l.drop 132) (hs1.drop 132 (by omega)) (by omega) (by omega) (by omega) hL) ?_;rintro e w1⟨rfl,hL1⟩;rw[E5.out];clear hL;revert hL1;refine aE ?_;intro hL)|(refine gN 29 ?_;refine lKk (DY (F:=fun x=>[(g22,cur22,5),(b6,mfR ver blk root (some ⟨g22,0,none⟩) 80 cap22 id (fun _=>0) (fun _=>0) (fun _=>0),79),(b8,x,274),(g8,cur8,5),(b2,mfZ,79)]) (bc:=b8) (l:=l.drop 140) (hs1.drop 140 (by omega)) (by omega) (by omega) (by omega) E6.out hL) ?_;rintro e w1⟨p29,rfl,hp29,hL1⟩;rw[hp29 (by omega)]at hL1;clear hL;revert hL1;refine aE ?_;intro hL)|(refine gN 33 ?_;refine lKk (lH (F:=fun x=>[(g22,cur22,5),(b6,mfR ver blk root (some ⟨g22,0,none⟩) 80 cap22 id key (fun _=>0) (fun _=>0),79),(b8,x,274),(g8,cur8,5),(b2,mfZ,79)]) (bc:=b8) (l:=l.drop 172) (hs1.drop 172 (by omega)) (by omega) (by omega) (by omega) E7.out hL) ?_;rintro e w1⟨p33,rfl,hp33,hL1⟩;rw[hp33 (by omega)]at hL1;clear hL;revert hL1;refine aE ?_;intro hL)|(refine gN 37 ?_;refine lKk (lH (F:=fun x=>[(g22,cur22,5),(b6,mfR ver blk root (some ⟨g22,0,none⟩) 80 cap22 id key cs (fun _=>0),79),(b8,x,274),(g8,cur8,5),(b2,mfZ,79)]) (bc:=b8) (l:=l.drop 236) (hs1.drop 236 (by omega)) (by omega) (by omega) (by omega) E8.out hL) ?_;rintro e w1⟨p37,rfl,_,hL1⟩;clear hL;revert hL1;refine aE ?_;intro hL)|(refine gN 40 ?_;refine lO (td (F:=fun x=>[(g22,cur22,5),(b6,mfR ver blk root (some ⟨g22,0,none⟩) 80 cap22 id key cs sg,79),(b8,x,274),(g8,cur8,5),(b2,mfZ,79)]) (bc:=b8) hL) ?_;clear hL;intro w1 hL)|(go_at_call 207;go_loud (refine(HM.out _ _ _).mono ?_);rintro e w1⟨rfl,hb1⟩;have hL1:=hL.keep hb1;clear hb1;clear hL;have hL:=hL1;clear hL1;refine p4 ?_)|(refine ah ?_;clear hL;intro w1 hL)|((with_reducible show wpList _ _ _ (⟨_,.call _,_,_,_,_⟩::_) _ _);(first|refine lC2 hL rfl rfl rfl rfl ?_|refine lC1 hL rfl rfl rfl ?_|refine lC3 hL rfl rfl rfl rfl ?_|refine lC4 hL rfl rfl rfl rfl ?_|refine lC0 hL rfl rfl ?_|refine lC5 hL rfl rfl rfl ?_);clear hL;intro w1 hL;refine p4 ?_));exact bodyPost_ret (ay rfl hL rfl rfl) rfl ⟨g22,cap22,cur22,rfl,hr22,hL.sub ((List.nil_sublist _).cons_cons _)⟩
end
section
open Go Go.RowKit Go.Shelf
theorem jX{r pre post:Array Value}{n k:Nat}{f:Nat→BitVec 8}(h:r=pre++aa n f++post)(hk:k=pre.size):Seg r k n (an (ae n f)) where
 len:=by rw[aq,ag]
 one:=bY _
 seg:=fun i hi=>by
  rw[aq,ag]at hi;subst h hk;rw[Array.getElem?_append_left (by rw[Array.size_append,aj];omega),Array.getElem?_append_right (by omega),Nat.add_sub_cancel_left];rw[show(an (ae n f))[i]=Value.int .u8 (B8 (f i))from by simp[an,ae]];exact bI (fun i=>Value.int .u8 (B8 (f i))) hi
def ctR(id:Int)(key cs:Nat→BitVec 8):Array Value:= #[.int .i64 id]++aa 32 key++aa 64 cs
section
variable (ver blk:Int) (root:Nat→BitVec 8) (p:Option Addr) (n c:Nat) (id:Int) (key cs sg:Nat→BitVec 8)
instance MM:Seg (mfR ver blk root p n c id key cs sg) 2 32 (an (ae 32 root)):=jX (pre:= #[.int .i64 ver,.int .i64 blk]) (post:= #[.slice p n c,.int .i64 id]++aa 32 key++aa 64 cs++aa 64 sg) (by simp only[mfR,Array.append_assoc]) rfl
instance Qq:Seg (mfR ver blk root p n c id key cs sg) 36 32 (an (ae 32 key)):=jX (pre:= #[.int .i64 ver,.int .i64 blk]++aa 32 root ++ #[.slice p n c,.int .i64 id]) (post:=aa 64 cs++aa 64 sg) (by simp only[mfR,Array.append_assoc]) (by simp[aj])
instance Sg:Seg (mfR ver blk root p n c id key cs sg) 68 64 (an (ae 64 cs)):=jX (pre:= #[.int .i64 ver,.int .i64 blk]++aa 32 root ++ #[.slice p n c,.int .i64 id]++aa 32 key) (post:=aa 64 sg) (by simp only[mfR,Array.append_assoc]) (by simp[aj])
instance Si:Part (mfR ver blk root p n c id key cs sg) 79 35 77 (ctR id key cs):=ce (pre:= #[.int .i64 ver,.int .i64 blk]++aa 32 root ++ #[.slice p n c]) (post:=aa 64 sg) (by unfold mfR ctR;rw[show #[Value.slice p n c,Value.int .i64 id]= #[Value.slice p n c] ++ #[Value.int .i64 id]from rfl];simp only[Array.append_assoc]) (by simp[aj])
instance Qr:Part (mfR ver blk root p n c id key cs sg) 79 36 24 (aa 32 key):=ce (pre:= #[.int .i64 ver,.int .i64 blk]++aa 32 root ++ #[.slice p n c,.int .i64 id]) (post:=aa 64 cs++aa 64 sg) (by simp only[mfR,Array.append_assoc]) (by simp[aj])
instance Sj:Part (mfR ver blk root p n c id key cs sg) 79 132 75 (aa 64 sg):=ce (pre:= #[.int .i64 ver,.int .i64 blk]++aa 32 root ++ #[.slice p n c,.int .i64 id]++aa 32 key++aa 64 cs) (post:= #[]) (by simp only[mfR,Array.append_assoc,Array.append_empty]) (by simp[aj])
instance Gz:Row1 (ctR id key cs) 97:=⟨by simp[ctR,aj],by
 unfold ctR;simp only[Array.all_append,bU];simp[Value.oneCell']⟩
instance Sk:Cell (ctR id key cs) 0 (.int .i64 id):=⟨by unfold ctR;rw[Array.append_assoc,Array.getElem?_append_left (by simp)];rfl⟩
instance Qs:Seg (ctR id key cs) 1 32 (an (ae 32 key)):=jX (pre:= #[.int .i64 id]) (post:=aa 64 cs) rfl rfl
instance Qt:Part (ctR id key cs) 77 33 75 (aa 64 cs):=ce (pre:= #[.int .i64 id]++aa 32 key) (post:= #[]) (by simp[ctR]) (by simp[aj])
end
instance Qu:RowTy 77 97:=⟨⟨_,underlying77,rfl⟩,by kernel_rfl⟩
theorem xV(m:Man)(hm:m.Ok)(p:Option Addr)(c:Nat)(w:World)(hv:BRow w (.slice p 80 c) m.wr) :
 Calls prog 208 #[.agg (m.row p 80 c)] w fun e w'=>∃g cap cur,e= .returned (.tuple #[.slice (some ⟨g,0,none⟩) 236 cap,.int .i64 0])∧OwnR cur 236 cap (an m.body)∧Loc w w' [(g,cur,5)]:=by
 have hL:=Loc.nil w;haveI hA:Arg w (.slice p 80 c) (an m.wr):=⟨hv.vrow⟩;obtain⟨ver,blk,root,wr,id,key,cs,sg⟩:=m;obtain⟨v0,v1,b0,b1,hw,i0,i1⟩:=hm;dsimp only at *
 have HM:=Hd (fun w1=>rh (root:=root) (key:=key) (cs:=cs) (sg:=sg) (p:=p) (c:=c) v0 v1 b0 b1 i0 i1 w1);have HROW:=Hd (show Man.row ⟨ver,blk,root,wr,id,key,cs,sg⟩ p 80 c=mfR ver blk root p 80 c id key cs sg from rfl);have HB:=Hd (show Man.body ⟨ver,blk,root,wr,id,key,cs,sg⟩=[80,67,77,49]++aX [ver,blk]++ae 32 root++wr++aX [id]++ae 32 key++ae 64 cs from by
  unfold Man.body aX;simp only[List.map_cons,List.map_nil,List.flatten_cons,List.flatten_nil,List.append_assoc,List.append_nil])
 rw[HROW.out,HB.out];have hp1:=(fun w1 (u1 u2:Value) (h2:BRow w1 u1 [80,67,77,49]) (h3:VRow w1 u2 (dq [ver,blk]))=>cB u1 [80,67,77,49] u2 [ver,blk] w1 h2 (by decide) (by decide) h3 (by simp));obtain⟨l1,hl1⟩:∃l1,l1=[80,67,77,49]++aX [ver,blk]:=⟨_,rfl⟩;have hn1:l1.length=20:=by rw[hl1];simp[bg]
 obtain⟨l2,hl2⟩:∃l2,l2=l1++ae 32 root++wr:=⟨_,rfl⟩;have hn2:l2.length=132:=by rw[hl2];simp[hn1,ag,hw]
 have hp2:=(fun w1 (u1 u2:Value) (h2:BRow w1 u1 l2) (h3:VRow w1 u2 (dq [id]))=>cB u1 l2 u2 [id] w1 h2 (by omega) (by omega) h3 (by simp));obtain⟨l3,hl3⟩:∃l3,l3=l2++aX [id]:=⟨_,rfl⟩;have hn3:l3.length=140:=by rw[hl3];simp[bg,hn2]
 rw[← hl1]at hp1 ⊢;rw[← hl2,← hl3];rw[← hl3]at hp2;simp only[Fresh,hn1]at hp1;simp only[Fresh,hn3,gZ]at hp2;have HP1:=Hd hp1;have HP2:=Hd hp2;have HL2:=Hd hl2;haveI s2:=rd ver blk;clear hl1 hl2 hl3 HB HROW v0 v1 b0 b1 i0 i1 hv hw hp1 hp2 hn1 hn2 hn3;go_enter func208,ntmps208;go_wp2_with (first|refine aU ?_|(refine gBp 1 ?_;clear hL;intro b1 w1 hL)|(go_at_call 207;go_loud (refine(HM.out _).mono ?_);rintro e w1⟨rfl,hb1⟩;have hL1:=hL.keep hb1;clear hb1;clear hL;have hL:=hL1;clear hL1;refine p4 ?_)|((with_reducible show wpList _ _ _ (⟨some 8,_,_,_,_,_⟩::⟨some 9,_,_,_,_,_⟩::_) _ _);go_loud (refine zq 80 67 77 49 hL rfl rfl rfl rfl rfl rfl rfl rfl (fun _=>rfl) ?_);clear hL;intro b8 w9 hb8 hL0;have hA8:Arg w9 (.slice (some ⟨b8,0,none⟩) 4 4) (an [80,67,77,49]):=⟨hb8.vrow⟩;have hW0:Was w9 b1 0 (.int .i64 ver):=⟨by rw[cell_of_row w9 b1 0 _ _ _ (hL0.get (.head _))];exact(inferInstance:Cell (mfR ver blk root p 80 c id key cs sg) 0 (.int .i64 ver)).cell,hL0.lt (.head _)⟩;have hW1:Was w9 b1 1 (.int .i64 blk):=⟨by rw[cell_of_row w9 b1 1 _ _ _ (hL0.get (.head _))];exact(inferInstance:Cell (mfR ver blk root p 80 c id key cs sg) 1 (.int .i64 blk)).cell,hL0.lt (.head _)⟩;have hL:=Loc.nil w9;refine p4 ?_)|((with_reducible show wpList _ _ _ (⟨some 14,.buildSlice _ _ _,_,_,_,_⟩::_) _ _);(first|refine zm hL rfl rfl rfl rfl ?_|refine Dz hL rfl rfl rfl rfl rfl rfl ?_);intro b14;clear hL;intro w1 hL;refine p4 ?_)|((go_at_call 202;go_loud (refine(HP1.out _ _ _ (See.bytes hL (l:=[80,67,77,49])) (See.see _ hL)).mono ?_);rintro e w1⟨g15,cap15,cur15,rfl,hr15,hg15,hc15,hb15⟩;have hL1:=hL0.join (hL.fresh hb15 hg15 hc15);clear hb15 hg15 hc15;clear hL hA8 hb8;have hL:=hL1;clear hL1;try simp only[List.cons_append,List.nil_append]at hL;refine p4 ?_))|(refine ah ?_;clear hL;intro w1 hL));refine mX (S:=(fun w'=>Loc _ w' [(b1,mfR ver blk root p 80 c id key cs sg,79)])) 8 (hL.drew.pop.pop) ?_;intro hHeld;replace hL:=hL.drew;refine uG 0 ?_;refine uG 1 ?_;refine uG 4 ?_;refine uG 2 ?_;refine uZ 5 ?_;refine rd1 3 ?_;intro K hK;refine eAp ?_;clear hL;intro g19 cap19 cur19 w1 hr19 hL;refine kO hK (hL.pop.pop) ?_;clear hK K hHeld;intro hHeld;refine rd1 6 ?_;intro K hK;refine eAp ?_;clear hL;intro g22 cap22 cur22 w1 hr22 hL;refine kO hK (hL.pop.pop) ?_;clear hK K hHeld;intro hHeld;refine uG 7 ?_;refine wD ?_;clear hHeld;go_wp2_with (first|refine aU ?_|(refine ah ?_;clear hL;intro w1 hL));simp only[Nat.reduceAdd]at hr22;refine mX (S:=fun w'=>Loc _ w' _) 11 (hL.drew) ?_;intro hHeld;replace hL:=hL.drew;refine uG 0 ?_;refine uG 1 ?_;refine uG 6 ?_;refine uG 2 ?_;refine uG 7 ?_;refine uZ 3 ?_;refine uG 8 ?_;refine rd1 4 ?_;intro K hK;refine eBS ?_;clear hL;intro b27 w1 hL;refine kO hK (hL.pop) ?_;clear hK K hHeld;intro hHeld;refine rd1 5 ?_;intro K hK;refine eK (HP2.out _ _ _ (by rw[HL2.out];exact See.bytes hL (v:= .slice (some ⟨g22,0,none⟩) 132 cap22)) (See.see (v:= .slice (some ⟨b27,0,none⟩) 1 1) _ hL)) ?_;rintro e w1⟨g28,cap28,cur28,rfl,hr28,hg28,hc28,hb28⟩;refine⟨_,rfl,?_⟩;have hL1:=hL.fresh hb28 hg28 hc28;clear hb28 hg28 hc28;clear hL;have hL:=hL1;clear hL1;refine kO hK (hL.pop.pop) ?_;clear hK K hHeld;intro hHeld;refine rd1 9 ?_;intro K hK;refine eAp ?_;clear hL;intro g32 cap32 cur32 w1 hr32 hL;refine kO hK (hL.pop.pop) ?_;clear hK K hHeld;intro hHeld;refine uG 10 ?_;refine wD ?_;clear hHeld;go_wp2_with (first|refine aU ?_|(refine gN 37 ?_;refine aA ?_;clear hL;intro g37 cap37 cur37 w1 hr37 hL)|(refine ah ?_;clear hL;intro w1 hL));go_ret2;exact⟨g37,cap37,cur37,rfl,hr37,hL.sub ((List.nil_sublist _).cons_cons _)⟩
instance Qv:Ent 208:=eo func208
def dt(id:Int)(key:Nat→BitVec 8):List (BitVec 8):=[80,67,67,84]++aR id++ae 32 key
noncomputable def fZ(k:Nat→BitVec 8)(id:Int)(key cs:Nat→BitVec 8):Bool:=dD (leN k) (leN cs) (leN fun i=>cs (32+i)) (dt id key)
noncomputable def kU(k sg:Nat→BitVec 8)(l:List (BitVec 8)):Bool:=dD (leN k) (leN sg) (leN fun i=>sg (32+i)) l
theorem qz(k:Nat→BitVec 8)(id:Int)(key cs:Nat→BitVec 8)(w:World)(h0:0≤id)(h1:id≤2147483647) :
 Rt 209 #[.agg (aa 32 k),.agg (ctR id key cs)] w (.bool (fZ k id key cs)):=by
 have hL:=Loc.nil w;have hm:uV id=true:=by unfold uV;rw[decide_eq_true];omega
 have HM:=Hd (fun w1=>by have:=rb id w1;rw[hm]at this;exact this);have HB:=Hd (fun w1=>Ds [80,67,67,84] id w1 (by decide) (by decide));have hv:=(fun w1 (v:Value) (hv:BRows w1 v [[80,67,67,84]++aR id,ae 32 key])=>o0 k cs v [[80,67,67,84]++aR id,ae 32 key] w1 hv (by simp) (by simp) (by simp[aO,ag]));rw[show[[80,67,67,84]++aR id,ae 32 key].flatten=dt id key from by simp[dt]]at hv;have HV:=Hd hv;have HC:=Hd (show dD (leN k) (leN cs) (leN fun i=>cs (32+i)) (dt id key)=fZ k id key cs from rfl);rw[HC.out]at HV;clear hv HC hm h0 h1;generalize fZ k id key cs=C at *
 go_enter func209,ntmps209;go_wp2_with (first|refine aU ?_|(refine gBp 2 ?_;clear hL;intro b2 w1 hL)|(refine gBp 3 ?_;clear hL;intro b3 w1 hL)|(refine ah ?_;clear hL;intro w1 hL));refine mX (S:=fun w'=>Loc _ w' _) 16 (hL.drew) ?_;intro hHeld;replace hL:=hL.drew;refine uG 0 ?_;refine uZ 1 ?_;refine rd1 2 ?_;intro K hK;refine eVv (HM.out _) hL ?_;clear hL;intro w1 hL;refine kO hK (hL) ?_;clear hK K hHeld;intro hHeld;refine uG 3 ?_;refine uL 4 ?_;refine uS 5 ?_;refine uS 7 ?_;refine uS 10 ?_;refine uL 6 ?_;refine uL 8 ?_;refine uS 11 ?_;refine rd1 9 ?_;intro K hK;refine eK (HB.out _) ?_;rintro e w1⟨g14,cap14,cur14,rfl,hr14,hg14,hc14,hb14⟩;refine⟨_,rfl,?_⟩;have hL1:=hL.fresh hb14 hg14 hc14;clear hb14 hg14 hc14;clear hL;have hL:=hL1;clear hL1;refine kO hK (hL.pop) ?_;clear hK K hHeld;intro hHeld;refine rd1 12 ?_;intro K hK;refine eBS ?_;clear hL;intro b17 w1 hL;refine kO hK (hL.pop.pop) ?_;clear hK K hHeld;intro hHeld;refine rd1 13 ?_;intro K hK;refine eVv (HV.out _ _ (fH (hL.get (.head _)) (See.bytes hL) (See.bytes hL))) hL ?_;clear hL;intro w1 hL;refine kO hK (hL.pop.pop) ?_;clear hK K hHeld;intro hHeld;refine uG 14 ?_;refine uG 15 ?_;refine wD ?_;clear hHeld;go_wp2_with (first|refine aU ?_|(refine ah ?_;clear hL;intro w1 hL));go_ret;exact⟨rfl,hL.bel⟩
end
end Go.Proofs.YtoifhhljfaoejaaGreatDoor
