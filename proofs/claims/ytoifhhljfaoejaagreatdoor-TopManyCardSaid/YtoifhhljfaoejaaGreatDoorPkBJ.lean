/-
  Lemmas of the law, part 36: the walks of the functions that it calls and the plain facts about them. No condition beyond those written.
-/
import Derived.Test.YtoifhhljfaoejaaGreatDoorPkAA
import Derived.Test.YtoifhhljfaoejaaGreatDoorPkBI
namespace Go.Proofs.YtoifhhljfaoejaaGreatDoor
open Go Go.RowKit Go.Shelf
set_option linter.unusedVariables false
set_option linter.unusedSimpArgs false
set_option linter.unusedSectionVars false
section
variable (g:Nat) (er pr:Int)
instance iFls1:Cell (flR g er pr) 0 (.slice (some ⟨g,0,none⟩) 32768 32768):=⟨rfl⟩
instance iFls2:Cell (flR g er pr) 1 (.int .i64 (-1)):=⟨rfl⟩
instance iFls3:Cell (flR g er pr) 3 (.bool false):=⟨rfl⟩
instance iFls4:Cell (flR g er pr) 4 (.int .i64 er):=⟨rfl⟩
instance iFls5:Cell (flR g er pr) 5 (.int .i64 pr):=⟨rfl⟩
instance iFls6:Put (flR g er pr) 1 (.int .i64 (-1)) (flR g er pr):=⟨rfl,by show 1<6;decide⟩
instance iFls7 (e:Int):Put (flR g er pr) 4 (.int .i64 e) (flR g e pr):=⟨rfl,by show 4<6;decide⟩
instance iFls8 (e:Int):Put (flR g er pr) 5 (.int .i64 e) (flR g er e):=⟨rfl,by show 5<6;decide⟩
end
structure Fl (f:Nat→BitVec 8) (y:Array Value):Prop where
 size:32768≤y.size
 cell:∀ i,i<32768→y[i]?=some (.int .u8 (B8 (f i)))
theorem Fl.put {f h:Nat→BitVec 8} {y:Array Value} (hf:Fl f y) (k:Nat) (b:BitVec 8) (hk:k<32768) (e:∀ i,i<32768→h i=if i=k then b else f i):Fl h (y.setIfInBounds k (.int .u8 (B8 b))) where
 size:=by have:=hf.size;simpa using this
 cell:=fun i hi=>by
  have:=hf.size
  rw [e i hi]
  by_cases h1:i=k
  ·subst h1
   rw [if_pos rfl,Array.getElem?_setIfInBounds_self_of_lt (by omega)]
  ·rw [if_neg h1,Array.getElem?_setIfInBounds_ne (fun h=>h1 h.symm)]
   exact hf.cell i hi
theorem Fl.congr {f h:Nat→BitVec 8} {y:Array Value} (hf:Fl f y) (e:∀ i,i<32768→h i=f i):Fl h y:=⟨hf.size,fun i hi=>by rw [e i hi];exact hf.cell i hi⟩
theorem Filled.fl {x:BitVec 8} {y:Array Value} (h:Filled x 32768 y):Fl (fun _=>x) y:=⟨h.size,h.cell⟩
class FlM (F:Array Value→Array Value→Mem) (bf bb:Nat):Prop where
 a:∀ x y,At (F x y) bf x 106
 u:∀ x y x',Ups (F x y) bf x' (F x' y)
 b:∀ x y,At (F x y) bb y 5
 v:∀ x y y',Ups (F x y) bb y' (F x y')
instance flM (F:Array Value→Array Value→Mem) (bf bb:Nat) [h1:∀ x y,At (F x y) bf x 106] [h2:∀ x y x',Ups (F x y) bf x' (F x' y)] [h3:∀ x y,At (F x y) bb y 5] [h4:∀ x y y',Ups (F x y) bb y' (F x y')]:FlM F bf bb:=⟨h1,h2,h3,h4⟩
section
variable {w0 w:World} {F:Array Value→Array Value→Mem} {bf bb:Nat} [hF:FlM F bf bb] {er pr:Int} {y:Array Value}
set_option maxRecDepth 100000 in
theorem size_any (hL:Loc w0 w (F (flR bb er pr) y)):Calls Tryz.prog 42 #[.pointer (some ⟨bf,0,none⟩)] w fun e w'=>e= .returned (.int .i64 128)∧Loc w0 w' (F (flR bb er pr) y):=by
 have hA:=hF.a
 go_enter Tryz.func42,Tryz.ntmps42
 go_wp2_with (first | refine aV ?_ | (refine aL3S5p ?_;clear hL;intro w1 hL))
 go_ret
 exact ⟨rfl,hL⟩
set_option maxRecDepth 100000 in
theorem dead_any (hL:Loc w0 w (F (flR bb er pr) y)):Calls Tryz.prog 51 #[.pointer (some ⟨bf,0,none⟩)] w fun e w'=>e= .returned (.bool false)∧Loc w0 w' (F (flR bb er pr) y):=by
 have hA:=hF.a
 go_enter Tryz.func51,Tryz.ntmps51
 go_wp2_with (first | refine aV ?_ | (refine aL3S5p ?_;clear hL;intro w1 hL))
 go_ret
 exact ⟨rfl,hL⟩
set_option maxRecDepth 100000 in
theorem is_any (at_ n:Nat) (h:at_+n≤32768) (hL:Loc w0 w (F (flR bb er pr) y)):Calls Tryz.prog 243 #[.pointer (some ⟨bf,0,none⟩),.int .i64 at_,.int .i64 n] w fun e w'=>e= .returned (.bool true)∧Loc w0 w' (F (flR bb er pr) y):=by
 have hA:=hF.a
 have q0:(0:Int)≤at_:=by omega
 have q1:(0:Int)≤n:=by omega
 have q2:(at_:Int)≤32768:=by omega
 have q3:(n:Int)≤32768 - at_:=by omega
 go_enter Tryz.func243,Tryz.ntmps243
 go_wp2_with (first | refine aV ?_ | (refine aL3S5p ?_;clear hL;intro w1 hL))
 go_ret
 exact ⟨rfl,hL⟩
set_option maxRecDepth 100000 in
theorem operation_any (n:Int) (hL:Loc w0 w (F (flR bb er pr) y)):Calls Tryz.prog 240 #[.pointer (some ⟨bf,0,none⟩),.int .i64 n] w fun e w'=>e= .returned (.tuple #[.int .i64 n,.bool true])∧Loc w0 w' (F (flR bb er pr) y):=by
 have hA:=hF.a
 have hU:=hF.u
 have hmx:max (-1:Int) (-2)= -1:=by decide
 go_enter Tryz.func240,Tryz.ntmps240
 go_wp2_with (first | refine aV ?_ | (refine aL3S5p ?_;clear hL;intro w1 hL))
 go_ret2
 exact ⟨rfl,hL⟩
end
instance iFls9:Ent 42:=Ent.of Tryz.func42 (by kernel_rfl) rfl
instance iFls10:Ent 51:=Ent.of Tryz.func51 (by kernel_rfl) rfl
instance iFls11:Ent 243:=Ent.of Tryz.func243 (by kernel_rfl) rfl
instance iFls12:Ent 240:=Ent.of Tryz.func240 (by kernel_rfl) rfl
section
variable {w0 w:World} {F:Array Value→Array Value→Mem} {bf bb:Nat} [hF:FlM F bf bb] {er pr:Int} {y:Array Value}
set_option maxRecDepth 100000 in
theorem turnF_any (hL:Loc w0 w (F (flR bb er pr) y)):Calls Tryz.prog 197 #[.pointer (some ⟨bf,0,none⟩)] w fun e w'=>e= .returned (.bool true)∧Loc w0 w' (F (flR bb er pr) y):=by
 have hA:=hF.a
 go_enter Tryz.func197,Tryz.ntmps197
 go_wp2_with (first | refine aV ?_ | ((with_reducible refine gC 11 ?_);go_loud (refine lCall rfl rfl ((operation_any (F:=F) (bf:=bf) (bb:=bb) 0 hL).mono ?_) rfl);rintro e w1 ⟨rfl,hL1⟩;clear hL;revert hL1;refine aE ?_;intro hL) | (refine aL3S5p ?_;clear hL;intro w1 hL))
 go_ret
 exact ⟨rfl,hL⟩
def eraF (f:Nat→BitVec 8) (s j:Nat):Nat→BitVec 8:=fun i=>if 256*s≤i∧i<256*s+j then 255 else f i
theorem B8_255:B8 255=255:=by decide
set_option maxRecDepth 100000 in
theorem erase_any {f:Nat→BitVec 8} (s:Nat) (hs:s<128) (h0:0≤er∧er≤1099511627776) (hy:Fl f y) (hL:Loc w0 w (F (flR bb er pr) y)) :
 Calls Tryz.prog 199 #[.pointer (some ⟨bf,0,none⟩),.int .i64 s] w fun e w'=>e= .returned (.bool true)∧∃ e' y',(0≤e'∧e'≤1099511627776)∧Fl (eraF f s 256) y'∧Loc w0 w' (F (flR bb e' pr) y'):=by
 have hA:=hF.a
 have hU:=hF.u
 have hB:=hF.b
 have hV:=hF.v
 have q0:¬ (s:Int)<0:=by omega
 have q1:¬ (128:Int)≤s:=by omega
 have q2:(s:Int)≤127:=by omega
 have HE:=Lib.hid (h0)
 have hY0:=hy.congr (h:=eraF f s 0) (fun i hi=>by unfold eraF;rw [if_neg (by omega)])
 clear hy h0
 go_enter Tryz.func199,Tryz.ntmps199
 go_wp2_with (first | refine aV ?_ | ((with_reducible refine gC 20 ?_);go_loud (refine lCall rfl rfl ((size_any (F:=F) (bf:=bf) (bb:=bb) hL).mono ?_) rfl);rintro e w1 ⟨rfl,hL1⟩;clear hL;revert hL1;refine aE ?_;intro hL) | ((with_reducible refine gC 25 ?_);go_loud (refine lCall rfl rfl ((operation_any (F:=F) (bf:=bf) (bb:=bb) 256 hL).mono ?_) rfl);rintro e w1 ⟨rfl,hL1⟩;clear hL;revert hL1;refine aE ?_;intro hL) | (refine aL3S5p ?_;clear hL;intro w1 hL))
 go_loopw [31] (fun kk wr=>∃ (j:Nat) (y:Array Value),j≤256∧kk= .int .i64 j∧Fl (eraF f s j) y∧Loc w0 wr (F (flR bb er pr) y)) (fun kk _=>256 - (intOf kk).toNat)
 case atStart=>exact ⟨0,y,by omega,rfl,hY0,hL⟩
 case round =>
  clear hL hY0
  obtain ⟨j,y,hj,rfl,hy,hL⟩:=hrel
  by_cases hlt:j<256
  ·have k0:(0:Int)≤j:=by omega
   have k1:(j:Int)<256:=by omega
   have k2:(0:Int)≤s*256+j:=by omega
   have k3:(s:Int)*256+j<32768:=by omega
   have k4:((s:Int)*256+j).toNat=s*256+j:=by omega
   have hp:=hy.put (h:=eraF f s (j+1)) (s*256+j) 255 (by omega) (fun i hi=>by
    unfold eraF
    by_cases h1:i=s*256+j
    ·rw [if_pos h1,if_pos (by omega)]
    ·rw [if_neg h1]
     by_cases h2:256*s≤i∧i<256*s+j
     ·rw [if_pos h2,if_pos (by omega)]
     ·rw [if_neg h2,if_neg (by omega)])
   rw [B8_255] at hp
   haveI hP:Put y (s*256+j) (.int .u8 255) (y.setIfInBounds (s*256+j) (.int .u8 255)):=⟨rfl,by have:=hy.size;omega⟩
   go_wp2_with (first | refine aV ?_ | (refine aL3S5p ?_;clear hL;intro w1 hL))
   go_roundw
   case rel=>exact ⟨j+1,_,by omega,by go_num,hp,hL⟩
   case measure=>simp only [intOf];omega
  ·obtain rfl:j=256:=by omega
   have he:=HE.out
   have e1:(er+1≤9223372036854775807):=by omega
   have e2:(-9223372036854775808≤er+1):=by omega
   obtain ⟨m,hm⟩:∃ m,min (er+1) 1099511627776=m:=⟨_,rfl⟩
   have hm0:0≤m∧m≤1099511627776:=by omega
   go_wp2_with (first | refine aV ?_ | (refine aL3S5p ?_;clear hL;intro w1 hL))
   go_ret
   exact ⟨rfl,_,y,by omega,hy,hL⟩
instance iFls13:Ent 197:=Ent.of Tryz.func197 (by kernel_rfl) rfl
instance iFls14:Ent 199:=Ent.of Tryz.func199 (by kernel_rfl) rfl
end
theorem lK {ops:Array Oper} {rest:List Oper} {o:Oper} {a:Act} {w0 w:World} {M:Mem} {Q:Exit→Act→World→Prop} (hL:Loc w0 w M) (hg:o.guard=none) {t:TypeId} {x:Operand} (ho:o.op= .load t x) {b k:Nat} (hx:a.eval x= .pointer (some ⟨b,k,none⟩)) {v:Value} [ht:ScTy t] (hc:w.cell? ⟨b,k,none⟩=some v)
 (h:∀ w',Loc w0 w' M→wpList Tryz.prog ops Q rest (a.put o.dst v) w'):wpList Tryz.prog ops Q (o :: rest) a w :=
 wpList_plain hg fun K hK=>by
  unfold Oper.wp execOp
  have:=run_load_sc (t:=t) (w:=w) (b:=b) (k:=k) (v:=v) hc
  simp only [ho,hx,Instr.loadAt,Instr.sureAddr,Sem.run_bind,Sem.run_pure,Result.andThen_ok,this]
  exact hK _ _ (h w hL)
section
variable {w0 w:World} {F:Array Value→Array Value→Mem} {bf bb:Nat} [hF:FlM F bf bb] {er pr:Int} {y:Array Value}
def prgF (f:Nat→BitVec 8) (a:Nat) (l:List (BitVec 8)) (j:Nat):Nat→BitVec 8:=fun i=>if a≤i∧i<a+j then f i &&& l.getD (i - a) 0 else f i
theorem B8_and (a b:BitVec 8):bits .and .u8 (B8 a) (B8 b)=B8 (a &&& b):=by
 show IntKind.u8.wrap ((BitVec.ofInt 8 (a.toNat:Int) &&& BitVec.ofInt 8 (b.toNat:Int)).toNat:Nat)=_
 have e1:BitVec.ofInt 8 (a.toNat:Int)=a:=by simp
 have e2:BitVec.ofInt 8 (b.toNat:Int)=b:=by simp
 rw [e1,e2,IntKind.wrap_u8]
 have:=(a &&& b).isLt
 show ((a &&& b).toNat:Int) % 256=((a &&& b).toNat:Int)
 omega
set_option maxRecDepth 100000 in
theorem program_any {f:Nat→BitVec 8} (a:Nat) {p:Option Addr} {n c:Nat} {l:List (BitVec 8)} (hS:∀ x y,See w0 (F x y) (.slice p n c) (encB l)) (hl:l.length=n) (hc:n≤c) (h0:0<n) (ha:a+n≤32768) (h1:0≤pr∧pr≤1099511627776) (hy:Fl f y) (hL:Loc w0 w (F (flR bb er pr) y)) :
 Calls Tryz.prog 200 #[.pointer (some ⟨bf,0,none⟩),.int .i64 a,.slice p n c] w fun e w'=>e= .returned (.bool true)∧∃ p' y',(0≤p'∧p'≤1099511627776)∧Fl (prgF f a l n) y'∧Loc w0 w' (F (flR bb er p') y'):=by
 have hA:=hF.a
 have hU:=hF.u
 have hB:=hF.b
 have hV:=hF.v
 have q0:(n:Int)≤c:=by omega
 have q1:(0:Int)≤n:=by omega
 have HE:=Lib.hid h1
 have HL:=Lib.hid hl
 have hSl:=Lib.hid (fun w1 x y (h:Loc w0 w1 (F x y))=>(show BRow w1 (.slice p n c) l from by haveI:=hS x y;exact See.bytes h))
 have hY0:=hy.congr (h:=prgF f a l 0) (fun i hi=>by unfold prgF;rw [if_neg (by omega)])
 have ha2:(a:Int)≤32768:=by omega
 clear hy h1 hl
 go_enter Tryz.func200,Tryz.ntmps200
 go_wp2_with (first | refine aV ?_ | ((with_reducible refine gC 20 ?_);go_loud (refine lCall rfl rfl ((is_any (F:=F) (bf:=bf) (bb:=bb) a n ha hL).mono ?_) rfl);rintro e w1 ⟨rfl,hL1⟩;clear hL;revert hL1;refine aE ?_;intro hL) | ((with_reducible refine gC 27 ?_);go_loud (refine lCall rfl rfl ((operation_any (F:=F) (bf:=bf) (bb:=bb) n hL).mono ?_) rfl);rintro e w1 ⟨rfl,hL1⟩;clear hL;revert hL1;refine aE ?_;intro hL) | (refine aL3S5p ?_;clear hL;intro w1 hL))
 obtain ⟨pa,ca,e1,hn1,hp1⟩:=hSl.out _ _ _ hL
 obtain ⟨bs,os,e2,hb1,hc1⟩:=hp1 (by rw [HL.out];exact h0)
 cases e1
 subst e2
 clear hn1 hp1 hb1 hc1
 have HC:=Lib.hid (fun w1 x y (h:Loc w0 w1 (F x y)) k (hk:k<l.length)=>(show w1.cell? ⟨bs,os+k,none⟩=some (.int .u8 (B8 l[k])) from by
  obtain ⟨pa,ca,e1,hn1,hp1⟩:=hSl.out _ _ _ h
  obtain ⟨b2,o2,e2,hb2,hc2⟩:=hp1 (by omega)
  cases e1
  cases e2
  exact hc2 k hk))
 clear hSl
 go_loopw [34] (fun kk wr=>∃ (j:Nat) (y:Array Value),j≤l.length∧kk= .int .i64 j∧Fl (prgF f a l j) y∧Loc w0 wr (F (flR bb er pr) y)) (fun kk _=>l.length - (intOf kk).toNat)
 case atStart=>exact ⟨0,y,by omega,rfl,hY0,hL⟩
 case round =>
  clear hL hY0
  obtain ⟨j,y,hj,rfl,hy,hL⟩:=hrel
  by_cases hlt:j<l.length
  ·have k0:(0:Int)≤j:=by omega
   have k1:(j:Int)<l.length:=by omega
   have k2:(0:Int)≤a+j:=by omega
   have k3:(a:Int)+j<32768:=by omega
   have k4:((a:Int)+j).toNat=a+j:=by omega
   have hC:=Lib.hid (fun w1 (h:Loc w0 w1 (F (flR bb er pr) y))=>HC.out w1 _ y h j hlt)
   have hcell:=hy.cell (a+j) (by omega)
   rw [show prgF f a l j (a+j)=f (a+j) from by unfold prgF;rw [if_neg (by omega)]] at hcell
   haveI hCy:Cell y (a+j) (.int .u8 (B8 (f (a+j)))):=⟨hcell⟩
   have hp:=hy.put (h:=prgF f a l (j+1)) (a+j) (f (a+j) &&& l[j]) (by omega) (fun i hi=>by
    unfold prgF
    by_cases h1:i=a+j
    ·rw [if_pos h1,if_pos (by omega),h1,Nat.add_sub_cancel_left,List.getD_eq_getElem?_getD,List.getElem?_eq_getElem hlt];rfl
    ·rw [if_neg h1]
     by_cases h2:a≤i∧i<a+j
     ·rw [if_pos h2,if_pos (by omega)]
     ·rw [if_neg h2,if_neg (by omega)])
   rw [← B8_and] at hp
   generalize l[j]=bb' at *
   haveI hP:Put y (a+j) (.int .u8 (bits .and .u8 (B8 (f (a+j))) (B8 bb'))) (y.setIfInBounds (a+j) (.int .u8 (bits .and .u8 (B8 (f (a+j))) (B8 bb')))):=⟨rfl,by have:=hy.size;omega⟩
   clear hcell
   go_wp2_with (first | refine aV ?_ | ((with_reducible show wpList _ _ _ (⟨some 38,.load _ _,_,_,_,_⟩ :: _) _ _);(refine lK hL rfl rfl rfl (hC.out _ hL) ?_);clear hL;intro w1 hL) | (refine aL3S5p ?_;clear hL;intro w1 hL))
   go_roundw
   case rel=>exact ⟨j+1,_,by omega,by go_num,hp,hL⟩
   case measure=>simp only [intOf];omega
  ·obtain rfl:j=l.length:=by omega
   have he:=HE.out
   have e1:(pr+1≤9223372036854775807):=by omega
   have e2:(-9223372036854775808≤pr+1):=by omega
   go_wp2_with (first | refine aV ?_ | (refine aL3S5p ?_;clear hL;intro w1 hL))
   go_ret
   exact ⟨rfl,_,by omega,y,hy,hL⟩
end
instance iFls15:Ent 200:=Ent.of Tryz.func200 (by kernel_rfl) rfl
def otR (bf:Nat) (fr fs:Nat→BitVec 8) (n m:Int):Array Value:= #[.pointer (some ⟨bf,0,none⟩)] ++ rowB 32 fr ++ rowB 32 fs ++ #[.int .i64 n,.int .i64 m]
section
variable (bf:Nat) (fr fs:Nat→BitVec 8) (n m:Int)
theorem otR_size:(otR bf fr fs n m).size=67:=by simp [otR,rowB_size]
instance iFls16:Cell (otR bf fr fs n m) 0 (.pointer (some ⟨bf,0,none⟩)):=⟨by
 unfold otR
 rw [Array.getElem?_append_left (by simp [rowB_size]),Array.getElem?_append_left (by simp [rowB_size]),Array.getElem?_append_left (by simp)]
 rfl⟩
instance iFls17:Cell (otR bf fr fs n m) 65 (.int .i64 n):=⟨by
 unfold otR
 rw [Array.getElem?_append_right (by simp [rowB_size])]
 simp [rowB_size]⟩
instance iFls18:Cell (otR bf fr fs n m) 66 (.int .i64 m):=⟨by
 unfold otR
 rw [Array.getElem?_append_right (by simp [rowB_size])]
 simp [rowB_size]⟩
instance iFls19 (k:Int):Put (otR bf fr fs n m) 65 (.int .i64 k) (otR bf fr fs k m):=⟨by
 unfold otR
 rw [Array.setIfInBounds_append_right (by simp [rowB_size])]
 simp [rowB_size],by rw [otR_size];decide⟩
instance iFls20:Part (otR bf fr fs n m) 108 1 24 (rowB 32 fr):=part_mid (pre:= #[.pointer (some ⟨bf,0,none⟩)]) (post:=rowB 32 fs ++ #[.int .i64 n,.int .i64 m]) (by simp [otR,Array.append_assoc]) rfl
instance iFls21:Part (otR bf fr fs n m) 108 33 24 (rowB 32 fs):=part_mid (pre:= #[.pointer (some ⟨bf,0,none⟩)] ++ rowB 32 fr) (post:= #[.int .i64 n,.int .i64 m]) (by simp [otR]) (by simp [rowB_size])
theorem build_otp (w:World):(Instr.build 108 #[(0,.pointer (some ⟨bf,0,none⟩)),(1,.agg (rowB 32 fr)),(2,.agg (rowB 32 fs)),(4,.int .i64 m)]).run Tryz.prog w= .ok (.agg (otR bf fr fs 0 m)) w:=by kernel_rfl
end
instance iFls22:ScTy 35:=⟨fun w=>by kernel_rfl,by kernel_rfl⟩
instance iFls23:ScTy 37:=⟨fun w=>by kernel_rfl,by kernel_rfl⟩
set_option maxRecDepth 100000 in
theorem otpNew_any (bf:Nat) (fr fs:Nat→BitVec 8) (m:Nat) (hm:m≤1048576) (w:World):Calls Tryz.prog 14 #[.pointer (some ⟨bf,0,none⟩),.agg (rowB 32 fr),.agg (rowB 32 fs),.int .i64 m] w fun e w'=>∃ b,e= .returned (.pointer (some ⟨b,0,none⟩))∧Loc w w' [(b,otR bf fr fs 0 m,108)]:=by
 have hL:=Loc.nil w
 have hmx:max (0:Int) m=m:=by omega
 have hmn:min (m:Int) 1048576=m:=by omega
 go_enter Tryz.func14,Tryz.ntmps14
 go_wp2_with (first | refine aV ?_ | ((with_reducible refine gS 5 ?_);refine aBp ?_;clear hL;intro b5 w1 hL) | ((with_reducible refine gS 6 ?_);refine aBp ?_;clear hL;intro b6 w1 hL) | ((with_reducible refine gS 16 ?_);refine aBp ?_;clear hL;intro b16 w1 hL) | ((with_reducible show wpList _ _ _ (⟨some 15,.build _ _,_,_,_,_⟩ :: _) _ _);refine lU hL rfl rfl (build_otp _ _ _ _) rfl ?_;clear hL;intro w1 hL;refine p4 ?_) | (refine aL3S5p ?_;clear hL;intro w1 hL))
 go_ret
 exact ⟨b16,rfl,Loc.rem b5 (Loc.rem b6 hL)⟩
instance iFls24:Ent 14:=Ent.of Tryz.func14 (by kernel_rfl) rfl
class OtM (F:Array Value→Array Value→Array Value→Mem) (bf bb bo:Nat):Prop where
 a:∀ x y z,At (F x y z) bf x 106
 u:∀ x y z x',Ups (F x y z) bf x' (F x' y z)
 b:∀ x y z,At (F x y z) bb y 5
 v:∀ x y z y',Ups (F x y z) bb y' (F x y' z)
 o:∀ x y z,At (F x y z) bo z 108
 p:∀ x y z z',Ups (F x y z) bo z' (F x y z')
instance otM (F:Array Value→Array Value→Array Value→Mem) (bf bb bo:Nat) [h1:∀ x y z,At (F x y z) bf x 106] [h2:∀ x y z x',Ups (F x y z) bf x' (F x' y z)] [h3:∀ x y z,At (F x y z) bb y 5] [h4:∀ x y z y',Ups (F x y z) bb y' (F x y' z)] [h5:∀ x y z,At (F x y z) bo z 108] [h6:∀ x y z z',Ups (F x y z) bo z' (F x y z')]:OtM F bf bb bo:=⟨h1,h2,h3,h4,h5,h6⟩
theorem otFl (F:Array Value→Array Value→Array Value→Mem) (bf bb bo:Nat) [h:OtM F bf bb bo] (z:Array Value):FlM (fun x y=>F x y z) bf bb:=⟨fun x y=>h.a x y z,fun x y x'=>h.u x y z x',fun x y=>h.b x y z,fun x y y'=>h.v x y z y'⟩
section
variable {w0 w:World} {F:Array Value→Array Value→Array Value→Mem} {bf bb bo:Nat} [hF:OtM F bf bb bo] {er pr:Int} {y:Array Value} {fr fs:Nat→BitVec 8} {n m:Int}
set_option maxRecDepth 100000 in
theorem otpMost_any (hL:Loc w0 w (F (flR bb er pr) y (otR bf fr fs n m))):Calls Tryz.prog 145 #[.pointer (some ⟨bo,0,none⟩)] w fun e w'=>e= .returned (.int .i64 m)∧Loc w0 w' (F (flR bb er pr) y (otR bf fr fs n m)):=by
 have hA:=hF.o
 go_enter Tryz.func145,Tryz.ntmps145
 go_wp2_with (first | refine aV ?_ | (refine aL3S5p ?_;clear hL;intro w1 hL))
 go_ret
 exact ⟨rfl,hL⟩
instance iFls25:Ent 145:=Ent.of Tryz.func145 (by kernel_rfl) rfl
set_option maxRecDepth 100000 in
theorem otpCount_any (hL:Loc w0 w (F (flR bb er pr) y (otR bf fr fs n m))):Calls Tryz.prog 24 #[.pointer (some ⟨bo,0,none⟩)] w fun e w'=>e= .returned (.int .i64 n)∧Loc w0 w' (F (flR bb er pr) y (otR bf fr fs n m)):=by
 have hA:=hF.o
 go_enter Tryz.func24,Tryz.ntmps24
 go_wp2_with (first | refine aV ?_ | (refine aL3S5p ?_;clear hL;intro w1 hL))
 go_ret
 exact ⟨rfl,hL⟩
instance iFls26:Ent 24:=Ent.of Tryz.func24 (by kernel_rfl) rfl
set_option maxRecDepth 100000 in
theorem otpRoot_any (hL:Loc w0 w (F (flR bb er pr) y (otR bf fr fs n m))):Calls Tryz.prog 48 #[.pointer (some ⟨bo,0,none⟩)] w fun e w'=>e= .returned (.agg (rowB 32 fr))∧Loc w0 w' (F (flR bb er pr) y (otR bf fr fs n m)):=by
 have hA:=hF.o
 go_enter Tryz.func48,Tryz.ntmps48
 go_wp2_with (first | refine aV ?_ | ((with_reducible refine gS 2 ?_);refine aBp ?_;clear hL;intro b2 w1 hL) | (refine aL3S5p ?_;clear hL;intro w1 hL))
 exact bodyPost_ret (results_loc rfl hL rfl) rfl ⟨rfl,hL.pop⟩
instance iFls27:Ent 48:=Ent.of Tryz.func48 (by kernel_rfl) rfl
set_option maxRecDepth 100000 in
theorem otpSecret_any (hL:Loc w0 w (F (flR bb er pr) y (otR bf fr fs n m))):Calls Tryz.prog 49 #[.pointer (some ⟨bo,0,none⟩)] w fun e w'=>e= .returned (.agg (rowB 32 fs))∧Loc w0 w' (F (flR bb er pr) y (otR bf fr fs n m)):=by
 have hA:=hF.o
 go_enter Tryz.func49,Tryz.ntmps49
 go_wp2_with (first | refine aV ?_ | ((with_reducible refine gS 2 ?_);refine aBp ?_;clear hL;intro b2 w1 hL) | (refine aL3S5p ?_;clear hL;intro w1 hL))
 exact bodyPost_ret (results_loc rfl hL rfl) rfl ⟨rfl,hL.pop⟩
instance iFls28:Ent 49:=Ent.of Tryz.func49 (by kernel_rfl) rfl
set_option maxRecDepth 100000 in
theorem step_any (hn:0≤n) (hm:n<m) (hm1:m≤1048576) (hL:Loc w0 w (F (flR bb er pr) y (otR bf fr fs n m))):Calls Tryz.prog 147 #[.pointer (some ⟨bo,0,none⟩)] w fun e w'=>e= .returned (.int .i64 0)∧Loc w0 w' (F (flR bb er pr) y (otR bf fr fs (n+1) m)):=by
 have hA:=hF.o
 have hU:=hF.p
 have q0:¬ n=m:=by omega
 have hFl:=otFl F bf bb bo (otR bf fr fs n m)
 go_enter Tryz.func147,Tryz.ntmps147
 go_wp2_with (first | refine aV ?_ | (refine aL3S5p ?_;clear hL;intro w1 hL))
 refine wp_region_mix (S:=fun w'=>Loc _ w' _) 10 (by kernel_rfl) (by kernel_rfl) (hL.drew) (fun hHeld=>?_)
 replace hL:=hL.drew
 refine tg 0 hHeld ?_
 refine p7 ?_
 refine tg 4 hHeld ?_
 refine p7 ?_
 refine tg 1 hHeld ?_
 refine p7 ?_
 refine tg 5 hHeld ?_
 refine p7 ?_
 refine tg 2 hHeld ?_
 refine p7 ?_
 refine tg 6 hHeld ?_
 refine p7 ?_
 refine tz 3 hHeld ?_
 refine p7 ?_
 refine tz 7 hHeld ?_
 refine p7 ?_
 refine tg 8 hHeld ?_
 refine p7 ?_
 refine tg 9 hHeld ?_
 refine p7 ?_
 refine wpAnyH_done (by kernel_rfl) (NoPanic.normal ?_) _
 clear hHeld
 go_wp2_with (first | refine aV ?_ | ((with_reducible refine gC 24 ?_);go_loud (refine lCall rfl rfl ((turnF_any (F:=fun x y=>F x y (otR bf fr fs n m)) (bf:=bf) (bb:=bb) hL).mono ?_) rfl);rintro e w1 ⟨rfl,hL1⟩;clear hL;revert hL1;refine aE ?_;intro hL) | (refine aL3S5p ?_;clear hL;intro w1 hL))
 go_ret
 exact ⟨rfl,hL⟩
instance iFls29:Ent 147:=Ent.of Tryz.func147 (by kernel_rfl) rfl
end
end Go.Proofs.YtoifhhljfaoejaaGreatDoor
