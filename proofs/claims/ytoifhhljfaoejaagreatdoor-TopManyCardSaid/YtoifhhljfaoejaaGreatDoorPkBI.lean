/-
  Lemmas of the law, part 35: the walks of the functions that it calls and the plain facts about them. No condition beyond those written.
-/
import Derived.Test.YtoifhhljfaoejaaGreatDoorPkAA
import Derived.Test.YtoifhhljfaoejaaGreatDoorPkBF
import Derived.Test.YtoifhhljfaoejaaGreatDoorPkBH
import Derived.Lib.MakeNoZero
import Derived.Laws.Externs
namespace Go.Proofs.YtoifhhljfaoejaaGreatDoor
open Go Go.RowKit Go.Shelf
set_option linter.unusedVariables false
set_option linter.unusedSimpArgs false
set_option linter.unusedSectionVars false
theorem part_mid {r pre s post:Array Value} {u t:TypeId} {k:Nat} (h:r=pre ++ s ++ post) (hk:k=pre.size):Part r u k t s:=⟨fun j v hj=>by
 subst h hk
 have hj':s[j]?=some v:=by simpa using hj
 have hlt:j<s.size:=by
  rcases Nat.lt_or_ge j s.size with h | h
  ·exact h
  ·rw [Array.getElem?_eq_none h] at hj';cases hj'
 rw [Array.getElem?_append_left (by rw [Array.size_append];omega),Array.getElem?_append_right (by omega),Nat.add_sub_cancel_left]
 exact hj'⟩
theorem Fresh.from {w w1 w2:World} {l:List (BitVec 8)} {e:Ending} (hb:Below w.heap.size w w1) (h:Fresh w1 l e w2):Fresh w l e w2:=by
 obtain ⟨g,cap,cur,e1,h1,h2,h3,h4⟩:=h
 exact ⟨g,cap,cur,e1,h1,Nat.le_trans hb.size h2,h3,hb.trans (h4.mono hb.size)⟩
theorem below_of_grown {a b:World} (h:a.grownBy b none):Below a.heap.size a b:=⟨h.os,h.tape,h.output,h.size,fun k hk=>h.block k hk (by simp)⟩
theorem lConv {ops:Array Oper} {rest:List Oper} {o:Oper} {a:Act} {w:World} {Q:Exit→Act→World→Prop} (hg:o.guard=none) {x:Operand} (ho:o.op= .convert 9 29 x) (l:List (BitVec 8)) (hx:a.eval x= .string (strB l))
 (h:∀ g c w',BRow w' (.slice (some ⟨g,0,none⟩) l.length c) l→Below w.heap.size w w'→wpList Tryz.prog ops Q rest (a.put o.dst (.slice (some ⟨g,0,none⟩) l.length c)) w'):wpList Tryz.prog ops Q (o :: rest) a w :=
 wpList_plain hg fun K hK=>wp_conv_B x ho l hx fun g c w' _ hb hw=>hK _ _ (h g c w' hb (below_of_grown hw))
set_option maxRecDepth 100000 in
theorem body_any (hd:List (BitVec 8)) (n:Int) (w:World) (h0:0<hd.length) (h1:hd.length≤100000) :
 Calls Tryz.prog 227 #[.string (strB hd),.int .i64 n] w fun e w'=>Fresh w (hd ++ packI n) e w':=by
 have hL:=Loc.nil w
 have HP:=Lib.hid (fun w1 (v1 v2:Value) (h2:BRow w1 v1 hd) (h3:VRow w1 v2 (encI [n]))=>packInt_any v1 hd v2 [n] w1 h2 h0 h1 h3 (by simp))
 rw [show packIs [n]=packI n from by unfold packIs;simp,encI_one] at HP
 go_enter Tryz.func227,Tryz.ntmps227
 go_wp2_with (first | refine aV ?_ | ((with_reducible refine gS 6 ?_);refine lConv rfl rfl hd rfl fun g6 c6 w6 hb6 hB6=>?_;have hA:Arg w6 (.slice (some ⟨g6,0,none⟩) hd.length c6) (encB hd):=⟨hb6.vrow⟩;clear hL;have hL:=Loc.nil w6) | ((with_reducible show wpList _ _ _ (⟨some 8,.buildSlice _ _ _,_,_,_,_⟩ :: _) _ _);(first | refine lBS1i hL rfl rfl rfl fun b8 w1 hL1=>?_ | refine lBS1s hL rfl rfl rfl fun b8 w1 hL1=>?_ | refine lBS2s hL rfl rfl rfl rfl fun b8 w1 hL1=>?_ | refine lBS3s hL rfl rfl rfl rfl rfl fun b8 w1 hL1=>?_);clear hL;have hL:=hL1;clear hL1;refine p4 ?_) | (go_at_call 202;go_loud (refine (HP.out _ _ _ (See.bytes hL) (See.see _ hL)).mono ?_);rintro e w1 ⟨g9,cap9,cur9,rfl,hr9,hg9,hc9,hb9⟩;have hL1:=hL.fresh hb9 hg9 hc9;clear hb9 hg9 hc9;clear hL;have hL:=hL1;clear hL1;refine p4 ?_) | (refine aL3S5p ?_;clear hL;intro w1 hL))
 go_ret
 exact (hL.back rfl).from hB6
instance iStp1:Ent 227:=Ent.of Tryz.func227 (by kernel_rfl) rfl
def mayN (n:Int):Bool:=decide (0≤n∧n≤2147483647)
set_option maxRecDepth 100000 in
theorem mayId_any (n:Int) (w:World):Calls Tryz.prog 226 #[.int .i64 n] w fun e w'=>e= .returned (.bool (mayN n))∧Below w.heap.size w w':=by
 have hL:=Loc.nil w
 by_cases h:0≤n
 ·by_cases h2:n≤2147483647
  ·go_enter Tryz.func226,Tryz.ntmps226
   go_wp2_with (first | refine aV ?_ | (refine aL3S5p ?_;clear hL;intro w1 hL))
   go_ret
   exact ⟨by simp [mayN,h,h2],Below.refl _ _⟩
  ·go_enter Tryz.func226,Tryz.ntmps226
   go_wp2_with (first | refine aV ?_ | (refine aL3S5p ?_;clear hL;intro w1 hL))
   go_ret
   exact ⟨by simp [mayN,h,h2],Below.refl _ _⟩
 ·go_enter Tryz.func226,Tryz.ntmps226
  go_wp2_with (first | refine aV ?_ | (refine aL3S5p ?_;clear hL;intro w1 hL))
  go_ret
  exact ⟨by simp [mayN];omega,Below.refl _ _⟩
instance iStp2:Ent 226:=Ent.of Tryz.func226 (by kernel_rfl) rfl
instance iStp3 (n:Int):FnC 226 #[.int .i64 n] (.bool (mayN n)):=⟨mayId_any n⟩
def stopR (id:Int) (f:Nat→BitVec 8):Array Value:= #[.int .i64 id] ++ rowB 64 f
theorem build_stop (id:Int) (f:Nat→BitVec 8) (w:World):(Instr.build 98 #[(0,.int .i64 id),(1,.agg (rowB 64 f))]).run Tryz.prog w= .ok (.agg (stopR id f)) w:=by kernel_rfl
instance iStp4:RowTy 98 65:=⟨⟨_,Tryz.underlying98,rfl⟩,by kernel_rfl⟩
instance iStp5:RowZ 98 (stopR 0 fun _=>0):=⟨by kernel_rfl⟩
instance iStp6 (id:Int) (f:Nat→BitVec 8):Row1 (stopR id f) 65:=⟨by simp [stopR,rowB_size],by
 unfold stopR
 rw [Array.all_append,rowB_oneCell]
 simp [Value.oneCell']⟩
instance iStp7 (id:Int) (f:Nat→BitVec 8):Cell (stopR id f) 0 (.int .i64 id):=⟨by unfold stopR;rw [Array.getElem?_append_left (by simp)];rfl⟩
instance iStp8 (id:Int) (f:Nat→BitVec 8):Part (stopR id f) 98 1 75 (rowB 64 f):=part_mid (pre:= #[.int .i64 id]) (post:= #[]) (by simp [stopR]) rfl
instance iStp9:RowTy 75 64:=⟨⟨_,Tryz.underlying75,rfl⟩,by kernel_rfl⟩
section
variable {ops:Array Oper} {rest:List Oper} {o:Oper} {a:Act} {w0 w:World} {M M':Mem} {Q:Exit→Act→World→Prop}
theorem lStr (hL:Loc w0 w M) (hg:o.guard=none) {x:Operand} (ho:o.op= .convert 29 9 x) {p:Option Addr} {n c:Nat} (hx:a.eval x= .slice p n c) {l:List (BitVec 8)} [hy:See w0 M (.slice p n c) (encB l)]
 (h:∀ w',Loc w0 w' M→wpList Tryz.prog ops Q rest (a.put o.dst (.string (strB l))) w'):wpList Tryz.prog ops Q (o :: rest) a w :=
 wpList_plain hg fun K hK=>by
  have hrun:=run_string (P:=Tryz.prog) (See.bytes hL (v:= .slice p n c) (l:=l)) Tryz.underlying29 Tryz.underlying5 Tryz.underlying9
  unfold Oper.wp execOp
  simp only [ho,hx,Sem.run_bind,hrun,Result.andThen_ok,Sem.run_pure]
  exact hK _ _ (h w hL)
end
theorem sig_at (g c:Nat) (w:World):(Instr.arrayAt 75 (.slice (some ⟨g,0,none⟩) 64 c)).run Tryz.prog w= .ok (.pointer (some ⟨g,0,none⟩)) w:=by kernel_rfl
theorem partB {cur:Array Value} {n cap:Nat} {f:Nat→BitVec 8} {u t:TypeId} (h:OwnR cur n cap (encB (listB n f))):Part cur u 0 t (rowB n f):=⟨fun j v hj=>by
 have hlt:j<n:=by
  rcases Nat.lt_or_ge j n with h | h
  ·exact h
  ·have hj':(rowB n f)[j]?=some v:=by simpa using hj
   rw [Array.getElem?_eq_none (by rw [rowB_size];exact h)] at hj';cases hj'
 have h1:=(h.cellB (l:=listB n f) (i:=j) (by rw [listB_length];exact hlt)).cell
 have h2:(rowB n f)[j]?=some (.int .u8 (B8 (f j))):=row_get _ hlt
 have hj':(rowB n f)[j]?=some v:=by simpa using hj
 rw [h2] at hj'
 cases hj'
 rw [Nat.zero_add,h1]
 simp [listB]⟩
def stopB (id:Int) (f:Nat→BitVec 8):List (BitVec 8):=[80,67,83,84] ++ packI id ++ listB 64 f
set_option maxRecDepth 100000 in
theorem readStop_any (id:Int) (f:Nat→BitVec 8) (v:Value) (w:World) (h0:0≤id) (h1:id≤2147483647) (hv:BRow w v (stopB id f)) :
 Calls Tryz.prog 174 #[v] w fun e w'=>e= .returned (.tuple #[.agg (stopR id f),.int .i64 0])∧Below w.heap.size w w':=by
 have hL:=Loc.nil w
 have hlen:(stopB id f).length=76:=by simp [stopB,packI_length,listB_length]
 haveI hA:Arg w v (encB (stopB id f)):=⟨hv.vrow⟩
 have HN:=Lib.hid (fun w1 (h:BRow w1 v (stopB id f))=>packNew_any v (stopB id f) w1 h (by omega) (by omega))
 rw [hlen] at HN
 have e1:(stopB id f).take 4=[80,67,83,84]:=rfl
 have e2:((stopB id f).drop 4).take 8=packI id:=rfl
 have e3:((stopB id f).drop 4).drop 8=listB 64 f:=rfl
 have e4:intV (packI id)=id:=intV_packI id (by omega)
 have E1:=Lib.hid e1
 have E3:=Lib.hid (show (listB 64 f).take 64=listB 64 f from List.take_of_length_le (by rw [listB_length];exact Nat.le_refl _))
 rw [← e2] at e4
 have E4:=Lib.hid e4
 have hM:mayN id=true:=by unfold mayN;rw [decide_eq_true];omega
 have hd4:((stopB id f).drop 4).drop 8=listB 64 f:=e3
 have E5:=Lib.hid hd4
 clear hv hlen e1 e2 e3 e4 hd4
 generalize stopB id f=l at *
 have hAt:=sig_at
 go_enter Tryz.func174,Tryz.ntmps174
 go_wp2_with (first | refine aV ?_ | ((with_reducible refine gS 2 ?_);refine aBp ?_;clear hL;intro b2 w1 hL) | ((with_reducible refine gC 9 ?_);go_loud (refine lCall rfl rfl ((HN.out _ (See.bytes hL)).mono ?_) rfl);rintro e w1 ⟨b9,g9,cap9,cur9,rfl,hr9,hN⟩;refine ⟨_,rfl,?_⟩;have hs1:=hr9.segB;have hS:strB [80,67,83,84]=⟨#[80,67,83,84]⟩:=rfl;have hs2:Seg cur9 4 72 (encB (l.drop 4)):=hs1.drop 4 (by omega);have hs3:Seg cur9 12 64 (encB (listB 64 f)):=(by rw [← E5.out];exact hs2.drop 8 (by omega));have hc9:=hr9.le;have hL1:=hL.join hN;clear hN;(try simp only [List.cons_append,List.nil_append,List.append_assoc] at hL1);clear hL;have hL:=hL1;clear hL1;refine p4 ?_) | ((with_reducible refine gC 11 ?_);go_loud (refine lCall rfl rfl ((raw_lt (F:=fun x=>[(b9,x,274),(g9,cur9,5),(b2,stopR 0 fun _=>0,98)]) (l:=l) hs1 4 (by omega) (by omega) hc9 (by omega) hL).mono ?_) rfl);rintro e w1 ⟨g11,cap11,cur11,rfl,hr11,hL1⟩;rw [E1.out] at hr11;clear hL;revert hL1;refine aE ?_;intro hL) | ((with_reducible refine gS 12 ?_);refine lStr hL rfl rfl rfl ?_;rw [hS];clear hL;intro w1 hL) | ((with_reducible refine gC 14 ?_);go_loud (refine lCall rfl rfl ((int_lt (F:=fun x=>[(g11,cur11,5),(b9,x,274),(g9,cur9,5),(b2,stopR 0 fun _=>0,98)]) (l:=l.drop 4) hs2 (by omega) (by omega) (by omega) hL).mono ?_) rfl);rintro e w1 ⟨rfl,hL1⟩;rw [E4.out];clear hL;revert hL1;refine aE ?_;intro hL) | ((with_reducible refine gC 16 ?_);go_loud (refine lCall rfl rfl ((raw_at (F:=fun x=>[(g11,cur11,5),(b9,x,274),(g9,cur9,5),(b2,stopR 0 fun _=>0,98)]) (l:=listB 64 f) hs3 64 (by omega) (by omega) (by omega) (by omega) hL).mono ?_) rfl);rintro e w1 ⟨g16,cap16,cur16,p16,rfl,hr16,_,hL1⟩;rw [E3.out] at hr16;clear hL;revert hL1;refine aE ?_;intro hL) | ((with_reducible refine gC 18 ?_);go_loud (refine lCall rfl rfl ((end_any (F:=fun x=>[(g16,cur16,5),(g11,cur11,5),(b9,x,274),(g9,cur9,5),(b2,stopR 0 fun _=>0,98)]) hL).mono ?_) rfl);rintro e w1 ⟨rfl,hL1⟩;clear hL;revert hL1;refine aE ?_;intro hL) | ((with_reducible refine gS 33 ?_);have hp:Part cur16 5 0 75 (rowB 64 f):=partB hr16;refine lL hL rfl rfl rfl ?_;clear hL;intro w1 hL) | ((with_reducible show wpList _ _ _ (⟨some 34,.build _ _,_,_,_,_⟩ :: _) _ _);refine lU hL rfl rfl (build_stop _ _) rfl ?_;clear hL;intro w1 hL;refine p4 ?_) | (refine aL3S5p ?_;clear hL;intro w1 hL) | ((with_reducible show wpList _ _ _ (⟨_,.call _,_,_,_,_⟩ :: _) _ _);(first | refine lC2 hL rfl rfl rfl rfl ?_ | refine lC1 hL rfl rfl rfl ?_ | refine lC3 hL rfl rfl rfl rfl ?_ | refine lC4 hL rfl rfl rfl rfl ?_ | refine lC0 hL rfl rfl ?_ | refine lC5 hL rfl rfl rfl ?_);clear hL;intro w1 hL;refine p4 ?_))
 exact bodyPost_ret (results_loc2 rfl hL rfl rfl) rfl ⟨rfl,hL.bel⟩
instance iStp10:Ent 174:=Ent.of Tryz.func174 (by kernel_rfl) rfl
instance entVerify:Ent 210:=Ent.of Tryz.func210 (by kernel_rfl) rfl
def stopT (id:Int):List (BitVec 8):=[80,67,83,84] ++ packI id
noncomputable def stopOk (k:Nat→BitVec 8) (id:Int) (f:Nat→BitVec 8):Bool:=checkN (leN k) (leN f) (leN fun i=>f (32+i)) (stopT id)
set_option maxRecDepth 100000 in
theorem checkStop_any (k:Nat→BitVec 8) (id:Int) (f:Nat→BitVec 8) (w:World) (hm:mayN id=true) :
 Calls Tryz.prog 175 #[.agg (rowB 32 k),.agg (stopR id f)] w fun e w'=>e= .returned (.bool (stopOk k id f))∧Below w.heap.size w w':=by
 have hL:=Loc.nil w
 have HM:=Lib.hid (fun w1=>by have:=mayId_any id w1;rw [hm] at this;exact this)
 have HB:=Lib.hid (fun w1=>body_any [80,67,83,84] id w1 (by decide) (by decide))
 have HV:=Lib.hid (fun w1 (v:Value) (hv:BRows w1 v [stopT id])=>verify_any k f v [stopT id] w1 hv (by simp) (by simp) (by simp [stopT,packI_length]))
 have HT:=Lib.hid (show [stopT id].flatten=stopT id from by simp)
 have hlen:(stopT id).length=12:=by simp [stopT,packI_length]
 have HLEN:=Lib.hid hlen
 go_enter Tryz.func175,Tryz.ntmps175
 go_wp2_with (first | refine aV ?_ | ((with_reducible refine gS 2 ?_);refine aBp ?_;clear hL;intro b2 w1 hL) | ((with_reducible refine gS 3 ?_);refine aBp ?_;clear hL;intro b3 w1 hL) | (refine aL3S5p ?_;clear hL;intro w1 hL))
 refine wp_region_mix (S:=fun w'=>Loc _ w' _) 14 (by kernel_rfl) (by kernel_rfl) (hL.drew) (fun hHeld=>?_)
 replace hL:=hL.drew
 refine tg 0 hHeld ?_
 refine p7 ?_
 refine tz 1 hHeld ?_
 refine p7 ?_
 refine wpAnyH_ready (rs:=[2]) (by kernel_rfl) (by simp) ((AllReadyH.cons rfl (fun K hK=>?_) AllReadyH.nil))
 rw [if_pos (by rfl)]
 refine eCall rfl (by simp only [List.map_toArray,List.map_cons,List.map_nil];rfl) ((HM.out _).mono ?_)
 rintro e w1 ⟨rfl,hb1⟩;refine ⟨_,rfl,?_⟩;have hL1:=hL.keep hb1;clear hb1
 clear hL;have hL:=hL1;clear hL1
 refine hK.out _ _ (hL) (fun hHeld2=>?_)
 clear hK K hHeld;have hHeld:=hHeld2;clear hHeld2
 refine p7 ?_
 refine tg 3 hHeld ?_
 refine p7 ?_
 first | refine tk 4 rfl (Or.inr ⟨by rfl,rfl⟩) hHeld ?_ | refine tk 4 rfl (zL (by rfl) rfl rfl) hHeld ?_ | refine tk 4 rfl (zI (by rfl) rfl rfl) hHeld ?_
 refine p7 ?_
 first | refine tk 5 rfl (Or.inr ⟨by rfl,rfl⟩) hHeld ?_ | refine tg 5 hHeld ?_
 refine p7 ?_
 first | refine tk 7 rfl (Or.inr ⟨by rfl,rfl⟩) hHeld ?_ | refine tg 7 hHeld ?_
 refine p7 ?_
 first | refine tk 6 rfl (Or.inr ⟨by rfl,rfl⟩) hHeld ?_ | refine tk 6 rfl (zL (by rfl) rfl rfl) hHeld ?_ | refine tk 6 rfl (zI (by rfl) rfl rfl) hHeld ?_
 refine p7 ?_
 first | refine tk 8 rfl (Or.inr ⟨by rfl,rfl⟩) hHeld ?_ | refine tk 8 rfl (zL (by rfl) rfl rfl) hHeld ?_ | refine tk 8 rfl (zI (by rfl) rfl rfl) hHeld ?_
 refine p7 ?_
 refine wpAnyH_ready (rs:=[9]) (by kernel_rfl) (by simp) ((AllReadyH.cons rfl (fun K hK=>?_) AllReadyH.nil))
 rw [if_pos (by rfl)]
 refine eCall rfl (by simp only [List.map_toArray,List.map_cons,List.map_nil];rfl) ((HB.out _).mono ?_)
 rintro e w1 ⟨g14,cap14,cur14,rfl,hr14,hg14,hc14,hb14⟩;refine ⟨_,rfl,?_⟩;have hL1:=hL.fresh hb14 hg14 hc14;clear hb14 hg14 hc14
 clear hL;have hL:=hL1;clear hL1
 refine hK.out _ _ (hL.pop) (fun hHeld2=>?_)
 clear hK K hHeld;have hHeld:=hHeld2;clear hHeld2
 refine p7 ?_
 refine wpAnyH_ready (rs:=[10]) (by kernel_rfl) (by simp) ((AllReadyH.cons rfl (fun K hK=>?_) AllReadyH.nil))
 rw [if_pos (by rfl)]
 first | refine eBS1i hL rfl rfl fun b15 w1 hL1=>?_ | refine eBS1s hL rfl rfl fun b15 w1 hL1=>?_ | refine eBS2s hL rfl rfl rfl fun b15 w1 hL1=>?_ | refine eBS3s hL rfl rfl rfl rfl fun b15 w1 hL1=>?_ | refine eBS2i hL rfl rfl rfl fun b15 w1 hL1=>?_
 clear hL;have hL:=hL1;clear hL1
 refine hK.out _ _ (hL.pop.pop) (fun hHeld2=>?_)
 clear hK K hHeld;have hHeld:=hHeld2;clear hHeld2
 refine p7 ?_
 refine wpAnyH_ready (rs:=[11]) (by kernel_rfl) (by simp) ((AllReadyH.cons rfl (fun K hK=>?_) AllReadyH.nil))
 rw [if_pos (by rfl)]
 refine eCall rfl (by simp only [List.map_toArray,List.map_cons,List.map_nil];rfl) ((HV.out _ _ (brows_one (hL.at_ b15) (See.bytes hL))).mono ?_)
 rintro e w1 ⟨rfl,hb1⟩;refine ⟨_,rfl,?_⟩;have hL1:=hL.keep hb1;clear hb1
 clear hL;have hL:=hL1;clear hL1
 refine hK.out _ _ (hL.pop.pop) (fun hHeld2=>?_)
 clear hK K hHeld;have hHeld:=hHeld2;clear hHeld2
 refine p7 ?_
 refine tg 12 hHeld ?_
 refine p7 ?_
 refine tg 13 hHeld ?_
 refine p7 ?_
 refine wpAnyH_done (by kernel_rfl) (NoPanic.normal ?_) _
 clear hHeld
 go_wp2_with fail
 go_ret
 exact ⟨by rw [HT.out];rfl,hL.bel⟩
instance iStp11:Ent 175:=Ent.of Tryz.func175 (by kernel_rfl) rfl
end Go.Proofs.YtoifhhljfaoejaaGreatDoor
namespace Go.Proofs.YtoifhhljfaoejaaGreatDoor
open Go Go.RowKit Go.Shelf
set_option linter.unusedVariables false
set_option linter.unusedSimpArgs false
set_option linter.unusedSectionVars false
theorem mul64_rep (w:World):Calls Tryz.prog 144 #[.int .u64 1,.int .u64 32768] w fun e w'=>e= .returned (.tuple #[.int .u64 0,.int .u64 32768])∧Below w.heap.size w w':=by
 have h:=mul64_any 1 32768 (by decide) (by decide) w
 rw [show 1*32768 / 18446744073709551616=0 from by decide,show 1*32768 % 18446744073709551616=32768 from by decide] at h
 exact h
set_option maxRecDepth 100000 in
theorem mulUint_any (w:World):Calls Tryz.prog 89 #[.int .u64 1,.int .u64 32768] w fun e w'=>e= .returned (.tuple #[.int .u64 0,.int .u64 32768])∧Below w.heap.size w w':=by
 have hL:=Loc.nil w
 go_enter Tryz.func89,Tryz.ntmps89
 go_wp2_with (first | refine aV ?_ | (go_at_call 144;go_loud (refine (mul64_rep _).mono ?_);rintro e w1 ⟨rfl,hb1⟩;have hL1:=hL.keep hb1;clear hb1;clear hL;have hL:=hL1;clear hL1;refine p4 ?_) | (refine aL3S5p ?_;clear hL;intro w1 hL))
 go_ret2
 exact ⟨rfl,hL.bel⟩
section
variable {ops:Array Oper} {rest:List Oper} {o:Oper} {a:Act} {w0 w:World} {M M':Mem} {Q:Exit→Act→World→Prop}
theorem lMnz (hL:Loc w0 w M) (hg:o.guard=none) {x:Operand} {ts:Array TypeId} (ho:o.op= .call { callee:= .value (.func 90),args:= #[x],argTypes:=ts }) (hx:a.eval x= .int .i64 32768)
 (h:∀ g cs w',32768≤cs.size→Loc w0 w' ((g,cs,5) :: M)→wpList Tryz.prog ops Q rest (a.put o.dst (.slice (some ⟨g,0,none⟩) 32768 cs.size)) w'):wpList Tryz.prog ops Q (o :: rest) a w :=
 wpList_plain hg fun K hK=>by
  obtain ⟨cs,h1,h2,_⟩:=Lib.run_makeNoZero (P:=Tryz.prog) w #[3] 29 5 Tryz.underlying29 32768 (by decide)
  have he:(callFunc 90 #[.int .i64 32768]).run Tryz.prog w= .ok (.value (.slice (some ⟨w.heap.size,0,none⟩) 32768 cs.size)) (w.drew.drew.alloc (.cells cs 5)):=by
   rw [run_callFunc_extern (e:=Extern.BytealgMakeNoZero.makeNoZero #[3] #[29]) Tryz.func90 (by kernel_rfl) rfl (by kernel_rfl) (by kernel_rfl)]
   rw [show ((32768:Nat):Int)=32768 from rfl] at h1
   rw [h1]
   rfl
  unfold Oper.wp execOp
  simp only [ho,resolve,Act.eval,Deferred.ofValue,Sem.run_bind,Sem.run_pure,Result.andThen_ok,invoke,Array.append_empty,Array.empty_append,List.map_toArray,List.map_cons,List.map_nil]
  have hx':=hx
  unfold Act.eval at hx'
  rw [hx',he]
  exact hK _ _ (h _ _ _ h2 (hL.drew.drew.alloc cs _))
end
def repN (k:Nat):Nat:=if k≤13 then 2 ^ k else 8192*(k - 12)
theorem repN_step:∀ k,k<16→repN (k+1)=repN k+min (repN k) 8192∧min (repN k) 8192≤32768 - repN k∧0<repN k∧repN k<32768:=by decide
structure Filled (x:BitVec 8) (m:Nat) (cur:Array Value):Prop where
 size:32768≤cur.size
 cell:∀ i,i<m→cur[i]?=some (.int .u8 (B8 x))
theorem encB_replicate (x:BitVec 8) (m:Nat):(encB (List.replicate m x)).length=m:=by rw [encB_length,List.length_replicate]
theorem Filled.seg {x:BitVec 8} {m:Nat} {cur:Array Value} (h:Filled x m cur) (k:Nat) (hk:k≤m):Seg cur 0 k (encB (List.replicate k x)) where
 len:=encB_replicate x k
 one:=encB_one' _
 seg:=fun i hi=>by
  rw [encB_replicate] at hi
  rw [Nat.zero_add,h.cell i (by omega)]
  simp [encB]
theorem spl_any (cur:Array Value) (off:Nat) (ys:List Value) (h:off+ys.length≤cur.size):Spl cur off ys (cur.toList.take off ++ (ys ++ cur.toList.drop (off+ys.length))).toArray:=⟨h,rfl⟩
theorem Filled.more {x:BitVec 8} {m:Nat} {cur:Array Value} (h:Filled x m cur) (k:Nat) (hk:m+k≤32768):Filled x (m+k) (cur.toList.take m ++ (encB (List.replicate k x) ++ cur.toList.drop (m+(encB (List.replicate k x)).length))).toArray where
 size:=by
  have:=h.size
  simp only [List.size_toArray,List.length_append,List.length_take,List.length_drop,encB_replicate,Array.length_toList]
  omega
 cell:=fun i hi=>by
  have hs:=h.size
  have hlen:(cur.toList.take m).length=m:=by rw [List.length_take,Array.length_toList];omega
  rw [List.getElem?_toArray]
  by_cases h1:i<m
  ·rw [List.getElem?_append_left (by omega),List.getElem?_take_of_lt h1,Array.getElem?_toList]
   exact h.cell i h1
  ·have h3:i - m<(encB (List.replicate k x)).length:=by rw [encB_replicate];omega
   rw [List.getElem?_append_right (by omega),hlen,List.getElem?_append_left h3,List.getElem?_eq_getElem h3]
   simp [encB]
set_option maxRecDepth 100000 in
set_option maxHeartbeats 1000000 in
theorem repeat_any (x:BitVec 8) (v:Value) (w:World) (hv:BRow w v [x]) :
 Calls Tryz.prog 41 #[v,.int .i64 32768] w fun e w'=>∃ g cur,e= .returned (.slice (some ⟨g,0,none⟩) 32768 32768)∧Loc w w' [(g,cur,5)]∧Filled x 32768 cur:=by
 have hL:=Loc.nil w
 haveI hA:Arg w v (encB [x]):=⟨hv.vrow⟩
 obtain ⟨a,c,rfl,hne,hp⟩:=hv
 have HM:=Lib.hid (fun w1=>mulUint_any w1)
 clear hne hp
 rw [show [x].length=1 from rfl]
 rw [show [x].length=1 from rfl] at hA
 go_enter Tryz.func41,Tryz.ntmps41
 go_wp2_with (first | refine aV ?_ | (go_at_call 89;go_loud (refine (HM.out _).mono ?_);rintro e w1 ⟨rfl,hb1⟩;have hL1:=hL.keep hb1;clear hb1;clear hL;have hL:=hL1;clear hL1;refine p4 ?_) | ((with_reducible refine gC 54 ?_);(refine lMnz hL rfl rfl rfl fun g54 cs w1 hcs hL1=>?_);clear hL;have hL:=hL1;clear hL1) | ((with_reducible refine gC 60 ?_);have hS1:=spl_any cs 0 (encB [x]) (by simp [encB];omega);refine lCopy hL rfl rfl rfl rfl (by simp [encB]) (by simp [encB]) ?_;clear hL;intro w1 hL) | (refine aL3S5p ?_;clear hL;intro w1 hL))
 have hF:Filled x 0 cs:=⟨hcs,fun i hi=>absurd hi (Nat.not_lt_zero _)⟩
 have hF1:=hF.more 1 (by omega)
 rw [Nat.zero_add] at hF1
 have hone:((encB [x]).length:Int)=((repN 0:Nat):Int):=rfl
 rw [hone]
 clear hS1 hF hone
 go_loopw [10] (fun nn wr=>∃ (k:Nat) (cur:Array Value),k≤16∧nn= .int .i64 (repN k:Nat)∧Filled x (repN k) cur∧Loc w wr [(g54,cur,5)]) (fun nn _=>32768 - (intOf nn).toNat)
 case atStart=>exact ⟨0,_,by omega,rfl,hF1,hL⟩
 case round =>
  clear hL hF1
  obtain ⟨k,cur,hk,rfl,hF,hL⟩:=hrel
  by_cases hlt:k<16
  ·obtain ⟨e1,e2,e3,e4⟩:=repN_step k hlt
   have E1:=Lib.hid e1
   clear e1
   generalize repN k=m at *
   have hch:min m 8192≤m:=Nat.min_le_left _ _
   have hmin:(if (m:Int)≤8192 then (m:Int) else 8192)=((min m 8192:Nat):Int):=by split <;> omega
   have hmin2:min (m:Int) 8192=((min m 8192:Nat):Int):=by omega
   have HMIN:=Lib.hid hmin2
   have m1:(m:Int)<32768:=by omega
   have m0:(0:Int)≤m:=by omega
   clear hmin hmin2
   go_wp2_with (first | refine aV ?_ | (refine aL3S5p ?_;clear hL;intro w1 hL))
   rw [HMIN.out]
   have E2:=E1.out
   have c0:0<min m 8192:=by omega
   generalize min m 8192=c at *
   have q5:¬ 32768=m:=by omega
   have q6:((32768:Int) - m).toNat=32768 - m:=by omega
   have q7:(c:Int)≤32768:=by omega
   have q8:(m:Int)≤32768:=by omega
   have hel:=encB_replicate x c
   have hF2:=hF.more c (by omega)
   have hS1:=spl_any cur m (encB (List.replicate c x)) (by have:=hF.size;omega)
   have hs2:Seg cur 0 c (encB (List.replicate c x)):=hF.seg c hch
   refine wp_region_mix (S:=fun w'=>Loc _ w' _) 10 (by kernel_rfl) (by kernel_rfl) (Loc.rem g54 (hL.drew)) (fun hHeld=>?_)
   replace hL:=hL.drew
   refine tg 0 hHeld ?_
   refine p7 ?_
   refine tg 1 hHeld ?_
   refine p7 ?_
   refine tg 2 hHeld ?_
   refine p7 ?_
   refine tg 4 hHeld ?_
   refine p7 ?_
   refine tg 5 hHeld ?_
   refine p7 ?_
   refine tg 3 hHeld ?_
   refine p7 ?_
   refine tg 6 hHeld ?_
   refine p7 ?_
   refine wpAnyH_ready (rs:=[7]) (by kernel_rfl) (by simp) ((AllReadyH.cons rfl (fun K hK=>?_) AllReadyH.nil))
   rw [if_pos (by rfl)]
   refine eCopy hL rfl rfl rfl (by first | omega | (simp;omega) | simp) (by first | omega | (simp;omega) | simp) fun w1 hL1=>?_
   clear hL;have hL:=hL1;clear hL1
   refine hK.out _ _ (Loc.rem g54 (hL)) (fun hHeld2=>?_)
   clear hK K hHeld;have hHeld:=hHeld2;clear hHeld2
   refine p7 ?_
   refine tg 8 hHeld ?_
   refine p7 ?_
   refine tg 9 hHeld ?_
   refine p7 ?_
   refine wpAnyH_done (by kernel_rfl) (NoPanic.normal ?_) _
   clear hHeld
   rw [hel] at hL hF2
   have hw:IntKind.i64.wrap ((m:Int)+c)=((m+c:Nat):Int):=by rw [IntKind.wrap_i64];omega
   rw [hw]
   clear hw
   generalize hmc:m+c=mc at *
   go_wp2_with fail
   go_roundw
   case rel=>exact ⟨k+1,_,by omega,by rw [E2],by rw [E2];exact hF2,hL⟩
   case measure=>simp only [intOf];omega
  ·obtain rfl:k=16:=by omega
   rw [show repN 16=32768 from rfl] at hF ⊢
   go_wp2_with (first | refine aV ?_ | (refine aL3S5p ?_;clear hL;intro w1 hL))
   go_ret
   exact ⟨g54,cur,rfl,hL,hF⟩
instance iRep2:Ent 41:=Ent.of Tryz.func41 (by kernel_rfl) rfl
def flR (g:Nat) (er pr:Int):Array Value:= #[.slice (some ⟨g,0,none⟩) 32768 32768,.int .i64 (-1),.int .i64 0,.bool false,.int .i64 er,.int .i64 pr]
theorem build_crash (w:World):(Instr.build 104 #[(0,.int .i64 (-1))]).run Tryz.prog w= .ok (.agg #[.int .i64 (-1),.int .i64 0]) w:=by kernel_rfl
theorem build_fl (g:Nat) (w:World):(Instr.build 106 #[(0,.slice (some ⟨g,0,none⟩) 32768 32768),(1,.agg #[.int .i64 (-1),.int .i64 0])]).run Tryz.prog w= .ok (.agg (flR g 0 0)) w:=by kernel_rfl
set_option maxRecDepth 100000 in
theorem flashNew_any (w:World):Calls Tryz.prog 13 #[.int .i64 128] w fun e w'=>∃ b g cur,e= .returned (.pointer (some ⟨b,0,none⟩))∧Filled 255 32768 cur∧Loc w w' [(b,flR g 0 0,106),(g,cur,5)]:=by
 have hL:=Loc.nil w
 have HR:=Lib.hid (fun w1 v (h:BRow w1 v [255])=>repeat_any 255 v w1 h)
 have hmx:max (0:Int) 128=128:=by decide
 have hmn:min (128:Int) 1024=128:=by decide
 haveI hsb:Seg #[.int .u8 255] 0 1 (encB [255]):=segByte 255
 go_enter Tryz.func13,Tryz.ntmps13
 go_wp2_with (first | refine aV ?_ | ((with_reducible refine gS 13 ?_);refine aBp ?_;clear hL;intro b13 w1 hL) | ((with_reducible show wpList _ _ _ (⟨some 7,.buildSlice _ _ _,_,_,_,_⟩ :: _) _ _);(first | refine lBS1i hL rfl rfl rfl fun b7 w1 hL1=>?_ | refine lBS1s hL rfl rfl rfl fun b7 w1 hL1=>?_ | refine lBS2s hL rfl rfl rfl rfl fun b7 w1 hL1=>?_ | refine lBS3s hL rfl rfl rfl rfl rfl fun b7 w1 hL1=>?_);clear hL;have hL:=hL1;clear hL1;refine p4 ?_) | ((with_reducible refine gC 10 ?_);go_loud (refine lCall rfl rfl ((HR.out _ _ (See.bytes hL (v:= .slice (some ⟨b7,0,none⟩) 1 1) (l:=[255]))).mono ?_) rfl);rintro e w1 ⟨g10,cur10,rfl,hN,hF⟩;refine ⟨_,rfl,?_⟩;have hL1:=hL.join hN;clear hN;(try simp only [List.cons_append,List.nil_append,List.append_assoc] at hL1);clear hL;have hL:=hL1;clear hL1;refine p4 ?_) | ((with_reducible show wpList _ _ _ (⟨some 11,.build _ _,_,_,_,_⟩ :: _) _ _);refine lU hL rfl rfl build_crash rfl ?_;clear hL;intro w1 hL;refine p4 ?_) | ((with_reducible show wpList _ _ _ (⟨some 12,.build _ _,_,_,_,_⟩ :: _) _ _);refine lU hL rfl rfl (build_fl _) rfl ?_;clear hL;intro w1 hL;refine p4 ?_) | (refine aL3S5p ?_;clear hL;intro w1 hL))
 go_ret
 exact ⟨b13,g10,cur10,rfl,hF,Loc.rem b7 hL⟩
instance iRep3:Ent 13:=Ent.of Tryz.func13 (by kernel_rfl) rfl
end Go.Proofs.YtoifhhljfaoejaaGreatDoor
