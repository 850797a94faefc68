/-
  Lemmas of the law, part 49: the walks of the functions that it calls and the plain facts about them. No condition beyond those written.
-/
import Derived.Test.YtoifhhljfaoejaaGreatDoorPkAA
import Derived.Test.YtoifhhljfaoejaaGreatDoorPkBV
import Derived.Test.YtoifhhljfaoejaaGreatDoorPkBC
namespace Go.Proofs.YtoifhhljfaoejaaGreatDoor
open Go Go.RowKit Go.Shelf
set_option linter.unusedVariables false
set_option linter.unusedSimpArgs false
set_option linter.unusedSectionVars false
set_option maxRecDepth 100000 in
theorem rootKey_any (a b c d:Nat→BitVec 8) (w:World) (hG:Glob w):Calls Tryz.prog 10 #[.agg (setR a b c d)] w fun e w'=>e= .returned (.agg (rowB 32 (byteN (pubN (listB 32 a)))))∧Below w.heap.size w w':=by
 have hL:=Loc.nil w
 have HP:=Lib.hid (fun w1 (h:Glob w1)=>public_any a w1 (hG:=h))
 have HG:=Lib.hid hG
 clear hG
 generalize byteN (pubN (listB 32 a))=pk at *
 go_enter Tryz.func10,Tryz.ntmps10
 go_wp2_with (first | refine aU ?_ | ((with_reducible refine gS 1 ?_);refine aBp ?_;clear hL;intro b1 w1 hL) | ((with_reducible refine gS 2 ?_);refine aBp ?_;clear hL;intro b2 w1 hL) | ((with_reducible refine gC 5 ?_);go_loud (refine lCall rfl rfl ((HP.out _ (hL.glob HG.out)).mono ?_) rfl);rintro e w1 ⟨rfl,hb1⟩;have hL1:=hL.keep hb1;clear hL;revert hL1;refine aE ?_;intro hL) | (refine aL3S6p ?_;clear hL;intro w1 hL))
 exact bodyPost_ret (results_loc rfl hL rfl) rfl ⟨rfl,hL.bel⟩
instance iStf1:Ent 10:=Ent.of Tryz.func10 (by kernel_rfl) rfl
set_option maxRecDepth 100000 in
theorem small_any (n:Int) (h:smallZ n) (w:World):Calls Tryz.prog 79 #[.int .i64 n] w fun e w'=>e= .returned (.bool true)∧w=w':=by
 obtain ⟨h0,h1⟩:=h
 go_enter Tryz.func79,Tryz.ntmps79
 go_wp2_with (first | refine aU ?_ | (refine aL3S6p ?_;clear hL;intro w1 hL))
 all_goals (go_ret;exact ⟨rfl,rfl⟩)
set_option maxRecDepth 100000 in
theorem stopText_any (n:Int) (h:smallZ n) (w:World):Calls Tryz.prog 88 #[.int .i64 n] w fun e w'=>Fresh w (stopT n) e w':=by
 have hL:=Loc.nil w
 obtain ⟨h0,h1⟩:=h
 have HP:=Lib.hid (fun w1 (v1 v2:Value) (h2:BRow w1 v1 [80,67,83,84]) (h3:VRow w1 v2 (encI [n]))=>refInt_any v1 [80,67,83,84] v2 [n] w1 h2 (fun h=>by simp at h) (by decide) h3 (by simp) (by simp) (fun x hx=>by rw [List.mem_singleton.1 hx];omega))
 rw [show packIs [n]=packI n from by unfold packIs;simp,encI_one] at HP
 rw [show stopT n=[80,67,83,84] ++ packI n from rfl]
 generalize [80,67,83,84] ++ packI n=tx at *
 go_enter Tryz.func88,Tryz.ntmps88
 go_wp2_with (first | refine aU ?_ | ((with_reducible show wpList _ _ _ (⟨some 3,_,_,_,_,_⟩ :: ⟨some 4,_,_,_,_,_⟩ :: _) _ _);go_loud (refine lLit4 80 67 83 84 hL rfl rfl rfl rfl rfl rfl rfl rfl (fun _=>rfl) ?_);clear hL;intro b3 w4 hb3 hL0;have hA3:Arg w4 (.slice (some ⟨b3,0,none⟩) 4 4) (encB [80,67,83,84]):=⟨hb3.vrow⟩;have hL:=Loc.nil w4) | ((with_reducible show wpList _ _ _ (⟨some 6,.buildSlice _ _ _,_,_,_,_⟩ :: _) _ _);(first | refine lBS1i hL rfl rfl rfl fun b6 w1 hL1=>?_ | refine lBS1s hL rfl rfl rfl fun b6 w1 hL1=>?_ | refine lBS2s hL rfl rfl rfl rfl fun b6 w1 hL1=>?_ | refine lBS3s hL rfl rfl rfl rfl rfl fun b6 w1 hL1=>?_);clear hL;have hL:=hL1;clear hL1;refine p4 ?_) | (go_at_call 73;go_loud (refine (HP.out _ _ _ (See.bytes hL) (See.see _ hL)).mono ?_);rintro e w1 ⟨g7,cap7,cur7,rfl,hr7,hg7,hc7,hb7⟩;have hL1:=hL.fresh hb7 hg7 hc7;clear hb7 hg7 hc7;clear hL;have hL:=hL1;clear hL1;refine p4 ?_) | (refine aL3S6p ?_;clear hL;intro w1 hL))
 go_ret
 exact (hL.back rfl).from hL0.bel
instance iStf3:Ent 88:=Ent.of Tryz.func88 (by kernel_rfl) rfl
set_option maxRecDepth 100000 in
set_option maxHeartbeats 400000 in
theorem refStop_any (f:Nat→BitVec 8) (n:Int) (h:smallZ n) (w:World) (hG:Glob w):Calls Tryz.prog 39 #[.agg (rowB 32 f),.int .i64 n] w fun e w'=>e= .returned (.tuple #[.agg (stopR n (sigF (listB 32 f) (stopT n))),.int .i64 0])∧Below w.heap.size w w':=by
 have hL:=Loc.nil w
 have HS:=Lib.hid (fun w1=>small_any n h w1)
 have HT:=Lib.hid (fun w1=>stopText_any n h w1)
 have hlen:(stopT n).length≤1000000:=by simp [stopT,packI_length]
 have HSG:=Lib.hid (fun w1 (hg:Glob w1) v (hv:BRow w1 v (stopT n))=>sign_any f v (stopT n) w1 (hG:=hg) hv hlen)
 have HG:=Lib.hid hG
 clear hG hlen h
 generalize sigF (listB 32 f) (stopT n)=sg at *
 generalize stopT n=tx at *
 have hB:=build_stop n sg
 have hS1:Row1 (stopR n sg) 65:=inferInstance
 generalize stopR n sg=sr at *
 go_enter Tryz.func39,Tryz.ntmps39
 go_wp2_with (first | refine aU ?_ | ((with_reducible refine gS 2 ?_);refine aBp ?_;clear hL;intro b2 w1 hL) | ((with_reducible refine gS 4 ?_);refine aBp ?_;clear hL;intro b4 w1 hL) | ((go_at_call 79;go_loud (refine (HS.out _).mono ?_);rintro e w1 ⟨rfl,rfl⟩;refine p4 ?_)) | (refine aL3S6p ?_;clear hL;intro w1 hL))
 refine wp_region_mix (S:=fun w'=>∃ x,Loc w w' [(b4,x,98),(b2,rowB 32 f,24)]) 8 (by kernel_rfl) (by kernel_rfl) (⟨_,hL.drew⟩) (fun hHeld=>?_)
 replace hL:=hL.drew
 refine tg 0 hHeld ?_
 refine p7 ?_
 refine tz 1 hHeld ?_
 refine p7 ?_
 refine tg 2 hHeld ?_
 refine p7 ?_
 refine wpAnyH_ready (rs:=[3]) (by kernel_rfl) (by simp) ((AllReadyH.cons rfl (fun K hK=>?_) AllReadyH.nil))
 rw [if_pos (by rfl)]
 refine eCall rfl (by simp only [List.map_toArray,List.map_cons,List.map_nil];rfl) ((HT.out _).mono ?_)
 rintro e w1 ⟨g13,cap13,cur13,rfl,hr13,hg13,hc13,hb13⟩;refine ⟨_,rfl,?_⟩;have hL1:=hL.fresh hb13 hg13 hc13;clear hb13 hg13 hc13
 clear hL;have hL:=hL1;clear hL1
 refine hK.out _ _ (⟨_,hL.pop⟩) (fun hHeld2=>?_)
 clear hK K hHeld;have hHeld:=hHeld2;clear hHeld2
 refine p7 ?_
 refine wpAnyH_ready (rs:=[4]) (by kernel_rfl) (by simp) ((AllReadyH.cons rfl (fun K hK=>?_) AllReadyH.nil))
 rw [if_pos (by rfl)]
 refine eCall rfl (by simp only [List.map_toArray,List.map_cons,List.map_nil];rfl) ((HSG.out _ (hL.glob HG.out) (.slice (some ⟨g13,0,none⟩) tx.length cap13) (See.bytes hL)).mono ?_)
 rintro e w1 ⟨rfl,hb1⟩;refine ⟨_,rfl,?_⟩;have hL1:=hL.keep hb1;clear hb1
 clear hL;have hL:=hL1;clear hL1
 refine hK.out _ _ (⟨_,hL.pop⟩) (fun hHeld2=>?_)
 clear hK K hHeld;have hHeld:=hHeld2;clear hHeld2
 refine p7 ?_
 first | refine tk 5 rfl (zU (by rfl) rfl hB rfl) hHeld ?_
 refine p7 ?_
 refine wpAnyH_ready (rs:=[6]) (by kernel_rfl) (by simp) ((AllReadyH.cons rfl (fun K hK=>?_) AllReadyH.nil))
 rw [if_pos (by rfl)]
 refine eAny ?_;intro w1 hL1
 clear hL;have hL:=hL1;clear hL1
 refine hK.out _ _ (⟨_,hL.pop⟩) (fun hHeld2=>?_)
 clear hK K hHeld;have hHeld:=hHeld2;clear hHeld2
 refine p7 ?_
 refine tg 7 hHeld ?_
 refine p7 ?_
 refine wpAnyH_done (by kernel_rfl) (NoPanic.normal ?_) _
 clear hHeld
 go_wp2_with (first | refine aU ?_ | (refine aL3S6p ?_;clear hL;intro w1 hL))
 exact bodyPost_ret (results_loc2 rfl hL rfl rfl) rfl ⟨rfl,hL.bel⟩
instance iStf4:Ent 39:=Ent.of Tryz.func39 (by kernel_rfl) rfl
theorem segStop (n:Int) (f:Nat→BitVec 8):Seg (stopR n f) 1 64 (encB (listB 64 f)) where
 len:=by rw [encB_length,listB_length]
 one:=encB_one' _
 seg:=fun i hi=>by
  rw [encB_length,listB_length] at hi
  unfold stopR
  rw [Array.getElem?_append_right (by simp)]
  rw [show (encB (listB 64 f))[i]=Value.int .u8 (B8 (f i)) from by simp [encB,listB]]
  have h1:1+i - (#[Value.int .i64 n]:Array Value).size=i:=by simp
  rw [h1]
  exact row_get (fun i=>Value.int .u8 (B8 (f i))) hi
set_option maxRecDepth 100000 in
theorem packStop_any (n:Int) (f:Nat→BitVec 8) (h:smallZ n) (w:World):Calls Tryz.prog 40 #[.agg (stopR n f)] w fun e w'=>∃ g cap cur,e= .returned (.tuple #[.slice (some ⟨g,0,none⟩) 76 cap,.int .i64 0])∧OwnR cur 76 cap (encB (stopB n f))∧Loc w w' [(g,cur,5)]:=by
 have hL:=Loc.nil w
 have HS:=Lib.hid (fun w1=>small_any n h w1)
 have hlen:(stopT n).length=12:=by simp [stopT,packI_length]
 have HT:=Lib.hid (fun w1=>(stopText_any n h w1).mono fun e w' h=>(show ∃ g cap cur,e= .returned (.slice (some ⟨g,0,none⟩) 12 cap)∧OwnR cur 12 cap (encB (stopT n))∧w1.heap.size≤g∧w'.heap[g]?=some (.cells cur 5 (0,0))∧Below w1.heap.size w1 w' from by have h':=h;unfold Fresh at h';rw [hlen] at h';exact h'))
 rw [show stopB n f=stopT n ++ listB 64 f from rfl]
 haveI hsg:=segStop n f
 clear hlen h
 generalize stopT n=tx at *
 go_enter Tryz.func40,Tryz.ntmps40
 go_wp2_with (first | refine aU ?_ | ((with_reducible refine gS 1 ?_);refine aBp ?_;clear hL;intro b1 w1 hL) | ((go_at_call 79;go_loud (refine (HS.out _).mono ?_);rintro e w1 ⟨rfl,rfl⟩;refine p4 ?_)) | (refine aL3S6p ?_;clear hL;intro w1 hL))
 refine wp_region_mix (S:=fun w'=>Loc _ w' _) 8 (by kernel_rfl) (by kernel_rfl) (hL.drew) (fun hHeld=>?_)
 replace hL:=hL.drew
 refine tg 0 hHeld ?_
 refine p7 ?_
 refine tg 3 hHeld ?_
 refine p7 ?_
 refine tz 1 hHeld ?_
 refine p7 ?_
 refine tg 4 hHeld ?_
 refine p7 ?_
 refine wpAnyH_ready (rs:=[2]) (by kernel_rfl) (by simp) ((AllReadyH.cons rfl (fun K hK=>?_) AllReadyH.nil))
 rw [if_pos (by rfl)]
 refine eCall rfl (by simp only [List.map_toArray,List.map_cons,List.map_nil];rfl) ((HT.out _).mono ?_)
 rintro e w1 ⟨g10,cap10,cur10,rfl,hr10,hg10,hc10,hb10⟩;refine ⟨_,rfl,?_⟩;have hL1:=hL.fresh hb10 hg10 hc10;clear hb10 hg10 hc10
 clear hL;have hL:=hL1;clear hL1
 refine hK.out _ _ (hL.pop) (fun hHeld2=>?_)
 clear hK K hHeld;have hHeld:=hHeld2;clear hHeld2
 refine p7 ?_
 refine wpAnyH_ready (rs:=[5]) (by kernel_rfl) (by simp) ((AllReadyH.cons rfl (fun K hK=>?_) AllReadyH.nil))
 rw [if_pos (by rfl)]
 refine eAppB hL rfl rfl rfl (by first | omega | (simp;omega) | simp) fun g13 cap13 cur13 w1 hr13 hL1=>?_
 (try dsimp only at hL1)
 clear hL;have hL:=hL1;clear hL1
 refine hK.out _ _ (hL.pop) (fun hHeld2=>?_)
 clear hK K hHeld;have hHeld:=hHeld2;clear hHeld2
 refine p7 ?_
 refine tg 6 hHeld ?_
 refine p7 ?_
 refine tg 7 hHeld ?_
 refine p7 ?_
 refine wpAnyH_done (by kernel_rfl) (NoPanic.normal ?_) _
 clear hHeld
 go_wp2_with fail
 go_ret2
 exact ⟨g13,cap13,cur13,rfl,hr13,Loc.rem b1 hL⟩
instance iStf5:Ent 40:=Ent.of Tryz.func40 (by kernel_rfl) rfl
set_option maxRecDepth 100000 in
theorem stopOf_any (a b c d:Nat→BitVec 8) (n:Int) (h:smallZ n) (w:World) (hG:Glob w):Calls Tryz.prog 12 #[.agg (setR a b c d),.int .i64 n] w fun e w'=>∃ g cap cur,e= .returned (.tuple #[.slice (some ⟨g,0,none⟩) 76 cap,.int .i64 0])∧OwnR cur 76 cap (encB (stopB n (sigF (listB 32 a) (stopT n))))∧Loc w w' [(g,cur,5)]:=by
 have hL:=Loc.nil w
 have HS:=Lib.hid (fun w1 (hg:Glob w1)=>refStop_any a n h w1 hg)
 have HP:=Lib.hid (fun w1=>packStop_any n (sigF (listB 32 a) (stopT n)) h w1)
 have HG:=Lib.hid hG
 clear hG h
 generalize sigF (listB 32 a) (stopT n)=sg at *
 go_enter Tryz.func12,Tryz.ntmps12
 go_wp2_with (first | refine aU ?_ | ((with_reducible refine gS 2 ?_);refine aBp ?_;clear hL;intro b2 w1 hL) | ((with_reducible refine gS 6 ?_);refine aBp ?_;clear hL;intro b6 w1 hL) | ((with_reducible refine gC 12 ?_);go_loud (refine lCall rfl rfl ((HS.out _ (hL.glob HG.out)).mono ?_) rfl);rintro e w1 ⟨rfl,hb1⟩;have hL1:=hL.keep hb1;clear hL;revert hL1;refine aE ?_;intro hL) | ((with_reducible refine gC 19 ?_);go_loud (refine lCall rfl rfl ((HP.out _).mono ?_) rfl);rintro e w1 ⟨g19,cap19,cur19,rfl,hr19,hN⟩;refine ⟨_,rfl,?_⟩;have hL1:=hL.join hN;clear hN;(try simp only [List.cons_append,List.nil_append,List.append_assoc] at hL1);clear hL;have hL:=hL1;clear hL1;refine p4 ?_) | (refine aL3S6p ?_;clear hL;intro w1 hL))
 go_ret2
 exact ⟨g19,cap19,cur19,rfl,hr19,Loc.rem b2 (Loc.rem b6 hL)⟩
instance iStf6:Ent 12:=Ent.of Tryz.func12 (by kernel_rfl) rfl
end Go.Proofs.YtoifhhljfaoejaaGreatDoor
namespace Go.Proofs.YtoifhhljfaoejaaGreatDoor
open Go Go.RowKit Go.Shelf
set_option linter.unusedVariables false
set_option linter.unusedSimpArgs false
set_option linter.unusedSectionVars false
set_option maxRecDepth 100000 in
theorem devFeed_pure {bf cc dd:Nat} {p:Option Addr} {n c:Nat} {N:Int} {l:List (BitVec 8)} (w:World) (h0:Was w dd 0 (ptrV bf)) (h1:Was w dd 1 (ptrV cc)) (h2:Was w dd 2 (.bool false)) (h3:Was w bf 3 (.bool false)) (hv:BRow w (.slice p n c) l) (hl0:0<l.length) (hl4:l.length<4) :
 Calls Tryz.prog 18 #[ptrV dd,.agg (mvR 1 p n c N)] w fun e w'=>e= .returned (.tuple #[.slice none 0 0,.int .i64 4])∧Below w.heap.size w w':=by
 have hL:=Loc.nil w
 haveI hA:Arg w (.slice p n c) (encB l):=⟨hv.vrow⟩
 have HDEAD:=Lib.hid (fun (b:Nat) w1 (h:Loc w w1 [(b,mvR 1 p n c N,47)])=>(show Calls Tryz.prog 51 #[ptrV bf] w1 fun e w'=>e= .returned (.bool false)∧Loc w w' [(b,mvR 1 p n c N,47)] from by
  have hL:=h
  go_enter Tryz.func51,Tryz.ntmps51
  go_wp2_with (first | refine aU ?_ | (refine aL3S6p ?_;clear hL;intro w1 hL))
  all_goals (go_ret;exact ⟨rfl,hL⟩)))
 have HC:=Lib.hid (fun (b:Nat) w1 (h:Loc w w1 [(b,mvR 1 p n c N,47)])=>coDo_feed (cc:=cc) (N:=N) (p:=p) (n:=n) (c:=c) (fun v M'=>v=4∧M'=[(b,mvR 1 p n c N,47)]) (fun b' w2 h2=>(feed_short (cc:=cc) (.slice p n c) l (fun w3 h3=>See.bytes h3) hl0 hl4 h2).mono fun e w' ⟨e1,e2⟩=>⟨4,_,e1,⟨rfl,rfl⟩,e2⟩) h)
 clear hv
 go_enter Tryz.func18,Tryz.ntmps18
 go_wp2_with (first | refine aU ?_ | ((with_reducible refine gS 3 ?_);refine aBp ?_;clear hL;intro b3 w1 hL) | ((with_reducible refine gC 17 ?_);go_loud (refine lCall rfl rfl ((HDEAD.out _ _ hL).mono ?_) rfl);rintro e w1 ⟨rfl,hL1⟩;clear hL;revert hL1;refine aE ?_;intro hL) | (refine aL3S6p ?_;clear hL;intro w1 hL))
 refine wp_region_mix (S:=fun w'=>Loc w w' [(b3,mvR 1 p n c N,47)]) 11 (by kernel_rfl) (by kernel_rfl) (hL.drew) (fun hHeld=>?_)
 replace hL:=hL.drew
 refine tg 0 hHeld ?_
 refine p7 ?_
 refine tz 4 hHeld ?_
 refine p7 ?_
 refine tg 1 hHeld ?_
 refine p7 ?_
 refine tg 2 hHeld ?_
 refine p7 ?_
 refine tz 3 hHeld ?_
 refine p7 ?_
 refine wpAnyH_ready (rs:=[5]) (by kernel_rfl) (by simp) ((AllReadyH.cons rfl (fun K hK=>?_) AllReadyH.nil))
 rw [if_pos (by rfl)]
 refine eCall rfl (by simp only [List.map_toArray,List.map_cons,List.map_nil];rfl) ((HC.out _ _ hL).mono ?_)
 rintro e w1 ⟨_,_,rfl,⟨rfl,rfl⟩,hL1⟩;refine ⟨_,rfl,?_⟩
 (try dsimp only at hL1);(try simp only [Nat.reduceAdd,Nat.reduceSub] at hL1)
 clear hL;have hL:=hL1;clear hL1
 refine hK.out _ _ (hL) (fun hHeld2=>?_)
 clear hK K hHeld;have hHeld:=hHeld2;clear hHeld2
 refine p7 ?_
 refine tg 6 hHeld ?_
 refine p7 ?_
 refine tg 7 hHeld ?_
 refine p7 ?_
 refine tg 8 hHeld ?_
 refine p7 ?_
 refine tg 9 hHeld ?_
 refine p7 ?_
 refine tg 10 hHeld ?_
 refine p7 ?_
 refine wpAnyH_done (by kernel_rfl) (NoPanic.normal ?_) _
 clear hHeld
 go_wp2_with (first | refine aU ?_ | (refine aL3S6p ?_;clear hL;intro w1 hL))
 all_goals (go_ret2;exact ⟨rfl,hL.bel⟩)
section
variable {w0 w:World} {F:Array Value→Array Value→Array Value→Array Value→Array Value→Mem} {bf bb bo bk kp a0 a1 cc dd:Nat} {fr fs:Nat→BitVec 8} {p:Option Addr} {n c:Nat} {N:Int}
theorem devBoot_none (hF:CoM F bf bb bo bk kp a0 a1 cc) (hD:∀ x y z u c,At (F x y z u c) dd (dvR bf cc) 126) (d:Dv) (hS:∀ x y z u c,SeeS w0 (F x y z u c) d.s d.q) (hg:Good d.s) (hm0:d.s.m0=[]) (hm1:d.s.m1=[]) (hac:d.s.ac= -1) (hd:d.s.d0=false) (hbt:d.bt= -1) (hL:Loc w0 w (d.at F bf bb bo kp fr fs)) :
 Calls Tryz.prog 18 #[ptrV dd,.agg (mvR 4 p n c N)] w fun e w'=>e= .returned (.tuple #[.slice none 0 0,.int .i64 18])∧Loc w0 w' (d.at F bf bb bo kp fr fs):=by
 have hA:=hF.a;have hU:=hF.u;have hB:=hF.b;have hV:=hF.v;have hO:=hF.o;have hPP:=hF.p;have hQ:=hF.q;have hRR:=hF.r;have hG:=hF.g;have hH:=hF.h;have hKK:=hF.k;have hll:=hF.l;have hmm:=hF.m
 refine (devDo (bb:=bb) (er:=d.er) (pr:=d.pr) (hA _ _ _ _ _) (hD _ _ _ _ _) (fun o v M'=>o= .slice none 0 0∧v=18∧M'=d.at F bf bb bo kp fr fs) (fun o v M' ⟨h1,h2,h3⟩=>⟨by rw [h2];decide,by rw [h3];exact (hD _ _ _ _ _).mem⟩) (fun b w1 h1=>?_) hL).mono ?_
 ·refine (coDo_boot (fun v M'=>v=18∧M'=(b,mvR 4 p n c N,47) :: d.at F bf bb bo kp fr fs) (fun b' w2 h2=>?_) h1).mono ?_
  ·refine (boot_none (F:=fun x y z u e=>(b',mvR 4 p n c N,47) :: (b,mvR 4 p n c N,47) :: F x y z u e) (bf:=bf) (bb:=bb) (bo:=bo) (bk:=bk) (kp:=kp) (a0:=a0) (a1:=a1) (cc:=cc) (fr:=fr) (fs:=fs) inferInstance d (fun x y z u e=>inferInstance) hg hm0 hm1 hac hd hbt h2).mono ?_
   rintro e w' ⟨e1,e2⟩
   exact ⟨18,_,e1,⟨rfl,rfl⟩,e2⟩
  ·rintro e w' ⟨v,M',e1,⟨rfl,rfl⟩,e2⟩
   exact ⟨none,0,0,18,_,e1,⟨rfl,rfl,rfl⟩,e2⟩
 ·rintro e w' ⟨po,no,co,v,M',e1,⟨h1,rfl,rfl⟩,e2⟩
  rw [h1] at e1
  exact ⟨e1,e2⟩
theorem front3b (S1 S0 Sr M:Mem) (a b:Nat×Array Value×TypeId):List.Perm (S1 ++ (S0 ++ (Sr ++ (a :: b :: M)))) (a :: b :: (S1 ++ (S0 ++ (Sr ++ M)))) :=
 (front3 S1 S0 Sr (b :: M) a).trans (List.Perm.cons a (front3 S1 S0 Sr M b))
theorem devRevoke_new (hF:CoM F bf bb bo bk kp a0 a1 cc) (hD:∀ x y z u c,At (F x y z u c) dd (dvR bf cc) 126) (d:Dv) (ok:d.Ok) (hlt:d.n<d.m) (hS:∀ x y z u c,SeeS w0 (F x y z u c) d.s d.q) (id:Int) (fg:Nat→BitVec 8) (hid:smallZ id) (hx:∀ i (h:i<d.s.rv.length),d.s.rv[i]<id) (h32:d.s.rv.length<32)
 (hok:stopOk fr id fg=true) (hv:∀ x y z u e,See w0 (F x y z u e) (.slice p n c) (encB (stopB id fg))) (hL:Loc w0 w (d.at F bf bb bo kp fr fs)) :
 Calls Tryz.prog 18 #[ptrV dd,.agg (mvR 6 p n c N)] w fun e w'=>e= .returned (.tuple #[.slice none 0 0,.int .i64 0])∧∃ d' Sr S0 S1,d.Next d'∧d'.s=d.s.add id∧HoldQ Sr S0 S1 d'.s d'.q∧Loc w0 w' (S1 ++ (S0 ++ (Sr ++ d'.at F bf bb bo kp fr fs))):=by
 have hA:=hF.a;have hU:=hF.u;have hB:=hF.b;have hV:=hF.v;have hO:=hF.o;have hPP:=hF.p;have hQ:=hF.q;have hRR:=hF.r;have hG:=hF.g;have hH:=hF.h;have hKK:=hF.k;have hll:=hF.l;have hmm:=hF.m
 refine (devDo (bb:=bb) (er:=d.er) (pr:=d.pr) (hA _ _ _ _ _) (hD _ _ _ _ _) (fun o v M'=>o= .slice none 0 0∧v=0∧∃ d' Sr S0 S1,d.Next d'∧d'.s=d.s.add id∧HoldQ Sr S0 S1 d'.s d'.q∧M'=S1 ++ (S0 ++ (Sr ++ d'.at F bf bb bo kp fr fs))) ?_ (fun b w1 h1=>?_) hL).mono ?_
 ·rintro o v M' ⟨h1,h2,d',Sr,S0,S1,_,_,_,h3⟩
  refine ⟨by rw [h2];decide,?_⟩
  rw [h3]
  exact (inferInstance:At (S1 ++ (S0 ++ (Sr ++ d'.at F bf bb bo kp fr fs))) dd (dvR bf cc) 126).mem
 ·refine (coDo_revoke (fun v M'=>v=0∧∃ d' Sr S0 S1,d.Next d'∧d'.s=d.s.add id∧HoldQ Sr S0 S1 d'.s d'.q∧M'=(b,mvR 6 p n c N,47) :: (S1 ++ (S0 ++ (Sr ++ d'.at F bf bb bo kp fr fs)))) (fun b' w2 h2=>?_) h1).mono ?_
  ·refine (coRevoke_new (F:=fun x y z u e=>(b',mvR 6 p n c N,47) :: (b,mvR 6 p n c N,47) :: F x y z u e) (bf:=bf) (bb:=bb) (bo:=bo) (bk:=bk) (kp:=kp) (a0:=a0) (a1:=a1) (cc:=cc) (fr:=fr) (fs:=fs) inferInstance d ok hlt (fun x y z u e=>inferInstance) id fg hid hx h32 hok (fun x y z u e=>inferInstance) h2).mono ?_
   rintro e w' ⟨e1,d',Sr,S0,S1,h3,h4,h5,h6⟩
   exact ⟨0,_,e1,⟨rfl,d',Sr,S0,S1,h3,h4,h5,rfl⟩,h6.perm (front3b _ _ _ _ _ _)⟩
  ·rintro e w' ⟨v,M',e1,⟨rfl,d',Sr,S0,S1,h3,h4,h5,rfl⟩,h6⟩
   exact ⟨none,0,0,0,_,e1,⟨rfl,rfl,d',Sr,S0,S1,h3,h4,h5,rfl⟩,h6⟩
 ·rintro e w' ⟨po,no,co,v,M',e1,⟨h1,rfl,d',Sr,S0,S1,h3,h4,h5,rfl⟩,h6⟩
  rw [h1] at e1
  exact ⟨e1,d',Sr,S0,S1,h3,h4,h5,h6⟩
theorem devRevoke_full (hF:CoM F bf bb bo bk kp a0 a1 cc) (hD:∀ x y z u c,At (F x y z u c) dd (dvR bf cc) 126) (d:Dv) (ok:d.Ok) (hlt:d.n<d.m) (hS:∀ x y z u c,SeeS w0 (F x y z u c) d.s d.q) (id:Int) (fg:Nat→BitVec 8) (hid:smallZ id) (hx:∀ i (h:i<d.s.rv.length),d.s.rv[i]<id) (h32:¬ d.s.rv.length<32)
 (hok:stopOk fr id fg=true) (hv:∀ x y z u e,See w0 (F x y z u e) (.slice p n c) (encB (stopB id fg))) (hL:Loc w0 w (d.at F bf bb bo kp fr fs)) :
 Calls Tryz.prog 18 #[ptrV dd,.agg (mvR 6 p n c N)] w fun e w'=>e= .returned (.tuple #[.slice none 0 0,.int .i64 3])∧Loc w0 w' (d.at F bf bb bo kp fr fs):=by
 have hA:=hF.a;have hU:=hF.u;have hB:=hF.b;have hV:=hF.v;have hO:=hF.o;have hPP:=hF.p;have hQ:=hF.q;have hRR:=hF.r;have hG:=hF.g;have hH:=hF.h;have hKK:=hF.k;have hll:=hF.l;have hmm:=hF.m
 refine (devDo (bb:=bb) (er:=d.er) (pr:=d.pr) (hA _ _ _ _ _) (hD _ _ _ _ _) (fun o v M'=>o= .slice none 0 0∧v=3∧M'=d.at F bf bb bo kp fr fs) (fun o v M' ⟨h1,h2,h3⟩=>⟨by rw [h2];decide,by rw [h3];exact (hD _ _ _ _ _).mem⟩) (fun b w1 h1=>?_) hL).mono ?_
 ·refine (coDo_revoke (fun v M'=>v=3∧M'=(b,mvR 6 p n c N,47) :: d.at F bf bb bo kp fr fs) (fun b' w2 h2=>?_) h1).mono ?_
  ·refine (coRevoke_full (F:=fun x y z u e=>(b',mvR 6 p n c N,47) :: (b,mvR 6 p n c N,47) :: F x y z u e) (bf:=bf) (bb:=bb) (bo:=bo) (bk:=bk) (kp:=kp) (a0:=a0) (a1:=a1) (cc:=cc) (fr:=fr) (fs:=fs) inferInstance d ok hlt (fun x y z u e=>inferInstance) id fg hid hx h32 hok (fun x y z u e=>inferInstance) h2).mono ?_
   rintro e w' ⟨e1,e2⟩
   exact ⟨3,_,e1,⟨rfl,rfl⟩,e2⟩
  ·rintro e w' ⟨v,M',e1,⟨rfl,rfl⟩,e2⟩
   exact ⟨none,0,0,3,_,e1,⟨rfl,rfl,rfl⟩,e2⟩
 ·rintro e w' ⟨po,no,co,v,M',e1,⟨h1,rfl,rfl⟩,e2⟩
  rw [h1] at e1
  exact ⟨e1,e2⟩
end
theorem leK_congr {f g:Nat→BitVec 8}:∀ k,(∀ i,i<k→f i=g i)→leK f k=leK g k
 | 0,_=>rfl
 | k+1,h=>by
  unfold leK
  rw [leK_congr k fun i hi=>h i (by omega),h k (by omega)]
theorem leN_congr {f g:Nat→BitVec 8} (h:∀ i,i<32→f i=g i):leN f=leN g:=leK_congr 32 h
theorem stopOk_sign (a:Nat→BitVec 8) (n:Int):stopOk (byteN (pubN (listB 32 a))) n (sigF (listB 32 a) (stopT n))=true:=by
 have h:=check_sign (listB 32 a) (stopT n)
 unfold stopOk
 have e1:leN (byteN (pubN (listB 32 a)))=pubN (listB 32 a):=leN_byteN (enc_lt _)
 have e2:leN (sigF (listB 32 a) (stopT n))=atN (listB 32 a) (stopT n):=by
  rw [← leN_byteN (n:=atN (listB 32 a) (stopT n)) (enc_lt _)]
  exact leN_congr fun i hi=>by unfold sigF;rw [if_pos hi]
 have e3:(leN fun i=>sigF (listB 32 a) (stopT n) (32+i))=sigS (listB 32 a) (stopT n):=by
  rw [← leN_byteN (n:=sigS (listB 32 a) (stopT n)) (Nat.lt_trans (sigS_lt _ _) Qo_256)]
  exact leN_congr fun i hi=>by unfold sigF;rw [if_neg (by omega),Nat.add_sub_cancel_left]
 rw [e1,e2,e3]
 exact h
end Go.Proofs.YtoifhhljfaoejaaGreatDoor
namespace Go.Proofs.YtoifhhljfaoejaaGreatDoor
open Go Go.RowKit Go.Shelf
set_option linter.unusedVariables false
set_option linter.unusedSimpArgs false
set_option linter.unusedSectionVars false
set_option maxRecDepth 100000 in
theorem numE_any (n:Int) (w:World):Calls Tryz.prog 17 #[.int .i64 n] w fun e w'=>e= .returned (.int .i64 n)∧Below w.heap.size w w':=by
 go_enter Tryz.func17,Tryz.ntmps17
 go_wp2_with (first | refine aU ?_ | (refine aL3S6p ?_;clear hL;intro w1 hL))
 all_goals (go_ret;exact ⟨rfl,Below.refl _ _⟩)
instance iWrk1:Ent 17:=Ent.of Tryz.func17 (by kernel_rfl) rfl
def oneF (x:BitVec 8):Nat→BitVec 8:=fun i=>if i=0 then x else 0
theorem build_one (w:World):(Instr.build 24 #[(0,.int .u8 1)]).run Tryz.prog w= .ok (.agg (rowB 32 (oneF 1))) w:=by kernel_rfl
theorem build_tw (w:World):(Instr.build 24 #[(0,.int .u8 2)]).run Tryz.prog w= .ok (.agg (rowB 32 (oneF 2))) w:=by kernel_rfl
theorem build_mv (k:Int) (w:World):(Instr.build 47 #[(0,.int .i64 k)]).run Tryz.prog w= .ok (.agg (mvR k none 0 0 0)) w:=by kernel_rfl
theorem build_mvb (k:Int) (p:Option Addr) (n c:Nat) (w:World):(Instr.build 47 #[(0,.int .i64 k),(1,.slice p n c)]).run Tryz.prog w= .ok (.agg (mvR k p n c 0)) w:=by kernel_rfl
theorem was_below {w w':World} {b k:Nat} {v:Value} (h:Was w b k v) (hb:Below w.heap.size w w'):Was w' b k v:=⟨(hb.cell (p:=⟨b,k,none⟩) h.lt).trans h.cell,Nat.lt_of_lt_of_le h.lt hb.size⟩
abbrev foF (M:Mem) (bf bb bo:Nat):Array Value→Array Value→Array Value→Mem:=fun x y z=>(bo,z,108) :: (bf,x,106) :: (bb,y,5) :: M
instance comDev (M:Mem) (bf bb bo bk kp a0 a1 cc dd:Nat):CoM (devF (foF M bf bb bo) bf bo bk kp a0 a1 cc dd) bf bb bo bk kp a0 a1 cc:=by
 unfold devF foF
 constructor
 all_goals intros
 all_goals try dsimp only
 all_goals infer_instance
theorem devWas {w0 w:World} {M:Mem} {bf bb bo bk kp a0 a1 cc dd:Nat} {fr fs:Nat→BitVec 8} (d:Dv) (hL:Loc w0 w (d.at (devF (foF M bf bb bo) bf bo bk kp a0 a1 cc dd) bf bb bo kp fr fs)):Was w dd 0 (ptrV bf)∧Was w dd 1 (ptrV cc)∧Was w dd 2 (.bool false)∧Was w bf 3 (.bool false):=by
 have hm:(bf,flR bb d.er d.pr,106)∈d.at (devF (foF M bf bb bo) bf bo bk kp a0 a1 cc dd) bf bb bo kp fr fs:=At.mem
 exact ⟨was_at hL (.head _) rfl,was_at hL (.head _) rfl,was_at hL (.head _) rfl,was_at hL hm rfl⟩
set_option maxRecDepth 100000 in
set_option maxHeartbeats 1000000 in
theorem works_any (w:World):Calls Tryz.prog 8 #[] w fun e w'=>e= .returned (.bool true)∧Below w.heap.size w w':=by
 have hL:=Loc.nil w
 have h3:((3:Nat):Int)=3:=rfl
 go_enter Tryz.func8,Tryz.ntmps8
 go_wp2_with (first | refine aU ?_ | ((with_reducible refine gC 10 ?_);go_loud (refine lCall rfl rfl ((flashNew_any _).mono ?_) rfl);rintro e w1 ⟨bf,bb,cur0,rfl,hFil,hN⟩;refine ⟨_,rfl,?_⟩;have hL1:=hL.join hN;clear hN;(try simp only [List.cons_append,List.nil_append,List.append_assoc] at hL1);clear hL;have hL:=hL1;clear hL1;refine p4 ?_) | ((with_reducible show wpList _ _ _ (⟨some 12,.build _ _,_,_,_,_⟩ :: _) _ _);refine lU hL rfl rfl build_one rfl ?_;clear hL;intro w1 hL;refine p4 ?_) | ((with_reducible show wpList _ _ _ (⟨some 13,.build _ _,_,_,_,_⟩ :: _) _ _);refine lU hL rfl rfl build_tw rfl ?_;clear hL;intro w1 hL;refine p4 ?_) | ((with_reducible refine gC 14 ?_);go_loud (refine lCall rfl rfl ((otpNew_any bf (oneF 1) (oneF 2) 3 (by decide) _).mono ?_) rfl);rintro e w1 ⟨bo,rfl,hN⟩;refine ⟨_,rfl,?_⟩;have hL1:=hL.join hN;clear hN;(try simp only [List.cons_append,List.nil_append,List.append_assoc] at hL1);clear hL;have hL:=hL1;clear hL1;refine p4 ?_) | ((with_reducible refine gC 18 ?_);go_loud (refine lCall rfl rfl ((devOpen (F:=foF [] bf bb bo) (bf:=bf) (bb:=bb) (bo:=bo) inferInstance (by decide) (by decide) (by decide) (by decide) hFil.fl hL).mono ?_) rfl);rintro e w1 ⟨bk,kp,a0,a1,cc,dd,d,rfl,hFr,hL1⟩;have HFR:=Lib.hid hFr;clear hFr;clear hL;revert hL1;refine aE ?_;intro hL) | ((with_reducible refine gC 22 ?_);go_loud (refine lCall rfl rfl ((numE_any _ _).mono ?_) rfl);rintro e w1 ⟨rfl,hb1⟩;have hL1:=hL.keep hb1;clear hL;revert hL1;refine aE ?_;intro hL) | ((with_reducible show wpList _ _ _ (⟨some 30,.build _ _,_,_,_,_⟩ :: _) _ _);refine lU hL rfl rfl (build_mv 4) rfl ?_;clear hL;intro w1 hL;refine p4 ?_) | ((with_reducible refine gC 31 ?_);go_loud (refine lCall rfl rfl ((devBoot_none (F:=devF (foF [] bf bb bo) bf bo bk kp a0 a1 cc dd) (bf:=bf) (bb:=bb) (bo:=bo) (bk:=bk) (kp:=kp) (a0:=a0) (a1:=a1) (cc:=cc) inferInstance (fun x y z u c=>inferInstance) d (fun x y z u c=>by rw [HFR.out.s,HFR.out.q];exact seesNone _ _) (by rw [HFR.out.s];exact good_new) (by rw [HFR.out.s];rfl) (by rw [HFR.out.s];rfl) (by rw [HFR.out.s];rfl) (by rw [HFR.out.s];rfl) HFR.out.bt hL).mono ?_) rfl);rintro e w1 ⟨rfl,hL1⟩;clear hL;revert hL1;refine aE ?_;intro hL) | ((with_reducible show wpList _ _ _ (⟨some 36,_,_,_,_,_⟩ :: ⟨some 37,_,_,_,_,_⟩ :: _) _ _);go_loud (refine lLit1 120 hL rfl rfl rfl rfl rfl (fun _=>rfl) ?_);clear hL;intro b36 w37 hb36 hL0;have hA36:Arg w37 (.slice (some ⟨b36,0,none⟩) 1 1) (encB [120]):=⟨hb36.vrow⟩;obtain ⟨g0,g1,g2,g3⟩:=devWas d hL0;have hL:=Loc.nil w37) | ((with_reducible show wpList _ _ _ (⟨some 38,.build _ _,_,_,_,_⟩ :: _) _ _);refine lU hL rfl rfl (build_mvb 1 (some ⟨b36,0,none⟩) 1 1) rfl ?_;clear hL;intro w1 hL;refine p4 ?_) | ((with_reducible refine gC 39 ?_);go_loud (refine lCall rfl rfl ((devFeed_pure (bf:=bf) (cc:=cc) (dd:=dd) (l:=[120]) _ (was_below g0 hL.bel) (was_below g1 hL.bel) (was_below g2 hL.bel) (was_below g3 hL.bel) (See.bytes hL) (by decide) (by decide)).mono ?_) rfl);rintro e w1 ⟨rfl,hb1⟩;refine ⟨_,rfl,?_⟩;have hL1:=hL0.join (hL.keep hb1);clear hL hL0 hA36 hb36 g0 g1 g2 g3;simp only [List.nil_append] at hL1;have hL:=hL1;clear hL1;refine p4 ?_) | ((with_reducible refine gC 43 ?_);go_loud (refine lCall rfl rfl ((devState (F:=devF (foF [] bf bb bo) bf bo bk kp a0 a1 cc dd) (bf:=bf) (bb:=bb) (bo:=bo) (bk:=bk) (kp:=kp) (a0:=a0) (a1:=a1) (cc:=cc) inferInstance (fun x y z u c=>inferInstance) d HFR.out.ok (fun x y z u c=>by rw [HFR.out.s,HFR.out.q];exact seesNone _ _) hL).mono ?_) rfl);rintro e w1 ⟨q',Sr,S0,S1,rfl,hQ,hL1⟩;clear hL;revert hL1;refine aE ?_;intro hL) | ((with_reducible refine gS 9 ?_);refine aBp ?_;clear hL;intro b9 w1 hL) | ((with_reducible refine gC 45 ?_);go_loud (refine lCall rfl rfl ((numE_any _ _).mono ?_) rfl);rintro e w1 ⟨rfl,hb1⟩;have hL1:=hL.keep hb1;clear hL;revert hL1;refine aE ?_;intro hL) | ((with_reducible refine gC 49 ?_);go_loud (refine lCall rfl rfl ((numE_any _ _).mono ?_) rfl);rintro e w1 ⟨rfl,hb1⟩;have hL1:=hL.keep hb1;clear hL;revert hL1;refine aE ?_;intro hL) | ((with_reducible refine gC 54 ?_);go_loud (refine lCall rfl rfl ((otpCount_any (F:=fun x y z=>(b9,stR d.s q',58) :: (S1 ++ (S0 ++ (Sr ++ devF (foF [] bf bb bo) bf bo bk kp a0 a1 cc dd x y z (bkR bf bo d.p d.kn d.kc d.half) (coR kp (oneF 1) (oneF 2) d.s d.q d.bt d.rg))))) (bf:=bf) (bb:=bb) hL).mono ?_) rfl);rintro e w1 ⟨rfl,hL1⟩;rw [HFR.out.n];have hac:d.s.ac= -1:=(by rw [HFR.out.s];rfl);clear hL;revert hL1;refine aE ?_;intro hL) | (refine aL3S6p ?_;clear hL;intro w1 hL))
 all_goals (go_ret;exact ⟨rfl,hL.bel⟩)
instance iWrk2:Ent 8:=Ent.of Tryz.func8 (by kernel_rfl) rfl
end Go.Proofs.YtoifhhljfaoejaaGreatDoor
