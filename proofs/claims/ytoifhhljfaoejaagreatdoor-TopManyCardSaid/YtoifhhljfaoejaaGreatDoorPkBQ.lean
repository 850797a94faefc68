/-
  Lemmas of the law, part 43: the walks of the functions that it calls and the plain facts about them. No condition beyond those written.
-/
import Derived.Test.YtoifhhljfaoejaaGreatDoorPkAA
import Derived.Test.YtoifhhljfaoejaaGreatDoorPkBP
namespace Go.Proofs.YtoifhhljfaoejaaGreatDoor
open Go Go.RowKit Go.Shelf
set_option linter.unusedVariables false
set_option linter.unusedSimpArgs false
set_option linter.unusedSectionVars false
section
variable {ops:Array Oper} {rest:List Oper} {o:Oper} {a:Act} {w0 w:World} {M M':Mem} {Q:Exit→Act→World→Prop} {K:Act→World→Prop}
theorem eCopy0 (hL:Loc w0 w M) {d s:Operand} {t e:TypeId} (ho:o.op= .call { callee:= .builtin .copy,args:= #[d,s],argTypes:= #[t,t] }) [he:Elt t e]
 {p:Option Addr} {n c:Nat} (hd:a.eval d= .slice p n c) (hs:a.eval s= .slice none 0 0) (h:∀ w',Loc w0 w' M→K (a.put o.dst (.int .i64 0)) w'):o.wp Tryz.prog a w K Q:=by
 obtain ⟨i,z,hi,hz,hs1,hbb,hzs⟩:=he.info
 have hrun:=run_copy_none (P:=Tryz.prog) w t t o.type e p none n c 0 0 he.und (by rw [hi];simp [hs1]) (Nat.zero_min _)
 unfold Oper.wp execOp
 simp only [ho,resolve,invoke,builtin,Sem.run_bind,Sem.run_pure,Result.andThen_ok,List.map_toArray,List.map_cons,List.map_nil,hd,hs,hrun]
 exact h w hL
end
def mfR (ver blk:Int) (root:Nat→BitVec 8) (p:Option Addr) (n c:Nat) (id:Int) (key cs sg:Nat→BitVec 8):Array Value:= #[.int .i64 ver,.int .i64 blk] ++ rowB 32 root ++ #[.slice p n c,.int .i64 id] ++ rowB 32 key ++ rowB 64 cs ++ rowB 64 sg
abbrev mfZ:Array Value:=mfR 0 0 (fun _=>0) none 0 0 0 (fun _=>0) (fun _=>0) (fun _=>0)
section
variable (ver blk:Int) (root:Nat→BitVec 8) (p:Option Addr) (n c:Nat) (id:Int) (key cs sg:Nat→BitVec 8)
theorem mfR_size:(mfR ver blk root p n c id key cs sg).size=196:=by simp [mfR,rowB_size]
instance iMfs1:Row1 (mfR ver blk root p n c id key cs sg) 196:=⟨mfR_size _ _ _ _ _ _ _ _ _ _,by
 unfold mfR
 simp only [Array.all_append,rowB_oneCell]
 simp [Value.oneCell']⟩
instance iMfs6 (x:Int):Put (mfR ver blk root p n c id key cs sg) 1 (.int .i64 x) (mfR ver x root p n c id key cs sg):=⟨by
 unfold mfR
 rw [Array.setIfInBounds_append_left (by simp [rowB_size]),Array.setIfInBounds_append_left (by simp [rowB_size]),Array.setIfInBounds_append_left (by simp [rowB_size]),Array.setIfInBounds_append_left (by simp [rowB_size]),Array.setIfInBounds_append_left (by simp)]
 rfl,by rw [mfR_size];decide⟩
instance iMfs7 (q:Option Addr) (m d:Nat):Put (mfR ver blk root p n c id key cs sg) 34 (.slice q m d) (mfR ver blk root q m d id key cs sg):=⟨by
 unfold mfR
 rw [Array.setIfInBounds_append_left (by simp [rowB_size]),Array.setIfInBounds_append_left (by simp [rowB_size]),Array.setIfInBounds_append_left (by simp [rowB_size]),Array.setIfInBounds_append_right (by simp [rowB_size])]
 simp [rowB_size],by rw [mfR_size];decide⟩
instance iMfs8 (x:Int):Put (mfR ver blk root p n c id key cs sg) 35 (.int .i64 x) (mfR ver blk root p n c x key cs sg):=⟨by
 unfold mfR
 rw [Array.setIfInBounds_append_left (by simp [rowB_size]),Array.setIfInBounds_append_left (by simp [rowB_size]),Array.setIfInBounds_append_left (by simp [rowB_size]),Array.setIfInBounds_append_right (by simp [rowB_size])]
 simp [rowB_size],by rw [mfR_size];decide⟩
instance iMfs9 (x:Nat→BitVec 8):Splice (mfR ver blk root p n c id key cs sg) 2 (rowB 32 x) (mfR ver blk x p n c id key cs sg):=by
 have:=splice_mid #[.int .i64 ver,.int .i64 blk] (rowB 32 root) (rowB 32 x) (#[.slice p n c,.int .i64 id] ++ rowB 32 key ++ rowB 64 cs ++ rowB 64 sg) 2 rfl (by simp [rowB_size])
 simpa only [mfR,Array.append_assoc] using this
instance iMfs10 (x:Nat→BitVec 8):Splice (mfR ver blk root p n c id key cs sg) 36 (rowB 32 x) (mfR ver blk root p n c id x cs sg):=by
 have:=splice_mid (#[.int .i64 ver,.int .i64 blk] ++ rowB 32 root ++ #[.slice p n c,.int .i64 id]) (rowB 32 key) (rowB 32 x) (rowB 64 cs ++ rowB 64 sg) 36 (by simp [rowB_size]) (by simp [rowB_size])
 simpa only [mfR,Array.append_assoc] using this
instance iMfs11 (x:Nat→BitVec 8):Splice (mfR ver blk root p n c id key cs sg) 68 (rowB 64 x) (mfR ver blk root p n c id key x sg):=by
 have:=splice_mid (#[.int .i64 ver,.int .i64 blk] ++ rowB 32 root ++ #[.slice p n c,.int .i64 id] ++ rowB 32 key) (rowB 64 cs) (rowB 64 x) (rowB 64 sg) 68 (by simp [rowB_size]) (by simp [rowB_size])
 simpa only [mfR,Array.append_assoc] using this
instance iMfs12 (x:Nat→BitVec 8):Splice (mfR ver blk root p n c id key cs sg) 132 (rowB 64 x) (mfR ver blk root p n c id key cs x):=by
 have:=splice_mid (#[.int .i64 ver,.int .i64 blk] ++ rowB 32 root ++ #[.slice p n c,.int .i64 id] ++ rowB 32 key ++ rowB 64 cs) (rowB 64 sg) (rowB 64 x) #[] 132 (by simp [rowB_size]) (by simp [rowB_size])
 simpa only [mfR,Array.append_assoc,Array.append_empty] using this
end
instance iMfs13:RowTy 79 196:=⟨⟨_,Tryz.underlying79,rfl⟩,by kernel_rfl⟩
instance iMfs14:RowZ 79 mfZ:=⟨by kernel_rfl⟩
theorem build_mf0 (w:World):(Instr.build 79 #[]).run Tryz.prog w= .ok (.agg mfZ) w:=by kernel_rfl
theorem build_mf1 (x:Int) (w:World):(Instr.build 79 #[(0,.int .i64 x)]).run Tryz.prog w= .ok (.agg (mfR x 0 (fun _=>0) none 0 0 0 (fun _=>0) (fun _=>0) (fun _=>0))) w:=by kernel_rfl
section
variable {w0 w:World} {F:Array Value→Mem} {bc:Nat} {p:Option Addr} {m cap:Nat}
set_option maxRecDepth 100000 in
theorem num_dead (hA:∀ x,At (F x) bc x 274) (hU:∀ x y,Ups (F x) bc y (F y)) (hL:Loc w0 w (F #[.slice p m cap,.bool true])) :
 Calls Tryz.prog 205 #[.pointer (some ⟨bc,0,none⟩)] w fun e w'=>e= .returned (.agg (rowB 32 fun _=>0))∧Loc w0 w' (F #[.slice p m cap,.bool true]):=by
 go_enter Tryz.func205,Tryz.ntmps205
 go_wp2_with (first | refine aU ?_ | ((with_reducible refine gS 2 ?_);refine aBp ?_;clear hL;intro b2 w1 hL) | ((with_reducible refine gS 3 ?_);refine aBp ?_;clear hL;intro b3 w1 hL) | (refine aL3S6p ?_;clear hL;intro w1 hL))
 refine wp_region_mix (S:=fun w'=>Loc _ w' _) 4 (by kernel_rfl) (by kernel_rfl) (hL.drew) (fun hHeld=>?_)
 replace hL:=hL.drew
 refine tg 0 hHeld ?_
 refine p7 ?_
 refine tg 1 hHeld ?_
 refine p7 ?_
 refine wpAnyH_ready (rs:=[2]) (by kernel_rfl) (by simp) ((AllReadyH.cons rfl (fun K hK=>?_) AllReadyH.nil))
 rw [if_pos (by rfl)]
 refine eCall rfl (by simp only [List.map_toArray,List.map_cons,List.map_nil];rfl) ((raw_dead (F:=fun x=>(b3,rowB 32 (fun _=>0),24) :: (b2,rowB 32 (fun _=>0),24) :: F x) (bc:=bc) (n:=32) hL).mono ?_)
 rintro e w1 ⟨rfl,hL1⟩;refine ⟨_,rfl,?_⟩
 (try dsimp only at hL1);(try simp only [Nat.reduceAdd,Nat.reduceSub] at hL1)
 clear hL;have hL:=hL1;clear hL1
 refine hK.out _ _ (hL) (fun hHeld2=>?_)
 clear hK K hHeld;have hHeld:=hHeld2;clear hHeld2
 refine p7 ?_
 refine wpAnyH_ready (rs:=[3]) (by kernel_rfl) (by simp) ((AllReadyH.cons rfl (fun K hK=>?_) AllReadyH.nil))
 rw [if_pos (by rfl)]
 refine eCopy0 hL rfl rfl rfl fun w1 hL1=>?_
 clear hL;have hL:=hL1;clear hL1
 refine hK.out _ _ (hL) (fun hHeld2=>?_)
 clear hK K hHeld;have hHeld:=hHeld2;clear hHeld2
 refine p7 ?_
 refine wpAnyH_done (by kernel_rfl) (NoPanic.normal ?_) _
 clear hHeld
 go_wp2_with (first | refine aU ?_ | (refine aL3S6p ?_;clear hL;intro w1 hL))
 exact bodyPost_ret (results_loc rfl hL rfl) rfl ⟨rfl,Loc.rem b2 (Loc.rem b3 hL)⟩
instance iMfs15:Ent 205:=Ent.of Tryz.func205 (by kernel_rfl) rfl
set_option maxRecDepth 100000 in
theorem signature_dead (hA:∀ x,At (F x) bc x 274) (hU:∀ x y,Ups (F x) bc y (F y)) (hL:Loc w0 w (F #[.slice p m cap,.bool true])) :
 Calls Tryz.prog 206 #[.pointer (some ⟨bc,0,none⟩)] w fun e w'=>e= .returned (.agg (rowB 64 fun _=>0))∧Loc w0 w' (F #[.slice p m cap,.bool true]):=by
 go_enter Tryz.func206,Tryz.ntmps206
 go_wp2_with (first | refine aU ?_ | ((with_reducible refine gS 2 ?_);refine aBp ?_;clear hL;intro b2 w1 hL) | ((with_reducible refine gS 3 ?_);refine aBp ?_;clear hL;intro b3 w1 hL) | (refine aL3S6p ?_;clear hL;intro w1 hL))
 refine wp_region_mix (S:=fun w'=>Loc _ w' _) 4 (by kernel_rfl) (by kernel_rfl) (hL.drew) (fun hHeld=>?_)
 replace hL:=hL.drew
 refine tg 0 hHeld ?_
 refine p7 ?_
 refine tg 1 hHeld ?_
 refine p7 ?_
 refine wpAnyH_ready (rs:=[2]) (by kernel_rfl) (by simp) ((AllReadyH.cons rfl (fun K hK=>?_) AllReadyH.nil))
 rw [if_pos (by rfl)]
 refine eCall rfl (by simp only [List.map_toArray,List.map_cons,List.map_nil];rfl) ((raw_dead (F:=fun x=>(b3,rowB 64 (fun _=>0),75) :: (b2,rowB 64 (fun _=>0),75) :: F x) (bc:=bc) (n:=64) hL).mono ?_)
 rintro e w1 ⟨rfl,hL1⟩;refine ⟨_,rfl,?_⟩
 (try dsimp only at hL1);(try simp only [Nat.reduceAdd,Nat.reduceSub] at hL1)
 clear hL;have hL:=hL1;clear hL1
 refine hK.out _ _ (hL) (fun hHeld2=>?_)
 clear hK K hHeld;have hHeld:=hHeld2;clear hHeld2
 refine p7 ?_
 refine wpAnyH_ready (rs:=[3]) (by kernel_rfl) (by simp) ((AllReadyH.cons rfl (fun K hK=>?_) AllReadyH.nil))
 rw [if_pos (by rfl)]
 refine eCopy0 hL rfl rfl rfl fun w1 hL1=>?_
 clear hL;have hL:=hL1;clear hL1
 refine hK.out _ _ (hL) (fun hHeld2=>?_)
 clear hK K hHeld;have hHeld:=hHeld2;clear hHeld2
 refine p7 ?_
 refine wpAnyH_done (by kernel_rfl) (NoPanic.normal ?_) _
 clear hHeld
 go_wp2_with (first | refine aU ?_ | (refine aL3S6p ?_;clear hL;intro w1 hL))
 exact bodyPost_ret (results_loc rfl hL rfl) rfl ⟨rfl,Loc.rem b2 (Loc.rem b3 hL)⟩
instance iMfs16:Ent 206:=Ent.of Tryz.func206 (by kernel_rfl) rfl
end
theorem zcMf:Tryz.zeroCells79=mfZ:=by kernel_rfl
set_option maxRecDepth 100000 in
set_option maxHeartbeats 1000000 in
theorem readMf_nil (w:World):Calls Tryz.prog 156 #[.slice none 0 0] w fun e w'=>e= .returned (.tuple #[.agg mfZ,.int .i64 4])∧Below w.heap.size w w':=by
 have hL:=Loc.nil w
 have hzc:=zcMf
 go_enter Tryz.func156,Tryz.ntmps156
 go_wp2_with (first | refine aU ?_ | ((with_reducible refine gS 2 ?_);refine aBp ?_;clear hL;intro b2 w1 hL) | ((with_reducible refine gS 6 ?_);refine aBp ?_;clear hL;intro b6 w1 hL) | ((with_reducible refine gC 8 ?_);go_loud (refine lCall rfl rfl ((packNew_nil _).mono ?_) rfl);rintro e w1 ⟨b8,rfl,hN⟩;refine ⟨_,rfl,?_⟩;have hL1:=hL.join hN;clear hN;(try simp only [List.cons_append,List.nil_append,List.append_assoc] at hL1);clear hL;have hL:=hL1;clear hL1;refine p4 ?_) | ((with_reducible refine gC 10 ?_);go_loud (refine lCall rfl rfl ((raw_bad (F:=fun x=>[(b8,x,274),(b2,mfZ,79)]) (bc:=b8) (n:=4) (by omega) hL).mono ?_) rfl);rintro e w1 ⟨rfl,hL1⟩;clear hL;revert hL1;refine aE ?_;intro hL) | ((with_reducible refine gS 11 ?_);refine lStr (l:=[]) hL rfl rfl rfl ?_;clear hL;intro w1 hL) | ((with_reducible refine gC 13 ?_);go_loud (refine lCall rfl rfl ((int_none (F:=fun x=>[(b8,x,274),(b2,mfZ,79)]) (bc:=b8) _ _ (fun w1 h=>raw_dead (F:=fun x=>[(b8,x,274),(b2,mfZ,79)]) (bc:=b8) (n:=8) h) hL).mono ?_) rfl);rintro e w1 ⟨rfl,hL1⟩;clear hL;revert hL1;refine aE ?_;intro hL) | ((with_reducible show wpList _ _ _ (⟨some 14,.build _ _,_,_,_,_⟩ :: _) _ _);refine lU hL rfl rfl (build_mf1 _) rfl ?_;clear hL;intro w1 hL;refine p4 ?_) | ((with_reducible refine gC 16 ?_);go_loud (refine lCall rfl rfl ((int_none (F:=fun x=>(b6,mfZ,79) :: [(b8,x,274),(b2,mfZ,79)]) (bc:=b8) _ _ (fun w1 h=>raw_dead (F:=fun x=>(b6,mfZ,79) :: [(b8,x,274),(b2,mfZ,79)]) (bc:=b8) (n:=8) h) hL).mono ?_) rfl);rintro e w1 ⟨rfl,hL1⟩;clear hL;revert hL1;refine aE ?_;intro hL) | ((with_reducible refine gC 19 ?_);go_loud (refine lCall rfl rfl ((num_dead (F:=fun x=>(b6,mfZ,79) :: [(b8,x,274),(b2,mfZ,79)]) (bc:=b8) (fun x=>inferInstance) (fun x y=>inferInstance) hL).mono ?_) rfl);rintro e w1 ⟨rfl,hL1⟩;clear hL;revert hL1;refine aE ?_;intro hL) | ((with_reducible refine gC 22 ?_);go_loud (refine lCall rfl rfl ((raw_dead (F:=fun x=>(b6,mfZ,79) :: [(b8,x,274),(b2,mfZ,79)]) (bc:=b8) (n:=80) hL).mono ?_) rfl);rintro e w1 ⟨rfl,hL1⟩;clear hL;revert hL1;refine aE ?_;intro hL) | ((with_reducible refine gC 25 ?_);go_loud (refine lCall rfl rfl ((int_none (F:=fun x=>(b6,mfZ,79) :: [(b8,x,274),(b2,mfZ,79)]) (bc:=b8) _ _ (fun w1 h=>raw_dead (F:=fun x=>(b6,mfZ,79) :: [(b8,x,274),(b2,mfZ,79)]) (bc:=b8) (n:=8) h) hL).mono ?_) rfl);rintro e w1 ⟨rfl,hL1⟩;clear hL;revert hL1;refine aE ?_;intro hL) | ((with_reducible refine gC 29 ?_);go_loud (refine lCall rfl rfl ((num_dead (F:=fun x=>(b6,mfZ,79) :: [(b8,x,274),(b2,mfZ,79)]) (bc:=b8) (fun x=>inferInstance) (fun x y=>inferInstance) hL).mono ?_) rfl);rintro e w1 ⟨rfl,hL1⟩;clear hL;revert hL1;refine aE ?_;intro hL) | ((with_reducible refine gC 33 ?_);go_loud (refine lCall rfl rfl ((signature_dead (F:=fun x=>(b6,mfZ,79) :: [(b8,x,274),(b2,mfZ,79)]) (bc:=b8) (fun x=>inferInstance) (fun x y=>inferInstance) hL).mono ?_) rfl);rintro e w1 ⟨rfl,hL1⟩;clear hL;revert hL1;refine aE ?_;intro hL) | ((with_reducible refine gC 37 ?_);go_loud (refine lCall rfl rfl ((signature_dead (F:=fun x=>(b6,mfZ,79) :: [(b8,x,274),(b2,mfZ,79)]) (bc:=b8) (fun x=>inferInstance) (fun x y=>inferInstance) hL).mono ?_) rfl);rintro e w1 ⟨rfl,hL1⟩;clear hL;revert hL1;refine aE ?_;intro hL) | ((with_reducible refine gC 40 ?_);go_loud (refine lCall rfl rfl ((end_any (F:=fun x=>(b6,mfZ,79) :: [(b8,x,274),(b2,mfZ,79)]) (bc:=b8) hL).mono ?_) rfl);rintro e w1 ⟨rfl,hL1⟩;clear hL;revert hL1;refine aE ?_;intro hL) | ((with_reducible show wpList _ _ _ (⟨some 51,.build _ _,_,_,_,_⟩ :: _) _ _);refine lU hL rfl rfl (build_mf0 _) rfl ?_;clear hL;intro w1 hL;refine p4 ?_) | (refine aL3S6p ?_;clear hL;intro w1 hL))
 exact bodyPost_ret (results_loc2 rfl hL rfl rfl) rfl ⟨rfl,hL.bel⟩
set_option maxRecDepth 100000 in
set_option maxHeartbeats 1000000 in
theorem readMf_short (v:Value) (l:List (BitVec 8)) (w:World) (hv:BRow w v l) (h0:0<l.length) (h4:l.length<4):Calls Tryz.prog 156 #[v] w fun e w'=>e= .returned (.tuple #[.agg mfZ,.int .i64 4])∧Below w.heap.size w w':=by
 have hL:=Loc.nil w
 haveI hA:Arg w v (encB l):=⟨hv.vrow⟩
 have HN:=Lib.hid (fun w1 (h:BRow w1 v l)=>packNew_any v l w1 h h0 (by omega))
 clear hv
 have hzc:=zcMf
 go_enter Tryz.func156,Tryz.ntmps156
 go_wp2_with (first | refine aU ?_ | ((with_reducible refine gS 2 ?_);refine aBp ?_;clear hL;intro b2 w1 hL) | ((with_reducible refine gS 6 ?_);refine aBp ?_;clear hL;intro b6 w1 hL) | ((with_reducible refine gC 8 ?_);go_loud (refine lCall rfl rfl ((HN.out _ (See.bytes hL)).mono ?_) rfl);rintro e w1 ⟨b8,g8,cap8,cur8,rfl,hr8,hN⟩;refine ⟨_,rfl,?_⟩;have hL1:=hL.join hN;clear hN;(try simp only [List.cons_append,List.nil_append,List.append_assoc] at hL1);clear hL;have hL:=hL1;clear hL1;refine p4 ?_) | ((with_reducible refine gC 10 ?_);go_loud (refine lCall rfl rfl ((raw_bad (F:=fun x=>[(b8,x,274),(g8,cur8,5),(b2,mfZ,79)]) (bc:=b8) (n:=4) (by omega) hL).mono ?_) rfl);rintro e w1 ⟨rfl,hL1⟩;clear hL;revert hL1;refine aE ?_;intro hL) | ((with_reducible refine gS 11 ?_);refine lStr (l:=[]) hL rfl rfl rfl ?_;clear hL;intro w1 hL) | ((with_reducible refine gC 13 ?_);go_loud (refine lCall rfl rfl ((int_none (F:=fun x=>[(b8,x,274),(g8,cur8,5),(b2,mfZ,79)]) (bc:=b8) _ _ (fun w1 h=>raw_dead (F:=fun x=>[(b8,x,274),(g8,cur8,5),(b2,mfZ,79)]) (bc:=b8) (n:=8) h) hL).mono ?_) rfl);rintro e w1 ⟨rfl,hL1⟩;clear hL;revert hL1;refine aE ?_;intro hL) | ((with_reducible show wpList _ _ _ (⟨some 14,.build _ _,_,_,_,_⟩ :: _) _ _);refine lU hL rfl rfl (build_mf1 _) rfl ?_;clear hL;intro w1 hL;refine p4 ?_) | ((with_reducible refine gC 16 ?_);go_loud (refine lCall rfl rfl ((int_none (F:=fun x=>(b6,mfZ,79) :: [(b8,x,274),(g8,cur8,5),(b2,mfZ,79)]) (bc:=b8) _ _ (fun w1 h=>raw_dead (F:=fun x=>(b6,mfZ,79) :: [(b8,x,274),(g8,cur8,5),(b2,mfZ,79)]) (bc:=b8) (n:=8) h) hL).mono ?_) rfl);rintro e w1 ⟨rfl,hL1⟩;clear hL;revert hL1;refine aE ?_;intro hL) | ((with_reducible refine gC 19 ?_);go_loud (refine lCall rfl rfl ((num_dead (F:=fun x=>(b6,mfZ,79) :: [(b8,x,274),(g8,cur8,5),(b2,mfZ,79)]) (bc:=b8) (fun x=>inferInstance) (fun x y=>inferInstance) hL).mono ?_) rfl);rintro e w1 ⟨rfl,hL1⟩;clear hL;revert hL1;refine aE ?_;intro hL) | ((with_reducible refine gC 22 ?_);go_loud (refine lCall rfl rfl ((raw_dead (F:=fun x=>(b6,mfZ,79) :: [(b8,x,274),(g8,cur8,5),(b2,mfZ,79)]) (bc:=b8) (n:=80) hL).mono ?_) rfl);rintro e w1 ⟨rfl,hL1⟩;clear hL;revert hL1;refine aE ?_;intro hL) | ((with_reducible refine gC 25 ?_);go_loud (refine lCall rfl rfl ((int_none (F:=fun x=>(b6,mfZ,79) :: [(b8,x,274),(g8,cur8,5),(b2,mfZ,79)]) (bc:=b8) _ _ (fun w1 h=>raw_dead (F:=fun x=>(b6,mfZ,79) :: [(b8,x,274),(g8,cur8,5),(b2,mfZ,79)]) (bc:=b8) (n:=8) h) hL).mono ?_) rfl);rintro e w1 ⟨rfl,hL1⟩;clear hL;revert hL1;refine aE ?_;intro hL) | ((with_reducible refine gC 29 ?_);go_loud (refine lCall rfl rfl ((num_dead (F:=fun x=>(b6,mfZ,79) :: [(b8,x,274),(g8,cur8,5),(b2,mfZ,79)]) (bc:=b8) (fun x=>inferInstance) (fun x y=>inferInstance) hL).mono ?_) rfl);rintro e w1 ⟨rfl,hL1⟩;clear hL;revert hL1;refine aE ?_;intro hL) | ((with_reducible refine gC 33 ?_);go_loud (refine lCall rfl rfl ((signature_dead (F:=fun x=>(b6,mfZ,79) :: [(b8,x,274),(g8,cur8,5),(b2,mfZ,79)]) (bc:=b8) (fun x=>inferInstance) (fun x y=>inferInstance) hL).mono ?_) rfl);rintro e w1 ⟨rfl,hL1⟩;clear hL;revert hL1;refine aE ?_;intro hL) | ((with_reducible refine gC 37 ?_);go_loud (refine lCall rfl rfl ((signature_dead (F:=fun x=>(b6,mfZ,79) :: [(b8,x,274),(g8,cur8,5),(b2,mfZ,79)]) (bc:=b8) (fun x=>inferInstance) (fun x y=>inferInstance) hL).mono ?_) rfl);rintro e w1 ⟨rfl,hL1⟩;clear hL;revert hL1;refine aE ?_;intro hL) | ((with_reducible refine gC 40 ?_);go_loud (refine lCall rfl rfl ((end_any (F:=fun x=>(b6,mfZ,79) :: [(b8,x,274),(g8,cur8,5),(b2,mfZ,79)]) (bc:=b8) hL).mono ?_) rfl);rintro e w1 ⟨rfl,hL1⟩;clear hL;revert hL1;refine aE ?_;intro hL) | ((with_reducible show wpList _ _ _ (⟨some 51,.build _ _,_,_,_,_⟩ :: _) _ _);refine lU hL rfl rfl (build_mf0 _) rfl ?_;clear hL;intro w1 hL;refine p4 ?_) | (refine aL3S6p ?_;clear hL;intro w1 hL))
 exact bodyPost_ret (results_loc2 rfl hL rfl rfl) rfl ⟨rfl,hL.bel⟩
instance iMfs17:Ent 156:=Ent.of Tryz.func156 (by kernel_rfl) rfl
end Go.Proofs.YtoifhhljfaoejaaGreatDoor
