/-
  Lemmas of the law, part 29: the walks of the functions that it calls and the plain facts about them. No condition beyond those written.
-/
import Derived.Lib.SlBytesConst
import Derived.Test.YtoifhhljfaoejaaGreatDoorPkBB
import Derived.Test.YtoifhhljfaoejaaGreatDoorPkAA
import Derived.Test.YtoifhhljfaoejaaGreatDoorPkAZ
namespace Go.Proofs.YtoifhhljfaoejaaGreatDoor
open Go.RowKit
set_option linter.unusedVariables false
theorem brow_num {w:World} {g c:Nat} {f:Nat→BitVec 8} {t:TypeId} {fr:Nat×Nat} (h:w.heap[g]?=some (.cells (rowB 32 f) t fr)):BRow w (.slice (some ⟨g,0,none⟩) 32 c) ((List.range 32).map f) :=
 ⟨_,c,rfl,(fun hc=>by cases hc),fun _=>⟨g,0,rfl,(Array.getElem?_eq_some_iff.1 h).1,fun i hi=>by
  have hi':i<32:=by simpa using hi
  rw [Nat.zero_add,cell_rowB h hi']
  simp⟩⟩
theorem brow_mk {w:World} {g c:Nat} {t:TypeId} {fr:Nat×Nat} (l:List (BitVec 8)) (h:w.heap[g]?=some (.cells (l.map fun x=>Value.int .u8 (B8 x)).toArray t fr)):BRow w (.slice (some ⟨g,0,none⟩) l.length c) l :=
 ⟨_,c,rfl,(fun hc=>by cases hc),fun _=>⟨g,0,rfl,(Array.getElem?_eq_some_iff.1 h).1,fun i hi=>by
  rw [Nat.zero_add,cell_of_row w g _ _ _ _ h]
  simp [hi]⟩⟩
theorem brows_mk {w:World} {g c:Nat} {t:TypeId} {fr:Nat×Nat} (vs:List Value) (ms:List (List (BitVec 8))) (h:w.heap[g]?=some (.cells vs.toArray t fr)) (hl:vs.length=ms.length)
 (hb:∀ (i:Nat) (h:i<ms.length),BRow w (vs[i]'(by omega)) ms[i]):BRows w (.slice (some ⟨g,0,none⟩) ms.length c) ms :=
 ⟨_,c,rfl,(fun hc=>by cases hc),fun _=>⟨g,0,rfl,(Array.getElem?_eq_some_iff.1 h).1,fun i hi=>by
  refine ⟨vs[i]'(by omega),?_,hb i hi⟩
  rw [Nat.zero_add,cell_of_row w g _ _ _ _ h]
  simp [show i<vs.length by omega]⟩⟩
theorem brows_one {w:World} {g c:Nat} {t:TypeId} {fr:Nat×Nat} {v:Value} {m:List (BitVec 8)} (h:w.heap[g]?=some (.cells #[v] t fr)) (hb:BRow w v m):BRows w (.slice (some ⟨g,0,none⟩) 1 c) [m] :=
 brows_mk [v] [m] h rfl fun i hi=>by
  obtain rfl:i=0:=by simpa using hi
  exact hb
theorem brows_two {w:World} {g c:Nat} {t:TypeId} {fr:Nat×Nat} {v0 v1:Value} {m0 m1:List (BitVec 8)} (h:w.heap[g]?=some (.cells #[v0,v1] t fr)) (h0:BRow w v0 m0) (h1:BRow w v1 m1):BRows w (.slice (some ⟨g,0,none⟩) 2 c) [m0,m1] :=
 brows_mk [v0,v1] [m0,m1] h rfl fun i hi=>by
  have:i=0∨i=1:=by simp at hi;omega
  rcases this with rfl | rfl
  ·exact h0
  ·exact h1
theorem brows_three {w:World} {g c:Nat} {t:TypeId} {fr:Nat×Nat} {v0 v1 v2:Value} {m0 m1 m2:List (BitVec 8)} (h:w.heap[g]?=some (.cells #[v0,v1,v2] t fr)) (h0:BRow w v0 m0) (h1:BRow w v1 m1) (h2:BRow w v2 m2):BRows w (.slice (some ⟨g,0,none⟩) 3 c) [m0,m1,m2] :=
 brows_mk [v0,v1,v2] [m0,m1,m2] h rfl fun i hi=>by
  have:i=0∨i=1∨i=2:=by simp at hi;omega
  rcases this with rfl | rfl | rfl
  ·exact h0
  ·exact h1
  ·exact h2
theorem below_keep {W w' w1:World} (h:Below W.heap.size W w') (hb:Below w'.heap.size w' w1):Below W.heap.size W w1:=h.trans (hb.mono h.size)
theorem below_allocS {W w':World} (h:Below W.heap.size W w') (o:Obj):Below W.heap.size W (w'.alloc o):=h.alloc h.size o
theorem sum_one (v:Value) (m:List (BitVec 8)) (w:World) (hv:BRows w v [m]) (hm:m.length≤1000000000) :
 Calls Tryz.prog 224 #[v] w fun e w'=>e= .returned (.agg (rowB 32 (sha m)))∧Below w.heap.size w w':=by
 have:=sum_any v [m] w hv (by simp) (by simpa using hm)
 simpa using this
theorem sum_two (v:Value) (m0 m1:List (BitVec 8)) (w:World) (hv:BRows w v [m0,m1]) (hm:m0.length+m1.length≤1000000000) :
 Calls Tryz.prog 224 #[v] w fun e w'=>e= .returned (.agg (rowB 32 (sha (m0 ++ m1))))∧Below w.heap.size w w':=by
 have:=sum_any v [m0,m1] w hv (by simp) (by simpa using hm)
 simpa using this
theorem brow_row {w:World} {g n c:Nat} {f:Nat→BitVec 8} {t:TypeId} {fr:Nat×Nat} (h:w.heap[g]?=some (.cells (rowB n f) t fr)):BRow w (.slice (some ⟨g,0,none⟩) n c) ((List.range n).map f) :=
 ⟨some ⟨g,0,none⟩,c,by rw [List.length_map,List.length_range],(fun hc=>by cases hc),fun _=>⟨g,0,rfl,(Array.getElem?_eq_some_iff.1 h).1,fun i hi=>by
  have hi':i<n:=by simpa using hi
  rw [Nat.zero_add,cell_rowB h hi']
  simp⟩⟩
end Go.Proofs.YtoifhhljfaoejaaGreatDoor
namespace Go.Proofs.YtoifhhljfaoejaaGreatDoor
open Go Go.RowKit
set_option linter.unusedVariables false
set_option linter.unusedSimpArgs false
set_option maxRecDepth 100000 in
set_option maxHeartbeats 2000000 in
theorem parts_any (f:Nat→BitVec 8) (w:World) [hG:Glob w]:Calls Tryz.prog 74 #[.agg (rowB 32 f)] w fun e w' =>
 ∃ (g cap:Nat) (cur:Array Value),e= .returned (.tuple #[.agg (rowB 32 (byteN (secN (listB 32 f)))),.slice (some ⟨g,0,none⟩) 32 cap])∧OwnR cur 32 cap (encB (tailL (listB 32 f)))∧w.heap.size≤g∧w'.heap[g]?=some (.cells cur 5 (0,0))∧Below w.heap.size w w':=by
 have hL:=Loc.nil w
 obtain ⟨L,hl⟩:∃ L,L=listB 32 f:=⟨_,rfl⟩
 have HS:=Lib.hid (fun w1 (hg:Glob w1) (v:Value) (hv:BRow w1 v (listB 32 f))=>Shb.refShb_any v (listB 32 f) w1 hv (by rw [listB_length];omega) (by rw [listB_length];omega))
 obtain ⟨H,hH⟩:∃ H,H=Shb.sha (listB 32 f):=⟨_,rfl⟩
 rw [← hH] at HS
 have HT:=Lib.hid (show encB (listB 32 fun i=>H (32+i))=encB (tailL (listB 32 f)) from by rw [hH];rfl)
 have HC:=Lib.hid (show clampN (leN H)=secN (listB 32 f) from by rw [hH];rfl)
 rw [← HT.out,← HC.out]
 clear hH HT HC hl L
 haveI s1:Seg (rowB 64 H) 0 32 (encB (listB 32 fun i=>H (0+i))):=segB H 0 32 (by omega)
 haveI s2:Seg (rowB 64 H) 32 32 (encB (listB 32 fun i=>H (32+i))):=segB H 32 32 (by omega)
 haveI p1:Spl (rowB 32 fun _=>0) 0 (encB (listB 32 fun i=>H (0+i))) (rowB 32 H):=splB (m:=32) _ _ _ (by omega) fun i hi=>by rw [if_pos ⟨by omega,by omega⟩];simp
 have hlen:(encB (listB 32 fun i=>H (0+i))).length=32:=by rw [encB_length,listB_length]
 go_enter Tryz.func74,Tryz.ntmps74
 go_wp2_with (first | ((with_reducible refine gS 1 ?_);refine aBp ?_;clear hL;intro b1 w1 hL) | ((with_reducible refine gS 2 ?_);refine aBp ?_;clear hL;intro b2 w1 hL) | (go_at_call 126;go_loud (refine (HS.out _ (hL.glob hG) _ (See.bytes hL)).mono ?_);rintro e w1 ⟨rfl,hb1⟩;have hL1:=hL.keep hb1;clear hb1;clear hL;have hL:=hL1;clear hL1;refine p4 ?_) | ((with_reducible refine gS 4 ?_);refine aBp ?_;clear hL;intro b4 w1 hL) | ((with_reducible refine gS 5 ?_);refine aBp ?_;clear hL;intro b5 w1 hL) | (refine aL4S2C9p ?_;clear hL;intro w1 hL) | (refine aX1A1p ?_;clear hL;intro b w1 hL))
 refine wp_region_mix (S:=fun w'=>Loc w w' _) 3 (by kernel_rfl) (by kernel_rfl) (Loc.rem b5 (hL.drew)) (fun hHeld=>?_)
 replace hL:=hL.drew
 refine tk 0 (v:=?_) rfl (Or.inl ⟨by rfl,?_⟩) hHeld ?_
 rotate_left
 ·(intro w hSw;go_simp;first | done | with_reducible rfl)
 refine p7 ?_
 refine tk 1 (v:=?_) rfl (Or.inl ⟨by rfl,?_⟩) hHeld ?_
 rotate_left
 ·(intro w hSw;go_simp;first | done | with_reducible rfl)
 refine p7 ?_
 refine wpAnyH_ready (rs:=[2]) (by kernel_rfl) (by simp) ((AllReadyH.cons rfl (fun K hK=>?_) AllReadyH.nil))
 rw [if_pos (by rfl)]
 refine eCopy hL rfl rfl rfl (by first | omega | (simp;omega) | simp) (by first | omega | (simp;omega) | simp) fun w1 hL1=>?_
 clear hL;have hL:=hL1;clear hL1
 refine hK.out _ _ (Loc.rem b5 (hL)) (fun hHeld2=>?_)
 clear hK K hHeld
 have hHeld:=hHeld2
 clear hHeld2
 refine p7 ?_
 refine wpAnyH_done (by kernel_rfl) (NoPanic.normal ?_) _
 go_wp2_with (first | (refine aL4S2C9p ?_;clear hL;intro w1 hL) | (refine aX1A1p ?_;clear hL;intro b w1 hL))
 refine wp_region_mix (S:=fun w'=>Loc w w' _) 6 (by kernel_rfl) (by kernel_rfl) (Loc.rem b2 (hL.drew)) (fun hHeld=>?_)
 replace hL:=hL.drew
 first | refine tk 0 rfl (yL rfl rfl rfl) hHeld ?_ | refine tk 0 rfl (yI rfl rfl rfl) hHeld ?_ | refine tk 0 rfl (yW rfl rfl rfl) hHeld ?_
 refine p7 ?_
 refine tk 2 (v:=?_) rfl (Or.inl ⟨by rfl,?_⟩) hHeld ?_
 rotate_left
 ·(intro w hSw;go_simp;first | done | with_reducible rfl)
 refine p7 ?_
 refine wpAnyH_ready (rs:=[1]) (by kernel_rfl) (by simp) ((AllReadyH.cons rfl (fun K hK=>?_) AllReadyH.nil))
 rw [if_pos (by rfl)]
 first | refine eC2 hL rfl rfl rfl fun w1 hL1=>?_ | refine eC1 hL rfl rfl fun w1 hL1=>?_ | refine eC0 hL rfl fun w1 hL1=>?_ | refine eG2 hL rfl rfl rfl fun w1 hL1=>?_ | refine eG1 hL rfl rfl fun w1 hL1=>?_ | refine eG0 hL rfl fun w1 hL1=>?_
 clear hL;have hL:=hL1;clear hL1
 refine hK.out _ _ (Loc.rem b2 (hL)) (fun hHeld2=>?_)
 clear hK K hHeld
 have hHeld:=hHeld2
 clear hHeld2
 refine p7 ?_
 refine wpAnyH_ready (rs:=[3]) (by kernel_rfl) (by simp) ((AllReadyH.cons rfl (fun K hK=>?_) AllReadyH.nil))
 rw [if_pos (by rfl)]
 refine eAppBN hL rfl rfl rfl (by first | omega | (simp;omega) | simp) (by first | omega | (simp;omega) | simp) fun g14 cap14 cur14 w1 hr14 hL1=>?_
 clear hL;have hL:=hL1;clear hL1
 refine hK.out _ _ (Loc.rem b2 (hL.pop)) (fun hHeld2=>?_)
 clear hK K hHeld
 have hHeld:=hHeld2
 clear hHeld2
 refine p7 ?_
 refine wpAnyH_ready (rs:=[4]) (by kernel_rfl) (by simp) ((AllReadyH.cons rfl (fun K hK=>?_) AllReadyH.nil))
 rw [if_pos (by rfl)]
 refine eS hL rfl rfl rfl fun w1 hL1=>?_
 clear hL;have hL:=hL1;clear hL1
 refine hK.out _ _ (Loc.rem b2 (hL.pop)) (fun hHeld2=>?_)
 clear hK K hHeld
 have hHeld:=hHeld2
 clear hHeld2
 refine p7 ?_
 refine wpAnyH_ready (rs:=[5]) (by kernel_rfl) (by simp) ((AllReadyH.cons rfl (fun K hK=>?_) AllReadyH.nil))
 rw [if_pos (by rfl)]
 refine eV hL rfl fun w1 hL1=>?_
 clear hL;have hL:=hL1;clear hL1
 refine hK.out _ _ (Loc.rem b2 (hL.pop)) (fun hHeld2=>?_)
 clear hK K hHeld
 have hHeld:=hHeld2
 clear hHeld2
 refine p7 ?_
 refine wpAnyH_done (by kernel_rfl) (NoPanic.normal ?_) _
 go_wp2_with (first | (refine aL4S2C9p ?_;clear hL;intro w1 hL) | (refine aX1A1p ?_;clear hL;intro b w1 hL))
 refine bodyPost_ret (results_loc2 rfl hL rfl rfl) rfl ?_
 exact ⟨g14,cap14,cur14,rfl,hr14,hL.ge (List.Mem.head _),hL.get (List.Mem.head _),hL.bel⟩
theorem many_bytes {n:Nat} (h:n<2 ^ 256):exbytes (R3.Pe.B.many n).ex=enc (pmul n pB):=by
 rw [R3.Pe.many_ex,R3.Pe.B_ex]
 exact bytes_times on_B h
set_option maxRecDepth 100000 in
set_option maxHeartbeats 2000000 in
theorem public_any (f:Nat→BitVec 8) (w:World) [hG:Glob w]:Calls Tryz.prog 31 #[.agg (rowB 32 f)] w fun e w'=>e= .returned (.agg (rowB 32 (byteN (pubN (listB 32 f)))))∧Below w.heap.size w w':=by
 have hL:=Loc.nil w
 have HP:=Lib.hid (fun w1 (hg:Glob w1)=>parts_any f w1)
 have HE:=Lib.hid (show exbytes (R3.Pe.B.many (leN (byteN (secN (listB 32 f))))).ex=pubN (listB 32 f) from by
  have h:=clampN_lt (leN (Shb.sha (listB 32 f)))
  rw [leN_byteN (n:=secN (listB 32 f)) h]
  exact many_bytes h)
 rw [← HE.out]
 clear HE
 generalize byteN (secN (listB 32 f))=sec at *
 generalize tailL (listB 32 f)=tl at *
 go_enter Tryz.func31,Tryz.ntmps31
 go_wp2_with (first | ((with_reducible refine gS 1 ?_);refine aBp ?_;clear hL;intro b1 w1 hL) | ((with_reducible refine gS 2 ?_);refine aBp ?_;clear hL;intro b2 w1 hL) | ((with_reducible refine gS 3 ?_);refine aBp ?_;clear hL;intro b3 w1 hL) | ((go_at_call 74;go_loud (refine (HP.out _ (hL.glob hG)).mono ?_);rintro e w1 ⟨g7,cap7,cur7,rfl,hr7,hg7,hc7,hb7⟩;have hL1:=hL.fresh hb7 hg7 hc7;clear hb7 hg7 hc7;clear hL;have hL:=hL1;clear hL1)) | (refine aL4S2C9p ?_;clear hL;intro w1 hL) | (refine aX1A1p ?_;clear hL;intro b w1 hL))
 refine wp_region_free [(0,false),(1,false),(2,false),(3,false)] [] [4] (by kernel_rfl) (by kernel_rfl) trivial hL ?_
 refine pF ?_
 repeat refine rS ?_
 refine seqO_nil ?_
 refine seqM_nil fun w1 hL1=>?_
 simp only [List.cons_append,List.nil_append] at hL1
 clear hL;have hL:=hL1;clear hL1
 refine p4 ?_
 refine pG ?_
 repeat (refine rW ?_;clear hL;intro w1 hL)
 refine wpList_nil (NoPanic.normal ?_)
 go_wp2_with fail
 exact bodyPost_ret (results_loc rfl hL rfl) rfl ⟨rfl,hL.bel⟩
instance iSgV2:Ent 31:=Ent.of Tryz.func31 (by kernel_rfl) rfl
theorem Loc.at_ {w0 w:World} {M:Mem} (h:Loc w0 w M) (b:Nat) {r:Array Value} {t:TypeId} [hm:At M b r t]:w.heap[b]?=some (.cells r t (0,0)):=h.get hm.mem
noncomputable def sigF (seed m:List (BitVec 8)):Nat→BitVec 8:=fun i=>if i<32 then byteN (atN seed m) i else byteN (sigS seed m) (i - 32)
theorem flat2 (a b:List (BitVec 8)):[a,b].flatten=a ++ b:=by simp
theorem flat3 (a b c:List (BitVec 8)):[a,b,c].flatten=a ++ b ++ c:=by simp
set_option maxRecDepth 100000 in
set_option maxHeartbeats 4000000 in
theorem sign_any (f:Nat→BitVec 8) (v:Value) (m:List (BitVec 8)) (w:World) [hG:Glob w] (hv:BRow w v m) (hm:m.length≤1000000) :
 Calls Tryz.prog 81 #[.agg (rowB 32 f),v] w fun e w'=>e= .returned (.agg (rowB 64 (sigF (listB 32 f) m)))∧Below w.heap.size w w':=by
 have hL:=Loc.nil w
 haveI hA:Arg w v (encB m):=⟨hv.vrow⟩
 have HP:=Lib.hid (fun w1 (hg:Glob w1)=>parts_any f w1)
 have HPUB:=Lib.hid (fun w1 (hg:Glob w1)=>public_any f w1)
 have hsec:=clampN_lt (leN (Shb.sha (listB 32 f)))
 have htl:(tailL (listB 32 f)).length=32:=by simp [tailL,numL]
 obtain ⟨R,hR⟩:∃ R,R=sigR (listB 32 f) m:=⟨_,rfl⟩
 obtain ⟨T,hT⟩:∃ T,T=atN (listB 32 f) m:=⟨_,rfl⟩
 obtain ⟨PK,hPK⟩:∃ PK,PK=pubN (listB 32 f):=⟨_,rfl⟩
 obtain ⟨KK,hKK⟩:∃ KK,KK=sigK PK T m:=⟨_,rfl⟩
 obtain ⟨SS,hSS⟩:∃ SS,SS=sigS (listB 32 f) m:=⟨_,rfl⟩
 have HW1:=Lib.hid (fun w1 (hg:Glob w1) (u:Value) (hu:BRows w1 u [tailL (listB 32 f),m])=>(wide_any u [tailL (listB 32 f),m] w1 hu ⟨_,_,rfl,by rw [htl];omega⟩ (by simp) (by rw [flat2,List.length_append,htl];omega)))
 rw [flat2,show wideN (tailL (listB 32 f) ++ m)=R from hR.symm] at HW1
 have HW2:=Lib.hid (fun w1 (hg:Glob w1) (u:Value) (hu:BRows w1 u [listB 32 (byteN T),listB 32 (byteN PK),m])=>(wide_any u [listB 32 (byteN T),listB 32 (byteN PK),m] w1 hu ⟨_,_,rfl,by rw [listB_length];omega⟩ (by simp) (by rw [flat3,List.length_append,List.length_append,listB_length,listB_length];omega)))
 rw [flat3,show wideN (listB 32 (byteN T) ++ listB 32 (byteN PK) ++ m)=KK from hKK.symm] at HW2
 have HAT:=Lib.hid (show exbytes (R3.Pe.B.many (leN (byteN R))).ex=T from by
  have h:=wideN_lt (tailL (listB 32 f) ++ m)
  rw [hR,leN_byteN (n:=sigR (listB 32 f) m) h,many_bytes (n:=sigR (listB 32 f) m) h,hT];rfl)
 have HSS:=Lib.hid (show (leN (byteN R)+leN (byteN (leN (byteN KK)*leN (byteN (secN (listB 32 f))) % Qo))) % Qo=SS from by
  have h1:R<2 ^ 256:=by rw [hR];exact wideN_lt _
  have h2:KK<2 ^ 256:=by rw [hKK];exact wideN_lt _
  have h3:secN (listB 32 f)<2 ^ 256:=hsec
  rw [leN_byteN h1,leN_byteN h2,leN_byteN h3,leN_byteN (Nat.lt_trans (Nat.mod_lt _ Qo_pos) Qo_256),hSS,hKK,hPK,hT,hR];rfl)
 have HOUT:=Lib.hid (show rowB 64 (fun i=>if i<32 then byteN T i else byteN SS (i - 32))=rowB 64 (sigF (listB 32 f) m) from by rw [hT,hSS];rfl)
 rw [← HOUT.out]
 rw [← hPK] at HPUB
 clear hsec hR hT hPK hKK hSS HOUT
 generalize byteN (secN (listB 32 f))=sec at *
 haveI f1:FnG 31 #[.agg (rowB 32 f)] (.agg (rowB 32 (byteN PK))):=⟨HPUB.out⟩
 clear HPUB
 generalize tailL (listB 32 f)=tl at *
 haveI f2:FnC 75 #[.agg (R3.rowPe (R3.Pe.B.many (leN (byteN R))))] (.agg (rowB 32 (byteN T))):=by
  rw [← HAT.out];infer_instance
 haveI f3:FnG 134 #[.agg (rowB 32 (byteN R)),.agg (rowB 32 (byteN (leN (byteN KK)*leN sec % Qo)))] (.agg (rowB 32 (byteN SS))):=by
  rw [← HSS.out];infer_instance
 haveI p1:Spl (rowB 64 fun _=>0) 0 (encB (listB 32 (byteN T))) (rowB 64 fun i=>if i<32 then byteN T i else 0):=splB (m:=32) _ _ _ (by omega) fun i hi=>by
  by_cases h:i<32
  ·rw [if_pos ⟨by omega,by omega⟩,if_pos h];rfl
  ·rw [if_neg (by omega),if_neg h]
 haveI p2:Spl (rowB 64 fun i=>if i<32 then byteN T i else 0) 32 (encB (listB 32 (byteN SS))) (rowB 64 fun i=>if i<32 then byteN T i else byteN SS (i - 32)):=splB (m:=32) _ _ _ (by omega) fun i hi=>by
  by_cases h:i<32
  ·rw [if_neg (by omega),if_pos h,if_pos h]
  ·rw [if_pos ⟨by omega,by omega⟩,if_neg h]
 have hl1:(encB (listB 32 (byteN T))).length=32:=by rw [encB_length,listB_length]
 have hl2:(encB (listB 32 (byteN SS))).length=32:=by rw [encB_length,listB_length]
 obtain ⟨a,c,rfl,_,_⟩:=hv
 clear HAT HSS
 go_enter Tryz.func81,Tryz.ntmps81
 go_wp2_with (first | ((with_reducible refine gS 2 ?_);refine aBp ?_;clear hL;intro b2 w1 hL) | ((with_reducible refine gS 4 ?_);refine aBp ?_;clear hL;intro b4 w1 hL) | ((with_reducible refine gS 5 ?_);refine aBp ?_;clear hL;intro b5 w1 hL) | ((with_reducible refine gS 7 ?_);refine aBp ?_;clear hL;intro b7 w1 hL) | ((go_at_call 74;go_loud (refine (HP.out _ (hL.glob hG)).mono ?_);rintro e w1 ⟨g15,cap15,cur15,rfl,hr15,hg15,hc15,hb15⟩;have hL1:=hL.fresh hb15 hg15 hc15;clear hb15 hg15 hc15;clear hL;have hL:=hL1;clear hL1)) | ((with_reducible show wpList _ _ _ (⟨some 20,.buildSlice _ _ _,_,_,_,_⟩ :: _) _ _);(first | refine lBS1i hL rfl rfl rfl fun b20 w1 hL1=>?_ | refine lBS1s hL rfl rfl rfl fun b20 w1 hL1=>?_ | refine lBS2s hL rfl rfl rfl rfl fun b20 w1 hL1=>?_ | refine lBS3s hL rfl rfl rfl rfl rfl fun b20 w1 hL1=>?_);clear hL;have hL:=hL1;clear hL1;refine p4 ?_) | (go_at_call 124;go_loud (refine (HW1.out _ (hL.glob hG) _ (brows_two (hL.get (List.Mem.head _)) (See.bytes hL) (See.bytes hL))).mono ?_);rintro e w1 ⟨rfl,hb1⟩;have hL1:=hL.keep hb1;clear hb1;clear hL;have hL:=hL1;clear hL1;refine p4 ?_) | (refine aL4S2C9p ?_;clear hL;intro w1 hL) | (refine aX1A1p ?_;clear hL;intro b w1 hL))
 refine wp_region_free [(0,false),(1,false),(2,false),(3,false)] [(4,_,24)] [5] (by kernel_rfl) (by kernel_rfl) ⟨⟨_,rfl,rfl,rfl⟩,inferInstance,trivial⟩ hL ?_
 refine pF ?_
 repeat refine rS ?_
 refine seqO_nil ?_
 refine seqM_cons fun b=>?_
 refine seqM_nil fun w1 hL1=>?_
 simp only [List.cons_append,List.nil_append] at hL1
 clear hL;have hL:=hL1;clear hL1
 refine p4 ?_
 refine pG ?_
 repeat (refine rW ?_;clear hL;intro w1 hL)
 refine wpList_nil (NoPanic.normal ?_)
 go_wp2_with (first | ((with_reducible refine gS 9 ?_);refine aBp ?_;clear hL;intro b9 w1 hL) | (refine aL4S2C9p ?_;clear hL;intro w1 hL) | (refine aX1A1p ?_;clear hL;intro b w1 hL))
 refine share (R:=?R) (fun hR=>?h1) ?h2
 case h1 =>
  refine wp_region_mix (S:=fun w'=>Loc w w' _) 7 (by kernel_rfl) (by kernel_rfl) (hL.drew) (fun hHeld=>?_)
  replace hL:=hL.drew
  refine tk 0 (v:=?_) rfl (Or.inl ⟨by rfl,?_⟩) hHeld ?_
  rotate_left
  ·(intro w hSw;go_simp;first | done | with_reducible rfl)
  refine p7 ?_
  refine tk 1 (v:=?_) rfl (Or.inl ⟨by rfl,?_⟩) hHeld ?_
  rotate_left
  ·(intro w hSw;go_simp;first | done | with_reducible rfl)
  refine p7 ?_
  refine tk 2 (v:=?_) rfl (Or.inl ⟨by rfl,?_⟩) hHeld ?_
  rotate_left
  ·(intro w hSw;go_simp;first | done | with_reducible rfl)
  refine p7 ?_
  refine wpAnyH_ready (rs:=[3,5]) (by kernel_rfl) (by simp) ((AllReadyH.cons rfl (fun K hK=>?_) (AllReadyH.cons rfl (fun K hK=>?_) AllReadyH.nil)))
  ·rw [if_pos (by rfl)]
   first | refine eBS1i hL rfl rfl fun b31 w1 hL1=>?_ | refine eBS1s hL rfl rfl fun b31 w1 hL1=>?_ | refine eBS2s hL rfl rfl rfl fun b31 w1 hL1=>?_ | refine eBS3s hL rfl rfl rfl rfl fun b31 w1 hL1=>?_
   clear hL;have hL:=hL1;clear hL1
   refine hK.out _ _ (hL.pop) (fun hHeld2=>?_)
   clear hK K hHeld
   have hHeld:=hHeld2
   clear hHeld2
   refine p7 ?_
   refine wpAnyH_ready (rs:=[4,5]) (by kernel_rfl) (by simp) ((AllReadyH.cons rfl (fun K hK=>?_) (AllReadyH.cons rfl (fun K hK=>?_) AllReadyH.nil)))
   ·rw [if_pos (by rfl)]
    refine eCall rfl (by simp only [List.map_toArray,List.map_cons,List.map_nil];rfl) ((HW2.out _ (hL.glob hG) _ (brows_three (hL.at_ b31) (See.bytes hL) (See.bytes hL) (See.bytes hL))).mono ?_)
    rintro e w1 ⟨rfl,hb1⟩;refine ⟨_,rfl,?_⟩;have hL1:=hL.keep hb1;clear hb1
    clear hL;have hL:=hL1;clear hL1
    refine hK.out _ _ (hL.pop) (fun hHeld2=>?_)
    clear hK K hHeld
    have hHeld:=hHeld2
    clear hHeld2
    refine p7 ?_
    refine wpAnyH_ready (rs:=[5]) (by kernel_rfl) (by simp) ((AllReadyH.cons rfl (fun K hK=>?_) AllReadyH.nil))
    rw [if_pos (by rfl)]
    refine eA hL rfl fun b10 w1 hL1=>?_
    clear hL;have hL:=hL1;clear hL1
    refine hK.out _ _ (hL.pop.pop) (fun hHeld2=>?_)
    clear hK K hHeld
    have hHeld:=hHeld2
    clear hHeld2
    refine p7 ?_
    refine wpAnyH_ready (rs:=[6]) (by kernel_rfl) (by simp) ((AllReadyH.cons rfl (fun K hK=>?_) AllReadyH.nil))
    rw [if_pos (by rfl)]
    refine eS hL rfl rfl rfl fun w1 hL1=>?_
    clear hL;have hL:=hL1;clear hL1
    refine hK.out _ _ (hL.pop.pop) (fun hHeld2=>?_)
    clear hK K hHeld
    have hHeld:=hHeld2
    clear hHeld2
    refine p7 ?_
    refine wpAnyH_done (by kernel_rfl) (NoPanic.normal ?_) _
    clear hHeld
    first | (have hLp:=hL;clear hL;revert hLp;revert w1;revert b31;revert b10;exact hR) | (have hLp:=hL.perm (List.Perm.swap _ _ _);clear hL;revert hLp;revert w1;revert b31;revert b10;exact hR) | (have hLp:=hL.perm (List.Perm.cons _ (List.Perm.swap _ _ _));clear hL;revert hLp;revert w1;revert b31;revert b10;exact hR) | (have hLp:=hL.perm ((List.Perm.swap _ _ _).trans (List.Perm.cons _ (List.Perm.swap _ _ _)));clear hL;revert hLp;revert w1;revert b31;revert b10;exact hR) | (have hLp:=hL.perm ((List.Perm.cons _ (List.Perm.swap _ _ _)).trans (List.Perm.swap _ _ _));clear hL;revert hLp;revert w1;revert b31;revert b10;exact hR) | (have hLp:=hL.perm (((List.Perm.swap _ _ _).trans (List.Perm.cons _ (List.Perm.swap _ _ _))).trans (List.Perm.swap _ _ _));clear hL;revert hLp;revert w1;revert b31;revert b10;exact hR)
   ·rw [if_pos (by rfl)]
    refine eA hL rfl fun b10 w1 hL1=>?_
    clear hL;have hL:=hL1;clear hL1
    refine hK.out _ _ (hL.pop.pop) (fun hHeld2=>?_)
    clear hK K hHeld
    have hHeld:=hHeld2
    clear hHeld2
    refine p7 ?_
    refine wpAnyH_ready (rs:=[4]) (by kernel_rfl) (by simp) ((AllReadyH.cons rfl (fun K hK=>?_) AllReadyH.nil))
    rw [if_pos (by rfl)]
    refine eCall rfl (by simp only [List.map_toArray,List.map_cons,List.map_nil];rfl) ((HW2.out _ (hL.glob hG) _ (brows_three (hL.at_ b31) (See.bytes hL) (See.bytes hL) (See.bytes hL))).mono ?_)
    rintro e w1 ⟨rfl,hb1⟩;refine ⟨_,rfl,?_⟩;have hL1:=hL.keep hb1;clear hb1
    clear hL;have hL:=hL1;clear hL1
    refine hK.out _ _ (hL.pop.pop) (fun hHeld2=>?_)
    clear hK K hHeld
    have hHeld:=hHeld2
    clear hHeld2
    refine p7 ?_
    refine wpAnyH_ready (rs:=[6]) (by kernel_rfl) (by simp) ((AllReadyH.cons rfl (fun K hK=>?_) AllReadyH.nil))
    rw [if_pos (by rfl)]
    refine eS hL rfl rfl rfl fun w1 hL1=>?_
    clear hL;have hL:=hL1;clear hL1
    refine hK.out _ _ (hL.pop.pop) (fun hHeld2=>?_)
    clear hK K hHeld
    have hHeld:=hHeld2
    clear hHeld2
    refine p7 ?_
    refine wpAnyH_done (by kernel_rfl) (NoPanic.normal ?_) _
    clear hHeld
    first | (have hLp:=hL;clear hL;revert hLp;revert w1;revert b31;revert b10;exact hR) | (have hLp:=hL.perm (List.Perm.swap _ _ _);clear hL;revert hLp;revert w1;revert b31;revert b10;exact hR) | (have hLp:=hL.perm (List.Perm.cons _ (List.Perm.swap _ _ _));clear hL;revert hLp;revert w1;revert b31;revert b10;exact hR) | (have hLp:=hL.perm ((List.Perm.swap _ _ _).trans (List.Perm.cons _ (List.Perm.swap _ _ _)));clear hL;revert hLp;revert w1;revert b31;revert b10;exact hR) | (have hLp:=hL.perm ((List.Perm.cons _ (List.Perm.swap _ _ _)).trans (List.Perm.swap _ _ _));clear hL;revert hLp;revert w1;revert b31;revert b10;exact hR) | (have hLp:=hL.perm (((List.Perm.swap _ _ _).trans (List.Perm.cons _ (List.Perm.swap _ _ _))).trans (List.Perm.swap _ _ _));clear hL;revert hLp;revert w1;revert b31;revert b10;exact hR)
  ·rw [if_pos (by rfl)]
   refine eA hL rfl fun b10 w1 hL1=>?_
   clear hL;have hL:=hL1;clear hL1
   refine hK.out _ _ (hL.pop) (fun hHeld2=>?_)
   clear hK K hHeld
   have hHeld:=hHeld2
   clear hHeld2
   refine p7 ?_
   refine wpAnyH_ready (rs:=[3]) (by kernel_rfl) (by simp) ((AllReadyH.cons rfl (fun K hK=>?_) AllReadyH.nil))
   rw [if_pos (by rfl)]
   first | refine eBS1i hL rfl rfl fun b31 w1 hL1=>?_ | refine eBS1s hL rfl rfl fun b31 w1 hL1=>?_ | refine eBS2s hL rfl rfl rfl fun b31 w1 hL1=>?_ | refine eBS3s hL rfl rfl rfl rfl fun b31 w1 hL1=>?_
   clear hL;have hL:=hL1;clear hL1
   refine hK.out _ _ (hL.pop.pop) (fun hHeld2=>?_)
   clear hK K hHeld
   have hHeld:=hHeld2
   clear hHeld2
   refine p7 ?_
   refine wpAnyH_ready (rs:=[4]) (by kernel_rfl) (by simp) ((AllReadyH.cons rfl (fun K hK=>?_) AllReadyH.nil))
   rw [if_pos (by rfl)]
   refine eCall rfl (by simp only [List.map_toArray,List.map_cons,List.map_nil];rfl) ((HW2.out _ (hL.glob hG) _ (brows_three (hL.at_ b31) (See.bytes hL) (See.bytes hL) (See.bytes hL))).mono ?_)
   rintro e w1 ⟨rfl,hb1⟩;refine ⟨_,rfl,?_⟩;have hL1:=hL.keep hb1;clear hb1
   clear hL;have hL:=hL1;clear hL1
   refine hK.out _ _ (hL.pop.pop) (fun hHeld2=>?_)
   clear hK K hHeld
   have hHeld:=hHeld2
   clear hHeld2
   refine p7 ?_
   refine wpAnyH_ready (rs:=[6]) (by kernel_rfl) (by simp) ((AllReadyH.cons rfl (fun K hK=>?_) AllReadyH.nil))
   rw [if_pos (by rfl)]
   refine eS hL rfl rfl rfl fun w1 hL1=>?_
   clear hL;have hL:=hL1;clear hL1
   refine hK.out _ _ (hL.pop.pop) (fun hHeld2=>?_)
   clear hK K hHeld
   have hHeld:=hHeld2
   clear hHeld2
   refine p7 ?_
   refine wpAnyH_done (by kernel_rfl) (NoPanic.normal ?_) _
   clear hHeld
   first | (have hLp:=hL;clear hL;revert hLp;revert w1;revert b31;revert b10;exact hR) | (have hLp:=hL.perm (List.Perm.swap _ _ _);clear hL;revert hLp;revert w1;revert b31;revert b10;exact hR) | (have hLp:=hL.perm (List.Perm.cons _ (List.Perm.swap _ _ _));clear hL;revert hLp;revert w1;revert b31;revert b10;exact hR) | (have hLp:=hL.perm ((List.Perm.swap _ _ _).trans (List.Perm.cons _ (List.Perm.swap _ _ _)));clear hL;revert hLp;revert w1;revert b31;revert b10;exact hR) | (have hLp:=hL.perm ((List.Perm.cons _ (List.Perm.swap _ _ _)).trans (List.Perm.swap _ _ _));clear hL;revert hLp;revert w1;revert b31;revert b10;exact hR) | (have hLp:=hL.perm (((List.Perm.swap _ _ _).trans (List.Perm.cons _ (List.Perm.swap _ _ _))).trans (List.Perm.swap _ _ _));clear hL;revert hLp;revert w1;revert b31;revert b10;exact hR)
 intro b10 b31 w1 hL1
 clear hL;have hL:=hL1;clear hL1
 go_wp2_with (first | (refine aL4S2C9p ?_;clear hL;intro w1 hL) | (refine aX1A1p ?_;clear hL;intro b w1 hL))
 refine wp_region_free [(0,false),(1,false),(2,false),(3,false),(4,false)] [(5,_,24)] [6] (by kernel_rfl) (by kernel_rfl) ⟨⟨_,rfl,rfl,rfl⟩,inferInstance,trivial⟩ hL ?_
 refine pF ?_
 repeat refine rS ?_
 refine seqO_nil ?_
 refine seqM_cons fun b=>?_
 refine seqM_nil fun w1 hL1=>?_
 simp only [List.cons_append,List.nil_append] at hL1
 clear hL;have hL:=hL1;clear hL1
 refine p4 ?_
 refine pG ?_
 repeat (refine rW ?_;clear hL;intro w1 hL)
 refine wpList_nil (NoPanic.normal ?_)
 go_wp2_with (first | ((with_reducible refine gS 12 ?_);refine aBp ?_;clear hL;intro b12 w1 hL) | (refine aL4S2C9p ?_;clear hL;intro w1 hL) | (refine aX1A1p ?_;clear hL;intro b w1 hL))
 refine wp_region_mix (S:=fun w'=>Loc w w' _) 3 (by kernel_rfl) (by kernel_rfl) (Loc.rem b12 (hL.drew)) (fun hHeld=>?_)
 replace hL:=hL.drew
 refine tk 0 (v:=?_) rfl (Or.inl ⟨by rfl,?_⟩) hHeld ?_
 rotate_left
 ·(intro w hSw;go_simp;first | done | with_reducible rfl)
 refine p7 ?_
 refine tk 1 (v:=?_) rfl (Or.inl ⟨by rfl,?_⟩) hHeld ?_
 rotate_left
 ·(intro w hSw;go_simp;first | done | with_reducible rfl)
 refine p7 ?_
 refine wpAnyH_ready (rs:=[2]) (by kernel_rfl) (by simp) ((AllReadyH.cons rfl (fun K hK=>?_) AllReadyH.nil))
 rw [if_pos (by rfl)]
 refine eCopy hL rfl rfl rfl (by first | omega | (simp;omega) | simp) (by first | omega | (simp;omega) | simp) fun w1 hL1=>?_
 clear hL;have hL:=hL1;clear hL1
 refine hK.out _ _ (Loc.rem b12 (hL)) (fun hHeld2=>?_)
 clear hK K hHeld
 have hHeld:=hHeld2
 clear hHeld2
 refine p7 ?_
 refine wpAnyH_done (by kernel_rfl) (NoPanic.normal ?_) _
 go_wp2_with (first | (refine aL4S2C9p ?_;clear hL;intro w1 hL) | (refine aX1A1p ?_;clear hL;intro b w1 hL))
 refine wp_region_mix (S:=fun w'=>Loc w w' _) 3 (by kernel_rfl) (by kernel_rfl) (Loc.rem b12 (hL.drew)) (fun hHeld=>?_)
 replace hL:=hL.drew
 refine tk 0 (v:=?_) rfl (Or.inl ⟨by rfl,?_⟩) hHeld ?_
 rotate_left
 ·(intro w hSw;go_simp;first | done | with_reducible rfl)
 refine p7 ?_
 refine tk 1 (v:=?_) rfl (Or.inl ⟨by rfl,?_⟩) hHeld ?_
 rotate_left
 ·(intro w hSw;go_simp;first | done | with_reducible rfl)
 refine p7 ?_
 refine wpAnyH_ready (rs:=[2]) (by kernel_rfl) (by simp) ((AllReadyH.cons rfl (fun K hK=>?_) AllReadyH.nil))
 rw [if_pos (by rfl)]
 refine eCopy hL rfl rfl rfl (by first | omega | (simp;omega) | simp) (by first | omega | (simp;omega) | simp) fun w1 hL1=>?_
 clear hL;have hL:=hL1;clear hL1
 refine hK.out _ _ (Loc.rem b12 (hL)) (fun hHeld2=>?_)
 clear hK K hHeld
 have hHeld:=hHeld2
 clear hHeld2
 refine p7 ?_
 refine wpAnyH_done (by kernel_rfl) (NoPanic.normal ?_) _
 go_wp2_with (first | (refine aL4S2C9p ?_;clear hL;intro w1 hL) | (refine aX1A1p ?_;clear hL;intro b w1 hL))
 exact bodyPost_ret (results_loc rfl hL rfl) rfl ⟨rfl,hL.bel⟩
instance iSgV4:Ent 81:=Ent.of Tryz.func81 (by kernel_rfl) rfl
end Go.Proofs.YtoifhhljfaoejaaGreatDoor
