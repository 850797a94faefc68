/-
  Lemmas of the law, part 40: the walks of the functions that it calls and the plain facts about them. No condition beyond those written.
-/
import Derived.Test.YtoifhhljfaoejaaGreatDoorPkAA
import Derived.Test.YtoifhhljfaoejaaGreatDoorPkBM
namespace Go.Proofs.YtoifhhljfaoejaaGreatDoor
open Go Go.RowKit Go.Shelf
set_option linter.unusedVariables false
set_option linter.unusedSimpArgs false
set_option linter.unusedSectionVars false
set_option maxRecDepth 100000 in
theorem packBytes_any (vb:Value) (b:List (BitVec 8)) (px p:Option Addr) (cx c:Nat) (l:List (BitVec 8)) (w:World) (hb:BRow w vb b) (hb0:0<b.length) (hb1:b.length≤10000) (hx:VRow w (.slice px 1 cx) [.slice p l.length c]) (hl:BRow w (.slice p l.length c) l) (hl1:l.length≤10000) :
 Calls Tryz.prog 203 #[vb,.slice px 1 cx] w fun e w'=>Fresh w (b ++ (packI l.length ++ l)) e w':=by
 have hL:=Loc.nil w
 have HC:=Lib.hid (clone_any vb b w hb hb0 (by omega))
 haveI hA1:Arg w (.slice p l.length c) (encB l):=⟨hl.vrow⟩
 obtain ⟨_,al,cl,e,_,hcl⟩:=hx
 injection e with e1 e2 e3
 obtain ⟨bl,ol,e4,hbl,hcell⟩:=hcl (by simp)
 subst e1
 subst e4
 have hW:Was w bl ol (.slice p l.length c):=⟨by simpa using hcell 0 (by simp),hbl⟩
 clear e2 e3 hcl hcell hb hl
 have HP:=Lib.hid (fun w1 (v1 v2:Value) (h2:BRow w1 v1 b) (h3:VRow w1 v2 (encI [(l.length:Int)]))=>packInt_any v1 b v2 [(l.length:Int)] w1 h2 hb0 (by omega) h3 (by simp))
 rw [show packIs [(l.length:Int)]=packI l.length from by unfold packIs;simp,encI_one] at HP
 have HLEN:=Lib.hid (show (b ++ packI l.length).length=b.length+8 from by rw [List.length_append,packI_length])
 have hq:(b ++ packI l.length).length≤20000:=by rw [List.length_append,packI_length];omega
 have HAP:=Lib.hid (show b ++ (packI l.length ++ l)=(b ++ packI l.length) ++ l from (List.append_assoc _ _ _).symm)
 have HAL:=Lib.hid (show (b ++ (packI l.length ++ l)).length=(b ++ packI l.length).length+l.length from by rw [← List.append_assoc,List.length_append])
 generalize b ++ (packI l.length ++ l)=out at *
 generalize b ++ packI l.length=b8 at *
 go_enter Tryz.func203,Tryz.ntmps203
 go_wp2_with (first | refine aU ?_ | (go_at_call 94;go_loud (refine (HC.out).mono ?_);rintro e w1 ⟨g9,cap9,cur9,rfl,hr9,hg9,hc9,hb9⟩;have hL1:=hL.fresh hb9 hg9 hc9;clear hb9 hg9 hc9;clear hL;have hL:=hL1;clear hL1;refine p4 ?_) | (refine aL3S6p ?_;clear hL;intro w1 hL))
 go_loopw [5,12] (fun v kk wr=>(kk= .int .i64 0∧v= .slice (some ⟨g9,0,none⟩) b.length cap9∧Loc w wr [(g9,cur9,5)])∨(kk= .int .i64 1∧∃ g cap cur,v= .slice (some ⟨g,0,none⟩) (b8.length+l.length) cap∧OwnR cur (b8.length+l.length) cap (encB (b8 ++ l))∧Loc w wr [(g,cur,5)])) (fun _ kk _=>1 - (intOf kk).toNat)
 case atStart=>exact .inl ⟨rfl,rfl,hL⟩
 case round =>
  clear hL
  rcases hrel with ⟨rfl,rfl,hL⟩ | ⟨rfl,g,cap,cur,rfl,hr,hL⟩
  ·skip
   go_wp2_with (first | refine aU ?_ | ((with_reducible show wpList _ _ _ (⟨some 19,.buildSlice _ _ _,_,_,_,_⟩ :: _) _ _);(first | refine lBS1i hL rfl rfl rfl fun b19 w1 hL1=>?_ | refine lBS1s hL rfl rfl rfl fun b19 w1 hL1=>?_ | refine lBS2s hL rfl rfl rfl rfl fun b19 w1 hL1=>?_ | refine lBS3s hL rfl rfl rfl rfl rfl fun b19 w1 hL1=>?_);clear hL;have hL:=hL1;clear hL1;refine p4 ?_) | (go_at_call 202;go_loud (refine (HP.out _ _ _ (See.bytes hL) (See.see _ hL)).mono ?_);rintro e w1 ⟨g20,cap20,cur20,rfl,hr20,hg20,hc20,hb20⟩;have hL1:=hL.fresh hb20 hg20 hc20;clear hb20 hg20 hc20;clear hL;have hL:=hL1;clear hL1;refine p4 ?_) | ((with_reducible refine gC 22 ?_);(refine lAppB hL rfl rfl rfl rfl (by first | omega | (simp;omega) | simp) fun g22 cap22 cur22 w1 hr22 hL1=>?_);(try dsimp only at hL1);clear hL;have hL:=hL1;clear hL1;refine p4 ?_) | (refine aL3S6p ?_;clear hL;intro w1 hL))
   go_roundw
   case rel=>exact .inr ⟨rfl,g22,cap22,cur22,rfl,hr22,Loc.rem b19 (Loc.rem g9 hL)⟩
   case measure=>simp only [intOf];decide
  ·rw [← HAL.out,← HAP.out] at hr
   rw [← HAL.out]
   go_wp2_with (first | refine aU ?_ | (refine aL3S6p ?_;clear hL;intro w1 hL))
   all_goals (go_ret;exact hL.back rfl)
instance iPck1:Ent 203:=Ent.of Tryz.func203 (by kernel_rfl) rfl
def bitZ (b:Bool):Int:=if b then 1 else 0
set_option maxRecDepth 100000 in
theorem bitZ_any (b:Bool) (w:World):Calls Tryz.prog 204 #[.bool b] w fun e w'=>e= .returned (.int .i64 (bitZ b))∧Below w.heap.size w w':=by
 cases b <;> go_enter Tryz.func204,Tryz.ntmps204
 all_goals go_wp2_with fail
 all_goals (go_ret;exact ⟨rfl,Below.refl _ _⟩)
instance iPck2:Ent 204:=Ent.of Tryz.func204 (by kernel_rfl) rfl
theorem was_at {w0 w:World} {M:Mem} (hL:Loc w0 w M) {b:Nat} {r:Array Value} {t:TypeId} (hm:(b,r,t)∈M) {k:Nat} {v:Value} (hc:r[k]?=some v):Was w b k v :=
 ⟨by rw [cell_of_row w b k _ _ _ (hL.get hm)];exact hc,hL.lt hm⟩
def slotB (x:List (BitVec 8)) (m:List (BitVec 8)) (d:Bool) (t:Int):List (BitVec 8):=(x ++ (packI m.length ++ m)) ++ packIs [bitZ d,t]
def stB0 (s:Sta):List (BitVec 8):=(([80,67,83,49] ++ packIs [s.fl,(s.rv.length:Int)]) ++ packIs s.rv) ++ packIs [s.ac]
def stB (s:Sta):List (BitVec 8):=slotB (slotB (stB0 s) s.m0 s.d0 s.t0) s.m1 s.d1 s.t1
theorem slotB_length (x m:List (BitVec 8)) (d:Bool) (t:Int):(slotB x m d t).length=x.length+m.length+24:=by
 unfold slotB
 rw [List.length_append,List.length_append,List.length_append,packI_length,packIs_length]
 simp
 omega
theorem stB0_length (s:Sta):(stB0 s).length=28+8*s.rv.length:=by
 unfold stB0
 simp only [List.length_append,packIs_length,List.length_cons,List.length_nil]
 omega
theorem stB_length (s:Sta):(stB s).length=76+8*s.rv.length+s.m0.length+s.m1.length:=by
 unfold stB
 rw [slotB_length,slotB_length,stB0_length]
 omega
instance iPck4:RowTy 56 6:=⟨⟨_,Tryz.underlying56,rfl⟩,by kernel_rfl⟩
instance part2 (a b x y z c d e f:Value):Part #[a,b,x,y,z,c,d,e,f] 58 2 56 #[x,y,z,c,d,e]:=part_mid (pre:= #[a,b]) (post:= #[f]) rfl rfl
instance iPck5:RowZ 55 (slR none 0 0 false 0):=⟨by kernel_rfl⟩
theorem idx0 (x y z c d e:Value) (w:World):(Instr.index 56 (.agg #[x,y,z,c,d,e]) (.int .i64 0)).run Tryz.prog w= .ok (.agg #[x,y,z]) w:=by kernel_rfl
theorem idx1 (x y z c d e:Value) (w:World):(Instr.index 56 (.agg #[x,y,z,c,d,e]) (.int .i64 1)).run Tryz.prog w= .ok (.agg #[c,d,e]) w:=by kernel_rfl
theorem segS1 (p:Option Addr) (n c:Nat):Seg #[.slice p n c] 0 1 [.slice p n c]:=⟨rfl,fun u hu=>by simp at hu;subst hu;rfl,fun i hi=>by simp at hi;subst hi;rfl⟩
set_option maxRecDepth 100000 in
set_option maxHeartbeats 2000000 in
theorem pack_any (s:Sta) (q:Sq) (w:World) (hr:ReadS w s q) (hg:Good s):Calls Tryz.prog 154 #[.agg (stR s q)] w fun e w'=>∃ g cap cur,e= .returned (.tuple #[.slice (some ⟨g,0,none⟩) (stB s).length cap,.int .i64 0])∧OwnR cur (stB s).length cap (encB (stB s))∧Loc w w' [(g,cur,5)]:=by
 have hL:=Loc.nil w
 have HM:=Lib.hid (fun w1 (h:ReadS w1 s q)=>may_any s q w1 h hg)
 have HRD:=Lib.hid (fun w1 (h:Below w.heap.size w w1)=>(⟨hr.r.below h,by have:=hr.a.vrow.below h;exact this.brow,by have:=hr.b.vrow.below h;exact this.brow,hr.zr,hr.za,hr.zb⟩:ReadS w1 s q))
 have hlen0:s.m0.length≤300:=by rcases hg.s0 with ⟨h,_⟩ | ⟨h,_⟩ <;> omega
 have hlen1:s.m1.length≤300:=by rcases hg.s1 with ⟨h,_⟩ | ⟨h,_⟩ <;> omega
 have hlen2:=hg.n
 have hB0:=stB0_length s
 have hB:=stB_length s
 have hx5':=slotB_length (stB0 s) s.m0 s.d0 s.t0
 have h0:stB0 s=(([80,67,83,49] ++ packIs [s.fl,(s.rv.length:Int)]) ++ packIs s.rv) ++ packIs [s.ac]:=rfl
 have h7:stB s=slotB (slotB (stB0 s) s.m0 s.d0 s.t0) s.m1 s.d1 s.t1:=rfl
 generalize stB s=x7 at *
 generalize stB0 s=x3 at *
 obtain ⟨fl,rv,m0,d0,t0,m1,d1,t1,ac⟩:=s
 obtain ⟨pr,cr,p0,c0,p1,c1⟩:=q
 obtain ⟨r1,r2,r3,zr,za,zb⟩:=hr
 dsimp only at *
 haveI hA1:Arg w (.slice pr rv.length cr) (encI rv):=⟨r1⟩
 haveI hA2:Arg w (.slice p0 m0.length c0) (encB m0):=⟨r2.vrow⟩
 haveI hA3:Arg w (.slice p1 m1.length c1) (encB m1):=⟨r3.vrow⟩
 obtain ⟨x1,hx1⟩:∃ x,x=[80,67,83,49] ++ packIs [fl,(rv.length:Int)]:=⟨_,rfl⟩
 obtain ⟨x2,hx2⟩:∃ x,x=x1 ++ packIs rv:=⟨_,rfl⟩
 obtain ⟨x4,hx4⟩:∃ x,x=x3 ++ (packI m0.length ++ m0):=⟨_,rfl⟩
 obtain ⟨x5,hx5⟩:∃ x,x=x4 ++ packIs [bitZ d0,t0]:=⟨_,rfl⟩
 obtain ⟨x6,hx6⟩:∃ x,x=x5 ++ (packI m1.length ++ m1):=⟨_,rfl⟩
 have e5:slotB x3 m0 d0 t0=x5:=by unfold slotB;rw [hx5,hx4]
 rw [e5] at hx5' h7
 have e7:x7=x6 ++ packIs [bitZ d1,t1]:=by rw [h7];unfold slotB;rw [hx6]
 rw [← hx1,← hx2] at h0
 have l1:x1.length=20:=by rw [hx1,List.length_append,packIs_length];rfl
 have l2:x2.length=20+8*rv.length:=by rw [hx2,List.length_append,packIs_length,l1]
 have l4:x4.length=x3.length+8+m0.length:=by rw [hx4,List.length_append,List.length_append,packI_length];omega
 have l6:x6.length=x5.length+8+m1.length:=by rw [hx6,List.length_append,List.length_append,packI_length];omega
 have P1:=Lib.hid (fun w1 (v1 v2:Value) (h2:BRow w1 v1 [80,67,83,49]) (h3:VRow w1 v2 (encI [fl,(rv.length:Int)]))=>(show Calls _ _ _ _ (fun e w'=>Fresh w1 x1 e w') from by rw [hx1];exact packInt_any v1 _ v2 _ w1 h2 (by decide) (by decide) h3 (by simp)))
 have P2:=Lib.hid (fun w1 (v1 v2:Value) (h2:BRow w1 v1 x1) (h3:VRow w1 v2 (encI rv))=>(show Calls _ _ _ _ (fun e w'=>Fresh w1 x2 e w') from by rw [hx2];exact packInt_any v1 _ v2 _ w1 h2 (by omega) (by omega) h3 (by omega)))
 have P3:=Lib.hid (fun w1 (v1 v2:Value) (h2:BRow w1 v1 x2) (h3:VRow w1 v2 (encI [ac]))=>(show Calls _ _ _ _ (fun e w'=>Fresh w1 x3 e w') from by rw [h0];exact packInt_any v1 _ v2 _ w1 h2 (by omega) (by omega) h3 (by simp)))
 have P4:=Lib.hid (fun w1 (v1:Value) px cx (h2:BRow w1 v1 x3) (h3:VRow w1 (.slice px 1 cx) [.slice p0 m0.length c0]) (h4:BRow w1 (.slice p0 m0.length c0) m0)=>(show Calls _ _ _ _ (fun e w'=>Fresh w1 x4 e w') from by rw [hx4];exact packBytes_any v1 _ px p0 cx c0 m0 w1 h2 (by omega) (by omega) h3 h4 (by omega)))
 have P5:=Lib.hid (fun w1 (v1 v2:Value) (h2:BRow w1 v1 x4) (h3:VRow w1 v2 (encI [bitZ d0,t0]))=>(show Calls _ _ _ _ (fun e w'=>Fresh w1 x5 e w') from by rw [hx5];exact packInt_any v1 _ v2 _ w1 h2 (by omega) (by omega) h3 (by simp)))
 have P6:=Lib.hid (fun w1 (v1:Value) px cx (h2:BRow w1 v1 x5) (h3:VRow w1 (.slice px 1 cx) [.slice p1 m1.length c1]) (h4:BRow w1 (.slice p1 m1.length c1) m1)=>(show Calls _ _ _ _ (fun e w'=>Fresh w1 x6 e w') from by rw [hx6];exact packBytes_any v1 _ px p1 cx c1 m1 w1 h2 (by omega) (by omega) h3 h4 (by omega)))
 have P7:=Lib.hid (fun w1 (v1 v2:Value) (h2:BRow w1 v1 x6) (h3:VRow w1 v2 (encI [bitZ d1,t1]))=>(show Calls _ _ _ _ (fun e w'=>Fresh w1 x7 e w') from by rw [e7];exact packInt_any v1 _ v2 _ w1 h2 (by omega) (by omega) h3 (by simp)))
 haveI s0:Seg #[.int .u8 80,.int .u8 67,.int .u8 83,.int .u8 49] 0 4 (encB [80,67,83,49]):=segB4 80 67 83 49
 haveI s1:=segI2 fl (rv.length:Int)
 haveI s2:=segI2 (bitZ d0) t0
 haveI s3:=segI2 (bitZ d1) t1
 haveI s4:=segS1 p0 m0.length c0
 haveI s5:=segS1 p1 m1.length c1
 haveI s6:Seg #[.int .i64 ac] 0 1 (encI [ac]):=segInt1 _ _
 clear r1 r2 r3 zr za zb hg hx1 hx2 hx4 hx5 hx6 e5 e7 h0 h7 hB0 hB hx5' l1 l2 l4 l6
 have HB0:=Lib.hid (fun w1=>bitZ_any d0 w1)
 have HB1:=Lib.hid (fun w1=>bitZ_any d1 w1)
 generalize bitZ d0=bd0 at *
 generalize bitZ d1=bd1 at *
 have hi0:=idx0
 have hi1:=idx1
 go_enter Tryz.func154,Tryz.ntmps154
 go_wp2_with (first | refine aU ?_ | ((with_reducible refine gS 1 ?_);refine aBp ?_;clear hL;intro b1 w1 hL) | ((with_reducible refine gC 8 ?_);go_loud (refine lCall rfl rfl ((HM.out _ (HRD.out _ hL.bel)).mono ?_) rfl);rintro e w1 ⟨rfl,hb1⟩;have hL1:=hL.keep hb1;clear hL;revert hL1;refine aE ?_;intro hL) | ((with_reducible show wpList _ _ _ (⟨some 10,_,_,_,_,_⟩ :: ⟨some 11,_,_,_,_,_⟩ :: _) _ _);go_loud (refine lLit4 80 67 83 49 hL rfl rfl rfl rfl rfl rfl rfl rfl (fun _=>rfl) ?_);clear hL;intro b10 w11 hb10 hL0;have hA10:Arg w11 (.slice (some ⟨b10,0,none⟩) 4 4) (encB [80,67,83,49]):=⟨hb10.vrow⟩;have g0:Was w11 b1 0 (.int .i64 fl):=was_at hL0 (.head _) rfl;have g1:Was w11 b1 1 (.slice pr rv.length cr):=was_at hL0 (.head _) rfl;have hL:=Loc.nil w11) | ((with_reducible refine gS 17 ?_);refine lBS2i hL rfl rfl rfl rfl ?_;intro b17;clear hL;intro w1 hL) | ((go_at_call 202;go_loud (refine (P1.out _ _ _ (See.bytes hL) (See.see _ hL)).mono ?_);rintro e w1 ⟨g18,cap18,cur18,rfl,hr18,hg18,hc18,hb18⟩;have hL1:=hL0.join (hL.fresh hb18 hg18 hc18);clear hb18 hg18 hc18;clear hL hA10 hb10 g0 g1;simp only [List.cons_append,List.nil_append] at hL1;have hL:=Loc.rem b17 hL1;clear hL1 hL0;refine p4 ?_)) | (refine aL3S6p ?_;clear hL;intro w1 hL))
 refine share (R:=?R) (fun hR=>?h1) ?h2
 case h1 =>
  refine wp_region_mix (S:=fun w'=>Loc _ w' _) 9 (by kernel_rfl) (by kernel_rfl) (hL.drew) (fun hHeld=>?_)
  replace hL:=hL.drew
  refine tg 0 hHeld ?_
  refine p7 ?_
  refine tg 1 hHeld ?_
  refine p7 ?_
  refine tg 4 hHeld ?_
  refine p7 ?_
  refine tz 2 hHeld ?_
  refine p7 ?_
  refine tz 5 hHeld ?_
  refine p7 ?_
  refine wpAnyH_ready (rs:=[3,6]) (by kernel_rfl) (by simp) ((AllReadyH.cons rfl (fun K hK=>?_) (AllReadyH.cons rfl (fun K hK=>?_) AllReadyH.nil)))
  ·rw [if_pos (by rfl)]
   refine eCall rfl (by simp only [List.map_toArray,List.map_cons,List.map_nil];rfl) ((P2.out _ (.slice (some ⟨g18,0,none⟩) x1.length cap18) (.slice pr rv.length cr) (See.bytes hL) (See.see _ hL)).mono ?_)
   rintro e w1 ⟨g22,cap22,cur22,rfl,hr22,hg22,hc22,hb22⟩;refine ⟨_,rfl,?_⟩;have hL1:=hL.fresh hb22 hg22 hc22;clear hb22 hg22 hc22
   clear hL;have hL:=hL1;clear hL1
   refine hK.out _ _ (hL.pop) (fun hHeld2=>?_)
   clear hK K hHeld;have hHeld:=hHeld2;clear hHeld2
   refine p7 ?_
   refine wpAnyH_ready (rs:=[6]) (by kernel_rfl) (by simp) ((AllReadyH.cons rfl (fun K hK=>?_) AllReadyH.nil))
   rw [if_pos (by rfl)]
   first | refine eBS1i hL rfl rfl fun b25 w1 hL1=>?_ | refine eBS1s hL rfl rfl fun b25 w1 hL1=>?_ | refine eBS2s hL rfl rfl rfl fun b25 w1 hL1=>?_ | refine eBS3s hL rfl rfl rfl rfl fun b25 w1 hL1=>?_ | refine eBS2i hL rfl rfl rfl fun b25 w1 hL1=>?_
   clear hL;have hL:=hL1;clear hL1
   refine hK.out _ _ (hL.pop.pop) (fun hHeld2=>?_)
   clear hK K hHeld;have hHeld:=hHeld2;clear hHeld2
   refine p7 ?_
   refine wpAnyH_ready (rs:=[7]) (by kernel_rfl) (by simp) ((AllReadyH.cons rfl (fun K hK=>?_) AllReadyH.nil))
   rw [if_pos (by rfl)]
   refine eCall rfl (by simp only [List.map_toArray,List.map_cons,List.map_nil];rfl) ((P3.out _ (.slice (some ⟨g22,0,none⟩) x2.length cap22) (.slice (some ⟨b25,0,none⟩) 1 1) (See.bytes hL) (See.see _ hL)).mono ?_)
   rintro e w1 ⟨g26,cap26,cur26,rfl,hr26,hg26,hc26,hb26⟩;refine ⟨_,rfl,?_⟩;have hL1:=hL.fresh hb26 hg26 hc26;clear hb26 hg26 hc26
   clear hL;have hL:=hL1;clear hL1
   refine hK.out _ _ (hL.pop.pop.pop) (fun hHeld2=>?_)
   clear hK K hHeld;have hHeld:=hHeld2;clear hHeld2
   refine p7 ?_
   refine tg 8 hHeld ?_
   refine p7 ?_
   refine wpAnyH_done (by kernel_rfl) (NoPanic.normal ?_) _
   clear hHeld
   first | (have hLp:=hL;clear hL;revert hLp;revert w1;revert hr26;revert cur26;revert cap26;revert g26;revert b25;revert hr22;revert cur22;revert cap22;revert g22;exact hR) | (have hLp:=hL.perm (List.Perm.swap _ _ _);clear hL;revert hLp;revert w1;revert hr26;revert cur26;revert cap26;revert g26;revert b25;revert hr22;revert cur22;revert cap22;revert g22;exact hR) | (have hLp:=hL.perm (List.Perm.cons _ (List.Perm.swap _ _ _));clear hL;revert hLp;revert w1;revert hr26;revert cur26;revert cap26;revert g26;revert b25;revert hr22;revert cur22;revert cap22;revert g22;exact hR) | (have hLp:=hL.perm (front3 _ _ _ _ _);clear hL;revert hLp;revert w1;revert hr26;revert cur26;revert cap26;revert g26;revert b25;revert hr22;revert cur22;revert cap22;revert g22;exact hR)
  ·rw [if_pos (by rfl)]
   first | refine eBS1i hL rfl rfl fun b25 w1 hL1=>?_ | refine eBS1s hL rfl rfl fun b25 w1 hL1=>?_ | refine eBS2s hL rfl rfl rfl fun b25 w1 hL1=>?_ | refine eBS3s hL rfl rfl rfl rfl fun b25 w1 hL1=>?_ | refine eBS2i hL rfl rfl rfl fun b25 w1 hL1=>?_
   clear hL;have hL:=hL1;clear hL1
   refine hK.out _ _ (hL.pop) (fun hHeld2=>?_)
   clear hK K hHeld;have hHeld:=hHeld2;clear hHeld2
   refine p7 ?_
   refine wpAnyH_ready (rs:=[3]) (by kernel_rfl) (by simp) ((AllReadyH.cons rfl (fun K hK=>?_) AllReadyH.nil))
   rw [if_pos (by rfl)]
   refine eCall rfl (by simp only [List.map_toArray,List.map_cons,List.map_nil];rfl) ((P2.out _ (.slice (some ⟨g18,0,none⟩) x1.length cap18) (.slice pr rv.length cr) (See.bytes hL) (See.see _ hL)).mono ?_)
   rintro e w1 ⟨g22,cap22,cur22,rfl,hr22,hg22,hc22,hb22⟩;refine ⟨_,rfl,?_⟩;have hL1:=hL.fresh hb22 hg22 hc22;clear hb22 hg22 hc22
   clear hL;have hL:=hL1;clear hL1
   refine hK.out _ _ (hL.pop.pop) (fun hHeld2=>?_)
   clear hK K hHeld;have hHeld:=hHeld2;clear hHeld2
   refine p7 ?_
   refine wpAnyH_ready (rs:=[7]) (by kernel_rfl) (by simp) ((AllReadyH.cons rfl (fun K hK=>?_) AllReadyH.nil))
   rw [if_pos (by rfl)]
   refine eCall rfl (by simp only [List.map_toArray,List.map_cons,List.map_nil];rfl) ((P3.out _ (.slice (some ⟨g22,0,none⟩) x2.length cap22) (.slice (some ⟨b25,0,none⟩) 1 1) (See.bytes hL) (See.see _ hL)).mono ?_)
   rintro e w1 ⟨g26,cap26,cur26,rfl,hr26,hg26,hc26,hb26⟩;refine ⟨_,rfl,?_⟩;have hL1:=hL.fresh hb26 hg26 hc26;clear hb26 hg26 hc26
   clear hL;have hL:=hL1;clear hL1
   refine hK.out _ _ (hL.pop.pop.pop) (fun hHeld2=>?_)
   clear hK K hHeld;have hHeld:=hHeld2;clear hHeld2
   refine p7 ?_
   refine tg 8 hHeld ?_
   refine p7 ?_
   refine wpAnyH_done (by kernel_rfl) (NoPanic.normal ?_) _
   clear hHeld
   first | (have hLp:=hL;clear hL;revert hLp;revert w1;revert hr26;revert cur26;revert cap26;revert g26;revert b25;revert hr22;revert cur22;revert cap22;revert g22;exact hR) | (have hLp:=hL.perm (List.Perm.swap _ _ _);clear hL;revert hLp;revert w1;revert hr26;revert cur26;revert cap26;revert g26;revert b25;revert hr22;revert cur22;revert cap22;revert g22;exact hR) | (have hLp:=hL.perm (List.Perm.cons _ (List.Perm.swap _ _ _));clear hL;revert hLp;revert w1;revert hr26;revert cur26;revert cap26;revert g26;revert b25;revert hr22;revert cur22;revert cap22;revert g22;exact hR) | (have hLp:=hL.perm (front3 _ _ _ _ _);clear hL;revert hLp;revert w1;revert hr26;revert cur26;revert cap26;revert g26;revert b25;revert hr22;revert cur22;revert cap22;revert g22;exact hR)
 intro g22 cap22 cur22 hr22 b25 g26 cap26 cur26 hr26 w1 hL1
 clear hL;have hL:=hL1;clear hL1
 have hL1:=Loc.rem b25 (Loc.rem g22 (Loc.rem g18 hL))
 clear hL;have hL:=hL1;clear hL1
 go_wp2_with (first | refine aU ?_ | (refine aL3S6p ?_;clear hL;intro w1 hL))
 go_loopw [4,29] (fun v kk wr=>(kk= .int .i64 0∧v= .slice (some ⟨g26,0,none⟩) x3.length cap26∧Loc w wr [(g26,cur26,5),(b1,stR ⟨fl,rv,m0,d0,t0,m1,d1,t1,ac⟩ ⟨pr,cr,p0,c0,p1,c1⟩,58)]) ∨
  (kk= .int .i64 1∧∃ g cap cur,v= .slice (some ⟨g,0,none⟩) x5.length cap∧OwnR cur x5.length cap (encB x5)∧Loc w wr [(g,cur,5),(b1,stR ⟨fl,rv,m0,d0,t0,m1,d1,t1,ac⟩ ⟨pr,cr,p0,c0,p1,c1⟩,58)]) ∨
  (kk= .int .i64 2∧∃ g cap cur,v= .slice (some ⟨g,0,none⟩) x7.length cap∧OwnR cur x7.length cap (encB x7)∧Loc w wr [(g,cur,5),(b1,stR ⟨fl,rv,m0,d0,t0,m1,d1,t1,ac⟩ ⟨pr,cr,p0,c0,p1,c1⟩,58)])) (fun _ kk _=>2 - (intOf kk).toNat)
 case atStart=>exact .inl ⟨rfl,rfl,hL⟩
 case round =>
  clear hL
  rcases hrel with ⟨rfl,rfl,hL⟩ | ⟨rfl,g,cap,cur,rfl,hr,hL⟩ | ⟨rfl,g,cap,cur,rfl,hr,hL⟩
  ·skip
   go_wp2_with (first | refine aU ?_ | ((with_reducible refine gS 6 ?_);refine aBp ?_;clear hL;intro b6 w1 hL) | (refine aL3S6p ?_;clear hL;intro w1 hL))
   refine wp_region_mix (S:=fun w'=>Loc _ w' _) 13 (by kernel_rfl) (by kernel_rfl) (hL.drew) (fun hHeld=>?_)
   replace hL:=hL.drew
   refine tg 0 hHeld ?_
   refine p7 ?_
   refine tg 1 hHeld ?_
   refine p7 ?_
   refine tg 5 hHeld ?_
   refine p7 ?_
   refine tg 8 hHeld ?_
   refine p7 ?_
   refine tz 2 hHeld ?_
   refine p7 ?_
   refine tz 6 hHeld ?_
   refine p7 ?_
   refine tz 9 hHeld ?_
   refine p7 ?_
   refine wpAnyH_ready (rs:=[3]) (by kernel_rfl) (by simp) ((AllReadyH.cons rfl (fun K hK=>?_) AllReadyH.nil))
   rw [if_pos (by rfl)]
   first | refine eBS1i hL rfl rfl fun b35 w1 hL1=>?_ | refine eBS1s hL rfl rfl fun b35 w1 hL1=>?_ | refine eBS2s hL rfl rfl rfl fun b35 w1 hL1=>?_ | refine eBS3s hL rfl rfl rfl rfl fun b35 w1 hL1=>?_ | refine eBS2i hL rfl rfl rfl fun b35 w1 hL1=>?_
   clear hL;have hL:=hL1;clear hL1
   refine hK.out _ _ (hL.pop) (fun hHeld2=>?_)
   clear hK K hHeld;have hHeld:=hHeld2;clear hHeld2
   refine p7 ?_
   refine wpAnyH_ready (rs:=[4]) (by kernel_rfl) (by simp) ((AllReadyH.cons rfl (fun K hK=>?_) AllReadyH.nil))
   rw [if_pos (by rfl)]
   refine eCall rfl (by simp only [List.map_toArray,List.map_cons,List.map_nil];rfl) ((P4.out _ (.slice (some ⟨g26,0,none⟩) x3.length cap26) (some ⟨b35,0,none⟩) 1 (See.bytes hL) (See.see _ hL) (See.bytes hL)).mono ?_)
   rintro e w1 ⟨g36,cap36,cur36,rfl,hr36,hg36,hc36,hb36⟩;refine ⟨_,rfl,?_⟩;have hL1:=hL.fresh hb36 hg36 hc36;clear hb36 hg36 hc36
   clear hL;have hL:=hL1;clear hL1
   refine hK.out _ _ (hL.pop.pop) (fun hHeld2=>?_)
   clear hK K hHeld;have hHeld:=hHeld2;clear hHeld2
   refine p7 ?_
   refine wpAnyH_ready (rs:=[7]) (by kernel_rfl) (by simp) ((AllReadyH.cons rfl (fun K hK=>?_) AllReadyH.nil))
   rw [if_pos (by rfl)]
   refine eCall rfl (by simp only [List.map_toArray,List.map_cons,List.map_nil];rfl) ((HB0.out _).mono ?_)
   rintro e w1 ⟨rfl,hb1⟩;refine ⟨_,rfl,?_⟩;have hL1:=hL.keep hb1;clear hb1
   clear hL;have hL:=hL1;clear hL1
   refine hK.out _ _ (hL.pop.pop) (fun hHeld2=>?_)
   clear hK K hHeld;have hHeld:=hHeld2;clear hHeld2
   refine p7 ?_
   refine wpAnyH_ready (rs:=[10]) (by kernel_rfl) (by simp) ((AllReadyH.cons rfl (fun K hK=>?_) AllReadyH.nil))
   rw [if_pos (by rfl)]
   first | refine eBS1i hL rfl rfl fun b42 w1 hL1=>?_ | refine eBS1s hL rfl rfl fun b42 w1 hL1=>?_ | refine eBS2s hL rfl rfl rfl fun b42 w1 hL1=>?_ | refine eBS3s hL rfl rfl rfl rfl fun b42 w1 hL1=>?_ | refine eBS2i hL rfl rfl rfl fun b42 w1 hL1=>?_
   clear hL;have hL:=hL1;clear hL1
   refine hK.out _ _ (hL.pop.pop.pop) (fun hHeld2=>?_)
   clear hK K hHeld;have hHeld:=hHeld2;clear hHeld2
   refine p7 ?_
   refine wpAnyH_ready (rs:=[11]) (by kernel_rfl) (by simp) ((AllReadyH.cons rfl (fun K hK=>?_) AllReadyH.nil))
   rw [if_pos (by rfl)]
   refine eCall rfl (by simp only [List.map_toArray,List.map_cons,List.map_nil];rfl) ((P5.out _ (.slice (some ⟨g36,0,none⟩) x4.length cap36) (.slice (some ⟨b42,0,none⟩) 2 2) (See.bytes hL) (See.see _ hL)).mono ?_)
   rintro e w1 ⟨g43,cap43,cur43,rfl,hr43,hg43,hc43,hb43⟩;refine ⟨_,rfl,?_⟩;have hL1:=hL.fresh hb43 hg43 hc43;clear hb43 hg43 hc43
   clear hL;have hL:=hL1;clear hL1
   refine hK.out _ _ (hL.pop.pop.pop.pop) (fun hHeld2=>?_)
   clear hK K hHeld;have hHeld:=hHeld2;clear hHeld2
   refine p7 ?_
   refine tg 12 hHeld ?_
   refine p7 ?_
   refine wpAnyH_done (by kernel_rfl) (NoPanic.normal ?_) _
   clear hHeld
   go_wp2_with (first | refine aU ?_ | (refine aL3S6p ?_;clear hL;intro w1 hL))
   go_roundw
   case rel=>exact .inr (.inl ⟨rfl,g43,cap43,cur43,rfl,hr43,Loc.rem b42 (Loc.rem g36 (Loc.rem b35 (Loc.rem b6 (Loc.rem g26 hL))))⟩)
   case measure=>simp only [intOf];decide
  ·skip
   go_wp2_with (first | refine aU ?_ | ((with_reducible refine gS 6 ?_);refine aBp ?_;clear hL;intro b6 w1 hL) | (refine aL3S6p ?_;clear hL;intro w1 hL))
   refine wp_region_mix (S:=fun w'=>Loc _ w' _) 13 (by kernel_rfl) (by kernel_rfl) (hL.drew) (fun hHeld=>?_)
   replace hL:=hL.drew
   refine tg 0 hHeld ?_
   refine p7 ?_
   refine tg 1 hHeld ?_
   refine p7 ?_
   refine tg 5 hHeld ?_
   refine p7 ?_
   refine tg 8 hHeld ?_
   refine p7 ?_
   refine tz 2 hHeld ?_
   refine p7 ?_
   refine tz 6 hHeld ?_
   refine p7 ?_
   refine tz 9 hHeld ?_
   refine p7 ?_
   refine wpAnyH_ready (rs:=[3]) (by kernel_rfl) (by simp) ((AllReadyH.cons rfl (fun K hK=>?_) AllReadyH.nil))
   rw [if_pos (by rfl)]
   first | refine eBS1i hL rfl rfl fun b35 w1 hL1=>?_ | refine eBS1s hL rfl rfl fun b35 w1 hL1=>?_ | refine eBS2s hL rfl rfl rfl fun b35 w1 hL1=>?_ | refine eBS3s hL rfl rfl rfl rfl fun b35 w1 hL1=>?_ | refine eBS2i hL rfl rfl rfl fun b35 w1 hL1=>?_
   clear hL;have hL:=hL1;clear hL1
   refine hK.out _ _ (hL.pop) (fun hHeld2=>?_)
   clear hK K hHeld;have hHeld:=hHeld2;clear hHeld2
   refine p7 ?_
   refine wpAnyH_ready (rs:=[4]) (by kernel_rfl) (by simp) ((AllReadyH.cons rfl (fun K hK=>?_) AllReadyH.nil))
   rw [if_pos (by rfl)]
   refine eCall rfl (by simp only [List.map_toArray,List.map_cons,List.map_nil];rfl) ((P6.out _ (.slice (some ⟨g,0,none⟩) x5.length cap) (some ⟨b35,0,none⟩) 1 (See.bytes hL) (See.see _ hL) (See.bytes hL)).mono ?_)
   rintro e w1 ⟨g36,cap36,cur36,rfl,hr36,hg36,hc36,hb36⟩;refine ⟨_,rfl,?_⟩;have hL1:=hL.fresh hb36 hg36 hc36;clear hb36 hg36 hc36
   clear hL;have hL:=hL1;clear hL1
   refine hK.out _ _ (hL.pop.pop) (fun hHeld2=>?_)
   clear hK K hHeld;have hHeld:=hHeld2;clear hHeld2
   refine p7 ?_
   refine wpAnyH_ready (rs:=[7]) (by kernel_rfl) (by simp) ((AllReadyH.cons rfl (fun K hK=>?_) AllReadyH.nil))
   rw [if_pos (by rfl)]
   refine eCall rfl (by simp only [List.map_toArray,List.map_cons,List.map_nil];rfl) ((HB1.out _).mono ?_)
   rintro e w1 ⟨rfl,hb1⟩;refine ⟨_,rfl,?_⟩;have hL1:=hL.keep hb1;clear hb1
   clear hL;have hL:=hL1;clear hL1
   refine hK.out _ _ (hL.pop.pop) (fun hHeld2=>?_)
   clear hK K hHeld;have hHeld:=hHeld2;clear hHeld2
   refine p7 ?_
   refine wpAnyH_ready (rs:=[10]) (by kernel_rfl) (by simp) ((AllReadyH.cons rfl (fun K hK=>?_) AllReadyH.nil))
   rw [if_pos (by rfl)]
   first | refine eBS1i hL rfl rfl fun b42 w1 hL1=>?_ | refine eBS1s hL rfl rfl fun b42 w1 hL1=>?_ | refine eBS2s hL rfl rfl rfl fun b42 w1 hL1=>?_ | refine eBS3s hL rfl rfl rfl rfl fun b42 w1 hL1=>?_ | refine eBS2i hL rfl rfl rfl fun b42 w1 hL1=>?_
   clear hL;have hL:=hL1;clear hL1
   refine hK.out _ _ (hL.pop.pop.pop) (fun hHeld2=>?_)
   clear hK K hHeld;have hHeld:=hHeld2;clear hHeld2
   refine p7 ?_
   refine wpAnyH_ready (rs:=[11]) (by kernel_rfl) (by simp) ((AllReadyH.cons rfl (fun K hK=>?_) AllReadyH.nil))
   rw [if_pos (by rfl)]
   refine eCall rfl (by simp only [List.map_toArray,List.map_cons,List.map_nil];rfl) ((P7.out _ (.slice (some ⟨g36,0,none⟩) x6.length cap36) (.slice (some ⟨b42,0,none⟩) 2 2) (See.bytes hL) (See.see _ hL)).mono ?_)
   rintro e w1 ⟨g43,cap43,cur43,rfl,hr43,hg43,hc43,hb43⟩;refine ⟨_,rfl,?_⟩;have hL1:=hL.fresh hb43 hg43 hc43;clear hb43 hg43 hc43
   clear hL;have hL:=hL1;clear hL1
   refine hK.out _ _ (hL.pop.pop.pop.pop) (fun hHeld2=>?_)
   clear hK K hHeld;have hHeld:=hHeld2;clear hHeld2
   refine p7 ?_
   refine tg 12 hHeld ?_
   refine p7 ?_
   refine wpAnyH_done (by kernel_rfl) (NoPanic.normal ?_) _
   clear hHeld
   go_wp2_with (first | refine aU ?_ | (refine aL3S6p ?_;clear hL;intro w1 hL))
   go_roundw
   case rel=>exact .inr (.inr ⟨rfl,g43,cap43,cur43,rfl,hr43,Loc.rem b42 (Loc.rem g36 (Loc.rem b35 (Loc.rem b6 (Loc.rem g hL))))⟩)
   case measure=>simp only [intOf];decide
  ·skip
   go_wp2_with (first | refine aU ?_ | (refine aL3S6p ?_;clear hL;intro w1 hL))
   go_ret2
   exact ⟨g,cap,cur,rfl,hr,Loc.rem b1 hL⟩
instance iPck6:Ent 154:=Ent.of Tryz.func154 (by kernel_rfl) rfl
end Go.Proofs.YtoifhhljfaoejaaGreatDoor
