/-
  Lemmas of the law, part 44: the walks of the functions that it calls and the plain facts about them. No condition beyond those written.
-/
import Derived.Test.YtoifhhljfaoejaaGreatDoorPkAA
import Derived.Test.YtoifhhljfaoejaaGreatDoorPkBQ
namespace Go.Proofs.YtoifhhljfaoejaaGreatDoor
open Go Go.RowKit Go.Shelf
set_option linter.unusedVariables false
set_option linter.unusedSimpArgs false
set_option linter.unusedSectionVars false
set_option maxRecDepth 100000 in
theorem target_zero (s:Sta) (q:Sq) (h:¬ s.ac=0) (w:World):Calls Tryz.prog 216 #[.agg (stR s q)] w fun e w'=>e= .returned (.int .i64 0)∧Below w.heap.size w w':=by
 have hL:=Loc.nil w
 have h2:(s.ac == 0)=false:=by simpa using h
 go_enter Tryz.func216,Tryz.ntmps216
 go_wp2_with (first | refine aU ?_ | ((with_reducible refine gS 1 ?_);refine aBp ?_;clear hL;intro b1 w1 hL) | (refine aL3S6p ?_;clear hL;intro w1 hL))
 all_goals (go_ret;exact ⟨rfl,hL.bel⟩)
instance iBot1:Ent 216:=Ent.of Tryz.func216 (by kernel_rfl) rfl
instance iBot2:RowTy 200 2:=⟨⟨_,Tryz.underlying200,rfl⟩,by kernel_rfl⟩
instance iBot3:RowZ 200 #[.bool false,.bool false]:=⟨by kernel_rfl⟩
set_option maxRecDepth 100000 in
theorem pick_none (s:Sta) (q:Sq) (w:World) (hr:ReadS w s q) (hg:Good s) (hac:s.ac= -1) (hd:s.d0=false):Calls Tryz.prog 169 #[.agg (stR s q),.agg #[.bool false,.bool false]] w fun e w'=>e= .returned (.tuple #[.int .i64 (-1),.bool false])∧Below w.heap.size w w':=by
 have hL:=Loc.nil w
 have HM:=Lib.hid (fun w1 (h:Below w.heap.size w w1)=>may_any s q w1 ⟨hr.r.below h,by have:=hr.a.vrow.below h;exact this.brow,by have:=hr.b.vrow.below h;exact this.brow,hr.zr,hr.za,hr.zb⟩ hg)
 have HT:=Lib.hid (fun w1=>target_zero s q (by rw [hac];decide) w1)
 clear hr hg
 obtain ⟨fl,rv,m0,d0,t0,m1,d1,t1,ac⟩:=s
 dsimp only at hac hd
 subst hac
 subst hd
 go_enter Tryz.func169,Tryz.ntmps169
 go_wp2_with (first | refine aU ?_ | ((with_reducible refine gS 2 ?_);refine aBp ?_;clear hL;intro b2 w1 hL) | ((with_reducible refine gS 3 ?_);refine aBp ?_;clear hL;intro b3 w1 hL) | ((with_reducible refine gC 8 ?_);go_loud (refine lCall rfl rfl ((HM.out _ hL.bel).mono ?_) rfl);rintro e w1 ⟨rfl,hb1⟩;have hL1:=hL.keep hb1;clear hL;revert hL1;refine aE ?_;intro hL) | ((with_reducible refine gC 11 ?_);go_loud (refine lCall rfl rfl ((HT.out _).mono ?_) rfl);rintro e w1 ⟨rfl,hb1⟩;have hL1:=hL.keep hb1;clear hL;revert hL1;refine aE ?_;intro hL) | (refine aL3S6p ?_;clear hL;intro w1 hL))
 all_goals (go_ret2;exact ⟨rfl,hL.bel⟩)
instance iBot4:Ent 169:=Ent.of Tryz.func169 (by kernel_rfl) rfl
theorem brow_none {w:World} {p:Option Addr} {n c:Nat} {l:List (BitVec 8)} (h:BRow w (.slice p n c) l) (hp:p=none):c=0:=by
 obtain ⟨a,c',e,hn,_⟩:=h
 injection e with e1 e2 e3
 rw [e3]
 exact hn (by rw [← e1];exact hp)
section
variable {w0 w:World} {F:Array Value→Array Value→Array Value→Array Value→Array Value→Mem} {bf bb bo bk kp a0 a1 cc:Nat} {fr fs:Nat→BitVec 8}
set_option maxRecDepth 100000 in
theorem coMay_none0 (hF:CoM F bf bb bo bk kp a0 a1 cc) (d:Dv) (hS:∀ x y z u c,SeeS w0 (F x y z u c) d.s d.q) (hm:d.s.m0=[]) (hL:Loc w0 w (d.at F bf bb bo kp fr fs)) :
 Calls Tryz.prog 168 #[ptrV cc,.int .i64 0] w fun e w'=>e= .returned (.bool false)∧Loc w0 w' (d.at F bf bb bo kp fr fs):=by
 have hG:=hF.g
 have hp:=(hS #[] #[] #[] #[] #[]).za hm
 have hc:=brow_none ((hS _ _ _ _ _).read hL).a hp
 clear hS
 obtain ⟨er,pr,y,f,n,m,p,kn,kc,half,s,q,bt,rg⟩:=d
 obtain ⟨fl,rv,m0,d0,t0,m1,d1,t1,ac⟩:=s
 obtain ⟨pr',cr',p0,c0,p1,c1⟩:=q
 dsimp only [Dv.at] at *
 subst hm
 subst hp
 subst hc
 go_enter Tryz.func168,Tryz.ntmps168
 go_wp2_with (first | refine aU ?_ | ((with_reducible refine gS 5 ?_);refine aBp ?_;clear hL;intro b5 w1 hL) | ((with_reducible refine gC 16 ?_);go_loud (refine lCall rfl rfl ((readMf_nil _).mono ?_) rfl);rintro e w1 ⟨rfl,hb1⟩;have hL1:=hL.keep hb1;clear hL;revert hL1;refine aE ?_;intro hL) | (refine aL3S6p ?_;clear hL;intro w1 hL))
 refine wp_region_mix (S:=fun w'=>Loc _ w' _) 21 (by kernel_rfl) (by kernel_rfl) (hL.drew) (fun hHeld=>?_)
 replace hL:=hL.drew
 refine tg 0 hHeld ?_
 refine p7 ?_
 refine tg 1 hHeld ?_
 refine p7 ?_
 refine tg 2 hHeld ?_
 refine p7 ?_
 first | refine tk 3 rfl (Or.inr ⟨by rfl,rfl⟩) hHeld ?_ | refine tg 3 hHeld ?_
 refine p7 ?_
 first | refine tk 4 rfl (Or.inr ⟨by rfl,rfl⟩) hHeld ?_ | refine tg 4 hHeld ?_
 refine p7 ?_
 first | refine tk 5 rfl (Or.inr ⟨by rfl,rfl⟩) hHeld ?_ | refine tg 5 hHeld ?_
 refine p7 ?_
 first | refine tk 6 rfl (Or.inr ⟨by rfl,rfl⟩) hHeld ?_ | refine tk 6 rfl (zL (by rfl) rfl rfl) hHeld ?_ | refine tk 6 rfl (zI (by rfl) rfl rfl) hHeld ?_ | refine tk 6 rfl (zC (by rfl) rfl rfl) hHeld ?_ | refine tk 6 rfl (yW rfl rfl rfl) hHeld ?_
 refine p7 ?_
 first | refine tk 7 rfl (Or.inr ⟨by rfl,rfl⟩) hHeld ?_ | refine tg 7 hHeld ?_
 refine p7 ?_
 first | refine tk 8 rfl (Or.inr ⟨by rfl,rfl⟩) hHeld ?_ | refine tg 8 hHeld ?_
 refine p7 ?_
 refine tg 9 hHeld ?_
 refine p7 ?_
 refine tg 10 hHeld ?_
 refine p7 ?_
 first | refine tk 11 rfl (Or.inr ⟨by rfl,rfl⟩) hHeld ?_ | refine tg 11 hHeld ?_
 refine p7 ?_
 first | refine tk 13 rfl (Or.inr ⟨by rfl,rfl⟩) hHeld ?_ | refine tg 13 hHeld ?_
 refine p7 ?_
 first | refine tk 12 rfl (Or.inr ⟨by rfl,rfl⟩) hHeld ?_ | refine tk 12 rfl (zL (by rfl) rfl rfl) hHeld ?_ | refine tk 12 rfl (zI (by rfl) rfl rfl) hHeld ?_ | refine tk 12 rfl (zC (by rfl) rfl rfl) hHeld ?_ | refine tk 12 rfl (yW rfl rfl rfl) hHeld ?_
 refine p7 ?_
 first | refine tk 14 rfl (Or.inr ⟨by rfl,rfl⟩) hHeld ?_ | refine tg 14 hHeld ?_
 refine p7 ?_
 first | refine tk 15 rfl (Or.inr ⟨by rfl,rfl⟩) hHeld ?_ | refine tg 15 hHeld ?_
 refine p7 ?_
 first | refine tk 16 rfl (Or.inr ⟨by rfl,rfl⟩) hHeld ?_ | refine tg 16 hHeld ?_
 refine p7 ?_
 first | refine tk 17 rfl (Or.inr ⟨by rfl,rfl⟩) hHeld ?_ | refine tk 17 rfl (zL (by rfl) rfl rfl) hHeld ?_ | refine tk 17 rfl (zI (by rfl) rfl rfl) hHeld ?_ | refine tk 17 rfl (zC (by rfl) rfl rfl) hHeld ?_ | refine tk 17 rfl (yW rfl rfl rfl) hHeld ?_
 refine p7 ?_
 first | refine tk 18 rfl (Or.inr ⟨by rfl,rfl⟩) hHeld ?_ | refine tg 18 hHeld ?_
 refine p7 ?_
 refine tg 19 hHeld ?_
 refine p7 ?_
 refine tg 20 hHeld ?_
 refine p7 ?_
 refine wpAnyH_done (by kernel_rfl) (NoPanic.normal ?_) _
 clear hHeld
 go_wp2_with fail
 all_goals (go_ret;exact ⟨rfl,Loc.rem b5 hL⟩)
set_option maxRecDepth 100000 in
theorem coMay_none1 (hF:CoM F bf bb bo bk kp a0 a1 cc) (d:Dv) (hS:∀ x y z u c,SeeS w0 (F x y z u c) d.s d.q) (hm:d.s.m1=[]) (hL:Loc w0 w (d.at F bf bb bo kp fr fs)) :
 Calls Tryz.prog 168 #[ptrV cc,.int .i64 1] w fun e w'=>e= .returned (.bool false)∧Loc w0 w' (d.at F bf bb bo kp fr fs):=by
 have hG:=hF.g
 have hp:=(hS #[] #[] #[] #[] #[]).zb hm
 have hc:=brow_none ((hS _ _ _ _ _).read hL).b hp
 clear hS
 obtain ⟨er,pr,y,f,n,m,p,kn,kc,half,s,q,bt,rg⟩:=d
 obtain ⟨fl,rv,m0,d0,t0,m1,d1,t1,ac⟩:=s
 obtain ⟨pr',cr',p0,c0,p1,c1⟩:=q
 dsimp only [Dv.at] at *
 subst hm
 subst hp
 subst hc
 go_enter Tryz.func168,Tryz.ntmps168
 go_wp2_with (first | refine aU ?_ | ((with_reducible refine gS 5 ?_);refine aBp ?_;clear hL;intro b5 w1 hL) | ((with_reducible refine gC 16 ?_);go_loud (refine lCall rfl rfl ((readMf_nil _).mono ?_) rfl);rintro e w1 ⟨rfl,hb1⟩;have hL1:=hL.keep hb1;clear hL;revert hL1;refine aE ?_;intro hL) | (refine aL3S6p ?_;clear hL;intro w1 hL))
 refine wp_region_mix (S:=fun w'=>Loc _ w' _) 21 (by kernel_rfl) (by kernel_rfl) (hL.drew) (fun hHeld=>?_)
 replace hL:=hL.drew
 refine tg 0 hHeld ?_
 refine p7 ?_
 refine tg 1 hHeld ?_
 refine p7 ?_
 refine tg 2 hHeld ?_
 refine p7 ?_
 first | refine tk 3 rfl (Or.inr ⟨by rfl,rfl⟩) hHeld ?_ | refine tg 3 hHeld ?_
 refine p7 ?_
 first | refine tk 4 rfl (Or.inr ⟨by rfl,rfl⟩) hHeld ?_ | refine tg 4 hHeld ?_
 refine p7 ?_
 first | refine tk 5 rfl (Or.inr ⟨by rfl,rfl⟩) hHeld ?_ | refine tg 5 hHeld ?_
 refine p7 ?_
 first | refine tk 6 rfl (Or.inr ⟨by rfl,rfl⟩) hHeld ?_ | refine tk 6 rfl (zL (by rfl) rfl rfl) hHeld ?_ | refine tk 6 rfl (zI (by rfl) rfl rfl) hHeld ?_ | refine tk 6 rfl (zC (by rfl) rfl rfl) hHeld ?_ | refine tk 6 rfl (yW rfl rfl rfl) hHeld ?_
 refine p7 ?_
 first | refine tk 7 rfl (Or.inr ⟨by rfl,rfl⟩) hHeld ?_ | refine tg 7 hHeld ?_
 refine p7 ?_
 first | refine tk 8 rfl (Or.inr ⟨by rfl,rfl⟩) hHeld ?_ | refine tg 8 hHeld ?_
 refine p7 ?_
 refine tg 9 hHeld ?_
 refine p7 ?_
 refine tg 10 hHeld ?_
 refine p7 ?_
 first | refine tk 11 rfl (Or.inr ⟨by rfl,rfl⟩) hHeld ?_ | refine tg 11 hHeld ?_
 refine p7 ?_
 first | refine tk 13 rfl (Or.inr ⟨by rfl,rfl⟩) hHeld ?_ | refine tg 13 hHeld ?_
 refine p7 ?_
 first | refine tk 12 rfl (Or.inr ⟨by rfl,rfl⟩) hHeld ?_ | refine tk 12 rfl (zL (by rfl) rfl rfl) hHeld ?_ | refine tk 12 rfl (zI (by rfl) rfl rfl) hHeld ?_ | refine tk 12 rfl (zC (by rfl) rfl rfl) hHeld ?_ | refine tk 12 rfl (yW rfl rfl rfl) hHeld ?_
 refine p7 ?_
 first | refine tk 14 rfl (Or.inr ⟨by rfl,rfl⟩) hHeld ?_ | refine tg 14 hHeld ?_
 refine p7 ?_
 first | refine tk 15 rfl (Or.inr ⟨by rfl,rfl⟩) hHeld ?_ | refine tg 15 hHeld ?_
 refine p7 ?_
 first | refine tk 16 rfl (Or.inr ⟨by rfl,rfl⟩) hHeld ?_ | refine tg 16 hHeld ?_
 refine p7 ?_
 first | refine tk 17 rfl (Or.inr ⟨by rfl,rfl⟩) hHeld ?_ | refine tk 17 rfl (zL (by rfl) rfl rfl) hHeld ?_ | refine tk 17 rfl (zI (by rfl) rfl rfl) hHeld ?_ | refine tk 17 rfl (zC (by rfl) rfl rfl) hHeld ?_ | refine tk 17 rfl (yW rfl rfl rfl) hHeld ?_
 refine p7 ?_
 first | refine tk 18 rfl (Or.inr ⟨by rfl,rfl⟩) hHeld ?_ | refine tg 18 hHeld ?_
 refine p7 ?_
 refine tg 19 hHeld ?_
 refine p7 ?_
 refine tg 20 hHeld ?_
 refine p7 ?_
 refine wpAnyH_done (by kernel_rfl) (NoPanic.normal ?_) _
 clear hHeld
 go_wp2_with fail
 all_goals (go_ret;exact ⟨rfl,Loc.rem b5 hL⟩)
instance iBot5:Ent 168:=Ent.of Tryz.func168 (by kernel_rfl) rfl
theorem build_two (a b:Bool) (w:World):(Instr.build 200 #[(0,.bool a),(1,.bool b)]).run Tryz.prog w= .ok (.agg #[.bool a,.bool b]) w:=by kernel_rfl
set_option maxRecDepth 100000 in
theorem boot_none (hF:CoM F bf bb bo bk kp a0 a1 cc) (d:Dv) (hS:∀ x y z u c,SeeS w0 (F x y z u c) d.s d.q) (hg:Good d.s) (hm0:d.s.m0=[]) (hm1:d.s.m1=[]) (hac:d.s.ac= -1) (hd:d.s.d0=false) (hbt:d.bt= -1) (hL:Loc w0 w (d.at F bf bb bo kp fr fs)) :
 Calls Tryz.prog 99 #[ptrV cc] w fun e w'=>e= .returned (.int .i64 18)∧Loc w0 w' (d.at F bf bb bo kp fr fs):=by
 have hG:=hF.g;have hH:=hF.h
 have hA:=hF.a;have hU:=hF.u;have hB:=hF.b;have hV:=hF.v;have hO:=hF.o;have hPP:=hF.p;have hQ:=hF.q;have hRR:=hF.r;have hKK:=hF.k;have hll:=hF.l;have hmm:=hF.m
 have H0:=Lib.hid (fun w1 (h:Loc w0 w1 (d.at F bf bb bo kp fr fs))=>coMay_none0 hF d hS hm0 h)
 have H1:=Lib.hid (fun w1 (h:Loc w0 w1 (d.at F bf bb bo kp fr fs))=>coMay_none1 hF d hS hm1 h)
 have HP:=Lib.hid (fun w1 (h:Loc w0 w1 (d.at F bf bb bo kp fr fs))=>pick_none d.s d.q w1 ((hS _ _ _ _ _).read h) hg hac hd)
 clear hS hg hac hd hm0 hm1
 obtain ⟨er,pr,y,f,n,m,p,kn,kc,half,s,q,bt,rg⟩:=d
 dsimp only [Dv.at] at *
 subst hbt
 go_enter Tryz.func99,Tryz.ntmps99
 go_wp2_with (first | refine aU ?_ | ((with_reducible refine gS 3 ?_);refine aBp ?_;clear hL;intro b3 w1 hL) | ((with_reducible refine gC 8 ?_);go_loud (refine lCall rfl rfl ((H0.out _ hL).mono ?_) rfl);rintro e w1 ⟨rfl,hL1⟩;clear hL;revert hL1;refine aE ?_;intro hL) | ((with_reducible refine gC 10 ?_);go_loud (refine lCall rfl rfl ((H1.out _ hL).mono ?_) rfl);rintro e w1 ⟨rfl,hL1⟩;clear hL;revert hL1;refine aE ?_;intro hL) | ((with_reducible show wpList _ _ _ (⟨some 11,.build _ _,_,_,_,_⟩ :: _) _ _);refine lU hL rfl rfl (build_two _ _ _) rfl ?_;clear hL;intro w1 hL;refine p4 ?_) | (refine aL3S6p ?_;clear hL;intro w1 hL))
 refine wp_region_mix (S:=fun w'=>Loc _ w' _) 11 (by kernel_rfl) (by kernel_rfl) (hL.drew) (fun hHeld=>?_)
 replace hL:=hL.drew
 refine tg 0 hHeld ?_
 refine p7 ?_
 refine tz 4 hHeld ?_
 refine p7 ?_
 refine tg 1 hHeld ?_
 refine p7 ?_
 refine tg 2 hHeld ?_
 refine p7 ?_
 refine tz 3 hHeld ?_
 refine p7 ?_
 refine wpAnyH_ready (rs:=[5]) (by kernel_rfl) (by simp) ((AllReadyH.cons rfl (fun K hK=>?_) AllReadyH.nil))
 rw [if_pos (by rfl)]
 refine eCall rfl (by simp only [List.map_toArray,List.map_cons,List.map_nil];rfl) ((HP.out _ hL.pop).mono ?_)
 rintro e w1 ⟨rfl,hb1⟩;refine ⟨_,rfl,?_⟩;have hL1:=hL.keep hb1;clear hb1
 clear hL;have hL:=hL1;clear hL1
 refine hK.out _ _ (hL) (fun hHeld2=>?_)
 clear hK K hHeld;have hHeld:=hHeld2;clear hHeld2
 refine p7 ?_
 refine tg 6 hHeld ?_
 refine p7 ?_
 refine tg 7 hHeld ?_
 refine p7 ?_
 refine tg 8 hHeld ?_
 refine p7 ?_
 refine tg 9 hHeld ?_
 refine p7 ?_
 refine tg 10 hHeld ?_
 refine p7 ?_
 refine wpAnyH_done (by kernel_rfl) (NoPanic.normal ?_) _
 clear hHeld
 go_wp2_with (first | refine aU ?_ | (refine aL3S6p ?_;clear hL;intro w1 hL))
 all_goals (go_ret;exact ⟨rfl,Loc.rem b3 hL⟩)
instance iBot6:Ent 99:=Ent.of Tryz.func99 (by kernel_rfl) rfl
set_option maxRecDepth 100000 in
theorem feed_short {M:Mem} (v:Value) (l:List (BitVec 8)) (hv:∀ w1,Loc w0 w1 M→BRow w1 v l) (h0:0<l.length) (h4:l.length<4) (hL:Loc w0 w M) :
 Calls Tryz.prog 96 #[ptrV cc,v] w fun e w'=>e= .returned (.int .i64 4)∧Loc w0 w' M:=by
 have HR:=Lib.hid (fun w1 (h:Loc w0 w1 M)=>readMf_short v l w1 (hv w1 h) h0 h4)
 clear hv
 go_enter Tryz.func96,Tryz.ntmps96
 go_wp2_with (first | refine aU ?_ | ((with_reducible refine gS 5 ?_);refine aBp ?_;clear hL;intro b5 w1 hL) | ((with_reducible refine gC 12 ?_);go_loud (refine lCall rfl rfl ((HR.out _ hL).mono ?_) rfl);rintro e w1 ⟨rfl,hb1⟩;have hL1:=hL.keep hb1;clear hL;revert hL1;refine aE ?_;intro hL) | (refine aL3S6p ?_;clear hL;intro w1 hL))
 all_goals (go_ret;exact ⟨rfl,Loc.rem b5 hL⟩)
instance iBot7:Ent 96:=Ent.of Tryz.func96 (by kernel_rfl) rfl
end
end Go.Proofs.YtoifhhljfaoejaaGreatDoor
namespace Go.Proofs.YtoifhhljfaoejaaGreatDoor
open Go Go.RowKit Go.Shelf
set_option linter.unusedVariables false
set_option linter.unusedSimpArgs false
set_option linter.unusedSectionVars false
abbrev mvR (k:Int) (p:Option Addr) (n c:Nat) (N:Int):Array Value:= #[.int .i64 k,.slice p n c,.int .i64 N]
abbrev dvR (bf cc:Nat):Array Value:= #[ptrV bf,ptrV cc,.bool false]
instance iMvs1:RowTy 47 3:=⟨⟨_,Tryz.underlying47,rfl⟩,by kernel_rfl⟩
instance row1Nil:Row1 #[] 0:=⟨rfl,by simp⟩
instance iMvs4:RowTy 184 0:=⟨⟨_,Tryz.underlying184,rfl⟩,by kernel_rfl⟩
instance iMvs5:RowZ 184 #[]:=⟨by kernel_rfl⟩
set_option maxRecDepth 100000 in
theorem move_1 (p:Option Addr) (n c:Nat) (N:Int) (w:World):Calls Tryz.prog 95 #[.agg (mvR 1 p n c N)] w fun e w'=>e= .returned (.iface 178 (.slice p n c))∧Below w.heap.size w w':=by
 have hL:=Loc.nil w
 go_enter Tryz.func95,Tryz.ntmps95
 go_wp2_with (first | refine aU ?_ | ((with_reducible refine gS 1 ?_);refine aBp ?_;clear hL;intro b1 w1 hL) | (refine aL3S6p ?_;clear hL;intro w1 hL))
 all_goals (go_ret;exact ⟨rfl,hL.bel⟩)
set_option maxRecDepth 100000 in
theorem move_4 (p:Option Addr) (n c:Nat) (N:Int) (w:World):Calls Tryz.prog 95 #[.agg (mvR 4 p n c N)] w fun e w'=>e= .returned (.iface 184 (.agg #[]))∧Below w.heap.size w w':=by
 have hL:=Loc.nil w
 go_enter Tryz.func95,Tryz.ntmps95
 go_wp2_with (first | refine aU ?_ | ((with_reducible refine gS 1 ?_);refine aBp ?_;clear hL;intro b1 w1 hL) | (refine aL3S6p ?_;clear hL;intro w1 hL))
 all_goals (go_ret;exact ⟨rfl,hL.bel⟩)
set_option maxRecDepth 100000 in
theorem move_6 (p:Option Addr) (n c:Nat) (N:Int) (w:World):Calls Tryz.prog 95 #[.agg (mvR 6 p n c N)] w fun e w'=>e= .returned (.iface 186 (.slice p n c))∧Below w.heap.size w w':=by
 have hL:=Loc.nil w
 go_enter Tryz.func95,Tryz.ntmps95
 go_wp2_with (first | refine aU ?_ | ((with_reducible refine gS 1 ?_);refine aBp ?_;clear hL;intro b1 w1 hL) | (refine aL3S6p ?_;clear hL;intro w1 hL))
 all_goals (go_ret;exact ⟨rfl,hL.bel⟩)
instance iMvs10:Ent 95:=Ent.of Tryz.func95 (by kernel_rfl) rfl
theorem ta_feed (v:Value) (w:World):(Instr.typeAssert (.iface 178 v) 20 178 true).run Tryz.prog w= .ok (.tuple #[v,.bool true]) w:=by kernel_rfl
theorem ta_boot (v:Value) (w:World):(Instr.typeAssert (.iface 184 v) 20 184 true).run Tryz.prog w= .ok (.tuple #[v,.bool true]) w:=by kernel_rfl
theorem ta_boot_feed (v:Value) (w:World):(Instr.typeAssert (.iface 184 v) 20 178 true).run Tryz.prog w= .ok (.tuple #[.slice none 0 0,.bool false]) w:=by kernel_rfl
theorem ta_boot_block (v:Value) (w:World):(Instr.typeAssert (.iface 184 v) 20 180 true).run Tryz.prog w= .ok (.tuple #[.agg (mvR 0 none 0 0 0),.bool false]) w:=by kernel_rfl
theorem ta_boot_commit (v:Value) (w:World):(Instr.typeAssert (.iface 184 v) 20 183 true).run Tryz.prog w= .ok (.tuple #[.agg #[],.bool false]) w:=by kernel_rfl
theorem ta_revoke (v:Value) (w:World):(Instr.typeAssert (.iface 186 v) 20 186 true).run Tryz.prog w= .ok (.tuple #[v,.bool true]) w:=by kernel_rfl
theorem ta_revoke_feed (v:Value) (w:World):(Instr.typeAssert (.iface 186 v) 20 178 true).run Tryz.prog w= .ok (.tuple #[.slice none 0 0,.bool false]) w:=by kernel_rfl
theorem ta_revoke_block (v:Value) (w:World):(Instr.typeAssert (.iface 186 v) 20 180 true).run Tryz.prog w= .ok (.tuple #[.agg (mvR 0 none 0 0 0),.bool false]) w:=by kernel_rfl
theorem ta_revoke_commit (v:Value) (w:World):(Instr.typeAssert (.iface 186 v) 20 183 true).run Tryz.prog w= .ok (.tuple #[.agg #[],.bool false]) w:=by kernel_rfl
theorem ta_revoke_boot (v:Value) (w:World):(Instr.typeAssert (.iface 186 v) 20 184 true).run Tryz.prog w= .ok (.tuple #[.agg #[],.bool false]) w:=by kernel_rfl
theorem ta_revoke_confirm (v:Value) (w:World):(Instr.typeAssert (.iface 186 v) 20 185 true).run Tryz.prog w= .ok (.tuple #[.agg #[],.bool false]) w:=by kernel_rfl
section
variable {w0 w:World} {M:Mem} {cc:Nat} {p:Option Addr} {n c:Nat} {N:Int}
set_option maxRecDepth 100000 in
theorem coDo_feed (R:Int→Mem→Prop) (hf:∀ b w1,Loc w0 w1 ((b,mvR 1 p n c N,47) :: M)→Calls Tryz.prog 96 #[ptrV cc,.slice p n c] w1 fun e w'=>∃ v M',e= .returned (.int .i64 v)∧R v M'∧Loc w0 w' ((b,mvR 1 p n c N,47) :: M'))
 (hL:Loc w0 w M):Calls Tryz.prog 52 #[ptrV cc,.agg (mvR 1 p n c N)] w fun e w'=>∃ v M',e= .returned (.tuple #[.slice none 0 0,.int .i64 v])∧R v M'∧Loc w0 w' M':=by
 have HF:=Lib.hid hf
 have HM:=Lib.hid (fun w1=>move_1 p n c N w1)
 clear hf
 have ht:=ta_feed
 go_enter Tryz.func52,Tryz.ntmps52
 go_wp2_with (first | refine aU ?_ | ((with_reducible refine gS 3 ?_);refine aBp ?_;clear hL;intro b3 w1 hL) | ((with_reducible refine gS 7 ?_);refine aBp ?_;clear hL;intro b7 w1 hL) | ((with_reducible refine gS 8 ?_);refine aBp ?_;clear hL;intro b8 w1 hL) | ((with_reducible refine gS 9 ?_);refine aBp ?_;clear hL;intro b9 w1 hL) | ((with_reducible refine gS 10 ?_);refine aBp ?_;clear hL;intro b10 w1 hL) | ((with_reducible refine gC 14 ?_);go_loud (refine lCall rfl rfl ((HM.out _).mono ?_) rfl);rintro e w1 ⟨rfl,hb1⟩;have hL1:=hL.keep hb1;clear hL;revert hL1;refine aE ?_;intro hL) | ((with_reducible refine gC 20 ?_);go_loud (refine lCall rfl rfl ((HF.out _ _ hL).mono ?_) rfl);rintro e w1 ⟨v,M',rfl,hRv,hL1⟩;clear hL;revert hL1;refine aE ?_;intro hL) | (refine aL3S6p ?_;clear hL;intro w1 hL))
 all_goals (go_ret2;exact ⟨v,M',rfl,hRv,Loc.rem b3 hL⟩)
set_option maxRecDepth 100000 in
theorem coDo_revoke (R:Int→Mem→Prop) (hf:∀ b w1,Loc w0 w1 ((b,mvR 6 p n c N,47) :: M)→Calls Tryz.prog 101 #[ptrV cc,.slice p n c] w1 fun e w'=>∃ v M',e= .returned (.int .i64 v)∧R v M'∧Loc w0 w' ((b,mvR 6 p n c N,47) :: M'))
 (hL:Loc w0 w M):Calls Tryz.prog 52 #[ptrV cc,.agg (mvR 6 p n c N)] w fun e w'=>∃ v M',e= .returned (.tuple #[.slice none 0 0,.int .i64 v])∧R v M'∧Loc w0 w' M':=by
 have HF:=Lib.hid hf
 have HM:=Lib.hid (fun w1=>move_6 p n c N w1)
 clear hf
 have ht0:=ta_revoke_feed;have ht1:=ta_revoke_block;have ht2:=ta_revoke_commit;have ht3:=ta_revoke_boot;have ht4:=ta_revoke_confirm;have ht:=ta_revoke
 go_enter Tryz.func52,Tryz.ntmps52
 go_wp2_with (first | refine aU ?_ | ((with_reducible refine gS 3 ?_);refine aBp ?_;clear hL;intro b3 w1 hL) | ((with_reducible refine gS 7 ?_);refine aBp ?_;clear hL;intro b7 w1 hL) | ((with_reducible refine gS 8 ?_);refine aBp ?_;clear hL;intro b8 w1 hL) | ((with_reducible refine gS 9 ?_);refine aBp ?_;clear hL;intro b9 w1 hL) | ((with_reducible refine gS 10 ?_);refine aBp ?_;clear hL;intro b10 w1 hL) | ((with_reducible refine gC 14 ?_);go_loud (refine lCall rfl rfl ((HM.out _).mono ?_) rfl);rintro e w1 ⟨rfl,hb1⟩;have hL1:=hL.keep hb1;clear hL;revert hL1;refine aE ?_;intro hL) | ((with_reducible refine gC 50 ?_);go_loud (refine lCall rfl rfl ((HF.out _ _ hL).mono ?_) rfl);rintro e w1 ⟨v,M',rfl,hRv,hL1⟩;clear hL;revert hL1;refine aE ?_;intro hL) | (refine aL3S6p ?_;clear hL;intro w1 hL))
 all_goals (go_ret2;exact ⟨v,M',rfl,hRv,Loc.rem b3 hL⟩)
set_option maxRecDepth 100000 in
theorem coDo_boot (R:Int→Mem→Prop) (hf:∀ b w1,Loc w0 w1 ((b,mvR 4 p n c N,47) :: M)→Calls Tryz.prog 99 #[ptrV cc] w1 fun e w'=>∃ v M',e= .returned (.int .i64 v)∧R v M'∧Loc w0 w' ((b,mvR 4 p n c N,47) :: M'))
 (hL:Loc w0 w M):Calls Tryz.prog 52 #[ptrV cc,.agg (mvR 4 p n c N)] w fun e w'=>∃ v M',e= .returned (.tuple #[.slice none 0 0,.int .i64 v])∧R v M'∧Loc w0 w' M':=by
 have HF:=Lib.hid hf
 have HM:=Lib.hid (fun w1=>move_4 p n c N w1)
 clear hf
 have ht0:=ta_boot_feed;have ht1:=ta_boot_block;have ht2:=ta_boot_commit;have ht:=ta_boot
 go_enter Tryz.func52,Tryz.ntmps52
 go_wp2_with (first | refine aU ?_ | ((with_reducible refine gS 3 ?_);refine aBp ?_;clear hL;intro b3 w1 hL) | ((with_reducible refine gS 7 ?_);refine aBp ?_;clear hL;intro b7 w1 hL) | ((with_reducible refine gS 8 ?_);refine aBp ?_;clear hL;intro b8 w1 hL) | ((with_reducible refine gS 9 ?_);refine aBp ?_;clear hL;intro b9 w1 hL) | ((with_reducible refine gS 10 ?_);refine aBp ?_;clear hL;intro b10 w1 hL) | ((with_reducible refine gC 14 ?_);go_loud (refine lCall rfl rfl ((HM.out _).mono ?_) rfl);rintro e w1 ⟨rfl,hb1⟩;have hL1:=hL.keep hb1;clear hL;revert hL1;refine aE ?_;intro hL) | ((with_reducible refine gC 39 ?_);go_loud (refine lCall rfl rfl ((HF.out _ _ hL.pop).mono ?_) rfl);rintro e w1 ⟨v,M',rfl,hRv,hL1⟩;clear hL;revert hL1;refine aE ?_;intro hL) | (refine aL3S6p ?_;clear hL;intro w1 hL))
 all_goals (go_ret2;exact ⟨v,M',rfl,hRv,Loc.rem b3 hL⟩)
instance iMvs11:Ent 52:=Ent.of Tryz.func52 (by kernel_rfl) rfl
end
end Go.Proofs.YtoifhhljfaoejaaGreatDoor
