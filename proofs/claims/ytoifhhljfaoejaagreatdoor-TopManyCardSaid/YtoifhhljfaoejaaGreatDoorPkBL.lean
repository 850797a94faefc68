/-
  Lemmas of the law, part 38: the walks of the functions that it calls and the plain facts about them. No condition beyond those written.
-/
import Derived.Test.YtoifhhljfaoejaaGreatDoorPkAA
import Derived.Test.YtoifhhljfaoejaaGreatDoorPkBK
namespace Go.Proofs.YtoifhhljfaoejaaGreatDoor
open Go Go.RowKit Go.Shelf
set_option linter.unusedVariables false
set_option linter.unusedSimpArgs false
set_option linter.unusedSectionVars false
class BkM (F:Array Value→Array Value→Array Value→Array Value→Mem) (bf bb bo bk:Nat):Prop where
 a:∀ x y z u,At (F x y z u) bf x 106
 u:∀ x y z u x',Ups (F x y z u) bf x' (F x' y z u)
 b:∀ x y z u,At (F x y z u) bb y 5
 v:∀ x y z u y',Ups (F x y z u) bb y' (F x y' z u)
 o:∀ x y z u,At (F x y z u) bo z 108
 p:∀ x y z u z',Ups (F x y z u) bo z' (F x y z' u)
 q:∀ x y z u,At (F x y z u) bk u 166
 r:∀ x y z u u',Ups (F x y z u) bk u' (F x y z u')
instance bkM (F:Array Value→Array Value→Array Value→Array Value→Mem) (bf bb bo bk:Nat) [h1:∀ x y z u,At (F x y z u) bf x 106] [h2:∀ x y z u x',Ups (F x y z u) bf x' (F x' y z u)] [h3:∀ x y z u,At (F x y z u) bb y 5] [h4:∀ x y z u y',Ups (F x y z u) bb y' (F x y' z u)] [h5:∀ x y z u,At (F x y z u) bo z 108] [h6:∀ x y z u z',Ups (F x y z u) bo z' (F x y z' u)] [h7:∀ x y z u,At (F x y z u) bk u 166] [h8:∀ x y z u u',Ups (F x y z u) bk u' (F x y z u')]:BkM F bf bb bo bk:=⟨h1,h2,h3,h4,h5,h6,h7,h8⟩
abbrev bkR (bf bo:Nat) (p:Option Addr) (n c:Nat) (half:Int):Array Value:= #[.pointer (some ⟨bf,0,none⟩),.pointer (some ⟨bo,0,none⟩),.slice p n c,.int .i64 half,.bool false]
theorem eraF_far {f:Nat→BitVec 8} {s:Nat} (h:s<64) (i:Nat) (hi:16384≤i):eraF f s 256 i=f i:=by unfold eraF;rw [if_neg (by omega)]
theorem prgF_far {f:Nat→BitVec 8} {a n:Nat} {l:List (BitVec 8)} (h:a+n≤16384) (i:Nat) (hi:16384≤i):prgF f a l n i=f i:=by unfold prgF;rw [if_neg (by omega)]
section
variable {w0 w:World} {F:Array Value→Array Value→Array Value→Array Value→Mem} {bf bb bo bk:Nat} [hF:BkM F bf bb bo bk] {er pr:Int} {y:Array Value} {fr fs:Nat→BitVec 8} {n m:Int} {f:Nat→BitVec 8}
set_option maxRecDepth 100000 in
theorem write_body {half:Int} {k:Nat} (hk:k<2) (hkh:1 - half=k) {kp:Option Addr} {kn kc:Nat} {p:Option Addr} {c:Nat} {l:List (BitVec 8)} (hl:l.length≤4096) (hS:∀ x y z u,See w0 (F x y z u) (.slice p l.length c) (encB l))
 (hn0:0≤n) (hnm:n<m) (hm:m≤1048576) (he:0≤er∧er≤1099511627776) (hp:0≤pr∧pr≤1099511627776) (hy:Fl f y)
 (R:Ending→World→Prop)
 (hR:∀ w1 er' pr' f' y',(0≤er'∧er'≤1099511627776)→(0≤pr'∧pr'≤1099511627776)→(∀ i,16384≤i→f' i=f i)→Fl f' y'→Loc w0 w1 (F (flR bb er' pr') y' (otR bf fr fs (n+1) m) (bkR bf bo kp kn kc half)) →
  Calls Tryz.prog 94 #[.slice p l.length c] w1 fun e w2=>∃ q d S,e= .returned (.slice q l.length d)∧Loc w0 w2 (S ++ F (flR bb er' pr') y' (otR bf fr fs (n+1) m) (bkR bf bo kp kn kc half)) ∧
   ∀ w3,Loc w0 w3 (S ++ F (flR bb er' pr') y' (otR bf fr fs (n+1) m) (bkR bf bo q l.length d k))→R (.returned (.int .i64 0)) w3)
 (hL:Loc w0 w (F (flR bb er pr) y (otR bf fr fs n m) (bkR bf bo kp kn kc half))) :
 Calls Tryz.prog 148 #[.pointer (some ⟨bk,0,none⟩),.slice p l.length c] w R:=by
 have hA:=hF.a;have hU:=hF.u;have hB:=hF.b;have hV:=hF.v;have hO:=hF.o;have hPP:=hF.p;have hQ:=hF.q;have hRR:=hF.r
 have HR:=Lib.hid hR
 have HE:=Lib.hid he
 have HP:=Lib.hid hp
 have HREC:=Lib.hid (fun w1 v (h:BRow w1 v l)=>record_any fs (n+1) v l w1 h (by omega) hl)
 have hrl:=recB_length fs (n+1) l
 generalize recB fs (n+1) l=rc at *
 have hrc1:rc.length≤4148:=by omega
 have hrc0:0<rc.length:=by omega
 clear hrl hR he hp
 have hwr:IntKind.i64.wrap (n+1)=n+1:=IntWalk.i64_in _ (by omega)
 go_enter Tryz.func148,Tryz.ntmps148
 go_wp2_with (first | refine aV ?_ | (refine aL3S5p ?_;clear hL;intro w1 hL))
 refine wp_region_mix (S:=fun w'=>Loc _ w' _) 18 (by kernel_rfl) (by kernel_rfl) (hL.drew) (fun hHeld=>?_)
 replace hL:=hL.drew
 refine tg 0 hHeld ?_
 refine p7 ?_
 refine tg 5 hHeld ?_
 refine p7 ?_
 refine tg 11 hHeld ?_
 refine p7 ?_
 refine tg 1 hHeld ?_
 refine p7 ?_
 refine tg 6 hHeld ?_
 refine p7 ?_
 refine tg 2 hHeld ?_
 refine p7 ?_
 refine tg 7 hHeld ?_
 refine p7 ?_
 refine tz 3 hHeld ?_
 refine p7 ?_
 refine tz 8 hHeld ?_
 refine p7 ?_
 refine wpAnyH_ready (rs:=[4]) (by kernel_rfl) (by simp) ((AllReadyH.cons rfl (fun K hK=>?_) AllReadyH.nil))
 rw [if_pos (by rfl)]
 refine eCall rfl (by simp only [List.map_toArray,List.map_cons,List.map_nil];rfl) ((otpSecret_any (F:=fun x y z=>F x y z (bkR bf bo kp kn kc half)) (bf:=bf) (bb:=bb) hL).mono ?_)
 rintro e w1 ⟨rfl,hL1⟩;refine ⟨_,rfl,?_⟩
 (try dsimp only at hL1);(try simp only [Nat.reduceAdd,Nat.reduceSub] at hL1)
 clear hL;have hL:=hL1;clear hL1
 refine hK.out _ _ (hL) (fun hHeld2=>?_)
 clear hK K hHeld;have hHeld:=hHeld2;clear hHeld2
 refine p7 ?_
 refine wpAnyH_ready (rs:=[9]) (by kernel_rfl) (by simp) ((AllReadyH.cons rfl (fun K hK=>?_) AllReadyH.nil))
 rw [if_pos (by rfl)]
 refine eCall rfl (by simp only [List.map_toArray,List.map_cons,List.map_nil];rfl) ((otpCount_any (F:=fun x y z=>F x y z (bkR bf bo kp kn kc half)) (bf:=bf) (bb:=bb) hL).mono ?_)
 rintro e w1 ⟨rfl,hL1⟩;refine ⟨_,rfl,?_⟩
 (try dsimp only at hL1);(try simp only [Nat.reduceAdd,Nat.reduceSub] at hL1)
 clear hL;have hL:=hL1;clear hL1
 refine hK.out _ _ (hL) (fun hHeld2=>?_)
 clear hK K hHeld;have hHeld:=hHeld2;clear hHeld2
 refine p7 ?_
 refine tg 10 hHeld ?_
 refine p7 ?_
 refine wpAnyH_ready (rs:=[12]) (by kernel_rfl) (by simp) ((AllReadyH.cons rfl (fun K hK=>?_) AllReadyH.nil))
 rw [if_pos (by rfl)]
 refine eCall rfl (by simp only [List.map_toArray,List.map_cons,List.map_nil];rfl) ((HREC.out _ (.slice p l.length c) (See.bytes hL)).mono ?_)
 rintro e w1 ⟨g23,cap23,cur23,rfl,hr23,hN⟩;refine ⟨_,rfl,?_⟩
 have hL1:=hL.join hN;clear hN;(try simp only [List.cons_append,List.nil_append,List.append_assoc] at hL1)
 clear hL;have hL:=hL1;clear hL1
 refine hK.out _ _ (hL.pop) (fun hHeld2=>?_)
 clear hK K hHeld;have hHeld:=hHeld2;clear hHeld2
 refine p7 ?_
 refine tg 13 hHeld ?_
 refine p7 ?_
 refine tg 14 hHeld ?_
 refine p7 ?_
 refine tg 15 hHeld ?_
 refine p7 ?_
 refine tg 16 hHeld ?_
 refine p7 ?_
 refine tg 17 hHeld ?_
 refine p7 ?_
 refine wpAnyH_done (by kernel_rfl) (NoPanic.normal ?_) _
 clear hHeld
 obtain ⟨a,ha⟩:∃ a,a=8192*k:=⟨_,rfl⟩
 have ha2:(k:Int)*32*256=(a:Nat):=by omega
 have ha3:a≤8192:=by omega
 have HA:=Lib.hid ha
 clear ha
 go_wp2_with (first | refine aV ?_ | (refine aL3S5p ?_;clear hL;intro w1 hL))
 have HF0:∀ i,16384≤i→f i=f i:=fun _ _=>rfl
 go_loopw [9] (fun kk wr=>∃ (j x:Nat) (e1:Int) (f1:Nat→BitVec 8) (y1:Array Value),x=256*j∧kk= .int .i64 x∧x≤5000∧(0≤e1∧e1≤1099511627776)∧(∀ i,16384≤i→f1 i=f i)∧Fl f1 y1∧Loc w0 wr ((g23,cur23,5) :: F (flR bb e1 pr) y1 (otR bf fr fs n m) (bkR bf bo kp kn kc half))) (fun kk _=>rc.length - (intOf kk).toNat)
 case atStart=>exact ⟨0,0,er,f,y,rfl,rfl,by omega,HE.out,HF0,hy,hL⟩
 case round =>
  clear hL hy HF0
  obtain ⟨j,x,e1,f1,y1,hx,rfl,hx5,he1,hf1,hy,hL⟩:=hrel
  have HX:=Lib.hid hx
  by_cases hlt:x<rc.length
  ·have k0:(0:Int)≤x:=by omega
   have k1:(x:Int)<rc.length:=by omega
   obtain ⟨s,hs⟩:∃ s,s=32*k+j:=⟨_,rfl⟩
   have hsx:a+x=256*s:=by have:=HA.out;omega
   have hs64:s<64:=by have:=HA.out;omega
   have HS:=Lib.hid hs
   have k2:((a:Int)+x) / 256=(s:Nat):=by omega
   clear hs hx
   go_wp2_with (first | refine aV ?_ | ((with_reducible refine gC 51 ?_);rw [k2];go_loud (refine lCall rfl rfl ((erase_any (F:=fun x y=>(g23,cur23,5) :: F x y (otR bf fr fs n m) (bkR bf bo kp kn kc half)) (bf:=bf) (bb:=bb) s (by omega) he1 hy hL).mono ?_) rfl);rintro e w1 ⟨rfl,e2,y2,he2,hy2,hL1⟩;clear hL;revert hL1;refine aE ?_;intro hL) | (refine aL3S5p ?_;clear hL;intro w1 hL))
   go_roundw
   case rel=>exact ⟨j+1,x+256,e2,_,y2,by rw [HX.out];omega,by go_num,by omega,he2,fun i hi=>by rw [eraF_far hs64 i hi];exact hf1 i hi,hy2,hL⟩
   case measure=>simp only [intOf];omega
  ·have k1:¬ (x:Int)<rc.length:=by omega
   clear hx
   have hcap:=hr23.le
   go_wp2_with (first | refine aV ?_ | ((with_reducible refine gC 59 ?_);go_loud (refine lCall rfl rfl ((program_any (F:=fun x y=>(g23,cur23,5) :: F x y (otR bf fr fs n m) (bkR bf bo kp kn kc half)) (bf:=bf) (bb:=bb) (l:=rc) a (fun x y=>inferInstance) rfl hcap hrc0 (by omega) HP.out hy hL).mono ?_) rfl);rintro e w1 ⟨rfl,p2,y2,hp2,hy2,hL1⟩;clear hL;revert hL1;refine aE ?_;intro hL) | ((with_reducible refine gC 66 ?_);go_loud (refine lCall rfl rfl ((step_any (F:=fun x y z=>(g23,cur23,5) :: F x y z (bkR bf bo kp kn kc half)) (bf:=bf) (bb:=bb) hn0 hnm hm hL).mono ?_) rfl);rintro e w1 ⟨rfl,hL1⟩;clear hL;revert hL1;refine aE ?_;intro hL) | ((go_at_call 94;go_loud (refine (HR.out _ _ _ _ _ he1 hp2 (fun i hi=>by rw [prgF_far (by omega) i hi];exact hf1 i hi) hy2 hL.pop).mono ?_);rintro e w1 ⟨q,d,S,rfl,hL1,hEnd⟩;clear hL;have hL:=hL1;clear hL1;refine p4 ?_)) | (refine aL3S5p ?_;clear hL;intro w1 hL))
   all_goals (go_ret;exact hEnd _ hL)
theorem write_nil {half:Int} {k:Nat} (hk:k<2) (hkh:1 - half=k) {kp:Option Addr} {kn kc:Nat} (hn0:0≤n) (hnm:n<m) (hm:m≤1048576) (he:0≤er∧er≤1099511627776) (hp:0≤pr∧pr≤1099511627776) (hy:Fl f y)
 (hL:Loc w0 w (F (flR bb er pr) y (otR bf fr fs n m) (bkR bf bo kp kn kc half))) :
 Calls Tryz.prog 148 #[.pointer (some ⟨bk,0,none⟩),.slice none 0 0] w fun e w'=>e= .returned (.int .i64 0)∧∃ er' pr' f' y',(0≤er'∧er'≤1099511627776)∧(0≤pr'∧pr'≤1099511627776)∧(∀ i,16384≤i→f' i=f i)∧Fl f' y' ∧
  Loc w0 w' (F (flR bb er' pr') y' (otR bf fr fs (n+1) m) (bkR bf bo none 0 0 k)) :=
 write_body (l:=[]) hk hkh (by simp) (fun x y z u=>seeNil w0 _) hn0 hnm hm he hp hy _ (fun w1 er' pr' f' y' h1 h2 h3 h4 h5=>(clone_nil w1).mono fun e w2 ⟨e1,e2⟩=>⟨none,0,[],e1,by subst e2;exact h5,fun w3 h6=>⟨rfl,er',pr',f',y',h1,h2,h3,h4,h6⟩⟩) hL
theorem write_some {half:Int} {k:Nat} (hk:k<2) (hkh:1 - half=k) {kp:Option Addr} {kn kc:Nat} {p:Option Addr} {c:Nat} {l:List (BitVec 8)} (hl0:0<l.length) (hl:l.length≤4096) (hS:∀ x y z u,See w0 (F x y z u) (.slice p l.length c) (encB l)) (hn0:0≤n) (hnm:n<m) (hm:m≤1048576) (he:0≤er∧er≤1099511627776) (hp:0≤pr∧pr≤1099511627776) (hy:Fl f y)
 (hL:Loc w0 w (F (flR bb er pr) y (otR bf fr fs n m) (bkR bf bo kp kn kc half))) :
 Calls Tryz.prog 148 #[.pointer (some ⟨bk,0,none⟩),.slice p l.length c] w fun e w'=>e= .returned (.int .i64 0)∧∃ g cap cur er' pr' f' y',OwnR cur l.length cap (encB l)∧(0≤er'∧er'≤1099511627776)∧(0≤pr'∧pr'≤1099511627776)∧(∀ i,16384≤i→f' i=f i)∧Fl f' y' ∧
  Loc w0 w' ((g,cur,5) :: F (flR bb er' pr') y' (otR bf fr fs (n+1) m) (bkR bf bo (some ⟨g,0,none⟩) l.length cap k)) :=
 write_body hk hkh hl hS hn0 hnm hm he hp hy _ (fun w1 er' pr' f' y' h1 h2 h3 h4 h5=>(clone_any _ l w1 (See.bytes (h:=hS _ _ _ _) h5) hl0 (by omega)).mono fun e w2 ⟨g,cap,cur,e1,hr,hg,hc,hb⟩=>⟨some ⟨g,0,none⟩,cap,[(g,cur,5)],e1,h5.fresh hb hg hc,fun w3 h6=>⟨rfl,g,cap,cur,er',pr',f',y',hr,h1,h2,h3,h4,h6⟩⟩) hL
instance iBkw1:Ent 148:=Ent.of Tryz.func148 (by kernel_rfl) rfl
end
end Go.Proofs.YtoifhhljfaoejaaGreatDoor
namespace Go.Proofs.YtoifhhljfaoejaaGreatDoor
open Go Go.RowKit Go.Shelf
set_option linter.unusedVariables false
set_option linter.unusedSimpArgs false
set_option linter.unusedSectionVars false
section
variable {w0 w:World} {F:Array Value→Array Value→Array Value→Array Value→Mem} {bf bb bo bk:Nat} [hF:BkM F bf bb bo bk] {er pr:Int} {y:Array Value} {fr fs:Nat→BitVec 8} {n m:Int} {f:Nat→BitVec 8}
set_option maxRecDepth 100000 in
theorem has_erased {half num:Int} {kp:Option Addr} {kn kc:Nat} (hy:Fl (fun _=>255) y) (hL:Loc w0 w (F (flR bb er pr) y (otR bf fr fs n m) (bkR bf bo kp kn kc half))) :
 Calls Tryz.prog 146 #[.pointer (some ⟨bk,0,none⟩),.int .i64 num] w fun e w'=>e= .returned (.bool false)∧Loc w0 w' (F (flR bb er pr) y (otR bf fr fs n m) (bkR bf bo kp kn kc half)):=by
 have hA:=hF.a;have hU:=hF.u;have hB:=hF.b;have hV:=hF.v;have hO:=hF.o;have hPP:=hF.p;have hQ:=hF.q;have hRR:=hF.r
 go_enter Tryz.func146,Tryz.ntmps146
 go_wp2_with (first | refine aV ?_ | (refine aL3S5p ?_;clear hL;intro w1 hL))
 go_loopw [9] (fun kk wr=>∃ (k:Nat),k≤2∧kk= .int .i64 k∧Loc w0 wr (F (flR bb er pr) y (otR bf fr fs n m) (bkR bf bo kp kn kc half))) (fun kk _=>2 - (intOf kk).toNat)
 case atStart=>exact ⟨0,by omega,rfl,hL⟩
 case round =>
  clear hL
  obtain ⟨k,hk,rfl,hL⟩:=hrel
  by_cases hlt:k<2
  ·have k1:(k:Int)<2:=by omega
   have k0:(0:Int)≤k:=by omega
   go_wp2_with (first | refine aV ?_ | (refine aL3S5p ?_;clear hL;intro w1 hL))
   refine wp_region_mix (S:=fun w'=>Loc _ w' _) 18 (by kernel_rfl) (by kernel_rfl) (hL.drew) (fun hHeld=>?_)
   replace hL:=hL.drew
   refine tg 0 hHeld ?_
   refine p7 ?_
   refine tg 4 hHeld ?_
   refine p7 ?_
   refine tg 9 hHeld ?_
   refine p7 ?_
   refine tg 1 hHeld ?_
   refine p7 ?_
   refine tg 5 hHeld ?_
   refine p7 ?_
   refine tg 2 hHeld ?_
   refine p7 ?_
   refine tg 6 hHeld ?_
   refine p7 ?_
   refine tz 3 hHeld ?_
   refine p7 ?_
   refine tz 7 hHeld ?_
   refine p7 ?_
   refine wpAnyH_ready (rs:=[8]) (by kernel_rfl) (by simp) ((AllReadyH.cons rfl (fun K hK=>?_) AllReadyH.nil))
   rw [if_pos (by rfl)]
   refine eCall rfl (by simp only [List.map_toArray,List.map_cons,List.map_nil];rfl) ((otpSecret_any (F:=fun x y z=>F x y z (bkR bf bo kp kn kc half)) (bf:=bf) (bb:=bb) hL).mono ?_)
   rintro e w1 ⟨rfl,hL1⟩;refine ⟨_,rfl,?_⟩
   (try dsimp only at hL1);(try simp only [Nat.reduceAdd,Nat.reduceSub] at hL1)
   clear hL;have hL:=hL1;clear hL1
   refine hK.out _ _ (hL) (fun hHeld2=>?_)
   clear hK K hHeld;have hHeld:=hHeld2;clear hHeld2
   refine p7 ?_
   refine wpAnyH_ready (rs:=[10]) (by kernel_rfl) (by simp) ((AllReadyH.cons rfl (fun K hK=>?_) AllReadyH.nil))
   rw [if_pos (by rfl)]
   refine eCall rfl (by simp only [List.map_toArray,List.map_cons,List.map_nil];rfl) ((half_any (F:=fun x y=>F x y (otR bf fr fs n m) (bkR bf bo kp kn kc half)) (bf:=bf) (bb:=bb) fs k hlt hy hL).mono ?_)
   rintro e w1 ⟨rfl,hL1⟩;refine ⟨_,rfl,?_⟩
   (try dsimp only at hL1);(try simp only [Nat.reduceAdd,Nat.reduceSub] at hL1)
   clear hL;have hL:=hL1;clear hL1
   refine hK.out _ _ (hL) (fun hHeld2=>?_)
   clear hK K hHeld;have hHeld:=hHeld2;clear hHeld2
   refine p7 ?_
   refine tg 11 hHeld ?_
   refine p7 ?_
   refine tg 12 hHeld ?_
   refine p7 ?_
   refine tg 13 hHeld ?_
   refine p7 ?_
   refine tg 14 hHeld ?_
   refine p7 ?_
   refine tg 15 hHeld ?_
   refine p7 ?_
   refine tg 16 hHeld ?_
   refine p7 ?_
   refine tg 17 hHeld ?_
   refine p7 ?_
   refine wpAnyH_done (by kernel_rfl) (NoPanic.normal ?_) _
   clear hHeld
   go_wp2_with (first | refine aV ?_ | (refine aL3S5p ?_;clear hL;intro w1 hL))
   go_roundw
   case rel=>exact ⟨k+1,by omega,by go_num,hL⟩
   case measure=>simp only [intOf];omega
  ·obtain rfl:k=2:=by omega
   go_wp2_with (first | refine aV ?_ | (refine aL3S5p ?_;clear hL;intro w1 hL))
   all_goals (go_ret;exact ⟨rfl,hL⟩)
end
instance iBko1:Ent 146:=Ent.of Tryz.func146 (by kernel_rfl) rfl
section
variable {w0 w:World} {F:Array Value→Array Value→Array Value→Array Value→Mem} {bf bb bo bk:Nat} [hF:BkM F bf bb bo bk] {er pr:Int} {y:Array Value} {fr fs:Nat→BitVec 8} {n m:Int} {f:Nat→BitVec 8}
set_option maxRecDepth 100000 in
theorem begin_erased (hm0:0<m) (hm:m≤1048576) (he:0≤er∧er≤1099511627776) (hp:0≤pr∧pr≤1099511627776) (hy:Fl (fun _=>255) y) (hL:Loc w0 w (F (flR bb er pr) y (otR bf fr fs 0 m) (bkR bf bo none 0 0 0))) :
 Calls Tryz.prog 91 #[.pointer (some ⟨bk,0,none⟩)] w fun e w'=>e= .returned (.int .i64 0)∧∃ er' pr' f' y',(0≤er'∧er'≤1099511627776)∧(0≤pr'∧pr'≤1099511627776)∧(∀ i,16384≤i→f' i=255)∧Fl f' y' ∧
  Loc w0 w' (F (flR bb er' pr') y' (otR bf fr fs 1 m) (bkR bf bo none 0 0 0)):=by
 have hA:=hF.a;have hU:=hF.u;have hB:=hF.b;have hV:=hF.v;have hO:=hF.o;have hPP:=hF.p;have hQ:=hF.q;have hRR:=hF.r
 have q0:¬ (0:Int)=m:=by omega
 have q1:((0:Int) == m)=false:=by simp only [beq_eq_false_iff_ne];exact q0
 have HW:=Lib.hid (fun w1 (h:Loc w0 w1 (F (flR bb er pr) y (otR bf fr fs 0 m) (bkR bf bo none 0 0 1)))=>write_nil (F:=F) (bf:=bf) (bb:=bb) (bo:=bo) (bk:=bk) (half:=1) (k:=0) (by omega) rfl (n:=0) (by omega) hm0 hm he hp hy h)
 go_enter Tryz.func91,Tryz.ntmps91
 go_wp2_with (first | refine aV ?_ | ((with_reducible refine gC 9 ?_);go_loud (refine lCall rfl rfl ((otpCount_any (F:=fun x y z=>F x y z (bkR bf bo none 0 0 0)) (bf:=bf) (bb:=bb) hL).mono ?_) rfl);rintro e w1 ⟨rfl,hL1⟩;clear hL;revert hL1;refine aE ?_;intro hL) | ((with_reducible refine gC 15 ?_);go_loud (refine lCall rfl rfl ((otpMost_any (F:=fun x y z=>F x y z (bkR bf bo none 0 0 0)) (bf:=bf) (bb:=bb) hL).mono ?_) rfl);rintro e w1 ⟨rfl,hL1⟩;clear hL;revert hL1;refine aE ?_;intro hL) | ((with_reducible refine gC 24 ?_);go_loud (refine lCall rfl rfl ((has_erased (F:=F) (bf:=bf) (bb:=bb) (bo:=bo) (bk:=bk) hy hL).mono ?_) rfl);rintro e w1 ⟨rfl,hL1⟩;clear hL;revert hL1;refine aE ?_;intro hL) | ((with_reducible refine gC 34 ?_);go_loud (refine lCall rfl rfl ((has_erased (F:=F) (bf:=bf) (bb:=bb) (bo:=bo) (bk:=bk) hy hL).mono ?_) rfl);rintro e w1 ⟨rfl,hL1⟩;clear hL;revert hL1;refine aE ?_;intro hL) | ((with_reducible refine gC 47 ?_);go_loud (refine lCall rfl rfl ((HW.out _ hL).mono ?_) rfl);rintro e w1 ⟨rfl,er2,pr2,f2,y2,he2,hp2,hf2,hy2,hL1⟩;clear hL;revert hL1;refine aE ?_;intro hL) | (refine aL3S5p ?_;clear hL;intro w1 hL))
 all_goals (go_ret;exact ⟨rfl,er2,pr2,f2,y2,he2,hp2,hf2,hy2,hL⟩)
end
instance iBko2:Ent 91:=Ent.of Tryz.func91 (by kernel_rfl) rfl
theorem build_bank (bf bo:Nat) (w:World):(Instr.build 166 #[(0,.pointer (some ⟨bf,0,none⟩)),(1,.pointer (some ⟨bo,0,none⟩))]).run Tryz.prog w= .ok (.agg (bkR bf bo none 0 0 0)) w:=by kernel_rfl
section
variable {w0 w:World} {F:Array Value→Array Value→Array Value→Mem} {bf bb bo:Nat} [hF:OtM F bf bb bo] {er pr:Int} {y:Array Value} {fr fs:Nat→BitVec 8} {m:Int}
set_option maxRecDepth 100000 in
theorem bankOpen_any (hm0:0<m) (hm:m≤1048576) (he:0≤er∧er≤1099511627776) (hp:0≤pr∧pr≤1099511627776) (hy:Fl (fun _=>255) y) (hL:Loc w0 w (F (flR bb er pr) y (otR bf fr fs 0 m))) :
 Calls Tryz.prog 43 #[.pointer (some ⟨bf,0,none⟩),.pointer (some ⟨bo,0,none⟩)] w fun e w'=>∃ bk er' pr' f' y',e= .returned (.tuple #[.pointer (some ⟨bk,0,none⟩),.int .i64 0])∧(0≤er'∧er'≤1099511627776)∧(0≤pr'∧pr'≤1099511627776)∧(∀ i,16384≤i→f' i=255)∧Fl f' y' ∧
  Loc w0 w' ((bk,bkR bf bo none 0 0 0,166) :: F (flR bb er' pr') y' (otR bf fr fs 1 m)):=by
 have hA:=hF.a;have hU:=hF.u;have hB:=hF.b;have hV:=hF.v;have hO:=hF.o;have hPP:=hF.p
 go_enter Tryz.func43,Tryz.ntmps43
 go_wp2_with (first | refine aV ?_ | ((with_reducible refine gS 26 ?_);refine aBp ?_;clear hL;intro b26 w1 hL) | ((with_reducible refine gC 17 ?_);go_loud (refine lCall rfl rfl ((size_any (F:=fun x y=>F x y (otR bf fr fs 0 m)) (bf:=bf) (bb:=bb) hL).mono ?_) rfl);rintro e w1 ⟨rfl,hL1⟩;clear hL;revert hL1;refine aE ?_;intro hL) | ((with_reducible refine gC 22 ?_);go_loud (refine lCall rfl rfl ((dead_any (F:=fun x y=>F x y (otR bf fr fs 0 m)) (bf:=bf) (bb:=bb) hL).mono ?_) rfl);rintro e w1 ⟨rfl,hL1⟩;clear hL;revert hL1;refine aE ?_;intro hL) | ((with_reducible show wpList _ _ _ (⟨some 25,.build _ _,_,_,_,_⟩ :: _) _ _);refine lU hL rfl rfl (build_bank _ _) rfl ?_;clear hL;intro w1 hL;refine p4 ?_) | ((with_reducible refine gC 28 ?_);go_loud (refine lCall rfl rfl ((begin_erased (F:=fun x y z u=>(b26,u,166) :: F x y z) (bf:=bf) (bb:=bb) (bo:=bo) (bk:=b26) hm0 hm he hp hy hL).mono ?_) rfl);rintro e w1 ⟨rfl,er2,pr2,f2,y2,he2,hp2,hf2,hy2,hL1⟩;clear hL;revert hL1;refine aE ?_;intro hL) | (refine aL3S5p ?_;clear hL;intro w1 hL))
 all_goals (go_ret2;exact ⟨b26,er2,pr2,f2,y2,rfl,he2,hp2,hf2,hy2,hL⟩)
end
instance iBko3:Ent 43:=Ent.of Tryz.func43 (by kernel_rfl) rfl
section
variable {w0 w:World} {M:Mem} {bf bo bk:Nat}
set_option maxRecDepth 100000 in
theorem load_nil (hA:At M bk (bkR bf bo none 0 0 0) 166) (hL:Loc w0 w M) :
 Calls Tryz.prog 45 #[.pointer (some ⟨bk,0,none⟩)] w fun e w'=>e= .returned (.slice none 0 0)∧Loc w0 w' M:=by
 go_enter Tryz.func45,Tryz.ntmps45
 go_wp2_with (first | refine aV ?_ | ((go_at_call 94;go_loud (refine (clone_nil _).mono ?_);rintro e w1 ⟨rfl,rfl⟩;refine p4 ?_)) | (refine aL3S5p ?_;clear hL;intro w1 hL))
 all_goals (go_ret;exact ⟨rfl,hL⟩)
end
instance iBko4:Ent 45:=Ent.of Tryz.func45 (by kernel_rfl) rfl
section
variable {w0 w:World} {F:Array Value→Array Value→Array Value→Array Value→Mem} {bf bb bo bk:Nat} [hF:BkM F bf bb bo bk] {er pr:Int} {y:Array Value} {fr fs:Nat→BitVec 8} {n m:Int} {f:Nat→BitVec 8}
set_option maxRecDepth 100000 in
theorem save_any {half:Int} {k:Nat} (hk:k<2) (hkh:1 - half=k) {kp:Option Addr} {kn kc:Nat} {p:Option Addr} {c:Nat} {l:List (BitVec 8)} (hl0:0<l.length) (hl:l.length≤4096) (hS:∀ x y z u,See w0 (F x y z u) (.slice p l.length c) (encB l)) (hn0:0≤n) (hnm:n<m) (hm:m≤1048576) (he:0≤er∧er≤1099511627776) (hp:0≤pr∧pr≤1099511627776) (hy:Fl f y)
 (hL:Loc w0 w (F (flR bb er pr) y (otR bf fr fs n m) (bkR bf bo kp kn kc half))) :
 Calls Tryz.prog 343 #[.pointer (some ⟨bk,0,none⟩),.slice p l.length c] w fun e w'=>e= .returned (.int .i64 0)∧∃ g cap cur er' pr' f' y',OwnR cur l.length cap (encB l)∧(0≤er'∧er'≤1099511627776)∧(0≤pr'∧pr'≤1099511627776)∧(∀ i,16384≤i→f' i=f i)∧Fl f' y' ∧
  Loc w0 w' ((g,cur,5) :: F (flR bb er' pr') y' (otR bf fr fs (n+1) m) (bkR bf bo (some ⟨g,0,none⟩) l.length cap k)):=by
 have hA:=hF.a;have hU:=hF.u;have hB:=hF.b;have hV:=hF.v;have hO:=hF.o;have hPP:=hF.p;have hQ:=hF.q;have hRR:=hF.r
 have HW:=Lib.hid (fun w1 (h:Loc w0 w1 (F (flR bb er pr) y (otR bf fr fs n m) (bkR bf bo kp kn kc half)))=>write_some (F:=F) (bf:=bf) (bb:=bb) (bo:=bo) (bk:=bk) hk hkh hl0 hl hS hn0 hnm hm he hp hy h)
 have q0:¬ n=m:=by omega
 have q1:¬ (4096:Int)<l.length:=by omega
 go_enter Tryz.func343,Tryz.ntmps343
 go_wp2_with (first | refine aV ?_ | ((with_reducible refine gC 20 ?_);go_loud (refine lCall rfl rfl ((dead_any (F:=fun x y=>F x y (otR bf fr fs n m) (bkR bf bo kp kn kc half)) (bf:=bf) (bb:=bb) hL).mono ?_) rfl);rintro e w1 ⟨rfl,hL1⟩;clear hL;revert hL1;refine aE ?_;intro hL) | (refine aL3S5p ?_;clear hL;intro w1 hL))
 refine wp_region_mix (S:=fun w'=>Loc _ w' _) 12 (by kernel_rfl) (by kernel_rfl) (hL.drew) (fun hHeld=>?_)
 replace hL:=hL.drew
 refine tg 0 hHeld ?_
 refine p7 ?_
 refine tg 5 hHeld ?_
 refine p7 ?_
 refine tg 1 hHeld ?_
 refine p7 ?_
 refine tg 6 hHeld ?_
 refine p7 ?_
 refine tg 2 hHeld ?_
 refine p7 ?_
 refine tg 7 hHeld ?_
 refine p7 ?_
 refine tz 3 hHeld ?_
 refine p7 ?_
 refine tz 8 hHeld ?_
 refine p7 ?_
 refine wpAnyH_ready (rs:=[4]) (by kernel_rfl) (by simp) ((AllReadyH.cons rfl (fun K hK=>?_) AllReadyH.nil))
 rw [if_pos (by rfl)]
 refine eCall rfl (by simp only [List.map_toArray,List.map_cons,List.map_nil];rfl) ((otpCount_any (F:=fun x y z=>F x y z (bkR bf bo kp kn kc half)) (bf:=bf) (bb:=bb) hL).mono ?_)
 rintro e w1 ⟨rfl,hL1⟩;refine ⟨_,rfl,?_⟩
 (try dsimp only at hL1);(try simp only [Nat.reduceAdd,Nat.reduceSub] at hL1)
 clear hL;have hL:=hL1;clear hL1
 refine hK.out _ _ (hL) (fun hHeld2=>?_)
 clear hK K hHeld;have hHeld:=hHeld2;clear hHeld2
 refine p7 ?_
 refine wpAnyH_ready (rs:=[9]) (by kernel_rfl) (by simp) ((AllReadyH.cons rfl (fun K hK=>?_) AllReadyH.nil))
 rw [if_pos (by rfl)]
 refine eCall rfl (by simp only [List.map_toArray,List.map_cons,List.map_nil];rfl) ((otpMost_any (F:=fun x y z=>F x y z (bkR bf bo kp kn kc half)) (bf:=bf) (bb:=bb) hL).mono ?_)
 rintro e w1 ⟨rfl,hL1⟩;refine ⟨_,rfl,?_⟩
 (try dsimp only at hL1);(try simp only [Nat.reduceAdd,Nat.reduceSub] at hL1)
 clear hL;have hL:=hL1;clear hL1
 refine hK.out _ _ (hL) (fun hHeld2=>?_)
 clear hK K hHeld;have hHeld:=hHeld2;clear hHeld2
 refine p7 ?_
 refine tg 10 hHeld ?_
 refine p7 ?_
 refine tg 11 hHeld ?_
 refine p7 ?_
 refine wpAnyH_done (by kernel_rfl) (NoPanic.normal ?_) _
 clear hHeld
 go_wp2_with (first | refine aV ?_ | ((with_reducible refine gC 36 ?_);go_loud (refine lCall rfl rfl ((HW.out _ hL).mono ?_) rfl);rintro e w1 ⟨rfl,g,cap,cur,er2,pr2,f2,y2,hr,he2,hp2,hf2,hy2,hL1⟩;clear hL;revert hL1;refine aE ?_;intro hL) | (refine aL3S5p ?_;clear hL;intro w1 hL))
 all_goals (go_ret;exact ⟨rfl,g,cap,cur,er2,pr2,f2,y2,hr,he2,hp2,hf2,hy2,hL⟩)
end
instance iBko5:Ent 343:=Ent.of Tryz.func343 (by kernel_rfl) rfl
end Go.Proofs.YtoifhhljfaoejaaGreatDoor
namespace Go.Proofs.YtoifhhljfaoejaaGreatDoor
open Go Go.RowKit Go.Shelf
set_option linter.unusedVariables false
set_option linter.unusedSimpArgs false
set_option linter.unusedSectionVars false
structure Sta where
 fl:Int
 rv:List Int
 m0:List (BitVec 8)
 d0:Bool
 t0:Int
 m1:List (BitVec 8)
 d1:Bool
 t1:Int
 ac:Int
structure Sq where
 pr:Option Addr
 cr:Nat
 p0:Option Addr
 c0:Nat
 p1:Option Addr
 c1:Nat
abbrev slR (p:Option Addr) (n c:Nat) (d:Bool) (t:Int):Array Value:= #[.slice p n c,.bool d,.int .i64 t]
abbrev stR (s:Sta) (q:Sq):Array Value:= #[.int .i64 s.fl,.slice q.pr s.rv.length q.cr,.slice q.p0 s.m0.length q.c0,.bool s.d0,.int .i64 s.t0,.slice q.p1 s.m1.length q.c1,.bool s.d1,.int .i64 s.t1,.int .i64 s.ac]
def Sta.new:Sta:=⟨0,[],[],false,0,[],false,0,-1⟩
def Sq.none:Sq:=⟨.none,0,.none,0,.none,0⟩
def smallZ (n:Int):Prop:=0≤n∧n≤2147483647
def slotOk (m:List (BitVec 8)) (d:Bool) (t:Int):Prop:=(m.length=0∧d=false∧t=0)∨(m.length=300∧0≤t∧t≤3)
structure Good (s:Sta):Prop where
 fl:smallZ s.fl
 n:s.rv.length≤32
 ids:∀ (i:Nat) (h:i<s.rv.length),smallZ s.rv[i]
 up:∀ (i:Nat) (h:i+1<s.rv.length),s.rv[i]<s.rv[i+1]
 ac:s.ac= -1∨(s.ac=0∧s.m0.length=300∧s.d0=true)∨(s.ac=1∧s.m1.length=300∧s.d1=true)
 s0:slotOk s.m0 s.d0 s.t0
 s1:slotOk s.m1 s.d1 s.t1
structure ReadS (w:World) (s:Sta) (q:Sq):Prop where
 r:VRow w (.slice q.pr s.rv.length q.cr) (encI s.rv)
 a:BRow w (.slice q.p0 s.m0.length q.c0) s.m0
 b:BRow w (.slice q.p1 s.m1.length q.c1) s.m1
 zr:s.rv=[]→q.pr=none
 za:s.m0=[]→q.p0=none
 zb:s.m1=[]→q.p1=none
theorem good_new:Good Sta.new:=⟨by unfold smallZ Sta.new;decide,by decide,fun i h=>absurd h (by simp [Sta.new]),fun i h=>absurd h (by simp [Sta.new]),.inl rfl,.inl ⟨rfl,rfl,rfl⟩,.inl ⟨rfl,rfl,rfl⟩⟩
instance iSts1:RowTy 58 9:=⟨⟨_,Tryz.underlying58,rfl⟩,by kernel_rfl⟩
instance iSts2:RowTy 55 3:=⟨⟨_,Tryz.underlying55,rfl⟩,by kernel_rfl⟩
instance iSts3:RowZ 58 (stR ⟨0,[],[],false,0,[],false,0,0⟩ Sq.none):=⟨by kernel_rfl⟩
instance part0 (a b x y z c d e f:Value):Part #[a,b,x,y,z,c,d,e,f] 58 2 55 #[x,y,z]:=part_mid (pre:= #[a,b]) (post:= #[c,d,e,f]) rfl rfl
instance part1 (a b x y z c d e f:Value):Part #[a,b,x,y,z,c,d,e,f] 58 5 55 #[c,d,e]:=part_mid (pre:= #[a,b,x,y,z]) (post:= #[f]) rfl rfl
theorem build_new (w:World):(Instr.build 58 #[(3,.int .i64 (-1))]).run Tryz.prog w= .ok (.agg (stR Sta.new Sq.none)) w:=by kernel_rfl
set_option maxRecDepth 100000 in
theorem slotsNew_any (w:World):Calls Tryz.prog 92 #[] w fun e w'=>e= .returned (.agg (stR Sta.new Sq.none))∧Below w.heap.size w w':=by
 have hL:=Loc.nil w
 go_enter Tryz.func92,Tryz.ntmps92
 go_wp2_with (first | refine aV ?_ | ((with_reducible refine gS 0 ?_);refine aBp ?_;clear hL;intro b0 w1 hL) | ((with_reducible show wpList _ _ _ (⟨some 1,.build _ _,_,_,_,_⟩ :: _) _ _);refine lU hL rfl rfl (build_new _) rfl ?_;clear hL;intro w1 hL;refine p4 ?_) | (refine aL3S5p ?_;clear hL;intro w1 hL))
 exact bodyPost_ret (results_loc rfl hL rfl) rfl ⟨rfl,hL.bel⟩
instance iSts4:Ent 92:=Ent.of Tryz.func92 (by kernel_rfl) rfl
set_option maxRecDepth 100000 in
theorem number_any (n:Int) (h:smallZ n) (w:World):Calls Tryz.prog 228 #[.int .i64 n] w fun e w'=>e= .returned (.bool true)∧w=w':=by
 obtain ⟨h0,h1⟩:=h
 go_enter Tryz.func228,Tryz.ntmps228
 go_wp2_with (first | refine aV ?_ | (refine aL3S5p ?_;clear hL;intro w1 hL))
 all_goals (go_ret;exact ⟨rfl,rfl⟩)
set_option maxRecDepth 100000 in
theorem slot_any (p:Option Addr) (n c:Nat) (d:Bool) (t:Int) (h:(n=0∧d=false∧t=0)∨(n=300∧0≤t∧t≤3)) (w:World):Calls Tryz.prog 244 #[.agg (slR p n c d t)] w fun e w'=>e= .returned (.bool true)∧Below w.heap.size w w':=by
 have hL:=Loc.nil w
 rcases h with ⟨rfl,rfl,rfl⟩ | ⟨rfl,h0,h1⟩
 ·go_enter Tryz.func244,Tryz.ntmps244
  go_wp2_with (first | refine aV ?_ | ((with_reducible refine gS 1 ?_);refine aBp ?_;clear hL;intro b1 w1 hL) | (refine aL3S5p ?_;clear hL;intro w1 hL))
  all_goals (go_ret;exact ⟨rfl,hL.bel⟩)
 ·go_enter Tryz.func244,Tryz.ntmps244
  go_wp2_with (first | refine aV ?_ | ((with_reducible refine gS 1 ?_);refine aBp ?_;clear hL;intro b1 w1 hL) | (refine aL3S5p ?_;clear hL;intro w1 hL))
  all_goals (go_ret;exact ⟨rfl,hL.bel⟩)
instance iSts7:Ent 244:=Ent.of Tryz.func244 (by kernel_rfl) rfl
end Go.Proofs.YtoifhhljfaoejaaGreatDoor
