/-
  Lemmas of the law, part 50: the walks of the functions that it calls and the plain facts about them. No condition beyond those written.
-/
import Derived.Test.YtoifhhljfaoejaaGreatDoorPkAA
import Derived.Test.YtoifhhljfaoejaaGreatDoorPkBW
import Derived.Test.YtoifhhljfaoejaaGreatDoorRows
import Derived.LaidMore
import Derived.Lib.LaidTab
import Derived.Stop.Joined
import Derived.SevenTiedAt
import Derived.ChangeOld
import Derived.Lay
import Derived.Test.YtoifhhljfaoejaaGreatDoorPkBB
import Derived.Test.YtoifhhljfaoejaaGreatDoorPkAU
namespace Go.Proofs.YtoifhhljfaoejaaGreatDoor
open Go Go.RowKit Go.Shelf
set_option linter.unusedVariables false
set_option linter.unusedSimpArgs false
set_option linter.unusedSectionVars false
theorem comCons {F:Array Value→Array Value→Array Value→Array Value→Array Value→Mem} {bf bb bo bk kp a0 a1 cc:Nat} (e:Nat×Array Value×TypeId) (h:CoM F bf bb bo bk kp a0 a1 cc):CoM (fun x y z u c=>e :: F x y z u c) bf bb bo bk kp a0 a1 cc:=by
 have hA:=h.a;have hU:=h.u;have hB:=h.b;have hV:=h.v;have hO:=h.o;have hPP:=h.p;have hQ:=h.q;have hRR:=h.r;have hG:=h.g;have hH:=h.h;have hKK:=h.k;have hll:=h.l;have hmm:=h.m
 infer_instance
theorem comApp {F:Array Value→Array Value→Array Value→Array Value→Array Value→Mem} {bf bb bo bk kp a0 a1 cc:Nat} (S:Mem) (h:CoM F bf bb bo bk kp a0 a1 cc):CoM (fun x y z u c=>S ++ F x y z u c) bf bb bo bk kp a0 a1 cc:=by
 have hA:=h.a;have hU:=h.u;have hB:=h.b;have hV:=h.v;have hO:=h.o;have hPP:=h.p;have hQ:=h.q;have hRR:=h.r;have hG:=h.g;have hH:=h.h;have hKK:=h.k;have hll:=h.l;have hmm:=h.m
 infer_instance
theorem dropMid (S1 S0 Sr A M:Mem):List.Sublist (S1 ++ (S0 ++ (Sr ++ M))) (S1 ++ (S0 ++ (Sr ++ (A ++ M)))):=(List.Sublist.refl _).append ((List.Sublist.refl _).append ((List.Sublist.refl _).append (List.sublist_append_right _ _)))
theorem dropOld {w0 w:World} {S1 S0 Sr T1 T0 Tr M:Mem} {e:Nat×Array Value×TypeId} (h:Loc w0 w (S1 ++ (S0 ++ (Sr ++ (e :: (T1 ++ (T0 ++ (Tr ++ M)))))))):Loc w0 w (S1 ++ (S0 ++ (Sr ++ M))) :=
 h.sub (by have:=dropMid S1 S0 Sr (e :: (T1 ++ (T0 ++ Tr))) M;simpa [List.append_assoc] using this)
def rvM (j:Nat):List Int:=(List.range j).map fun (i:Nat)=>(i:Int)*3
def stM (j:Nat):Sta:=⟨0,rvM j,[],false,0,[],false,0,-1⟩
theorem rvM_length (j:Nat):(rvM j).length=j:=by simp [rvM]
theorem stM_succ (j:Nat):(stM j).add ((j:Int)*3)=stM (j+1):=by
 unfold Sta.add stM
 simp only [Sta.mk.injEq,true_and,and_true]
 unfold rvM
 rw [List.range_succ,List.map_append]
 rfl
theorem rvM_lt {j k:Nat} (hk:j≤k) (i:Nat) (h:i<(stM j).rv.length):(stM j).rv[i]<(k:Int)*3:=by
 have h2:i<j:=by have:=rvM_length j;change i<(rvM j).length at h;omega
 have e:(stM j).rv[i]=(i:Int)*3:=by simp [stM,rvM]
 rw [e]
 omega
theorem hold0:HoldQ [] [] [] Sta.new Sq.none:=⟨Hold.nil _,Hold.nil _,Hold.nil _,fun _=>rfl,fun _=>rfl,fun _=>rfl⟩
theorem Glob.kat {w:World} (h:Glob w):KAt w:=⟨by have:=h.lt;omega,h.k256⟩
set_option maxRecDepth 100000 in
set_option maxHeartbeats 2000000 in
theorem topMany_in (seed:Int) (hs: -9223372036854775808≤seed∧seed≤9223372036854775807) (N:Nat) (hN34:N≤34) (w:World) (hG:Glob w):Calls Tryz.prog 5 #[.int .i64 seed,.int .i64 N] w fun e w'=>e= .returned (.bool true)∧Below w.heap.size w w':=by
 have hL:=Loc.nil w
 have HSET:=Lib.hid (fun w1 (h:KAt w1)=>setOf_any seed hs w1 h)
 generalize kOf seed nmRoot=k0 at *
 generalize kOf seed nmSigner=k1 at *
 generalize kOf seed nmDevice=k2 at *
 generalize kOf seed nmKey=k3 at *
 have HRK:=Lib.hid (fun w1 (h:Glob w1)=>rootKey_any k0 k1 k2 k3 w1 h)
 have HOK:=Lib.hid (fun n=>stopOk_sign k0 n)
 have HSTOP:=Lib.hid (fun n (h:smallZ n) w1 (hg:Glob w1)=>stopOf_any k0 k1 k2 k3 n h w1 hg)
 generalize byteN (pubN (listB 32 k0))=rk at *
 have HG:=Lib.hid hG
 clear hG hs
 have n0:(0:Int)≤N:=by omega
 have n1:(N:Int)≤34:=by omega
 go_enter Tryz.func5,Tryz.ntmps5
 go_wp2_with (first | refine aU ?_ | ((with_reducible refine gS 6 ?_);refine aBp ?_;clear hL;intro b6 w1 hL) | ((with_reducible refine gC 18 ?_);go_loud (refine lCall rfl rfl ((works_any _).mono ?_) rfl);rintro e w1 ⟨rfl,hb1⟩;have hL1:=hL.keep hb1;clear hL;revert hL1;refine aE ?_;intro hL) | ((with_reducible refine gC 31 ?_);go_loud (refine lCall rfl rfl ((HSET.out _ (hL.glob HG.out).kat).mono ?_) rfl);rintro e w1 ⟨rfl,hb1⟩;have hL1:=hL.keep hb1;clear hL;revert hL1;refine aE ?_;intro hL) | ((with_reducible refine gC 32 ?_);go_loud (refine lCall rfl rfl ((flashNew_any _).mono ?_) rfl);rintro e w1 ⟨bf,bb,cur0,rfl,hFil,hN⟩;refine ⟨_,rfl,?_⟩;have hL1:=hL.join hN;clear hN;(try simp only [List.cons_append,List.nil_append,List.append_assoc] at hL1);clear hL;have hL:=hL1;clear hL1;refine p4 ?_) | (refine aL3S6p ?_;clear hL;intro w1 hL))
 refine wp_region_mix (S:=fun w'=>Loc _ w' _) 7 (by kernel_rfl) (by kernel_rfl) (hL.drew) (fun hHeld=>?_)
 replace hL:=hL.drew
 refine tg 0 hHeld ?_
 refine p7 ?_
 refine tz 1 hHeld ?_
 refine p7 ?_
 refine tg 3 hHeld ?_
 refine p7 ?_
 refine tz 4 hHeld ?_
 refine p7 ?_
 refine wpAnyH_ready (rs:=[2]) (by kernel_rfl) (by simp) ((AllReadyH.cons rfl (fun K hK=>?_) AllReadyH.nil))
 rw [if_pos (by rfl)]
 refine eCall rfl (by simp only [List.map_toArray,List.map_cons,List.map_nil];rfl) ((HRK.out _ (hL.glob HG.out)).mono ?_)
 rintro e w1 ⟨rfl,hb1⟩;refine ⟨_,rfl,?_⟩;have hL1:=hL.keep hb1;clear hb1
 clear hL;have hL:=hL1;clear hL1
 refine hK.out _ _ (hL) (fun hHeld2=>?_)
 clear hK K hHeld;have hHeld:=hHeld2;clear hHeld2
 refine p7 ?_
 refine wpAnyH_ready (rs:=[5]) (by kernel_rfl) (by simp) ((AllReadyH.cons rfl (fun K hK=>?_) AllReadyH.nil))
 rw [if_pos (by rfl)]
 refine eCall rfl (by simp only [List.map_toArray,List.map_cons,List.map_nil];rfl) ((otpNew_any bf rk k2 1000 (by decide) _).mono ?_)
 rintro e w1 ⟨bo,rfl,hN⟩;refine ⟨_,rfl,?_⟩
 have hL1:=hL.join hN;clear hN;(try simp only [List.cons_append,List.nil_append,List.append_assoc] at hL1)
 clear hL;have hL:=hL1;clear hL1
 refine hK.out _ _ (hL.pop) (fun hHeld2=>?_)
 clear hK K hHeld;have hHeld:=hHeld2;clear hHeld2
 refine p7 ?_
 refine tg 6 hHeld ?_
 refine p7 ?_
 refine wpAnyH_done (by kernel_rfl) (NoPanic.normal ?_) _
 clear hHeld
 go_wp2_with (first | refine aU ?_ | ((with_reducible refine gC 42 ?_);go_loud (refine lCall rfl rfl ((devOpen (F:=foF [(b6,setR k0 k1 k2 k3,26)] bf bb bo) (bf:=bf) (bb:=bb) (bo:=bo) inferInstance (by decide) (by decide) (by decide) (by decide) hFil.fl hL).mono ?_) rfl);rintro e w1 ⟨bk,kp,a0,a1,cc,dd,d0,rfl,hFr,hL1⟩;have HFR:=Lib.hid hFr;clear hFr;clear hL;revert hL1;refine aE ?_;intro hL) | ((with_reducible refine gC 46 ?_);go_loud (refine lCall rfl rfl ((numE_any _ _).mono ?_) rfl);rintro e w1 ⟨rfl,hb1⟩;have hL1:=hL.keep hb1;clear hL;revert hL1;refine aE ?_;intro hL) | (refine aL3S6p ?_;clear hL;intro w1 hL))
 go_loopw [11] (fun kk wr=>∃ (k:Nat) (d:Dv) (Sr S0 S1:Mem),k≤N∧kk= .int .i64 k∧d.Ok∧d.m=1000∧d.n=1+((min k 32:Nat):Int)∧d.s=stM (min k 32)∧HoldQ Sr S0 S1 d.s d.q∧Loc w wr (S1 ++ (S0 ++ (Sr ++ d.at (devF (foF [(b6,setR k0 k1 k2 k3,26)] bf bb bo) bf bo bk kp a0 a1 cc dd) bf bb bo kp rk k2)))) (fun kk _=>N - (intOf kk).toNat)
 case atStart=>exact ⟨0,d0,[],[],[],by omega,rfl,HFR.out.ok,HFR.out.m,HFR.out.n,HFR.out.s,by rw [HFR.out.s,HFR.out.q];exact hold0,hL⟩
 case round =>
  clear hL
  obtain ⟨k,d,Sr,S0,S1,hk,rfl,ok,hm,hn,hs,hQ,hL⟩:=hrel
  have HD:=Lib.hid (⟨ok,hm,hn,hs⟩:d.Ok∧d.m=1000∧d.n=1+((min k 32:Nat):Int)∧d.s=stM (min k 32))
  clear ok hm hn hs
  by_cases hlt:k<N
  ·have q0:(0:Int)≤k:=by omega
   have q1:(k:Int)<N:=by omega
   have q2:(k:Int)≤34:=by omega
   have hsm:smallZ ((k:Int)*3):=⟨by omega,by omega⟩
   have hno:d.n<d.m:=by rw [HD.out.2.1,HD.out.2.2.1];omega
   have hx:∀ i (h:i<d.s.rv.length),d.s.rv[i]<(k:Int)*3:=by rw [HD.out.2.2.2];exact rvM_lt (by omega)
   have hrl:d.s.rv.length=min k 32:=by rw [HD.out.2.2.2];exact rvM_length _
   have HK:=Lib.hid hk
   by_cases h32:k<32
   ·have q3:¬ (32:Int)≤k:=by omega
    have hr32:d.s.rv.length<32:=by omega
    have HX:=Lib.hid (⟨hsm,hno,hx,hr32,h32⟩:_∧_∧_∧_∧_)
    clear hsm hno hx hr32 hrl h32 hk
    go_wp2_with (first | refine aU ?_ | ((with_reducible refine gC 57 ?_);go_loud (refine lCall rfl rfl ((HSTOP.out _ HX.out.1 _ (hL.glob HG.out)).mono ?_) rfl);rintro e w1 ⟨g57,cap57,cur57,rfl,hr57,hN⟩;refine ⟨_,rfl,?_⟩;have hL1:=hL.join hN;clear hN;(try simp only [List.cons_append,List.nil_append,List.append_assoc] at hL1);clear hL;have hL:=hL1;clear hL1;refine p4 ?_) | ((with_reducible show wpList _ _ _ (⟨some 63,.build _ _,_,_,_,_⟩ :: _) _ _);refine lU hL rfl rfl (build_mvb 6 (some ⟨g57,0,none⟩) 76 cap57) rfl ?_;clear hL;intro w1 hL;refine p4 ?_) | ((with_reducible refine gC 64 ?_);go_loud (refine lCall rfl rfl ((devRevoke_new (F:=fun x y z u c=>(g57,cur57,5) :: (S1 ++ (S0 ++ (Sr ++ devF (foF [(b6,setR k0 k1 k2 k3,26)] bf bb bo) bf bo bk kp a0 a1 cc dd x y z u c)))) (bf:=bf) (bb:=bb) (bo:=bo) (bk:=bk) (kp:=kp) (a0:=a0) (a1:=a1) (cc:=cc) (comCons _ (comApp S1 (comApp S0 (comApp Sr (comDev _ bf bb bo bk kp a0 a1 cc dd))))) (fun x y z u c=>inferInstance) d HD.out.1 HX.out.2.1 (fun x y z u c=>by haveI:=hQ.sees w (devF (foF [(b6,setR k0 k1 k2 k3,26)] bf bb bo) bf bo bk kp a0 a1 cc dd x y z u c);infer_instance) _ _ HX.out.1 HX.out.2.2.1 HX.out.2.2.2.1 (HOK.out _) (fun x y z u c=>inferInstance) hL).mono ?_) rfl);rintro e w1 ⟨rfl,d2,Sr2,S02,S12,hNx,hs2,hQ2,hL1⟩;clear hL;revert hL1;refine aE ?_;intro hL) | ((with_reducible refine gC 70 ?_);go_loud (refine lCall rfl rfl ((numE_any _ _).mono ?_) rfl);rintro e w1 ⟨rfl,hb1⟩;have hL1:=hL.keep hb1;clear hL;revert hL1;refine aE ?_;intro hL) | (refine aL3S6p ?_;clear hL;intro w1 hL))
    go_roundw
    case rel =>
     have hk32:=HX.out.2.2.2.2
     refine ⟨k+1,d2,Sr2,S02,S12,by omega,by go_num,hNx.ok,by rw [hNx.m];exact HD.out.2.1,?_,?_,hQ2,dropOld hL⟩
     ·rw [hNx.n,HD.out.2.2.1]
      omega
     ·rw [hs2,HD.out.2.2.2,show min k 32=k from by omega,show min (k+1) 32=k+1 from by omega]
      exact stM_succ k
    case measure=>simp only [intOf];omega
   ·have q3:(32:Int)≤k:=by omega
    have hr32:¬ d.s.rv.length<32:=by omega
    have HX:=Lib.hid (⟨hsm,hno,hx,hr32,h32⟩:_∧_∧_∧_∧_)
    clear hsm hno hx hr32 hrl h32 hk
    go_wp2_with (first | refine aU ?_ | ((with_reducible refine gC 57 ?_);go_loud (refine lCall rfl rfl ((HSTOP.out _ HX.out.1 _ (hL.glob HG.out)).mono ?_) rfl);rintro e w1 ⟨g57,cap57,cur57,rfl,hr57,hN⟩;refine ⟨_,rfl,?_⟩;have hL1:=hL.join hN;clear hN;(try simp only [List.cons_append,List.nil_append,List.append_assoc] at hL1);clear hL;have hL:=hL1;clear hL1;refine p4 ?_) | ((with_reducible show wpList _ _ _ (⟨some 63,.build _ _,_,_,_,_⟩ :: _) _ _);refine lU hL rfl rfl (build_mvb 6 (some ⟨g57,0,none⟩) 76 cap57) rfl ?_;clear hL;intro w1 hL;refine p4 ?_) | ((with_reducible refine gC 64 ?_);go_loud (refine lCall rfl rfl ((devRevoke_full (F:=fun x y z u c=>(g57,cur57,5) :: (S1 ++ (S0 ++ (Sr ++ devF (foF [(b6,setR k0 k1 k2 k3,26)] bf bb bo) bf bo bk kp a0 a1 cc dd x y z u c)))) (bf:=bf) (bb:=bb) (bo:=bo) (bk:=bk) (kp:=kp) (a0:=a0) (a1:=a1) (cc:=cc) (comCons _ (comApp S1 (comApp S0 (comApp Sr (comDev _ bf bb bo bk kp a0 a1 cc dd))))) (fun x y z u c=>inferInstance) d HD.out.1 HX.out.2.1 (fun x y z u c=>by haveI:=hQ.sees w (devF (foF [(b6,setR k0 k1 k2 k3,26)] bf bb bo) bf bo bk kp a0 a1 cc dd x y z u c);infer_instance) _ _ HX.out.1 HX.out.2.2.1 HX.out.2.2.2.1 (HOK.out _) (fun x y z u c=>inferInstance) hL).mono ?_) rfl);rintro e w1 ⟨rfl,hL1⟩;clear hL;revert hL1;refine aE ?_;intro hL) | ((with_reducible refine gC 70 ?_);go_loud (refine lCall rfl rfl ((numE_any _ _).mono ?_) rfl);rintro e w1 ⟨rfl,hb1⟩;have hL1:=hL.keep hb1;clear hL;revert hL1;refine aE ?_;intro hL) | (refine aL3S6p ?_;clear hL;intro w1 hL))
    go_roundw
    case rel =>
     have hk32:=HX.out.2.2.2.2
     refine ⟨k+1,d,Sr,S0,S1,by omega,by go_num,HD.out.1,HD.out.2.1,?_,?_,hQ,hL.pop⟩
     ·rw [HD.out.2.2.1]
      omega
     ·rw [HD.out.2.2.2,show min k 32=min (k+1) 32 from by omega]
    case measure=>simp only [intOf];omega
  ·obtain rfl:k=N:=by omega
   clear hk
   by_cases h32:k≤32
   ·have q3:¬ (32:Int)<k:=by omega
    have hrl:d.s.rv.length=k:=by rw [HD.out.2.2.2,show min k 32=k from by omega];exact rvM_length _
    have HNN:=Lib.hid (show d.n=1+(k:Int) from by rw [HD.out.2.2.1,show min k 32=k from by omega])
    clear h32
    go_wp2_with (first | refine aU ?_ | ((with_reducible refine gC 74 ?_);go_loud (refine lCall rfl rfl ((devState (F:=fun x y z u c=>S1 ++ (S0 ++ (Sr ++ devF (foF [(b6,setR k0 k1 k2 k3,26)] bf bb bo) bf bo bk kp a0 a1 cc dd x y z u c))) (bf:=bf) (bb:=bb) (bo:=bo) (bk:=bk) (kp:=kp) (a0:=a0) (a1:=a1) (cc:=cc) (comApp S1 (comApp S0 (comApp Sr (comDev _ bf bb bo bk kp a0 a1 cc dd)))) (fun x y z u c=>inferInstance) d HD.out.1 (fun x y z u c=>by haveI:=hQ.sees w (devF (foF [(b6,setR k0 k1 k2 k3,26)] bf bb bo) bf bo bk kp a0 a1 cc dd x y z u c);infer_instance) hL).mono ?_) rfl);rintro e w1 ⟨q',Sr',S0',S1',rfl,hQ',hL1⟩;clear hL;revert hL1;refine aE ?_;intro hL) | ((with_reducible refine gS 17 ?_);refine aBp ?_;clear hL;intro b17 w1 hL) | ((with_reducible refine gC 84 ?_);go_loud (refine lCall rfl rfl ((otpCount_any (F:=fun x y z=>(b17,stR d.s q',58) :: (S1' ++ (S0' ++ (Sr' ++ (S1 ++ (S0 ++ (Sr ++ devF (foF [(b6,setR k0 k1 k2 k3,26)] bf bb bo) bf bo bk kp a0 a1 cc dd x y z (bkR bf bo d.p d.kn d.kc d.half) (coR kp rk k2 d.s d.q d.bt d.rg)))))))) (bf:=bf) (bb:=bb) hL).mono ?_) rfl);rintro e w1 ⟨rfl,hL1⟩;rw [HNN.out];clear hL;revert hL1;refine aE ?_;intro hL) | (refine aL3S6p ?_;clear hL;intro w1 hL))
    all_goals (go_ret;exact ⟨rfl,hL.bel⟩)
   ·have q3:(32:Int)<k:=by omega
    have hrl:d.s.rv.length=32:=by rw [HD.out.2.2.2,show min k 32=32 from by omega];exact rvM_length _
    have HNN:=Lib.hid (show d.n=33 from by rw [HD.out.2.2.1,show min k 32=32 from by omega];rfl)
    clear h32
    go_wp2_with (first | refine aU ?_ | ((with_reducible refine gC 74 ?_);go_loud (refine lCall rfl rfl ((devState (F:=fun x y z u c=>S1 ++ (S0 ++ (Sr ++ devF (foF [(b6,setR k0 k1 k2 k3,26)] bf bb bo) bf bo bk kp a0 a1 cc dd x y z u c))) (bf:=bf) (bb:=bb) (bo:=bo) (bk:=bk) (kp:=kp) (a0:=a0) (a1:=a1) (cc:=cc) (comApp S1 (comApp S0 (comApp Sr (comDev _ bf bb bo bk kp a0 a1 cc dd)))) (fun x y z u c=>inferInstance) d HD.out.1 (fun x y z u c=>by haveI:=hQ.sees w (devF (foF [(b6,setR k0 k1 k2 k3,26)] bf bb bo) bf bo bk kp a0 a1 cc dd x y z u c);infer_instance) hL).mono ?_) rfl);rintro e w1 ⟨q',Sr',S0',S1',rfl,hQ',hL1⟩;clear hL;revert hL1;refine aE ?_;intro hL) | ((with_reducible refine gS 17 ?_);refine aBp ?_;clear hL;intro b17 w1 hL) | ((with_reducible refine gC 84 ?_);go_loud (refine lCall rfl rfl ((otpCount_any (F:=fun x y z=>(b17,stR d.s q',58) :: (S1' ++ (S0' ++ (Sr' ++ (S1 ++ (S0 ++ (Sr ++ devF (foF [(b6,setR k0 k1 k2 k3,26)] bf bb bo) bf bo bk kp a0 a1 cc dd x y z (bkR bf bo d.p d.kn d.kc d.half) (coR kp rk k2 d.s d.q d.bt d.rg)))))))) (bf:=bf) (bb:=bb) hL).mono ?_) rfl);rintro e w1 ⟨rfl,hL1⟩;rw [HNN.out];clear hL;revert hL1;refine aE ?_;intro hL) | (refine aL3S6p ?_;clear hL;intro w1 hL))
    all_goals (go_ret;exact ⟨rfl,hL.bel⟩)
set_option maxRecDepth 100000 in
theorem topMany_out (seed n:Int) (h:n<0∨34<n) (w:World):Calls Tryz.prog 5 #[.int .i64 seed,.int .i64 n] w fun e w'=>e= .returned (.bool true)∧Below w.heap.size w w':=by
 have hL:=Loc.nil w
 rcases h with h | h
 ·go_enter Tryz.func5,Tryz.ntmps5
  go_wp2_with (first | refine aU ?_ | ((with_reducible refine gC 18 ?_);go_loud (refine lCall rfl rfl ((works_any _).mono ?_) rfl);rintro e w1 ⟨rfl,hb1⟩;have hL1:=hL.keep hb1;clear hL;revert hL1;refine aE ?_;intro hL) | (refine aL3S6p ?_;clear hL;intro w1 hL))
  all_goals (go_ret;exact ⟨rfl,hL.bel⟩)
 ·have h2:¬ n<0:=by omega
  go_enter Tryz.func5,Tryz.ntmps5
  go_wp2_with (first | refine aU ?_ | ((with_reducible refine gC 18 ?_);go_loud (refine lCall rfl rfl ((works_any _).mono ?_) rfl);rintro e w1 ⟨rfl,hb1⟩;have hL1:=hL.keep hb1;clear hL;revert hL1;refine aE ?_;intro hL) | (refine aL3S6p ?_;clear hL;intro w1 hL))
  all_goals (go_ret;exact ⟨rfl,hL.bel⟩)
theorem topMany_walk {w:World} (seed:Int) (hs: -9223372036854775808≤seed∧seed≤9223372036854775807) (n:Int) (hn: -9223372036854775808≤n∧n≤9223372036854775807) (hG:Glob w):Calls Tryz.prog 5 #[.int .i64 seed,.int .i64 n] w fun e w'=>e= .returned (.bool true)∧Below w.heap.size w w':=by
 by_cases h:0≤n∧n≤34
 ·obtain ⟨N,rfl⟩:∃ N:Nat,n=N:=⟨n.toNat,by omega⟩
  exact topMany_in seed hs N (by omega) w hG
 ·exact topMany_out seed n (by omega) w
end Go.Proofs.YtoifhhljfaoejaaGreatDoor
namespace Go.Proofs.YtoifhhljfaoejaaGreatDoor
open Go.ChangeShapes Go.WideShapes Go.ChangeAt Go.RowKit
theorem own:ownKnob Tryz.prog.godebug=none:=by kernel_rfl
theorem laidOut:laidOutB Tryz.prog=true:=by kernel_rfl
theorem gN0:Tryz.prog.globalNamed "portcullis/portcullisref1.k256" = some 0:=by kernel_rfl
theorem gT0:(Tryz.prog.globals[0]?).map (·.type)=some 139:=by kernel_rfl
theorem gN1:Tryz.prog.globalNamed "portcullis/portcullisref3.baseX" = some 1:=by kernel_rfl
theorem gT1:(Tryz.prog.globals[1]?).map (·.type)=some 147:=by kernel_rfl
theorem gN2:Tryz.prog.globalNamed "portcullis/portcullisref3.baseY" = some 2:=by kernel_rfl
theorem gT2:(Tryz.prog.globals[2]?).map (·.type)=some 147:=by kernel_rfl
theorem gN4:Tryz.prog.globalNamed "portcullis/portcullisref3.d" = some 4:=by kernel_rfl
theorem gT4:(Tryz.prog.globals[4]?).map (·.type)=some 147:=by kernel_rfl
theorem gN5:Tryz.prog.globalNamed "portcullis/portcullisref3.order" = some 5:=by kernel_rfl
theorem gT5:(Tryz.prog.globals[5]?).map (·.type)=some 259:=by kernel_rfl
theorem gN6:Tryz.prog.globalNamed "portcullis/portcullisref1.k512" = some 6:=by kernel_rfl
theorem gT6:(Tryz.prog.globals[6]?).map (·.type)=some 262:=by kernel_rfl
theorem laid_tail {P:Program} {x:String×DataW Unit} {l:List (String×DataW Unit)} {W:World} (h:laidMet P (x :: l) W):laidMet P l W:=by
 obtain ⟨ps,⟨g,t,cs,fuel,p,q,h1,h2,h3,h4,h5,rfl⟩,hnd,hall⟩:=h
 exact ⟨q,h5,(List.nodup_append.1 hnd).2.1,fun b off hm=>hall b off (List.mem_append_right _ hm)⟩
theorem d0:(Rows.laid_portcullis_portcullisref1_k256:DataW Unit)=Lib.tabData .u32 ((List.range 64).map fun i=>U (K256 i)):=by kernel_rfl
theorem d1:(Rows.laid_portcullis_portcullisref3_baseX:DataW Unit)=Lib.tabData .i64 ((List.range 16).map fun i=>((R3.dg pB.x.val i:Nat):Int)):=by kernel_rfl
theorem d2:(Rows.laid_portcullis_portcullisref3_baseY:DataW Unit)=Lib.tabData .i64 ((List.range 16).map fun i=>((R3.dg pB.y.val i:Nat):Int)):=by kernel_rfl
theorem d4:(Rows.laid_portcullis_portcullisref3_d:DataW Unit)=Lib.tabData .i64 ((List.range 16).map fun i=>((R3.dg dF.val i:Nat):Int)):=by kernel_rfl
theorem d5:(Rows.laid_portcullis_portcullisref3_order:DataW Unit)=Lib.tabData .i64 ((List.range 32).map fun i=>(((byteN Qo i).toNat:Nat):Int)):=by kernel_rfl
theorem d6:(Rows.laid_portcullis_portcullisref1_k512:DataW Unit)=Lib.tabData .u64 ((List.range 80).map fun i=>Q (Shb.K512 i)):=by kernel_rfl
theorem tab_cell {W:World} {name:String} {k:IntKind} {n g:Nat} {f:Nat→Int} (h:Lib.TabIs Tryz.prog W name k ((List.range n).map f)) (hg:Tryz.prog.globalNamed name=some g):∀ i,i<n→W.cell? ⟨g,i,none⟩=some (.int k (f i)):=fun i hi=>by
 rw [h.cell hg i (by simpa using hi),List.getD_eq_getElem?_getD]
 simp [hi]
theorem hd0 {W:World} {name:String} {f:Nat→Int} {l:List (String×DataW Unit)} (hn:Tryz.prog.globalNamed name=some 0) (h:laidMet Tryz.prog ((name,Lib.tabData .u32 ((List.range 64).map f)) :: l) W):∀ i,i<64→W.cell? ⟨0,i,none⟩=some (.int .u32 (f i)) :=
 tab_cell (Lib.tabIs_of_head hn gT0 Tryz.underlying139 Tryz.underlying136 (by kernel_rfl) (by kernel_rfl) h) hn
theorem hd1 {W:World} {name:String} {f:Nat→Int} {l:List (String×DataW Unit)} (hn:Tryz.prog.globalNamed name=some 1) (h:laidMet Tryz.prog ((name,Lib.tabData .i64 ((List.range 16).map f)) :: l) W):∀ i,i<16→W.cell? ⟨1,i,none⟩=some (.int .i64 (f i)) :=
 tab_cell (Lib.tabIs_of_head hn gT1 Tryz.underlying147 Tryz.underlying3 (by kernel_rfl) (by kernel_rfl) h) hn
theorem hd2 {W:World} {name:String} {f:Nat→Int} {l:List (String×DataW Unit)} (hn:Tryz.prog.globalNamed name=some 2) (h:laidMet Tryz.prog ((name,Lib.tabData .i64 ((List.range 16).map f)) :: l) W):∀ i,i<16→W.cell? ⟨2,i,none⟩=some (.int .i64 (f i)) :=
 tab_cell (Lib.tabIs_of_head hn gT2 Tryz.underlying147 Tryz.underlying3 (by kernel_rfl) (by kernel_rfl) h) hn
theorem hd4 {W:World} {name:String} {f:Nat→Int} {l:List (String×DataW Unit)} (hn:Tryz.prog.globalNamed name=some 4) (h:laidMet Tryz.prog ((name,Lib.tabData .i64 ((List.range 16).map f)) :: l) W):∀ i,i<16→W.cell? ⟨4,i,none⟩=some (.int .i64 (f i)) :=
 tab_cell (Lib.tabIs_of_head hn gT4 Tryz.underlying147 Tryz.underlying3 (by kernel_rfl) (by kernel_rfl) h) hn
theorem hd5 {W:World} {name:String} {f:Nat→Int} {l:List (String×DataW Unit)} (hn:Tryz.prog.globalNamed name=some 5) (h:laidMet Tryz.prog ((name,Lib.tabData .i64 ((List.range 32).map f)) :: l) W):∀ i,i<32→W.cell? ⟨5,i,none⟩=some (.int .i64 (f i)) :=
 tab_cell (Lib.tabIs_of_head hn gT5 Tryz.underlying259 Tryz.underlying3 (by kernel_rfl) (by kernel_rfl) h) hn
theorem hd6 {W:World} {name:String} {f:Nat→Int} {l:List (String×DataW Unit)} (hn:Tryz.prog.globalNamed name=some 6) (h:laidMet Tryz.prog ((name,Lib.tabData .u64 ((List.range 80).map f)) :: l) W):∀ i,i<80→W.cell? ⟨6,i,none⟩=some (.int .u64 (f i)) :=
 tab_cell (Lib.tabIs_of_head hn gT6 Tryz.underlying262 Tryz.underlying227 (by kernel_rfl) (by kernel_rfl) h) hn
abbrev laid6:List (String×DataW Unit):=[("portcullis/portcullisref1.k256", Rows.laid_portcullis_portcullisref1_k256),("portcullis/portcullisref1.k512", Rows.laid_portcullis_portcullisref1_k512),("portcullis/portcullisref3.order", Rows.laid_portcullis_portcullisref3_order),("portcullis/portcullisref3.d", Rows.laid_portcullis_portcullisref3_d),("portcullis/portcullisref3.baseX", Rows.laid_portcullis_portcullisref3_baseX),("portcullis/portcullisref3.baseY", Rows.laid_portcullis_portcullisref3_baseY)]
theorem door_met6 (os:Os) (args:Array Value):laidMetH Tryz.prog laid6 ((World.laidAll Tryz.prog os laid6).forCall (fun _ _=>0) ⟨#[],args,[]⟩).memory:=by
 rw [MakeChecks.laidMetH_plain _ _ _ (by kernel_rfl)];exact laidMet_laidAll _ (by kernel_rfl) (by kernel_rfl)
theorem door_shape6 (os:Os):(World.laidAll Tryz.prog os laid6).Shaped Tryz.prog:=World.shaped_of_ZipB (by kernel_rfl) (by kernel_rfl)
theorem glob_of_laid6 {W:World} (h:laidMetH Tryz.prog laid6 W):Glob W:=by
 rw [MakeChecks.laidMetH_plain _ _ _ (by kernel_rfl)] at h
 unfold laid6 at h
 rw [d0,d1,d2,d4,d5,d6] at h
 have h1:=laid_tail h
 have h2:=laid_tail h1
 have h3:=laid_tail h2
 have h4:=laid_tail h3
 have h5:=laid_tail h4
 have c:=hd6 gN6 h1
 exact ⟨cell_lt (c 0 (by decide)),hd0 gN0 h,hd1 gN1 h4,hd2 gN2 h5,hd4 gN4 h3,hd5 gN5 h2,c⟩
theorem open_i64 {H:Type} {enc:TypeId×Value→H} {P:Program} {w:World} {base:Nat} {spare:Nat→Bool} {held:Bool} {r:Go.Reach} {b0:Nat} {t:TypeId} {v:Value} {d:DataW H} {ps:List MemPlace} (ht:P.underlying t=some (.int .i64))
 (hval:Value.okWide P w r b0 t v) (hd:DataW.Trod enc P w base spare held t v d ps):∃ x,v= .int .i64 x∧ -9223372036854775808≤x∧x≤9223372036854775807:=by
 obtain ⟨x,h1,_,_,h2⟩:=open_int ht hval hd
 exact ⟨x,h1,i64_of_wf h2⟩
end Go.Proofs.YtoifhhljfaoejaaGreatDoor
