/-
  Lemmas of the law, part 22: the walks of the functions that it calls and the plain facts about them. No condition beyond those written.
-/
import Derived.Test.YtoifhhljfaoejaaGreatDoorPkAA
import Derived.Test.YtoifhhljfaoejaaGreatDoorPkAU
import Derived.Test.YtoifhhljfaoejaaGreatDoorPkAK
import Derived.Test.YtoifhhljfaoejaaGreatDoorPkAL
import Derived.Test.YtoifhhljfaoejaaGreatDoorPkAE
set_option maxRecDepth 100000
set_option maxHeartbeats 8000000
set_option linter.unusedVariables false
set_option linter.unusedSimpArgs false
set_option linter.unusedSectionVars false
namespace Go.Proofs.YtoifhhljfaoejaaGreatDoor
open Go.Proofs.Tryz
section
open Go.RowKit
theorem fJ:(prog.info? 75).map (fun i=>(i.zero,i.size))=some (some (.agg (row 64 fun _=> .int .u8 0)),64):=by kernel_rfl
theorem j5:(prog.info? 75).map (·.size)=some 64:=by kernel_rfl
def eD(v s:Nat→BitVec 32)(k:Nat):Nat→BitVec 8:=fun i=>if i<k then jM v s i else 0
theorem pW(v s:Nat→BitVec 32)(k:Nat):upd (eD v s k) k (jM v s k)=eD v s (k+1):=by
 funext i;unfold upd eD;by_cases e:i=k
 ·subst e;simp
 ·rw[if_neg e]
  by_cases hi:i<k
  ·rw[if_pos hi,if_pos (by omega)]
  ·rw[if_neg hi,if_neg (by omega)]
theorem pX(v s:Nat→BitVec 32):aa 64 (eD v s 64)=aa 64 (jM v s):=ak fun i hi=>by unfold eD;rw[if_pos hi]
theorem Em(v s:Nat→BitVec 32)(k r:Nat)(hr:k%4=r):U (v (k/4)+s (k/4))/((2^(8*r):Nat):Int)%(256:Int)=B8 (jM v s k):=by
 unfold U B8 jM;rw[BitVec.toNat_setWidth,BitVec.toNat_ushiftRight,Nat.shiftRight_eq_div_pow,hr,Int.natCast_emod,Int.natCast_ediv];rfl
structure BlkAt(w:World)(s v:Nat→BitVec 32)(gs gv:Nat)(wr:World):Prop where
 hr:wr.heap[w.heap.size+2]?=some (.cells (row 64 fun _=> .int .u8 0) 75 (0,0))
 hs:wr.heap[gs]?=some (.cells (a6 16 s) 298 (0,0))
 hv:wr.heap[gv]?=some (.cells (a6 16 v) 298 (0,0))
 ls:w.heap.size+2<gs
 lv:gs<gv
 hb:Below w.heap.size w wr
theorem BlkAt.turn{w wr w':World}{s v v':Nat→BitVec 32}{gs gv:Nat}(h:BlkAt w s v gs gv wr)(hv:w'.heap[gv]?=some (.cells (a6 16 v') 298 (0,0)))(hg:wr.grownBy w' (some gv)):BlkAt w s v' gs gv w':=by
 have lv:=h.lv;have ls:=h.ls;refine⟨?_,?_,hv,ls,lv,h.hb.grown hg h.hb.size (fun k hk=>by cases hk;omega)⟩
 ·exact(hg.block _ (Array.getElem?_eq_some_iff.1 h.hr).1 (by intro e;injection e with e;omega)).trans h.hr
 ·exact(hg.block _ (Array.getElem?_eq_some_iff.1 h.hs).1 (by intro e;injection e with e;omega)).trans h.hs
theorem rC(key nonce:Nat→BitVec 8)(n:Int)(w:World) :
 Rt 288 #[.agg (aa 32 key),.int .i64 n,.agg (aa 12 nonce)] w (.agg (aa 64 (dO key (BitVec.ofInt 32 n) nonce))):=by
 have hcv:=vH n;obtain⟨s,hs0⟩:∃s,s=vF key (BitVec.ofInt 32 n) nonce:=⟨_,rfl⟩;have HS0:=Hd hs0;have HZ:=Hd (show(prog.info? 298).map (·.size)=some (a6 16 s).size by rw[tw,aZ]);have HZK:=Hd (show(prog.info? 24).map (·.size)=some (aa 32 key).size by rw[aj];kernel_rfl);have HZN:=Hd (show(prog.info? 161).map (·.size)=some (aa 12 nonce).size by rw[aj];kernel_rfl);have hbg:=tx key nonce (BitVec.ofInt 32 n);rw[← hs0]at hbg;have HBG:=Hd hbg;clear hbg hs0;go_enter func288,ntmps288;go_wp2_with (first
  | (with_reducible refine aw rfl 75 rfl 64 _ fJ ?_)
  | ((with_reducible show wpList _ _ _ (⟨_,.load 24 _,_,_,_,_⟩::_) _ _);refine wpList_load_row rfl 24 _ rfl w.heap.size rfl 24 (aa 32 key) (0,0) _ ?h1 underlying24 rfl HZK.out ?_;rotate_left)
  | ((with_reducible show wpList _ _ _ (⟨_,.load 161 _,_,_,_,_⟩::_) _ _);refine wpList_load_row rfl 161 _ rfl (w.heap.size+1) rfl 161 (aa 12 nonce) (0,0) _ ?h2 underlying161 rfl HZN.out ?_;rotate_left))
 case h1=>exact(Below.heap_alloc _ _ _ (by simp;omega)).trans ((Below.heap_alloc _ _ _ (by simp)).trans (heap_alloc_new _ _))
 case h2 =>
  refine(Below.heap_alloc _ _ _ (by simp)).trans ?_;have:=heap_alloc_new (w.alloc (.cells (aa 32 key) 24)) (.cells (aa 12 nonce) 161);simpa using this
 refine(HBG.out _).mono ?_;rintro e w1⟨rfl,hb1⟩;have HB1:=Hd (show Below w.heap.size w w1 from eY (aB (aB (aB (Below.refl w.heap.size w) (.cells (aa 32 key) 24)) (.cells (aa 12 nonce) 161)) (.cells (row 64 fun _=> .int .u8 0) 75)) hb1);have HR1:=Hd (show w1.heap[w.heap.size+2]?=some (.cells (row 64 fun _=> .int .u8 0) 75 (0,0))from by
  refine(hb1.block _ (by simp)).trans ?_;have:=heap_alloc_new ((w.alloc (.cells (aa 32 key) 24)).alloc (.cells (aa 12 nonce) 161)) (.cells (row 64 fun _=> .int .u8 0) 75);simpa using this)
 have hz1:w.heap.size+2<w1.heap.size:=by have:=hb1.size;simp at this;omega
 clear hb1;go_wp2_with (first
  | (with_reducible refine aw rfl 298 rfl 16 _ yd ?_)
  | ((with_reducible show wpList _ _ _ (⟨_,.load 298 _,_,_,_,_⟩::_) _ _);refine wpList_load_row rfl 298 _ rfl w1.heap.size rfl 298 (a6 16 s) (0,0) _ (aC (heap_alloc_new _ _)) underlying298 rfl HZ.out ?_)
  | ((with_reducible show wpList _ _ _ (⟨_,.store 298 _ _,_,_,_,_⟩::_) _ _);refine wpList_store_rowTo rfl 298 _ _ rfl rfl _ (a6 16 s) rfl rfl 298 _ (heap_alloc_new _ _) HZ.out (by rw[aQ,aZ]) (bP _ _) ?_))
 obtain⟨gs,egs⟩:∃gs,gs=w1.heap.size:=⟨_,rfl⟩;have HA:=Hd (show BlkAt w s (lY s 0) gs (gs+1) ((((w1.alloc (.cells (row 16 fun _=> .int .u32 0) 298)).setRow w1.heap.size (a6 16 s)).alloc (.cells (row 16 fun _=> .int .u32 0) 298)).setRow (w1.heap.size+1) (a6 16 s))from by
  subst egs;refine⟨?_,?_,?_,hz1,by omega,?_⟩
  ·refine(au (by omega)).trans ((Below.heap_alloc _ _ _ (by simp[World.setRow];omega)).trans ((au (by omega)).trans ((Below.heap_alloc _ _ _ (by omega)).trans HR1.out)))
  ·refine(au (by omega)).trans ((Below.heap_alloc _ _ _ (by simp[World.setRow])).trans (aC (heap_alloc_new _ _)))
  ·refine aC (c:=row 16 fun _=> .int .u32 0) ?_
   have:=heap_alloc_new ((w1.alloc (.cells (row 16 fun _=> .int .u32 0) 298)).setRow w1.heap.size (a6 16 s)) (.cells (row 16 fun _=> .int .u32 0) 298);simpa[World.setRow] using this
  ·exact aW (aB (aW (aB HB1.out _) (by omega) _) _) (by omega) _)
 generalize(((w1.alloc (.cells (row 16 fun _=> .int .u32 0) 298)).setRow w1.heap.size (a6 16 s)).alloc (.cells (row 16 fun _=> .int .u32 0) 298)).setRow (w1.heap.size+1) (a6 16 s)=W at *
 rw[← egs];clear egs hz1 HR1 HB1;go_loopw [19] (fun i wr=>∃k:Nat,k≤10∧i= .int .i64 k∧BlkAt w s (lY s k) gs (gs+1) wr) (fun i _=>10-(intOf i).toNat);case atStart=>exact⟨0,by omega,rfl,HA.out⟩
 case round =>
  clear HA;obtain⟨k,hk,rfl,hA⟩:=hrel;have HA:=Hd hA;clear hA;by_cases hlt:k<10
  ·have hk0:(0:Int)≤(k:Int):=by omega
   have hk1:(k:Int)<10:=by omega
   have HD:=Hd (show lY s (k+1)=Bj (yc (lY s k) 4) 4 from rfl);generalize lY s k=v at *
   go_wp2;obtain⟨wo,rfl⟩:∃wo:World,wo=wr:=⟨_,rfl⟩;go_loopw [21] (fun i wr=>∃j:Nat,j≤4∧i= .int .i64 j∧BlkAt w s (yc v j) gs (gs+1) wr) (fun i _=>4-(intOf i).toNat);case atStart=>exact⟨0,by omega,rfl,HA.out⟩
   case round =>
    clear HA;obtain⟨j,hj,rfl,hA⟩:=hrel;have HA:=Hd hA;clear hA;by_cases hlt4:j<4
    ·have hj0:(0:Int)≤(j:Int):=by omega
     have hj1:(j:Int)<4:=by omega
     have hq:=ni (gs+1) j (4+j) (8+j) (12+j) (yc v j) wr (by omega) (by omega) (by omega) (by omega) HA.out.hv;rw[show((4+j:Nat):Int)=4+(j:Int) by omega,show((8+j:Nat):Int)=8+(j:Int) by omega,show((12+j:Nat):Int)=12+(j:Int) by omega]at hq;have HQ:=Hd hq;clear hq;go_wp2_with fail;refine HQ.out.mono ?_;rintro e w2⟨rfl,hv2,hg2⟩;have HA2:=Hd (show BlkAt w s (yc v (j+1)) gs (gs+1) w2 from HA.out.turn hv2 hg2);clear hv2 hg2;go_wp2_with fail;go_roundw;case rel=>exact⟨j+1,by omega,by go_num,HA2.out⟩
     case measure=>simp[intOf];omega
    ·obtain rfl:j=4:=by omega
     rw[show((4:Nat):Int)=4 from rfl];generalize yc v 4=v1 at *
     go_wp2;obtain⟨wo,rfl⟩:∃wo:World,wo=wr:=⟨_,rfl⟩;go_loopw [33] (fun i wr=>∃j:Nat,j≤4∧i= .int .i64 j∧BlkAt w s (Bj v1 j) gs (gs+1) wr) (fun i _=>4-(intOf i).toNat);case atStart=>exact⟨0,by omega,rfl,HA.out⟩
     case round =>
      clear HA;obtain⟨j,hj,rfl,hA⟩:=hrel;have HA:=Hd hA;clear hA;by_cases hlt4:j<4
      ·have hj0:(0:Int)≤(j:Int):=by omega
       have hj1:(j:Int)<4:=by omega
       have hq:=ni (gs+1) j (4+(j+1)%4) (8+(j+2)%4) (12+(j+3)%4) (Bj v1 j) wr (by omega) (by omega) (by omega) (by omega) HA.out.hv;rw[show((4+(j+1)%4:Nat):Int)=4+((j:Int)+1)%4 by omega,show((8+(j+2)%4:Nat):Int)=8+((j:Int)+2)%4 by omega,show((12+(j+3)%4:Nat):Int)=12+((j:Int)+3)%4 by omega]at hq;have HQ:=Hd hq;clear hq;go_wp2_with fail;refine HQ.out.mono ?_;rintro e w2⟨rfl,hv2,hg2⟩;have HA2:=Hd (show BlkAt w s (Bj v1 (j+1)) gs (gs+1) w2 from HA.out.turn hv2 hg2);clear hv2 hg2;go_wp2_with fail;go_roundw;case rel=>exact⟨j+1,by omega,by go_num,HA2.out⟩
       case measure=>simp[intOf];omega
      ·obtain rfl:j=4:=by omega
       rw[show((4:Nat):Int)=4 from rfl];rw[← HD.out]at HA;go_wp2;go_roundw;case rel=>exact⟨k+1,by omega,by go_num,HA.out⟩
       case measure=>simp[intOf];omega
  ·obtain rfl:k=10:=by omega
   rw[show((10:Nat):Int)=10 from rfl];generalize hv:lY s 10=v at *
   have HV:=Hd hv;clear hv;go_wp2_with (with_reducible refine aw rfl 75 rfl 64 _ fJ ?_);obtain⟨go,ego⟩:∃go,go=wr.heap.size:=⟨_,rfl⟩;have HA2:=Hd (show BlkAt w s v gs (gs+1) (wr.alloc (.cells (row 64 fun _=> .int .u8 0) 75))from
    ⟨(Below.heap_alloc _ _ _ (Array.getElem?_eq_some_iff.1 HA.out.hr).1).trans HA.out.hr,(Below.heap_alloc _ _ _ (Array.getElem?_eq_some_iff.1 HA.out.hs).1).trans HA.out.hs,(Below.heap_alloc _ _ _ (Array.getElem?_eq_some_iff.1 HA.out.hv).1).trans HA.out.hv,HA.out.ls,HA.out.lv,aB HA.out.hb _⟩)
   have HO:=Hd (show(wr.alloc (.cells (row 64 fun _=> .int .u8 0) 75)).heap[go]?=some (.cells (aa 64 (eD v s 0)) 75 (0,0))from by
    rw[ego];exact heap_alloc_new _ _)
   have hgo:gs+1<go:=by rw[ego];exact(Array.getElem?_eq_some_iff.1 HA.out.hv).1
   generalize wr.alloc (.cells (row 64 fun _=> .int .u8 0) 75)=W2 at *
   rw[← ego];clear ego HA;go_loopw [52] (fun i wr=>∃q:Nat,q≤64∧i= .int .i64 q∧BlkAt w s v gs (gs+1) wr∧wr.heap[go]?=some (.cells (aa 64 (eD v s q)) 75 (0,0))) (fun i _=>64-(intOf i).toNat);case atStart=>exact⟨0,by omega,rfl,HA2.out,HO.out⟩
   case round =>
    clear HA2 HO;obtain⟨q,hq,rfl,hA,ho⟩:=hrel;have HA:=Hd hA;have HO:=Hd ho;clear hA ho;by_cases hlt6:q<64
    ·have hq0:(0:Int)≤(q:Int):=by omega
     have hq1:(q:Int)<64:=by omega
     have cv:wr.cell? ⟨gs+1,q/4,none⟩=some (.int .u32 (U (v (q/4)))):=ap HA.out.hv (by omega);have cs:wr.cell? ⟨gs,q/4,none⟩=some (.int .u32 (U (s (q/4)))):=ap HA.out.hs (by omega);have co:wr.cell? ⟨go,q,none⟩=some (.int .u8 (B8 (eD v s q q))):=a4 HO.out hlt6;have fo:wr.frozen? ⟨go,q,none⟩=false:=frozen_of_row wr _ _ _ _ HO.out;have HOK:=Hd (pW v s q);have HVAL:=Hd (Em v s q);have hadd:=gM;have hadd':=fN;obtain⟨u0,u1⟩:=j8 (v (q/4)+s (q/4));have HA2:=Hd (show ∀x,BlkAt w s v gs (gs+1) (wr.setCell ⟨go,q,none⟩ x).drew from fun x=>by
      have hls:=HA.out.ls;refine⟨?_,?_,?_,HA.out.ls,HA.out.lv,(HA.out.hb.setCell (by simp;omega) _).drew⟩
      ·exact(heap_setCell_other _ _ _ _ (by simp;omega)).trans HA.out.hr
      ·exact(heap_setCell_other _ _ _ _ (by simp;omega)).trans HA.out.hs
      ·exact(heap_setCell_other _ _ _ _ (by simp;omega)).trans HA.out.hv)
     have hr4:q%4=0∨q%4=1∨q%4=2∨q%4=3:=by omega
     rcases hr4 with hr|hr|hr|hr
     ·have hri:(q:Int)%4=0:=by omega
      have HVV:=Hd (show U (v (q/4)+s (q/4))%256=B8 (jM v s q)from by
       have:=HVAL.out 0 hr;rw[show((2^(8*0):Nat):Int)=1 from rfl]at this;omega)
      clear hr;go_wp2_with fail;have t5:(q:Int).tmod 4=0:=by rw[Int.tmod_eq_emod_of_nonneg hq0];exact hri
      have t6:IntKind.i64.wrap 0=0:=by decide
      have t1:=IntWalk.i64_in ((q:Int)/4) (by omega);have t2:(0:Int)≤(q:Int)/4:=by omega
      have t3:(q:Int)/4<16:=by omega
      have t4:((q:Int)/4).toNat=q/4:=by omega
      go_still_tail 16,(by kernel_rfl);clear t1 t2 t3 t4 t5 t6;change wpList _ _ _ _ _ wr.drew;go_wp2_with fail;go_roundw;case rel =>
       rw[HVV.out];refine⟨q+1,by omega,by go_num,HA2.out _,?_⟩;rw[← HOK.out];exact bm _ HO.out hlt6
      case measure=>simp[intOf];omega
     ·have hri:(q:Int)%4=1:=by omega
      have HVV:=Hd (show U (v (q/4)+s (q/4))/256%256=B8 (jM v s q)from by
       have:=HVAL.out 1 hr;rw[show((2^(8*1):Nat):Int)=256 from rfl]at this;omega)
      clear hr;go_wp2_with fail;have t5:(q:Int).tmod 4=1:=by rw[Int.tmod_eq_emod_of_nonneg hq0];exact hri
      have t6:IntKind.i64.wrap 8=8:=by decide
      have t1:=IntWalk.i64_in ((q:Int)/4) (by omega);have t2:(0:Int)≤(q:Int)/4:=by omega
      have t3:(q:Int)/4<16:=by omega
      have t4:((q:Int)/4).toNat=q/4:=by omega
      go_still_tail 16,(by kernel_rfl);clear t1 t2 t3 t4 t5 t6;change wpList _ _ _ _ _ wr.drew;go_wp2_with fail;go_roundw;case rel =>
       rw[HVV.out];refine⟨q+1,by omega,by go_num,HA2.out _,?_⟩;rw[← HOK.out];exact bm _ HO.out hlt6
      case measure=>simp[intOf];omega
     ·have hri:(q:Int)%4=2:=by omega
      have HVV:=Hd (show U (v (q/4)+s (q/4))/65536%256=B8 (jM v s q)from by
       have:=HVAL.out 2 hr;rw[show((2^(8*2):Nat):Int)=65536 from rfl]at this;omega)
      clear hr;go_wp2_with fail;have t5:(q:Int).tmod 4=2:=by rw[Int.tmod_eq_emod_of_nonneg hq0];exact hri
      have t6:IntKind.i64.wrap 16=16:=by decide
      have t1:=IntWalk.i64_in ((q:Int)/4) (by omega);have t2:(0:Int)≤(q:Int)/4:=by omega
      have t3:(q:Int)/4<16:=by omega
      have t4:((q:Int)/4).toNat=q/4:=by omega
      go_still_tail 16,(by kernel_rfl);clear t1 t2 t3 t4 t5 t6;change wpList _ _ _ _ _ wr.drew;go_wp2_with fail;go_roundw;case rel =>
       rw[HVV.out];refine⟨q+1,by omega,by go_num,HA2.out _,?_⟩;rw[← HOK.out];exact bm _ HO.out hlt6
      case measure=>simp[intOf];omega
     ·have hri:(q:Int)%4=3:=by omega
      have HVV:=Hd (show U (v (q/4)+s (q/4))/16777216=B8 (jM v s q)from by
       have:=HVAL.out 3 hr;rw[show((2^(8*3):Nat):Int)=16777216 from rfl]at this;omega)
      clear hr;go_wp2_with fail;have t5:(q:Int).tmod 4=3:=by rw[Int.tmod_eq_emod_of_nonneg hq0];exact hri
      have t6:IntKind.i64.wrap 24=24:=by decide
      have t1:=IntWalk.i64_in ((q:Int)/4) (by omega);have t2:(0:Int)≤(q:Int)/4:=by omega
      have t3:(q:Int)/4<16:=by omega
      have t4:((q:Int)/4).toNat=q/4:=by omega
      go_still_tail 16,(by kernel_rfl);clear t1 t2 t3 t4 t5 t6;change wpList _ _ _ _ _ wr.drew;go_wp2_with fail;go_roundw;case rel =>
       rw[HVV.out];refine⟨q+1,by omega,by go_num,HA2.out _,?_⟩;rw[← HOK.out];exact bm _ HO.out hlt6
      case measure=>simp[intOf];omega
    ·obtain rfl:q=64:=by omega
     rw[show((64:Nat):Int)=64 from rfl];have HZ64:=Hd (show(prog.info? 75).map (·.size)=some (aa 64 (eD v s 64)).size by rw[j5,aj]);go_wp2_with (first
      | ((with_reducible show wpList _ _ _ (⟨_,.load 75 _,_,_,_,_⟩::_) _ _);refine wpList_load_row rfl 75 _ rfl go rfl 75 (aa 64 (eD v s 64)) (0,0) _ HO.out underlying75 rfl HZ64.out ?_)
      | ((with_reducible show wpList _ _ _ (⟨_,.store 75 _ _,_,_,_,_⟩::_) _ _);refine wpList_store_rowTo rfl 75 _ _ rfl rfl (w.heap.size+1+1) (aa 64 (eD v s 64)) rfl rfl 75 _ HA.out.hr HZ64.out (by rw[aQ,aj]) (bU _ _) ?_))
     refine bodyPost_ret (results_cell_row rfl _ _ (w.heap.size+1+1) 75 (aa 64 (eD v s 64)) (0,0) _ rfl (aC HA.out.hr) underlying75 rfl HZ64.out) rfl ?_;refine⟨?_,aW HA.out.hb (by omega) _⟩;rw[pX,← HV.out,HS0.out];rfl
end
section
open Go.RowKit
structure RefAt(w:World)(key nonce:Nat→BitVec 8)(s:Nat→BitVec 32)(wr:World):Prop where
 hk:wr.heap[w.heap.size]?=some (.cells (aa 32 key) 24 (0,0))
 hn:wr.heap[w.heap.size+1]?=some (.cells (aa 12 nonce) 161 (0,0))
 hr:wr.heap[w.heap.size+2]?=some (.cells (row 64 fun _=> .int .u8 0) 75 (0,0))
 hs:wr.heap[w.heap.size+3]?=some (.cells (a6 16 s) 298 (0,0))
 hb:Below w.heap.size w wr
theorem RefAt.set{w wr:World}{key nonce:Nat→BitVec 8}{s:Nat→BitVec 32}(h:RefAt w key nonce s wr){i:Nat}(x:BitVec 32)(hi:i<16) :
 RefAt w key nonce (upd s i x) (wr.setCell ⟨w.heap.size+1+1+1,i,none⟩ (.int .u32 (U x))):=by
 refine⟨?_,?_,?_,?_,h.hb.setCell (by simp;omega) _⟩
 ·exact(heap_setCell_other _ _ _ _ (by simp;omega)).trans h.hk
 ·exact(heap_setCell_other _ _ _ _ (by simp)).trans h.hn
 ·exact(heap_setCell_other _ _ _ _ (by simp)).trans h.hr
 ·exact bZ _ h.hs hi
theorem RefAt.drewN{w wr:World}{key nonce:Nat→BitVec 8}{s:Nat→BitVec 32}(h:RefAt w key nonce s wr)(m:Nat):RefAt w key nonce s (wr.drewN m):=⟨h.hk,h.hn,h.hr,h.hs,dI h.hb m⟩
theorem pY(n:Int):bits .and .i64 n 4294967295=n%4294967296:=by
 show IntKind.i64.wrap ((BitVec.ofInt 64 n&&&BitVec.ofInt 64 4294967295).toNat:Int)=_;have e:BitVec.ofInt 64 4294967295=BitVec.ofNat 64 4294967295:=rfl;rw[e,BitVec.toNat_and,BitVec.toNat_ofInt];have e2:(BitVec.ofNat 64 4294967295).toNat=2^32-1:=rfl;rw[e2,Nat.and_two_pow_sub_one_eq_mod,IntKind.wrap_i64];omega
theorem lZ(v s:Nat→BitVec 32)(k r:Nat)(hr:k%4=r):bits .and .u32 (U (v (k/4)+s (k/4))/((2^(8*r):Nat):Int)) (255:Int)=B8 (jM v s k):=by
 rw[qI];have e:(255:Int)=U 255:=rfl;rw[e,BF];unfold U B8 jM;rw[BitVec.toNat_and,BitVec.toNat_setWidth,hr];have e2:(255:BitVec 32).toNat=2^8-1:=rfl;rw[e2,Nat.and_two_pow_sub_one_eq_mod]
theorem Iv:(#[.int .u32 1634760805,.int .u32 857760878,.int .u32 2036477234,.int .u32 1797285236,.int .u32 0,.int .u32 0,.int .u32 0,.int .u32 0,.int .u32 0,.int .u32 0,.int .u32 0,.int .u32 0,.int .u32 0,.int .u32 0,.int .u32 0,.int .u32 0]:Array Value)=a6 16 fun i=>if i<4 then ik i else 0:=by kernel_rfl
theorem Ga{v0 v1 v2 v3 v4 v5 v6 v7 v8:Nat→BitVec 32}(h1:v1=qr 0 4 8 12 v0)(h2:v2=qr 1 5 9 13 v1)(h3:v3=qr 2 6 10 14 v2)(h4:v4=qr 3 7 11 15 v3)(h5:v5=qr 0 5 10 15 v4)(h6:v6=qr 1 6 11 12 v5)(h7:v7=qr 2 7 8 13 v6)(h8:v8=qr 3 4 9 14 v7):dbl v0=v8:=by
 rw[h8,h7,h6,h5,h4,h3,h2,h1];rfl
theorem l9(key nonce:Nat→BitVec 8)(n:Int)(w:World) :
 Rt 191 #[.agg (aa 32 key),.int .i64 n,.agg (aa 12 nonce)] w (.agg (aa 64 (dO key (BitVec.ofInt 32 n) nonce))):=by
 have hcv:IntKind.u32.wrap (n%4294967296)=U (BitVec.ofInt 32 n):=by rw[IntKind.wrap_u32',iR];omega
 have hcv2:n%4294967296=U (BitVec.ofInt 32 n):=by rw[iR]
 have hand:=pY n;rw[hcv2]at hand hcv;have HAND:=Hd hand;have HCV:=Hd hcv;clear hand hcv hcv2;go_enter func191,ntmps191;go_wp2_with (with_reducible refine aw rfl 75 rfl 64 _ fJ ?_);rw[Iv];have HA:=Hd (show RefAt w key nonce (jN key 0) ((((w.alloc (.cells (aa 32 key) 24)).alloc (.cells (aa 12 nonce) 161)).alloc (.cells (row 64 fun _=> .int .u8 0) 75)).alloc (.cells (a6 16 fun i=>if i<4 then ik i else 0) 298))from by
  refine⟨?_,?_,?_,?_,?_⟩
  ·refine(Below.heap_alloc _ _ _ (by simp;omega)).trans ((Below.heap_alloc _ _ _ (by simp;omega)).trans ((Below.heap_alloc _ _ _ (by simp)).trans (heap_alloc_new _ _)))
  ·refine(Below.heap_alloc _ _ _ (by simp)).trans ((Below.heap_alloc _ _ _ (by simp)).trans ?_)
   have:=heap_alloc_new (w.alloc (.cells (aa 32 key) 24)) (.cells (aa 12 nonce) 161);simpa using this
  ·refine(Below.heap_alloc _ _ _ (by simp)).trans ?_
   have:=heap_alloc_new ((w.alloc (.cells (aa 32 key) 24)).alloc (.cells (aa 12 nonce) 161)) (.cells (row 64 fun _=> .int .u8 0) 75);simpa using this
  ·rw[ru key]
   have:=heap_alloc_new (((w.alloc (.cells (aa 32 key) 24)).alloc (.cells (aa 12 nonce) 161)).alloc (.cells (row 64 fun _=> .int .u8 0) 75)) (.cells (a6 16 (jN key 0)) 298);simpa using this
  ·exact aB (aB (aB (aB (Below.refl _ _) _) _) _) _)
 generalize(((w.alloc (.cells (aa 32 key) 24)).alloc (.cells (aa 12 nonce) 161)).alloc (.cells (row 64 fun _=> .int .u8 0) 75)).alloc (.cells (a6 16 fun i=>if i<4 then ik i else 0) 298)=W at *
 have hadd:=gM;go_loopw [8] (fun i wr=>∃k:Nat,k≤8∧i= .int .i64 k∧RefAt w key nonce (jN key k) wr) (fun i _=>8-(intOf i).toNat);case atStart=>exact⟨0,by omega,rfl,HA.out⟩
 case round =>
  clear HA;obtain⟨k,hk,rfl,hA⟩:=hrel;have HA:=Hd hA;clear hA;by_cases hlt:k<8
  ·have hk0:(0:Int)≤(k:Int):=by omega
   have hk1:(k:Int)<8:=by omega
   have hsl:=Ek w.heap.size k hlt;have hw4:=pV w.heap.size (4*k) (32-4*k) (32-4*k) (key (4*k)) (key (4*k+1)) (key (4*k+2)) (key (4*k+3)) wr (by omega) (a4 HA.out.hk (by omega)) (a4 HA.out.hk (by omega)) (a4 HA.out.hk (by omega)) (a4 HA.out.hk (by omega));have HW4:=Hd hw4;clear hw4;go_wp2_with fail;refine HW4.out.mono ?_;rintro e w'⟨rfl,m,rfl⟩;clear hsl;have HAm:=Hd (HA.out.drewN m);generalize wr.drewN m=wm at *
   have f1:wm.frozen? ⟨w.heap.size+1+1+1,4+k,none⟩=false:=frozen_of_row _ _ _ _ _ HAm.out.hs;have c1:=ap (i:=4+k) HAm.out.hs (by omega);have c2:wm.cell? ⟨w.heap.size+1+1+1,4+k,none⟩=some (.int .u32 (U (jN key k (4+k)))):=c1;clear c1;go_wp2_with fail;go_roundw;case rel=>exact⟨k+1,by omega,by go_num,by rw[← rx key hlt];exact HAm.out.set _ (by omega)⟩
   case measure=>simp[intOf];omega
  ·obtain rfl:k=8:=by omega
   rw[show((8:Nat):Int)=8 from rfl];have f1:wr.frozen? ⟨w.heap.size+1+1+1,12,none⟩=false:=frozen_of_row _ _ _ _ _ HA.out.hs;have c2:wr.cell? ⟨w.heap.size+1+1+1,12,none⟩=some (.int .u32 (U (jN key 8 12))):=ap (i:=12) HA.out.hs (by omega);have hand:=HAND.out;have hcv:=HCV.out;go_wp2_with fail;clear hand hcv;have HB:=Hd (show RefAt w key nonce (iZ key (BitVec.ofInt 32 n) nonce 0) (wr.setCell ⟨w.heap.size+1+1+1,12,none⟩ (.int .u32 (U (BitVec.ofInt 32 n))))from by
    rw[← ry];exact HA.out.set _ (by omega))
   generalize wr.setCell ⟨w.heap.size+1+1+1,12,none⟩ (.int .u32 (U (BitVec.ofInt 32 n)))=wb at *
   clear f1 c2 HA;go_loopw [9] (fun i wr=>∃k:Nat,k≤3∧i= .int .i64 k∧RefAt w key nonce (iZ key (BitVec.ofInt 32 n) nonce k) wr) (fun i _=>3-(intOf i).toNat);case atStart=>exact⟨0,by omega,rfl,HB.out⟩
   case round =>
    clear HB;obtain⟨j,hj,rfl,hA⟩:=hrel;have HA:=Hd hA;clear hA;by_cases hlt3:j<3
    ·have hj0:(0:Int)≤(j:Int):=by omega
     have hj1:(j:Int)<3:=by omega
     have hsl:=vJ (w.heap.size+1) j hlt3;have hw4:=pV (w.heap.size+1) (4*j) (12-4*j) (12-4*j) (nonce (4*j)) (nonce (4*j+1)) (nonce (4*j+2)) (nonce (4*j+3)) wr (by omega) (a4 HA.out.hn (by omega)) (a4 HA.out.hn (by omega)) (a4 HA.out.hn (by omega)) (a4 HA.out.hn (by omega));have HW4:=Hd hw4;clear hw4;go_wp2_with fail;refine HW4.out.mono ?_;rintro e w'⟨rfl,m,rfl⟩;clear hsl;have HAm:=Hd (HA.out.drewN m);generalize wr.drewN m=wm at *
     have f1:wm.frozen? ⟨w.heap.size+1+1+1,13+j,none⟩=false:=frozen_of_row _ _ _ _ _ HAm.out.hs;have c1:=ap (i:=13+j) HAm.out.hs (by omega);have c2:wm.cell? ⟨w.heap.size+1+1+1,13+j,none⟩=some (.int .u32 (U (iZ key (BitVec.ofInt 32 n) nonce j (13+j)))):=c1;clear c1;go_wp2_with fail;go_roundw;case rel=>exact⟨j+1,by omega,by go_num,by rw[← rz];exact HAm.out.set _ (by omega)⟩
     case measure=>simp[intOf];omega
    ·obtain rfl:j=3:=by omega
     rw[show((3:Nat):Int)=3 from rfl];have HS16:=Hd (show wr.heap[w.heap.size+1+1+1]?=some (.cells (a6 16 (vF key (BitVec.ofInt 32 n) nonce)) 298 (0,0))from by
      rw[← rA];exact HA.out.hs)
     obtain⟨s,hs0⟩:∃s,s=vF key (BitVec.ofInt 32 n) nonce:=⟨_,rfl⟩;rw[← hs0]at HS16;have HS0:=Hd hs0;clear hs0;have HZ16:=Hd (show(prog.info? 298).map (·.size)=some (a6 16 s).size by rw[tw,aZ]);go_wp2_with (first
      | (with_reducible refine aw rfl 298 rfl 16 _ yd ?_)
      | ((with_reducible show wpList _ _ _ (⟨_,.load 298 _,_,_,_,_⟩::_) _ _);refine wpList_load_row rfl 298 _ rfl (w.heap.size+1+1+1) rfl 298 (a6 16 s) (0,0) _ HS16.out underlying298 rfl HZ16.out ?_)
      | ((with_reducible show wpList _ _ _ (⟨_,.store 298 _ _,_,_,_,_⟩::_) _ _);refine wpList_store_rowTo rfl 298 _ _ rfl rfl _ (a6 16 s) rfl rfl 298 _ (heap_alloc_new _ _) HZ16.out (by rw[aQ,aZ]) (bP _ _) ?_))
     obtain⟨gv,egv⟩:∃gv,gv=wr.heap.size:=⟨_,rfl⟩;have HB:=Hd (show BlkAt w s (lY s 0) (w.heap.size+1+1+1) gv ((wr.alloc (.cells (row 16 fun _=> .int .u32 0) 298)).setRow wr.heap.size (a6 16 s))from by
      subst egv;have l1:=(Array.getElem?_eq_some_iff.1 HS16.out).1;refine⟨?_,?_,?_,by omega,l1,?_⟩
      ·exact(au (by omega)).trans ((Below.heap_alloc _ _ _ (by omega)).trans HA.out.hr)
      ·exact(au (by omega)).trans ((Below.heap_alloc _ _ _ (by omega)).trans HS16.out)
      ·exact aC (heap_alloc_new _ _)
      ·exact aW (aB HA.out.hb _) (by omega) _)
     generalize(wr.alloc (.cells (row 16 fun _=> .int .u32 0) 298)).setRow wr.heap.size (a6 16 s)=wc at *
     rw[← egv];clear egv HS16 HA;go_loopw [11] (fun i wr=>∃k:Nat,k≤10∧i= .int .i64 k∧BlkAt w s (lY s k) (w.heap.size+1+1+1) gv wr) (fun i _=>10-(intOf i).toNat);case atStart=>exact⟨0,by omega,rfl,HB.out⟩
     case round =>
      clear HB;obtain⟨k,hk,rfl,hA⟩:=hrel;have HX0:=Hd hA;clear hA;by_cases hlt:k<10
      ·have hk0:(0:Int)≤(k:Int):=by omega
       have hk1:(k:Int)<10:=by omega
       have HD:=Hd (show lY s (k+1)=dbl (lY s k)from rfl);generalize lY s k=v0 at *
       go_wp2_with fail;refine(cj gv 0 4 8 12 v0 _ (by decide) (by decide) (by decide) (by decide) HX0.out.hv).mono ?_;rintro e w1⟨rfl,hx1,hg1⟩;obtain⟨v1,hv1⟩:∃v,v=qr 0 4 8 12 v0:=⟨_,rfl⟩;rw[← hv1]at hx1;have HV1:=Hd hv1;have HX1:=Hd (HX0.out.turn hx1 hg1);clear hv1 hx1 hg1 HX0;go_wp2_with fail;refine(cj gv 1 5 9 13 v1 _ (by decide) (by decide) (by decide) (by decide) HX1.out.hv).mono ?_;rintro e w2⟨rfl,hx2,hg2⟩;obtain⟨v2,hv2⟩:∃v,v=qr 1 5 9 13 v1:=⟨_,rfl⟩;rw[← hv2]at hx2;have HV2:=Hd hv2;have HX2:=Hd (HX1.out.turn hx2 hg2);clear hv2 hx2 hg2 HX1;go_wp2_with fail;refine(cj gv 2 6 10 14 v2 _ (by decide) (by decide) (by decide) (by decide) HX2.out.hv).mono ?_;rintro e w3⟨rfl,hx3,hg3⟩;obtain⟨v3,hv3⟩:∃v,v=qr 2 6 10 14 v2:=⟨_,rfl⟩;rw[← hv3]at hx3;have HV3:=Hd hv3;have HX3:=Hd (HX2.out.turn hx3 hg3);clear hv3 hx3 hg3 HX2;go_wp2_with fail;refine(cj gv 3 7 11 15 v3 _ (by decide) (by decide) (by decide) (by decide) HX3.out.hv).mono ?_;rintro e w4⟨rfl,hx4,hg4⟩;obtain⟨v4,hv4⟩:∃v,v=qr 3 7 11 15 v3:=⟨_,rfl⟩;rw[← hv4]at hx4;have HV4:=Hd hv4;have HX4:=Hd (HX3.out.turn hx4 hg4);clear hv4 hx4 hg4 HX3;go_wp2_with fail;refine(cj gv 0 5 10 15 v4 _ (by decide) (by decide) (by decide) (by decide) HX4.out.hv).mono ?_;rintro e w5⟨rfl,hx5,hg5⟩;obtain⟨v5,hv5⟩:∃v,v=qr 0 5 10 15 v4:=⟨_,rfl⟩;rw[← hv5]at hx5;have HV5:=Hd hv5;have HX5:=Hd (HX4.out.turn hx5 hg5);clear hv5 hx5 hg5 HX4;go_wp2_with fail;refine(cj gv 1 6 11 12 v5 _ (by decide) (by decide) (by decide) (by decide) HX5.out.hv).mono ?_;rintro e w6⟨rfl,hx6,hg6⟩;obtain⟨v6,hv6⟩:∃v,v=qr 1 6 11 12 v5:=⟨_,rfl⟩;rw[← hv6]at hx6;have HV6:=Hd hv6;have HX6:=Hd (HX5.out.turn hx6 hg6);clear hv6 hx6 hg6 HX5;go_wp2_with fail;refine(cj gv 2 7 8 13 v6 _ (by decide) (by decide) (by decide) (by decide) HX6.out.hv).mono ?_;rintro e w7⟨rfl,hx7,hg7⟩;obtain⟨v7,hv7⟩:∃v,v=qr 2 7 8 13 v6:=⟨_,rfl⟩;rw[← hv7]at hx7;have HV7:=Hd hv7;have HX7:=Hd (HX6.out.turn hx7 hg7);clear hv7 hx7 hg7 HX6;go_wp2_with fail;refine(cj gv 3 4 9 14 v7 _ (by decide) (by decide) (by decide) (by decide) HX7.out.hv).mono ?_;rintro e w8⟨rfl,hx8,hg8⟩;obtain⟨v8,hv8⟩:∃v,v=qr 3 4 9 14 v7:=⟨_,rfl⟩;rw[← hv8]at hx8;have HV8:=Hd hv8;have HX8:=Hd (HX7.out.turn hx8 hg8);clear hv8 hx8 hg8 HX7;rw[← Ga HV1.out HV2.out HV3.out HV4.out HV5.out HV6.out HV7.out HV8.out,← HD.out]at HX8;go_wp2_with fail;go_roundw;case rel=>exact⟨k+1,by omega,by go_num,HX8.out⟩
       case measure=>simp[intOf];omega
      ·obtain rfl:k=10:=by omega
       rw[show((10:Nat):Int)=10 from rfl];generalize hv:lY s 10=v at *
       have HV:=Hd hv;clear hv;go_wp2_with (with_reducible refine aw rfl 75 rfl 64 _ fJ ?_);obtain⟨go,ego⟩:∃go,go=wr.heap.size:=⟨_,rfl⟩;have HA2:=Hd (show BlkAt w s v (w.heap.size+1+1+1) gv (wr.alloc (.cells (row 64 fun _=> .int .u8 0) 75))from
        ⟨(Below.heap_alloc _ _ _ (Array.getElem?_eq_some_iff.1 HX0.out.hr).1).trans HX0.out.hr,(Below.heap_alloc _ _ _ (Array.getElem?_eq_some_iff.1 HX0.out.hs).1).trans HX0.out.hs,(Below.heap_alloc _ _ _ (Array.getElem?_eq_some_iff.1 HX0.out.hv).1).trans HX0.out.hv,HX0.out.ls,HX0.out.lv,aB HX0.out.hb _⟩)
       have HO:=Hd (show(wr.alloc (.cells (row 64 fun _=> .int .u8 0) 75)).heap[go]?=some (.cells (aa 64 (eD v s 0)) 75 (0,0))from by
        rw[ego];exact heap_alloc_new _ _)
       have hgo:gv<go:=by rw[ego];exact(Array.getElem?_eq_some_iff.1 HX0.out.hv).1
       have hgl:w.heap.size+1+1+1<gv:=HX0.out.lv;generalize wr.alloc (.cells (row 64 fun _=> .int .u8 0) 75)=W2 at *
       rw[← ego];clear ego HX0;go_loopw [13] (fun i wr=>∃q:Nat,q≤64∧i= .int .i64 q∧BlkAt w s v (w.heap.size+1+1+1) gv wr∧wr.heap[go]?=some (.cells (aa 64 (eD v s q)) 75 (0,0))) (fun i _=>64-(intOf i).toNat);case atStart=>exact⟨0,by omega,rfl,HA2.out,HO.out⟩
       case round =>
        clear HA2 HO;obtain⟨q,hq,rfl,hA,ho⟩:=hrel;have HA:=Hd hA;have HO:=Hd ho;clear hA ho;by_cases hlt6:q<64
        ·have hq0:(0:Int)≤(q:Int):=by omega
         have hq1:(q:Int)<64:=by omega
         have cv:wr.cell? ⟨gv,q/4,none⟩=some (.int .u32 (U (v (q/4)))):=ap HA.out.hv (by omega);have cs:wr.cell? ⟨w.heap.size+1+1+1,q/4,none⟩=some (.int .u32 (U (s (q/4)))):=ap HA.out.hs (by omega);have co:wr.cell? ⟨go,q,none⟩=some (.int .u8 (B8 (eD v s q q))):=a4 HO.out hlt6;have fo:wr.frozen? ⟨go,q,none⟩=false:=frozen_of_row wr _ _ _ _ HO.out;have HOK:=Hd (pW v s q);have hadd:=gM;have hadd':=fN;obtain⟨u0,u1⟩:=j8 (v (q/4)+s (q/4));obtain⟨b0,b1⟩:=bK (jM v s q);have HA2:=Hd (show ∀x m,BlkAt w s v (w.heap.size+1+1+1) gv ((wr.setCell ⟨go,q,none⟩ x).drewN m)from fun x m=>by
          refine⟨?_,?_,?_,HA.out.ls,HA.out.lv,dI (HA.out.hb.setCell (by simp;omega) _) m⟩
          ·exact(heap_setCell_other _ _ _ _ (by simp;omega)).trans HA.out.hr
          ·exact(heap_setCell_other _ _ _ _ (by simp;omega)).trans HA.out.hs
          ·exact(heap_setCell_other _ _ _ _ (by simp;omega)).trans HA.out.hv)
         have hr4:q%4=0∨q%4=1∨q%4=2∨q%4=3:=by omega
         rcases hr4 with hr|hr|hr|hr
         ·have hri:(q:Int)%4=0:=by omega
          have hvv:bits .and .u32 (U (v (q/4)+s (q/4))) 255=B8 (jM v s q):=by
           have:=lZ v s q 0 hr;rw[show((2^(8*0):Nat):Int)=1 from rfl]at this;rwa[Int.ediv_one]at this
          have HVV:=Hd hvv;clear hr hvv;go_wp2_with fail;have t1:=IntWalk.i64_in ((q:Int)/4) (by omega);have t2:(0:Int)≤(q:Int)/4:=by omega
          have t3:(q:Int)/4<16:=by omega
          have t4:((q:Int)/4).toNat=q/4:=by omega
          go_quiet (fail);clear t1 t2 t3 t4;have hvv:=HVV.out;go_wp2_with fail;go_roundw;case rel =>
           refine⟨q+1,by omega,by go_num,HA2.out _ _,?_⟩;rw[← HOK.out];exact bm _ HO.out hlt6
          case measure=>simp[intOf];omega
         ·have hri:(q:Int)%4=1:=by omega
          have hvv:bits .and .u32 (U (v (q/4)+s (q/4))/256) 255=B8 (jM v s q):=by
           have:=lZ v s q 1 hr;rw[show((2^(8*1):Nat):Int)=256 from rfl]at this;exact this
          have HVV:=Hd hvv;clear hr hvv;go_wp2_with fail;have t1:=IntWalk.i64_in ((q:Int)/4) (by omega);have t2:(0:Int)≤(q:Int)/4:=by omega
          have t3:(q:Int)/4<16:=by omega
          have t4:((q:Int)/4).toNat=q/4:=by omega
          go_quiet (fail);clear t1 t2 t3 t4;have hvv:=HVV.out;go_wp2_with fail;go_roundw;case rel =>
           refine⟨q+1,by omega,by go_num,HA2.out _ _,?_⟩;rw[← HOK.out];exact bm _ HO.out hlt6
          case measure=>simp[intOf];omega
         ·have hri:(q:Int)%4=2:=by omega
          have hvv:bits .and .u32 (U (v (q/4)+s (q/4))/65536) 255=B8 (jM v s q):=by
           have:=lZ v s q 2 hr;rw[show((2^(8*2):Nat):Int)=65536 from rfl]at this;exact this
          have HVV:=Hd hvv;clear hr hvv;go_wp2_with fail;have t1:=IntWalk.i64_in ((q:Int)/4) (by omega);have t2:(0:Int)≤(q:Int)/4:=by omega
          have t3:(q:Int)/4<16:=by omega
          have t4:((q:Int)/4).toNat=q/4:=by omega
          go_quiet (fail);clear t1 t2 t3 t4;have hvv:=HVV.out;go_wp2_with fail;go_roundw;case rel =>
           refine⟨q+1,by omega,by go_num,HA2.out _ _,?_⟩;rw[← HOK.out];exact bm _ HO.out hlt6
          case measure=>simp[intOf];omega
         ·have hri:(q:Int)%4=3:=by omega
          have hvv:bits .and .u32 (U (v (q/4)+s (q/4))/16777216) 255=B8 (jM v s q):=by
           have:=lZ v s q 3 hr;rw[show((2^(8*3):Nat):Int)=16777216 from rfl]at this;exact this
          have HVV:=Hd hvv;clear hr hvv;go_wp2_with fail;have t1:=IntWalk.i64_in ((q:Int)/4) (by omega);have t2:(0:Int)≤(q:Int)/4:=by omega
          have t3:(q:Int)/4<16:=by omega
          have t4:((q:Int)/4).toNat=q/4:=by omega
          go_quiet (fail);clear t1 t2 t3 t4;have hvv:=HVV.out;go_wp2_with fail;go_roundw;case rel =>
           refine⟨q+1,by omega,by go_num,HA2.out _ _,?_⟩;rw[← HOK.out];exact bm _ HO.out hlt6
          case measure=>simp[intOf];omega
        ·obtain rfl:q=64:=by omega
         rw[show((64:Nat):Int)=64 from rfl];have HZ64:=Hd (show(prog.info? 75).map (·.size)=some (aa 64 (eD v s 64)).size by rw[j5,aj]);go_wp2_with (first
          | ((with_reducible show wpList _ _ _ (⟨_,.load 75 _,_,_,_,_⟩::_) _ _);refine wpList_load_row rfl 75 _ rfl go rfl 75 (aa 64 (eD v s 64)) (0,0) _ HO.out underlying75 rfl HZ64.out ?_)
          | ((with_reducible show wpList _ _ _ (⟨_,.store 75 _ _,_,_,_,_⟩::_) _ _);refine wpList_store_rowTo rfl 75 _ _ rfl rfl (w.heap.size+1+1) (aa 64 (eD v s 64)) rfl rfl 75 _ HA.out.hr HZ64.out (by rw[aQ,aj]) (bU _ _) ?_))
         refine bodyPost_ret (results_cell_row rfl _ _ (w.heap.size+1+1) 75 (aa 64 (eD v s 64)) (0,0) _ rfl (aC HA.out.hr) underlying75 rfl HZ64.out) rfl ?_;refine⟨?_,aW HA.out.hb (by omega) _⟩;rw[pX,← HV.out,HS0.out];rfl
end
section
open Go.RowKit
def sAt(key:Nat→BitVec 8)(c:BitVec 32)(nonce:Nat→BitVec 8)(k:Nat):Nat→BitVec 8:=if k=0 then fun _=>0 else dO key (c+BitVec.ofNat 32 ((k-1)/64)) nonce
def cAt(c:BitVec 32)(k:Nat):BitVec 32:=c+BitVec.ofNat 32 ((k+63)/64)
theorem gg(key:Nat→BitVec 8)(c:BitVec 32)(nonce:Nat→BitVec 8)(k:Nat):sAt key c nonce (k+1)=dO key (c+BitVec.ofNat 32 (k/64)) nonce:=by unfold sAt;rw[if_neg (by omega)];rfl
theorem mb(key:Nat→BitVec 8)(c:BitVec 32)(nonce:Nat→BitVec 8){k:Nat}(h:k%64≠0):sAt key c nonce (k+1)=sAt key c nonce k:=by
 rw[gg];unfold sAt;rw[if_neg (by intro e;subst e;exact h rfl),show(k-1)/64=k/64 by omega]
theorem vK(c:BitVec 32){k:Nat}(h:k%64=0):cAt c k=c+BitVec.ofNat 32 (k/64):=by unfold cAt;rw[show(k+63)/64=k/64 by omega]
theorem Eo(c:BitVec 32){k:Nat}(h:k%64=0):cAt c (k+1)=cAt c k+1:=by
 rw[vK c h];unfold cAt;rw[show(k+1+63)/64=k/64+1 by omega,BitVec.add_assoc];congr 1;apply BitVec.eq_of_toNat_eq;simp[BitVec.toNat_add,BitVec.toNat_ofNat]
theorem Ep(c:BitVec 32){k:Nat}(h:k%64≠0):cAt c (k+1)=cAt c k:=by unfold cAt;rw[show(k+1+63)/64=(k+63)/64 by omega]
def pZ(key:Nat→BitVec 8)(c:BitVec 32)(nonce:Nat→BitVec 8)(l:List (BitVec 8))(k:Nat):Nat→BitVec 8:=fun i=>if i<k then l.getD i 0^^^Ei key c nonce i else 0
theorem rE(key:Nat→BitVec 8)(c:BitVec 32)(nonce:Nat→BitVec 8)(l:List (BitVec 8))(k:Nat)(h:k<l.length):upd (pZ key c nonce l k) k (l[k]^^^sAt key c nonce (k+1) (k%64))=pZ key c nonce l (k+1):=by
 rw[gg];funext i;unfold upd pZ;by_cases e:i=k
 ·subst e;simp[h,Ei]
 ·rw[if_neg e]
  by_cases hi:i<k
  ·rw[if_pos hi,if_pos (by omega)]
  ·rw[if_neg hi,if_neg (by omega)]
theorem Bl(key:Nat→BitVec 8)(c:BitVec 32)(nonce:Nat→BitVec 8)(l:List (BitVec 8)):(List.range l.length).map (pZ key c nonce l l.length)=dN key c nonce l:=by
 apply List.ext_getElem
 ·simp[dM]
 ·intro i h1 h2
  have hi:i<l.length:=by simpa using h1
  simp[pZ,dN,hi]
theorem vL{w:World}{g n c:Nat}{f:Nat→BitVec 8}{t:TypeId}{fr:Nat×Nat}(h:w.heap[g]?=some (.cells (aa n f) t fr)):BRow w (.slice (some ⟨g,0,none⟩) n c) ((List.range n).map f) :=
 ⟨_,c,by simp,(fun hc=>by cases hc),fun _=>⟨g,0,rfl,(Array.getElem?_eq_some_iff.1 h).1,fun i hi=>by
  have hi':i<n:=by simpa using hi
  rw[Nat.zero_add,a4 h hi'];simp⟩⟩
structure TrnAt(w:World)(key nonce:Nat→BitVec 8)(n:Nat)(o s:Nat→BitVec 8)(wr:World):Prop where
 hk:wr.heap[w.heap.size]?=some (.cells (aa 32 key) 24 (0,0))
 hn:wr.heap[w.heap.size+1]?=some (.cells (aa 12 nonce) 161 (0,0))
 ho:wr.heap[w.heap.size+2]?=some (.cells (aa n o) 5 (0,0))
 hs:wr.heap[w.heap.size+3]?=some (.cells (aa 64 s) 75 (0,0))
 hb:Below w.heap.size w wr
theorem TrnAt.keep{w wr w':World}{key nonce o s:Nat→BitVec 8}{n:Nat}(h:TrnAt w key nonce n o s wr)(hb:Below wr.heap.size wr w'):TrnAt w key nonce n o s w' :=
 ⟨(hb.block _ (Array.getElem?_eq_some_iff.1 h.hk).1).trans h.hk,(hb.block _ (Array.getElem?_eq_some_iff.1 h.hn).1).trans h.hn,(hb.block _ (Array.getElem?_eq_some_iff.1 h.ho).1).trans h.ho,(hb.block _ (Array.getElem?_eq_some_iff.1 h.hs).1).trans h.hs,eY h.hb hb⟩
theorem TrnAt.setS{w wr:World}{key nonce o s:Nat→BitVec 8}{n:Nat}(h:TrnAt w key nonce n o s wr)(s':Nat→BitVec 8):TrnAt w key nonce n o s' (wr.setRow (w.heap.size+1+1+1) (aa 64 s')) :=
 ⟨(au (by omega)).trans h.hk,(au (by omega)).trans h.hn,(au (by omega)).trans h.ho,aC h.hs,aW h.hb (by omega) _⟩
theorem TrnAt.setO{w wr:World}{key nonce o s:Nat→BitVec 8}{n:Nat}(h:TrnAt w key nonce n o s wr){i:Nat}(x:BitVec 8)(hi:i<n):TrnAt w key nonce n (upd o i x) s (wr.setCell ⟨w.heap.size+1+1,i,none⟩ (.int .u8 (B8 x))) :=
 ⟨(heap_setCell_other _ _ _ _ (by simp;omega)).trans h.hk,(heap_setCell_other _ _ _ _ (by simp)).trans h.hn,bm _ h.ho hi,(heap_setCell_other _ _ _ _ (by simp)).trans h.hs,h.hb.setCell (by simp;omega) _⟩
theorem TrnAt.drew{w wr:World}{key nonce o s:Nat→BitVec 8}{n:Nat}(h:TrnAt w key nonce n o s wr):TrnAt w key nonce n o s wr.drew:=⟨h.hk,h.hn,h.ho,h.hs,h.hb.drew⟩
theorem vN(key nonce:Nat→BitVec 8)(n:Int)(v:Value)(l:List (BitVec 8))(w:World)(hv:BRow w v l)(hl:l.length≤1000000000) :
 Calls prog 255 #[.agg (aa 32 key),.int .i64 n,.agg (aa 12 nonce),v] w fun e w'=>(∃v',e= .returned v'∧BRow w' v' (dN key (BitVec.ofInt 32 n) nonce l))∧Below w.heap.size w w':=by
 have hcv:=vH n;obtain⟨a,c,rfl,hnil,hp⟩:=hv;have HP:=Hd hp;have HL:=Hd hl;have hmk:=Di l.length hl;clear hp hl hnil;generalize BitVec.ofInt 32 n=c0 at *
 go_enter func255,ntmps255;go_wp2_with (with_reducible refine aw rfl 75 rfl 64 _ fJ ?_);have HA:=Hd (show TrnAt w key nonce l.length (pZ key c0 nonce l 0) (sAt key c0 nonce 0) ((((w.alloc (.cells (aa 32 key) 24)).alloc (.cells (aa 12 nonce) 161)).alloc (.cells (aa l.length fun _=>0) 5)).alloc (.cells (row 64 fun _=> .int .u8 0) 75))from by
  refine⟨?_,?_,?_,?_,aB (aB (aB (aB (Below.refl _ _) _) _) _) _⟩
  ·refine(Below.heap_alloc _ _ _ (by simp;omega)).trans ((Below.heap_alloc _ _ _ (by simp;omega)).trans ((Below.heap_alloc _ _ _ (by simp)).trans (heap_alloc_new _ _)))
  ·refine(Below.heap_alloc _ _ _ (by simp)).trans ((Below.heap_alloc _ _ _ (by simp)).trans ?_)
   have:=heap_alloc_new (w.alloc (.cells (aa 32 key) 24)) (.cells (aa 12 nonce) 161);simpa using this
  ·refine(Below.heap_alloc _ _ _ (by simp)).trans ?_
   have:=heap_alloc_new ((w.alloc (.cells (aa 32 key) 24)).alloc (.cells (aa 12 nonce) 161)) (.cells (aa l.length fun _=>0) 5);have e:aa l.length (pZ key c0 nonce l 0)=aa l.length fun _=>0:=ak fun i _=>by simp[pZ]
   rw[e];simpa using this
  ·have:=heap_alloc_new (((w.alloc (.cells (aa 32 key) 24)).alloc (.cells (aa 12 nonce) 161)).alloc (.cells (aa l.length fun _=>0) 5)) (.cells (row 64 fun _=> .int .u8 0) 75)
   have e:aa 64 (sAt key c0 nonce 0)=row 64 fun _=> .int .u8 0:=rfl;rw[e];simpa using this)
 generalize(((w.alloc (.cells (aa 32 key) 24)).alloc (.cells (aa 12 nonce) 161)).alloc (.cells (aa l.length fun _=>0) 5)).alloc (.cells (row 64 fun _=> .int .u8 0) 75)=W at *
 have hadd':=fN;clear hmk hcv;have HC0:=Hd (show c0=cAt c0 0 from by simp[cAt]);go_loopw [11,21] (fun cc i wr=>∃k:Nat,k≤l.length∧i= .int .i64 k∧cc= .int .u32 (U (cAt c0 k))∧TrnAt w key nonce l.length (pZ key c0 nonce l k) (sAt key c0 nonce k) wr) (fun _ i _=>l.length-(intOf i).toNat);case atStart=>exact⟨0,Nat.zero_le _,rfl,by rw[← HC0.out],HA.out⟩
 case round =>
  clear HA;obtain⟨k,hk,rfl,rfl,hA⟩:=hrel;have HA:=Hd hA;clear hA;by_cases hlt:k<l.length
  ·obtain⟨b,off,ha,hbl,hcells⟩:=HP.out (by omega)
   subst ha;have hk0:(0:Int)≤(k:Int):=by omega
   have hk1:(k:Int)<(l.length:Int):=by omega
   have hk2:(k:Int)<1000000000:=by have:=HL.out;omega
   have ci:=(HA.out.hb.cell (p:=⟨b,off+k,none⟩) hbl).trans (hcells k hlt);have HCI:=Hd ci;clear hcells;by_cases hm:k%64=0
   ·have hm0:(k:Int)%64=0:=by omega
    have HOS:=Hd (rE key c0 nonce l k hlt);rw[hm]at HOS;have HSN:=Hd (gg key c0 nonce k);have HCH:=Hd (vK c0 hm);have HCN:=Hd (Eo c0 hm);have HBK:=Hd (fun w=>rC key nonce (U (cAt c0 k)) w);rw[zJ,HCH.out,← HSN.out]at HBK;have HZ32:=Hd (show(prog.info? 24).map (·.size)=some (aa 32 key).size by rw[aj];kernel_rfl);have HZ12:=Hd (show(prog.info? 161).map (·.size)=some (aa 12 nonce).size by rw[aj];kernel_rfl);have HZ64:=Hd (show(prog.info? 75).map (·.size)=some (aa 64 (sAt key c0 nonce (k+1))).size by rw[aj,j5]);obtain⟨u0,u1⟩:=j8 (cAt c0 k);clear hm;rw[← HCH.out]at HBK;generalize sAt key c0 nonce (k+1)=s1 at *
    generalize l[k]=x at *
    have hci:=HCI.out;go_wp2_with (first
     | ((with_reducible show wpList _ _ _ (⟨_,.load 24 _,_,_,_,_⟩::_) _ _);refine wpList_load_row rfl 24 _ rfl w.heap.size rfl 24 (aa 32 key) (0,0) _ HA.out.hk underlying24 rfl HZ32.out ?_)
     | ((with_reducible show wpList _ _ _ (⟨_,.load 161 _,_,_,_,_⟩::_) _ _);refine wpList_load_row rfl 161 _ rfl (w.heap.size+1) rfl 161 (aa 12 nonce) (0,0) _ HA.out.hn underlying161 rfl HZ12.out ?_))
    refine(HBK.out _).mono ?_;rintro e w2⟨rfl,hb2⟩;have HA2:=Hd (HA.out.keep hb2);have HB2:=Hd (eY HA.out.hb hb2);clear hb2 ci hci;have hx:=i4 x (s1 0);have hc1:IntKind.u32.wrap (U (cAt c0 k)+1)=U (cAt c0 (k+1)):=by rw[HCN.out];exact gM _ 1
    have hc2:(U (cAt c0 k)+1)%4294967296=U (cAt c0 (k+1)):=by rw[HCN.out];exact fN _ 1
    go_wp2_with ((with_reducible show wpList _ _ _ (⟨_,.store 75 _ _,_,_,_,_⟩::_) _ _);refine wpList_store_rowTo rfl 75 _ _ rfl rfl (w.heap.size+1+1+1) (aa 64 s1) rfl rfl 75 _ HA2.out.hs HZ64.out (by rw[aj,aj]) (bU _ _) ?_;have HA3:=Hd (HA2.out.setS s1);generalize w2.setRow (w.heap.size+1+1+1) (aa 64 s1)=w3 at *; have cs:w3.cell? ⟨w.heap.size+1+1+1,0,none⟩=some (.int .u8 (B8 (s1 0))):=a4 HA3.out.hs (by decide);have co:w3.cell? ⟨w.heap.size+1+1,k,none⟩=some (.int .u8 (B8 (pZ key c0 nonce l k k))):=a4 HA3.out.ho hlt;have fo:w3.frozen? ⟨w.heap.size+1+1,k,none⟩=false:=frozen_of_row w3 _ _ _ _ HA3.out.ho);go_roundw;case rel=>exact⟨k+1,by omega,by go_num,rfl,by rw[← HOS.out,gg,← HSN.out];exact HA3.out.setO _ hlt⟩
    case measure=>simp[intOf];omega
   ·have hm0:((k:Int)%64==0)=false:=by
     rw[beq_eq_false_iff_ne];omega
    have hm1:((k:Int)%64=0)=False:=eq_false (by omega);have HOS:=Hd (rE key c0 nonce l k hlt);rw[mb key c0 nonce hm]at HOS;have HSN:=Hd (mb key c0 nonce hm);have HCN:=Hd (Ep c0 hm);clear hm;generalize l[k]=x at *
    generalize sAt key c0 nonce k=s1 at *
    have cs:wr.cell? ⟨w.heap.size+1+1+1,k%64,none⟩=some (.int .u8 (B8 (s1 (k%64)))):=a4 HA.out.hs (by omega);have co:wr.cell? ⟨w.heap.size+1+1,k,none⟩=some (.int .u8 (B8 (pZ key c0 nonce l k k))):=a4 HA.out.ho hlt;have fo:wr.frozen? ⟨w.heap.size+1+1,k,none⟩=false:=frozen_of_row wr _ _ _ _ HA.out.ho;have hx:=i4 x (s1 (k%64));go_wp2_with fail;go_roundw;case rel=>exact⟨k+1,by omega,by go_num,by rw[HCN.out],by rw[← HOS.out,HSN.out];exact HA.out.setO _ hlt⟩
    case measure=>simp[intOf];omega
  ·obtain rfl:k=l.length:=by omega
   go_wp2_with fail;go_ret;exact⟨⟨_,rfl,by rw[← Bl];exact vL HA.out.ho⟩,HA.out.hb⟩
end
section
open Go Go.RowKit Go.Shelf R3
def cJ(n:Nat):Nat:=(16-n%16)%16
def noL(n:Nat):List (BitVec 8):=ae n fun _=>0
def dP(n:Nat):List (BitVec 8):=ae 8 (ab n)
def ye(beside c:List (BitVec 8)):List (BitVec 8):=[beside,noL (cJ beside.length),c,noL (cJ c.length),dP beside.length,dP c.length].flatten
def kf(key nonce:Nat→BitVec 8)(c beside:List (BitVec 8)):Nat→BitVec 8:=ab (rj (dO key (BitVec.ofInt 32 0) nonce) (fun i=>(ye beside c).getD i 0) (ye beside c).length)
def jO(key nonce:Nat→BitVec 8)(plain beside:List (BitVec 8)):List (BitVec 8):=dN key (BitVec.ofInt 32 1) nonce plain++ae 16 (kf key nonce (dN key (BitVec.ofInt 32 1) nonce plain) beside)
theorem nj(beside c:List (BitVec 8)):(ye beside c).length≤beside.length+c.length+48:=by
 unfold ye noL dP cJ;simp only[List.flatten_cons,List.flatten_nil,List.length_append,ag,List.length_nil];omega
section
variable {ops:Array Oper} {rest:List Oper} {o:Oper} {a:Act} {w0 w:World} {M M':Mem} {Q:Exit→Act→World→Prop} {K:Act→World→Prop}
theorem Kx(hL:Loc w0 w M){t e:TypeId}{x0 x1 x2 x3 x4 x5:Operand}(ho:o.op= .buildSlice t 6 #[(0,x0),(1,x1),(2,x2),(3,x3),(4,x4),(5,x5)])[he:Elt t e]{p0 p1 p2 p3 p4 p5:Option Addr}{n0 n1 n2 n3 n4 n5 c0 c1 c2 c3 c4 c5:Nat}(h0:a.eval x0= .slice p0 n0 c0)(h1:a.eval x1= .slice p1 n1 c1)(h2:a.eval x2= .slice p2 n2 c2)(h3:a.eval x3= .slice p3 n3 c3)(h4:a.eval x4= .slice p4 n4 c4)(h5:a.eval x5= .slice p5 n5 c5)(h:∀b w',Loc w0 w' ((b, #[.slice p0 n0 c0,.slice p1 n1 c1,.slice p2 n2 c2,.slice p3 n3 c3,.slice p4 n4 c4,.slice p5 n5 c5],e)::M)→K (a.put o.dst (.slice (some ⟨b,0,none⟩) 6 6)) w'):o.wp prog a w K Q:=by
 obtain⟨i,z,hi,hz,hs1,hb,hzs⟩:=he.info;refine wp_buildSlice t e 6 #[(0,x0),(1,x1),(2,x2),(3,x3),(4,x4),(5,x5)] ho #[.slice p0 n0 c0,.slice p1 n1 c1,.slice p2 n2 c2,.slice p3 n3 c3,.slice p4 n4 c4,.slice p5 n5 c5] i z he.und hi hz (by rw[hs1];decide) (by rw[hs1];omega) ?_ (h _ _ (hL.alloc _ e));rw[hs1];have e:(Array.map (fun(y:Nat×Operand)=>(y.1,a.eval y.2)) #[(0,x0),(1,x1),(2,x2),(3,x3),(4,x4),(5,x5)]).toList=[(0,Value.slice p0 n0 c0),(1,Value.slice p1 n1 c1),(2,Value.slice p2 n2 c2),(3,Value.slice p3 n3 c3),(4,Value.slice p4 n4 c4),(5,Value.slice p5 n5 c5)]:=by simp[h0,h1,h2,h3,h4,h5]
 rw[e];have e1:Array.range 6= #[0,1,2,3,4,5]:=rfl;simp[Instr.fill,Value.cells,e1]
end
theorem me(n:Nat)(hn:n≤1000000000)(w:World):Calls prog 290 #[.int .i64 n] w fun e w'=>∃g,e= .returned (.slice (some ⟨g,0,none⟩) (cJ n) (cJ n))∧Loc w w' [(g,aa (cJ n) fun _=>0,5)]:=by
 have hL:=Loc.nil w;have n0:(0:Int)≤n:=by omega
 have n1:(n:Int)≤1000000000:=by omega
 have e1:(16-(n:Int)%16)%16=((cJ n:Nat):Int):=by unfold cJ;omega
 have hr:cJ n≤1000000000:=by unfold cJ;omega
 generalize cJ n=r at *
 go_enter func290,ntmps290;go_wp2_with (first|refine aU ?_|(refine gN 7 ?_;refine mL hL rfl rfl (congrArg (Value.int .i64) e1) (congrArg (Value.int .i64) e1) hr fun g7 w1 hL1=>?_;clear hL;have hL:=hL1;clear hL1;refine p4 ?_)|(refine ah ?_;clear hL;intro w1 hL));go_ret;exact⟨g7,rfl,hL⟩
instance QZ:Ent 290:=eo func290
theorem kt(n:Nat)(hn:n≤1000000000)(w:World):Calls prog 291 #[.int .i64 n] w fun e w'=>∃g,e= .returned (.slice (some ⟨g,0,none⟩) 8 8)∧Loc w w' [(g,aa 8 (ab n),5)]:=by
 have hL:=Loc.nil w;have n0:(0:Int)≤n:=by omega
 have n1:(n:Int)≤1000000000:=by omega
 have HZ:=Hd (show(aa 8 fun _=>0)=aa 8 (byX n 0)from ak fun i _=>by unfold byX;rw[if_neg (by omega)]);have H8:=Hd (show aa 8 (byX n 8)=aa 8 (ab n)from ak fun i hi=>by unfold byX;rw[if_pos hi]);go_enter func291,ntmps291;go_wp2_with (first|refine aU ?_|(refine gN 5 ?_;refine mL (n:=8) hL rfl rfl rfl rfl (by decide) fun g5 w1 hL1=>?_;clear hL;have hL:=hL1;clear hL1;refine p4 ?_)|(refine ah ?_;clear hL;intro w1 hL));rw[HZ.out]at hL;go_loopw [8] (fun kk wr=>∃k:Nat,k≤8∧kk= .int .i64 k∧Loc w wr [(g5,aa 8 (byX n k),5)]) (fun kk _=>8-(intOf kk).toNat);case atStart=>exact⟨0,by omega,rfl,hL⟩
 case round =>
  clear hL;obtain⟨k,hk,rfl,hL⟩:=hrel;by_cases hlt:k<8
  ·have hk0:(0:Int)≤(k:Int):=by omega
   have hk1:(k:Int)<8:=by omega
   haveI g2:Put (aa 8 (byX n k)) k (.int .u8 ((n:Int)/2^(8*k)%256)) (aa 8 (byX n (k+1))):=by
    have e:(n:Int)/2^(8*k)%256=B8 (ab n k):=by
     unfold B8 ab;rw[BitVec.toNat_ofNat];have:(2:Int)^(8*k)=((2^(8*k):Nat):Int):=by rw[Int.natCast_pow];rfl
     rw[this];omega
    rw[e];exact a9 hlt (ak fun j hj=>by
     unfold upd byX;by_cases c:j=k
     ·subst c;rw[if_pos rfl,if_pos (by omega)]
     ·rw[if_neg c];dsimp only;by_cases d:j<k
      ·rw[if_pos d,if_pos (by omega)]
      ·rw[if_neg d,if_neg (by omega)])
   have e3:8*(k:Int)=((8*k:Nat):Int):=by omega
   have e4:(0:Int)≤((8*k:Nat):Int):=by omega
   have e5:((8*k:Nat):Int)<64:=by omega
   generalize 8*k=s at *
   clear HZ H8;go_wp2_with (first|refine aU ?_|(refine ah ?_;clear hL;intro w1 hL));go_roundw;case rel=>exact⟨k+1,by omega,by go_num,hL⟩
   case measure=>simp[intOf];omega
  ·obtain rfl:k=8:=by omega
   rw[H8.out]at hL;go_wp2_with (first|refine aU ?_|(refine ah ?_;clear hL;intro w1 hL));go_ret;exact⟨g5,rfl,hL⟩
instance Q0:Ent 291:=eo func291
instance Q1:Ent 255:=eo func255
instance Q2:RowTy 161 12:=⟨⟨_,underlying161,rfl⟩,by kernel_rfl⟩
theorem Bm(f:Nat→BitVec 8):Part (aa 64 f) 75 0 24 (aa 32 f):=⟨fun j v hv=>by
 rw[Array.getElem?_toList]at hv;have hj:j<32:=by have:=(Array.getElem?_eq_some_iff.1 hv).1;simpa[aa,aQ] using this
 rw[show(aa 32 f)[j]?=some (.int .u8 (B8 (f j)))from bI _ hj]at hv;rw[← hv,Nat.zero_add];exact bI _ (by omega)⟩
theorem Bn{w:World}{g c:Nat}{t:TypeId}{fr:Nat×Nat}{v0 v1 v2 v3 v4 v5:Value}{m0 m1 m2 m3 m4 m5:List (BitVec 8)}(h:w.heap[g]?=some (.cells #[v0,v1,v2,v3,v4,v5] t fr))(h0:BRow w v0 m0)(h1:BRow w v1 m1)(h2:BRow w v2 m2)(h3:BRow w v3 m3)(h4:BRow w v4 m4)(h5:BRow w v5 m5) :
 BRows w (.slice (some ⟨g,0,none⟩) 6 c) [m0,m1,m2,m3,m4,m5] :=
 ln [v0,v1,v2,v3,v4,v5] [m0,m1,m2,m3,m4,m5] h rfl (fun i hi=>by
  match i,hi with
  | 0,_=>exact h0
  | 1,_=>exact h1
  | 2,_=>exact h2
  | 3,_=>exact h3
  | 4,_=>exact h4
  | 5,_=>exact h5)
instance Q3(n:Nat):Seg (aa n fun _=>0) 0 n (an (noL n)):=fT n _
instance Sp(n:Nat):Seg (aa 8 (ab n)) 0 8 (an (dP n)):=fT 8 _
theorem vO(key nonce:Nat→BitVec 8)(vb vs:Value)(c beside:List (BitVec 8))(w:World)(hb:BRow w vb c)(hs:BRow w vs beside)(h1:c.length≤100000)(h2:beside.length≤100000) :
 Rt 254 #[.agg (aa 32 key),.agg (aa 12 nonce),vb,vs] w (.agg (aa 16 (kf key nonce c beside))):=by
 have hL:=Loc.nil w;haveI hA1:Arg w vb (an c):=⟨hb.vrow⟩;haveI hA2:Arg w vs (an beside):=⟨hs.vrow⟩;obtain⟨pb,cb,rfl⟩:=hb.shape;obtain⟨ps,cs,rfl⟩:=hs.shape;have hlen:=nj beside c;have HS:=Hd (fun w1 (v:Value) (h:BRows w1 v [beside,noL (cJ beside.length),c,noL (cJ c.length),dP beside.length,dP c.length]) =>
  (show Rt 289 #[.agg (aa 32 (dO key (BitVec.ofInt 32 0) nonce)),v] w1 (.agg (aa 16 (kf key nonce c beside)))from
   vC (dO key (BitVec.ofInt 32 0) nonce) v _ w1 h (by simp) (by show(ye beside c).length≤_;omega)))
 have HBL:=Hd (fun w1=>rC key nonce 0 w1);have HR1:=Hd (fun w1=>me beside.length (by omega) w1);have HR2:=Hd (fun w1=>me c.length (by omega) w1);have HE1:=Hd (fun w1=>kt beside.length (by omega) w1);have HE2:=Hd (fun w1=>kt c.length (by omega) w1);have hpt:=Bm;have harr:=nL;generalize kf key nonce c beside=T at *
 clear hlen hb hs h1 h2;go_enter func254,ntmps254;go_wp2_with (first|refine aU ?_|(refine gBp 4 ?_;clear hL;intro b4 w1 hL)|(refine gBp 5 ?_;clear hL;intro b5 w1 hL)|(refine gBp 8 ?_;clear hL;intro b8 w1 hL)|(refine gBp 9 ?_;clear hL;intro b9 w1 hL)|(go_at_call 288;go_loud (refine(HBL.out _).mono ?_);rintro e w1⟨rfl,hb1⟩;have hL1:=hL.keep hb1;clear hb1;clear hL;have hL:=hL1;clear hL1;refine p4 ?_)|(refine ah ?_;clear hL;intro w1 hL));refine mX (S:=fun w'=>Loc _ w' _) 20 (Loc.rem b8 (hL.drew)) ?_;intro hHeld;replace hL:=hL.drew;refine uG 0 ?_;refine uG 3 ?_;refine uG 4 ?_;refine uG 7 ?_;refine uG 8 ?_;refine uG 11 ?_;refine uG 14 ?_;refine uG 1 ?_;refine uG 5 ?_;refine uG 9 ?_;refine uG 12 ?_;refine uG 15 ?_;refine uZ 2 ?_;refine rd1 6 ?_;intro K hK;refine eK (HR1.out _) ?_;rintro e w1⟨g19,rfl,hN⟩;refine⟨_,rfl,?_⟩;have hL1:=hL.join hN;clear hN hL;revert hL1;refine aJ ?_;intro hL;refine kO hK (Loc.rem b8 (hL.pop)) ?_;clear hK K hHeld;intro hHeld;refine rd1 10 ?_;intro K hK;refine eK (HR2.out _) ?_;rintro e w1⟨g23,rfl,hN⟩;refine⟨_,rfl,?_⟩;have hL1:=hL.join hN;clear hN hL;revert hL1;refine aJ ?_;intro hL;refine kO hK (Loc.rem b8 (hL.pop.pop)) ?_;clear hK K hHeld;intro hHeld;refine rd1 13 ?_;intro K hK;refine eK (HE1.out _) ?_;rintro e w1⟨g26,rfl,hN⟩;refine⟨_,rfl,?_⟩;have hL1:=hL.join hN;clear hN hL;revert hL1;refine aJ ?_;intro hL;refine kO hK (Loc.rem b8 (hL.pop.pop.pop)) ?_;clear hK K hHeld;intro hHeld;refine rd1 16 ?_;intro K hK;refine eK (HE2.out _) ?_;rintro e w1⟨g29,rfl,hN⟩;refine⟨_,rfl,?_⟩;have hL1:=hL.join hN;clear hN hL;revert hL1;refine aJ ?_;intro hL;refine kO hK (Loc.rem b8 (hL.pop.pop.pop.pop)) ?_;clear hK K hHeld;intro hHeld;refine rd1 17 ?_;intro K hK
 first|refine Kx hL rfl rfl rfl rfl rfl rfl rfl fun b30 w1 hL1=>?_
 clear hL;have hL:=hL1;clear hL1;refine kO hK (Loc.rem b8 (hL.pop.pop.pop.pop.pop)) ?_;clear hK K hHeld;intro hHeld;refine rd1 18 ?_;intro K hK;refine eVv (HS.out _ _ (Bn (hL.get (.head _)) (See.bytes hL) (See.bytes hL) (See.bytes hL) (See.bytes hL) (See.bytes hL) (See.bytes hL))) hL ?_;clear hL;intro w1 hL;refine kO hK (Loc.rem b8 (hL.pop.pop.pop.pop.pop)) ?_;clear hK K hHeld;intro hHeld;refine rd1 19 ?_;intro K hK;refine eJ ?_;clear hL;intro w1 hL;refine kO hK (Loc.rem b8 (hL.pop.pop.pop.pop.pop)) ?_;clear hK K hHeld;intro hHeld;refine wD ?_;clear hHeld;go_wp2_with (first|refine aU ?_|(refine ah ?_;clear hL;intro w1 hL));exact bodyPost_ret (ai rfl hL rfl) rfl ⟨rfl,hL.bel⟩
instance Q4:Ent 254:=eo func254
theorem vP(key nonce:Nat→BitVec 8)(pb:Option Addr)(cb n:Nat)(vs:Value)(l beside:List (BitVec 8))(w:World)(hn:l.length=n+16)(hb:BRow w (.slice pb l.length cb) l)(hcap:l.length≤cb)(hs:BRow w vs beside)(h1:l.length≤100000)(h2:beside.length≤100000)(heq:ae 16 (kf key nonce (l.take n) beside)=l.drop n) :
 Calls prog 214 #[.agg (aa 32 key),.agg (aa 12 nonce),.slice pb l.length cb,vs] w fun e w'=>∃v',e= .returned (.tuple #[v',.int .i64 0])∧BRow w' v' (dN key (BitVec.ofInt 32 1) nonce (l.take n))∧Below w.heap.size w w':=by
 have hL:=Loc.nil w;have htk:(l.take n).length=n:=by rw[List.length_take];omega
 have hd:(l.drop n).length=16:=by rw[List.length_drop];omega
 have B1:=hb.cutHi (k:=n) (by omega) hcap;have B2:=hb.cutLo (i:=n) (by omega) hcap;rw[show l.length-n=16 from by omega]at B2;obtain⟨ps,cs,rfl⟩:=hs.shape;have HT:=Hd (fun w1 (hb1:Below w.heap.size w w1)=>vO key nonce (.slice pb n cb) (.slice ps beside.length cs) (l.take n) beside w1 (B1.below hb1) (hs.below hb1) (by omega) h2);have HS:=Hd (fun w1 (hb1:Below w.heap.size w w1) (u:Value) (hu:BRow w1 u (ae 16 (kf key nonce (l.take n) beside)))=>(show Rt 239 #[u,.slice (jy pb cb n) 16 (cb-n)] w1 (.bool true)from
  by have:=vE u (.slice (jy pb cb n) 16 (cb-n)) _ _ w1 hu (B2.below hb1) (by rw[ag];omega);rwa[decide_eq_true heq]at this))
 have HU:=Hd (fun w1 (hb1:Below w.heap.size w w1)=>vN key nonce 1 (.slice pb n cb) (l.take n) w1 (B1.below hb1) (by omega));have s1:=fun w1=>uM (A:=pb) (n:=l.length) (c:=cb) (k:=n) (by omega) w1;have s2:=fun w1=>uK (A:=pb) (n:=l.length) (c:=cb) (i:=n) (by omega) w1;rw[show l.length-n=16 from by omega]at s2;have e1:(l.length:Int)-16=(n:Int):=by omega
 generalize jy pb cb n=pc at *
 have n0:(0:Int)≤n:=by omega
 have n2:(n:Int)≤100000:=by omega
 clear hb hs B1 B2 heq hn hcap h1 h2 htk hd;generalize kf key nonce (l.take n) beside=T,l.length=L at *
 go_enter func214,ntmps214;go_wp2_with (first|refine aU ?_|(refine gBp 4 ?_;clear hL;intro b4 w1 hL)|(refine gBp 5 ?_;clear hL;intro b5 w1 hL)|(refine ah ?_;clear hL;intro w1 hL));refine jx (R:=?R) (fun hR=>?h1) ?h2;case h1 =>
  refine mX (S:=fun w'=>Loc _ w' _) 9 (hL.drew) ?_;intro hHeld;replace hL:=hL.drew;refine uZ 0 ?_;refine uZ 1 ?_;refine uG 2 ?_;refine uG 3 ?_;refine uG 5 ?_;refine uG 4 ?_;refine rd2 6 7 ?_ ?_
  ·intro K hK
   refine eVv (HT.out _ hL.bel) hL ?_;clear hL;intro w1 hL;refine kO hK (hL) ?_;clear hK K hHeld;intro hHeld;refine rd1 7 ?_;intro K hK;refine eA hL rfl ?_;clear hL;intro b11 w1 hL;refine kO hK (hL.pop) ?_;clear hK K hHeld;intro hHeld;refine rd1 8 ?_;intro K hK;refine eJ ?_;clear hL;intro w1 hL;refine kO hK (hL.pop) ?_;clear hK K hHeld;intro hHeld;refine wD ?_;clear hHeld;have hLp:=hL;clear hL;revert hLp;revert w1;revert b11;exact pm hR
  ·intro K hK
   refine eA hL rfl ?_;clear hL;intro b11 w1 hL;refine kO hK (hL.pop) ?_;clear hK K hHeld;intro hHeld;refine rd1 6 ?_;intro K hK;refine eVv (HT.out _ hL.bel) hL ?_;clear hL;intro w1 hL;refine kO hK (hL.pop) ?_;clear hK K hHeld;intro hHeld;refine rd1 8 ?_;intro K hK;refine eJ ?_;clear hL;intro w1 hL;refine kO hK (hL.pop) ?_;clear hK K hHeld;intro hHeld;refine wD ?_;clear hHeld;have hLp:=hL;clear hL;revert hLp;revert w1;revert b11;exact pm hR
 intro b11 w1 hL1;clear hL;have hL:=hL1;clear hL1;go_wp2_with (first|refine aU ?_|(refine ah ?_;clear hL;intro w1 hL));refine mX (S:=fun w'=>Loc _ w' _) 6 (hL.drew) ?_;intro hHeld;replace hL:=hL.drew;refine uG 0 ?_;refine uG 1 ?_;refine uG 2 ?_;refine uG 3 ?_;refine rd1 4 ?_;intro K hK;refine eVv (HS.out _ hL.bel (.slice (some ⟨b11,0,none⟩) 16 16) (See.bytes hL)) hL ?_;clear hL;intro w1 hL;refine kO hK (hL) ?_;clear hK K hHeld;intro hHeld;refine uG 5 ?_;refine wD ?_;clear hHeld;go_wp2_with (first|refine aU ?_|(refine ah ?_;clear hL;intro w1 hL));refine mX (S:=fun w'=>Loc _ w' _) 8 (hL.drew) ?_;intro hHeld;replace hL:=hL.drew;refine uZ 0 ?_;refine uZ 1 ?_;refine uG 2 ?_;refine uG 3 ?_;refine uG 4 ?_;refine rd1 5 ?_;intro K hK;refine eK (HU.out _ hL.bel) ?_;rintro e w1⟨⟨v35,rfl,hr35⟩,hb35⟩;refine⟨_,rfl,?_⟩;have hL1:=hL.keep hb35;clear hL;revert hL1;refine aN ?_;intro hL;refine kO hK (hL) ?_;clear hK K hHeld;intro hHeld;refine uG 6 ?_;refine uG 7 ?_;refine wD ?_;clear hHeld;go_wp2_with (first|refine aU ?_|(refine ah ?_;clear hL;intro w1 hL));go_ret2;exact⟨v35,rfl,hr35,hL.bel⟩
instance Q5:Ent 214:=eo func214
end
end Go.Proofs.YtoifhhljfaoejaaGreatDoor
