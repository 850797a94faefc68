/-
  Lemmas of the law, part 47: the walks of the functions that it calls and the plain facts about them. No condition beyond those written.
-/
import Derived.Outline
import Derived.Test.YtoifhhljfaoejaaGreatDoorPkBB
import Derived.Test.YtoifhhljfaoejaaGreatDoorPkBT
namespace Go.Proofs.YtoifhhljfaoejaaGreatDoor
open Go.RowKit
def KAt (w:World):Prop:=0<w.heap.size∧∀ i,i<64→w.cell? ⟨0,i,none⟩=some (.int .u32 (U (K256 i)))
theorem KAt.below {w w':World} (h:KAt w) (hb:Below w.heap.size w w'):KAt w' :=
 ⟨Nat.lt_of_lt_of_le h.1 hb.size,fun i hi=>(hb.cell (p:=⟨0,i,none⟩) h.1).trans (h.2 i hi)⟩
theorem below_draws {B:Nat} {a w:World} (h:Below B a w) (n:Nat):Below B a (w.drewN n):=h.trans ⟨rfl,rfl,rfl,Nat.le_refl _,fun _ _=>rfl⟩
structure ShaAt (w:World) (g n:Nat) (f:Nat→BitVec 8) (h:Nat→BitVec 32) (wr:World):Prop where
 res:wr.heap[w.heap.size]?=some (.cells (rowB 32 fun _=>0) 24 (0,0))
 hh:wr.heap[w.heap.size+1]?=some (.cells (rowU 8 h) 137 (0,0))
 lo:w.heap.size+1<g
 hi:g<wr.heap.size
 mm:∀ i,i<n→wr.cell? ⟨g,i,none⟩=some (.int .u8 (B8 (f i)))
 bel:Below w.heap.size w wr
theorem ShaAt.keep {w wr w':World} {g n:Nat} {f:Nat→BitVec 8} {h:Nat→BitVec 32} (s:ShaAt w g n f h wr) (hb:Below (g+1) wr w'):ShaAt w g n f h w' where
 res:=(hb.block _ (by have:=s.lo;omega)).trans s.res
 hh:=(hb.block _ (by have:=s.lo;omega)).trans s.hh
 lo:=s.lo
 hi:=Nat.lt_of_lt_of_le s.hi hb.size
 mm:=fun i hi=>(hb.cell (p:=⟨g,i,none⟩) (by simp)).trans (s.mm i hi)
 bel:=s.bel.trans (hb.mono (by have:=s.lo;omega))
theorem ShaAt.setH {w wr:World} {g n:Nat} {f:Nat→BitVec 8} {h:Nat→BitVec 32} (s:ShaAt w g n f h wr) {i:Nat} (x:BitVec 32) (hi:i<8) :
 ShaAt w g n f (upd h i x) (wr.setCell ⟨w.heap.size+1,i,none⟩ (.int .u32 (U x))) where
 res:=(heap_setCell_other _ _ _ _ (by simp)).trans s.res
 hh:=heap_set_rowU x s.hh hi
 lo:=s.lo
 hi:=by have:=s.hi;simpa [World.setCell] using this
 mm:=fun j hj=>by
  rw [World.cell?_setCell_other _ _ _ _ (fun e=>by have:=s.lo;cases e;omega)]
  exact s.mm j hj
 bel:=s.bel.setCell (by simp) _
structure InAt (w:World) (g n:Nat) (f:Nat→BitVec 8) (h:Nat→BitVec 32) (wb:Nat) (W:Nat→BitVec 32) (wr:World):Prop where
 at_:ShaAt w g n f h wr
 lo:g<wb
 ww:wr.heap[wb]?=some (.cells (rowU 64 W) 139 (0,0))
theorem InAt.drewN {w wr:World} {g n wb:Nat} {f:Nat→BitVec 8} {h W:Nat→BitVec 32} (s:InAt w g n f h wb W wr) (k:Nat):InAt w g n f h wb W (wr.drewN k) :=
 ⟨s.at_.keep (below_draws (Below.refl _ _) k),s.lo,s.ww⟩
theorem InAt.set {w wr:World} {g n wb:Nat} {f:Nat→BitVec 8} {h W:Nat→BitVec 32} (s:InAt w g n f h wb W wr) {i:Nat} (x:BitVec 32) (hi:i<64) :
 InAt w g n f h wb (upd W i x) (wr.setCell ⟨wb,i,none⟩ (.int .u32 (U x))).drew :=
 ⟨s.at_.keep (((Below.refl _ _).setCell (by have:=s.lo;simp;omega) _).drew),s.lo,heap_set_rowU x s.ww hi⟩
theorem InAt.keep {w wr w':World} {g n wb:Nat} {f:Nat→BitVec 8} {h W:Nat→BitVec 32} (s:InAt w g n f h wb W wr) (hb:Below (wb+1) wr w'):InAt w g n f h wb W w' :=
 ⟨s.at_.keep (hb.mono (by have:=s.lo;omega)),s.lo,(hb.block _ (by omega)).trans s.ww⟩
structure VAt (w:World) (g n:Nat) (f:Nat→BitVec 8) (h:Nat→BitVec 32) (wb:Nat) (W:Nat→BitVec 32) (vb:Nat) (V:Nat→BitVec 32) (wr:World):Prop where
 in_:InAt w g n f h wb W wr
 lo:wb<vb
 vv:wr.heap[vb]?=some (.cells (rowU 8 V) 137 (0,0))
theorem VAt.drewN {w wr:World} {g n wb vb:Nat} {f:Nat→BitVec 8} {h W V:Nat→BitVec 32} (s:VAt w g n f h wb W vb V wr) (k:Nat):VAt w g n f h wb W vb V (wr.drewN k) :=
 ⟨s.in_.drewN k,s.lo,s.vv⟩
theorem VAt.setRow {w wr:World} {g n wb vb:Nat} {f:Nat→BitVec 8} {h W V:Nat→BitVec 32} (s:VAt w g n f h wb W vb V wr) (V':Nat→BitVec 32):VAt w g n f h wb W vb V' (wr.setRow vb (rowU 8 V')) :=
 ⟨s.in_.keep (below_setRow (Below.refl _ _) (by have:=s.lo;omega) _),s.lo,heap_setRow_at s.vv⟩
theorem VAt.setH {w wr:World} {g n wb vb:Nat} {f:Nat→BitVec 8} {h W V:Nat→BitVec 32} (s:VAt w g n f h wb W vb V wr) {i:Nat} (x:BitVec 32) (hi:i<8) :
 VAt w g n f (upd h i x) wb W vb V (wr.setCell ⟨w.heap.size+1,i,none⟩ (.int .u32 (U x))).drew :=
 have l1:=s.in_.at_.lo
 have l2:=s.in_.lo
 have l3:=s.lo
 have t:=s.in_.at_.setH x hi
 ⟨⟨⟨t.res,t.hh,t.lo,t.hi,t.mm,t.bel.drew⟩,l2,(heap_setCell_other _ _ _ _ (by simp;omega)).trans s.in_.ww⟩,l3,(heap_setCell_other _ _ _ _ (by simp;omega)).trans s.vv⟩
theorem addTo_upd (h v:Nat→BitVec 32) (k:Nat):upd (addTo h v k) k (h k+v k)=addTo h v (k+1):=by
 funext i
 unfold upd addTo
 by_cases e:i=k
 ·subst e;simp
 ·rw [if_neg e]
  by_cases hi:i<k
  ·rw [if_pos hi,if_pos (by omega)]
  ·rw [if_neg hi,if_neg (by omega)]
theorem rowU_congr {n:Nat} {f g:Nat→BitVec 32} (h:∀ i,i<n→f i=g i):rowU n f=rowU n g:=row_congr fun i hi=>by rw [h i hi]
theorem ShaAt.congr {w wr:World} {g n:Nat} {f:Nat→BitVec 8} {h h':Nat→BitVec 32} (s:ShaAt w g n f h wr) (e:∀ i,i<8→h i=h' i):ShaAt w g n f h' wr :=
 ⟨s.res,by rw [← rowU_congr e];exact s.hh,s.lo,s.hi,s.mm,s.bel⟩
theorem OwnB.at {w:World} {base:Nat} {v:Value} {l:List (BitVec 8)} (h:OwnB w base v l) (h0:0<l.length) :
 ∃ g cap,v= .slice (some ⟨g,0,none⟩) l.length cap∧base≤g∧g<w.heap.size∧∀ i,i<l.length→w.cell? ⟨g,i,none⟩=some (.int .u8 (B8 (l.getD i 0))):=by
 have hlt:=World.ownsRow.lt h
 have hb:=h.brow
 rcases h.2 with ⟨rfl,h1⟩ | ⟨g,cap,cur,rfl,_,hg,_,_,_,_⟩
 ·omega
 ·refine ⟨g,cap,rfl,(hlt g rfl).1,(Array.getElem?_eq_some_iff.1 hg).1,fun i hi=>?_⟩
  obtain ⟨a,c,e,_,hp⟩:=hb
  obtain ⟨b,off,rfl,_,hc⟩:=hp h0
  cases e
  have:=hc i hi
  rw [Nat.zero_add] at this
  rw [this,List.getD_eq_getElem?_getD,List.getElem?_eq_getElem hi,Option.getD_some]
def wordsK (b:Nat→BitVec 8) (k:Nat) (i:Nat):BitVec 32:=if i<k then word4 b i else 0
theorem wordsK_step (b:Nat→BitVec 8) (k:Nat):upd (wordsK b k) k (word4 b k)=wordsK b (k+1):=by
 funext i
 unfold upd wordsK
 by_cases e:i=k
 ·subst e;simp
 ·rw [if_neg e]
  by_cases hi:i<k
  ·rw [if_pos hi,if_pos (by omega)]
  ·rw [if_neg hi,if_neg (by omega)]
theorem wordsK_full (b:Nat→BitVec 8):wordsK b 16=sch1 b 64:=by rw [sch1_words];rfl
theorem U_conv (x:BitVec 8):IntKind.u32.wrap (B8 x)=U (wide x):=by
 obtain ⟨h0,h1⟩:=B8_bd x
 rw [IntKind.wrap_u32',← show B8 x=U (wide x) from B8_wide x]
 omega
theorem and_out (h:Nat→BitVec 32) (k r:Nat) (hr:k % 4=r):bits .and .u32 (U (h (k / 4)) / ((2 ^ (24 - 8*r):Nat):Int)) (255:Int)=B8 (outOf h k):=by
 rw [← out_val h k r hr]
 have hlt:=(h (k / 4)).isLt
 have e:U (h (k / 4)) / ((2 ^ (24 - 8*r):Nat):Int)=(((h (k / 4)).toNat / 2 ^ (24 - 8*r):Nat):Int):=by
  unfold U;norm_cast
 rw [e]
 have h1:(h (k / 4)).toNat / 2 ^ (24 - 8*r)<4294967296:=Nat.lt_of_le_of_lt (Nat.div_le_self _ _) hlt
 have:=u32_and_nat ((h (k / 4)).toNat / 2 ^ (24 - 8*r)) 255 h1 (by omega)
 rw [nat_mask8] at this
 rw [show (255:Int)=((255:Nat):Int) from rfl,this]
 exact Int.natCast_emod _ 256
theorem U_shl24 (x:BitVec 32):U x*(16777216:Int) % (4294967296:Int)=U (x <<< 24):=U_shl x 24
theorem U_shl16 (x:BitVec 32):U x*(65536:Int) % (4294967296:Int)=U (x <<< 16):=U_shl x 16
theorem ror_all (x:BitVec 32) (n:Int) (w:World) (h:n∈[(7:Int),18,17,19,6,11,25,2,13,22]):Calls Tryz.prog 72 #[.int .u32 (U x),.int .u64 n] w fun e w'=>e= .returned (.int .u32 (U (rotl x (32 - n.toNat))))∧w=w':=by
 simp only [List.mem_cons,List.not_mem_nil,or_false] at h
 rcases h with rfl | rfl | rfl | rfl | rfl | rfl | rfl | rfl | rfl | rfl
 ·exact ror7 x w
 ·exact ror18 x w
 ·exact ror17 x w
 ·exact ror19 x w
 ·exact ror6 x w
 ·exact ror11 x w
 ·exact ror25 x w
 ·exact ror2 x w
 ·exact ror13 x w
 ·exact ror22 x w
theorem ror_still (x:BitVec 32) (n:Int) (m:Nat) (w:World) (h:n∈[(7:Int),18,17,19,6,11,25,2,13,22]) (hm:m=32 - n.toNat):Calls Tryz.prog 72 #[.int .u32 (U x),.int .u64 n] w fun e w'=>e= .returned (.int .u32 (U (rotl x m)))∧w'=w :=
 (ror_all x n w h).mono fun _ _ ⟨h1,h2⟩=>⟨by rw [h1,hm],h2.symm⟩
set_option maxRecDepth 100000 in
set_option maxHeartbeats 1000000 in
theorem refSha_any (v:Value) (l:List (BitVec 8)) (w:World) (hv:BRow w v l) (hl:l.length≤1000000000) (hk:KAt w) :
 Calls Tryz.prog 29 #[v] w fun e w'=>e= .returned (.agg (rowB 32 (sha l)))∧Below w.heap.size w w':=by
 have HV:=Lib.hid hv
 have HK:=Lib.hid hk
 have HFIN:=Lib.hid (sha_blocks l)
 have HW8:=Lib.hid (words_row 8 H256)
 have HPL:=Lib.hid (pad_length l)
 have HPB:=Lib.hid (show (pad l).length≤1000000200 by unfold pad zeros lenBytes;simp;omega)
 clear hv hk
 have HN8:=Lib.hid (show (Tryz.prog.info? 137).map (·.size)=some (rowU 8 H256).size by rw [size8,rowU_size])
 go_enter Tryz.func29,Tryz.ntmps29
 go_wp2_with (first
  | (with_reducible refine wpList_alloc_row rfl 24 rfl 32 _ info32 ?_)
  | (with_reducible refine wpList_alloc_row rfl 137 rfl 8 _ info8 ?_)
  | (refine wpList_buildFlatArrTo rfl 137 136 8 _ rfl .u32 ((List.range 8).map fun i=>U (H256 i)) _ rfl Tryz.underlying137 (by kernel_rfl) (by kernel_rfl) (by kernel_rfl) ?_;rw [HW8.out])
  | ((with_reducible show wpList _ _ _ (⟨_,.store 137 _ _,_,_,_,_⟩ :: _) _ _);go_loud (refine wpList_store_rowTo rfl 137 _ _ rfl rfl _ (rowU 8 H256) rfl rfl 137 _ (heap_alloc_new _ _) HN8.out (by rw [row_size,rowU_size]) (rowU_oneCell _ _) ?_))
  | (go_at_call 71;go_loud (refine (padded_any _ l _ ?b hl).mono ?_);rotate_left;rintro e w2 ⟨v2,rfl,hown,hb2⟩))
 case b=>exact HV.out.below (below_setRow (((Below.refl _ _).alloc (Nat.le_refl _) _).alloc (by simp) _) (by simp) _)
 obtain ⟨g,cap,rfl,hg1,hg2,hcells⟩:=hown.at (by unfold pad;simp;omega)
 have hat:ShaAt w g (pad l).length (fun i=>(pad l).getD i 0) (blocks (fun i=>(pad l).getD i 0) 0) w2:=by
  have hsz:(((w.alloc (.cells (row 32 fun _=> .int .u8 0) 24)).alloc (.cells (row 8 fun _=> .int .u32 0) 137)).setRow (w.heap.size+1) (rowU 8 H256)).heap.size=w.heap.size+2:=by simp [World.setRow]
  have hb2:Below _ _ w2:=hb2
  rw [hsz] at hg1 hb2
  refine ⟨?_,?_,by omega,hg2,hcells,?_⟩
  ·rw [hb2.block _ (by simp)]
   exact (heap_setRow_far (by omega)).trans (heap_alloc2_old _ _ _)
  ·rw [hb2.block _ (by simp)]
   exact heap_setRow_at (heap_alloc2_new _ _ _)
  ·exact (below_setRow (((Below.refl _ _).alloc (Nat.le_refl _) _).alloc (by simp) _) (by simp) _).trans (hb2.mono (by simp))
 obtain ⟨f,hf⟩:∃ f:Nat→BitVec 8,f=fun i=>(pad l).getD i 0:=⟨_,rfl⟩
 rw [← hf] at hat HFIN
 clear hf hcells hg1 hg2 hown hb2 HV HW8 HN8
 generalize (pad l).length=n at *
 go_loopw [5] (fun i wr=>∃ k s:Nat,s=64*k∧s≤n∧i= .int .i64 s∧ShaAt w g n f (blocks f k) wr) (fun i _=>n - (intOf i).toNat)
 case atStart=>exact ⟨0,0,rfl,Nat.zero_le _,rfl,hat⟩
 case round =>
  clear hat
  obtain ⟨k,s,hs,hsn,rfl,hat⟩:=hrel
  have HS:=Lib.hid hs
  have hs0:(0:Int)≤(s:Int):=by omega
  by_cases hlt:s<n
  ·have HS64:=Lib.hid (show s+64≤n by have:=HPL.out;omega)
   have hs1:(s:Int)<(n:Int):=by omega
   clear hs hsn hlt
   have HAT:=Lib.hid hat
   clear hat
   go_wp2_with (with_reducible refine wpList_alloc_row rfl 139 rfl 64 _ info64 ?_)
   have hlt2:g<wr.heap.size:=HAT.out.hi
   have HIN:=Lib.hid (show InAt w g n f (blocks f k) wr.heap.size (wordsK (fun q=>f (64*k+q)) 0) (wr.alloc (.cells (row 64 fun _=> .int .u32 0) 139)) from
    ⟨HAT.out.keep ((Below.refl _ _).alloc (by omega) _),hlt2,heap_alloc_new _ _⟩)
   have HWL:=Lib.hid hlt2
   clear HAT hlt2
   generalize wr.heap.size=wb at *
   generalize wr.alloc (.cells (row 64 fun _=> .int .u32 0) 139)=w0 at *
   obtain ⟨b,hb⟩:∃ b:Nat→BitVec 8,b=fun q=>f (64*k+q):=⟨_,rfl⟩
   rw [← hb] at HIN
   have HB:=Lib.hid hb
   clear hb
   go_loopw [7] (fun i w2=>∃ j:Nat,j≤16∧i= .int .i64 j∧InAt w g n f (blocks f k) wb (wordsK b j) w2) (fun i _=>16 - (intOf i).toNat)
   case atStart=>exact ⟨0,Nat.zero_le _,rfl,HIN.out⟩
   case round =>
    clear HIN
    obtain ⟨j,hj,rfl,hin⟩:=hrel
    by_cases hj16:j<16
    ·have hj0:(0:Int)≤(j:Int):=by omega
     have hj1:(j:Int)<16:=by omega
     have hj2:(j:Int)<64:=by omega
     have hsb:(s:Int)≤2000000000:=by have:=HS64.out;have:=HPB.out;omega
     obtain ⟨q,hq⟩:∃ q,q=s+4*j:=⟨_,rfl⟩
     have hqn:q+3<n:=by have:=HS64.out;omega
     have m0:=hin.at_.mm q (by omega)
     have m1:=hin.at_.mm (q+1) (by omega)
     have m2:=hin.at_.mm (q+2) (by omega)
     have m3:=hin.at_.mm (q+3) (by omega)
     have cf:wr.frozen? ⟨wb,j,none⟩=false:=frozen_of_row wr _ _ _ _ hin.ww
     have cc:wr.cell? ⟨wb,j,none⟩=some (.int .u32 (U (wordsK b j j))):=cell_rowU hin.ww (by omega)
     have hq':(s:Int)+4*(j:Int)=(q:Int):=by omega
     have HIN:=Lib.hid hin
     have HWD:=Lib.hid (show wide (f q) <<< 24 ||| wide (f (q+1)) <<< 16 ||| wide (f (q+2)) <<< 8 ||| wide (f (q+3))=word4 b j by
      rw [HB.out]
      unfold word4
      simp only [show 64*k+4*j=q by have:=HS.out;omega,show 64*k+(4*j+1)=q+1 by have:=HS.out;omega,show 64*k+(4*j+2)=q+2 by have:=HS.out;omega,show 64*k+(4*j+3)=q+3 by have:=HS.out;omega])
     have HST:=Lib.hid (wordsK_step b j)
     have hn1:(n:Int)≤2000000000:=by have:=HPB.out;omega
     clear hin hq
     go_wp2
     have e1:IntKind.i64.wrap ((q:Int)+1)=(q:Int)+1:=IntWalk.i64_in _ (by omega)
     have e2:IntKind.i64.wrap ((q:Int)+2)=(q:Int)+2:=IntWalk.i64_in _ (by omega)
     have e3:IntKind.i64.wrap ((q:Int)+3)=(q:Int)+3:=IntWalk.i64_in _ (by omega)
     have t1:((q:Int)+1).toNat=q+1:=by omega
     have t2:((q:Int)+2).toNat=q+2:=by omega
     have t3:((q:Int)+3).toNat=q+3:=by omega
     have p0:(0:Int)≤(q:Int):=by omega
     have p1:(0:Int)≤(q:Int)+1:=by omega
     have p2:(0:Int)≤(q:Int)+2:=by omega
     have p3:(0:Int)≤(q:Int)+3:=by omega
     have q0:(q:Int)<(n:Int):=by omega
     have q1:(q:Int)+1<(n:Int):=by omega
     have q2:(q:Int)+2<(n:Int):=by omega
     have q3:(q:Int)+3<(n:Int):=by omega
     have hconv:=U_conv
     have h24:=U_shl24
     have h16:=U_shl16
     have h8:=U_shl8
     have hor:=U_or
     go_still_tail 31,(by kernel_rfl)
     change wpList _ _ _ _ _ wr.drew
     clear e1 e2 e3 t1 t2 t3 p0 p1 p2 p3 q0 q1 q2 q3
     go_wp2
     go_roundw
     case rel =>
      refine ⟨j+1,by omega,by go_num,?_⟩
      rw [HWD.out,← HST.out]
      exact HIN.out.set _ (by omega)
     case measure=>simp [intOf];omega
    ·obtain rfl:j=16:=by omega
     rw [wordsK_full,← sch2_low (sch1 b 64) 16 (by omega)] at hin
     rw [show ((16:Nat):Int)=16 from rfl]
     have HIN:=Lib.hid hin
     clear hin
     go_wp2
     obtain ⟨w1,rfl⟩:∃ w1:World,w1=wr:=⟨_,rfl⟩
     go_loopw [9] (fun i w2=>∃ j:Nat,16≤j∧j≤64∧i= .int .i64 j∧InAt w g n f (blocks f k) wb (sch2 (sch1 b 64) j) w2) (fun i _=>64 - (intOf i).toNat)
     case atStart=>exact ⟨16,by omega,by omega,rfl,HIN.out⟩
     case round =>
      clear HIN hj hj16
      obtain ⟨j,hj16,hj,rfl,hin⟩:=hrel
      by_cases hlt:j<64
      ·have hk0:(16:Int)≤(j:Int):=by omega
       have hk1:(j:Int)<64:=by omega
       have hc2:wr.cell? ⟨wb,j - 2,none⟩=some (.int .u32 (U (sch2 (sch1 b 64) j (j - 2)))):=cell_rowU hin.ww (by omega)
       have hc7:wr.cell? ⟨wb,j - 7,none⟩=some (.int .u32 (U (sch2 (sch1 b 64) j (j - 7)))):=cell_rowU hin.ww (by omega)
       have hc15:wr.cell? ⟨wb,j - 15,none⟩=some (.int .u32 (U (sch2 (sch1 b 64) j (j - 15)))):=cell_rowU hin.ww (by omega)
       have hc16:wr.cell? ⟨wb,j - 16,none⟩=some (.int .u32 (U (sch2 (sch1 b 64) j (j - 16)))):=cell_rowU hin.ww (by omega)
       have hc:wr.cell? ⟨wb,j,none⟩=some (.int .u32 (U (sch2 (sch1 b 64) j j))):=cell_rowU hin.ww (by omega)
       have hf:wr.frozen? ⟨wb,j,none⟩=false:=frozen_of_row wr _ _ _ _ hin.ww
       have HIN:=Lib.hid hin
       have HST:=Lib.hid (sch2_step (sch1 b 64) hj16)
       clear hin
       generalize sch2 (sch1 b 64) j=W at *
       go_wp2
       have e7:IntKind.i64.wrap ((j:Int) - 7)=(j:Int) - 7:=IntWalk.i64_in _ (by omega)
       have e16:IntKind.i64.wrap ((j:Int) - 16)=(j:Int) - 16:=IntWalk.i64_in _ (by omega)
       have t7:((j:Int) - 7).toNat=j - 7:=by omega
       have t16:((j:Int) - 16).toNat=j - 16:=by omega
       have p7:(7:Int)≤(j:Int):=by omega
       have q7:(j:Int) - 7<64:=by omega
       have q16:(j:Int) - 16<64:=by omega
       have j0:(0:Int)≤(j:Int):=by omega
       obtain ⟨a0,a1⟩:=U_bd (W (j - 2))
       obtain ⟨b0,b1⟩:=U_bd (W (j - 15))
       have hs0:=sig0_val (W (j - 15))
       have hs1:=sig1_val (W (j - 2))
       have hadd:=U_add
       go_still_tail 29,(by kernel_rfl)
       still_call (ror_still (W (j - 15)) 7 25 _ (by decide) rfl)
       repeat still_step
       still_call (ror_still (W (j - 15)) 18 14 _ (by decide) rfl)
       repeat still_step
       still_call (ror_still (W (j - 2)) 17 15 _ (by decide) rfl)
       repeat still_step
       still_call (ror_still (W (j - 2)) 19 13 _ (by decide) rfl)
       repeat still_step
       refine wpStill_nil ?_
       change wpList _ _ _ _ _ wr.drew
       clear e7 e16 t7 t16 p7 q7 q16 hs0 hs1
       go_wp2
       go_roundw
       case rel =>
        refine ⟨j+1,by omega,by omega,by go_num,?_⟩
        rw [HST.out,show W (j - 16)+sig0 (W (j - 15))+W (j - 7)+sig1 (W (j - 2))=schStep W j by unfold schStep;ac_rfl]
        exact HIN.out.set (schStep W j) hlt
       case measure=>simp [intOf];omega
      ·obtain rfl:j=64:=by omega
       rw [show ((64:Nat):Int)=64 from rfl]
       have HIN:=Lib.hid (show InAt w g n f (blocks f k) wb (sched b) wr from hin)
       have HH8:=Lib.hid hin.at_.hh
       have HN8:=Lib.hid (show (Tryz.prog.info? 137).map (·.size)=some (rowU 8 (blocks f k)).size by rw [size8,rowU_size])
       clear hin
       go_wp2_with (first
        | (with_reducible refine wpList_load_row rfl 137 _ rfl (w.heap.size+1) rfl 137 (rowU 8 (blocks f k)) (0,0) _ HH8.out Tryz.underlying137 rfl HN8.out ?_)
        | (with_reducible refine wpList_alloc_row rfl 137 rfl 8 _ info8 ?_)
        | ((with_reducible show wpList _ _ _ (⟨_,.store 137 _ _,_,_,_,_⟩ :: _) _ _);refine wpList_store_rowTo rfl 137 _ _ rfl rfl _ (rowU 8 (blocks f k)) rfl rfl 137 _ (heap_alloc_new _ _) HN8.out (by rw [row_size,rowU_size]) (rowU_oneCell _ _) ?_))
       have hlt2:wb<wr.heap.size:=(Array.getElem?_eq_some_iff.1 HIN.out.ww).1
       have HVA:=Lib.hid (show VAt w g n f (blocks f k) wb (sched b) wr.heap.size (rnds K256 (sched b) (blocks f k) 0) ((wr.alloc (.cells (row 8 fun _=> .int .u32 0) 137)).setRow wr.heap.size (rowU 8 (blocks f k))) from
        ⟨HIN.out.keep (below_setRow ((Below.refl _ _).alloc (by omega) _) (by omega) _),hlt2,heap_setRow_at (heap_alloc_new _ _)⟩)
       clear HIN HH8 hlt2 hj hj16 hlt
       generalize (wr.alloc (.cells (row 8 fun _=> .int .u32 0) 137)).setRow wr.heap.size (rowU 8 (blocks f k))=w2 at *
       generalize wr.heap.size=vb at *
       clear wr
       go_loopw [13] (fun i w2=>∃ t:Nat,t≤64∧i= .int .i64 t∧VAt w g n f (blocks f k) wb (sched b) vb (rnds K256 (sched b) (blocks f k) t) w2) (fun i _=>64 - (intOf i).toNat)
       case atStart=>exact ⟨0,Nat.zero_le _,rfl,HVA.out⟩
       case round =>
        clear HVA
        obtain ⟨t,ht,rfl,hva⟩:=hrel
        by_cases hlt:t<64
        ·have h0:(0:Int)≤(t:Int):=by omega
         have h1:(t:Int)<64:=by omega
         have ck:wr.cell? ⟨0,t,none⟩=some (.int .u32 (U (K256 t))):=(HK.out.below hva.in_.at_.bel).2 t hlt
         have cw:wr.cell? ⟨wb,t,none⟩=some (.int .u32 (U (sched b t))):=cell_rowU hva.in_.ww hlt
         have HN:=Lib.hid (show rnds K256 (sched b) (blocks f k) (t+1)=rnd K256 (sched b) t (rnds K256 (sched b) (blocks f k) t) from rfl)
         generalize rnds K256 (sched b) (blocks f k) t=V at *
         have hvv:=hva.vv
         have c0:=cell_rowU (i:=0) hvv (by decide)
         have c1:=cell_rowU (i:=1) hvv (by decide)
         have c2:=cell_rowU (i:=2) hvv (by decide)
         have c3:=cell_rowU (i:=3) hvv (by decide)
         have c4:=cell_rowU (i:=4) hvv (by decide)
         have c5:=cell_rowU (i:=5) hvv (by decide)
         have c6:=cell_rowU (i:=6) hvv (by decide)
         have c7:=cell_rowU (i:=7) hvv (by decide)
         have HVA:=Lib.hid hva
         clear hva hvv
         have hadd:=U_add
         have hxor:=U_xor
         have hand:=U_and
         have hnot:=U_not
         have hadd':=U_add'
         go_wp2
         go_quiet ((go_at_call 72;exact Calls.quiet_of_same (ror_still _ _ _ _ (by decide) rfl)))
         have HVB:=Lib.hid (HVA.out.drewN nq)
         clear c0 c1 c2 c3 c4 c5 c6 c7 ck cw HVA
         generalize wr.drewN nq=wq at *
         have hvv:=HVB.out.vv
         have c1:=cell_rowU (i:=1) hvv (by decide)
         have c2:=cell_rowU (i:=2) hvv (by decide)
         have c3:=cell_rowU (i:=3) hvv (by decide)
         have c5:=cell_rowU (i:=5) hvv (by decide)
         have c6:=cell_rowU (i:=6) hvv (by decide)
         clear hvv
         go_wp2
         go_quiet ((go_at_call 72;exact Calls.quiet_of_same (ror_still _ _ _ _ (by decide) rfl)))
         have HV2:=Lib.hid (show ∀ m,(wq.drewN m).heap[vb]?=some (.cells (rowU 8 V) 137 (0,0)) from fun _=>HVB.out.vv)
         have HZ8:=Lib.hid (show (Tryz.prog.info? 137).map (·.size)=some (rowU 8 (rnd K256 (sched b) t V)).size by rw [size8,rowU_size])
         go_wp2_with ((with_reducible show wpList _ _ _ (⟨_,.store _ _ _,_,_,_,_⟩ :: _) _ _);refine wpList_store_rowTo rfl 137 _ _ rfl rfl vb (rowU 8 (rnd K256 (sched b) t V)) rfl rfl 137 _ (HV2.out _) HZ8.out (by rw [rowU_size,rowU_size]) (rowU_oneCell _ _) ?_)
         go_roundw
         case rel =>
          refine ⟨t+1,by omega,by go_num,?_⟩
          rw [HN.out]
          exact (HVB.out.drewN _).setRow _
         case measure=>simp [intOf];omega
        ·obtain rfl:t=64:=by omega
         rw [show ((64:Nat):Int)=64 from rfl]
         have HBL:=Lib.hid (show ∀ i,i<8→addTo (blocks f k) (rnds K256 (sched b) (blocks f k) 64) 8 i=blocks f (k+1) i from fun i hi=>by
          unfold addTo;rw [if_pos hi,blocks,← HB.out];rfl)
         generalize rnds K256 (sched b) (blocks f k) 64=V at *
         have HVA:=Lib.hid (show VAt w g n f (addTo (blocks f k) V 0) wb (sched b) vb V wr from hva)
         clear hva ht hlt
         go_wp2
         obtain ⟨w3,rfl⟩:∃ w3:World,w3=wr:=⟨_,rfl⟩
         go_loopw [18] (fun i w2=>∃ q:Nat,q≤8∧i= .int .i64 q∧VAt w g n f (addTo (blocks f k) V q) wb (sched b) vb V w2) (fun i _=>8 - (intOf i).toNat)
         case atStart=>exact ⟨0,Nat.zero_le _,rfl,HVA.out⟩
         case round =>
          clear HVA
          obtain ⟨q,hq,rfl,hva⟩:=hrel
          by_cases hlt:q<8
          ·have q0:(0:Int)≤(q:Int):=by omega
           have q1:(q:Int)<8:=by omega
           have ca:wr.cell? ⟨w.heap.size+1,q,none⟩=some (.int .u32 (U (blocks f k q))):=by
            rw [cell_rowU hva.in_.at_.hh hlt];unfold addTo;rw [if_neg (by omega)]
           have cb:wr.cell? ⟨vb,q,none⟩=some (.int .u32 (U (V q))):=cell_rowU hva.vv hlt
           have cf:wr.frozen? ⟨w.heap.size+1,q,none⟩=false:=frozen_of_row wr _ _ _ _ hva.in_.at_.hh
           have HST:=Lib.hid (addTo_upd (blocks f k) V q)
           have HVA:=Lib.hid hva
           clear hva
           have hadd:=U_add
           have hadd':=U_add'
           go_wp2
           go_still_tail 9,(by kernel_rfl)
           change wpList _ _ _ _ _ wr.drew
           go_wp2
           go_roundw
           case rel =>
            refine ⟨q+1,by omega,by go_num,?_⟩
            rw [← HST.out]
            exact HVA.out.setH _ hlt
           case measure=>simp [intOf];omega
          ·obtain rfl:q=8:=by omega
           rw [show ((8:Nat):Int)=8 from rfl]
           have HAT:=Lib.hid (hva.in_.at_.congr HBL.out)
           have hsb:(s:Int)≤2000000000:=by have:=HS64.out;have:=HPB.out;omega
           clear hva HBL
           go_wp2
           go_roundw
           case rel=>exact ⟨k+1,s+64,by have:=HS.out;omega,HS64.out,by go_num,HAT.out⟩
           case measure=>simp [intOf];omega
  ·obtain rfl:s=n:=by omega
   have HFIN2:=Lib.hid (show sha l=outOf (blocks f k) by rw [HFIN.out];congr 2;omega)
   have HAT:=Lib.hid hat
   clear hat hs hlt HFIN hsn
   go_wp2_with (with_reducible refine wpList_alloc_row rfl 24 rfl 32 _ info32 ?_)
   have hz:=HAT.out.bel.size
   have hg1:=HAT.out.lo
   have hg2:=HAT.out.hi
   have HAT9:=Lib.hid (HAT.out.keep (w':=wr.alloc (.cells (row 32 fun _=> .int .u8 0) 24)) ((Below.refl _ _).alloc (by omega) _))
   have HNEW:=Lib.hid (show (wr.alloc (.cells (row 32 fun _=> .int .u8 0) 24)).heap[wr.heap.size]?=some (.cells (rowB 32 (outK (blocks f k) 0)) 24 (0,0)) from heap_alloc_new _ _)
   obtain ⟨ob,hob⟩:∃ ob,ob=wr.heap.size:=⟨_,rfl⟩
   rw [← hob] at HNEW hg2 ⊢
   clear hob hz HAT HS
   generalize wr.alloc (.cells (row 32 fun _=> .int .u8 0) 24)=w8 at *
   clear wr
   generalize blocks f k=hh at *
   go_loopw [20] (fun i w9=>∃ q:Nat,q≤32∧i= .int .i64 q∧ShaAt w g s f hh w9∧w9.heap[ob]?=some (.cells (rowB 32 (outK hh q)) 24 (0,0))) (fun i _=>32 - (intOf i).toNat)
   case atStart=>exact ⟨0,by omega,rfl,HAT9.out,HNEW.out⟩
   case round =>
    clear HAT9 HNEW
    obtain ⟨q,hq,rfl,hat,ho⟩:=hrel
    by_cases hq32:q<32
    ·have hq0:(0:Int)≤(q:Int):=by omega
     have hq1:(q:Int)<32:=by omega
     have ch:wr.cell? ⟨w.heap.size+1,q / 4,none⟩=some (.int .u32 (U (hh (q / 4)))):=cell_rowU hat.hh (by omega)
     have co:wr.cell? ⟨ob,q,none⟩=some (.int .u8 (B8 (outK hh q q))):=cell_rowB ho hq32
     have fo:wr.frozen? ⟨ob,q,none⟩=false:=frozen_of_row wr _ _ _ _ ho
     have HO:=Lib.hid ho
     have HOK:=Lib.hid (outK_step hh q)
     have HAT:=Lib.hid hat
     obtain ⟨u0,u1⟩:=U_bd (hh (q / 4))
     obtain ⟨x0,x1⟩:=B8_bd (outOf hh q)
     clear ho hat
     have hr4:q % 4=0∨q % 4=1∨q % 4=2∨q % 4=3:=by omega
     rcases hr4 with hr | hr | hr | hr
     ·have hX:bits BinOp.and IntKind.u32 (U (hh (q / 4)) / 16777216) 255=B8 (outOf hh q):=by
       have:=and_out hh q 0 hr
       rw [show ((2 ^ (24 - 8*0):Nat):Int)=16777216 from rfl] at this
       exact this
      have hri:(q:Int) % 4=0:=by omega
      clear hr
      go_wp2
      go_roundw
      case rel =>
       refine ⟨q+1,by omega,by go_num,HAT.out.keep ((Below.refl _ _).setCell (by show g+1≤ob;omega) _),?_⟩
       rw [heap_set_rowB _ HO.out hq32,HOK.out]
      case measure=>simp [intOf];omega
     ·have hX:bits BinOp.and IntKind.u32 (U (hh (q / 4)) / 65536) 255=B8 (outOf hh q):=by
       have:=and_out hh q 1 hr
       rw [show ((2 ^ (24 - 8*1):Nat):Int)=65536 from rfl] at this
       exact this
      have hri:(q:Int) % 4=1:=by omega
      clear hr
      go_wp2
      go_roundw
      case rel =>
       refine ⟨q+1,by omega,by go_num,HAT.out.keep ((Below.refl _ _).setCell (by show g+1≤ob;omega) _),?_⟩
       rw [heap_set_rowB _ HO.out hq32,HOK.out]
      case measure=>simp [intOf];omega
     ·have hX:bits BinOp.and IntKind.u32 (U (hh (q / 4)) / 256) 255=B8 (outOf hh q):=by
       have:=and_out hh q 2 hr
       rw [show ((2 ^ (24 - 8*2):Nat):Int)=256 from rfl] at this
       exact this
      have hri:(q:Int) % 4=2:=by omega
      clear hr
      go_wp2
      go_roundw
      case rel =>
       refine ⟨q+1,by omega,by go_num,HAT.out.keep ((Below.refl _ _).setCell (by show g+1≤ob;omega) _),?_⟩
       rw [heap_set_rowB _ HO.out hq32,HOK.out]
      case measure=>simp [intOf];omega
     ·have hX:bits BinOp.and IntKind.u32 (U (hh (q / 4))) 255=B8 (outOf hh q):=by
       have:=and_out hh q 3 hr
       rw [show ((2 ^ (24 - 8*3):Nat):Int)=1 from rfl] at this
       rwa [Int.ediv_one] at this
      have hri:(q:Int) % 4=3:=by omega
      clear hr
      go_wp2
      go_roundw
      case rel =>
       refine ⟨q+1,by omega,by go_num,HAT.out.keep ((Below.refl _ _).setCell (by show g+1≤ob;omega) _),?_⟩
       rw [heap_set_rowB _ HO.out hq32,HOK.out]
      case measure=>simp [intOf];omega
    ·have hro:rowB 32 (outK hh q)=rowB 32 (sha l):=rowB_congr fun i hi=>by
      unfold outK;rw [if_pos (by omega),HFIN2.out]
     rw [hro] at ho
     have HO:=Lib.hid ho
     have HRES:=Lib.hid hat.res
     have HA:=Lib.hid hat.bel
     have HSZ:=Lib.hid (show (Tryz.prog.info? 24).map (·.size)=some (rowB 32 (sha l)).size by rw [size32,rowB_size])
     clear ho hro hat HFIN2
     go_wp2_with (first
      | ((with_reducible show wpList _ _ _ (⟨_,.load 24 _,_,_,_,_⟩ :: _) _ _);refine wpList_load_row rfl 24 _ rfl ob rfl 24 (rowB 32 (sha l)) (0,0) _ HO.out Tryz.underlying24 rfl HSZ.out ?_)
      | ((with_reducible show wpList _ _ _ (⟨_,.store 24 _ _,_,_,_,_⟩ :: _) _ _);refine wpList_store_rowTo rfl 24 _ _ rfl rfl w.heap.size (rowB 32 (sha l)) rfl rfl 24 _ HRES.out HSZ.out (by rw [rowB_size,rowB_size]) (rowB_oneCell _ _) ?_))
     refine bodyPost_ret (results_cell_row rfl _ _ w.heap.size 24 (rowB 32 (sha l)) (0,0) _ rfl (heap_setRow_at HRES.out) Tryz.underlying24 rfl HSZ.out) rfl ?_
     exact ⟨rfl,below_setRow HA.out (Nat.le_refl _) _⟩
end Go.Proofs.YtoifhhljfaoejaaGreatDoor
