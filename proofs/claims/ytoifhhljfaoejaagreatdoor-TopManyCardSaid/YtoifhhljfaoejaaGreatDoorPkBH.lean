/-
  Lemmas of the law, part 34: the walks of the functions that it calls and the plain facts about them. No condition beyond those written.
-/
import Derived.Test.YtoifhhljfaoejaaGreatDoorPkBG
import Derived.Laws.IdiomStrings
namespace Go.Proofs.YtoifhhljfaoejaaGreatDoor
open Go.RowKit
set_option linter.unusedVariables false
set_option linter.unusedSimpArgs false
def expT (key info:List (BitVec 8)):Nat→List (BitVec 8)
 | 0=>[]
 | k+1=>(List.range 32).map (macS key (expT key info k ++ info ++ [BitVec.ofNat 8 (k+1)]))
def expO (key info:List (BitVec 8)):Nat→List (BitVec 8)
 | 0=>[]
 | k+1=>expO key info k ++ expT key info (k+1)
theorem expT_length (key info:List (BitVec 8)):∀ k,(expT key info k).length≤32
 | 0=>by simp [expT]
 | k+1=>by simp [expT]
theorem expT_length' (key info:List (BitVec 8)) {k:Nat} (h:0<k):(expT key info k).length=32:=by
 cases k with
 | zero=>omega
 | succ k=>simp [expT]
theorem expO_length (key info:List (BitVec 8)):∀ k,(expO key info k).length=32*k
 | 0=>rfl
 | k+1=>by rw [expO,List.length_append,expO_length key info k,expT_length' key info (by omega)];omega
theorem expO_front (key info:List (BitVec 8)):∀ (d k:Nat),(expO key info (k+d)).take (32*k)=expO key info k
 | 0,k=>by rw [Nat.add_zero,List.take_of_length_le (by rw [expO_length];omega)]
 | d+1,k=>by
  rw [← Nat.add_assoc,expO,List.take_append_of_le_length (by rw [expO_length];omega),expO_front key info d k]
def expS (key info:List (BitVec 8)) (n:Nat):List (BitVec 8):=(expO key info ((n+31) / 32)).take n
theorem expS_at (key info:List (BitVec 8)) {n k:Nat} (h:n≤32*k):(expO key info k).take n=expS key info n:=by
 obtain ⟨d,rfl⟩:∃ d,k=(n+31) / 32+d:=⟨k - (n+31) / 32,by omega⟩
 unfold expS
 rw [← expO_front key info d ((n+31) / 32),List.take_take,Nat.min_eq_left (by omega)]
theorem slice_hm {A:Option Addr} {n c k:Nat} (h2:k≤c) (w:World):(Instr.sliceAt 29 (.slice A n c) none (some (.int .i64 k)) (some (.int .i64 k))).run Tryz.prog w= .ok (.slice A k k) w:=by
 rw [run_sliceAt_slice _ _ _ _ _ _ elem_B,run_slice_hm _ _ _ _ _ elem_B _ _ _ _ (by omega) (by omega) (by omega),size_B]
 show Result.ok (Value.slice (if (k:Int).toNat=0 then A else A.map (·.add (0*1))) ((k:Int).toNat - 0) ((k:Int).toNat - 0)) w=_
 have:=cutA_zero A ((k:Int).toNat)
 unfold cutA at this
 rw [this]
 rfl
theorem OwnB.cap {w:World} {base:Nat} {v:Value} {l:List (BitVec 8)} (h:OwnB w base v l):∃ a c,v= .slice a l.length c∧l.length≤c:=by
 rcases h.2 with ⟨rfl,h0⟩ | ⟨g,cap,cur,rfl,_,_,hn,_,_,_⟩
 ·exact ⟨none,0,by rw [h0],by omega⟩
 ·exact ⟨_,cap,rfl,hn⟩
theorem BRow.recap {w:World} {a:Option Addr} {n c c':Nat} {l:List (BitVec 8)} (h:BRow w (.slice a n c) l) (hc:a=none→c'=0):BRow w (.slice a n c') l:=by
 obtain ⟨a',c0,e,_,hp⟩:=h
 simp only [Value.slice.injEq] at e
 obtain ⟨rfl,rfl,_⟩:=e
 exact ⟨a,c',rfl,hc,hp⟩
set_option maxRecDepth 100000 in
set_option maxHeartbeats 2000000 in
theorem expand_any (f:Nat→BitVec 8) (v:Value) (info:List (BitVec 8)) (n:Nat) (w:World) (hv:BRow w v info) (hi:info.length≤1000000) (hn:n≤8160) :
 Calls Tryz.prog 268 #[.agg (rowB 32 f),v,.int .i64 (n:Int)] w fun e w'=>(∃ a,e= .returned (.tuple #[.slice a n n,.int .i64 0])∧BRow w' (.slice a n n) (expS ((List.range 32).map f) info n))∧Below w.heap.size w w':=by
 have hn0:(0:Int)≤(n:Int):=by omega
 have hn1:(n:Int)≤8160:=by omega
 have HV:=Lib.hid hv
 have HI:=Lib.hid hi
 obtain ⟨ai,ci,rfl⟩:=hv.shape
 obtain ⟨key,hkey⟩:∃ key,key=(List.range 32).map f:=⟨_,rfl⟩
 have HKEY:=Lib.hid hkey
 have HKL:=Lib.hid (show key.length≤1000000000 by rw [hkey];simp)
 rw [← hkey]
 clear hv hi hkey
 go_enter Tryz.func268,Tryz.ntmps268
 go_wp2
 have HB:=Lib.hid (show Below w.heap.size w (w.alloc (.cells (rowB 32 f) 24)) from below_allocS (Below.refl _ _) _)
 have HG:=Lib.hid (show (w.alloc (.cells (rowB 32 f) 24)).heap[w.heap.size]?=some (.cells (rowB 32 f) 24 (0,0)) from heap_alloc_new _ _)
 have HL:=Lib.hid (show BRow (w.alloc (.cells (rowB 32 f) 24)) (.slice none 0 0) (expT key info 0) from ⟨none,0,rfl,fun _=>rfl,fun h=>absurd h (by simp [expT])⟩)
 have HO:=Lib.hid (show OwnB (w.alloc (.cells (rowB 32 f) 24)) (w.heap.size+1) (.slice none 0 0) (expO key info 0) from World.ownsRow_nil _ _ _ _)
 generalize w.alloc (.cells (rowB 32 f) 24)=W at *
 go_loopw [8,9,10] (fun o t i wr=>∃ k:Nat,32*k<n+32∧i= .int .i64 ((k:Int)+1)∧OwnB wr (w.heap.size+1) o (expO key info k)∧BRow wr t (expT key info k)∧wr.heap[w.heap.size]?=some (.cells (rowB 32 f) 24 (0,0))∧Below w.heap.size w wr) (fun _ _ i _=>300 - (intOf i).toNat)
 case atStart=>exact ⟨0,by omega,rfl,HO.out,HL.out,HG.out,HB.out⟩
 case round =>
  clear HB HG HL HO
  obtain ⟨k,hk,rfl,ho,ht,hg,hb⟩:=hrel
  have HO:=Lib.hid ho
  have HT:=Lib.hid ht
  have HG:=Lib.hid hg
  have HB:=Lib.hid hb
  obtain ⟨ao,co,eo,hco⟩:=ho.cap
  rw [expO_length] at eo hco
  subst eo
  obtain ⟨at_,ct,et⟩:=ht.shape
  subst et
  clear ho ht hg hb
  by_cases hlt:32*k<n
  ·have hk0:(0:Int)≤(k:Int):=by omega
   have hk1:(k:Int)<255:=by omega
   have hlt1:((32*k:Nat):Int)<(n:Int):=by omega
   have e8:((k:Int)+1)=B8 (BitVec.ofNat 8 (k+1)):=by unfold B8;rw [BitVec.toNat_ofNat];omega
   have HBR:=Lib.hid (show BRows ((wr.alloc (.cells #[.int .u8 ((k:Int)+1)] 5)).alloc (.cells #[.slice at_ (expT key info k).length ct,.slice ai info.length ci,.slice (some ⟨wr.heap.size,0,none⟩) 1 1] 29)) (.slice (some ⟨wr.heap.size+1,0,none⟩) 3 3) [expT key info k,info,[BitVec.ofNat 8 (k+1)]] from by
    rw [e8]
    have hb1:Below wr.heap.size wr (wr.alloc (.cells #[.int .u8 (B8 (BitVec.ofNat 8 (k+1)))] 5)):=below_allocS (Below.refl _ _) _
    have:=brows_three (c:=3) (heap_alloc_new (wr.alloc (.cells #[.int .u8 (B8 (BitVec.ofNat 8 (k+1)))] 5)) (.cells #[.slice at_ (expT key info k).length ct,.slice ai info.length ci,.slice (some ⟨wr.heap.size,0,none⟩) 1 1] 29)) (HT.out.below (below_allocS hb1 _)) ((HV.out.below HB.out).below (below_allocS hb1 _)) ((brow_mk (c:=1) [BitVec.ofNat 8 (k+1)] (heap_alloc_new wr _)).below (below_allocS (Below.refl _ _) _))
    simpa using this)
   have HKR:=Lib.hid (show BRow ((wr.alloc (.cells #[.int .u8 ((k:Int)+1)] 5)).alloc (.cells #[.slice at_ (expT key info k).length ct,.slice ai info.length ci,.slice (some ⟨wr.heap.size,0,none⟩) 1 1] 29)) (.slice (some ⟨w.heap.size,0,none⟩) 32 32) key from by
    rw [HKEY.out]
    exact (brow_num HG.out).below (below_allocS (below_allocS (Below.refl _ _) _) _))
   have HFL:=Lib.hid (show macS key ([expT key info k,info,[BitVec.ofNat 8 (k+1)]]:List (List (BitVec 8))).flatten=macS key (expT key info k ++ info ++ [BitVec.ofNat 8 (k+1)]) by simp)
   have HET:=Lib.hid (show expT key info (k+1)=(List.range 32).map (macS key (expT key info k ++ info ++ [BitVec.ofNat 8 (k+1)])) from rfl)
   have HEO:=Lib.hid (show expO key info (k+1)=expO key info k ++ expT key info (k+1) from rfl)
   have hlen:([expT key info k,info,[BitVec.ofNat 8 (k+1)]]:List (List (BitVec 8))).flatten.length≤999999000:=by
    have:=expT_length key info k
    have:=HI.out
    simp;omega
   have HLEN:=Lib.hid hlen
   clear e8 hlen
   go_wp2_with fail
   refine (mac_any _ _ key _ _ HKR.out HBR.out HKL.out (by simp) HLEN.out).mono ?_
   rintro e w2 ⟨rfl,hb2⟩
   rw [HFL.out]
   obtain ⟨h,hh⟩:∃ h,h=macS key (expT key info k ++ info ++ [BitVec.ofNat 8 (k+1)]):=⟨_,rfl⟩
   rw [← hh] at HET ⊢
   have HB2:=Lib.hid (show Below wr.heap.size wr w2 from below_keep (below_allocS (below_allocS (Below.refl wr.heap.size wr) _) _) hb2)
   have HZ:=Lib.hid (show (Tryz.prog.info? 24).map (·.size)=some (rowB 32 h).size by rw [size32,rowB_size])
   clear hb2 hh HBR HKR HFL HLEN
   go_wp2_with (first
    | (with_reducible refine wpList_alloc_row rfl 24 rfl 32 _ info32 ?_)
    | ((with_reducible show wpList _ _ _ (⟨_,.store 24 _ _,_,_,_,_⟩ :: _) _ _);refine wpList_store_rowTo rfl 24 (.tmp 11) _ rfl rfl w2.heap.size (rowB 32 h) rfl rfl 24 _ (heap_alloc_new _ _) HZ.out (by rw [row_size,rowB_size]) (rowB_oneCell _ _) ?_;obtain ⟨g,eg⟩:∃ g,g=w2.heap.size:=⟨_,rfl⟩;have HB3:=Lib.hid (show Below wr.heap.size wr ((w2.alloc (.cells (row 32 fun _=> .int .u8 0) 24)).setRow w2.heap.size (rowB 32 h)) from below_setRow (below_allocS HB2.out _) HB2.out.size _);have HGG:=Lib.hid (show ((w2.alloc (.cells (row 32 fun _=> .int .u8 0) 24)).setRow w2.heap.size (rowB 32 h)).heap[g]?=some (.cells (rowB 32 h) 24 (0,0)) from by rw [eg];exact heap_setRow_at (heap_alloc_new _ _));have HGL:=Lib.hid (show wr.heap.size≤g from by rw [eg];exact HB2.out.size);have HT3:=Lib.hid (show BRow ((w2.alloc (.cells (row 32 fun _=> .int .u8 0) 24)).setRow w2.heap.size (rowB 32 h)) (.slice (some ⟨g,0,none⟩) 32 32) (expT key info (k+1)) from by rw [eg,HET.out];exact brow_num (heap_setRow_at (heap_alloc_new _ _)));generalize (w2.alloc (.cells (row 32 fun _=> .int .u8 0) 24)).setRow w2.heap.size (rowB 32 h)=w3 at *; rw [← eg];clear eg;have HO3:=Lib.hid (World.ownsRow.kept HO.out (grown_of_below (r:=none) HB3.out) (by cases hv:(Value.slice ao (32*k) co).ownBlock with | none=>exact .inl rfl | some b=>exact .inr nofun)))
    | (at_builtin;refine wpList_append_B rfl (.tmp 33) (.tmp 34) rfl (w.heap.size+1) _ (expO key info k) (expT key info (k+1)) rfl HO3.out HT3.out (by rw [expO_length,expT_length' _ _ (by omega)];omega) (by have:=HB.out.size;have:=HB3.out.size;have:=(Array.getElem?_eq_some_iff.1 HG.out).1;omega) ?_;intro v4 w4 hown4 hg4;rw [← HEO.out] at hown4;have HO4:=Lib.hid hown4;have HG4:=Lib.hid hg4;clear hown4 hg4))
   have hne:∀ b,(Value.slice ao (32*k) co).ownBlock=some b→w.heap.size+1≤b:=fun b hb=>(World.ownsRow.lt HO3.out b hb).1
   have hb4:Below w.heap.size w w4:=(below_keep HB.out HB3.out).grown HG4.out (below_keep HB.out HB3.out).size (fun b hb=>by have:=hne b hb;omega)
   have hgk:w4.heap[w.heap.size]?=some (.cells (rowB 32 f) 24 (0,0)):=(HG4.out.block _ (by have:=(Array.getElem?_eq_some_iff.1 HG.out).1;have:=HB3.out.size;omega) (by intro e;have:=hne _ e.symm;omega)).trans ((HB3.out.block _ (Array.getElem?_eq_some_iff.1 HG.out).1).trans HG.out)
   have hlast:BRow w4 (.slice (some ⟨g,0,none⟩) 32 32) (expT key info (k+1)):=by
    rw [HET.out]
    refine brow_num ((HG4.out.block _ (Array.getElem?_eq_some_iff.1 HGG.out).1 ?_).trans HGG.out)
    intro e
    have:=(World.ownsRow.lt HO.out _ e.symm).2
    have:=HGL.out
    omega
   have HLAST:=Lib.hid hlast
   clear hlast hne
   go_roundw
   case rel=>exact ⟨k+1,by omega,by go_num,HO4.out,HLAST.out,hgk,hb4⟩
   case measure=>simp [intOf];omega
  ·have hlt1:¬ ((32*k:Nat):Int)<(n:Int):=by omega
   have hsl:=slice_hm (A:=ao) (n:=32*k) (c:=co) (k:=n) (by omega)
   have HRES:=Lib.hid (show BRow wr (.slice ao n n) (expS key info n) from by
    rw [← expS_at key info (n:=n) (k:=k) (by omega)]
    have h1:=HO.out.brow.cutHi (k:=n) (by rw [expO_length];omega) (by rw [expO_length];exact hco)
    exact h1.recap (fun hn=>by
     have:=HO.out.brow
     obtain ⟨a',c',e,hnil,_⟩:=this
     simp only [Value.slice.injEq] at e
     obtain ⟨rfl,_,rfl⟩:=e
     have:=hnil hn
     omega))
   go_wp2
   go_ret2
   exact ⟨⟨_,rfl,HRES.out⟩,HB.out⟩
end Go.Proofs.YtoifhhljfaoejaaGreatDoor
namespace Go.Proofs.YtoifhhljfaoejaaGreatDoor
open Go.RowKit
set_option linter.unusedVariables false
set_option linter.unusedSimpArgs false
theorem conv_B (l:List (BitVec 8)) (w:World):∃ c w',(convert 9 29 (.string (strB l))).run Tryz.prog w= .ok (.slice (some ⟨w.heap.size,0,none⟩) l.length c) w'∧BRow w' (.slice (some ⟨w.heap.size,0,none⟩) l.length c) l∧w.grownBy w' none:=by
 have h:=run_bytes_of_string (P:=Tryz.prog) w 9 29 5 (strB l) Tryz.underlying9 Tryz.underlying29 Tryz.underlying5
 have hsz:(strB l).size=l.length:=by simp [strB,ByteArray.size]
 rw [hsz] at h
 refine ⟨_,_,h,?_,grown_alloc (grown_drew (grown_refl _ _)) _⟩
 refine ⟨_,_,rfl,nofun,fun h0=>⟨w.heap.size,0,rfl,by show _<(w.heap.push _).size;rw [Array.size_push];omega,fun i hi=>?_⟩⟩
 have hg:=heap_alloc_new w.drew (.cells (bytesRow (strB l) (grownCap w l.length 0 5)) 5 ((bytesRow (strB l) (grownCap w l.length 0 5)).size,(bytesRow (strB l) (grownCap w l.length 0 5)).size+1))
 have hj:i<(strB l).data.size:=by simpa [strB] using hi
 have hc:=bytesRow_at (strB l) (grownCap w l.length 0 5) i hj
 have hv:(((strB l).data[i]).toNat:Int)=B8 l[i]:=by
  have hx:=l[i].isLt
  simp only [strB,List.getElem_toArray,List.getElem_map]
  unfold B8
  rw [UInt8.toNat_ofNat_of_lt' (by simpa [UInt8.size] using hx)]
 rw [hv] at hc
 rw [Nat.zero_add]
 have hg':(w.drew.alloc (.cells (bytesRow (strB l) (grownCap w l.length 0 5)) 5 ((bytesRow (strB l) (grownCap w l.length 0 5)).size,(bytesRow (strB l) (grownCap w l.length 0 5)).size+1))).heap[w.heap.size]?=some (.cells (bytesRow (strB l) (grownCap w l.length 0 5)) 5 ((bytesRow (strB l) (grownCap w l.length 0 5)).size,(bytesRow (strB l) (grownCap w l.length 0 5)).size+1)):=hg
 simp only [World.cell?,hg',hc]
 first | rfl | simp [hc]
theorem expS_32 (f:Nat→BitVec 8) (info:List (BitVec 8)):expS ((List.range 32).map f) info 32=(List.range 32).map (macS ((List.range 32).map f) (info ++ [1])):=by
 have:expS ((List.range 32).map f) info 32=((expO ((List.range 32).map f) info 1).take 32):=rfl
 rw [this,List.take_of_length_le (by rw [expO_length];decide)]
 show [] ++ expT _ _ 1=_
 rw [List.nil_append]
 show (List.range 32).map (macS _ ([] ++ info ++ [BitVec.ofNat 8 (0+1)]))=_
 rw [List.nil_append]
 rfl
theorem run_arrayAt (b off c:Nat) (w:World):(Instr.arrayAt 24 (.slice (some ⟨b,off,none⟩) 32 c)).run Tryz.prog w= .ok (.pointer (some ⟨b,off,none⟩)) w:=by
 unfold Instr.arrayAt
 simp [Sem.run_bind,run_underlying Tryz.underlying24]
theorem loadRow {w:World} {b off n c:Nat} {f:Nat→BitVec 8} (h:BRow w (.slice (some ⟨b,off,none⟩) n c) ((List.range 32).map f)):(Instr.loadAt 24 (.pointer (some ⟨b,off,none⟩))).run Tryz.prog w= .ok (.agg (rowB 32 f)) w:=by
 obtain ⟨a,c',e,_,hp⟩:=h
 simp only [Value.slice.injEq] at e
 obtain ⟨rfl,_,_⟩:=e
 obtain ⟨b',off',e,_,hc⟩:=hp (by simp)
 simp only [Option.some.injEq,Addr.mk.injEq] at e
 obtain ⟨rfl,rfl,_⟩:=e
 have h1:=run_loadAt_mid (P:=Tryz.prog) w b off 24 (rowB 32 f).toList _ (fun j v hv=>by
  rw [rowB_toList] at hv
  have hj:j<32:=by
   rcases Nat.lt_or_ge j 32 with h | h
   ·exact h
   ·rw [List.getElem?_eq_none (by simpa using h)] at hv;cases hv
  rw [hc j (by simpa using hj)]
  simpa [hj] using hv) Tryz.underlying24 rfl (by rw [size32];simp [rowB_size])
 rw [h1,Array.toArray_toList]
theorem BRow.some {w:World} {a:Option Addr} {n c:Nat} {l:List (BitVec 8)} (h:BRow w (.slice a n c) l) (h0:0<l.length):∃ b off,a=some ⟨b,off,none⟩:=by
 obtain ⟨a',c',e,_,hp⟩:=h
 simp only [Value.slice.injEq] at e
 obtain ⟨rfl,_,_⟩:=e
 obtain ⟨b,off,e,_⟩:=hp h0
 exact ⟨b,off,e⟩
theorem wpList_load_brow {ops:Array Oper} {rest:List Oper} {o:Oper} {a:Act} {w:World} {Q:Exit→Act→World→Prop} (hgd:o.guard=none) (x:Operand) (ho:o.op= .load 24 x)
 (b off n c:Nat) (f:Nat→BitVec 8) (hx:a.eval x= .pointer (some ⟨b,off,none⟩)) (hb:BRow w (.slice (some ⟨b,off,none⟩) n c) ((List.range 32).map f))
 (h:wpList Tryz.prog ops Q rest (a.put o.dst (.agg (rowB 32 f))) w):wpList Tryz.prog ops Q (o :: rest) a w:=by
 refine wpList_plain hgd fun K hK=>?_
 unfold Oper.wp
 have hl:=loadRow hb
 simp [execOp,ho,hx,hl,Result.andThen]
 exact hK _ _ h
def keyF (f:Nat→BitVec 8) (name:List (BitVec 8)):Nat→BitVec 8:=macS ((List.range 32).map f) (name ++ [1])
set_option maxRecDepth 100000 in
set_option maxHeartbeats 1000000 in
theorem key_any (f:Nat→BitVec 8) (name:List (BitVec 8)) (w:World) (hn:name.length≤1000) :
 Calls Tryz.prog 241 #[.agg (rowB 32 f),.string (strB name)] w fun e w'=>e= .returned (.agg (rowB 32 (keyF f name)))∧Below w.heap.size w w':=by
 have HN:=Lib.hid hn
 clear hn
 have HB2:=Lib.hid (show Below w.heap.size w ((w.alloc (.cells (rowB 32 f) 24)).alloc (.cells (row 32 fun _=> .int .u8 0) 24)) from below_allocS (below_allocS (Below.refl _ _) _) _)
 have HF2:=Lib.hid (show ((w.alloc (.cells (rowB 32 f) 24)).alloc (.cells (row 32 fun _=> .int .u8 0) 24)).heap[w.heap.size]?=some (.cells (rowB 32 f) 24 (0,0)) from heap_alloc2_old _ _ _)
 have HR2:=Lib.hid (show ((w.alloc (.cells (rowB 32 f) 24)).alloc (.cells (row 32 fun _=> .int .u8 0) 24)).heap[w.heap.size+1]?=some (.cells (row 32 fun _=> .int .u8 0) 24 (0,0)) from heap_alloc2_new _ _ _)
 obtain ⟨c,w3,hconv,hrow,hgr⟩:=conv_B name ((w.alloc (.cells (rowB 32 f) 24)).alloc (.cells (row 32 fun _=> .int .u8 0) 24))
 obtain ⟨gn,egn⟩:∃ gn,gn=((w.alloc (.cells (rowB 32 f) 24)).alloc (.cells (row 32 fun _=> .int .u8 0) 24)).heap.size:=⟨_,rfl⟩
 rw [← egn] at hconv hrow
 have HROW:=Lib.hid hrow
 have HGR:=Lib.hid hgr
 have HSZ:=Lib.hid (show (Tryz.prog.info? 24).map (·.size)=some (rowB 32 f).size by rw [size32,rowB_size])
 have HEX:=Lib.hid (expS_32 f name)
 obtain ⟨k,hk⟩:∃ k,k=keyF f name:=⟨_,rfl⟩
 rw [show macS ((List.range 32).map f) (name ++ [1])=k from hk.symm] at HEX
 rw [← hk]
 clear hrow hgr egn hk
 go_enter Tryz.func241,Tryz.ntmps241
 go_wp2_with (first
  | (with_reducible refine wpList_alloc_row rfl 24 rfl 32 _ info32 ?_;generalize (w.alloc (.cells (rowB 32 f) 24)).alloc (.cells (row 32 fun _=> .int .u8 0) 24)=w2 at *)
  | ((with_reducible show wpList _ _ _ (⟨_,.load 24 _,_,_,_,_⟩ :: _) _ _);refine wpList_load_row rfl 24 _ rfl w.heap.size rfl 24 (rowB 32 f) (0,0) _ HF2.out Tryz.underlying24 rfl HSZ.out ?_))
 refine (expand_any f _ name 32 w3 HROW.out (by have:=HN.out;omega) (by decide)).mono ?_
 rintro e w4 ⟨⟨a4,rfl,hr4⟩,hb4⟩
 rw [HEX.out] at hr4
 obtain ⟨b4,off4,rfl⟩:=hr4.some (by simp)
 have harr:=run_arrayAt b4 off4 32 w4
 have HR5:=Lib.hid hr4
 have HB4:=Lib.hid (show Below w.heap.size w w4 from below_keep (HB2.out.grown HGR.out HB2.out.size (fun k hk=>by cases hk)) hb4)
 have HR4:=Lib.hid ((hb4.block _ (by have:=HGR.out.size;have:=(Array.getElem?_eq_some_iff.1 HR2.out).1;omega)).trans ((HGR.out.block _ (Array.getElem?_eq_some_iff.1 HR2.out).1 nofun).trans HR2.out))
 have HZ4:=Lib.hid (show (Tryz.prog.info? 24).map (·.size)=some (rowB 32 k).size by rw [size32,rowB_size])
 clear hb4 hr4
 go_wp2_with (first
  | ((with_reducible show wpList _ _ _ (⟨_,.load 24 _,_,_,_,_⟩ :: _) _ _);refine wpList_load_brow rfl _ rfl b4 off4 32 32 k rfl HR5.out ?_)
  | ((with_reducible show wpList _ _ _ (⟨_,.store 24 _ _,_,_,_,_⟩ :: _) _ _);refine wpList_store_rowTo rfl 24 _ _ rfl rfl (w.heap.size+1) (rowB 32 k) rfl rfl 24 _ HR4.out HZ4.out (by rw [row_size,rowB_size]) (rowB_oneCell _ _) ?_))
 refine bodyPost_ret (results_cell_row rfl _ _ (w.heap.size+1) 24 (rowB 32 k) (0,0) _ rfl (heap_setRow_at HR4.out) Tryz.underlying24 rfl HZ4.out) rfl ?_
 exact ⟨rfl,below_setRow HB4.out (by omega) _⟩
theorem wp_conv_B {o:Oper} {a:Act} {w:World} {K:Act→World→Prop} {Q:Exit→Act→World→Prop} (x:Operand) (ho:o.op= .convert 9 29 x)
 (l:List (BitVec 8)) (hx:a.eval x= .string (strB l))
 (h:∀ g c w',g=w.heap.size→BRow w' (.slice (some ⟨g,0,none⟩) l.length c) l→w.grownBy w' none→K (a.put o.dst (.slice (some ⟨g,0,none⟩) l.length c)) w'):o.wp Tryz.prog a w K Q:=by
 obtain ⟨c,w',hrun,hr,hg⟩:=conv_B l w
 unfold Oper.wp execOp
 simp only [ho,hx,Sem.run_bind,hrun,Result.andThen_ok,Sem.run_pure]
 exact h _ _ _ rfl hr hg
end Go.Proofs.YtoifhhljfaoejaaGreatDoor
