/-
  Lemmas of the law, part 23: the walks of the functions that it calls and the plain facts about them. No condition beyond those written.
-/
import Derived.Test.YtoifhhljfaoejaaGreatDoorPkAA
import Derived.Test.YtoifhhljfaoejaaGreatDoorPkAU
namespace Go.Proofs.YtoifhhljfaoejaaGreatDoor.R3
open Go Go.Proofs.YtoifhhljfaoejaaGreatDoor Go.RowKit
set_option linter.unusedVariables false
set_option linter.unusedSimpArgs false
def rowP4 (x y z t:El):Array Value:=row 64 fun i=> .int .i64 ((if i<16 then x else if i<32 then y else if i<48 then z else t).f (i % 16))
def rowPe (p:Pe):Array Value:=rowP4 p.x p.y p.z p.t
instance iPeW1 (x y z t:El):Row1 (rowP4 x y z t) 64:=⟨row_size _ _,by simp [rowP4,row,Value.oneCell']⟩
instance iPeW2 (p:Pe):Row1 (rowPe p) 64:=inferInstanceAs (Row1 (rowP4 _ _ _ _) 64)
instance iPeW3:RowTy 149 64:=⟨⟨_,Tryz.underlying149,rfl⟩,by kernel_rfl⟩
def nilI:Array Value:=rowI 64 fun _=>0
instance iPeW4:Row1 nilI 64:=inferInstanceAs (Row1 (rowI 64 _) 64)
instance iPeW5:RowZ 149 nilI:=⟨by kernel_rfl⟩
theorem part_pe0 (x y z t:El):Part (rowP4 x y z t) 149 0 147 (rowEl x):=part_row (by omega) fun i hi=>by
 have e:(0+i) % 16=i:=by omega
 rw [e]
 first
  | rw [if_pos (by omega)]
  | rw [if_neg (by omega),if_pos (by omega)]
  | rw [if_neg (by omega),if_neg (by omega),if_pos (by omega)]
  | rw [if_neg (by omega),if_neg (by omega),if_neg (by omega)]
instance iPeW7 (p:Pe):Part (rowPe p) 149 0 147 (rowEl p.x):=part_pe0 _ _ _ _
theorem part_pe16 (x y z t:El):Part (rowP4 x y z t) 149 16 147 (rowEl y):=part_row (by omega) fun i hi=>by
 have e:(16+i) % 16=i:=by omega
 rw [e]
 first
  | rw [if_pos (by omega)]
  | rw [if_neg (by omega),if_pos (by omega)]
  | rw [if_neg (by omega),if_neg (by omega),if_pos (by omega)]
  | rw [if_neg (by omega),if_neg (by omega),if_neg (by omega)]
instance iPeW9 (p:Pe):Part (rowPe p) 149 16 147 (rowEl p.y):=part_pe16 _ _ _ _
theorem part_pe32 (x y z t:El):Part (rowP4 x y z t) 149 32 147 (rowEl z):=part_row (by omega) fun i hi=>by
 have e:(32+i) % 16=i:=by omega
 rw [e]
 first
  | rw [if_pos (by omega)]
  | rw [if_neg (by omega),if_pos (by omega)]
  | rw [if_neg (by omega),if_neg (by omega),if_pos (by omega)]
  | rw [if_neg (by omega),if_neg (by omega),if_neg (by omega)]
instance iPeW11 (p:Pe):Part (rowPe p) 149 32 147 (rowEl p.z):=part_pe32 _ _ _ _
theorem part_pe48 (x y z t:El):Part (rowP4 x y z t) 149 48 147 (rowEl t):=part_row (by omega) fun i hi=>by
 have e:(48+i) % 16=i:=by omega
 rw [e]
 first
  | rw [if_pos (by omega)]
  | rw [if_neg (by omega),if_pos (by omega)]
  | rw [if_neg (by omega),if_neg (by omega),if_pos (by omega)]
  | rw [if_neg (by omega),if_neg (by omega),if_neg (by omega)]
instance iPeW13 (p:Pe):Part (rowPe p) 149 48 147 (rowEl p.t):=part_pe48 _ _ _ _
theorem build_pe (x y z t:El) (w:World):(Instr.build 149 #[(0,.agg (rowEl x)),(1,.agg (rowEl y)),(2,.agg (rowEl z)),(3,.agg (rowEl t))]).run Tryz.prog w= .ok (.agg (rowP4 x y z t)) w:=by kernel_rfl
set_option maxRecDepth 100000 in
set_option maxHeartbeats 2000000 in
theorem sum_any (p q:Pe) (w:World) [Glob w]:Calls Tryz.prog 125 #[.agg (rowPe p),.agg (rowPe q)] w fun e w'=>e= .returned (.agg (rowPe (p.add q)))∧Below w.heap.size w w':=by
 have hL:=Loc.nil w
 go_enter Tryz.func125,Tryz.ntmps125
 go_wp2_with (first | ((with_reducible refine gS 2 ?_);refine aBp ?_;clear hL;intro b2 w1 hL) | ((with_reducible refine gS 3 ?_);refine aBp ?_;clear hL;intro b3 w1 hL) | ((with_reducible refine gS 4 ?_);refine aBp ?_;clear hL;intro b4 w1 hL) | (refine aL4S2C9q ?_;clear hL;intro w1 hL) | (refine aX1A1q ?_;clear hL;intro b w1 hL))
 refine wp_region_free [(0,true),(1,false),(2,true),(3,false),(4,false),(5,true),(6,false),(7,true),(8,false),(9,false),(10,false)] [(11,_,147)] [12] (by kernel_rfl) (by kernel_rfl) ⟨⟨_,rfl,rfl,rfl⟩,inferInstance,trivial⟩ hL ?_
 refine pF ?_
 repeat refine rS ?_
 refine seqO_nil ?_
 refine seqM_cons fun b=>?_
 refine seqM_nil fun w1 hL1=>?_
 simp only [List.cons_append,List.nil_append] at hL1
 clear hL;have hL:=hL1;clear hL1
 refine p4 ?_
 refine pG ?_
 repeat (refine rW ?_;clear hL;intro w1 hL)
 refine wpList_nil (NoPanic.normal ?_)
 go_wp2_with (first | (refine aL4S2C9q ?_;clear hL;intro w1 hL) | (refine aX1A1q ?_;clear hL;intro b w1 hL))
 refine wp_region_free [(0,true),(1,false),(2,true),(3,false),(4,false),(5,true),(6,false),(7,true),(8,false),(9,false),(10,false)] [(11,_,147)] [12] (by kernel_rfl) (by kernel_rfl) ⟨⟨_,rfl,rfl,rfl⟩,inferInstance,trivial⟩ hL ?_
 refine pF ?_
 repeat refine rS ?_
 refine seqO_nil ?_
 refine seqM_cons fun b=>?_
 refine seqM_nil fun w1 hL1=>?_
 simp only [List.cons_append,List.nil_append] at hL1
 clear hL;have hL:=hL1;clear hL1
 refine p4 ?_
 refine pG ?_
 repeat (refine rW ?_;clear hL;intro w1 hL)
 refine wpList_nil (NoPanic.normal ?_)
 go_wp2_with (first | (refine aL4S2C9q ?_;clear hL;intro w1 hL) | (refine aX1A1q ?_;clear hL;intro b w1 hL))
 refine wp_region_free [(0,true),(1,false),(2,true),(3,false),(4,false),(5,false),(6,false),(7,false),(8,false)] [(9,_,147)] [10] (by kernel_rfl) (by kernel_rfl) ⟨⟨_,rfl,rfl,rfl⟩,inferInstance,trivial⟩ hL ?_
 refine pF ?_
 repeat refine rS ?_
 refine seqO_nil ?_
 refine seqM_cons fun b=>?_
 refine seqM_nil fun w1 hL1=>?_
 simp only [List.cons_append,List.nil_append] at hL1
 clear hL;have hL:=hL1;clear hL1
 refine p4 ?_
 refine pG ?_
 repeat (refine rW ?_;clear hL;intro w1 hL)
 refine wpList_nil (NoPanic.normal ?_)
 go_wp2_with (first | (refine aL4S2C9p ?_;clear hL;intro w1 hL) | (refine aX1A1p ?_;clear hL;intro b w1 hL))
 refine wp_region_free [(0,false),(1,false),(2,false),(3,false),(4,false),(5,false),(6,false),(7,false),(8,false),(9,false),(10,false),(11,false),(12,true)] [] [13] (by kernel_rfl) (by kernel_rfl) trivial hL ?_
 refine pF ?_
 repeat (first | ((with_reducible show seqO _ _ _ (_ :: _) _ _);refine sU rfl rfl (build_pe _ _ _ _) rfl ?_;refine p4 ?_) | refine rS ?_)
 refine seqO_nil ?_
 refine seqM_nil fun w1 hL1=>?_
 simp only [List.cons_append,List.nil_append] at hL1
 clear hL;have hL:=hL1;clear hL1
 refine p4 ?_
 refine pG ?_
 repeat (refine rW ?_;clear hL;intro w1 hL)
 refine wpList_nil (NoPanic.normal ?_)
 go_wp2_with fail
 exact bodyPost_ret (results_loc rfl hL rfl) rfl ⟨rfl,hL.bel⟩
instance iPeW14:Ent 125:=Ent.of Tryz.func125 (by kernel_rfl) rfl
instance iPeW15 (p q:Pe):FnG 125 #[.agg (rowPe p),.agg (rowPe q)] (.agg (rowPe (p.add q))):=⟨fun w _=>sum_any p q w⟩
end Go.Proofs.YtoifhhljfaoejaaGreatDoor.R3
namespace Go.Proofs.YtoifhhljfaoejaaGreatDoor.R3
open Go Go.Proofs.YtoifhhljfaoejaaGreatDoor Go.RowKit
set_option linter.unusedVariables false
set_option linter.unusedSimpArgs false
theorem build_elB (w:World):(Instr.build 147 #[]).run Tryz.prog w= .ok (.agg (rowEl El.zero)) w:=by kernel_rfl
set_option maxRecDepth 100000 in
set_option maxHeartbeats 1000000 in
theorem nought_any (w:World):Calls Tryz.prog 131 #[] w fun e w'=>e= .returned (.agg (rowPe Pe.O))∧Below w.heap.size w w':=by
 have hL:=Loc.nil w
 have HR:=Lib.hid (show rowPe Pe.O=rowP4 El.zero El.one El.one El.zero from rfl)
 rw [HR.out]
 go_enter Tryz.func131,Tryz.ntmps131
 go_wp2_with (first | ((with_reducible show wpList _ _ _ (⟨_,.build 147 _,_,_,_,_⟩ :: _) _ _);refine lU hL rfl rfl build_elB rfl fun w1 hL1=>?_;clear hL;have hL:=hL1;clear hL1) | ((with_reducible show wpList _ _ _ (⟨_,.build 149 _,_,_,_,_⟩ :: _) _ _);refine lU hL rfl rfl (build_pe _ _ _ _) rfl fun w1 hL1=>?_;clear hL;have hL:=hL1;clear hL1) | (refine aL4S2C9p ?_;clear hL;intro w1 hL) | (refine aX1A1p ?_;clear hL;intro b w1 hL))
 exact bodyPost_ret (results_loc rfl hL rfl) rfl ⟨rfl,hL.bel⟩
instance iPeX1:Ent 131:=Ent.of Tryz.func131 (by kernel_rfl) rfl
instance iPeX2:FnC 131 #[] (.agg (rowPe Pe.O)):=⟨nought_any⟩
set_option maxRecDepth 100000 in
set_option maxHeartbeats 1000000 in
theorem base_any (w:World) [Glob w]:Calls Tryz.prog 77 #[] w fun e w'=>e= .returned (.agg (rowPe Pe.B))∧Below w.heap.size w w':=by
 have hL:=Loc.nil w
 have HR:=Lib.hid (show rowPe Pe.B=rowP4 (El.of pB.x.val) (El.of pB.y.val) El.one ((El.of pB.x.val).mul (El.of pB.y.val)) from rfl)
 rw [HR.out]
 haveI g1:WasR w 1 (rowEl (El.of pB.x.val)):=inferInstance
 haveI g2:WasR w 2 (rowEl (El.of pB.y.val)):=inferInstance
 generalize El.of pB.x.val=bx at *
 generalize El.of pB.y.val=by_ at *
 clear HR
 go_enter Tryz.func77,Tryz.ntmps77
 go_wp2_with (first | (refine aL4S2C9p ?_;clear hL;intro w1 hL) | (refine aX1A1p ?_;clear hL;intro b w1 hL))
 refine wp_region_free [(0,false),(1,false),(2,false),(3,false),(4,false),(5,false),(6,true)] [] [7] (by kernel_rfl) (by kernel_rfl) trivial hL ?_
 refine pF ?_
 repeat (first | ((with_reducible show seqO _ _ _ (_ :: _) _ _);refine sU rfl rfl (build_pe _ _ _ _) rfl ?_;refine p4 ?_) | refine rS ?_)
 refine seqO_nil ?_
 refine seqM_nil fun w1 hL1=>?_
 simp only [List.cons_append,List.nil_append] at hL1
 clear hL;have hL:=hL1;clear hL1
 refine p4 ?_
 refine pG ?_
 repeat (refine rW ?_;clear hL;intro w1 hL)
 refine wpList_nil (NoPanic.normal ?_)
 go_wp2_with fail
 exact bodyPost_ret (results_loc rfl hL rfl) rfl ⟨rfl,hL.bel⟩
instance iPeX3:Ent 77:=Ent.of Tryz.func77 (by kernel_rfl) rfl
instance iPeX4:FnG 77 #[] (.agg (rowPe Pe.B)):=⟨fun w _=>base_any w⟩
set_option maxRecDepth 100000 in
set_option maxHeartbeats 1000000 in
theorem many_any (p:Pe) (e:Nat→BitVec 8) (w:World) [hG:Glob w]:Calls Tryz.prog 76 #[.agg (rowPe p),.agg (rowB 32 e)] w fun r w'=>r= .returned (.agg (rowPe (p.many (leN e))))∧Below w.heap.size w w':=by
 have hL:=Loc.nil w
 have HB:=Lib.hid (fun i=> @code_bit e i)
 generalize leN e=n at *
 obtain ⟨X,h0,hs,hf⟩:∃ X:Nat→Pe,X 0=Pe.O∧(∀ j,X (j+1)=if n / 2 ^ (255 - j) % 2=1 then ((X j).add (X j)).add p else (X j).add (X j))∧X 256=p.many n:=⟨fun k=>Pe.manyK p n k,rfl,fun j=>rfl,Pe.many_eq p n⟩
 rw [← hf]
 have zs:=Lib.hid hs
 haveI f0:FnC 131 #[] (.agg (rowPe (X 0))):=by rw [h0];infer_instance
 clear h0 hs hf
 go_enter Tryz.func76,Tryz.ntmps76
 go_wp2_with (first | ((with_reducible refine gS 2 ?_);refine aBp ?_;clear hL;intro b2 w1 hL) | ((with_reducible refine gS 3 ?_);refine aBp ?_;clear hL;intro b3 w1 hL) | ((with_reducible refine gS 4 ?_);refine aBp ?_;clear hL;intro b4 w1 hL) | ((with_reducible refine gS 5 ?_);refine aBp ?_;clear hL;intro b5 w1 hL) | (refine aL4S2C9p ?_;clear hL;intro w1 hL) | (refine aX1A1p ?_;clear hL;intro b w1 hL))
 go_loopw [6] (fun kk wr=>∃ j:Nat,j≤256∧kk= .int .i64 (255 - (j:Int))∧Loc w wr [(b5,rowPe (X j),149),(b4,nilI,149),(b3,rowB 32 e,24),(b2,rowPe p,149)]) (fun kk _=>(intOf kk+1).toNat)
 case atStart=>exact ⟨0,by omega,rfl,hL⟩
 case round =>
  clear hL
  obtain ⟨j,hj,rfl,hL⟩:=hrel
  by_cases hlt:j<256
  ·have HT:=Lib.hid (zs.out j)
   have hv:=HB.out (i:=255 - j) (by omega)
   obtain ⟨k,hk⟩:∃ k,k=255 - j:=⟨_,rfl⟩
   rw [← hk] at hv HT
   have ek:255 - (j:Int)=(k:Int):=by omega
   rw [ek]
   have hk1:k<256:=by omega
   haveI g1:Cell (rowB 32 e) (k / 8) (.int .u8 (B8 (e (k / 8)))):=row_cell _ (by omega)
   obtain ⟨b0,b1⟩:=B8_bd (e (k / 8))
   have k0:(0:Int)≤(k:Int):=by omega
   have HK:=Lib.hid hk
   have e1:(k:Int) / 8=((k / 8:Nat):Int):=by omega
   have e2:(k:Int) % 8=((k % 8:Nat):Int):=by omega
   have e3:(k:Int).tdiv 8=((k / 8:Nat):Int):=by rw [Int.tdiv_eq_ediv_of_nonneg (by omega)];omega
   have e4:(k:Int).tmod 8=((k % 8:Nat):Int):=by rw [Int.tmod_eq_emod_of_nonneg (by omega)];omega
   have q0:(0:Int)≤((k / 8:Nat):Int):=by omega
   have q1:((k / 8:Nat):Int)<32:=by omega
   have r0:(0:Int)≤((k % 8:Nat):Int):=by omega
   have r1:((k % 8:Nat):Int)<8:=by omega
   clear hk
   by_cases hbit:n / 2 ^ k % 2=1
   ·rw [hbit] at hv
    rw [if_pos hbit] at HT
    generalize X j=X0 at hL HT
    generalize k / 8=q at *
    generalize k % 8=r at *
    generalize B8 (e q)=u at *
    clear hbit
    go_wp2_with (first | (refine aL4S2C9p ?_;clear hL;intro w1 hL) | (refine aX1A1p ?_;clear hL;intro b w1 hL))
    go_roundw
    case rel=>exact ⟨j+1,by omega,by rw [show (k:Int) - 1=255 - ((j+1:Nat):Int) from by have:=HK.out;omega],by rw [HT.out];exact hL⟩
    case measure=>simp [intOf]
   ·rw [show n / 2 ^ k % 2=0 from by omega] at hv
    rw [if_neg hbit] at HT
    generalize X j=X0 at hL HT
    generalize k / 8=q at *
    generalize k % 8=r at *
    generalize B8 (e q)=u at *
    clear hbit
    go_wp2_with (first | (refine aL4S2C9p ?_;clear hL;intro w1 hL) | (refine aX1A1p ?_;clear hL;intro b w1 hL))
    go_roundw
    case rel=>exact ⟨j+1,by omega,by rw [show (k:Int) - 1=255 - ((j+1:Nat):Int) from by have:=HK.out;omega],by rw [HT.out];exact hL⟩
    case measure=>simp [intOf]
  ·obtain rfl:j=256:=by omega
   have k1:(255:Int) - ((256:Nat):Int)= -1:=by omega
   rw [k1]
   clear k1
   go_wp2_with (first | (refine aL4S2C9p ?_;clear hL;intro w1 hL) | (refine aX1A1p ?_;clear hL;intro b w1 hL))
   exact bodyPost_ret (results_loc rfl hL rfl) rfl ⟨rfl,hL.bel⟩
instance iPeX5:Ent 76:=Ent.of Tryz.func76 (by kernel_rfl) rfl
instance iPeX6 (p:Pe) (e:Nat→BitVec 8):FnG 76 #[.agg (rowPe p),.agg (rowB 32 e)] (.agg (rowPe (p.many (leN e)))):=⟨fun w _=>many_any p e w⟩
theorem low_bit (n:Nat):bits .and .u8 (B8 (byteN n 0)) 1=((n % 2:Nat):Int):=by
 unfold B8 byteN
 rw [BitVec.toNat_ofNat,Nat.mul_zero,Nat.pow_zero,Nat.div_one,show (2:Nat) ^ 8=256 from rfl,u8_and_one _ (Nat.mod_lt _ (by omega))]
 omega
set_option maxRecDepth 100000 in
set_option maxHeartbeats 1000000 in
theorem written_any (p:Pe) (w:World):Calls Tryz.prog 75 #[.agg (rowPe p)] w fun r w'=>r= .returned (.agg (rowB 32 (byteN (exbytes p.ex))))∧Below w.heap.size w w':=by
 have hL:=Loc.nil w
 obtain ⟨Y,hY⟩:∃ Y,Y=(p.y.mul p.z.inv).v.val:=⟨_,rfl⟩
 obtain ⟨X,hX⟩:∃ X,X=(p.x.mul p.z.inv).v.val:=⟨_,rfl⟩
 haveI f1:FnC 129 #[.agg (rowEl (p.y.mul p.z.inv))] (.agg (rowB 32 (byteN Y))):=by rw [hY];infer_instance
 haveI f2:FnC 129 #[.agg (rowEl (p.x.mul p.z.inv))] (.agg (rowB 32 (byteN X))):=by rw [hX];infer_instance
 have hm:Y<2 ^ 255:=by rw [hY];exact Nat.lt_trans (Fin.isLt _) P_255
 have ho:=byte_or hm (X % 2) (Nat.mod_lt _ (by omega))
 have hb:=low_bit X
 haveI g1:Cell (rowB 32 (byteN Y)) 31 (.int .u8 (B8 (byteN Y 31))):=row_cell _ (by omega)
 haveI g2:Cell (rowB 32 (byteN X)) 0 (.int .u8 (B8 (byteN X 0))):=row_cell _ (by omega)
 have gr:=byte_row (m:=Y) (X % 2)
 have he:exbytes p.ex=Y+2 ^ 255*(X % 2):=by
  rw [hY,hX,El.mul_v,El.mul_v,El.inv_v];rfl
 rw [he]
 clear he hY hX
 by_cases hc:X % 2=1
 ·rw [hc] at hb ho gr ⊢
  rw [← ho,show ((128*1:Nat):Int)=128 from rfl] at gr
  haveI gp:Put (rowB 32 (byteN Y)) 31 (.int .u8 (bits .or .u8 (B8 (byteN Y 31)) 128)) (rowB 32 (byteN (Y+2 ^ 255*1))):=row_put (by omega) gr
  clear hc ho hm gr
  generalize byteN (Y+2 ^ 255*1)=out at *
  generalize byteN Y=s at *
  generalize byteN X=u at *
  go_enter Tryz.func75,Tryz.ntmps75
  go_wp2_with (first | (refine aL4S2C9p ?_;clear hL;intro w1 hL) | (refine aX1A1p ?_;clear hL;intro b w1 hL))
  exact bodyPost_ret (results_loc rfl hL rfl) rfl ⟨rfl,hL.bel⟩
 ·rw [show X % 2=0 from by omega] at hb ho gr ⊢
  rw [← ho,show ((128*0:Nat):Int)=0 from rfl] at gr
  haveI gp:Put (rowB 32 (byteN Y)) 31 (.int .u8 (bits .or .u8 (B8 (byteN Y 31)) 0)) (rowB 32 (byteN (Y+2 ^ 255*0))):=row_put (by omega) gr
  clear hc ho hm gr
  generalize byteN (Y+2 ^ 255*0)=out at *
  generalize byteN Y=s at *
  generalize byteN X=u at *
  go_enter Tryz.func75,Tryz.ntmps75
  go_wp2_with (first | (refine aL4S2C9p ?_;clear hL;intro w1 hL) | (refine aX1A1p ?_;clear hL;intro b w1 hL))
  exact bodyPost_ret (results_loc rfl hL rfl) rfl ⟨rfl,hL.bel⟩
instance iPeX7:Ent 75:=Ent.of Tryz.func75 (by kernel_rfl) rfl
instance iPeX8 (p:Pe):FnC 75 #[.agg (rowPe p)] (.agg (rowB 32 (byteN (exbytes p.ex)))):=⟨written_any p⟩
end Go.Proofs.YtoifhhljfaoejaaGreatDoor.R3
namespace Go.Proofs.YtoifhhljfaoejaaGreatDoor.R3
open Go Go.Proofs.YtoifhhljfaoejaaGreatDoor Go.RowKit
def valB (f:Nat→Int):Nat→Int
 | 0=>0
 | k+1=>valB f k+f k*2 ^ (8*k)
theorem pow8 (i k:Nat):(2:Int) ^ (8*(i+k))=2 ^ (8*i)*2 ^ (8*k):=by rw [Nat.mul_add,Int.pow_add]
theorem pow8s (k:Nat):(2:Int) ^ (8*(k+1))=2 ^ (8*k)*256:=by rw [pow8];rfl
def dgB (n i:Nat):Nat:=n / 2 ^ (8*i) % 256
theorem dgB_lt (n i:Nat):dgB n i<256:=Nat.mod_lt _ (by omega)
theorem dgB_val (n:Nat):∀ k,valB (fun i=>(dgB n i:Int)) k=((n % 2 ^ (8*k):Nat):Int)
 | 0=>by simp [valB,Nat.mod_one]
 | k+1=>by
  unfold valB
  have hE:((2 ^ (8*k):Nat):Int)=(2:Int) ^ (8*k):=by norm_cast
  have hd:dgB n k=n / 2 ^ (8*k) % 2 ^ 8:=rfl
  rw [dgB_val n k,Nat.mul_succ,Nat.pow_add,Nat.mod_mul,Int.natCast_add,Int.natCast_mul,hE,← hd,Int.mul_comm]
def NrmB (f:Nat→Int):Prop:=∀ i,0≤f i∧f i≤255
theorem nrmB_val {f:Nat→Int} (h:NrmB f):∀ k:Nat,0≤valB f k∧valB f k<2 ^ (8*k)
 | 0=>by simp [valB]
 | k+1=>by
  have ih:=nrmB_val h k
  have hf:=h k
  unfold valB
  rw [pow8s]
  generalize (2:Int) ^ (8*k)=E at *
  have h1:0≤f k*E:=Int.mul_nonneg hf.1 (by omega)
  have h2:f k*E≤255*E:=Int.mul_le_mul_of_nonneg_right hf.2 (by omega)
  omega
theorem nrmB_dg {f:Nat→Int} (h:NrmB f):∀ k:Nat,∀ i,i<k→f i=(dgB (valB f k).toNat i:Int)
 | 0,i,hi=>absurd hi (by omega)
 | k+1,i,hi=>by
  have hv:=nrmB_val h k
  have hf:=h k
  have e:(valB f (k+1)).toNat=(valB f k).toNat+2 ^ (8*k)*(f k).toNat:=by
   have:((2 ^ (8*k):Nat):Int)=(2:Int) ^ (8*k):=by norm_cast
   refine Int.ofNat_inj.1 ?_
   have h1:0≤f k*(2:Int) ^ (8*k):=Int.mul_nonneg hf.1 (by omega)
   have hvk:valB f (k+1)=valB f k+f k*2 ^ (8*k):=rfl
   rw [hvk,Int.toNat_of_nonneg (show 0≤valB f k+f k*2 ^ (8*k) by omega),Int.natCast_add,Int.natCast_mul,this,Int.toNat_of_nonneg hv.1,Int.toNat_of_nonneg hf.1]
   show valB f k+f k*2 ^ (8*k)=_
   grind
  have hlt:(valB f k).toNat<2 ^ (8*k):=by
   have:((2 ^ (8*k):Nat):Int)=(2:Int) ^ (8*k):=by norm_cast
   omega
  unfold dgB
  rw [e]
  rcases Nat.lt_or_ge i k with h1 | h1
  ·rw [nrmB_dg h k i h1]
   unfold dgB
   obtain ⟨d,hd⟩:∃ d,k=i+1+d:=⟨k - (i+1),by omega⟩
   rw [show 8*k=8*i+(8+8*d) from by omega,Nat.pow_add,Nat.mul_assoc,Nat.add_mul_div_left _ _ (Nat.two_pow_pos _),Nat.pow_add,Nat.mul_assoc,show (2:Nat) ^ 8=256 from rfl,Nat.add_mul_mod_self_left]
  ·obtain rfl:i=k:=by omega
   rw [Nat.add_mul_div_left _ _ (Nat.two_pow_pos _),Nat.div_eq_of_lt hlt,Nat.zero_add]
   omega
def bq (n:Nat):Nat→Int
 | 0=>0
 | k+1=>if (dgB n k:Int) - dgB Qo k - bq n k<0 then 1 else 0
def rawQ (n i:Nat):Int:=(dgB n i:Int) - dgB Qo i - bq n i
theorem bq_bd (n:Nat):∀ k,0≤bq n k∧bq n k≤1
 | 0=>by unfold bq;omega
 | k+1=>by unfold bq;split <;> omega
theorem rawQ_bd (n i:Nat): -256≤rawQ n i∧rawQ n i≤255:=by
 have:=bq_bd n i
 have:=dgB_lt n i
 have:=dgB_lt Qo i
 unfold rawQ
 omega
theorem bq_succ (n k:Nat):rawQ n k / 256 % 2=bq n (k+1):=by
 have:=rawQ_bd n k
 have e:bq n (k+1)=if rawQ n k<0 then 1 else 0:=rfl
 rw [e]
 split <;> omega
theorem mskB_val (n:Nat):∀ k,valB (fun i=>rawQ n i % 256) k=valB (fun i=>(dgB n i:Int)) k - valB (fun i=>(dgB Qo i:Int)) k+bq n k*2 ^ (8*k)
 | 0=>by simp [valB,bq]
 | k+1=>by
  have h:=rawQ_bd n k
  have hb:=bq_succ n k
  have hr:rawQ n k % 256=(dgB n k:Int) - dgB Qo k - bq n k+256*bq n (k+1):=by
   have:rawQ n k=(dgB n k:Int) - dgB Qo k - bq n k:=rfl
   have:=bq_bd n (k+1)
   omega
  unfold valB
  rw [mskB_val n k,hr,pow8s]
  grind
theorem mskB_nrm (n:Nat):NrmB (fun i=>rawQ n i % 256):=fun i=>(show 0≤rawQ n i % 256∧rawQ n i % 256≤255 by omega)
def offQ (n:Nat):Nat:=if n<Qo then n else n - Qo
theorem pow_next {a b:Nat} (h:a<b):2 ^ a*2≤2 ^ b:=by rw [← Nat.pow_succ];exact Nat.pow_le_pow_right (by decide) h
theorem int_lt_pow {n k:Nat} (h:n<2 ^ k):(n:Int)<(2:Int) ^ k:=by
 have:=Int.ofNat_lt.2 h
 rwa [Int.natCast_pow] at this
theorem valB_dg {n:Nat} (h:n<2 ^ 264):valB (fun i=>(dgB n i:Int)) 33=(n:Int):=by rw [dgB_val,show 8*33=264 from rfl,Nat.mod_eq_of_lt h]
theorem Qo_264:Qo<2 ^ 264:=by decide +kernel
theorem bq_iff {n:Nat} (h:n<2 ^ 264):(bq n 33=0∧Qo≤n)∨(bq n 33=1∧n<Qo):=by
 have h1:=mskB_val n 33
 rw [valB_dg h,valB_dg Qo_264] at h1
 have h2:=nrmB_val (mskB_nrm n) 33
 have h5:=bq_bd n 33
 rw [show 8*33=264 from rfl] at h1 h2
 have hn:=int_lt_pow h
 have hp:=int_lt_pow Qo_264
 generalize valB (fun i=>rawQ n i % 256) 33=v at *
 generalize (2:Int) ^ 264=E at *
 have hb:bq n 33=0∨bq n 33=1:=by omega
 rcases hb with hb | hb
 ·rw [hb,Int.zero_mul] at h1
  exact .inl ⟨hb,by omega⟩
 ·rw [hb,Int.one_mul] at h1
  exact .inr ⟨hb,by omega⟩
theorem subQ_dg {n:Nat} (h:n<2 ^ 264) (hp:Qo≤n):∀ i,i<33→rawQ n i % 256=(dgB (n - Qo) i:Int):=by
 have h1:=mskB_val n 33
 rw [valB_dg h,valB_dg Qo_264] at h1
 have hb:bq n 33=0:=by rcases bq_iff h with h | h <;> omega
 rw [hb,Int.zero_mul] at h1
 intro i hi
 have h2:=nrmB_dg (mskB_nrm n) 33 i hi
 rw [h1] at h2
 rw [h2,show ((n:Int) - (Qo:Int)+0).toNat=n - Qo from by omega]
theorem offQ_mod {n:Nat} (h:n<2*Qo):offQ n=n % Qo:=by
 unfold offQ
 by_cases h0:n<Qo
 ·rw [if_pos h0,Nat.mod_eq_of_lt h0]
 ·rw [if_neg h0,Nat.mod_eq_sub_mod (by omega),Nat.mod_eq_of_lt (by omega)]
def crK (n c k:Nat):Nat:=(2*(n % 2 ^ (8*k))+c) / 2 ^ (8*k)
theorem crK_zero (n c:Nat):crK n c 0=c:=by unfold crK;simp [Nat.mod_one]
theorem twice_dg (n c k:Nat):dgB (2*n+c) k=(2*dgB n k+crK n c k) % 256:=by
 unfold dgB crK
 have h:=Nat.div_add_mod n (2 ^ (8*k))
 have hpos:=Nat.two_pow_pos (8*k)
 generalize 2 ^ (8*k)=E at *
 have e:2*n+c=2*(n % E)+c+E*(2*(n / E)):=by rw [Nat.mul_left_comm];omega
 rw [e,Nat.add_mul_div_left _ _ hpos]
 omega
theorem crK_succ (n c k:Nat):crK n c (k+1)=(2*dgB n k+crK n c k) / 256:=by
 unfold crK dgB
 rw [Nat.mul_succ,Nat.pow_add,show (2:Nat) ^ 8=256 from rfl,Nat.mod_mul]
 have hpos:=Nat.two_pow_pos (8*k)
 generalize 2 ^ (8*k)=E at *
 have e:2*(n % E+E*(n / E % 256))+c=2*(n % E)+c+E*(2*(n / E % 256)):=by rw [Nat.mul_add,Nat.mul_left_comm];omega
 rw [e,← Nat.div_div_eq_div_mul,Nat.add_mul_div_left _ _ hpos,Nat.add_comm]
theorem crK_le (n c:Nat) (hc:c≤1):∀ k,crK n c k≤1
 | 0=>by rw [crK_zero];exact hc
 | k+1=>by
  rw [crK_succ]
  have:=crK_le n c hc k
  have:=dgB_lt n k
  omega
def csK (a b k:Nat):Nat:=(a % 2 ^ (8*k)+b % 2 ^ (8*k)) / 2 ^ (8*k)
theorem csK_zero (a b:Nat):csK a b 0=0:=by unfold csK;simp [Nat.mod_one]
theorem sum_dg (a b k:Nat):dgB (a+b) k=(csK a b k+dgB a k+dgB b k) % 256:=by
 unfold dgB csK
 have h1:=Nat.div_add_mod a (2 ^ (8*k))
 have h2:=Nat.div_add_mod b (2 ^ (8*k))
 have hpos:=Nat.two_pow_pos (8*k)
 generalize 2 ^ (8*k)=E at *
 have e:a+b=a % E+b % E+E*(a / E+b / E):=by rw [Nat.mul_add];omega
 rw [e,Nat.add_mul_div_left _ _ hpos]
 omega
theorem csK_succ (a b k:Nat):csK a b (k+1)=(csK a b k+dgB a k+dgB b k) / 256:=by
 unfold csK dgB
 rw [Nat.mul_succ,Nat.pow_add,show (2:Nat) ^ 8=256 from rfl,Nat.mod_mul,Nat.mod_mul]
 have hpos:=Nat.two_pow_pos (8*k)
 generalize 2 ^ (8*k)=E at *
 have e:a % E+E*(a / E % 256)+(b % E+E*(b / E % 256))=a % E+b % E+E*(a / E % 256+b / E % 256):=by rw [Nat.mul_add];omega
 rw [e,← Nat.div_div_eq_div_mul,Nat.add_mul_div_left _ _ hpos,Nat.add_assoc]
theorem csK_le (a b:Nat):∀ k,csK a b k≤1
 | 0=>by rw [csK_zero];omega
 | k+1=>by
  rw [csK_succ]
  have:=csK_le a b k
  have:=dgB_lt a k
  have:=dgB_lt b k
  omega
def valN (f:Nat→Nat):Nat→Nat
 | 0=>0
 | k+1=>valN f k+f k*2 ^ (8*k)
theorem valN_dg (n:Nat):∀ k,valN (dgB n) k=n % 2 ^ (8*k)
 | 0=>by simp [valN,Nat.mod_one]
 | k+1=>by
  unfold valN
  rw [valN_dg n k,Nat.mul_succ,Nat.pow_add,Nat.mod_mul,Nat.mul_comm (dgB n k)]
  rfl
theorem valN_upd (f:Nat→Nat) (j x:Nat):∀ k,valN (fun i=>if i=j then f i+x else f i) k=valN f k+if j<k then x*2 ^ (8*j) else 0
 | 0=>by simp [valN]
 | k+1=>by
  unfold valN
  rw [valN_upd f j x k]
  by_cases e:k=j
  ·subst e;rw [if_pos rfl,if_neg (by omega),if_pos (by omega)];grind
  ·rw [if_neg e]
   by_cases h:j<k
   ·rw [if_pos h,if_pos (by omega)];grind
   ·rw [if_neg h,if_neg (by omega)];grind
theorem valN_zero (k:Nat):valN (fun _=>0) k=0:=by
 induction k with
 | zero=>rfl
 | succ k ih=>unfold valN;rw [ih];simp
def tQ (a b:Nat→Nat) (i:Nat):Nat→Nat→Nat
 | 0=>match i with
  | 0=>fun _=>0
  | i+1=>tQ a b i 32
 | k+1=>fun j=>if j=i+k then tQ a b i k j+a i*b k else tQ a b i k j
termination_by k=>(i,k)
theorem tQ_zero (a b:Nat→Nat):tQ a b 0 0=fun _=>0:=by unfold tQ;rfl
theorem tQ_row (a b:Nat→Nat) (i:Nat):tQ a b (i+1) 0=tQ a b i 32:=by conv=>lhs;unfold tQ
theorem tQ_step (a b:Nat→Nat) (i k:Nat):tQ a b i (k+1)=fun j=>if j=i+k then tQ a b i k j+a i*b k else tQ a b i k j:=by conv=>lhs;unfold tQ
theorem tQ_val (a b:Nat→Nat) (i:Nat) (hi:i<32):∀ k,k≤32→valN (tQ a b i k) 64=valN (tQ a b i 0) 64+a i*2 ^ (8*i)*valN b k
 | 0,_=>by
  have h0:valN b 0=0:=rfl
  rw [h0,Nat.mul_zero,Nat.add_zero]
 | k+1,hk=>by
  have hk1:valN b (k+1)=valN b k+b k*2 ^ (8*k):=rfl
  rw [tQ_step,valN_upd,tQ_val a b i hi k (by omega),if_pos (by omega),Nat.mul_add 8 i k,Nat.pow_add,hk1]
  generalize valN (tQ a b i 0) 64=V
  generalize 2 ^ (8*i)=E
  generalize 2 ^ (8*k)=G
  generalize valN b k=W
  grind
theorem tQ_all (a b:Nat→Nat):∀ i,i≤32→valN (tQ a b i 0) 64=valN a i*valN b 32
 | 0,_=>by
  have h0:valN a 0=0:=rfl
  rw [tQ_zero,valN_zero,h0,Nat.zero_mul]
 | i+1,hi=>by
  have hk1:valN a (i+1)=valN a i+a i*2 ^ (8*i):=rfl
  rw [tQ_row,tQ_val a b i (by omega) 32 (by omega),tQ_all a b i (by omega),hk1,Nat.add_mul]
theorem mulB_le {x y:Nat} (hx:x<256) (hy:y<256):x*y≤65536:=Nat.le_trans (Nat.mul_le_mul (Nat.le_of_lt hx) (Nat.le_of_lt hy)) (by omega)
theorem tQ_bd {a b:Nat→Nat} (ha:∀ i,a i<256) (hb:∀ i,b i<256) (i:Nat) (h0:∀ j,tQ a b i 0 j≤65536*i):∀ k j,tQ a b i k j≤65536*(i+1)∧(i+k≤j→tQ a b i k j≤65536*i)
 | 0,j=>by have:=h0 j;omega
 | k+1,j=>by
  have ih:=tQ_bd ha hb i h0 k j
  have hm:=mulB_le (ha i) (hb k)
  rw [tQ_step]
  simp only
  by_cases e:j=i+k
  ·rw [if_pos e]
   have:=ih.2 (by omega)
   omega
  ·rw [if_neg e]
   exact ⟨ih.1,fun h=>ih.2 (by omega)⟩
theorem tQ_bd0 {a b:Nat→Nat} (ha:∀ i,a i<256) (hb:∀ i,b i<256):∀ i j:Nat,tQ a b i 0 j≤65536*i
 | 0,j=>by rw [tQ_zero];simp
 | i+1,j=>by
  rw [tQ_row]
  exact (tQ_bd ha hb i (tQ_bd0 ha hb i) 32 j).1
theorem tQ_lim {a b:Nat→Nat} (ha:∀ i,a i<256) (hb:∀ i,b i<256) (i k j:Nat) (hi:i≤32):tQ a b i k j≤2162688:=by
 have:=(tQ_bd ha hb i (tQ_bd0 ha hb i) k j).1
 omega
def ctK (t:Nat→Nat) (k:Nat):Nat:=valN t k / 2 ^ (8*k)
theorem ctK_succ (t:Nat→Nat) (k:Nat):ctK t (k+1)=(ctK t k+t k) / 256:=by
 have hk1:valN t (k+1)=valN t k+t k*2 ^ (8*k):=rfl
 unfold ctK
 rw [hk1,Nat.mul_succ,Nat.pow_add,show (2:Nat) ^ 8=256 from rfl,← Nat.div_div_eq_div_mul,Nat.mul_comm (t k),Nat.add_mul_div_left _ _ (Nat.two_pow_pos _)]
theorem ctK_lim {t:Nat→Nat} (h:∀ j,t j≤2162688):∀ k,ctK t k≤2162688
 | 0=>by unfold ctK valN;simp
 | k+1=>by
  rw [ctK_succ]
  have:=ctK_lim h k
  have:=h k
  omega
theorem valN_split (t:Nat→Nat) (n:Nat):∀ k,∃ r,valN t (n+k)=valN t n+2 ^ (8*n)*r
 | 0=>⟨0,by simp⟩
 | k+1=>by
  obtain ⟨r,hr⟩:=valN_split t n k
  refine ⟨r+t (n+k)*2 ^ (8*k),?_⟩
  show valN t (n+k)+t (n+k)*2 ^ (8*(n+k))=_
  rw [hr,Nat.mul_add 8 n k,Nat.pow_add]
  grind
theorem ct_dg (t:Nat→Nat) {m k:Nat} (h:k<m):dgB (valN t m) k=(ctK t k+t k) % 256:=by
 obtain ⟨d,hd⟩:∃ d,m=k+1+d:=⟨m - (k+1),by omega⟩
 obtain ⟨r,hr⟩:=valN_split t (k+1) d
 rw [hd,hr]
 unfold dgB ctK
 rw [Nat.mul_succ 8 k,Nat.pow_add,show (2:Nat) ^ 8=256 from rfl,Nat.mul_assoc]
 show (valN t k+t k*2 ^ (8*k)+2 ^ (8*k)*(256*r)) / 2 ^ (8*k) % 256=_
 rw [Nat.add_mul_div_left _ _ (Nat.two_pow_pos _),Nat.mul_comm (t k),Nat.add_mul_div_left _ _ (Nat.two_pow_pos _),Nat.add_mul_mod_self_left]
theorem dgB_byte (n i:Nat):(byteN n i).toNat=dgB n i:=by unfold byteN dgB;rw [BitVec.toNat_ofNat]
theorem leK_bit (f:Nat→BitVec 8) {n i:Nat} (h:i<8*n):leK f n / 2 ^ i % 2=(f (i / 8)).toNat / 2 ^ (i % 8) % 2:=by
 have e:2 ^ i=2 ^ (8*(i / 8))*2 ^ (i % 8):=by rw [← Nat.pow_add];congr 1;omega
 rw [e,← Nat.div_div_eq_div_mul,byte_bit _ _ (Nat.mod_lt _ (by omega)),leK_byte f n (i / 8) (by omega)]
end Go.Proofs.YtoifhhljfaoejaaGreatDoor.R3
