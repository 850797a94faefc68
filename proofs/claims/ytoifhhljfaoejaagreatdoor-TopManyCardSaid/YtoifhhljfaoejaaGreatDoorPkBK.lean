/-
  Lemmas of the law, part 37: the walks of the functions that it calls and the plain facts about them. No condition beyond those written.
-/
import Derived.Lib.SlBytesConst
import Derived.Test.YtoifhhljfaoejaaGreatDoorPkAA
import Derived.Test.YtoifhhljfaoejaaGreatDoorPkBJ
import Derived.Deep.MidRow
namespace Go.Proofs.YtoifhhljfaoejaaGreatDoor
open Go Go.RowKit Go.Shelf
set_option linter.unusedVariables false
set_option linter.unusedSimpArgs false
set_option linter.unusedSectionVars false
section
variable {ops:Array Oper} {rest:List Oper} {o:Oper} {a:Act} {w0 w:World} {M M':Mem} {Q:Exit→Act→World→Prop}
theorem lBS4i (hL:Loc w0 w M) (hg:o.guard=none) {t e:TypeId} {x y z' q:Operand} (ho:o.op= .buildSlice t 4 #[(0,x),(1,y),(2,z'),(3,q)]) [he:Elt t e] {d1 d2 d3 d4:IntKind} {n1 n2 n3 n4:Int} (hx:a.eval x= .int d1 n1) (hy:a.eval y= .int d2 n2) (hz':a.eval z'= .int d3 n3) (hq:a.eval q= .int d4 n4)
 (h:∀ b w',Loc w0 w' ((b, #[.int d1 n1,.int d2 n2,.int d3 n3,.int d4 n4],e) :: M)→wpList Tryz.prog ops Q rest (a.put o.dst (.slice (some ⟨b,0,none⟩) 4 4)) w'):wpList Tryz.prog ops Q (o :: rest) a w :=
 wpList_plain hg fun K hK=>by
  obtain ⟨i,z,hi,hz,hs1,hb,hzs⟩:=he.info
  refine wp_buildSlice t e 4 #[(0,x),(1,y),(2,z'),(3,q)] ho #[.int d1 n1,.int d2 n2,.int d3 n3,.int d4 n4] i z he.und hi hz (by rw [hs1];decide) (by rw [hs1];decide) ?_ (hK _ _ (h _ _ (hL.alloc #[.int d1 n1,.int d2 n2,.int d3 n3,.int d4 n4] e)))
  rw [hs1]
  have e:(Array.map (fun (y:Nat×Operand)=>(y.1,a.eval y.2)) #[(0,x),(1,y),(2,z'),(3,q)]).toList=[(0,.int d1 n1),(1,.int d2 n2),(2,.int d3 n3),(3,.int d4 n4)]:=by simp [hx,hy,hz',hq]
  rw [e]
  have e1:Array.range 4= #[0,1,2,3]:=rfl
  simp [Instr.fill,Value.cells,e1]
end
theorem segLit (l:List Value) (h1:∀ u∈l,u.oneCell'=true) (n:Nat) (hn:l.length=n):Seg l.toArray 0 n l:=⟨hn,h1,fun i hi=>by simp [hi]⟩
theorem encI_one' (l:List Int):∀ u∈encI l,u.oneCell'=true:=fun u hu=>by
 obtain ⟨y,_,rfl⟩:=List.mem_map.1 hu
 rfl
theorem segI2 (x y:Int):Seg #[.int .i64 x,.int .i64 y] 0 2 (encI [x,y]):=segLit (encI [x,y]) (encI_one' _) 2 rfl
theorem segB4 (x y z u:BitVec 8):Seg #[.int .u8 (B8 x),.int .u8 (B8 y),.int .u8 (B8 z),.int .u8 (B8 u)] 0 4 (encB [x,y,z,u]):=segLit (encB [x,y,z,u]) (encB_one' _) 4 rfl
section
variable {ops:Array Oper} {rest:List Oper} {o o2:Oper} {a:Act} {w0 w:World} {M M':Mem} {Q:Exit→Act→World→Prop}
theorem lLit4 (x1 x2 x3 x4:BitVec 8) (hL:Loc w0 w M) (hg:o.guard=none) (hg2:o2.guard=none) {x y z' q:Operand} (ho:o.op= .buildSlice 29 4 #[(0,x),(1,y),(2,z'),(3,q)]) (hx:a.eval x= .int .u8 (B8 x1)) (hy:a.eval y= .int .u8 (B8 x2)) (hz':a.eval z'= .int .u8 (B8 x3)) (hq:a.eval q= .int .u8 (B8 x4))
 {u:Operand} (ho2:o2.op= .convert 29 29 u) (hu:∀ v,(a.put o.dst v).eval u=v)
 (h:∀ b w',BRow w' (.slice (some ⟨b,0,none⟩) 4 4) [x1,x2,x3,x4]→Loc w0 w' M→wpList Tryz.prog ops Q rest ((a.put o.dst (.slice (some ⟨b,0,none⟩) 4 4)).put o2.dst (.slice (some ⟨b,0,none⟩) 4 4)) w'):wpList Tryz.prog ops Q (o :: o2 :: rest) a w :=
 wpList_plain hg fun K hK=>by
  obtain ⟨i,z,hi,hz,hs1,hb,hzs⟩:=(inferInstance:Elt 29 5).info
  have hc:=Lib.run_convert_bytes_const (P:=Tryz.prog) w 29 5 (encB [x1,x2,x3,x4]).toArray 4 4 Tryz.underlying29 Tryz.underlying5
  refine wp_buildSlice 29 5 4 #[(0,x),(1,y),(2,z'),(3,q)] ho (encB [x1,x2,x3,x4]).toArray i z Tryz.underlying29 hi hz (by rw [hs1];decide) (by rw [hs1];decide) ?_ (hK _ _ (wpList_plain hg2 fun K2 hK2=>?_))
  ·rw [hs1]
   have e:(Array.map (fun (y:Nat×Operand)=>(y.1,a.eval y.2)) #[(0,x),(1,y),(2,z'),(3,q)]).toList=[(0,.int .u8 (B8 x1)),(1,.int .u8 (B8 x2)),(2,.int .u8 (B8 x3)),(3,.int .u8 (B8 x4))]:=by simp [hx,hy,hz',hq]
   rw [e]
   have e1:Array.range 4= #[0,1,2,3]:=rfl
   simp [Instr.fill,Value.cells,e1,encB]
  ·unfold Oper.wp execOp
   simp only [ho2,hu,Sem.run_bind,hc,Result.andThen_ok,Sem.run_pure]
   have hb:BRow (w.alloc (.cells (encB [x1,x2,x3,x4]).toArray 5 ((encB [x1,x2,x3,x4]).toArray.size,(encB [x1,x2,x3,x4]).toArray.size+1))) (.slice (some ⟨w.heap.size,0,none⟩) 4 4) [x1,x2,x3,x4]:=brow_mk (c:=4) [x1,x2,x3,x4] (heap_alloc_new _ _)
   exact hK2 _ _ (h _ _ hb (hL.keep (below_allocS (Below.refl _ _) _)))
theorem lLit1 (x1:BitVec 8) (hL:Loc w0 w M) (hg:o.guard=none) (hg2:o2.guard=none) {x:Operand} (ho:o.op= .buildSlice 29 1 #[(0,x)]) (hx:a.eval x= .int .u8 (B8 x1))
 {u:Operand} (ho2:o2.op= .convert 29 29 u) (hu:∀ v,(a.put o.dst v).eval u=v)
 (h:∀ b w',BRow w' (.slice (some ⟨b,0,none⟩) 1 1) [x1]→Loc w0 w' M→wpList Tryz.prog ops Q rest ((a.put o.dst (.slice (some ⟨b,0,none⟩) 1 1)).put o2.dst (.slice (some ⟨b,0,none⟩) 1 1)) w'):wpList Tryz.prog ops Q (o :: o2 :: rest) a w :=
 wpList_plain hg fun K hK=>by
  obtain ⟨i,z,hi,hz,hs1,hb,hzs⟩:=(inferInstance:Elt 29 5).info
  have hc:=Lib.run_convert_bytes_const (P:=Tryz.prog) w 29 5 (encB [x1]).toArray 1 1 Tryz.underlying29 Tryz.underlying5
  refine wp_buildSlice 29 5 1 #[(0,x)] ho (encB [x1]).toArray i z Tryz.underlying29 hi hz (by rw [hs1];decide) (by rw [hs1];decide) ?_ (hK _ _ (wpList_plain hg2 fun K2 hK2=>?_))
  ·rw [hs1]
   have e:(Array.map (fun (y:Nat×Operand)=>(y.1,a.eval y.2)) #[(0,x)]).toList=[(0,.int .u8 (B8 x1))]:=by simp [hx]
   rw [e]
   have e1:Array.range 1= #[0]:=rfl
   simp [Instr.fill,Value.cells,e1,encB]
  ·unfold Oper.wp execOp
   simp only [ho2,hu,Sem.run_bind,hc,Result.andThen_ok,Sem.run_pure]
   have hb:BRow (w.alloc (.cells (encB [x1]).toArray 5 ((encB [x1]).toArray.size,(encB [x1]).toArray.size+1))) (.slice (some ⟨w.heap.size,0,none⟩) 1 1) [x1]:=brow_mk (c:=1) [x1] (heap_alloc_new _ _)
   exact hK2 _ _ (h _ _ hb (hL.keep (below_allocS (Below.refl _ _) _)))
end
def recB (f:Nat→BitVec 8) (n:Int) (l:List (BitVec 8)):List (BitVec 8) :=
 ([80,67,66,49] ++ packIs [n,(l.length:Int)] ++ l) ++ listB 32 (macS (listB 32 (keyF f [98,97,110,107])) ([80,67,66,49] ++ packIs [n,(l.length:Int)] ++ l))
theorem recB_length (f:Nat→BitVec 8) (n:Int) (l:List (BitVec 8)):(recB f n l).length=52+l.length:=by simp [recB,packIs_length,listB_length];omega
set_option maxRecDepth 100000 in
theorem record_any (f:Nat→BitVec 8) (n:Int) (v:Value) (l:List (BitVec 8)) (w:World) (hv:BRow w v l) (hn:0≤n) (hl:l.length≤4096) :
 Calls Tryz.prog 198 #[.agg (rowB 32 f),.int .i64 n,v] w fun e w'=>∃ g cap cur,e= .returned (.tuple #[.slice (some ⟨g,0,none⟩) (recB f n l).length cap,.int .i64 0])∧OwnR cur (recB f n l).length cap (encB (recB f n l))∧Loc w w' [(g,cur,5)]:=by
 have hL:=Loc.nil w
 haveI hA:Arg w v (encB l):=⟨hv.vrow⟩
 obtain ⟨a,c,rfl,hne,hp⟩:=hv
 clear hne hp
 have q1:¬ (4096:Int)<l.length:=by omega
 have HP:=Lib.hid (fun w1 (v1 v2:Value) (h2:BRow w1 v1 [80,67,66,49]) (h3:VRow w1 v2 (encI [n,(l.length:Int)]))=>packInt_any v1 [80,67,66,49] v2 [n,(l.length:Int)] w1 h2 (by decide) (by decide) h3 (by simp))
 have hlen:([80,67,66,49] ++ packIs [n,(l.length:Int)]).length=20:=by simp [packIs_length]
 have hlen1:([80,67,66,49] ++ packIs [n,(l.length:Int)]).length≤20:=by omega
 clear hlen
 haveI s4:Seg #[.int .u8 80,.int .u8 67,.int .u8 66,.int .u8 49] 0 4 (encB [80,67,66,49]):=segB4 80 67 66 49
 haveI s2:=segI2 n (l.length:Int)
 have HREC:=Lib.hid (show recB f n l=([80,67,66,49] ++ packIs [n,(l.length:Int)] ++ l) ++ listB 32 (macS (listB 32 (keyF f [98,97,110,107])) ([80,67,66,49] ++ packIs [n,(l.length:Int)] ++ l)) from rfl)
 have HK:=Lib.hid (fun w1=>key_any f [98,97,110,107] w1 (by decide))
 generalize recB f n l=rc at *
 generalize [80,67,66,49] ++ packIs [n,(l.length:Int)]=hd at *
 generalize keyF f [98,97,110,107]=kk at *
 have HM:=Lib.hid (fun w1 v vb (h1:BRow w1 v (listB 32 kk)) (h2:BRows w1 vb [hd ++ l])=>mac_any v vb (listB 32 kk) [hd ++ l] w1 h1 h2 (by rw [listB_length];omega) (by simp) (by simp;omega))
 rw [show [hd ++ l].flatten=hd ++ l from by simp] at HM
 generalize macS (listB 32 kk) (hd ++ l)=mm at *
 have HLR:=Lib.hid (show rc.length=hd.length+l.length+32 from by rw [HREC.out,List.length_append,List.length_append,listB_length])
 haveI s9:Seg (rowB 32 kk) 0 32 (encB (listB 32 kk)):=by have:=segB kk 0 32 (Nat.le_refl _);simpa using this
 haveI s10:Seg (rowB 32 mm) 0 32 (encB (listB 32 mm)):=by have:=segB mm 0 32 (Nat.le_refl _);simpa using this
 generalize l.length=m at *
 go_enter Tryz.func198,Tryz.ntmps198
 go_wp2_with (first | refine aV ?_ | ((with_reducible refine gS 3 ?_);refine aBp ?_;clear hL;intro b3 w1 hL) | ((with_reducible refine gS 9 ?_);refine aBp ?_;clear hL;intro b9 w1 hL) | ((with_reducible refine gS 10 ?_);refine aBp ?_;clear hL;intro b10 w1 hL) | ((with_reducible show wpList _ _ _ (⟨some 18,_,_,_,_,_⟩ :: ⟨some 19,_,_,_,_,_⟩ :: _) _ _);go_loud (refine lLit4 80 67 66 49 hL rfl rfl rfl rfl rfl rfl rfl rfl (fun _=>rfl) ?_);clear hL;intro b18 w19 hb19 hL0;have hA19:Arg w19 (.slice (some ⟨b18,0,none⟩) 4 4) (encB [80,67,66,49]):=⟨hb19.vrow⟩;have hL:=Loc.nil w19) | ((with_reducible show wpList _ _ _ (⟨some 23,.buildSlice _ _ _,_,_,_,_⟩ :: _) _ _);(first | refine lBS2i hL rfl rfl rfl rfl ?_ | refine lBS4i hL rfl rfl rfl rfl rfl rfl ?_);intro b23;clear hL;intro w1 hL;refine p4 ?_) | ((go_at_call 202;go_loud (refine (HP.out _ _ _ (See.bytes hL (l:=[80,67,66,49])) (See.see _ hL)).mono ?_);rintro e w1 ⟨g24,cap24,cur24,rfl,hr24,hg24,hc24,hb24⟩;have hL1:=hL0.join (hL.fresh hb24 hg24 hc24);clear hb24 hg24 hc24;clear hL hA19 hb19;have hL:=hL1;clear hL1;try simp only [List.cons_append,List.nil_append] at hL)) | ((with_reducible refine gC 26 ?_);(refine lAppB hL rfl rfl rfl rfl (by first | omega | (simp;omega) | simp) fun g26 cap26 cur26 w1 hr26 hL1=>?_);(try dsimp only at hL1);clear hL;have hL:=hL1;clear hL1;refine p4 ?_) | (go_at_call 241;go_loud (refine (HK.out _).mono ?_);rintro e w1 ⟨rfl,hb1⟩;have hL1:=hL.keep hb1;clear hb1;clear hL;have hL:=hL1;clear hL1;refine p4 ?_) | ((with_reducible refine gS 31 ?_);refine lBS1s hL rfl rfl rfl ?_;intro b31;clear hL;intro w1 hL) | (go_at_call 242;go_loud (refine (HM.out _ _ _ (See.bytes hL (l:=listB 32 kk)) (brows_one (hL.at_ b31) (See.bytes hL))).mono ?_);rintro e w1 ⟨rfl,hb1⟩;have hL1:=hL.keep hb1;clear hb1;clear hL;have hL:=hL1;clear hL1;refine p4 ?_) | ((with_reducible refine gC 35 ?_);(refine lAppB hL rfl rfl rfl rfl (by first | omega | (simp;omega) | simp) fun g35 cap35 cur35 w1 hr35 hL1=>?_);(try dsimp only at hL1);clear hL;have hL:=hL1;clear hL1;refine p4 ?_) | (refine aL3S5p ?_;clear hL;intro w1 hL))
 go_ret2
 exact ⟨g35,cap35,cur35,by rw [HLR.out];rfl,by rw [HLR.out,HREC.out];exact hr35,Loc.rem b10 (Loc.rem b31 (Loc.rem b9 (Loc.rem b23 (Loc.rem b3 hL))))⟩
instance iBnk1:Ent 198:=Ent.of Tryz.func198 (by kernel_rfl) rfl
end Go.Proofs.YtoifhhljfaoejaaGreatDoor
namespace Go.Proofs.YtoifhhljfaoejaaGreatDoor
open Go Go.RowKit Go.Shelf
set_option linter.unusedVariables false
set_option linter.unusedSimpArgs false
set_option linter.unusedSectionVars false
theorem flCons (F:Array Value→Array Value→Mem) (bf bb:Nat) (e:Nat×Array Value×TypeId) (h:FlM F bf bb):FlM (fun x y=>e :: F x y) bf bb :=
 ⟨fun x y=>by haveI:=h.a x y;infer_instance,fun x y x'=>by haveI:=h.u x y x';infer_instance,fun x y=>by haveI:=h.b x y;infer_instance,fun x y y'=>by haveI:=h.v x y y';infer_instance⟩
theorem Fl.seg {f:Nat→BitVec 8} {y:Array Value} (h:Fl f y) (a n:Nat) (ha:a+n≤32768):Seg y a n (encB (listB n fun i=>f (a+i))) where
 len:=by rw [encB_length,listB_length]
 one:=encB_one' _
 seg:=fun i hi=>by
  rw [encB_length,listB_length] at hi
  rw [h.cell (a+i) (by omega)]
  simp [encB,listB]
section
variable {w0 w:World} {F:Array Value→Array Value→Mem} {bf bb:Nat} [hF:FlM F bf bb] {er pr:Int} {y:Array Value}
set_option maxRecDepth 100000 in
theorem readF_any {f:Nat→BitVec 8} (a n:Nat) (ha:a+n≤32768) (h0:0<n) (hy:Fl f y) (hL:Loc w0 w (F (flR bb er pr) y)) :
 Calls Tryz.prog 238 #[.pointer (some ⟨bf,0,none⟩),.int .i64 a,.int .i64 n] w fun e w'=>∃ g cap cur,e= .returned (.tuple #[.slice (some ⟨g,0,none⟩) n cap,.bool true])∧OwnR cur n cap (encB (listB n fun i=>f (a+i)))∧Loc w0 w' ((g,cur,5) :: F (flR bb er pr) y):=by
 have hA:=hF.a
 have hB:=hF.b
 have hs:=hy.seg a n ha
 have q0:(0:Int)≤a:=by omega
 have q1:(0:Int)≤n:=by omega
 have q2:(a:Int)+n≤32768:=by omega
 have q3:(a:Int)≤a+n:=by omega
 have q4:(a:Int)≤32768:=by omega
 have q5:((a:Int)+n - a).toNat=n:=by omega
 have HL:=Lib.hid (listB_length n fun i=>f (a+i))
 have HC:=Lib.hid (fun w1 v (h:BRow w1 v (listB n fun i=>f (a+i)))=>clone_any v _ w1 h (by rw [listB_length];exact h0) (by rw [listB_length];omega))
 generalize (listB n fun i=>f (a+i))=l at *
 go_enter Tryz.func238,Tryz.ntmps238
 go_wp2_with (first | refine aV ?_ | ((with_reducible refine gC 16 ?_);go_loud (refine lCall rfl rfl ((is_any (F:=F) (bf:=bf) (bb:=bb) a n ha hL).mono ?_) rfl);rintro e w1 ⟨rfl,hL1⟩;clear hL;revert hL1;refine aE ?_;intro hL) | (go_at_call 94;go_loud (refine (HC.out _ _ (See.bytes hL (l:=l))).mono ?_);rintro e w1 ⟨g28,cap28,cur28,rfl,hr28,hg28,hc28,hb28⟩;have hL1:=hL.fresh hb28 hg28 hc28;clear hb28 hg28 hc28;clear hL;have hL:=hL1;clear hL1;refine p4 ?_) | (refine aL3S5p ?_;clear hL;intro w1 hL))
 go_ret2
 rw [HL.out] at hr28
 exact ⟨g28,cap28,cur28,by rw [HL.out];rfl,hr28,hL⟩
end
instance iHlf1:Ent 238:=Ent.of Tryz.func238 (by kernel_rfl) rfl
section
variable {w0 w:World} {F:Array Value→Array Value→Mem} {bf bb:Nat} [hF:FlM F bf bb] {er pr:Int} {y:Array Value}
set_option maxRecDepth 100000 in
theorem half_any (s:Nat→BitVec 8) (k:Nat) (hk:k<2) (hy:Fl (fun _=>255) y) (hL:Loc w0 w (F (flR bb er pr) y)) :
 Calls Tryz.prog 196 #[.pointer (some ⟨bf,0,none⟩),.agg (rowB 32 s),.int .i64 k] w fun e w'=>e= .returned (.tuple #[.int .i64 0,.slice none 0 0,.bool false])∧Loc w0 w' (F (flR bb er pr) y):=by
 have hA:=hF.a
 have hB:=hF.b
 have q0:¬ (k:Int)<0:=by omega
 have q1:¬ (2:Int)≤k:=by omega
 have q2:(k:Int)≤1:=by omega
 obtain ⟨a,ha⟩:∃ a,a=k*32*256:=⟨_,rfl⟩
 have ha1:a+4148≤32768:=by omega
 have ha2:(k:Int)*32*256=(a:Nat):=by omega
 have HR:=Lib.hid (fun w1 (h:Loc w0 w1 (F (flR bb er pr) y))=>readF_any (F:=F) (bf:=bf) (bb:=bb) a 4148 ha1 (by decide) hy h)
 have HLEN:=Lib.hid (show (listB 4148 fun i=>(255:BitVec 8)).length=4148 from listB_length _ _)
 have HT:=Lib.hid (show (listB 4148 fun i=>(255:BitVec 8)).take 4=[255,255,255,255] from by decide)
 have HN:=Lib.hid (fun w1 v (h:BRow w1 v (listB 4148 fun i=>(255:BitVec 8)))=>by have:=packNew_any v _ w1 h (by rw [listB_length];decide) (by rw [listB_length];decide);rw [listB_length] at this;exact this)
 generalize (listB 4148 fun i=>(255:BitVec 8))=l at *
 clear ha
 go_enter Tryz.func196,Tryz.ntmps196
 go_wp2_with (first | refine aV ?_ | ((with_reducible refine gS 4 ?_);refine aBp ?_;clear hL;intro b4 w1 hL) | (refine aL3S5p ?_;clear hL;intro w1 hL))
 refine wp_scope_once 0 rfl ?_
 have hF4:=flCons F bf bb (b4,rowB 32 s,24) hF
 go_wp2_with (first | refine aV ?_ | ((with_reducible refine gC 20 ?_);go_loud (refine lCall rfl rfl ((dead_any (F:=fun x y=>(b4,rowB 32 s,24) :: F x y) (bf:=bf) (bb:=bb) hL).mono ?_) rfl);rintro e w1 ⟨rfl,hL1⟩;clear hL;revert hL1;refine aE ?_;intro hL) | ((with_reducible refine gC 24 ?_);go_loud (refine lCall rfl rfl ((size_any (F:=fun x y=>(b4,rowB 32 s,24) :: F x y) (bf:=bf) (bb:=bb) hL).mono ?_) rfl);rintro e w1 ⟨rfl,hL1⟩;clear hL;revert hL1;refine aE ?_;intro hL) | ((with_reducible refine gC 41 ?_);go_loud (refine lCall rfl rfl ((HR.out _ hL.pop).mono ?_) rfl);rintro e w1 ⟨g41,cap41,cur41,rfl,hr41,hL1⟩;clear hL;revert hL1;refine aE ?_;intro hL) | ((with_reducible refine gC 45 ?_);go_loud (refine lCall rfl rfl ((HN.out _ (.slice (some ⟨g41,0,none⟩) 4148 cap41) (See.bytes hL (l:=l))).mono ?_) rfl);rintro e w1 ⟨b45,g45,cap45,cur45,rfl,hr45,hN⟩;refine ⟨_,rfl,?_⟩;have hs1:=hr45.segB;have hc9:=hr45.le;have hL1:=hL.join hN;clear hN;(try simp only [List.cons_append,List.nil_append,List.append_assoc] at hL1);clear hL;have hL:=hL1;clear hL1;refine p4 ?_) | ((with_reducible refine gC 47 ?_);go_loud (refine lCall rfl rfl ((raw_lt (F:=fun x=>(b45,x,274) :: (g45,cur45,5) :: (g41,cur41,5) :: F (flR bb er pr) y) (l:=l) hs1 4 (by omega) (by omega) hc9 (by omega) hL).mono ?_) rfl);rintro e w1 ⟨g47,cap47,cur47,rfl,hr47,hL1⟩;rw [HT.out] at hr47;clear hL;revert hL1;refine aE ?_;intro hL) | ((with_reducible refine gS 48 ?_);refine lStr hL rfl rfl rfl ?_;rw [show strB [255,255,255,255]=⟨#[255,255,255,255]⟩ from rfl];clear hL;intro w1 hL) | (refine aL3S5p ?_;clear hL;intro w1 hL))
 go_step3
 refine ⟨rfl,?_⟩
 unfold Onward
 go_wp2_with (first | refine aV ?_ | (refine aL3S5p ?_;clear hL;intro w1 hL))
 simp only [Exit.jump]
 go_ret3
 exact ⟨rfl,Loc.rem g47 (Loc.rem b45 (Loc.rem g45 (Loc.rem g41 hL)))⟩
end
instance iHlf2:Ent 196:=Ent.of Tryz.func196 (by kernel_rfl) rfl
end Go.Proofs.YtoifhhljfaoejaaGreatDoor
namespace Go.Proofs.YtoifhhljfaoejaaGreatDoor
open Go Go.RowKit Go.Shelf
set_option linter.unusedVariables false
set_option linter.unusedSimpArgs false
set_option linter.unusedSectionVars false
class Hold (S:Mem) (v:outParam Value) (e:outParam TypeId) (ys:outParam (List Value)):Prop where
 hold:(S=[]∧v= .slice none 0 0∧ys=[])∨∃ g cap cur,S=[(g,cur,e)]∧v= .slice (some ⟨g,0,none⟩) ys.length cap∧OwnR cur ys.length cap ys
theorem Hold.nil (e:TypeId):Hold [] (.slice none 0 0) e []:=⟨.inl ⟨rfl,rfl,rfl⟩⟩
theorem Hold.own {g cap n:Nat} {cur:Array Value} {e:TypeId} {ys:List Value} (h:OwnR cur n cap ys):Hold [(g,cur,e)] (.slice (some ⟨g,0,none⟩) n cap) e ys:=⟨.inr ⟨g,cap,cur,rfl,by rw [h.len],by rw [h.len];exact h⟩⟩
instance atApp (S M:Mem) (b:Nat) (r:Array Value) (t:TypeId) [h:At M b r t]:At (S ++ M) b r t:=⟨List.mem_append_right _ h.mem⟩
theorem Upd.app {M M':Mem} {b:Nat} {r:Array Value} (S:Mem) (h:Upd M b r M'):Upd (S ++ M) b r (S ++ M'):=by
 induction S with
 | nil=>exact h
 | cons e S ih=>exact .tail e ih
instance upsApp (S M M':Mem) (b:Nat) (r:Array Value) [h:Ups M b r M']:Ups (S ++ M) b r (S ++ M'):=⟨h.upd.app S⟩
instance remApp (S M M':Mem) (b:Nat) [h:Rem M b M']:Rem (S ++ M) b (S ++ M'):=⟨(List.Sublist.refl S).append h.sub⟩
theorem Loc.sub {w0 w:World} {M M':Mem} (h:Loc w0 w M) (hs:M'.Sublist M):Loc w0 w M':=⟨h.bel,fun b r t hm=>h.ok b r t (hs.mem hm),h.nd.sublist (hs.map _)⟩
theorem Loc.left {w0 w:World} {S M:Mem} (h:Loc w0 w (S ++ M)):Loc w0 w S:=h.sub (List.sublist_append_left _ _)
theorem Loc.right {w0 w:World} {S M:Mem} (h:Loc w0 w (S ++ M)):Loc w0 w M:=h.sub (List.sublist_append_right _ _)
instance seeCons (w0:World) (x:Nat×Array Value×TypeId) (M:Mem) (v:Value) (ys:List Value) [h:See w0 M v ys]:See w0 (x :: M) v ys:=⟨fun w hL=>h.see w hL.pop⟩
instance seeApp (w0:World) (S M:Mem) (v:Value) (ys:List Value) [h:See w0 M v ys]:See w0 (S ++ M) v ys:=⟨fun w hL=>h.see w hL.right⟩
theorem Hold.see {w0 w:World} {S:Mem} {v:Value} {e:TypeId} {ys:List Value} (h:Hold S v e ys) (hL:Loc w0 w S):VRow w v ys:=by
 rcases h.hold with ⟨rfl,rfl,rfl⟩ | ⟨g,cap,cur,rfl,rfl,ho⟩
 ·exact (seeNil w0 []).see w hL
 ·haveI:=ho
  have h:See w0 [(g,cur,e)] (.slice (some ⟨g,0,none⟩) ys.length cap) ys:=inferInstance
  exact h.see w hL
instance seeHold (w0:World) (S M:Mem) (v:Value) (e:TypeId) (ys:List Value) [h:Hold S v e ys]:See w0 (S ++ M) v ys:=⟨fun w hL=>h.see hL.left⟩
theorem unguard {P:Program} {ops:Array Oper} {Q:Exit→Act→World→Prop} {a:Act} {w:World} {rest:List Oper} {d:Option Tmp} {op:Op} {t:TypeId} {ps:String} {af:Array Edge} {j:Nat} {want:Bool} {k:Tmp} {b:Bool}
 (ho:(ops[j]?).bind (·.dst)=some k) (ht:a.tmps[k]?=some (.bool b)) (hb:b=want) (h:wpList P ops Q (⟨d,op,t,ps,af,none⟩ :: rest) a w):wpList P ops Q (⟨d,op,t,ps,af,some (j,want)⟩ :: rest) a w :=
 wpList_unguard (by
  unfold Region.wanted yielded
  simp only [ho,Option.bind_some,ht,hb]
  cases want <;> rfl) h
class Splice (r:Array Value) (k:Nat) (s:Array Value) (r':outParam (Array Value)):Prop where
 fit:k+s.size≤r.size
 out:∀ j,r'[j]?=if k≤j∧j<k+s.size then s[j - k]? else r[j]?
theorem heap_putCells {b:Nat} {t:TypeId}:∀ (vs:List Value) (o:Nat) (w:World) (r:Array Value),w.heap[b]?=some (.cells r t (0,0))→o+vs.length≤r.size→∃ r',(w.setCells b o vs).heap[b]?=some (.cells r' t (0,0))∧∀ j,r'[j]?=if o≤j∧j<o+vs.length then vs[j - o]? else r[j]?
 | [],o,w,r,h,_=>⟨r,h,fun j=>by rw [if_neg (by rw [List.length_nil];omega)]⟩
 | v :: vs,o,w,r,h,hl=>by
  have h1:=heap_setCell_same w b o r t v h
  obtain ⟨r',h2,h3⟩:=heap_putCells vs (o+1) _ _ h1 (by simp at hl ⊢; omega)
  refine ⟨r',h2,fun j=>?_⟩
  rw [h3 j]
  simp only [List.length_cons] at hl ⊢
  by_cases c1:j=o
  ·subst c1
   rw [if_neg (by omega),if_pos (by omega),Array.getElem?_setIfInBounds_self_of_lt (by omega)]
   simp
  ·by_cases c2:o+1≤j∧j<o+1+vs.length
   ·rw [if_pos c2,if_pos (by omega),show j - o=(j - (o+1))+1 from by omega]
    simp
   ·rw [if_neg c2,if_neg (by omega),Array.getElem?_setIfInBounds_ne (by omega)]
theorem setCells_below {w0:World} {b:Nat} (hb:w0.heap.size≤b):∀ (vs:List Value) (o:Nat) (w:World),Below w0.heap.size w0 w→Below w0.heap.size w0 (w.setCells b o vs)
 | [],_,_,h=>h
 | v :: vs,o,w,h=>setCells_below hb vs (o+1) _ (h.setCell hb _)
theorem setCells_far {b c:Nat} (hc:c≠b):∀ (vs:List Value) (o:Nat) (w:World),(w.setCells b o vs).heap[c]?=w.heap[c]?
 | [],_,_=>rfl
 | v :: vs,o,w=>(setCells_far hc vs (o+1) _).trans (heap_setCell_other _ _ _ _ hc)
theorem Loc.splice {w0 w:World} {M M':Mem} (h:Loc w0 w M) {b k:Nat} {r s r':Array Value} {t:TypeId} (hm:(b,r,t)∈M) (hs:Splice r k s r') (hu:Upd M b r' M'):Loc w0 (w.setCells b k s.toList) M':=by
 refine ⟨setCells_below (h.ge hm) _ _ _ h.bel,fun c r1 t' hm'=>?_,by rw [hu.fst];exact h.nd⟩
 rcases hu.back h.nd c r1 t' hm' with ⟨rfl,rfl,r2,h1⟩ | ⟨hne,h1⟩
 ·refine ⟨h.ge h1,?_⟩
  have e:r2=r∧t'=t:=by
   have a1:=h.get h1
   rw [h.get hm] at a1
   cases a1
   exact ⟨rfl,rfl⟩
  obtain ⟨rfl,rfl⟩:=e
  obtain ⟨q,h2,h3⟩:=heap_putCells s.toList k w r2 (h.get h1) (by simpa using hs.fit)
  rw [h2]
  have:q=r1:=Array.ext_getElem? fun j=>by rw [h3 j,hs.out j];simp
  rw [this]
 ·exact ⟨h.ge h1,(setCells_far hne _ _ _).trans (h.get h1)⟩
theorem splice_mid (pre s s' post:Array Value) (k:Nat) (hk:k=pre.size) (hs:s'.size=s.size):Splice (pre ++ s ++ post) k s' (pre ++ s' ++ post) where
 fit:=by simp;omega
 out:=fun j=>by
  subst hk
  by_cases h:pre.size≤j∧j<pre.size+s'.size
  ·rw [if_pos h,Array.getElem?_append_left (by simp;omega),Array.getElem?_append_right (by omega)]
  ·rw [if_neg h]
   by_cases h2:j<pre.size
   ·rw [Array.getElem?_append_left (by simp;omega),Array.getElem?_append_left (by omega),Array.getElem?_append_left (by simp;omega),Array.getElem?_append_left (by omega)]
   ·rw [Array.getElem?_append_right (by simp;omega),Array.getElem?_append_right (by simp;omega)]
    simp [hs]
section
variable {ops:Array Oper} {rest:List Oper} {o:Oper} {a:Act} {w0 w:World} {M M':Mem} {Q:Exit→Act→World→Prop} {K:Act→World→Prop}
theorem Loc.there {w0 w:World} {M:Mem} (h:Loc w0 w M) {b k n:Nat} {r:Array Value} {t:TypeId} (hm:(b,r,t)∈M) (hf:k+n≤r.size):w.there b k n:=fun j hj =>
 ⟨by rw [cell_of_row w b (k+j) _ _ _ (h.get hm),Array.getElem?_eq_getElem (by omega)];rfl,frozen_of_row w _ _ _ _ (h.get hm)⟩
theorem lSp (hL:Loc w0 w M) (hg:o.guard=none) {t:TypeId} {x y:Operand} (ho:o.op= .store t x y) (hd:o.dst=none) {b k:Nat} (hx:a.eval x= .pointer (some ⟨b,k,none⟩)) {s:Array Value} (hy:a.eval y= .agg s) {n:Nat} [hr:Row1 s n] [ht:RowTy t n]
 {r r':Array Value} {u:TypeId} [hm:At M b r u] [hs:Splice r k s r'] [hu:Ups M b r' M']
 (h:∀ w',Loc w0 w' M'→wpList Tryz.prog ops Q rest a w'):wpList Tryz.prog ops Q (o :: rest) a w:=by
 refine wpList_store_mid hg t x y ho b k s hx hy (hL.there hm.mem hs.fit) (by rw [ht.size,hr.size]) hr.one ?_
 rw [hd]
 exact h _ (hL.splice hm.mem hs hu.upd)
theorem eSp (hL:Loc w0 w M) {t:TypeId} {x y:Operand} (ho:o.op= .store t x y) {b k:Nat} (hx:a.eval x= .pointer (some ⟨b,k,none⟩)) {s:Array Value} (hy:a.eval y= .agg s) {n:Nat} [hr:Row1 s n] [ht:RowTy t n]
 {r r':Array Value} {u:TypeId} [hm:At M b r u] [hs:Splice r k s r'] [hu:Ups M b r' M']
 (h:∀ w',Loc w0 w' M'→K (a.put o.dst undef) w'):o.wp Tryz.prog a w K Q :=
 wp_store_mid t x y ho b k s hx hy (hL.there hm.mem hs.fit) (by rw [ht.size,hr.size]) hr.one (h _ (hL.splice hm.mem hs hu.upd))
end
end Go.Proofs.YtoifhhljfaoejaaGreatDoor
