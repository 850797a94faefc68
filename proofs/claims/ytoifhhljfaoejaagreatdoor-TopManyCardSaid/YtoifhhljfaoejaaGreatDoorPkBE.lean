/-
  Lemmas of the law, part 31: the walks of the functions that it calls and the plain facts about them. No condition beyond those written.
-/
import Derived.Test.YtoifhhljfaoejaaGreatDoorPkAA
import Derived.Test.YtoifhhljfaoejaaGreatDoorPkBD
namespace Go.Proofs.YtoifhhljfaoejaaGreatDoor
open Go Go.RowKit
set_option linter.unusedVariables false
set_option linter.unusedSimpArgs false
def p8 (n:Int) (i:Nat):BitVec 8:=BitVec.ofInt 8 (n / 2 ^ (8*(7 - i)))
def packI (n:Int):List (BitVec 8):=listB 8 (p8 n)
def packIs (l:List Int):List (BitVec 8):=(l.map packI).flatten
theorem packI_length (n:Int):(packI n).length=8:=listB_length _ _
theorem packIs_length:∀ l:List Int,(packIs l).length=8*l.length
 | []=>rfl
 | x :: l=>by
  have:=packIs_length l
  unfold packIs at *
  rw [List.map_cons,List.flatten_cons,List.length_append,packI_length,this,List.length_cons];omega
theorem packIs_take (l:List Int) {k:Nat} (h:k<l.length):packIs (l.take (k+1))=packIs (l.take k) ++ packI l[k]:=by
 unfold packIs
 rw [List.take_succ_eq_append_getElem h,List.map_append,List.flatten_append,List.map_cons,List.map_nil,List.flatten_cons,List.flatten_nil,List.append_nil]
theorem B8_p8 (n:Int) (i:Nat):B8 (p8 n i)=n / 2 ^ (8*(7 - i)) % 256:=by
 unfold B8 p8
 rw [BitVec.toNat_ofInt]
 have:0≤n / 2 ^ (8*(7 - i)) % ((2 ^ 8:Nat):Int):=Int.emod_nonneg _ (by decide)
 rw [Int.toNat_of_nonneg this]
 rfl
def encI (l:List Int):List Value:=l.map fun x=> .int .i64 x
theorem encI_length (l:List Int):(encI l).length=l.length:=List.length_map _
theorem info_i64:(Tryz.prog.info? 3).map (fun i=>(i.zero,i.size,i.bytes))=some (some (.int .i64 0),1,8):=by kernel_rfl
instance eltI:Elt 53 3:=elt_of Tryz.underlying53 info_i64 (by omega) rfl
instance segInt1 (d:IntKind) (n:Int):Seg #[.int d n] 0 1 [.int d n]:=⟨rfl,fun u hu=>by
 have:=List.mem_singleton.1 hu
 subst this;rfl,fun i hi=>by
 have:i=0:=by simpa using hi
 subst this
 rfl⟩
theorem and_255' (n:Int):bits .and .i64 n 255=n % 256:=R3.and_255 n
theorem p8_step (n:Int) {j:Nat} (h:j<8):n / 2 ^ (8*j) / 256=n / 2 ^ (8*(j+1)):=by
 have e:(2:Int) ^ (8*(j+1))=2 ^ (8*j)*256:=by rw [Nat.mul_succ,Int.pow_add];rfl
 rw [e,Int.ediv_ediv_of_nonneg (Int.le_of_lt (Int.pow_pos (by decide)))]
def xK (n:Int) (j:Nat):Nat→BitVec 8:=fun i=>if 8 - j≤i then p8 n i else 0
theorem put_x (n:Int) {j:Nat} (h:j<8):Put (rowB 8 (xK n j)) (7 - j) (.int .u8 (B8 (p8 n (7 - j)))) (rowB 8 (xK n (j+1))):=row_put (by omega) (row_congr fun i hi=>by
 unfold upd xK
 by_cases e:i=7 - j
 ·subst e;rw [if_pos rfl,if_pos (by omega)]
 ·rw [if_neg e]
  show Value.int .u8 (B8 (if 8 - j≤i then p8 n i else 0))=_
  by_cases h:8 - j≤i
  ·rw [if_pos h,if_pos (by omega)]
  ·rw [if_neg h,if_neg (by omega)])
instance iInt2:RowZ 211 (rowB 8 fun _=>0):=⟨by kernel_rfl⟩
section
variable {ops:Array Oper} {rest:List Oper} {o:Oper} {a:Act} {w0 w:World} {M M':Mem} {Q:Exit→Act→World→Prop}
theorem lAppNN (hL:Loc w0 w M) (hg:o.guard=none) {s x:Operand} {t e:TypeId} (ho:o.op= .call { callee:= .builtin .append,args:= #[s,x],argTypes:= #[t,t] }) [he:Elt t e]
 (hs:a.eval s= .slice none 0 0) (hx:a.eval x= .slice none 0 0)
 (h:∀ w',Loc w0 w' M→wpList Tryz.prog ops Q rest (a.put o.dst (.slice none 0 0)) w'):wpList Tryz.prog ops Q (o :: rest) a w:=by
 obtain ⟨i,z,hi,hz,hs1,hb,hzs⟩:=he.info
 exact wpList_append_own_none hg s x t ho 0 e i 1 he.und hi (.slice none 0 0) 0 [] hs (World.ownsRow_nil _ _ _ _) hx (h w hL)
end
set_option maxRecDepth 100000 in
set_option maxHeartbeats 2000000 in
theorem refInt_any (vb:Value) (b:List (BitVec 8)) (vl:Value) (l:List Int) (w:World) (hb:BRow w vb b) (hb0:b=[]→vb= .slice none 0 0) (hb1:b.length≤100000) (hl:VRow w vl (encI l)) (hl0:0<l.length) (hl1:l.length≤10000) (hr:∀ x∈l,-9223372036854775808≤x∧x≤9223372036854775807) :
 Calls Tryz.prog 73 #[vb,vl] w fun e w'=>Fresh w (b ++ packIs l) e w':=by
 have hL:=Loc.nil w
 haveI hA:Arg w vb (encB b):=⟨hb.vrow⟩
 obtain ⟨_,al,cl,rfl,_,hcl⟩:=hl
 obtain ⟨bl,ol,rfl,hbl,hcell⟩:=hcl (by rwa [encI_length])
 rw [encI_length]
 have HW:=Lib.hid (fun (k:Nat) (h:k<l.length)=>show Was w bl (ol+k) (.int .i64 l[k]) from ⟨by rw [hcell k (by rwa [encI_length])];simp [encI],hbl⟩)
 have HR:=Lib.hid (fun (k:Nat) (h:k<l.length)=>hr l[k] (List.getElem_mem h))
 have HPL:=Lib.hid (fun k=>packIs_length (l.take k))
 clear hcl hcell hr
 obtain ⟨pb,cb,rfl,hbn,hbp⟩:=hb
 clear hbn hbp
 by_cases hbe:b=[]
 ·have hv:=hb0 hbe
  have hbe':=hbe
  subst hbe
  cases hv
  clear hb0
  go_enter Tryz.func73,Tryz.ntmps73
  go_wp2_with (first | ((with_reducible refine gC 11 ?_);(refine lAppNN hL rfl rfl rfl rfl fun w1 hL1=>?_);clear hL;have hL:=hL1;clear hL1) | (refine aL4S2C9p ?_;clear hL;intro w1 hL) | (refine aX1A1p ?_;clear hL;intro b w1 hL))
  go_loopw [5,6] (fun v kk wr=>∃ k:Nat,k≤l.length∧kk= .int .i64 k∧((k=0∧([]:List (BitVec 8))=[]∧v= .slice none 0 0∧Loc w wr [])∨((0<([]:List (BitVec 8)).length∨0<k)∧∃ (g cap:Nat) (cur:Array Value),v= .slice (some ⟨g,0,none⟩) (([]:List (BitVec 8)).length+8*k) cap∧OwnR cur (([]:List (BitVec 8)).length+8*k) cap (encB ([] ++ packIs (l.take k)))∧Loc w wr [(g,cur,5)]))) (fun _ kk _=>l.length - (intOf kk).toNat)
  case atStart=>exact ⟨0,by omega,rfl,.inl ⟨rfl,rfl,rfl,hL⟩⟩
  case round =>
   clear hL
   obtain ⟨k,hk,rfl,hcase⟩:=hrel
   by_cases hlt:k<l.length
   ·have hlt':k<l.length:=hlt
    have hk0:(0:Int)≤(k:Int):=by omega
    have hk1:(k:Int)<(l.length:Int):=by omega
    haveI g1:=HW.out k hlt'
    obtain ⟨n0,n1⟩:=HR.out k hlt'
    have HT:=Lib.hid (packIs_take l hlt')
    generalize l[k]=n at *
    clear hlt'
    have HX0:=Lib.hid (show (rowB 8 fun _=>0)=rowB 8 (xK n 0) from row_congr fun i hi=>by unfold xK;rw [if_neg (by omega)])
    have HX8:=Lib.hid (show rowB 8 (xK n 8)=rowB 8 (p8 n) from row_congr fun i hi=>by unfold xK;rw [if_pos (by omega)])
    rcases hcase with ⟨rfl,hbz,rfl,hL⟩ | ⟨hpos,g,cap,cur,rfl,hr,hL⟩
    ·skip
     go_wp2_with (first | ((with_reducible refine gS 8 ?_);refine aBp ?_;clear hL;intro b8 w1 hL) | (refine aL4S2C9p ?_;clear hL;intro w1 hL) | (refine aX1A1p ?_;clear hL;intro b w1 hL))
     go_loopw [7,9] (fun nn kk wr=>∃ j:Nat,j≤8∧kk= .int .i64 (7 - (j:Int))∧nn= .int .i64 (n / 2 ^ (8*j))∧Loc w wr [(b8,rowB 8 (xK n j),211)]) (fun _ kk _=>(intOf kk+1).toNat)
     case atStart=>exact ⟨0,by omega,rfl,by simp,by rw [← HX0.out];exact hL⟩
     case round =>
      clear hL
      obtain ⟨j,hj,rfl,rfl,hL⟩:=hrel
      by_cases hj8:j<8
      ·have hq:=p8_step n hj8
       have k0:(0:Int)≤7 - (j:Int):=by omega
       have k1:¬ 7 - (j:Int)<0:=by omega
       have k2:7 - (j:Int)<8:=by omega
       have k3:(j:Int)≤7:=by omega
       have ek:7 - (j:Int)=((7 - j:Nat):Int):=by omega
       have ha:=and_255' (n / 2 ^ (8*j))
       obtain ⟨v0,v1⟩:=B8_bd (p8 n (7 - j))
       have hv:bits .and .i64 (n / 2 ^ (8*j)) 255=B8 (p8 n (7 - j)):=by rw [ha,B8_p8,show 7 - (7 - j)=j from by omega]
       have wv:IntKind.u8.wrap (bits .and .i64 (n / 2 ^ (8*j)) 255)=B8 (p8 n (7 - j)):=by rw [hv,IntKind.wrap_u8];omega
       haveI p1:=put_x n hj8
       have hs:n / 2 ^ (8*j) / 256=n / 2 ^ (8*(j+1)):=hq
       have HS:=Lib.hid hs
       have q0:(0:Int)≤((7 - j:Nat):Int):=by omega
       have q1:((7 - j:Nat):Int)<8:=by omega
       rw [ek]
       have HEK:=Lib.hid ek
       clear hq ha hs ek hv k0 k1 k2
       generalize B8 (p8 n (7 - j))=bb at *
       generalize 7 - j=jj at *
       generalize hnd':n / 2 ^ (8*(j+1))=nd' at *
       have HND:=Lib.hid hnd'
       clear hnd'
       generalize n / 2 ^ (8*j)=nd at *
       go_wp2_with (first | (refine aL4S2C9p ?_;clear hL;intro w1 hL) | (refine aX1A1p ?_;clear hL;intro b w1 hL))
       go_roundw
       case rel=>exact ⟨j+1,by omega,by rw [show (jj:Int) - 1=7 - ((j+1:Nat):Int) from by have:=HEK.out;omega],by rw [HND.out,HS.out],hL⟩
       case measure=>simp [intOf]
      ·obtain rfl:j=8:=by omega
       rw [HX8.out] at hL
       rw [show (7:Int) - ((8:Nat):Int)= -1 from rfl]
       generalize n / 2 ^ (8*8)=nd at *
       go_wp2_with (first | ((with_reducible refine gC 35 ?_);(refine lAppBN hL rfl rfl rfl rfl (by first | omega | (simp;omega) | simp) (by first | omega | (simp;omega) | simp) fun g35 cap35 cur35 w1 hr35 hL1=>?_);clear hL;have hL:=hL1;clear hL1;refine p4 ?_) | (refine aL4S2C9p ?_;clear hL;intro w1 hL) | (refine aX1A1p ?_;clear hL;intro b w1 hL))
       go_roundw
       case rel=>exact ⟨0+1,by omega,by go_num,.inr ⟨.inr (by omega),g35,cap35,cur35,rfl,by rw [HT.out];exact hr35,(Loc.rem b8 hL)⟩⟩
       case measure=>simp [intOf];omega
    ·generalize hpre:[] ++ packIs (l.take k)=pre at *
     have HPRE:=Lib.hid hpre
     clear hpre
     generalize hm:([]:List (BitVec 8)).length+8*k=m at *
     have HM:=Lib.hid hm
     have hm1:m≤1000000:=by omega
     clear hm
     go_wp2_with (first | ((with_reducible refine gS 8 ?_);refine aBp ?_;clear hL;intro b8 w1 hL) | (refine aL4S2C9p ?_;clear hL;intro w1 hL) | (refine aX1A1p ?_;clear hL;intro b w1 hL))
     go_loopw [7,9] (fun nn kk wr=>∃ j:Nat,j≤8∧kk= .int .i64 (7 - (j:Int))∧nn= .int .i64 (n / 2 ^ (8*j))∧Loc w wr [(b8,rowB 8 (xK n j),211),(g,cur,5)]) (fun _ kk _=>(intOf kk+1).toNat)
     case atStart=>exact ⟨0,by omega,rfl,by simp,by rw [← HX0.out];exact hL⟩
     case round =>
      clear hL
      obtain ⟨j,hj,rfl,rfl,hL⟩:=hrel
      by_cases hj8:j<8
      ·have hq:=p8_step n hj8
       have k0:(0:Int)≤7 - (j:Int):=by omega
       have k1:¬ 7 - (j:Int)<0:=by omega
       have k2:7 - (j:Int)<8:=by omega
       have k3:(j:Int)≤7:=by omega
       have ek:7 - (j:Int)=((7 - j:Nat):Int):=by omega
       have ha:=and_255' (n / 2 ^ (8*j))
       obtain ⟨v0,v1⟩:=B8_bd (p8 n (7 - j))
       have hv:bits .and .i64 (n / 2 ^ (8*j)) 255=B8 (p8 n (7 - j)):=by rw [ha,B8_p8,show 7 - (7 - j)=j from by omega]
       have wv:IntKind.u8.wrap (bits .and .i64 (n / 2 ^ (8*j)) 255)=B8 (p8 n (7 - j)):=by rw [hv,IntKind.wrap_u8];omega
       haveI p1:=put_x n hj8
       have hs:n / 2 ^ (8*j) / 256=n / 2 ^ (8*(j+1)):=hq
       have HS:=Lib.hid hs
       have q0:(0:Int)≤((7 - j:Nat):Int):=by omega
       have q1:((7 - j:Nat):Int)<8:=by omega
       rw [ek]
       have HEK:=Lib.hid ek
       clear hq ha hs ek hv k0 k1 k2
       generalize B8 (p8 n (7 - j))=bb at *
       generalize 7 - j=jj at *
       generalize hnd':n / 2 ^ (8*(j+1))=nd' at *
       have HND:=Lib.hid hnd'
       clear hnd'
       generalize n / 2 ^ (8*j)=nd at *
       go_wp2_with (first | (refine aL4S2C9p ?_;clear hL;intro w1 hL) | (refine aX1A1p ?_;clear hL;intro b w1 hL))
       go_roundw
       case rel=>exact ⟨j+1,by omega,by rw [show (jj:Int) - 1=7 - ((j+1:Nat):Int) from by have:=HEK.out;omega],by rw [HND.out,HS.out],hL⟩
       case measure=>simp [intOf]
      ·obtain rfl:j=8:=by omega
       rw [HX8.out] at hL
       rw [show (7:Int) - ((8:Nat):Int)= -1 from rfl]
       generalize n / 2 ^ (8*8)=nd at *
       go_wp2_with (first | ((with_reducible refine gC 35 ?_);(refine lAppB hL rfl rfl rfl rfl (by first | omega | (simp;omega) | simp) fun g35 cap35 cur35 w1 hr35 hL1=>?_);(try dsimp only at hL1);clear hL;have hL:=hL1;clear hL1;refine p4 ?_) | (refine aL4S2C9p ?_;clear hL;intro w1 hL) | (refine aX1A1p ?_;clear hL;intro b w1 hL))
       go_roundw
       case rel=>exact ⟨k+1,by omega,by go_num,.inr ⟨.inr (by omega),g35,cap35,cur35,by rw [show ([]:List (BitVec 8)).length+8*(k+1)=m+8 from by have:=HM.out;omega],by rw [show ([]:List (BitVec 8)).length+8*(k+1)=m+8 from by have:=HM.out;omega,HT.out,← List.append_assoc,HPRE.out];exact hr35,(Loc.rem b8 hL)⟩⟩
       case measure=>simp [intOf];omega
   ·obtain rfl:k=l.length:=by omega
    rcases hcase with ⟨hz,_,_,_⟩ | ⟨hpos,g,cap,cur,rfl,hr,hL⟩
    ·omega
    ·have ht:l.take l.length=l:=List.take_length
     rw [ht] at hr
     have hlen:([]:List (BitVec 8)).length+8*l.length=([] ++ packIs l).length:=by rw [List.length_append,packIs_length]
     rw [hlen] at hr ⊢
     clear HW HR HPL ht hlen
     simp only [List.nil_append] at hr
     go_wp2_with (first | (refine aL4S2C9p ?_;clear hL;intro w1 hL) | (refine aX1A1p ?_;clear hL;intro b w1 hL))
     go_ret
     exact hL.back rfl
 ·have hbp:0<b.length:=by
   rcases Nat.eq_zero_or_pos b.length with h | h
   ·exact absurd (List.eq_nil_of_length_eq_zero h) hbe
   ·exact h
  clear hb0
  go_enter Tryz.func73,Tryz.ntmps73
  go_wp2_with (first | ((with_reducible refine gC 11 ?_);(refine lAppBN hL rfl rfl rfl rfl hbp (by first | omega | (simp;omega) | simp) fun g11 cap11 cur11 w1 hr11 hL1=>?_);clear hL;have hL:=hL1;clear hL1;refine p4 ?_) | (refine aL4S2C9p ?_;clear hL;intro w1 hL) | (refine aX1A1p ?_;clear hL;intro b w1 hL))
  go_loopw [5,6] (fun v kk wr=>∃ k:Nat,k≤l.length∧kk= .int .i64 k∧((k=0∧b=[]∧v= .slice none 0 0∧Loc w wr [])∨((0<b.length∨0<k)∧∃ (g cap:Nat) (cur:Array Value),v= .slice (some ⟨g,0,none⟩) (b.length+8*k) cap∧OwnR cur (b.length+8*k) cap (encB (b ++ packIs (l.take k)))∧Loc w wr [(g,cur,5)]))) (fun _ kk _=>l.length - (intOf kk).toNat)
  case atStart=>exact ⟨0,by omega,rfl,.inr ⟨.inl hbp,g11,cap11,cur11,rfl,by simpa [packIs] using hr11,hL⟩⟩
  case round =>
   clear hL
   obtain ⟨k,hk,rfl,hcase⟩:=hrel
   by_cases hlt:k<l.length
   ·have hlt':k<l.length:=hlt
    have hk0:(0:Int)≤(k:Int):=by omega
    have hk1:(k:Int)<(l.length:Int):=by omega
    haveI g1:=HW.out k hlt'
    obtain ⟨n0,n1⟩:=HR.out k hlt'
    have HT:=Lib.hid (packIs_take l hlt')
    generalize l[k]=n at *
    clear hlt'
    have HX0:=Lib.hid (show (rowB 8 fun _=>0)=rowB 8 (xK n 0) from row_congr fun i hi=>by unfold xK;rw [if_neg (by omega)])
    have HX8:=Lib.hid (show rowB 8 (xK n 8)=rowB 8 (p8 n) from row_congr fun i hi=>by unfold xK;rw [if_pos (by omega)])
    rcases hcase with ⟨rfl,hbz,rfl,hL⟩ | ⟨hpos,g,cap,cur,rfl,hr,hL⟩
    ·rw [hbz] at hbp
     exact absurd hbp (by simp)
    ·generalize hpre:b ++ packIs (l.take k)=pre at *
     have HPRE:=Lib.hid hpre
     clear hpre
     generalize hm:b.length+8*k=m at *
     have HM:=Lib.hid hm
     have hm1:m≤1000000:=by omega
     clear hm
     go_wp2_with (first | ((with_reducible refine gS 8 ?_);refine aBp ?_;clear hL;intro b8 w1 hL) | (refine aL4S2C9p ?_;clear hL;intro w1 hL) | (refine aX1A1p ?_;clear hL;intro b w1 hL))
     go_loopw [7,9] (fun nn kk wr=>∃ j:Nat,j≤8∧kk= .int .i64 (7 - (j:Int))∧nn= .int .i64 (n / 2 ^ (8*j))∧Loc w wr [(b8,rowB 8 (xK n j),211),(g,cur,5)]) (fun _ kk _=>(intOf kk+1).toNat)
     case atStart=>exact ⟨0,by omega,rfl,by simp,by rw [← HX0.out];exact hL⟩
     case round =>
      clear hL
      obtain ⟨j,hj,rfl,rfl,hL⟩:=hrel
      by_cases hj8:j<8
      ·have hq:=p8_step n hj8
       have k0:(0:Int)≤7 - (j:Int):=by omega
       have k1:¬ 7 - (j:Int)<0:=by omega
       have k2:7 - (j:Int)<8:=by omega
       have k3:(j:Int)≤7:=by omega
       have ek:7 - (j:Int)=((7 - j:Nat):Int):=by omega
       have ha:=and_255' (n / 2 ^ (8*j))
       obtain ⟨v0,v1⟩:=B8_bd (p8 n (7 - j))
       have hv:bits .and .i64 (n / 2 ^ (8*j)) 255=B8 (p8 n (7 - j)):=by rw [ha,B8_p8,show 7 - (7 - j)=j from by omega]
       have wv:IntKind.u8.wrap (bits .and .i64 (n / 2 ^ (8*j)) 255)=B8 (p8 n (7 - j)):=by rw [hv,IntKind.wrap_u8];omega
       haveI p1:=put_x n hj8
       have hs:n / 2 ^ (8*j) / 256=n / 2 ^ (8*(j+1)):=hq
       have HS:=Lib.hid hs
       have q0:(0:Int)≤((7 - j:Nat):Int):=by omega
       have q1:((7 - j:Nat):Int)<8:=by omega
       rw [ek]
       have HEK:=Lib.hid ek
       clear hq ha hs ek hv k0 k1 k2
       generalize B8 (p8 n (7 - j))=bb at *
       generalize 7 - j=jj at *
       generalize hnd':n / 2 ^ (8*(j+1))=nd' at *
       have HND:=Lib.hid hnd'
       clear hnd'
       generalize n / 2 ^ (8*j)=nd at *
       go_wp2_with (first | (refine aL4S2C9p ?_;clear hL;intro w1 hL) | (refine aX1A1p ?_;clear hL;intro b w1 hL))
       go_roundw
       case rel=>exact ⟨j+1,by omega,by rw [show (jj:Int) - 1=7 - ((j+1:Nat):Int) from by have:=HEK.out;omega],by rw [HND.out,HS.out],hL⟩
       case measure=>simp [intOf]
      ·obtain rfl:j=8:=by omega
       rw [HX8.out] at hL
       rw [show (7:Int) - ((8:Nat):Int)= -1 from rfl]
       generalize n / 2 ^ (8*8)=nd at *
       go_wp2_with (first | ((with_reducible refine gC 35 ?_);(refine lAppB hL rfl rfl rfl rfl (by first | omega | (simp;omega) | simp) fun g35 cap35 cur35 w1 hr35 hL1=>?_);(try dsimp only at hL1);clear hL;have hL:=hL1;clear hL1;refine p4 ?_) | (refine aL4S2C9p ?_;clear hL;intro w1 hL) | (refine aX1A1p ?_;clear hL;intro b w1 hL))
       go_roundw
       case rel=>exact ⟨k+1,by omega,by go_num,.inr ⟨.inr (by omega),g35,cap35,cur35,by rw [show b.length+8*(k+1)=m+8 from by have:=HM.out;omega],by rw [show b.length+8*(k+1)=m+8 from by have:=HM.out;omega,HT.out,← List.append_assoc,HPRE.out];exact hr35,(Loc.rem b8 hL)⟩⟩
       case measure=>simp [intOf];omega
   ·obtain rfl:k=l.length:=by omega
    rcases hcase with ⟨hz,_,_,_⟩ | ⟨hpos,g,cap,cur,rfl,hr,hL⟩
    ·omega
    ·have ht:l.take l.length=l:=List.take_length
     rw [ht] at hr
     have hlen:b.length+8*l.length=(b ++ packIs l).length:=by rw [List.length_append,packIs_length]
     rw [hlen] at hr ⊢
     clear HW HR HPL ht hlen
     go_wp2_with (first | (refine aL4S2C9p ?_;clear hL;intro w1 hL) | (refine aX1A1p ?_;clear hL;intro b w1 hL))
     go_ret
     exact hL.back rfl
theorem encI_one (n:Int):encI [n]=[.int .i64 n]:=rfl
theorem nil_brow (w:World):BRow w (.slice none 0 0) []:=⟨none,0,rfl,fun _=>rfl,fun h=>absurd h (by simp)⟩
set_option maxRecDepth 100000 in
set_option maxHeartbeats 1000000 in
theorem refOne_any (n:Int) (w:World) (h: -9223372036854775808≤n∧n≤9223372036854775807):Calls Tryz.prog 30 #[.int .i64 n] w fun e w'=>Fresh w (packI n) e w':=by
 have hL:=Loc.nil w
 have HI:=Lib.hid (fun w1 (v:Value) (hv:VRow w1 v (encI [n]))=>refInt_any (.slice none 0 0) [] v [n] w1 (nil_brow w1) (fun _=>rfl) (by simp) hv (by simp) (by simp) (fun x hx=>by rw [List.mem_singleton.1 hx];exact h))
 rw [show [] ++ packIs [n]=packI n from by unfold packIs;simp,encI_one] at HI
 go_enter Tryz.func30,Tryz.ntmps30
 go_wp2_with (first | ((with_reducible show wpList _ _ _ (⟨some 4,.buildSlice _ _ _,_,_,_,_⟩ :: _) _ _);(first | refine lBS1i hL rfl rfl rfl fun b4 w1 hL1=>?_ | refine lBS1s hL rfl rfl rfl fun b4 w1 hL1=>?_ | refine lBS2s hL rfl rfl rfl rfl fun b4 w1 hL1=>?_ | refine lBS3s hL rfl rfl rfl rfl rfl fun b4 w1 hL1=>?_);clear hL;have hL:=hL1;clear hL1;refine p4 ?_) | (go_at_call 73;go_loud (refine (HI.out _ _ (See.see _ hL)).mono ?_);rintro e w1 ⟨g5,cap5,cur5,rfl,hr5,hg5,hc5,hb5⟩;have hL1:=hL.fresh hb5 hg5 hc5;clear hb5 hg5 hc5;clear hL;have hL:=hL1;clear hL1;refine p4 ?_) | (refine aL4S2C9p ?_;clear hL;intro w1 hL) | (refine aX1A1p ?_;clear hL;intro b w1 hL))
 go_ret
 exact hL.back rfl
instance iInt4:Ent 30:=Ent.of Tryz.func30 (by kernel_rfl) rfl
section
variable {ops:Array Oper} {rest:List Oper} {o:Oper} {a:Act} {w0 w:World} {M M':Mem} {Q:Exit→Act→World→Prop}
theorem ownNil:OwnR #[] 0 0 []:=⟨rfl,fun u hu=>(List.not_mem_nil hu).elim,rfl,Nat.le_refl _,by decide,rfl⟩
instance ownNilB:OwnR #[] 0 0 (encB []):=ownNil
theorem lBS0 (hL:Loc w0 w M) (hg:o.guard=none) {t e:TypeId} (ho:o.op= .buildSlice t 0 #[]) [he:Elt t e]
 (h:∀ b w',Loc w0 w' ((b, #[],e) :: M)→wpList Tryz.prog ops Q rest (a.put o.dst (.slice (some ⟨b,0,none⟩) 0 0)) w'):wpList Tryz.prog ops Q (o :: rest) a w :=
 wpList_plain hg fun K hK=>by
  obtain ⟨i,z,hi,hz,hs1,hb,hzs⟩:=he.info
  have hrun:(Instr.buildSlice t 0 #[]).run Tryz.prog w= .ok (.slice (some ⟨w.heap.size,0,none⟩) 0 0) (w.alloc (.cells #[] e)):=by
   have e0:Array.range 0= #[]:=rfl
   simp [Instr.buildSlice,run_underlying he.und,sizeOf,typeInfo,hi,Instr.fill,newRow,e0]
  unfold Oper.wp execOp
  simp only [ho,Sem.run_bind,List.map_toArray,List.map_nil,hrun,Result.andThen_ok,Sem.run_pure]
  exact hK _ _ (h _ _ (hL.alloc #[] e))
end
theorem eql_nil (w:World):(binOp .eql 29 (.slice none 0 0) (.slice none 0 0)).run Tryz.prog w= .ok (.bool true) w:=by kernel_rfl
theorem eql_some (a:Addr) (n c:Nat) (w:World):(binOp .eql 29 (.slice (some a) n c) (.slice none 0 0)).run Tryz.prog w= .ok (.bool false) w:=by kernel_rfl
set_option maxRecDepth 100000 in
set_option maxHeartbeats 1000000 in
theorem clone_any (v:Value) (b:List (BitVec 8)) (w:World) (hb:BRow w v b) (h0:0<b.length) (h1:b.length≤1000000):Calls Tryz.prog 94 #[v] w fun e w'=>Fresh w b e w':=by
 have hL:=Loc.nil w
 haveI hA:Arg w v (encB b):=⟨hb.vrow⟩
 obtain ⟨a,c,rfl,hn,hp⟩:=hb
 obtain ⟨bb,off,rfl,_,_⟩:=hp h0
 clear hn hp
 have he:=eql_some
 go_enter Tryz.func94,Tryz.ntmps94
 go_wp2_with (first | ((with_reducible show wpList _ _ _ (⟨some 5,.buildSlice _ _ _,_,_,_,_⟩ :: _) _ _);(refine lBS0 hL rfl rfl fun b5 w1 hL1=>?_);clear hL;have hL:=hL1;clear hL1) | ((with_reducible refine gC 7 ?_);(refine lAppB hL rfl rfl rfl rfl (by first | omega | (simp;omega) | simp) fun g7 cap7 cur7 w1 hr7 hL1=>?_);(try dsimp only at hL1);clear hL;have hL:=hL1;clear hL1;refine p4 ?_) | (refine aL4S2C9p ?_;clear hL;intro w1 hL) | (refine aX1A1p ?_;clear hL;intro b w1 hL))
 rw [Nat.zero_add,List.nil_append] at hr7
 go_ret
 exact hL.back (g:=g7) (cap:=cap7) (by simp)
instance iInt5:Ent 94:=Ent.of Tryz.func94 (by kernel_rfl) rfl
set_option maxRecDepth 100000 in
theorem clone_nil (w:World):Calls Tryz.prog 94 #[.slice none 0 0] w fun e w'=>e= .returned (.slice none 0 0)∧w=w':=by
 have he:=eql_nil
 go_enter Tryz.func94,Tryz.ntmps94
 go_wp2
 go_ret
 exact ⟨rfl,rfl⟩
end Go.Proofs.YtoifhhljfaoejaaGreatDoor
namespace Go.Proofs.YtoifhhljfaoejaaGreatDoor
open Go Go.RowKit
set_option linter.unusedVariables false
set_option linter.unusedSimpArgs false
theorem p8_u (n:Int) {j:Nat} (h:j<8):IntKind.u8.wrap (IntKind.u64.wrap n / 2 ^ (8*(7 - j)))=B8 (p8 n j):=by
 rw [B8_p8,IntKind.wrap_u8,IntKind.wrap_u64]
 have hj:j=0∨j=1∨j=2∨j=3∨j=4∨j=5∨j=6∨j=7:=by omega
 rcases hj with rfl | rfl | rfl | rfl | rfl | rfl | rfl | rfl <;> simp only [Nat.reduceSub,Nat.reduceMul,Int.reducePow] <;> omega
theorem packI_take (n:Int) {j:Nat} (h:j<8):(packI n).take (j+1)=(packI n).take j ++ [p8 n j]:=by
 rw [List.take_succ_eq_append_getElem (by rw [packI_length];exact h)]
 simp [packI,listB]
set_option maxRecDepth 100000 in
set_option maxHeartbeats 2000000 in
theorem packInt_any (vb:Value) (b:List (BitVec 8)) (vl:Value) (l:List Int) (w:World) (hb:BRow w vb b) (hb0:0<b.length) (hb1:b.length≤100000) (hl:VRow w vl (encI l)) (hl1:l.length≤10000) :
 Calls Tryz.prog 202 #[vb,vl] w fun e w'=>Fresh w (b ++ packIs l) e w':=by
 have hL:=Loc.nil w
 have HC:=Lib.hid (clone_any vb b w hb hb0 (by omega))
 obtain ⟨_,al,cl,rfl,_,hcl⟩:=hl
 rw [encI_length]
 have HW:=Lib.hid (fun (k:Nat) (h:k<l.length)=>show ∃ bl ol,al=some ⟨bl,ol,none⟩∧Was w bl (ol+k) (.int .i64 l[k]) from by
  obtain ⟨bl,ol,e,hbl,hcell⟩:=hcl (by rw [encI_length];omega)
  exact ⟨bl,ol,e,by rw [hcell k (by rwa [encI_length])];simp [encI],hbl⟩)
 clear hcl hb
 go_enter Tryz.func202,Tryz.ntmps202
 go_wp2_with (first | (go_at_call 94;go_loud (refine (HC.out).mono ?_);rintro e w1 ⟨g11,cap11,cur11,rfl,hr11,hg11,hc11,hb11⟩;have hL1:=hL.fresh hb11 hg11 hc11;clear hb11 hg11 hc11;clear hL;have hL:=hL1;clear hL1;refine p4 ?_) | (refine aL4S2C9p ?_;clear hL;intro w1 hL) | (refine aX1A1p ?_;clear hL;intro b w1 hL))
 go_loopw [5,14] (fun v kk wr=>∃ (k g cap:Nat) (cur:Array Value),k≤l.length∧kk= .int .i64 k∧v= .slice (some ⟨g,0,none⟩) (b.length+8*k) cap∧OwnR cur (b.length+8*k) cap (encB (b ++ packIs (l.take k)))∧Loc w wr [(g,cur,5)]) (fun _ kk _=>l.length - (intOf kk).toNat)
 case atStart=>exact ⟨0,g11,cap11,cur11,by omega,rfl,rfl,by simpa [packIs] using hr11,hL⟩
 case round =>
  clear hL
  obtain ⟨k,g,cap,cur,hk,rfl,rfl,hr,hL⟩:=hrel
  by_cases hlt:k<l.length
  ·have hk0:(0:Int)≤(k:Int):=by omega
   have hk1:(k:Int)<(l.length:Int):=by omega
   obtain ⟨bl,ol,e,g1⟩:=HW.out k hlt
   rw [e]
   have HT:=Lib.hid (packIs_take l hlt)
   generalize l[k]=n at *
   generalize hpre:b ++ packIs (l.take k)=pre at *
   have HPRE:=Lib.hid hpre
   clear hpre
   generalize hm:b.length+8*k=m at *
   have HM:=Lib.hid hm
   have hm1:m≤1000000:=by omega
   clear hm e
   have HP8:=Lib.hid (fun j (h:j<8)=>p8_u n h)
   have HPT:=Lib.hid (fun j (h:j<8)=>packI_take n h)
   have HP0:=Lib.hid (show (packI n).take 0=[] from rfl)
   have HPF:=Lib.hid (show (packI n).take 8=packI n from List.take_of_length_le (by rw [packI_length];exact Nat.le_refl _))
   go_wp2_with (first | (refine aL4S2C9p ?_;clear hL;intro w1 hL) | (refine aX1A1p ?_;clear hL;intro b w1 hL))
   generalize IntKind.u64.wrap n=u at *
   go_loopw [5,9] (fun v kk wr=>∃ (j g cap:Nat) (cur:Array Value),j≤8∧kk= .int .i64 (7 - (j:Int))∧v= .slice (some ⟨g,0,none⟩) (m+j) cap∧OwnR cur (m+j) cap (encB (pre ++ (packI n).take j))∧Loc w wr [(g,cur,5)]) (fun _ kk _=>(intOf kk+1).toNat)
   case atStart=>exact ⟨0,g,cap,cur,by omega,rfl,rfl,by rw [HP0.out,List.append_nil];exact hr,hL⟩
   case round =>
    clear hL hr
    obtain ⟨j,g,cap,cur,hj,rfl,rfl,hr,hL⟩:=hrel
    by_cases hj8:j<8
    ·have e8:=HP8.out j hj8
     rw [IntKind.wrap_u8] at e8
     have ht:=HPT.out j hj8
     have HT2:=Lib.hid ht
     clear ht
     have k0:(0:Int)≤7 - (j:Int):=by omega
     have k1:7 - (j:Int)≤7:=by omega
     have hm2:m+j≤2000000:=by omega
     have k2:¬ 8*(7 - (j:Int))<0:=by omega
     have k3:8*(7 - (j:Int))<64:=by omega
     have e9:(8*(7 - (j:Int))).toNat=8*(7 - j):=by omega
     generalize hs:p8 n j=bb at *
     generalize hq:(packI n).take j=pj at *
     generalize hq':(packI n).take (j+1)=pj' at *
     generalize hm':m+j=mj at *
     have HM2:=Lib.hid hm'
     have HQ:=Lib.hid hq'
     clear hq hq' hm' hs
     generalize hk':7 - (j:Int)=kk at *
     have HK:=Lib.hid hk'
     clear hk'
     generalize 8*(7 - j)=sh at *
     go_wp2_with (first | ((with_reducible show wpList _ _ _ (⟨some 30,.buildSlice _ _ _,_,_,_,_⟩ :: _) _ _);rw [e8];(refine lBS1i hL rfl rfl rfl fun b30 w1 hL1=>?_);clear hL;have hL:=hL1;clear hL1) | ((with_reducible refine gC 31 ?_);(refine lAppB hL rfl rfl rfl rfl (by first | omega | (simp;omega) | simp) fun g31 cap31 cur31 w1 hr31 hL1=>?_);(try dsimp only at hL1);clear hL;have hL:=hL1;clear hL1;refine p4 ?_) | (refine aL4S2C9p ?_;clear hL;intro w1 hL) | (refine aX1A1p ?_;clear hL;intro b w1 hL))
     go_roundw
     case rel=>exact ⟨j+1,g31,cap31,cur31,by omega,by rw [show kk - 1=7 - ((j+1:Nat):Int) from by have:=HK.out;omega],by rw [← HM2.out];rfl,by rw [← HM2.out] at hr31;rw [HQ.out,HT2.out,← List.append_assoc];exact hr31,Loc.rem b30 hL⟩
     case measure=>simp [intOf];omega
    ·obtain rfl:j=8:=by omega
     rw [show (7:Int) - ((8:Nat):Int)= -1 from rfl]
     rw [HPF.out,← HPRE.out,List.append_assoc,← HT.out] at hr
     rw [← HM.out,show b.length+8*k+8=b.length+8*(k+1) from by omega] at hr ⊢
     go_wp2_with (first | (refine aL4S2C9p ?_;clear hL;intro w1 hL) | (refine aX1A1p ?_;clear hL;intro b w1 hL))
     go_roundw
     case rel=>exact ⟨k+1,g,cap,cur,by omega,by go_num,rfl,hr,hL⟩
     case measure=>simp [intOf];omega
  ·obtain rfl:k=l.length:=by omega
   have ht:l.take l.length=l:=List.take_length
   rw [ht] at hr
   have hlen:b.length+8*l.length=(b ++ packIs l).length:=by rw [List.length_append,packIs_length]
   rw [hlen] at hr ⊢
   clear HW ht hlen
   go_wp2_with (first | (refine aL4S2C9p ?_;clear hL;intro w1 hL) | (refine aX1A1p ?_;clear hL;intro b w1 hL))
   go_ret
   exact hL.back rfl
instance iPk1:Ent 202:=Ent.of Tryz.func202 (by kernel_rfl) rfl
end Go.Proofs.YtoifhhljfaoejaaGreatDoor
