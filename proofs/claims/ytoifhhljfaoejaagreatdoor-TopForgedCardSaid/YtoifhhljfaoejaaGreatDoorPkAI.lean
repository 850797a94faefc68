/-
  Lemmas of the law, part 9: the walks of the functions that it calls and the plain facts about them. No condition beyond those written.
-/
import Derived.Test.YtoifhhljfaoejaaGreatDoorPkAA
import Derived.Test.YtoifhhljfaoejaaGreatDoorPkAH
set_option maxRecDepth 100000
set_option maxHeartbeats 8000000
set_option linter.unusedVariables false
set_option linter.unusedSimpArgs false
set_option linter.unusedSectionVars false
namespace Go.Proofs.YtoifhhljfaoejaaGreatDoor
open Go.Proofs.Tryz
namespace Shb
open Go Go.Proofs.YtoifhhljfaoejaaGreatDoor Go.RowKit
instance JD:Ent 187:=eo func187
theorem JE(x:BitVec 64)(w:World):Calls prog 187 #[.int .u64 (Q x),.int .u64 1] w fun e w'=>e= .returned (.int .u64 (Q (aS x 63)))∧w=w':=by
 obtain⟨h0,h1⟩:=iW x;have HV:=Hd (dW x 63 1 rfl);go_enter func187,ntmps187;go_wp2;go_ret;exact⟨congrArg (fun z=>Ending.returned (.int .u64 z)) HV.out,rfl⟩
instance JF(x:BitVec 64):FnC 187 #[.int .u64 (Q x),.int .u64 1] (.int .u64 (Q (aS x 63))):=⟨fun w=>cA (JE x w)⟩
theorem JG(x:BitVec 64)(w:World):Calls prog 187 #[.int .u64 (Q x),.int .u64 8] w fun e w'=>e= .returned (.int .u64 (Q (aS x 56)))∧w=w':=by
 obtain⟨h0,h1⟩:=iW x;have HV:=Hd (dW x 56 8 rfl);go_enter func187,ntmps187;go_wp2;go_ret;exact⟨congrArg (fun z=>Ending.returned (.int .u64 z)) HV.out,rfl⟩
instance JH(x:BitVec 64):FnC 187 #[.int .u64 (Q x),.int .u64 8] (.int .u64 (Q (aS x 56))):=⟨fun w=>cA (JG x w)⟩
theorem Ho(x:BitVec 64)(w:World):Calls prog 187 #[.int .u64 (Q x),.int .u64 19] w fun e w'=>e= .returned (.int .u64 (Q (aS x 45)))∧w=w':=by
 obtain⟨h0,h1⟩:=iW x;have HV:=Hd (dW x 45 19 rfl);go_enter func187,ntmps187;go_wp2;go_ret;exact⟨congrArg (fun z=>Ending.returned (.int .u64 z)) HV.out,rfl⟩
instance JI(x:BitVec 64):FnC 187 #[.int .u64 (Q x),.int .u64 19] (.int .u64 (Q (aS x 45))):=⟨fun w=>cA (Ho x w)⟩
theorem Hp(x:BitVec 64)(w:World):Calls prog 187 #[.int .u64 (Q x),.int .u64 61] w fun e w'=>e= .returned (.int .u64 (Q (aS x 3)))∧w=w':=by
 obtain⟨h0,h1⟩:=iW x;have HV:=Hd (dW x 3 61 rfl);go_enter func187,ntmps187;go_wp2;go_ret;exact⟨congrArg (fun z=>Ending.returned (.int .u64 z)) HV.out,rfl⟩
instance JJ(x:BitVec 64):FnC 187 #[.int .u64 (Q x),.int .u64 61] (.int .u64 (Q (aS x 3))):=⟨fun w=>cA (Hp x w)⟩
theorem Hq(x:BitVec 64)(w:World):Calls prog 187 #[.int .u64 (Q x),.int .u64 14] w fun e w'=>e= .returned (.int .u64 (Q (aS x 50)))∧w=w':=by
 obtain⟨h0,h1⟩:=iW x;have HV:=Hd (dW x 50 14 rfl);go_enter func187,ntmps187;go_wp2;go_ret;exact⟨congrArg (fun z=>Ending.returned (.int .u64 z)) HV.out,rfl⟩
instance JK(x:BitVec 64):FnC 187 #[.int .u64 (Q x),.int .u64 14] (.int .u64 (Q (aS x 50))):=⟨fun w=>cA (Hq x w)⟩
theorem Hr(x:BitVec 64)(w:World):Calls prog 187 #[.int .u64 (Q x),.int .u64 18] w fun e w'=>e= .returned (.int .u64 (Q (aS x 46)))∧w=w':=by
 obtain⟨h0,h1⟩:=iW x;have HV:=Hd (dW x 46 18 rfl);go_enter func187,ntmps187;go_wp2;go_ret;exact⟨congrArg (fun z=>Ending.returned (.int .u64 z)) HV.out,rfl⟩
instance JL(x:BitVec 64):FnC 187 #[.int .u64 (Q x),.int .u64 18] (.int .u64 (Q (aS x 46))):=⟨fun w=>cA (Hr x w)⟩
theorem Hs(x:BitVec 64)(w:World):Calls prog 187 #[.int .u64 (Q x),.int .u64 41] w fun e w'=>e= .returned (.int .u64 (Q (aS x 23)))∧w=w':=by
 obtain⟨h0,h1⟩:=iW x;have HV:=Hd (dW x 23 41 rfl);go_enter func187,ntmps187;go_wp2;go_ret;exact⟨congrArg (fun z=>Ending.returned (.int .u64 z)) HV.out,rfl⟩
instance JM(x:BitVec 64):FnC 187 #[.int .u64 (Q x),.int .u64 41] (.int .u64 (Q (aS x 23))):=⟨fun w=>cA (Hs x w)⟩
theorem Ht(x:BitVec 64)(w:World):Calls prog 187 #[.int .u64 (Q x),.int .u64 28] w fun e w'=>e= .returned (.int .u64 (Q (aS x 36)))∧w=w':=by
 obtain⟨h0,h1⟩:=iW x;have HV:=Hd (dW x 36 28 rfl);go_enter func187,ntmps187;go_wp2;go_ret;exact⟨congrArg (fun z=>Ending.returned (.int .u64 z)) HV.out,rfl⟩
instance JN(x:BitVec 64):FnC 187 #[.int .u64 (Q x),.int .u64 28] (.int .u64 (Q (aS x 36))):=⟨fun w=>cA (Ht x w)⟩
theorem Hu(x:BitVec 64)(w:World):Calls prog 187 #[.int .u64 (Q x),.int .u64 34] w fun e w'=>e= .returned (.int .u64 (Q (aS x 30)))∧w=w':=by
 obtain⟨h0,h1⟩:=iW x;have HV:=Hd (dW x 30 34 rfl);go_enter func187,ntmps187;go_wp2;go_ret;exact⟨congrArg (fun z=>Ending.returned (.int .u64 z)) HV.out,rfl⟩
instance Iy(x:BitVec 64):FnC 187 #[.int .u64 (Q x),.int .u64 34] (.int .u64 (Q (aS x 30))):=⟨fun w=>cA (Hu x w)⟩
theorem Hv(x:BitVec 64)(w:World):Calls prog 187 #[.int .u64 (Q x),.int .u64 39] w fun e w'=>e= .returned (.int .u64 (Q (aS x 25)))∧w=w':=by
 obtain⟨h0,h1⟩:=iW x;have HV:=Hd (dW x 25 39 rfl);go_enter func187,ntmps187;go_wp2;go_ret;exact⟨congrArg (fun z=>Ending.returned (.int .u64 z)) HV.out,rfl⟩
instance Iz(x:BitVec 64):FnC 187 #[.int .u64 (Q x),.int .u64 39] (.int .u64 (Q (aS x 25))):=⟨fun w=>cA (Hv x w)⟩
instance IA(n:Nat)(f:Nat→BitVec 64):Row1 (a7 n f) n:=⟨aQ _ _,by simp[a7,row,Value.oneCell']⟩
instance IB:RowZ 262 (a7 80 fun _=>0):=⟨by kernel_rfl⟩
instance IC:RowTy 75 64:=⟨⟨_,underlying75,rfl⟩,by kernel_rfl⟩
instance ID:RowZ 75 (aa 64 fun _=>0):=⟨by kernel_rfl⟩
instance r64(f:Nat→BitVec 8):Row1 (aa 64 f) 64:=⟨aQ _ _,by simp[aa,row,Value.oneCell']⟩
theorem fd{n k:Nat}(f:Nat→BitVec 64)(h:k<n):Cell (a7 n f) k (.int .u64 (Q (f k))):=aI _ h
theorem Hw{n k:Nat}{f g:Nat→BitVec 64}{x:Int}{y:BitVec 64}(h:k<n)(hx:x=Q y)(e:upd f k y=g):Put (a7 n f) k (.int .u64 x) (a7 n g) :=
 a9 h (ak fun i hi=>by
  rw[← e,hx];unfold upd;by_cases c:i=k
  ·rw[if_pos c,if_pos c]
  ·rw[if_neg c,if_neg c])
theorem Fx(w:World):(Instr.build 261 #[(0,.int .u64 7640891576956012808),(1,.int .u64 13503953896175478587),(2,.int .u64 4354685564936845355),(3,.int .u64 11912009170470909681),(4,.int .u64 5840696475078001361),(5,.int .u64 11170449401992604703),(6,.int .u64 2270897969802886507),(7,.int .u64 6620516959819538809)]).run prog w= .ok (.agg (a7 8 so)) w:=by kernel_rfl
theorem Ay(K W:Nat→BitVec 64)(t:Nat)(v:Nat→BitVec 64)(w:World):(Instr.build 261 #[(0,.int .u64 (Q (xb K W t v+Fh v))),(1,.int .u64 (Q (v 0))),(2,.int .u64 (Q (v 1))),(3,.int .u64 (Q (v 2))),(4,.int .u64 (Q (v 3+xb K W t v))),(5,.int .u64 (Q (v 4))),(6,.int .u64 (Q (v 5))),(7,.int .u64 (Q (v 6)))]).run prog w= .ok (.agg (a7 8 (rnd K W t v))) w:=by kernel_rfl
theorem JO{w:World}[h:Glob w]{k:Nat}(hk:k<80):Was w 6 k (.int .u64 (Q (K512 k))):=⟨h.k512 k hk,by have:=h.lt;omega⟩
theorem C0(h:Nat→BitVec 64)(k:Nat):bits .and .u64 (Q (h (k/8))/2^(56-8*(k%8))) 255=B8 (bX h k):=by
 rw[← lk h k (k%8) rfl];have e:Q (h (k/8))/2^(56-8*(k%8))=(((h (k/8)).toNat/2^(56-8*(k%8)):Nat):Int):=by
  unfold Q;generalize(h (k/8)).toNat=x;generalize 56-8*(k%8)=r;rw[Int.natCast_ediv,Int.natCast_pow];rfl
 have e2:((2^(56-8*(k%8)):Nat):Int)=2^(56-8*(k%8)):=by rw[Int.natCast_pow];rfl
 rw[e2,e];have:=bits_and_u64_nat ((h (k/8)).toNat/2^(56-8*(k%8))) 255 (Nat.lt_of_le_of_lt (Nat.div_le_self _ _) (h (k/8)).isLt) (by omega);rw[nat_mask8]at this;exact this.trans (Int.natCast_emod _ 256)
theorem xv(b:Nat→BitVec 8)(k i:Nat)(h:k/8=i):upd (br b k) i (br b k i<<<8|||ef (b k))=br b (k+1):=by subst h;rfl
theorem mK(h v:Nat→BitVec 64)(k:Nat):upd (bW h v k) k (h k+v k)=bW h v (k+1):=by
 funext i;unfold upd bW;by_cases e:i=k
 ·subst e;simp
 ·rw[if_neg e]
  by_cases hi:i<k
  ·rw[if_pos hi,if_pos (by omega)]
  ·rw[if_neg hi,if_neg (by omega)]
theorem refShb_any(v:Value)(l:List (BitVec 8))(w:World)[hG:Glob w](hv:BRow w v l)(h0:0<l.length)(hl:l.length≤1000000000) :
 Rt 126 #[v] w (.agg (aa 64 (sha l))):=by
 have hL:=Loc.nil w;have HV:=Hd hv;have HFIN:=Hd (kL l);have HPL:=Hd (fV l);have HPB:=Hd (show(pad l).length≤1000000400 by unfold pad cI aD;simp;omega);have HPAD:=Hd (fun w1 (h:Loc w w1 [(0, #[],0)])=>h);clear HPAD;obtain⟨a,c,rfl,hn,hp⟩:=hv;clear hn hp;go_enter func126,ntmps126;go_wp2_with (first|(refine gBp 2 ?_;clear hL;intro b2 w1 hL)|((with_reducible show wpList _ _ _ (⟨_,.build 261 _,_,_,_,_⟩::_) _ _);refine lU hL rfl rfl Fx rfl fun w1 hL1=>?_;clear hL;have hL:=hL1;clear hL1)|(refine gBp 3 ?_;clear hL;intro b3 w1 hL)|(go_at_call 71;go_loud (refine(CY _ l _ (HV.out.below hL.bel) h0 hl).mono ?_);rintro e w1⟨g23,cap23,cur23,rfl,hr23,hg23,hc23,hb23⟩;have hL1:=hL.fresh hb23 hg23 hc23;clear hb23 hg23 hc23;clear hL;have hL:=hL1;clear hL1;refine p4 ?_)|(refine aQp ?_;clear hL;intro _ w1 hL));obtain⟨f,hf⟩:∃f:Nat→BitVec 8,f=fun i=>(pad l).getD i 0:=⟨_,rfl⟩;have HM:=Hd (show ∀i,i<(pad l).length→Cell cur23 i (.int .u8 (B8 (f i)))from fun i hi=>by
  have:=hr23.cellB hi;rw[hf];simp only;rw[List.getD_eq_getElem?_getD,List.getElem?_eq_getElem hi,Option.getD_some];exact this)
 rw[← hf]at HFIN;clear hf HV;generalize(pad l).length=n at *
 clear hr23;go_loopw [5] (fun i wr=>∃k s:Nat,s=128*k∧s≤n∧i= .int .i64 s∧Loc w wr [(g23,cur23,5),(b3,a7 8 (aF f k),261),(b2,aa 64 fun _=>0,75)]) (fun i _=>n-(intOf i).toNat);case atStart=>exact⟨0,0,rfl,Nat.zero_le _,rfl,hL⟩
 case round =>
  clear hL;obtain⟨k,s,hs,hsn,rfl,hL⟩:=hrel;have hs0:(0:Int)≤(s:Int):=by omega
  by_cases hlt:s<n
  ·have HS:=Hd (show s+128≤n∧s=128*k by have:=HPL.out;omega)
   have hs1:(s:Int)<(n:Int):=by omega
   obtain⟨b,hb⟩:∃b:Nat→BitVec 8,b=fun q=>f (s+q):=⟨_,rfl⟩;have HBL:=Hd (show ∀i,i<8→bW (aF f k) (dj K512 (aT b) (aF f k) 80) 8 i=aF f (k+1) i from fun i hi=>by
    unfold bW;rw[if_pos hi,hb,hs];rfl)
   have HMB:=Hd (show ∀q,q<128→Cell cur23 (s+q) (.int .u8 (B8 (b q)))from fun q hq=>by rw[hb];exact HM.out (s+q) (by have:=HS.out;omega));clear hb hs hsn hlt;go_wp2_with (first|(refine gBp 6 ?_;clear hL;intro b6 w1 hL)|(refine aQp ?_;clear hL;intro _ w1 hL));have HW0:=Hd (show(a7 80 fun _=>0)=a7 80 (br b (8*0))from rfl);go_loopw [7] (fun i wr=>∃j:Nat,j≤16∧i= .int .i64 j∧Loc w wr [(b6,a7 80 (br b (8*j)),262),(g23,cur23,5),(b3,a7 8 (aF f k),261),(b2,aa 64 fun _=>0,75)]) (fun i _=>16-(intOf i).toNat);case atStart=>exact⟨0,by omega,rfl,by rw[← HW0.out];exact hL⟩
   case round =>
    clear hL;obtain⟨j,hj,rfl,hL⟩:=hrel;by_cases hj16:j<16
    ·have hj0:(0:Int)≤(j:Int):=by omega
     have hj1:(j:Int)<16:=by omega
     have hj2:(j:Int)<80:=by omega
     go_wp2_with (first|(refine aQp ?_;clear hL;intro _ w1 hL));go_loopw [8] (fun i wr=>∃q:Nat,q≤8∧i= .int .i64 q∧Loc w wr [(b6,a7 80 (br b (8*j+q)),262),(g23,cur23,5),(b3,a7 8 (aF f k),261),(b2,aa 64 fun _=>0,75)]) (fun i _=>8-(intOf i).toNat);case atStart=>exact⟨0,by omega,rfl,hL⟩
     case round =>
      clear hL;obtain⟨q,hq,rfl,hL⟩:=hrel;by_cases hq8:q<8
      ·have hq0:(0:Int)≤(q:Int):=by omega
       have hq1:(q:Int)<8:=by omega
       have hsb:(n:Int)≤2000000000:=by have:=HPB.out;omega
       haveI g1:Cell cur23 (s+(8*j+q)) (.int .u8 (B8 (b (8*j+q)))):=HMB.out _ (by omega);haveI g2:Cell (a7 80 (br b (8*j+q))) j (.int .u64 (Q (br b (8*j+q) j))):=fd _ (by omega);haveI g3:Put (a7 80 (br b (8*j+q))) j (.int .u64 (bits .or .u64 (IntKind.u64.wrap (Q (br b (8*j+q) j)*256)) (B8 (b (8*j+q))))) (a7 80 (br b (8*j+q+1))) :=
        Hw (by omega) (by rw[yR,uf,Fg];rfl) (xv b _ j (by omega))
       obtain⟨u0,u1⟩:=iW (br b (8*j+q) j);obtain⟨v0,v1⟩:=bK (b (8*j+q));have wv:IntKind.u64.wrap (B8 (b (8*j+q)))=B8 (b (8*j+q)):=by rw[IntKind.wrap_u64];omega
       have hx:(s:Int)+8*(j:Int)+(q:Int)=((s+(8*j+q):Nat):Int):=by omega
       have y0:(0:Int)≤((s+(8*j+q):Nat):Int):=by omega
       have y1:((s+(8*j+q):Nat):Int)<(n:Int):=by have:=HS.out;omega
       have z0:IntKind.i64.wrap (8*(j:Int))=8*(j:Int):=IntWalk.i64_in _ (by omega);have z1:IntKind.i64.wrap ((s:Int)+8*(j:Int))=(s:Int)+8*(j:Int):=IntWalk.i64_in _ (by omega);have z2:IntKind.i64.wrap ((s+(8*j+q):Nat):Int)=((s+(8*j+q):Nat):Int):=IntWalk.i64_in _ (by omega);generalize br b (8*j+q)=W at *
       generalize b (8*j+q)=x at *
       generalize s+(8*j+q)=p at *
       clear HFIN HPL HPB HM HBL HMB HW0;go_wp2_with fail;refine wf [(0,true),(1,true),(2,true),(3,false),(4,true),(5,true),(6,true),(7,true),(8,true),(9,true),(10,true),(11,true),(12,true),(13,false),(14,true),(15,true),(16,true)] [] [17] hL ?_;refine fA ?_;refine fB ?_;clear hL;intro w1 hL;go_wp2_with (first|(refine aQp ?_;clear hL;intro _ w1 hL));go_roundw;case rel=>exact⟨q+1,by omega,by go_num,hL⟩
       case measure=>simp[intOf];omega
      ·obtain rfl:q=8:=by omega
       go_wp2_with (first|(refine aQp ?_;clear hL;intro _ w1 hL));go_roundw;case rel=>exact⟨j+1,by omega,by go_num,hL⟩
       case measure=>simp[intOf];omega
    ·obtain rfl:j=16:=by omega
     rw[show 8*16=128 from rfl,← jn (br b 128) 16 (by omega)]at hL;clear HMB HW0 hj hj16;go_wp2_with (first|(refine aQp ?_;clear hL;intro _ w1 hL));go_loopw [9] (fun i wr=>∃j:Nat,16≤j∧j≤80∧i= .int .i64 j∧Loc w wr [(b6,a7 80 (cd (br b 128) j),262),(g23,cur23,5),(b3,a7 8 (aF f k),261),(b2,aa 64 fun _=>0,75)]) (fun i _=>80-(intOf i).toNat);case atStart=>exact⟨16,by omega,by omega,rfl,hL⟩
     case round =>
      clear hL;obtain⟨j,hj16,hj,rfl,hL⟩:=hrel;by_cases hlt:j<80
      ·have hk0:(16:Int)≤(j:Int):=by omega
       have hk1:(j:Int)<80:=by omega
       have HST:=Hd (gR (br b 128) hj16);haveI c2:Cell (a7 80 (cd (br b 128) j)) (j-2) (.int .u64 (Q (cd (br b 128) j (j-2)))):=fd _ (by omega);haveI c7:Cell (a7 80 (cd (br b 128) j)) (j-7) (.int .u64 (Q (cd (br b 128) j (j-7)))):=fd _ (by omega);haveI c15:Cell (a7 80 (cd (br b 128) j)) (j-15) (.int .u64 (Q (cd (br b 128) j (j-15)))):=fd _ (by omega);haveI c16:Cell (a7 80 (cd (br b 128) j)) (j-16) (.int .u64 (Q (cd (br b 128) j (j-16)))):=fd _ (by omega);generalize cd (br b 128) j=W at *
       haveI p1:Put (a7 80 W) j (.int .u64 (Q (W (j-16)+ud (W (j-15))+W (j-7)+ue (W (j-2))))) (a7 80 (cd (br b 128) (j+1))) :=
        Hw hlt rfl (by rw[HST.out,show W (j-16)+ud (W (j-15))+W (j-7)+ue (W (j-2))=eW W j by unfold eW;ac_rfl])
       obtain⟨a0,a1⟩:=iW (W (j-2));obtain⟨b0,b1⟩:=iW (W (j-15));have hs0':=jl (W (j-15));have hs1':=jm (W (j-2));have hadd:=mW;have x2:(j:Int)-2=((j-2:Nat):Int):=by omega
       have x7:(j:Int)-7=((j-7:Nat):Int):=by omega
       have x15:(j:Int)-15=((j-15:Nat):Int):=by omega
       have x16:(j:Int)-16=((j-16:Nat):Int):=by omega
       have j0:(0:Int)≤(j:Int):=by omega
       have y2:(0:Int)≤((j-2:Nat):Int)∧((j-2:Nat):Int)<80:=by omega
       have y7:(0:Int)≤((j-7:Nat):Int)∧((j-7:Nat):Int)<80:=by omega
       have y15:(0:Int)≤((j-15:Nat):Int)∧((j-15:Nat):Int)<80:=by omega
       have y16:(0:Int)≤((j-16:Nat):Int)∧((j-16:Nat):Int)<80:=by omega
       obtain⟨y2a,y2b⟩:=y2;obtain⟨y7a,y7b⟩:=y7;obtain⟨y15a,y15b⟩:=y15;obtain⟨y16a,y16b⟩:=y16;have z2:IntKind.i64.wrap ((j-2:Nat):Int)=((j-2:Nat):Int):=IntWalk.i64_in _ (by omega);have z7:IntKind.i64.wrap ((j-7:Nat):Int)=((j-7:Nat):Int):=IntWalk.i64_in _ (by omega);have z15:IntKind.i64.wrap ((j-15:Nat):Int)=((j-15:Nat):Int):=IntWalk.i64_in _ (by omega);have z16:IntKind.i64.wrap ((j-16:Nat):Int)=((j-16:Nat):Int):=IntWalk.i64_in _ (by omega);clear HFIN HPL HPB HM HBL HST;generalize j-2=i2 at *
       generalize j-7=i7 at *
       generalize j-15=i15 at *
       generalize j-16=i16 at *
       generalize W i2=v2 at *
       generalize W i7=v7 at *
       generalize W i15=v15 at *
       generalize W i16=v16 at *
       go_wp2_with (first|(refine aQp ?_;clear hL;intro _ w1 hL));refine wf [(0,true),(1,true),(2,true),(3,true),(4,false),(5,true),(6,false),(7,true),(8,false),(9,true),(10,true),(11,true),(12,true),(13,true),(14,true),(15,true),(16,true),(17,false),(18,true),(19,true),(20,false),(21,true),(22,false),(23,true),(24,true),(25,true),(26,true),(27,true),(28,true)] [] [29] hL ?_;refine fA ?_;refine fB ?_;clear hL;intro w1 hL;go_wp2_with (first|(refine aQp ?_;clear hL;intro _ w1 hL));go_roundw;case rel=>exact⟨j+1,by omega,by omega,by go_num,hL⟩
       case measure=>simp[intOf];omega
      ·obtain rfl:j=80:=by omega
       have HSC:=Hd (show a7 80 (cd (br b 128) 80)=a7 80 (aT b)from rfl);rw[HSC.out]at hL;clear HSC hj hj16 hlt;have HR0:=Hd (show a7 8 (aF f k)=a7 8 (dj K512 (aT b) (aF f k) 0)from rfl);go_wp2_with (first|(refine gBp 12 ?_;clear hL;intro b12 w1 hL)|(refine aQp ?_;clear hL;intro _ w1 hL));generalize hsc:aT b=SC at *
       go_loopw [13] (fun i wr=>∃t:Nat,t≤80∧i= .int .i64 t∧Loc w wr [(b12,a7 8 (dj K512 SC (aF f k) t),261),(b6,a7 80 SC,262),(g23,cur23,5),(b3,a7 8 (aF f k),261),(b2,aa 64 fun _=>0,75)]) (fun i _=>80-(intOf i).toNat);case atStart=>exact⟨0,Nat.zero_le _,rfl,hL⟩
       case round =>
        clear hL;obtain⟨t,ht,rfl,hL⟩:=hrel;by_cases hlt:t<80
        ·have h0:(0:Int)≤(t:Int):=by omega
         have h1:(t:Int)<80:=by omega
         haveI gk:Was w 6 t (.int .u64 (Q (K512 t))):=JO hlt;haveI gw:Cell (a7 80 SC) t (.int .u64 (Q (SC t))):=fd _ hlt;have HN:=Hd (show dj K512 SC (aF f k) (t+1)=rnd K512 SC t (dj K512 SC (aF f k) t)from rfl);generalize dj K512 SC (aF f k) t=V at *
         haveI v0:Cell (a7 8 V) 0 (.int .u64 (Q (V 0))):=fd _ (by omega);haveI v1:Cell (a7 8 V) 1 (.int .u64 (Q (V 1))):=fd _ (by omega);haveI v2:Cell (a7 8 V) 2 (.int .u64 (Q (V 2))):=fd _ (by omega);haveI v3:Cell (a7 8 V) 3 (.int .u64 (Q (V 3))):=fd _ (by omega);haveI v4:Cell (a7 8 V) 4 (.int .u64 (Q (V 4))):=fd _ (by omega);haveI v5:Cell (a7 8 V) 5 (.int .u64 (Q (V 5))):=fd _ (by omega);haveI v6:Cell (a7 8 V) 6 (.int .u64 (Q (V 6))):=fd _ (by omega);haveI v7:Cell (a7 8 V) 7 (.int .u64 (Q (V 7))):=fd _ (by omega);have hadd:=mW;have hxor:=Q_xor;have hand:=Q_and;have hnot:=Gp;have hadd':=sq;clear HFIN HPL HPB HM HBL HR0;go_wp2_with (first|(refine aQp ?_;clear hL;intro _ w1 hL));refine wf [(0,true),(1,false),(2,true),(3,false),(4,true),(5,false),(6,true),(7,true),(8,false),(9,true),(10,true),(11,true),(12,true),(13,false),(14,true),(15,true),(16,true),(17,true),(18,false),(19,true),(20,true),(21,true),(22,true),(23,true),(24,false),(25,true),(26,true),(27,true),(28,false),(29,true),(30,true)] [] [] hL ?_
         repeat(first|((with_reducible show bu _ _ _ (_::_) _ _);refine sW rfl rfl rfl ?_;refine p4 ?_)|refine rS ?_)
         refine aG ?_;refine fC ?_;clear hL;intro w1 hL;go_wp2_with (first|(refine aQp ?_;clear hL;intro _ w1 hL));refine wf [(0,true),(1,false),(2,true),(3,false),(4,true),(5,true),(6,false),(7,true),(8,true),(9,true),(10,false),(11,true),(12,true),(13,true),(14,false),(15,true),(16,true),(17,true),(18,false),(19,true),(20,false),(21,true),(22,true),(23,true),(24,true)] [] [] hL ?_;refine fA ?_;refine fC ?_;clear hL;intro w1 hL;go_wp2_with (first|((with_reducible show wpList _ _ _ (⟨_,.build 261 _,_,_,_,_⟩::_) _ _);refine lU hL rfl rfl (Ay K512 SC t V) rfl fun w1 hL1=>?_;clear hL;have hL:=hL1;clear hL1)|(refine aQp ?_;clear hL;intro _ w1 hL));go_roundw;case rel=>exact⟨t+1,by omega,by go_num,by rw[HN.out];exact hL⟩
         case measure=>simp[intOf];omega
        ·obtain rfl:t=80:=by omega
         have HA0:=Hd (show a7 8 (aF f k)=a7 8 (bW (aF f k) (dj K512 SC (aF f k) 80) 0)from ak fun i _=>by unfold bW;rw[if_neg (by omega)]);have HA8:=Hd (show a7 8 (bW (aF f k) (dj K512 SC (aF f k) 80) 8)=a7 8 (aF f (k+1))from ak fun i hi=>by rw[HBL.out i hi]);clear HBL HR0 ht hlt;generalize dj K512 SC (aF f k) 80=V at *
         rw[HA0.out]at hL;go_wp2_with (first|(refine aQp ?_;clear hL;intro _ w1 hL));go_loopw [18] (fun i wr=>∃q:Nat,q≤8∧i= .int .i64 q∧Loc w wr [(b12,a7 8 V,261),(b6,a7 80 SC,262),(g23,cur23,5),(b3,a7 8 (bW (aF f k) V q),261),(b2,aa 64 fun _=>0,75)]) (fun i _=>8-(intOf i).toNat);case atStart=>exact⟨0,Nat.zero_le _,rfl,hL⟩
         case round =>
          clear hL;obtain⟨q,hq,rfl,hL⟩:=hrel;by_cases hlt:q<8
          ·have q0:(0:Int)≤(q:Int):=by omega
           have q1:(q:Int)<8:=by omega
           haveI c1:Cell (a7 8 (bW (aF f k) V q)) q (.int .u64 (Q (aF f k q))):=by
            have:bW (aF f k) V q q=aF f k q:=by unfold bW;rw[if_neg (by omega)]
            rw[← this];exact fd _ hlt
           haveI c2:Cell (a7 8 V) q (.int .u64 (Q (V q))):=fd _ hlt;haveI p1:Put (a7 8 (bW (aF f k) V q)) q (.int .u64 (Q (aF f k q+V q))) (a7 8 (bW (aF f k) V (q+1))):=Hw hlt rfl (mK (aF f k) V q);have hadd:=mW;have hadd':=sq;clear HFIN HPL HPB HM HA0 HA8;generalize bW (aF f k) V q=A0 at *
           generalize aF f k q=x at *
           generalize V q=y at *
           go_wp2_with fail;refine wf [(0,true),(1,true),(2,true),(3,false),(4,true),(5,true),(6,false),(7,true),(8,true)] [] [9] hL ?_;refine fA ?_;refine fB ?_;clear hL;intro w1 hL;go_wp2_with (first|(refine aQp ?_;clear hL;intro _ w1 hL));go_roundw;case rel=>exact⟨q+1,by omega,by go_num,hL⟩
           case measure=>simp[intOf];omega
          ·obtain rfl:q=8:=by omega
           rw[HA8.out]at hL;have hsb:(s:Int)≤2000000000:=by have:=HS.out;have:=HPB.out;omega
           go_wp2_with (first|(refine aQp ?_;clear hL;intro _ w1 hL));go_roundw;case rel=>exact⟨k+1,s+128,by have:=HS.out;omega,HS.out.1,by go_num,hL.pop.pop⟩
           case measure=>simp[intOf];omega
  ·obtain rfl:s=n:=by omega
   have HFIN2:=Hd (show sha l=bX (aF f k) by rw[HFIN.out];congr 2;omega);generalize aF f k=hh at *
   have HB0:=Hd (show(aa 64 fun _=>0)=aa 64 (eg hh 0)from ak fun i _=>by unfold eg;rw[if_neg (by omega)]);have HB1:=Hd (show aa 64 (eg hh 64)=aa 64 (sha l)from ak fun i hi=>by unfold eg;rw[if_pos hi,HFIN2.out]);clear HFIN HPL HPB HM HFIN2 hs hsn hlt;go_wp2_with (first|(refine gBp 19 ?_;clear hL;intro b19 w1 hL)|(refine aQp ?_;clear hL;intro _ w1 hL));go_loopw [20] (fun i wr=>∃q:Nat,q≤64∧i= .int .i64 q∧Loc w wr [(b19,aa 64 (eg hh q),75),(g23,cur23,5),(b3,a7 8 hh,261),(b2,aa 64 fun _=>0,75)]) (fun i _=>64-(intOf i).toNat);case atStart=>exact⟨0,by omega,rfl,by rw[← HB0.out];exact hL⟩
   case round =>
    clear hL;obtain⟨q,hq,rfl,hL⟩:=hrel;by_cases hlt:q<64
    ·have q0:(0:Int)≤(q:Int):=by omega
     have q1:(q:Int)<64:=by omega
     have ho:=C0 hh q;haveI c1:Cell (a7 8 hh) (q/8) (.int .u64 (Q (hh (q/8)))):=fd _ (by omega);obtain⟨x0,x1⟩:=bK (bX hh q);haveI p1:Put (aa 64 (eg hh q)) q (.int .u8 (bits .and .u64 (Q (hh (q/8))/2^(56-8*(q%8))) 255)) (aa 64 (eg hh (q+1))):=a9 hlt (by
      rw[ho,← gX];exact ak fun i _=>by unfold upd;split <;> rfl)
     have wo:IntKind.u8.wrap (bits .and .u64 (Q (hh (q/8))/2^(56-8*(q%8))) 255)=bits .and .u64 (Q (hh (q/8))/2^(56-8*(q%8))) 255:=by rw[ho,IntKind.wrap_u8];omega
     have e1:(q:Int)/8=((q/8:Nat):Int):=by omega
     have e2:(q:Int)%8=((q%8:Nat):Int):=by omega
     have e3:(q:Int).tdiv 8=((q/8:Nat):Int):=by rw[Int.tdiv_eq_ediv_of_nonneg (by omega)];omega
     have e4:(q:Int).tmod 8=((q%8:Nat):Int):=by rw[Int.tmod_eq_emod_of_nonneg (by omega)];omega
     have e5:56-8*((q%8:Nat):Int)=((56-8*(q%8):Nat):Int):=by omega
     have k0:(0:Int)≤((q/8:Nat):Int):=by omega
     have k1:((q/8:Nat):Int)<8:=by omega
     have r0:(0:Int)≤((q%8:Nat):Int):=by omega
     have r1:((q%8:Nat):Int)<8:=by omega
     have s0:(0:Int)≤((56-8*(q%8):Nat):Int):=by omega
     have s1:((56-8*(q%8):Nat):Int)<64:=by omega
     have ws:IntKind.u64.wrap ((56-8*(q%8):Nat):Int)=((56-8*(q%8):Nat):Int):=by rw[IntKind.wrap_u64];omega
     have ws':IntKind.i64.wrap ((56-8*(q%8):Nat):Int)=((56-8*(q%8):Nat):Int):=IntWalk.i64_in _ (by omega);have w8:IntKind.i64.wrap (8*((q%8:Nat):Int))=8*((q%8:Nat):Int):=IntWalk.i64_in _ (by omega);have hm:min (56-8*(q%8)) 64=56-8*(q%8):=by omega
     clear ho x0 x1 HB0 HB1;generalize eg hh q=oo at *
     generalize hh (q/8)=x at *
     generalize q/8=qd at *
     generalize 56-8*(q%8)=sh at *
     generalize q%8=qr at *
     go_wp2_with (first|(refine aQp ?_;clear hL;intro _ w1 hL));go_roundw;case rel=>exact⟨q+1,by omega,by go_num,hL⟩
     case measure=>simp[intOf];omega
    ·obtain rfl:q=64:=by omega
     rw[HB1.out]at hL;go_wp2_with (first|(refine aQp ?_;clear hL;intro _ w1 hL));exact bodyPost_ret (ai rfl hL rfl) rfl ⟨rfl,hL.bel⟩
end Shb
namespace R3
open Go Go.Proofs.YtoifhhljfaoejaaGreatDoor Go.RowKit
def jw(x y z t:El):Array Value:=row 64 fun i=> .int .i64 ((if i<16 then x else if i<32 then y else if i<48 then z else t).f (i%16))
def rowPe(p:Pe):Array Value:=jw p.x p.y p.z p.t
instance NB(x y z t:El):Row1 (jw x y z t) 64:=⟨aQ _ _,by simp[jw,row,Value.oneCell']⟩
instance NC(p:Pe):Row1 (rowPe p) 64:=inferInstanceAs (Row1 (jw _ _ _ _) 64)
instance ND:RowTy 149 64:=⟨⟨_,underlying149,rfl⟩,by kernel_rfl⟩
def Az:Array Value:=ao 64 fun _=>0
instance NE:Row1 Az 64:=inferInstanceAs (Row1 (ao 64 _) 64)
instance NF:RowZ 149 Az:=⟨by kernel_rfl⟩
theorem C1(x y z t:El):Part (jw x y z t) 149 0 147 (rowEl x):=dR (by omega) fun i hi=>by
 have e:(0+i)%16=i:=by omega
 rw[e]
 first
  | rw[if_pos (by omega)]
  | rw[if_neg (by omega),if_pos (by omega)]
  | rw[if_neg (by omega),if_neg (by omega),if_pos (by omega)]
  | rw[if_neg (by omega),if_neg (by omega),if_neg (by omega)]
instance NG(p:Pe):Part (rowPe p) 149 0 147 (rowEl p.x):=C1 _ _ _ _
theorem AA(x y z t:El):Part (jw x y z t) 149 16 147 (rowEl y):=dR (by omega) fun i hi=>by
 have e:(16+i)%16=i:=by omega
 rw[e]
 first
  | rw[if_pos (by omega)]
  | rw[if_neg (by omega),if_pos (by omega)]
  | rw[if_neg (by omega),if_neg (by omega),if_pos (by omega)]
  | rw[if_neg (by omega),if_neg (by omega),if_neg (by omega)]
instance NH(p:Pe):Part (rowPe p) 149 16 147 (rowEl p.y):=AA _ _ _ _
theorem AB(x y z t:El):Part (jw x y z t) 149 32 147 (rowEl z):=dR (by omega) fun i hi=>by
 have e:(32+i)%16=i:=by omega
 rw[e]
 first
  | rw[if_pos (by omega)]
  | rw[if_neg (by omega),if_pos (by omega)]
  | rw[if_neg (by omega),if_neg (by omega),if_pos (by omega)]
  | rw[if_neg (by omega),if_neg (by omega),if_neg (by omega)]
instance LB(p:Pe):Part (rowPe p) 149 32 147 (rowEl p.z):=AB _ _ _ _
theorem AC(x y z t:El):Part (jw x y z t) 149 48 147 (rowEl t):=dR (by omega) fun i hi=>by
 have e:(48+i)%16=i:=by omega
 rw[e]
 first
  | rw[if_pos (by omega)]
  | rw[if_neg (by omega),if_pos (by omega)]
  | rw[if_neg (by omega),if_neg (by omega),if_pos (by omega)]
  | rw[if_neg (by omega),if_neg (by omega),if_neg (by omega)]
instance LD(p:Pe):Part (rowPe p) 149 48 147 (rowEl p.t):=AC _ _ _ _
theorem fg(x y z t:El)(w:World):(Instr.build 149 #[(0,.agg (rowEl x)),(1,.agg (rowEl y)),(2,.agg (rowEl z)),(3,.agg (rowEl t))]).run prog w= .ok (.agg (jw x y z t)) w:=by kernel_rfl
theorem sum_any(p q:Pe)(w:World)[Glob w]:Rt 125 #[.agg (rowPe p),.agg (rowPe q)] w (.agg (rowPe (p.add q))):=by
 have hL:=Loc.nil w;go_enter func125,ntmps125;go_wp2_with (first|(refine gBp 2 ?_;clear hL;intro b2 w1 hL)|(refine gBp 3 ?_;clear hL;intro b3 w1 hL)|(refine gBp 4 ?_;clear hL;intro b4 w1 hL)|(refine aQq ?_;clear hL;intro _ w1 hL));refine ar [(0,true),(1,false),(2,true),(3,false),(4,false),(5,true),(6,false),(7,true),(8,false),(9,false),(10,false)] [(11,_,147)] [12] (by kernel_rfl) (by kernel_rfl) ⟨⟨_,rfl,rfl,rfl⟩,inferInstance,trivial⟩ hL ?_;refine pF ?_;refine fA ?_;refine az fun b=>?_;refine fB ?_;clear hL;intro w1 hL;go_wp2_with (first|(refine aQq ?_;clear hL;intro _ w1 hL));refine ar [(0,true),(1,false),(2,true),(3,false),(4,false),(5,true),(6,false),(7,true),(8,false),(9,false),(10,false)] [(11,_,147)] [12] (by kernel_rfl) (by kernel_rfl) ⟨⟨_,rfl,rfl,rfl⟩,inferInstance,trivial⟩ hL ?_;refine pF ?_;refine fA ?_;refine az fun b=>?_;refine fB ?_;clear hL;intro w1 hL;go_wp2_with (first|(refine aQq ?_;clear hL;intro _ w1 hL));refine ar [(0,true),(1,false),(2,true),(3,false),(4,false),(5,false),(6,false),(7,false),(8,false)] [(9,_,147)] [10] (by kernel_rfl) (by kernel_rfl) ⟨⟨_,rfl,rfl,rfl⟩,inferInstance,trivial⟩ hL ?_;refine pF ?_;refine fA ?_;refine az fun b=>?_;refine fB ?_;clear hL;intro w1 hL;go_wp2_with (first|(refine aQp ?_;clear hL;intro _ w1 hL));refine wf [(0,false),(1,false),(2,false),(3,false),(4,false),(5,false),(6,false),(7,false),(8,false),(9,false),(10,false),(11,false),(12,true)] [] [13] hL ?_
 repeat(first|((with_reducible show bu _ _ _ (_::_) _ _);refine sU rfl rfl (fg _ _ _ _) rfl ?_;refine p4 ?_)|refine rS ?_)
 refine aG ?_;refine fB ?_;clear hL;intro w1 hL;go_wp2_with fail;exact bodyPost_ret (ai rfl hL rfl) rfl ⟨rfl,hL.bel⟩
instance LE:Ent 125:=eo func125
instance LF(p q:Pe):FnG 125 #[.agg (rowPe p),.agg (rowPe q)] (.agg (rowPe (p.add q))):=⟨fun w _=>sum_any p q w⟩
end R3
namespace R3
open Go Go.Proofs.YtoifhhljfaoejaaGreatDoor Go.RowKit
theorem AD(w:World):(Instr.build 147 #[]).run prog w= .ok (.agg (rowEl El.zero)) w:=by kernel_rfl
theorem xw(w:World):Rt 131 #[] w (.agg (rowPe Pe.O)):=by
 have hL:=Loc.nil w;have HR:=Hd (show rowPe Pe.O=jw El.zero El.one El.one El.zero from rfl);rw[HR.out];go_enter func131,ntmps131;go_wp2_with (first|((with_reducible show wpList _ _ _ (⟨_,.build 147 _,_,_,_,_⟩::_) _ _);refine lU hL rfl rfl AD rfl fun w1 hL1=>?_;clear hL;have hL:=hL1;clear hL1)|((with_reducible show wpList _ _ _ (⟨_,.build 149 _,_,_,_,_⟩::_) _ _);refine lU hL rfl rfl (fg _ _ _ _) rfl fun w1 hL1=>?_;clear hL;have hL:=hL1;clear hL1)|(refine aQp ?_;clear hL;intro _ w1 hL));exact bodyPost_ret (ai rfl hL rfl) rfl ⟨rfl,hL.bel⟩
instance NI:Ent 131:=eo func131
instance NJ:FnC 131 #[] (.agg (rowPe Pe.O)):=⟨xw⟩
theorem ot(w:World)[Glob w]:Rt 77 #[] w (.agg (rowPe Pe.B)):=by
 have hL:=Loc.nil w;have HR:=Hd (show rowPe Pe.B=jw (El.of pB.x.val) (El.of pB.y.val) El.one ((El.of pB.x.val).mul (El.of pB.y.val))from rfl);rw[HR.out];haveI g1:WasR w 1 (rowEl (El.of pB.x.val)):=inferInstance;haveI g2:WasR w 2 (rowEl (El.of pB.y.val)):=inferInstance;generalize El.of pB.x.val=bx,El.of pB.y.val=by_ at *
 clear HR;go_enter func77,ntmps77;go_wp2_with (first|(refine aQp ?_;clear hL;intro _ w1 hL));refine wf [(0,false),(1,false),(2,false),(3,false),(4,false),(5,false),(6,true)] [] [7] hL ?_
 repeat(first|((with_reducible show bu _ _ _ (_::_) _ _);refine sU rfl rfl (fg _ _ _ _) rfl ?_;refine p4 ?_)|refine rS ?_)
 refine aG ?_;refine fB ?_;clear hL;intro w1 hL;go_wp2_with fail;exact bodyPost_ret (ai rfl hL rfl) rfl ⟨rfl,hL.bel⟩
instance NK:Ent 77:=eo func77
instance NL:FnG 77 #[] (.agg (rowPe Pe.B)):=⟨fun w _=>ot w⟩
theorem uz(p:Pe)(e:Nat→BitVec 8)(w:World)[hG:Glob w]:Rt 76 #[.agg (rowPe p),.agg (aa 32 e)] w (.agg (rowPe (p.many (leN e)))):=by
 have hL:=Loc.nil w;have HB:=Hd (fun i=> @oN e i);generalize leN e=n at *
 obtain⟨X,h0,hs,hf⟩:∃X:Nat→Pe,X 0=Pe.O∧(∀j,X (j+1)=if n/2^(255-j)%2=1 then((X j).add (X j)).add p else(X j).add (X j))∧X 256=p.many n:=⟨fun k=>Pe.manyK p n k,rfl,fun j=>rfl,Pe.many_eq p n⟩;rw[← hf];have zs:=Hd hs;haveI f0:FnC 131 #[] (.agg (rowPe (X 0))):=by rw[h0];infer_instance
 clear h0 hs hf;go_enter func76,ntmps76;go_wp2_with (first|(refine gBp 2 ?_;clear hL;intro b2 w1 hL)|(refine gBp 3 ?_;clear hL;intro b3 w1 hL)|(refine gBp 4 ?_;clear hL;intro b4 w1 hL)|(refine gBp 5 ?_;clear hL;intro b5 w1 hL)|(refine aQp ?_;clear hL;intro _ w1 hL));go_loopw [6] (fun kk wr=>∃j:Nat,j≤256∧kk= .int .i64 (255-(j:Int))∧Loc w wr [(b5,rowPe (X j),149),(b4,Az,149),(b3,aa 32 e,24),(b2,rowPe p,149)]) (fun kk _=>(intOf kk+1).toNat);case atStart=>exact⟨0,by omega,rfl,hL⟩
 case round =>
  clear hL;obtain⟨j,hj,rfl,hL⟩:=hrel;by_cases hlt:j<256
  ·have HT:=Hd (zs.out j)
   have hv:=HB.out (i:=255-j) (by omega);obtain⟨k,hk⟩:∃k,k=255-j:=⟨_,rfl⟩;rw[← hk]at hv HT;have ek:255-(j:Int)=(k:Int):=by omega
   rw[ek];have hk1:k<256:=by omega
   haveI g1:Cell (aa 32 e) (k/8) (.int .u8 (B8 (e (k/8)))):=aI _ (by omega);obtain⟨b0,b1⟩:=bK (e (k/8));have k0:(0:Int)≤(k:Int):=by omega
   have HK:=Hd hk;have e1:(k:Int)/8=((k/8:Nat):Int):=by omega
   have e2:(k:Int)%8=((k%8:Nat):Int):=by omega
   have e3:(k:Int).tdiv 8=((k/8:Nat):Int):=by rw[Int.tdiv_eq_ediv_of_nonneg (by omega)];omega
   have e4:(k:Int).tmod 8=((k%8:Nat):Int):=by rw[Int.tmod_eq_emod_of_nonneg (by omega)];omega
   have q0:(0:Int)≤((k/8:Nat):Int):=by omega
   have q1:((k/8:Nat):Int)<32:=by omega
   have r0:(0:Int)≤((k%8:Nat):Int):=by omega
   have r1:((k%8:Nat):Int)<8:=by omega
   clear hk;by_cases hbit:n/2^k%2=1
   ·rw[hbit]at hv
    rw[if_pos hbit]at HT;generalize X j=X0 at hL HT;generalize k/8=q,k%8=r at *
    generalize B8 (e q)=u at *
    clear hbit;go_wp2_with (first|(refine aQp ?_;clear hL;intro _ w1 hL));go_roundw;case rel=>exact⟨j+1,by omega,by rw[show(k:Int)-1=255-((j+1:Nat):Int)from by have:=HK.out;omega],by rw[HT.out];exact hL⟩
    case measure=>simp[intOf]
   ·rw[show n/2^k%2=0 from by omega]at hv
    rw[if_neg hbit]at HT;generalize X j=X0 at hL HT;generalize k/8=q,k%8=r at *
    generalize B8 (e q)=u at *
    clear hbit;go_wp2_with (first|(refine aQp ?_;clear hL;intro _ w1 hL));go_roundw;case rel=>exact⟨j+1,by omega,by rw[show(k:Int)-1=255-((j+1:Nat):Int)from by have:=HK.out;omega],by rw[HT.out];exact hL⟩
    case measure=>simp[intOf]
  ·obtain rfl:j=256:=by omega
   have k1:(255:Int)-((256:Nat):Int)= -1:=by omega
   rw[k1];clear k1;go_wp2_with (first|(refine aQp ?_;clear hL;intro _ w1 hL));exact bodyPost_ret (ai rfl hL rfl) rfl ⟨rfl,hL.bel⟩
instance NM:Ent 76:=eo func76
instance NN(p:Pe)(e:Nat→BitVec 8):FnG 76 #[.agg (rowPe p),.agg (aa 32 e)] (.agg (rowPe (p.many (leN e)))):=⟨fun w _=>uz p e w⟩
theorem sl(n:Nat):bits .and .u8 (B8 (ab n 0)) 1=((n%2:Nat):Int):=by
 unfold B8 ab;rw[BitVec.toNat_ofNat,Nat.mul_zero,Nat.pow_zero,Nat.div_one,show(2:Nat)^8=256 from rfl,oL _ (Nat.mod_lt _ (by omega))];omega
theorem uA(p:Pe)(w:World):Rt 75 #[.agg (rowPe p)] w (.agg (aa 32 (ab (bT p.ex)))):=by
 have hL:=Loc.nil w;obtain⟨Y,hY⟩:∃Y,Y=(p.y.mul p.z.inv).v.val:=⟨_,rfl⟩;obtain⟨X,hX⟩:∃X,X=(p.x.mul p.z.inv).v.val:=⟨_,rfl⟩;haveI f1:FnC 129 #[.agg (rowEl (p.y.mul p.z.inv))] (.agg (aa 32 (ab Y))):=by rw[hY];infer_instance
 haveI f2:FnC 129 #[.agg (rowEl (p.x.mul p.z.inv))] (.agg (aa 32 (ab X))):=by rw[hX];infer_instance
 have hm:Y<2^255:=by rw[hY];exact Nat.lt_trans (Fin.isLt _) yK
 have ho:=yJ hm (X%2) (Nat.mod_lt _ (by omega));have hb:=sl X;haveI g1:Cell (aa 32 (ab Y)) 31 (.int .u8 (B8 (ab Y 31))):=aI _ (by omega);haveI g2:Cell (aa 32 (ab X)) 0 (.int .u8 (B8 (ab X 0))):=aI _ (by omega);have gr:=uc (m:=Y) (X%2);have he:bT p.ex=Y+2^255*(X%2):=by
  rw[hY,hX,El.mul_v,El.mul_v,El.inv_v];rfl
 rw[he];clear he hY hX;by_cases hc:X%2=1
 ·rw[hc]at hb ho gr ⊢
  rw[← ho,show((128*1:Nat):Int)=128 from rfl]at gr;haveI gp:Put (aa 32 (ab Y)) 31 (.int .u8 (bits .or .u8 (B8 (ab Y 31)) 128)) (aa 32 (ab (Y+2^255*1))):=a9 (by omega) gr;clear hc ho hm gr;generalize ab (Y+2^255*1)=out,ab Y=s,ab X=u at *
  go_enter func75,ntmps75;go_wp2_with (first|(refine aQp ?_;clear hL;intro _ w1 hL));exact bodyPost_ret (ai rfl hL rfl) rfl ⟨rfl,hL.bel⟩
 ·rw[show X%2=0 from by omega]at hb ho gr ⊢
  rw[← ho,show((128*0:Nat):Int)=0 from rfl]at gr;haveI gp:Put (aa 32 (ab Y)) 31 (.int .u8 (bits .or .u8 (B8 (ab Y 31)) 0)) (aa 32 (ab (Y+2^255*0))):=a9 (by omega) gr;clear hc ho hm gr;generalize ab (Y+2^255*0)=out,ab Y=s,ab X=u at *
  go_enter func75,ntmps75;go_wp2_with (first|(refine aQp ?_;clear hL;intro _ w1 hL));exact bodyPost_ret (ai rfl hL rfl) rfl ⟨rfl,hL.bel⟩
instance NO:Ent 75:=eo func75
instance NP(p:Pe):FnC 75 #[.agg (rowPe p)] (.agg (aa 32 (ab (bT p.ex)))):=⟨uA p⟩
end R3
namespace R3
open Go Go.Proofs.YtoifhhljfaoejaaGreatDoor Go.RowKit
def aK(f:Nat→Int):Nat→Int
 | 0=>0
 | k+1=>aK f k+f k*2^(8*k)
theorem cW{f g:Nat→Int}:∀k,(∀i,i<k→f i=g i)→aK f k=aK g k
 | 0,_=>rfl
 | k+1,h=>by unfold aK;rw[cW k fun i hi=>h i (by omega),h k (by omega)]
theorem Fy(i k:Nat):(2:Int)^(8*(i+k))=2^(8*i)*2^(8*k):=by rw[Nat.mul_add,Int.pow_add]
theorem Gs(k:Nat):(2:Int)^(8*(k+1))=2^(8*k)*256:=by rw[Fy];rfl
def dgB(n i:Nat):Nat:=n/2^(8*i)%256
theorem du(n i:Nat):dgB n i<256:=Nat.mod_lt _ (by omega)
theorem sH(n:Nat):∀k,aK (fun i=>(dgB n i:Int)) k=((n%2^(8*k):Nat):Int)
 | 0=>by simp[aK,Nat.mod_one]
 | k+1=>by
  unfold aK;have hE:((2^(8*k):Nat):Int)=(2:Int)^(8*k):=by norm_cast
  have hd:dgB n k=n/2^(8*k)%2^8:=rfl;rw[sH n k,Nat.mul_succ,Nat.pow_add,Nat.mod_mul,Int.natCast_add,Int.natCast_mul,hE,← hd,Int.mul_comm]
def Fz(f:Nat→Int):Prop:=∀i,0≤f i∧f i≤255
theorem gY{f:Nat→Int}(h:Fz f):∀k:Nat,0≤aK f k∧aK f k<2^(8*k)
 | 0=>by simp[aK]
 | k+1=>by
  have ih:=gY h k;have hf:=h k;unfold aK;rw[Gs];generalize(2:Int)^(8*k)=E at *
  have h1:0≤f k*E:=Int.mul_nonneg hf.1 (by omega);have h2:f k*E≤255*E:=Int.mul_le_mul_of_nonneg_right hf.2 (by omega);omega
theorem nH{f:Nat→Int}(h:Fz f):∀k:Nat,∀i,i<k→f i=(dgB (aK f k).toNat i:Int)
 | 0,i,hi=>absurd hi (by omega)
 | k+1,i,hi=>by
  have hv:=gY h k;have hf:=h k;have e:(aK f (k+1)).toNat=(aK f k).toNat+2^(8*k)*(f k).toNat:=by
   have:((2^(8*k):Nat):Int)=(2:Int)^(8*k):=by norm_cast
   refine Int.ofNat_inj.1 ?_;have h1:0≤f k*(2:Int)^(8*k):=Int.mul_nonneg hf.1 (by omega);have hvk:aK f (k+1)=aK f k+f k*2^(8*k):=rfl;rw[hvk,Int.toNat_of_nonneg (show 0≤aK f k+f k*2^(8*k) by omega),Int.natCast_add,Int.natCast_mul,this,Int.toNat_of_nonneg hv.1,Int.toNat_of_nonneg hf.1];show aK f k+f k*2^(8*k)=_;grind
  have hlt:(aK f k).toNat<2^(8*k):=by
   have:((2^(8*k):Nat):Int)=(2:Int)^(8*k):=by norm_cast
   omega
  unfold dgB;rw[e];rcases Nat.lt_or_ge i k with h1|h1
  ·rw[nH h k i h1]
   unfold dgB;obtain⟨d,hd⟩:∃d,k=i+1+d:=⟨k-(i+1),by omega⟩;rw[show 8*k=8*i+(8+8*d)from by omega,Nat.pow_add,Nat.mul_assoc,Nat.add_mul_div_left _ _ (Nat.two_pow_pos _),Nat.pow_add,Nat.mul_assoc,show(2:Nat)^8=256 from rfl,Nat.add_mul_mod_self_left]
  ·obtain rfl:i=k:=by omega
   rw[Nat.add_mul_div_left _ _ (Nat.two_pow_pos _),Nat.div_eq_of_lt hlt,Nat.zero_add];omega
def bq(n:Nat):Nat→Int
 | 0=>0
 | k+1=>if(dgB n k:Int)-dgB Qo k-bq n k<0 then 1 else 0
def iX(n i:Nat):Int:=(dgB n i:Int)-dgB Qo i-bq n i
theorem zc(n:Nat):∀k,0≤bq n k∧bq n k≤1
 | 0=>by unfold bq;omega
 | k+1=>by unfold bq;split <;> omega
theorem zd(n i:Nat): -256≤iX n i∧iX n i≤255:=by
 have:=zc n i;have:=du n i;have:=du Qo i;unfold iX;omega
theorem ze(n k:Nat):iX n k/256%2=bq n (k+1):=by
 have:=zd n k;have e:bq n (k+1)=if iX n k<0 then 1 else 0:=rfl;rw[e];split <;> omega
theorem oR(n:Nat):∀k,aK (fun i=>iX n i%256) k=aK (fun i=>(dgB n i:Int)) k-aK (fun i=>(dgB Qo i:Int)) k+bq n k*2^(8*k)
 | 0=>by simp[aK,bq]
 | k+1=>by
  have h:=zd n k;have hb:=ze n k;have hr:iX n k%256=(dgB n k:Int)-dgB Qo k-bq n k+256*bq n (k+1):=by
   have:iX n k=(dgB n k:Int)-dgB Qo k-bq n k:=rfl;have:=zc n (k+1);omega
  unfold aK;rw[oR n k,hr,Gs];grind
theorem uB(n:Nat):Fz (fun i=>iX n i%256):=fun i=>(show 0≤iX n i%256∧iX n i%256≤255 by omega)
def sJ(n:Nat):Nat:=if n<Qo then n else n-Qo
theorem C2{a b:Nat}(h:a<b):2^a*2≤2^b:=by rw[← Nat.pow_succ];exact Nat.pow_le_pow_right (by decide) h
theorem oS{n k:Nat}(h:n<2^k):(n:Int)<(2:Int)^k:=by
 have:=Int.ofNat_lt.2 h;rwa[Int.natCast_pow]at this
theorem nI{n:Nat}(h:n<2^264):aK (fun i=>(dgB n i:Int)) 33=(n:Int):=by rw[sH,show 8*33=264 from rfl,Nat.mod_eq_of_lt h]
theorem xx:Qo<2^264:=by decide +kernel
theorem C3{n:Nat}(h:n<2^264):(bq n 33=0∧Qo≤n)∨(bq n 33=1∧n<Qo):=by
 have h1:=oR n 33;rw[nI h,nI xx]at h1;have h2:=gY (uB n) 33;have h5:=zc n 33;rw[show 8*33=264 from rfl]at h1 h2;have hn:=oS h;have hp:=oS xx;generalize aK (fun i=>iX n i%256) 33=v at *
 generalize(2:Int)^264=E at *
 have hb:bq n 33=0∨bq n 33=1:=by omega
 rcases hb with hb|hb
 ·rw[hb,Int.zero_mul]at h1
  exact .inl ⟨hb,by omega⟩
 ·rw[hb,Int.one_mul]at h1
  exact .inr ⟨hb,by omega⟩
theorem FA{n:Nat}(h:n<2^264)(hp:Qo≤n):∀i,i<33→iX n i%256=(dgB (n-Qo) i:Int):=by
 have h1:=oR n 33;rw[nI h,nI xx]at h1;have hb:bq n 33=0:=by rcases C3 h with h|h <;> omega
 rw[hb,Int.zero_mul]at h1;intro i hi;have h2:=nH (uB n) 33 i hi;rw[h1]at h2;rw[h2,show((n:Int)-(Qo:Int)+0).toNat=n-Qo from by omega]
theorem C4{n:Nat}(h:n<2*Qo):sJ n=n%Qo:=by
 unfold sJ;by_cases h0:n<Qo
 ·rw[if_pos h0,Nat.mod_eq_of_lt h0]
 ·rw[if_neg h0,Nat.mod_eq_sub_mod (by omega),Nat.mod_eq_of_lt (by omega)]
def crK(n c k:Nat):Nat:=(2*(n%2^(8*k))+c)/2^(8*k)
theorem uC(n c:Nat):crK n c 0=c:=by unfold crK;simp[Nat.mod_one]
theorem C5(n c k:Nat):dgB (2*n+c) k=(2*dgB n k+crK n c k)%256:=by
 unfold dgB crK;have h:=Nat.div_add_mod n (2^(8*k));have hpos:=Nat.two_pow_pos (8*k);generalize 2^(8*k)=E at *
 have e:2*n+c=2*(n%E)+c+E*(2*(n/E)):=by rw[Nat.mul_left_comm];omega
 rw[e,Nat.add_mul_div_left _ _ hpos];omega
theorem uD(n c k:Nat):crK n c (k+1)=(2*dgB n k+crK n c k)/256:=by
 unfold crK dgB;rw[Nat.mul_succ,Nat.pow_add,show(2:Nat)^8=256 from rfl,Nat.mod_mul];have hpos:=Nat.two_pow_pos (8*k);generalize 2^(8*k)=E at *
 have e:2*(n%E+E*(n/E%256))+c=2*(n%E)+c+E*(2*(n/E%256)):=by rw[Nat.mul_add,Nat.mul_left_comm];omega
 rw[e,← Nat.div_div_eq_div_mul,Nat.add_mul_div_left _ _ hpos,Nat.add_comm]
theorem C6(n c:Nat)(hc:c≤1):∀k,crK n c k≤1
 | 0=>by rw[uC];exact hc
 | k+1=>by
  rw[uD];have:=C6 n c hc k;have:=du n k;omega
def csK(a b k:Nat):Nat:=(a%2^(8*k)+b%2^(8*k))/2^(8*k)
theorem uE(a b:Nat):csK a b 0=0:=by unfold csK;simp[Nat.mod_one]
theorem Hx(a b k:Nat):dgB (a+b) k=(csK a b k+dgB a k+dgB b k)%256:=by
 unfold dgB csK;have h1:=Nat.div_add_mod a (2^(8*k));have h2:=Nat.div_add_mod b (2^(8*k));have hpos:=Nat.two_pow_pos (8*k);generalize 2^(8*k)=E at *
 have e:a+b=a%E+b%E+E*(a/E+b/E):=by rw[Nat.mul_add];omega
 rw[e,Nat.add_mul_div_left _ _ hpos];omega
theorem uF(a b k:Nat):csK a b (k+1)=(csK a b k+dgB a k+dgB b k)/256:=by
 unfold csK dgB;rw[Nat.mul_succ,Nat.pow_add,show(2:Nat)^8=256 from rfl,Nat.mod_mul,Nat.mod_mul];have hpos:=Nat.two_pow_pos (8*k);generalize 2^(8*k)=E at *
 have e:a%E+E*(a/E%256)+(b%E+E*(b/E%256))=a%E+b%E+E*(a/E%256+b/E%256):=by rw[Nat.mul_add];omega
 rw[e,← Nat.div_div_eq_div_mul,Nat.add_mul_div_left _ _ hpos,Nat.add_assoc]
theorem C7(a b:Nat):∀k,csK a b k≤1
 | 0=>by rw[uE];omega
 | k+1=>by
  rw[uF];have:=C7 a b k;have:=du a k;have:=du b k;omega
def dL(f:Nat→Nat):Nat→Nat
 | 0=>0
 | k+1=>dL f k+f k*2^(8*k)
theorem sK(n:Nat):∀k,dL (dgB n) k=n%2^(8*k)
 | 0=>by simp[dL,Nat.mod_one]
 | k+1=>by
  unfold dL;rw[sK n k,Nat.mul_succ,Nat.pow_add,Nat.mod_mul,Nat.mul_comm (dgB n k)];rfl
theorem uH(f:Nat→Nat)(j x:Nat):∀k,dL (fun i=>if i=j then f i+x else f i) k=dL f k+if j<k then x*2^(8*j)else 0
 | 0=>by simp[dL]
 | k+1=>by
  unfold dL;rw[uH f j x k];by_cases e:k=j
  ·subst e;rw[if_pos rfl,if_neg (by omega),if_pos (by omega)];grind
  ·rw[if_neg e]
   by_cases h:j<k
   ·rw[if_pos h,if_pos (by omega)];grind
   ·rw[if_neg h,if_neg (by omega)];grind
theorem AE(k:Nat):dL (fun _=>0) k=0:=by
 induction k with
 | zero=>rfl
 | succ k ih=>unfold dL;rw[ih];simp
def tQ(a b:Nat→Nat)(i:Nat):Nat→Nat→Nat
 | 0=>match i with
  | 0=>fun _=>0
  | i+1=>tQ a b i 32
 | k+1=>fun j=>if j=i+k then tQ a b i k j+a i*b k else tQ a b i k j
termination_by k=>(i,k)
theorem sM(a b:Nat→Nat):tQ a b 0 0=fun _=>0:=by unfold tQ;rfl
theorem xz(a b:Nat→Nat)(i:Nat):tQ a b (i+1) 0=tQ a b i 32:=by conv=>lhs;unfold tQ
theorem sO(a b:Nat→Nat)(i k:Nat):tQ a b i (k+1)=fun j=>if j=i+k then tQ a b i k j+a i*b k else tQ a b i k j:=by conv=>lhs;unfold tQ
theorem C8(a b:Nat→Nat)(i:Nat)(hi:i<32):∀k,k≤32→dL (tQ a b i k) 64=dL (tQ a b i 0) 64+a i*2^(8*i)*dL b k
 | 0,_=>by
  have h0:dL b 0=0:=rfl;rw[h0,Nat.mul_zero,Nat.add_zero]
 | k+1,hk=>by
  have hk1:dL b (k+1)=dL b k+b k*2^(8*k):=rfl;rw[sO,uH,C8 a b i hi k (by omega),if_pos (by omega),Nat.mul_add 8 i k,Nat.pow_add,hk1];generalize dL (tQ a b i 0) 64=V;generalize 2^(8*i)=E;generalize 2^(8*k)=G;generalize dL b k=W;grind
theorem C9(a b:Nat→Nat):∀i,i≤32→dL (tQ a b i 0) 64=dL a i*dL b 32
 | 0,_=>by
  have h0:dL a 0=0:=rfl;rw[sM,AE,h0,Nat.zero_mul]
 | i+1,hi=>by
  have hk1:dL a (i+1)=dL a i+a i*2^(8*i):=rfl;rw[xz,C8 a b i (by omega) 32 (by omega),C9 a b i (by omega),hk1,Nat.add_mul]
theorem zf{x y:Nat}(hx:x<256)(hy:y<256):x*y≤65536:=Nat.le_trans (Nat.mul_le_mul (Nat.le_of_lt hx) (Nat.le_of_lt hy)) (by omega)
theorem Da{a b:Nat→Nat}(ha:∀i,a i<256)(hb:∀i,b i<256)(i:Nat)(h0:∀j,tQ a b i 0 j≤65536*i):∀k j,tQ a b i k j≤65536*(i+1)∧(i+k≤j→tQ a b i k j≤65536*i)
 | 0,j=>by have:=h0 j;omega
 | k+1,j=>by
  have ih:=Da ha hb i h0 k j;have hm:=zf (ha i) (hb k);rw[sO];simp only;by_cases e:j=i+k
  ·rw[if_pos e]
   have:=ih.2 (by omega);omega
  ·rw[if_neg e]
   exact⟨ih.1,fun h=>ih.2 (by omega)⟩
theorem Db{a b:Nat→Nat}(ha:∀i,a i<256)(hb:∀i,b i<256):∀i j:Nat,tQ a b i 0 j≤65536*i
 | 0,j=>by rw[sM];simp
 | i+1,j=>by
  rw[xz];exact(Da ha hb i (Db ha hb i) 32 j).1
theorem Dc{a b:Nat→Nat}(ha:∀i,a i<256)(hb:∀i,b i<256)(i k j:Nat)(hi:i≤32):tQ a b i k j≤2162688:=by
 have:=(Da ha hb i (Db ha hb i) k j).1;omega
def ctK(t:Nat→Nat)(k:Nat):Nat:=dL t k/2^(8*k)
theorem uI(t:Nat→Nat)(k:Nat):ctK t (k+1)=(ctK t k+t k)/256:=by
 have hk1:dL t (k+1)=dL t k+t k*2^(8*k):=rfl;unfold ctK;rw[hk1,Nat.mul_succ,Nat.pow_add,show(2:Nat)^8=256 from rfl,← Nat.div_div_eq_div_mul,Nat.mul_comm (t k),Nat.add_mul_div_left _ _ (Nat.two_pow_pos _)]
theorem zg{t:Nat→Nat}(h:∀j,t j≤2162688):∀k,ctK t k≤2162688
 | 0=>by unfold ctK dL;simp
 | k+1=>by
  rw[uI];have:=zg h k;have:=h k;omega
theorem oT(t:Nat→Nat)(n:Nat):∀k,∃r,dL t (n+k)=dL t n+2^(8*n)*r
 | 0=>⟨0,by simp⟩
 | k+1=>by
  obtain⟨r,hr⟩:=oT t n k;refine⟨r+t (n+k)*2^(8*k),?_⟩;show dL t (n+k)+t (n+k)*2^(8*(n+k))=_;rw[hr,Nat.mul_add 8 n k,Nat.pow_add];grind
theorem JP(t:Nat→Nat){m k:Nat}(h:k<m):dgB (dL t m) k=(ctK t k+t k)%256:=by
 obtain⟨d,hd⟩:∃d,m=k+1+d:=⟨m-(k+1),by omega⟩;obtain⟨r,hr⟩:=oT t (k+1) d;rw[hd,hr];unfold dgB ctK;rw[Nat.mul_succ 8 k,Nat.pow_add,show(2:Nat)^8=256 from rfl,Nat.mul_assoc];show(dL t k+t k*2^(8*k)+2^(8*k)*(256*r))/2^(8*k)%256=_;rw[Nat.add_mul_div_left _ _ (Nat.two_pow_pos _),Nat.mul_comm (t k),Nat.add_mul_div_left _ _ (Nat.two_pow_pos _),Nat.add_mul_mod_self_left]
theorem lm(n i:Nat):(ab n i).toNat=dgB n i:=by unfold ab dgB;rw[BitVec.toNat_ofNat]
theorem FB(f:Nat→BitVec 8){n i:Nat}(h:i<8*n):leK f n/2^i%2=(f (i/8)).toNat/2^(i%8)%2:=by
 have e:2^i=2^(8*(i/8))*2^(i%8):=by rw[← Nat.pow_add];congr 1;omega
 rw[e,← Nat.div_div_eq_div_mul,ut _ _ (Nat.mod_lt _ (by omega)),oK f n (i/8) (by omega)]
end R3
namespace R3
open Go Go.Proofs.YtoifhhljfaoejaaGreatDoor Go.RowKit
instance NQ:RowTy 296 33:=⟨⟨_,underlying296,rfl⟩,by kernel_rfl⟩
instance NR:RowZ 296 (ao 33 fun _=>0):=⟨by kernel_rfl⟩
def iY(n:Nat)(x:Nat):Array Value:=ao n fun i=>(dgB x i:Int)
instance NS(n x:Nat):Row1 (iY n x) n:=inferInstanceAs (Row1 (ao n _) n)
theorem Gt{n k:Nat}(x:Nat)(h:k<n):Cell (iY n x) k (.int .i64 (dgB x k:Nat)):=bQ (fun i=>(dgB x i:Int)) h
theorem FC{w:World}[h:Glob w]{k:Nat}(hk:k<32):Was w 5 k (.int .i64 (dgB Qo k:Nat)):=⟨by have:=h.ord k hk;rw[lm]at this;exact this,by have:=h.lt;omega⟩
def stL(n k i:Nat):Int:=if i<k then iX n i%256 else(dgB n i:Int)
theorem zh(n:Nat){k:Nat}(h:k<33)(x:Int)(e:x=iX n k%256):Put (ao 33 (stL n k)) k (.int .i64 x) (ao 33 (stL n (k+1))):=dS h fun i hi=>by
 unfold stL;rw[e];by_cases c:i=k
 ·subst c;rw[if_pos rfl,if_pos (by omega)]
 ·rw[if_neg c]
  by_cases h:i<k
  ·rw[if_pos h,if_pos (by omega)]
  ·rw[if_neg h,if_neg (by omega)]
theorem Hy:dgB Qo 32=0:=by decide +kernel
theorem AF(n:Nat)(hn:n<2^264)(w:World)[hG:Glob w]:Rt 233 #[.agg (iY 33 n)] w (.agg (iY 33 (sJ n))):=by
 have hL:=Loc.nil w;have HZ:=Hd (show iY 33 n=ao 33 (stL n 0)from bH fun i _=>by unfold stL;rw[if_neg (by omega)]);have HI:=Hd (C3 hn);have HS:=Hd (fun(h:Qo≤n)=>show ao 33 (stL n 33)=iY 33 (sJ n)from bH fun i hi=>by
  have e:sJ n=n-Qo:=by unfold sJ;rw[if_neg (by omega)]
  unfold stL;rw[if_pos hi,e];exact FA hn h i hi)
 have HT:=Hd (fun(h:n<Qo)=>show iY 33 n=iY 33 (sJ n)from by unfold sJ;rw[if_pos h]);clear hn;go_enter func233,ntmps233;go_wp2_with (first|(refine gBp 1 ?_;clear hL;intro b1 w1 hL)|(refine gBp 2 ?_;clear hL;intro b2 w1 hL)|(refine gBp 3 ?_;clear hL;intro b3 w1 hL)|(refine aQq ?_;clear hL;intro _ w1 hL));go_loopw [4,5] (fun cc kk wr=>∃k:Nat,k≤33∧kk= .int .i64 k∧cc= .int .i64 (bq n k)∧Loc w wr [(b3,ao 33 (stL n k),296),(b2,ao 33 fun _=>0,296),(b1,iY 33 n,296)]) (fun _ kk _=>33-(intOf kk).toNat);case atStart=>exact⟨0,by omega,rfl,rfl,by rw[← HZ.out];exact hL⟩
 case round =>
  clear hL;obtain⟨k,hk,rfl,rfl,hL⟩:=hrel;by_cases hlt:k<33
  ·have hk0:(0:Int)≤(k:Int):=by omega
   have hk1:(k:Int)<33:=by omega
   have hb:=zc n k;have hd:=du n k;have hq:=du Qo k;have hs:=ze n k;have hr:iX n k=(dgB n k:Int)-dgB Qo k-bq n k:=rfl;haveI g1:Cell (iY 33 n) k (.int .i64 (dgB n k:Nat)):=Gt n hlt;by_cases h32:k<32
   ·haveI g2:Was w 5 k (.int .i64 (dgB Qo k:Nat)):=FC h32
    have h32':(k:Int)<32:=by omega
    by_cases hneg:iX n k<0
    ·have HB:=Hd (show bq n (k+1)=1 from by omega)
     haveI p1:Put (ao 33 (stL n k)) k (.int .i64 ((dgB n k:Nat)-bq n k-(dgB Qo k:Nat)+256)) (ao 33 (stL n (k+1))):=zh n hlt _ (by omega);have hneg':(dgB n k:Int)-bq n k-dgB Qo k<0:=by omega
     clear hs hr hneg;generalize stL n k=s,dgB n k=d,dgB Qo k=q,bq n k=c at *
     have w1:IntKind.i64.wrap ((d:Int)-c)=(d:Int)-c:=IntWalk.i64_in _ (by omega);have w2:IntKind.i64.wrap ((d:Int)-c-q)=(d:Int)-c-q:=IntWalk.i64_in _ (by omega);have w3:IntKind.i64.wrap ((d:Int)-c-q+256)=(d:Int)-c-q+256:=IntWalk.i64_in _ (by omega);go_wp2_with (first|(refine aQq ?_;clear hL;intro _ w1 hL));go_roundw;case rel=>exact⟨k+1,by omega,by go_num,by rw[HB.out],hL⟩
     case measure=>simp[intOf];omega
    ·have HB:=Hd (show bq n (k+1)=0 from by omega)
     haveI p1:Put (ao 33 (stL n k)) k (.int .i64 ((dgB n k:Nat)-bq n k-(dgB Qo k:Nat))) (ao 33 (stL n (k+1))):=zh n hlt _ (by omega);have hneg':¬(dgB n k:Int)-bq n k-dgB Qo k<0:=by omega
     have hneg2:0≤(dgB n k:Int)-bq n k-dgB Qo k:=by omega
     clear hs hr hneg;generalize stL n k=s,dgB n k=d,dgB Qo k=q,bq n k=c at *
     have w1:IntKind.i64.wrap ((d:Int)-c)=(d:Int)-c:=IntWalk.i64_in _ (by omega);have w2:IntKind.i64.wrap ((d:Int)-c-q)=(d:Int)-c-q:=IntWalk.i64_in _ (by omega);go_wp2_with (first|(refine aQq ?_;clear hL;intro _ w1 hL));go_roundw;case rel=>exact⟨k+1,by omega,by go_num,by rw[HB.out],hL⟩
     case measure=>simp[intOf];omega
   ·obtain rfl:k=32:=by omega
    rw[Hy]at hr;by_cases hneg:iX n 32<0
    ·have HB:=Hd (show bq n (32+1)=1 from by omega)
     haveI p1:Put (ao 33 (stL n 32)) 32 (.int .i64 ((dgB n 32:Nat)-bq n 32+256)) (ao 33 (stL n (32+1))):=zh n hlt _ (by omega);have hneg':(dgB n 32:Int)-bq n 32<0:=by omega
     clear hs hr hneg;generalize stL n 32=s,dgB n 32=d,bq n 32=c at *
     have w1:IntKind.i64.wrap ((d:Int)-c)=(d:Int)-c:=IntWalk.i64_in _ (by omega);have w3:IntKind.i64.wrap ((d:Int)-c+256)=(d:Int)-c+256:=IntWalk.i64_in _ (by omega);go_wp2_with (first|(refine aQq ?_;clear hL;intro _ w1 hL));go_roundw;case rel=>exact⟨32+1,by omega,by go_num,by rw[HB.out],hL⟩
     case measure=>simp[intOf]
    ·have HB:=Hd (show bq n (32+1)=0 from by omega)
     haveI p1:Put (ao 33 (stL n 32)) 32 (.int .i64 ((dgB n 32:Nat)-bq n 32)) (ao 33 (stL n (32+1))):=zh n hlt _ (by omega);have hneg':¬(dgB n 32:Int)-bq n 32<0:=by omega
     have hneg2:0≤(dgB n 32:Int)-bq n 32:=by omega
     clear hs hr hneg;generalize stL n 32=s,dgB n 32=d,bq n 32=c at *
     have w1:IntKind.i64.wrap ((d:Int)-c)=(d:Int)-c:=IntWalk.i64_in _ (by omega);go_wp2_with (first|(refine aQq ?_;clear hL;intro _ w1 hL));go_roundw;case rel=>exact⟨32+1,by omega,by go_num,by rw[HB.out],hL⟩
     case measure=>simp[intOf]
  ·obtain rfl:k=33:=by omega
   rcases HI.out with⟨h1,h2⟩|⟨h1,h2⟩
   ·rw[h1]
    rw[HS.out h2]at hL;clear h2;go_wp2_with (first|(refine aQq ?_;clear hL;intro _ w1 hL));exact bodyPost_ret (ai rfl hL rfl) rfl ⟨rfl,hL.bel⟩
   ·rw[h1]
    rw[HT.out h2]at hL;clear h2;go_wp2_with (first|(refine aQq ?_;clear hL;intro _ w1 hL));exact bodyPost_ret (ai rfl hL rfl) rfl ⟨rfl,hL.bel⟩
instance NT:Ent 233:=eo func233
def stR(n c k i:Nat):Int:=if i<k then(dgB (2*n+c) i:Int)else(dgB n i:Int)
theorem JQ(n c:Nat){k:Nat}(h:k<33)(x:Int)(e:x=(dgB (2*n+c) k:Int)):Put (ao 33 (stR n c k)) k (.int .i64 x) (ao 33 (stR n c (k+1))):=dS h fun i hi=>by
 unfold stR;rw[e];by_cases c:i=k
 ·subst c;rw[if_pos rfl,if_pos (by omega)]
 ·rw[if_neg c]
  by_cases h:i<k
  ·rw[if_pos h,if_pos (by omega)]
  ·rw[if_neg h,if_neg (by omega)]
def byP(n k:Nat):Nat→BitVec 8:=fun i=>if i<k then ab n i else 0
theorem JR(n:Nat){k:Nat}(h:k<32):Put (aa 32 (byP n k)) k (.int .u8 (dgB n k:Nat)) (aa 32 (byP n (k+1))):=a9 h (ak fun i _=>by
 unfold upd byP;by_cases e:i=k
 ·subst e;rw[if_pos rfl,if_pos (by omega)];unfold B8;rw[lm]
 ·rw[if_neg e]
  show Value.int .u8 (B8 (if i<k then ab n i else 0))=_;by_cases h:i<k
  ·rw[if_pos h,if_pos (by omega)]
  ·rw[if_neg h,if_neg (by omega)])
theorem refRed_any(f:Nat→BitVec 8)(n c B:Nat)(w:World)[hG:Glob w](hn:n≤64)(hcap:n≤c)(hw:∀i,i<n→Was w B i (.int .u8 (B8 (f i)))) :
 Rt 186 #[.slice (some ⟨B,0,none⟩) n c] w (.agg (aa 32 (ab (leK f n%Qo)))):=by
 have hL:=Loc.nil w;have HW:=Hd hw;have hn1:(n:Int)≤64:=by omega
 have hn0:(0:Int)≤(n:Int):=by omega
 have HBIT:=Hd (fun i (h:i<8*n)=>FB f h);have HZ:=Hd (show ao 33 (fun _=>0)=iY 33 (leK f n/2^(8*n)%Qo)from by
  rw[Nat.div_eq_of_lt (df f n),Nat.zero_mod];exact bH fun i _=>by unfold dgB;simp)
 generalize leK f n=A at *
 go_enter func186,ntmps186;go_wp2_with (first|(refine gBp 2 ?_;clear hL;intro b2 w1 hL)|(refine gBp 3 ?_;clear hL;intro b3 w1 hL)|(refine aQq ?_;clear hL;intro _ w1 hL));rw[HZ.out]at hL;have hm:8*(n:Int)-1=((8*n:Nat):Int)-1:=by omega
 rw[hm];go_loopw [4] (fun kk wr=>∃s:Nat,s≤8*n∧kk= .int .i64 ((s:Int)-1)∧Loc w wr [(b3,iY 33 (A/2^s%Qo),296),(b2,aa 32 fun _=>0,24)]) (fun kk _=>(intOf kk+1).toNat);case atStart=>exact⟨8*n,Nat.le_refl _,rfl,hL⟩
 case round =>
  clear hL;obtain⟨s,hs,rfl,hL⟩:=hrel;by_cases hlt:0<s
  ·obtain⟨p,rfl⟩:∃p,s=p+1:=⟨s-1,by omega⟩
   have ep:((p+1:Nat):Int)-1=(p:Int):=by omega
   rw[ep];have hp8:p<8*n:=by omega
   have hbit:=HBIT.out p hp8;have HRED:=Hd (ou A p);haveI g1:Was w B (p/8) (.int .u8 (B8 (f (p/8)))):=HW.out (p/8) (by omega);obtain⟨b0,b1⟩:=bK (f (p/8));have hv:bits .and .i64 (B8 (f (p/8))/2^(p%8)) 1=((A/2^p%2:Nat):Int):=by
    rw[and_one,hbit];unfold B8;rw[Int.natCast_emod,Int.natCast_ediv,Int.natCast_pow];rfl
   have p0:(0:Int)≤(p:Int):=by omega
   have e1:(p:Int)/8=((p/8:Nat):Int):=by omega
   have e2:(p:Int)%8=((p%8:Nat):Int):=by omega
   have e3:(p:Int).tdiv 8=((p/8:Nat):Int):=by rw[Int.tdiv_eq_ediv_of_nonneg (by omega)];omega
   have e4:(p:Int).tmod 8=((p%8:Nat):Int):=by rw[Int.tmod_eq_emod_of_nonneg (by omega)];omega
   have q0:(0:Int)≤((p/8:Nat):Int):=by omega
   have q1:((p/8:Nat):Int)<(n:Int):=by omega
   have r0:(0:Int)≤((p%8:Nat):Int):=by omega
   have r1:((p%8:Nat):Int)<8:=by omega
   have HP:=Hd hp8;have hbl:A/2^p%2≤1:=by omega
   clear hbit hlt hs;have hN:A/2^(p+1)%Qo<Qo:=Nat.mod_lt _ xr;have hQ:2*Qo<2^264:=by decide +kernel
   have HOFF:=Hd (show sJ (2*(A/2^(p+1)%Qo)+A/2^p%2)=A/2^p%Qo from by rw[C4 (by omega),ou A p,← Nat.two_mul]);haveI fl:FnG 233 #[.agg (iY 33 (2*(A/2^(p+1)%Qo)+A/2^p%2))] (.agg (iY 33 (A/2^p%Qo))):=⟨fun w hw=>by rw[← HOFF.out];exact AF _ (by omega) w⟩;clear hN hQ HOFF HRED;have HC0:=Hd (uC (A/2^(p+1)%Qo) (A/2^p%2));have HCL:=Hd (C6 (A/2^(p+1)%Qo) (A/2^p%2) hbl);generalize A/2^(p+1)%Qo=N,A/2^p%2=bit,p/8=q,p%8=r at *
   generalize B8 (f q)=u at *
   have wu:IntKind.i64.wrap u=u:=IntWalk.i64_in _ (by omega);go_wp2_with (first|(refine aQq ?_;clear hL;intro _ w1 hL));have HR0:=Hd (show iY 33 N=ao 33 (stR N bit 0)from bH fun i _=>by unfold stR;rw[if_neg (by omega)]);have HR1:=Hd (show ao 33 (stR N bit 33)=iY 33 (2*N+bit)from bH fun i hi=>by unfold stR;rw[if_pos hi]);go_loopw [5,6] (fun cc kk wr=>∃k:Nat,k≤33∧kk= .int .i64 k∧cc= .int .i64 (crK N bit k:Nat)∧Loc w wr [(b3,ao 33 (stR N bit k),296),(b2,aa 32 fun _=>0,24)]) (fun _ kk _=>33-(intOf kk).toNat);case atStart=>exact⟨0,by omega,rfl,by rw[HC0.out],by rw[← HR0.out];exact hL⟩
   case round =>
    clear hL;obtain⟨k,hk,rfl,rfl,hL⟩:=hrel;by_cases hkl:k<33
    ·have hk0:(0:Int)≤(k:Int):=by omega
     have hk1:(k:Int)<33:=by omega
     have hd:=du N k;have hc:=HCL.out k;have ht:=C5 N bit k;have HCS:=Hd (uD N bit k);have ha:=and_255 (2*(dgB N k:Int)+(crK N bit k:Int));haveI g2:Cell (ao 33 (stR N bit k)) k (.int .i64 (dgB N k:Nat)):=by
      have:stR N bit k k=(dgB N k:Int):=by unfold stR;rw[if_neg (by omega)]
      rw[← this];exact bQ _ hkl
     haveI p1:Put (ao 33 (stR N bit k)) k (.int .i64 (bits .and .i64 (2*(dgB N k:Int)+(crK N bit k:Int)) 255)) (ao 33 (stR N bit (k+1))):=JQ N bit hkl _ (by rw[ha,ht];omega);clear ha ht;generalize stR N bit k=st at *
     generalize hcr:crK N bit (k+1)=c',dgB N k=d,crK N bit k=c at *
     have w1:IntKind.i64.wrap (2*(d:Int))=2*(d:Int):=IntWalk.i64_in _ (by omega);have w2:IntKind.i64.wrap (2*(d:Int)+c)=2*(d:Int)+c:=IntWalk.i64_in _ (by omega);have hcc:(2*(d:Int)+c)/256=(c':Int):=by have:=HCS.out;omega
     have HCR:=Hd hcr;clear hcr;go_wp2_with (first|(refine aQq ?_;clear hL;intro _ w1 hL));go_roundw;case rel=>exact⟨k+1,by omega,by go_num,by rw[HCR.out],hL⟩
     case measure=>simp[intOf];omega
    ·obtain rfl:k=33:=by omega
     rw[HR1.out]at hL;go_wp2_with (first|(refine aQq ?_;clear hL;intro _ w1 hL));go_roundw;case rel=>exact⟨p,by have:=HP.out;omega,rfl,hL⟩
     case measure=>simp[intOf]
  ·obtain rfl:s=0:=by omega
   rw[Nat.pow_zero,Nat.div_one]at hL;have k1:((0:Nat):Int)-1= -1:=by omega
   rw[k1];clear k1 hs hlt HW HBIT HZ;have HB0:=Hd (show(aa 32 fun _=>0)=aa 32 (byP (A%Qo) 0)from ak fun i _=>by unfold byP;rw[if_neg (by omega)]);have HB1:=Hd (show aa 32 (byP (A%Qo) 32)=aa 32 (ab (A%Qo))from ak fun i hi=>by unfold byP;rw[if_pos hi]);go_wp2_with (first|(refine gBp 8 ?_;clear hL;intro b8 w1 hL)|(refine aQq ?_;clear hL;intro _ w1 hL));go_loopw [9] (fun kk wr=>∃k:Nat,k≤32∧kk= .int .i64 k∧Loc w wr [(b8,aa 32 (byP (A%Qo) k),24),(b3,iY 33 (A%Qo),296),(b2,aa 32 fun _=>0,24)]) (fun kk _=>32-(intOf kk).toNat);case atStart=>exact⟨0,by omega,rfl,by rw[← HB0.out];exact hL⟩
   case round =>
    clear hL;obtain⟨k,hk,rfl,hL⟩:=hrel;by_cases hkl:k<32
    ·have hk0:(0:Int)≤(k:Int):=by omega
     have hk1:(k:Int)<32:=by omega
     have hk2:(k:Int)<33:=by omega
     have hd:=du (A%Qo) k;haveI g1:Cell (iY 33 (A%Qo)) k (.int .i64 (dgB (A%Qo) k:Nat)):=Gt _ (by omega);haveI p1:=JR (A%Qo) hkl;generalize dgB (A%Qo) k=d at *
     have w1:IntKind.u8.wrap (d:Int)=(d:Int):=by rw[IntKind.wrap_u8];omega
     go_wp2_with (first|(refine aQq ?_;clear hL;intro _ w1 hL));go_roundw;case rel=>exact⟨k+1,by omega,by go_num,hL⟩
     case measure=>simp[intOf];omega
    ·obtain rfl:k=32:=by omega
     rw[HB1.out]at hL;go_wp2_with (first|(refine aQq ?_;clear hL;intro _ w1 hL));exact bodyPost_ret (ai rfl hL rfl) rfl ⟨rfl,hL.bel⟩
end R3
end Go.Proofs.YtoifhhljfaoejaaGreatDoor
