/-
  Lemmas of the law, part 10: the walks of the functions that it calls and the plain facts about them. No condition beyond those written.
-/
import Derived.Test.YtoifhhljfaoejaaGreatDoorPkAA
import Derived.Test.YtoifhhljfaoejaaGreatDoorPkAI
import Derived.Test.YtoifhhljfaoejaaGreatDoorPkAE
import Derived.Test.YtoifhhljfaoejaaGreatDoorPkAH
import Derived.Test.YtoifhhljfaoejaaGreatDoorRows
import Derived.WalkKit
import Derived.Lib.Hide
import Derived.WalkSpells
import Derived.WalkLawsBesides
import Derived.Deep.QuietTactic
import Derived.BigQuiet
import Derived.StillTailTactics
import Derived.Great.Ranges
set_option maxRecDepth 100000
set_option maxHeartbeats 8000000
set_option linter.unusedVariables false
set_option linter.unusedSimpArgs false
set_option linter.unusedSectionVars false
namespace Go.Proofs.YtoifhhljfaoejaaGreatDoor
open Go.Proofs.Tryz
namespace R3
open Go Go.Proofs.YtoifhhljfaoejaaGreatDoor Go.RowKit
instance NU:RowZ 74 (aa 64 fun _=>0):=⟨by kernel_rfl⟩
theorem zi(n:Nat){k:Nat}(h:k<64):Put (aa 64 (byP n k)) k (.int .u8 (dgB n k:Nat)) (aa 64 (byP n (k+1))):=a9 h (ak fun i _=>by
 unfold upd byP;by_cases e:i=k
 ·subst e;rw[if_pos rfl,if_pos (by omega)];unfold B8;rw[lm]
 ·rw[if_neg e]
  show Value.int .u8 (B8 (if i<k then ab n i else 0))=_;by_cases h:i<k
  ·rw[if_pos h,if_pos (by omega)]
  ·rw[if_neg h,if_neg (by omega)])
theorem was_loc{w0 w:World}{M:Mem}(hL:Loc w0 w M){b:Nat}{r:Array Value}{t:TypeId}(hm:(b,r,t)∈M){k:Nat}{v:Value}(hc:r[k]?=some v):Was w b k v :=
 ⟨by rw[cell_of_row w b k _ _ _ (hL.get hm)];exact hc,hL.lt hm⟩
theorem nJ(f:Nat→BitVec 8){k:Nat}(h:k<32):B8 (f k)=(dgB (leN f) k:Nat):=by
 unfold B8 dgB;rw[js f h]
theorem Dd(f g:Nat→BitVec 8)(w:World)[hG:Glob w]:Rt 134 #[.agg (aa 32 f),.agg (aa 32 g)] w (.agg (aa 32 (ab ((leN f+leN g)%Qo)))):=by
 have hL:=Loc.nil w;have HF:=Hd (fun k (h:k<32)=>nJ f h);have HG:=Hd (fun k (h:k<32)=>nJ g h);have hA:=fh f;have hB:=fh g;generalize leN f=A,leN g=B at *
 have HS:=Hd (show aa 64 (byP (A+B) 33)=aa 64 (ab (A+B))from ak fun i hi=>by
  unfold byP;by_cases h:i<33
  ·rw[if_pos h]
  ·rw[if_neg h]
   unfold ab;rw[Nat.div_eq_of_lt (Nat.lt_of_lt_of_le (show A+B<2^256*2 by omega) (C2 (show 256<8*i by omega)))];rfl)
 have HV:=Hd (show leK (ab (A+B)) 64=A+B from by rw[jS,Nat.mod_eq_of_lt (by omega)]);have HD:=Hd (show dgB A 32=0∧dgB B 32=0 from by unfold dgB;rw[Nat.div_eq_of_lt hA,Nat.div_eq_of_lt hB];exact⟨rfl,rfl⟩);clear hA hB;go_enter func134,ntmps134;go_wp2_with (first|(refine gBp 2 ?_;clear hL;intro b2 w1 hL)|(refine gBp 3 ?_;clear hL;intro b3 w1 hL)|(refine gBp 4 ?_;clear hL;intro b4 w1 hL)|(refine gBp 5 ?_;clear hL;intro b5 w1 hL)|(refine aQq ?_;clear hL;intro _ w1 hL));have HC0:=Hd (uE A B);have HCL:=Hd (C7 A B);have HB0:=Hd (show(aa 64 fun _=>0)=aa 64 (byP (A+B) 0)from ak fun i _=>by unfold byP;rw[if_neg (by omega)]);go_loopw [6,7] (fun cc kk wr=>∃k:Nat,k≤33∧kk= .int .i64 k∧cc= .int .i64 (csK A B k:Nat)∧Loc w wr [(b5,aa 64 (byP (A+B) k),74),(b4,aa 32 fun _=>0,24),(b3,aa 32 g,24),(b2,aa 32 f,24)]) (fun _ kk _=>33-(intOf kk).toNat);case atStart=>exact⟨0,by omega,rfl,by rw[HC0.out];rfl,by rw[← HB0.out];exact hL⟩
 case round =>
  clear hL;obtain⟨k,hk,rfl,rfl,hL⟩:=hrel;by_cases hkl:k<33
  ·have hk0:(0:Int)≤(k:Int):=by omega
   have hk1:(k:Int)<33:=by omega
   have hk2:(k:Int)<64:=by omega
   have hd:=du A k;have he:=du B k;have hc:=HCL.out k;have ht:=Hx A B k;have HCS:=Hd (uF A B k);have p1:=zi (A+B) (k:=k) (by omega);by_cases h32:k<32
   ·have h32':(k:Int)<32:=by omega
    haveI g1:Cell (aa 32 f) k (.int .u8 (dgB A k:Nat)):=by rw[← HF.out k h32];exact aI _ h32
    haveI g2:Cell (aa 32 g) k (.int .u8 (dgB B k:Nat)):=by rw[← HG.out k h32];exact aI _ h32
    have ha:=and_255 ((csK A B k:Int)+(dgB A k:Int)+(dgB B k:Int));have hv:((dgB (A+B) k:Nat):Int)=bits .and .i64 ((csK A B k:Int)+(dgB A k:Int)+(dgB B k:Int)) 255:=by rw[ha,ht];omega
    rw[hv]at p1;haveI p1:=p1;generalize hcs:csK A B (k+1)=c',csK A B k=c,dgB A k=d,dgB B k=e at *
    have w1:IntKind.i64.wrap ((c:Int)+d)=(c:Int)+d:=IntWalk.i64_in _ (by omega);have w2:IntKind.i64.wrap ((c:Int)+d+e)=(c:Int)+d+e:=IntWalk.i64_in _ (by omega);have w3:IntKind.i64.wrap (d:Int)=(d:Int):=IntWalk.i64_in _ (by omega);have w4:IntKind.i64.wrap (e:Int)=(e:Int):=IntWalk.i64_in _ (by omega);have w5:IntKind.u8.wrap (bits .and .i64 ((c:Int)+d+e) 255)=bits .and .i64 ((c:Int)+d+e) 255:=by rw[ha,IntKind.wrap_u8];omega
    have hcc:((c:Int)+d+e)/256=(c':Int):=by have:=HCS.out;omega
    have HCR:=Hd hcs;clear hcs ha hv ht HF HG;generalize byP (A+B) k=st at *
    go_wp2_with (first|(refine aQq ?_;clear hL;intro _ w1 hL));refine wf [(0,true),(1,true),(2,true),(3,false),(4,true),(5,true),(6,true),(7,true),(8,false),(9,true),(10,true),(11,true)] [] [] hL ?_;refine fA ?_;refine fC ?_;clear hL;intro w1 hL;go_wp2_with (first|(refine aQq ?_;clear hL;intro _ w1 hL));go_roundw;case rel=>exact⟨k+1,by omega,by go_num,by rw[HCR.out],hL⟩
    case measure=>simp[intOf];omega
   ·obtain rfl:k=32:=by omega
    obtain⟨z1,z2⟩:=HD.out;have ha:=and_255 (csK A B 32:Int);have hv:((dgB (A+B) 32:Nat):Int)=bits .and .i64 (csK A B 32:Int) 255:=by rw[ha,ht,z1,z2];omega
    rw[hv]at p1;haveI p1:=p1;have hcc:(csK A B 32:Int)/256=(csK A B (32+1):Int):=by have:=HCS.out;omega
    generalize hcs:csK A B (32+1)=c',csK A B 32=c at *
    have w5:IntKind.u8.wrap (bits .and .i64 (c:Int) 255)=bits .and .i64 (c:Int) 255:=by rw[ha,IntKind.wrap_u8];omega
    have HCR:=Hd hcs;clear hcs ha hv ht HF HG HCS HD z1 z2 hd he;generalize byP (A+B) 32=st at *
    go_wp2_with (first|(refine aQq ?_;clear hL;intro _ w1 hL));go_roundw;case rel=>exact⟨32+1,by omega,by go_num,by rw[HCR.out],hL⟩
    case measure=>simp[intOf]
  ·obtain rfl:k=33:=by omega
   rw[HS.out]at hL;have HR:=Hd (fun w1 (h:Loc w w1 [(b5,aa 64 (ab (A+B)),74),(b4,aa 32 fun _=>0,24),(b3,aa 32 g,24),(b2,aa 32 f,24)]) =>
    haveI:=h.glob hG
    refRed_any (ab (A+B)) 64 64 b5 w1 (by omega) (by omega) fun i hi=>was_loc h (.head _) (bI _ hi))
   rw[HV.out]at HR;go_wp2_with (first|((go_at_call 186;refine(HR.out _ hL).mono ?_;rintro e w1⟨rfl,hb1⟩;have hL1:=hL.keep hb1;clear hb1;clear hL;have hL:=hL1;clear hL1))|(refine aQq ?_;clear hL;intro _ w1 hL));exact bodyPost_ret (ai rfl hL rfl) rfl ⟨rfl,hL.bel⟩
instance NV:Ent 134:=eo func134
instance NW(f g:Nat→BitVec 8):FnG 134 #[.agg (aa 32 f),.agg (aa 32 g)] (.agg (aa 32 (ab ((leN f+leN g)%Qo)))):=⟨fun w _=>Dd f g w⟩
def oU(t:Nat→Nat):Array Value:=ao 64 fun i=>(t i:Int)
instance NX:RowZ 266 (oU fun _=>0):=⟨by kernel_rfl⟩
theorem De(f g:Nat→BitVec 8)(w:World)[hG:Glob w]:Rt 135 #[.agg (aa 32 f),.agg (aa 32 g)] w (.agg (aa 32 (ab (leN f*leN g%Qo)))):=by
 have hL:=Loc.nil w;have HF:=Hd (fun k (h:k<32)=>nJ f h);have HG:=Hd (fun k (h:k<32)=>nJ g h);have hA:=fh f;have hB:=fh g;generalize leN f=A,leN g=B at *
 have hV:dL (tQ (dgB A) (dgB B) 32 0) 64=A*B:=by
  rw[C9 _ _ 32 (by omega),sK,sK,Nat.mod_eq_of_lt hA,Nat.mod_eq_of_lt hB]
 have HV:=Hd (show leK (ab (A*B)) 64=A*B from by
  rw[jS,Nat.mod_eq_of_lt];have:=Nat.mul_lt_mul_of_lt_of_lt hA hB;rwa[← Nat.pow_add,show 256+256=8*64 from rfl]at this)
 have HLIM:=Hd (fun i k j (hi:i≤32)=>Dc (du A) (du B) i k j hi);obtain⟨T,hT⟩:∃T,T=tQ (dgB A) (dgB B) 32 0:=⟨_,rfl⟩;rw[← hT]at hV;have HT:=Hd hT;have HTL:=Hd (show ∀j,T j≤2162688 from fun j=>by rw[hT];exact Dc (du A) (du B) 32 0 j (by omega));have HDG:=Hd (show ∀k,k<64→dgB (A*B) k=(ctK T k+T k)%256 from fun k hk=>by rw[← hV];exact JP T hk);have HZ:=Hd (show oU (fun _=>0)=oU (tQ (dgB A) (dgB B) 0 0)from by rw[sM]);clear hA hB hV hT;go_enter func135,ntmps135;go_wp2_with (first|(refine gBp 2 ?_;clear hL;intro b2 w1 hL)|(refine gBp 3 ?_;clear hL;intro b3 w1 hL)|(refine gBp 4 ?_;clear hL;intro b4 w1 hL)|(refine gBp 5 ?_;clear hL;intro b5 w1 hL)|(refine aQq ?_;clear hL;intro _ w1 hL));rw[HZ.out]at hL;go_loopw [6] (fun kk wr=>∃i:Nat,i≤32∧kk= .int .i64 i∧Loc w wr [(b5,oU (tQ (dgB A) (dgB B) i 0),266),(b4,aa 32 fun _=>0,24),(b3,aa 32 g,24),(b2,aa 32 f,24)]) (fun kk _=>32-(intOf kk).toNat);case atStart=>exact⟨0,by omega,rfl,hL⟩
 case round =>
  clear hL;obtain⟨i,hi,rfl,hL⟩:=hrel;by_cases hlt:i<32
  ·have hi0:(0:Int)≤(i:Int):=by omega
   have hi1:(i:Int)<32:=by omega
   go_wp2_with (first|(refine aQq ?_;clear hL;intro _ w1 hL));go_loopw [7] (fun kk wr=>∃k:Nat,k≤32∧kk= .int .i64 k∧Loc w wr [(b5,oU (tQ (dgB A) (dgB B) i k),266),(b4,aa 32 fun _=>0,24),(b3,aa 32 g,24),(b2,aa 32 f,24)]) (fun kk _=>32-(intOf kk).toNat);case atStart=>exact⟨0,by omega,rfl,hL⟩
   case round =>
    clear hL;obtain⟨k,hk,rfl,hL⟩:=hrel;by_cases hkl:k<32
    ·have hk0:(0:Int)≤(k:Int):=by omega
     have hk1:(k:Int)<32:=by omega
     have ht:=HLIM.out i k (i+k) hi;have hd:=du A i;have he:=du B k;have hm:=zf hd he;haveI g1:Cell (oU (tQ (dgB A) (dgB B) i k)) (i+k) (.int .i64 (tQ (dgB A) (dgB B) i k (i+k):Nat)):=bQ (fun j=>(tQ (dgB A) (dgB B) i k j:Int)) (by omega);haveI g2:Cell (aa 32 f) i (.int .u8 (dgB A i:Nat)):=by rw[← HF.out i hlt];exact aI _ hlt
     haveI g3:Cell (aa 32 g) k (.int .u8 (dgB B k:Nat)):=by rw[← HG.out k hkl];exact aI _ hkl
     haveI g4:Put (oU (tQ (dgB A) (dgB B) i k)) (i+k) (.int .i64 ((tQ (dgB A) (dgB B) i k (i+k):Nat)+(dgB A i:Int)*(dgB B k:Int))) (oU (tQ (dgB A) (dgB B) i (k+1))):=dS (by omega) fun j hj=>by
      rw[sO];simp only;by_cases e:j=i+k
      ·subst e
       simp only[if_true];rw[Int.natCast_add,Int.natCast_mul]
      ·rw[if_neg e,if_neg e]
     generalize tQ (dgB A) (dgB B) i k=s at *
     have hik:(i:Int)+(k:Int)=((i+k:Nat):Int):=by omega
     have hk31:((i+k:Nat):Int)<64:=by omega
     have hk30:(0:Int)≤((i+k:Nat):Int):=by omega
     have wk:IntKind.i64.wrap ((i+k:Nat):Int)=((i+k:Nat):Int):=IntWalk.i64_in _ (by omega);generalize i+k=q at *
     generalize s q=t at *
     have hp:(dgB A i:Int)*(dgB B k:Int)=((dgB A i*dgB B k:Nat):Int):=(Int.natCast_mul _ _).symm;rw[hp]at g4;generalize dgB A i*dgB B k=p at *
     generalize dgB A i=u,dgB B k=v at *
     have wp:IntKind.i64.wrap (p:Int)=(p:Int):=IntWalk.i64_in _ (by omega);have wt:IntKind.i64.wrap ((t:Int)+p)=(t:Int)+p:=IntWalk.i64_in _ (by omega);have wu:IntKind.i64.wrap (u:Int)=(u:Int):=IntWalk.i64_in _ (by omega);have wv:IntKind.i64.wrap (v:Int)=(v:Int):=IntWalk.i64_in _ (by omega);clear HF HG HV HLIM HT HTL HDG HZ hm hd he;go_wp2_with fail;refine wf [(0,true),(1,true),(2,true),(3,true),(4,true),(5,true),(6,true),(7,false),(8,true),(9,true),(10,false),(11,true),(12,true),(13,true),(14,false),(15,true),(16,true),(17,true),(18,true)] [] [19] hL ?_;refine fA ?_;refine fB ?_;clear hL;intro w1 hL;go_wp2_with (first|(refine aQq ?_;clear hL;intro _ w1 hL));go_roundw;case rel=>exact⟨k+1,by omega,by go_num,hL⟩
     case measure=>simp[intOf];omega
    ·obtain rfl:k=32:=by omega
     rw[← xz]at hL;go_wp2_with (first|(refine aQq ?_;clear hL;intro _ w1 hL));go_roundw;case rel=>exact⟨i+1,by omega,by go_num,hL⟩
     case measure=>simp[intOf];omega
  ·obtain rfl:i=32:=by omega
   rw[← HT.out]at hL;clear HF HG HLIM HT HZ hi hlt;have HB0:=Hd (show(aa 64 fun _=>0)=aa 64 (byP (A*B) 0)from ak fun i _=>by unfold byP;rw[if_neg (by omega)]);have HB1:=Hd (show aa 64 (byP (A*B) 64)=aa 64 (ab (A*B))from ak fun i hi=>by unfold byP;rw[if_pos hi]);have HC0:=Hd (show ctK T 0=0 from by unfold ctK;show 0/_=0;simp);have HCL:=Hd (zg HTL.out);have HCS:=Hd (uI T);generalize ctK T=ct at *
   go_wp2_with (first|(refine gBp 8 ?_;clear hL;intro b8 w1 hL)|(refine aQq ?_;clear hL;intro _ w1 hL));go_loopw [9,10] (fun cc kk wr=>∃k:Nat,k≤64∧kk= .int .i64 k∧cc= .int .i64 (ct k:Nat)∧Loc w wr [(b8,aa 64 (byP (A*B) k),74),(b5,oU T,266),(b4,aa 32 fun _=>0,24),(b3,aa 32 g,24),(b2,aa 32 f,24)]) (fun _ kk _=>64-(intOf kk).toNat);case atStart=>exact⟨0,by omega,rfl,by rw[HC0.out];rfl,by rw[← HB0.out];exact hL⟩
   case round =>
    clear hL;obtain⟨k,hk,rfl,rfl,hL⟩:=hrel;by_cases hkl:k<64
    ·have hk0:(0:Int)≤(k:Int):=by omega
     have hk1:(k:Int)<64:=by omega
     have ht:=HTL.out k;have hc:=HCL.out k;have hcs:=HCS.out k;have hdg:=HDG.out k hkl;haveI g1:Cell (oU T) k (.int .i64 (T k:Nat)):=bQ (fun j=>(T j:Int)) hkl;have p1:=zi (A*B) hkl;have ha:=and_255 ((ct k:Int)+(T k:Int));have hv:((dgB (A*B) k:Nat):Int)=bits .and .i64 ((ct k:Int)+(T k:Int)) 255:=by rw[ha,hdg];omega
     rw[hv]at p1;haveI p1:=p1;have w1:IntKind.i64.wrap ((ct k:Int)+(T k:Int))=(ct k:Int)+(T k:Int):=IntWalk.i64_in _ (by omega);have w5:IntKind.u8.wrap (bits .and .i64 ((ct k:Int)+(T k:Int)) 255)=bits .and .i64 ((ct k:Int)+(T k:Int)) 255:=by rw[ha,IntKind.wrap_u8];omega
     have hcc:((ct k:Int)+(T k:Int))/256=(ct (k+1):Int):=by omega
     have HCR:=Hd hcc;clear ha hv hdg hcs hcc HV HTL HDG;generalize hc':ct (k+1)=c' at *
     have HC':=Hd hc';have hcc:=HCR.out;clear hc' HC0 HCL HCS;generalize byP (A*B) k=st,ct k=c,T k=t at *
     go_wp2_with (first|(refine aQq ?_;clear hL;intro _ w1 hL));go_roundw;case rel=>exact⟨k+1,by omega,by go_num,by rw[HC'.out],hL⟩
     case measure=>simp[intOf];omega
    ·obtain rfl:k=64:=by omega
     rw[HB1.out]at hL;have HR:=Hd (fun w1 (h:Loc w w1 [(b8,aa 64 (ab (A*B)),74),(b5,oU T,266),(b4,aa 32 fun _=>0,24),(b3,aa 32 g,24),(b2,aa 32 f,24)]) =>
      haveI:=h.glob hG
      refRed_any (ab (A*B)) 64 64 b8 w1 (by omega) (by omega) fun i hi=>was_loc h (.head _) (bI _ hi))
     rw[HV.out]at HR;go_wp2_with (first|((go_at_call 186;refine(HR.out _ hL).mono ?_;rintro e w1⟨rfl,hb1⟩;have hL1:=hL.keep hb1;clear hb1;clear hL;have hL:=hL1;clear hL1))|(refine aQq ?_;clear hL;intro _ w1 hL));exact bodyPost_ret (ai rfl hL rfl) rfl ⟨rfl,hL.bel⟩
instance NY:Ent 135:=eo func135
instance NZ(f g:Nat→BitVec 8):FnG 135 #[.agg (aa 32 f),.agg (aa 32 g)] (.agg (aa 32 (ab (leN f*leN g%Qo)))):=⟨fun w _=>De f g w⟩
end R3
section
open Go.RowKit Go.Shelf
theorem qs{P:Program}{ops:Array Oper}{Q:Exit→Act→World→Prop}{S:World→Prop}{id:Nat}{a:Act}{w:World}(n:Nat)(hm:P.follows .mixedOrders=true)(hn:ops.size=n)(hS:S w.drew)(h:S w.drew→wpAnyH P .any ops (NoPanic Q) S n (Array.replicate n false) a w.drew):(Code.region id ops true).wp P Q a w:=by
 subst hn;exact wp_region_noPanic (wp_region_held_drew hm hS h)
theorem mX{P:Program}{ops:Array Oper}{Q:Exit→Act→World→Prop}{S:World→Prop}{id:Nat}{a:Act}{w:World}(n:Nat)(hS:S w.drew)(h:S w.drew→wpAnyH P .any ops (NoPanic Q) S n (Array.replicate n false) a w.drew)(hm:P.follows .mixedOrders=true:=by kernel_rfl)(hn:ops.size=n:=by kernel_rfl):(Code.region id ops true).wp P Q a w:=qs n hm hn hS h
section
variable {ops:Array Oper} {o:Oper} {a:Act} {w0 w:World} {M M' M1:Mem} {Q:Exit→Act→World→Prop} {K:Act→World→Prop}
theorem yL(hg:o.guard=none){t:TypeId}{x:Operand}(ho:o.op= .load t x){b k:Nat}(hx:a.eval x= .pointer (some ⟨b,k,none⟩)){r s:Array Value}{u:TypeId}{n:Nat}[ht:RowTy t n][hm:At M b r u][hp:Part r u k t s][hr:Row1 s n] :
 YieldsIf prog ops (fun w=>Loc w0 w M) o (.agg s) a:=by
 obtain⟨d,h1,h2⟩:=ht.und;have:=yieldsIf_load_mid (P:=prog) (ops:=ops) (S:=fun w=>Loc w0 w M) (op:=o) (a:=a) (by simp[Region.wanted,hg]) t x ho b k hx s.toList d (fun w h=>eh (h.get hm.mem) fun j v hv=>hp.part j v hv) h1 h2 (by rw[ht.size,Array.length_toList,hr.size]);simpa only[Array.toArray_toList] using this
theorem yI(hg:o.guard=none){t:TypeId}{x:Operand}(ho:o.op= .load t x){b k:Nat}(hx:a.eval x= .pointer (some ⟨b,k,none⟩)){r:Array Value}{u:TypeId}{v:Value}[ht:ScTy t][hm:At M b r u][hc:Cell r k v] :
 YieldsIf prog ops (fun w=>Loc w0 w M) o v a:= .inl ⟨by simp[Region.wanted,hg],fun w hS=>by
 unfold execOp;have:=cO (t:=t) (w:=w) (b:=b) (k:=k) (v:=v) (by rw[cell_of_row w b k _ _ _ (hS.get hm.mem)];exact hc.cell);simp only[ho,hx,Instr.loadAt,Instr.sureAddr,Sem.run_bind,Sem.run_pure,Result.andThen_ok,this]⟩
theorem yW(hg:o.guard=none){t:TypeId}{x:Operand}(ho:o.op= .load t x){b k:Nat}(hx:a.eval x= .pointer (some ⟨b,k,none⟩)){v:Value}[ht:ScTy t][hc:Was w0 b k v] :
 YieldsIf prog ops (fun w=>Loc w0 w M) o v a:= .inl ⟨by simp[Region.wanted,hg],fun w hS=>by
 unfold execOp;have:=cO (t:=t) (w:=w) (b:=b) (k:=k) (v:=v) (hS.was hc);simp only[ho,hx,Instr.loadAt,Instr.sureAddr,Sem.run_bind,Sem.run_pure,Result.andThen_ok,this]⟩
theorem eA(hL:Loc w0 w M){t:TypeId}(ho:o.op= .alloc t){r:Array Value}[hz:RowZ t r](h:∀b w',Loc w0 w' ((b,r,t)::M)→K (a.put o.dst (.pointer (some ⟨b,0,none⟩))) w'):o.wp prog a w K Q:=by
 unfold Oper.wp execOp;simp only[ho,Sem.run_bind,i8 hz.zero,Result.andThen_ok];exact h _ _ (hL.alloc r t)
theorem zj{f:FuncId}{xs:Array Operand}{ts:Array TypeId}(ho:o.op= .call { callee:= .value (.func f),args:=xs,argTypes:=ts })[he:Ent f]{args:Array Value}(hx:xs.map a.eval=args)(hc:Calls prog f args w fun e w'=>∃v,e= .returned v∧K (a.put o.dst v) w'):o.wp prog a w K Q:=by
 unfold Oper.wp;rw[ky ho rfl w,hx,Oper.upon_enter];refine hc.mono fun e w'' hh=>?_;obtain⟨v,rfl,h⟩:=hh;exact h
theorem eC(hL:Loc w0 w M){f:FuncId}{xs:Array Operand}{ts:Array TypeId}(ho:o.op= .call { callee:= .value (.func f),args:=xs,argTypes:=ts })[he:Ent f]{args:Array Value}(hx:xs.map a.eval=args){v:Value}[hf:FnC f args v](h:∀w',Loc w0 w' M→K (a.put o.dst v) w'):o.wp prog a w K Q :=
 zj ho hx ((hf.calls w).mono fun e w' hh=>⟨v,hh.1,h w' (hL.keep hh.2)⟩)
theorem eG(hL:Loc w0 w M){f:FuncId}{xs:Array Operand}{ts:Array TypeId}(ho:o.op= .call { callee:= .value (.func f),args:=xs,argTypes:=ts })[he:Ent f]{args:Array Value}(hx:xs.map a.eval=args)[hG:Glob w0]{v:Value}[hf:FnG f args v](h:∀w',Loc w0 w' M→K (a.put o.dst v) w'):o.wp prog a w K Q :=
 zj ho hx ((hf.calls w (hL.glob hG)).mono fun e w' hh=>⟨v,hh.1,h w' (hL.keep hh.2)⟩)
theorem JS(hL:Loc w0 w M){t e:TypeId}{x:Operand}(ho:o.op= .buildSlice t 1 #[(0,x)])[he:Elt t e]{d:IntKind}{n:Int}(hx:a.eval x= .int d n)(h:∀b w',Loc w0 w' ((b, #[.int d n],e)::M)→K (a.put o.dst (.slice (some ⟨b,0,none⟩) 1 1)) w'):o.wp prog a w K Q:=by
 obtain⟨i,z,hi,hz,hs1,hb,hzs⟩:=he.info;refine wp_buildSlice t e 1 #[(0,x)] ho #[.int d n] i z he.und hi hz (by rw[hs1];decide) (by rw[hs1];decide) ?_ (h _ _ (hL.alloc #[.int d n] e));rw[hs1];have e:(Array.map (fun(y:Nat×Operand)=>(y.1,a.eval y.2)) #[(0,x)]).toList=[(0,Value.int d n)]:=by simp[hx]
 rw[e];have e1:Array.range 1= #[0]:=rfl;simp[Instr.fill,Value.cells,e1]
theorem JT(hL:Loc w0 w M){t e:TypeId}{x:Operand}(ho:o.op= .buildSlice t 1 #[(0,x)])[he:Elt t e]{p:Option Addr}{n c:Nat}(hx:a.eval x= .slice p n c)(h:∀b w',Loc w0 w' ((b, #[.slice p n c],e)::M)→K (a.put o.dst (.slice (some ⟨b,0,none⟩) 1 1)) w'):o.wp prog a w K Q:=by
 obtain⟨i,z,hi,hz,hs1,hb,hzs⟩:=he.info;refine wp_buildSlice t e 1 #[(0,x)] ho #[.slice p n c] i z he.und hi hz (by rw[hs1];decide) (by rw[hs1];decide) ?_ (h _ _ (hL.alloc #[.slice p n c] e));rw[hs1];have e:(Array.map (fun(y:Nat×Operand)=>(y.1,a.eval y.2)) #[(0,x)]).toList=[(0,Value.slice p n c)]:=by simp[hx]
 rw[e];have e1:Array.range 1= #[0]:=rfl;simp[Instr.fill,Value.cells,e1]
theorem JU(hL:Loc w0 w M){t e:TypeId}{x y:Operand}(ho:o.op= .buildSlice t 2 #[(0,x),(1,y)])[he:Elt t e]{p q:Option Addr}{n c n' c':Nat}(hx:a.eval x= .slice p n c)(hy:a.eval y= .slice q n' c')(h:∀b w',Loc w0 w' ((b, #[.slice p n c,.slice q n' c'],e)::M)→K (a.put o.dst (.slice (some ⟨b,0,none⟩) 2 2)) w'):o.wp prog a w K Q:=by
 obtain⟨i,z,hi,hz,hs1,hb,hzs⟩:=he.info;refine wp_buildSlice t e 2 #[(0,x),(1,y)] ho #[.slice p n c,.slice q n' c'] i z he.und hi hz (by rw[hs1];decide) (by rw[hs1];decide) ?_ (h _ _ (hL.alloc #[.slice p n c,.slice q n' c'] e));rw[hs1];have e:(Array.map (fun(y:Nat×Operand)=>(y.1,a.eval y.2)) #[(0,x),(1,y)]).toList=[(0,Value.slice p n c),(1,Value.slice q n' c')]:=by simp[hx,hy]
 rw[e];have e1:Array.range 2= #[0,1]:=rfl;simp[Instr.fill,Value.cells,e1]
theorem JV(hL:Loc w0 w M){t e:TypeId}{x y z':Operand}(ho:o.op= .buildSlice t 3 #[(0,x),(1,y),(2,z')])[he:Elt t e]{p q r:Option Addr}{n c n' c' n2 c2:Nat}(hx:a.eval x= .slice p n c)(hy:a.eval y= .slice q n' c')(hz':a.eval z'= .slice r n2 c2)(h:∀b w',Loc w0 w' ((b, #[.slice p n c,.slice q n' c',.slice r n2 c2],e)::M)→K (a.put o.dst (.slice (some ⟨b,0,none⟩) 3 3)) w'):o.wp prog a w K Q:=by
 obtain⟨i,z,hi,hz,hs1,hb,hzs⟩:=he.info;refine wp_buildSlice t e 3 #[(0,x),(1,y),(2,z')] ho #[.slice p n c,.slice q n' c',.slice r n2 c2] i z he.und hi hz (by rw[hs1];decide) (by rw[hs1];decide) ?_ (h _ _ (hL.alloc #[.slice p n c,.slice q n' c',.slice r n2 c2] e));rw[hs1];have e:(Array.map (fun(y:Nat×Operand)=>(y.1,a.eval y.2)) #[(0,x),(1,y),(2,z')]).toList=[(0,Value.slice p n c),(1,Value.slice q n' c'),(2,Value.slice r n2 c2)]:=by simp[hx,hy,hz']
 rw[e];have e1:Array.range 3= #[0,1,2]:=rfl;simp[Instr.fill,Value.cells,e1]
theorem eS(hL:Loc w0 w M){t:TypeId}{x y:Operand}(ho:o.op= .store t x y){b:Nat}(hx:a.eval x= .pointer (some ⟨b,0,none⟩)){r:Array Value}(hy:a.eval y= .agg r){n:Nat}[hr:Row1 r n][ht:RowTy t n]{old:Array Value}[hm:At M b old t][hs:Row1 old n][hu:Ups M b r M'](h:∀w',Loc w0 w' M'→K (a.put o.dst undef) w'):o.wp prog a w K Q:=by
 have hrun:(storeVar t ⟨b,0,none⟩ (.agg r)).run prog w= .ok () (w.setRow b r) :=
  run_storeVar_row w b t t old r (hL.get hm.mem) (by rw[ht.size,hr.size]) (by rw[hs.size,hr.size]) hr.one
 unfold Oper.wp execOp;simp only[ho,hx,hy,Instr.storeAt,Instr.sureAddr,Sem.run_bind,Sem.run_pure,Result.andThen_ok,hrun];exact h _ (hL.setRow hu.upd)
theorem eV(hL:Loc w0 w M){x:Operand}(ho:o.op= .assign x)(h:∀w',Loc w0 w' M→K (a.put o.dst (a.eval x)) w'):o.wp prog a w K Q:=by
 unfold Oper.wp execOp;simp only[ho,Sem.run_pure];exact h w hL
theorem zk(hL:Loc w0 w M){d s:Operand}{t e:TypeId}(ho:o.op= .call { callee:= .builtin .copy,args:= #[d,s],argTypes:= #[t,t] })[he:Elt t e]{g off n c:Nat}(hd:a.eval d= .slice (some ⟨g,off,none⟩) n c){cur:Array Value}{u:TypeId}[hm:At M g cur u]{p:Option Addr}{k cc:Nat}(hs:a.eval s= .slice p k cc){ys:List Value}[hy:See w0 M (.slice p k cc) ys](hn:ys.length≤n)(h0:0<ys.length){cur':Array Value}[hp:Spl cur off ys cur'][hu:Ups M g cur' M'](h:∀w',Loc w0 w' M'→K (a.put o.dst (.int .i64 ys.length)) w'):o.wp prog a w K Q:=by
 obtain⟨h1,ad,cc',e1,hnn,hpp⟩:=hy.see w hL;obtain⟨b,o2,rfl,hb,hcell⟩:=hpp h0;obtain⟨i,z,hi,hz,hs1,hbb,hzs⟩:=he.info;cases e1
 have hrun:=run_copy_row (P:=prog) w t t o.type e g off n c ⟨b,o2,none⟩ ys.length cc cur u ys he.und (by rw[hi];simp[hs1]) (hL.get hm.mem) (Nat.min_eq_left hn).symm (fun j v hj=>by
  have hjl:j<ys.length:=by
   rcases Nat.lt_or_ge j ys.length with h|h
   ·exact h
   ·rw[List.getElem?_eq_none h]at hj;cases hj
  rw[Addr.add_mid,hcell j hjl,← hj,List.getElem?_eq_getElem hjl]) hp.fit h1
 rw[show(cur.toList.take off++ys++cur.toList.drop (off+ys.length)).toArray=cur' from by rw[List.append_assoc];exact hp.spl]at hrun;unfold Oper.wp;simp only[execOp,ho,resolve,invoke,builtin,hd,hs,hrun,Result.andThen_ok,Sem.run_bind,Sem.run_pure,List.map_toArray,List.map_cons,List.map_nil];exact h _ (hL.setRow hu.upd)
theorem Df(hL:Loc w0 w M){s x:Operand}(ho:o.op= .call { callee:= .builtin .append,args:= #[s,x],argTypes:= #[29,29] })(hs:a.eval s= .slice none 0 0){p:Option Addr}{k cc:Nat}(hx:a.eval x= .slice p k cc){ys:List (BitVec 8)}[hy:See w0 M (.slice p k cc) (an ys)](h0:0<k)(hsz:k≤100000000000)(h:∀g' cap' cur' w',OwnR cur' k cap' (an ys)→Loc w0 w' ((g',cur',5)::M)→K (a.put o.dst (.slice (some ⟨g',0,none⟩) k cap')) w'):o.wp prog a w K Q:=by
 obtain rfl:=hy.len hL;obtain⟨g',cap',cur',w',hrun,h1,h2,h3,h4⟩:=jk (t:=29) (ty:=o.type) (hy.see w hL) h0 hsz;unfold Oper.wp execOp;simp only[ho,resolve,invoke,builtin,Sem.run_bind,Sem.run_pure,Result.andThen_ok,List.map_toArray,List.map_cons,List.map_nil,hs,hx,hrun];exact h g' cap' cur' w' h1 (hL.fresh h2 h4 h3)
theorem oV(hL:Loc w0 w M){s x:Operand}(ho:o.op= .call { callee:= .builtin .append,args:= #[s,x],argTypes:= #[29,29] }){g n cap:Nat}(hs:a.eval s= .slice (some ⟨g,0,none⟩) n cap){cur:Array Value}[hm:At M g cur 5]{xs:List (BitVec 8)}[hr:OwnR cur n cap (an xs)]{F:Nat→Array Value→Mem}[hf:Reps M g F]{p:Option Addr}{k cc:Nat}(hx:a.eval x= .slice p k cc){ys:List (BitVec 8)}[hy:See w0 M (.slice p k cc) (an ys)](hsz:n+k≤100000000000)(h:∀g' cap' cur' w',OwnR cur' (n+k) cap' (an (xs++ys))→Loc w0 w' (F g' cur')→K (a.put o.dst (.slice (some ⟨g',0,none⟩) (n+k:Nat) cap')) w'):o.wp prog a w K Q:=by
 obtain rfl:=hy.len hL;obtain⟨g',cap',cur',w',hrun,h1,h2,h3,h4⟩:=ji (t:=29) (ty:=o.type) hr (hL.get hm.mem) (hy.see w hL) hsz;rw[← dY]at h1;unfold Oper.wp execOp;simp only[ho,resolve,invoke,builtin,Sem.run_bind,Sem.run_pure,Result.andThen_ok,List.map_toArray,List.map_cons,List.map_nil,hs,hx,hrun];exact h g' cap' cur' w' h1 (hL.reps hm.mem hf h2 h3 h4)
theorem eC0(hL:Loc w0 w M){f:FuncId}{ts:Array TypeId}(ho:o.op= .call { callee:= .value (.func f),args:= #[],argTypes:=ts })[he:Ent f]{v:Value}[hf:FnC f #[] v](h:∀w',Loc w0 w' M→K (a.put o.dst v) w'):o.wp prog a w K Q:=eC (args:= #[]) hL ho (by simp) h
theorem eC1(hL:Loc w0 w M){f:FuncId}{x:Operand}{ts:Array TypeId}(ho:o.op= .call { callee:= .value (.func f),args:= #[x],argTypes:=ts }){r:Array Value}(hx:a.eval x= .agg r)[he:Ent f]{v:Value}[hf:FnC f #[.agg r] v](h:∀w',Loc w0 w' M→K (a.put o.dst v) w'):o.wp prog a w K Q:=eC (args:= #[.agg r]) hL ho (by simp[hx]) h
theorem eC2(hL:Loc w0 w M){f:FuncId}{x y:Operand}{ts:Array TypeId}(ho:o.op= .call { callee:= .value (.func f),args:= #[x,y],argTypes:=ts }){r s:Array Value}(hx:a.eval x= .agg r)(hy:a.eval y= .agg s)[he:Ent f]{v:Value}[hf:FnC f #[.agg r,.agg s] v](h:∀w',Loc w0 w' M→K (a.put o.dst v) w'):o.wp prog a w K Q:=eC (args:= #[.agg r,.agg s]) hL ho (by simp[hx,hy]) h
theorem eG0(hL:Loc w0 w M){f:FuncId}{ts:Array TypeId}(ho:o.op= .call { callee:= .value (.func f),args:= #[],argTypes:=ts })[he:Ent f][hG:Glob w0]{v:Value}[hf:FnG f #[] v](h:∀w',Loc w0 w' M→K (a.put o.dst v) w'):o.wp prog a w K Q:=eG (args:= #[]) hL ho (by simp) h
theorem eG1(hL:Loc w0 w M){f:FuncId}{x:Operand}{ts:Array TypeId}(ho:o.op= .call { callee:= .value (.func f),args:= #[x],argTypes:=ts }){r:Array Value}(hx:a.eval x= .agg r)[he:Ent f][hG:Glob w0]{v:Value}[hf:FnG f #[.agg r] v](h:∀w',Loc w0 w' M→K (a.put o.dst v) w'):o.wp prog a w K Q:=eG (args:= #[.agg r]) hL ho (by simp[hx]) h
theorem eG2(hL:Loc w0 w M){f:FuncId}{x y:Operand}{ts:Array TypeId}(ho:o.op= .call { callee:= .value (.func f),args:= #[x,y],argTypes:=ts }){r s:Array Value}(hx:a.eval x= .agg r)(hy:a.eval y= .agg s)[he:Ent f][hG:Glob w0]{v:Value}[hf:FnG f #[.agg r,.agg s] v](h:∀w',Loc w0 w' M→K (a.put o.dst v) w'):o.wp prog a w K Q:=eG (args:= #[.agg r,.agg s]) hL ho (by simp[hx,hy]) h
end
theorem jx{R G:Prop}(h1:R→G)(h2:R):G:=h1 h2
class Rem(M:Mem)(b:Nat)(M':outParam Mem):Prop where
 sub:M'.Sublist M
instance N3(M:Mem)(b:Nat)(r:Array Value)(t:TypeId):Rem ((b,r,t)::M) b M:=⟨List.sublist_cons_self _ _⟩
instance N4(e:Nat×Array Value×TypeId)(M M':Mem)(b:Nat)[h:Rem M b M']:Rem (e::M) b (e::M'):=⟨h.sub.cons_cons e⟩
theorem Loc.rem(b:Nat){w0 w:World}{M M':Mem}(h:Loc w0 w M)[hr:Rem M b M']:Loc w0 w M' :=
 ⟨h.bel,fun b r t hm=>h.ok b r t (hr.sub.subset hm),h.nd.sublist (hr.sub.map _)⟩
end
section
open Go Go.RowKit
instance N5:ScTy 29:=⟨fun w=>by kernel_rfl,by kernel_rfl⟩
theorem Dg:(prog.info? 29).map (fun i=>(i.zero,i.size,i.bytes))=some (some (.slice none 0 0),1,24):=by kernel_rfl
instance R7:Elt 30 29:=sm underlying30 Dg (by omega) rfl
theorem km{α:Type}:∀(l:List (List α)) (k:Nat) (h:k<l.length),(l.take k).flatten.length+l[k].length≤l.flatten.length
 | [],k,h=>absurd h (by simp)
 | x::l,0,_=>by simp
 | x::l,k+1,h=>by
  have:=km l k (by simpa using h);simp only[List.take_succ_cons,List.flatten_cons,List.length_append,List.getElem_cons_succ];omega
theorem AG{l:List (List (BitVec 8))}{k:Nat}(h:k<l.length):(l.take (k+1)).flatten=(l.take k).flatten++l[k]:=by
 rw[List.take_succ_eq_append_getElem h,List.flatten_append,List.flatten_cons,List.flatten_nil,List.append_nil]
theorem AH(v:Value)(l:List (List (BitVec 8)))(w:World)(hv:BRows w v l)(hpos:∃x r,l=x::r∧0<x.length)(hl:l.length≤1000000)(hm:l.flatten.length≤1000000000) :
 Calls prog 185 #[v] w fun e w'=>Fresh w l.flatten e w':=by
 have hL:=Loc.nil w;obtain⟨a,c,rfl,_,hv⟩:=hv;have HV:=Hd hv;have HPOS:=Hd hpos;clear hv;go_enter func185,ntmps185;go_wp2_with (first|(refine aQp ?_;clear hL;intro _ w1 hL));go_loopw [3,4] (fun v kk wr=>∃k:Nat,k≤l.length∧kk= .int .i64 k∧((k=0∧v= .slice none 0 0∧Loc w wr [])∨(0<k∧∃(g cap:Nat) (cur:Array Value),v= .slice (some ⟨g,0,none⟩) (l.take k).flatten.length cap∧OwnR cur (l.take k).flatten.length cap (an (l.take k).flatten)∧Loc w wr [(g,cur,5)]))) (fun _ kk _=>l.length-(intOf kk).toNat);case atStart=>exact⟨0,by omega,rfl,.inl ⟨rfl,rfl,hL⟩⟩
 case round =>
  clear hL;obtain⟨k,hk,rfl,hcase⟩:=hrel;by_cases hlt:k<l.length
  ·obtain⟨b,off,ha,hbl,hcells⟩:=HV.out (by omega)
   obtain⟨vi,hvi,hbr⟩:=hcells k hlt;have hk0:(0:Int)≤(k:Int):=by omega
   have hk1:(k:Int)<(l.length:Int):=by omega
   rw[ha];haveI g1:Was w b (off+k) vi:=⟨hvi,hbl⟩;haveI g2:Arg w vi (an l[k]):=⟨hbr.vrow⟩;have HT:=Hd (AG hlt);have hln:=km l k hlt;have hz:k=0→0<l[k].length:=fun e=>by
    subst e;obtain⟨x,r,rfl,h⟩:=HPOS.out;exact h
   obtain⟨a2,c2,e2,hn2,hp2⟩:=hbr;subst e2;clear hcells hvi hn2 hp2;generalize l[k]=m at *
   rcases hcase with⟨rfl,rfl,hL⟩|⟨hkp,g,cap,cur,rfl,hr,hL⟩
   ·have hmp:=hz rfl
    have HE:=Hd (show(l.take (0+1)).flatten=m from HT.out);go_wp2_with (first|(refine gN 16 ?_;(refine mG hL rfl rfl rfl rfl hmp (by first|omega|(simp;omega)|simp) fun g16 cap16 cur16 w1 hr16 hL1=>?_);clear hL;have hL:=hL1;clear hL1;refine p4 ?_)|(refine aQp ?_;clear hL;intro _ w1 hL));go_roundw;case rel=>exact⟨0+1,by omega,by go_num,.inr ⟨by omega,g16,cap16,cur16,by rw[HE.out],by rw[HE.out];exact hr16,hL⟩⟩
    case measure=>simp[intOf];omega
   ·clear hz
    generalize hpre:(l.take k).flatten=pre at *
    clear hpre;go_wp2_with (first|(refine gN 16 ?_;refine aA ?_;clear hL;intro g16 cap16 cur16 w1 hr16 hL)|(refine aQp ?_;clear hL;intro _ w1 hL));go_roundw;case rel=>exact⟨k+1,by omega,by go_num,.inr ⟨by omega,g16,cap16,cur16,by rw[HT.out,List.length_append],by rw[HT.out,List.length_append];exact hr16,hL⟩⟩
    case measure=>simp[intOf];omega
  ·obtain rfl:k=l.length:=by omega
   rcases hcase with⟨h,_,_⟩|⟨hkp,g,cap,cur,rfl,hr,hL⟩
   ·obtain⟨x,r,rfl,_⟩:=HPOS.out;cases h
   ·rw[List.take_length]at hr ⊢
    clear HPOS HV;go_wp2_with (first|(refine aQp ?_;clear hL;intro _ w1 hL));go_ret;exact hL.back rfl
instance R8(f:Nat→BitVec 8):Row1 (aa 64 f) 64:=⟨aQ _ _,by simp[aa,row,Value.oneCell']⟩
theorem oW(v:Value)(l:List (List (BitVec 8)))(w:World)[hG:Glob w](hv:BRows w v l)(hpos:∃x r,l=x::r∧0<x.length)(hl:l.length≤1000000)(hm:l.flatten.length≤1000000000) :
 Rt 124 #[v] w (.agg (aa 32 (ab (li l.flatten)))):=by
 have hL:=Loc.nil w;have HV:=Hd hv;have HJ:=Hd (fun w1 (hb:Below w.heap.size w w1)=>AH v l w1 (hv.below hb) hpos hl hm);have h0:0<l.flatten.length:=by
  obtain⟨x,r,rfl,h⟩:=hpos;rw[List.flatten_cons,List.length_append];omega
 clear hpos hl;generalize l.flatten=m at *
 go_enter func124,ntmps124;go_wp2_with (first|(refine gBp 2 ?_;clear hL;intro b2 w1 hL)|(go_at_call 185;go_loud (refine(HJ.out _ hL.bel).mono ?_);rintro e w1⟨g5,cap5,cur5,rfl,hr5,hg5,hc5,hb5⟩;have hL1:=hL.fresh hb5 hg5 hc5;clear hb5 hg5 hc5;clear hL;have hL:=hL1;clear hL1;refine p4 ?_)|(go_at_call 126;go_loud (refine((haveI:=hL.glob hG;Shb.refShb_any _ m _ (See.bytes hL) h0 hm)).mono ?_);rintro e w1⟨rfl,hb1⟩;have hL1:=hL.keep hb1;clear hb1;clear hL;have hL:=hL1;clear hL1;refine p4 ?_)|(go_at_call 186;go_loud (refine((haveI:=hL.glob hG;R3.refRed_any (Shb.sha m) 64 64 _ _ (by omega) (by omega) fun i hi=>R3.was_loc hL (List.Mem.head _) (bI _ hi))).mono ?_);rintro e w1⟨rfl,hb1⟩;have hL1:=hL.keep hb1;clear hb1;clear hL;have hL:=hL1;clear hL1;refine p4 ?_)|(refine aQp ?_;clear hL;intro _ w1 hL));exact bodyPost_ret (ai rfl hL rfl) rfl ⟨rfl,hL.bel⟩
instance N6:Ent 124:=eo func124
end
section
open Go.RowKit
theorem sn(x:BitVec 32)(n m:Nat)(h:m=32-n):bits .or .u32 (U x*((2^n:Nat):Int)%4294967296) (U x/((2^m:Nat):Int))=U (aS x n):=by
 subst h;rw[mY,qI,wn];rfl
theorem dW(x:BitVec 32)(n m:Nat)(h:m=32-n):bits .or .u32 (U x/((2^m:Nat):Int)) (U x*((2^n:Nat):Int)%4294967296)=U (aS x n):=by
 subst h;rw[mY,qI,wn,BitVec.or_comm];rfl
theorem gH(x:BitVec 32)(w:World)(s:Int)(n m:Nat)(hm:bits .and .u64 (IntKind.u64.wrap s) 31=n:=by decide)(hq:m=32-n:=by rfl)(h:bits .and .u64 (IntKind.u64.wrap s) 31=n→RowKit.Hid (bits .or .u32 (U x*((2^n:Nat):Int)%4294967296) (U x/((2^m:Nat):Int))=U (aS x n))→Calls prog 314 #[.int .u32 (U x),.int .i64 s] w (fun e w'=>e= .returned (.int .u32 (U (aS x n)))∧w=w'):=by
  intro hm HV;obtain⟨h0,h1⟩:=j8 x;go_enter func314,ntmps314;go_wp2;go_ret;exact⟨congrArg (fun z=>Ending.returned (.int .u32 z)) HV.out,rfl⟩):Calls prog 314 #[.int .u32 (U x),.int .i64 s] w (fun e w'=>e= .returned (.int .u32 (U (aS x n)))∧w=w'):=h hm (Hd (sn x n m hq))
theorem qt(x:BitVec 32)(w:World)(s:Int)(n m:Nat)(hq:m=32-n:=by rfl)(h:RowKit.Hid (bits .or .u32 (U x/((2^m:Nat):Int)) (U x*((2^n:Nat):Int)%4294967296)=U (aS x n))→Calls prog 72 #[.int .u32 (U x),.int .u64 s] w (fun e w'=>e= .returned (.int .u32 (U (aS x n)))∧w=w'):=by
  intro HV;obtain⟨h0,h1⟩:=j8 x;go_enter func72,ntmps72;go_wp2;go_ret;exact⟨congrArg (fun z=>Ending.returned (.int .u32 z)) HV.out,rfl⟩):Calls prog 72 #[.int .u32 (U x),.int .u64 s] w (fun e w'=>e= .returned (.int .u32 (U (aS x n)))∧w=w'):=h (Hd (dW x n m hq))
theorem LG(x:BitVec 32)(w:World):Calls prog 314 #[.int .u32 (U x),.int .i64 (-7)] w fun e w'=>e= .returned (.int .u32 (U (aS x 25)))∧w=w':=gH x w (-7) 25 7
theorem LH(x:BitVec 32)(w:World):Calls prog 72 #[.int .u32 (U x),.int .u64 7] w fun e w'=>e= .returned (.int .u32 (U (aS x 25)))∧w=w':=qt x w 7 25 7
theorem Cs(x:BitVec 32)(w:World):Calls prog 314 #[.int .u32 (U x),.int .i64 (-18)] w fun e w'=>e= .returned (.int .u32 (U (aS x 14)))∧w=w':=gH x w (-18) 14 18
theorem JW(x:BitVec 32)(w:World):Calls prog 72 #[.int .u32 (U x),.int .u64 18] w fun e w'=>e= .returned (.int .u32 (U (aS x 14)))∧w=w':=qt x w 18 14 18
theorem JX(x:BitVec 32)(w:World):Calls prog 314 #[.int .u32 (U x),.int .i64 (-17)] w fun e w'=>e= .returned (.int .u32 (U (aS x 15)))∧w=w':=gH x w (-17) 15 17
theorem JY(x:BitVec 32)(w:World):Calls prog 72 #[.int .u32 (U x),.int .u64 17] w fun e w'=>e= .returned (.int .u32 (U (aS x 15)))∧w=w':=qt x w 17 15 17
theorem Cr(x:BitVec 32)(w:World):Calls prog 314 #[.int .u32 (U x),.int .i64 (-19)] w fun e w'=>e= .returned (.int .u32 (U (aS x 13)))∧w=w':=gH x w (-19) 13 19
theorem JZ(x:BitVec 32)(w:World):Calls prog 72 #[.int .u32 (U x),.int .u64 19] w fun e w'=>e= .returned (.int .u32 (U (aS x 13)))∧w=w':=qt x w 19 13 19
theorem LI(x:BitVec 32)(w:World):Calls prog 314 #[.int .u32 (U x),.int .i64 (-6)] w fun e w'=>e= .returned (.int .u32 (U (aS x 26)))∧w=w':=gH x w (-6) 26 6
theorem LJ(x:BitVec 32)(w:World):Calls prog 72 #[.int .u32 (U x),.int .u64 6] w fun e w'=>e= .returned (.int .u32 (U (aS x 26)))∧w=w':=qt x w 6 26 6
theorem J0(x:BitVec 32)(w:World):Calls prog 314 #[.int .u32 (U x),.int .i64 (-11)] w fun e w'=>e= .returned (.int .u32 (U (aS x 21)))∧w=w':=gH x w (-11) 21 11
theorem J1(x:BitVec 32)(w:World):Calls prog 72 #[.int .u32 (U x),.int .u64 11] w fun e w'=>e= .returned (.int .u32 (U (aS x 21)))∧w=w':=qt x w 11 21 11
theorem J2(x:BitVec 32)(w:World):Calls prog 314 #[.int .u32 (U x),.int .i64 (-25)] w fun e w'=>e= .returned (.int .u32 (U (aS x 7)))∧w=w':=gH x w (-25) 7 25
theorem J3(x:BitVec 32)(w:World):Calls prog 72 #[.int .u32 (U x),.int .u64 25] w fun e w'=>e= .returned (.int .u32 (U (aS x 7)))∧w=w':=qt x w 25 7 25
theorem LK(x:BitVec 32)(w:World):Calls prog 314 #[.int .u32 (U x),.int .i64 (-2)] w fun e w'=>e= .returned (.int .u32 (U (aS x 30)))∧w=w':=gH x w (-2) 30 2
theorem LL(x:BitVec 32)(w:World):Calls prog 72 #[.int .u32 (U x),.int .u64 2] w fun e w'=>e= .returned (.int .u32 (U (aS x 30)))∧w=w':=qt x w 2 30 2
theorem J4(x:BitVec 32)(w:World):Calls prog 314 #[.int .u32 (U x),.int .i64 (-13)] w fun e w'=>e= .returned (.int .u32 (U (aS x 19)))∧w=w':=gH x w (-13) 19 13
theorem J5(x:BitVec 32)(w:World):Calls prog 72 #[.int .u32 (U x),.int .u64 13] w fun e w'=>e= .returned (.int .u32 (U (aS x 19)))∧w=w':=qt x w 13 19 13
theorem J6(x:BitVec 32)(w:World):Calls prog 314 #[.int .u32 (U x),.int .i64 (-22)] w fun e w'=>e= .returned (.int .u32 (U (aS x 10)))∧w=w':=gH x w (-22) 10 22
theorem J7(x:BitVec 32)(w:World):Calls prog 72 #[.int .u32 (U x),.int .u64 22] w fun e w'=>e= .returned (.int .u32 (U (aS x 10)))∧w=w':=qt x w 22 10 22
end
section
open Go.RowKit
theorem kQ:(prog.info? 139).map (fun i=>(i.zero,i.size))=some (some (.agg (row 64 fun _=> .int .u32 0)),64):=by kernel_rfl
theorem FD:(prog.info? 74).map (·.size)=some 64:=by kernel_rfl
theorem oP:(prog.info? 139).map (·.size)=some 64:=by kernel_rfl
theorem jo{b:Nat→BitVec 8}{k:Nat}(h:k<64)(w:World):(Instr.index 74 (.agg (row 64 fun i=>Value.int .u8 (B8 (b i)))) (.int .i64 k)).run prog w= .ok (.int .u8 (B8 (b k))) w :=
 gG _ underlying74 (by kernel_rfl) (fun w=>by kernel_rfl) h w
theorem iv(sb:Nat)(S:Nat→Value)(b:Nat→BitVec 8)(w:World)(hg:w.heap[sb]?=some (.cells (row 138 S) 325 (0,0)))(hS:∀i,i<64→S (72+i)= .int .u8 (B8 (b i))) :
 Rt 313 #[.pointer (some ⟨sb,0,none⟩)] w (.agg (a6 64 (aT b))):=by
 have hsb:sb<w.heap.size:=(Array.getElem?_eq_some_iff.1 hg).1;have hg2:((w.alloc (.cells (row 64 fun _=> .int .u32 0) 139)).alloc (.cells (row 64 fun _=> .int .u32 0) 139)).heap[sb]?=some (.cells (row 138 S) 325 (0,0)):=by
  rw[Below.heap_alloc _ _ _ (by simp;omega),Below.heap_alloc _ _ _ hsb,hg]
 have hR:=gx (o:=72) (n:=64) hg2 (by decide);rw[ak hS]at hR;have HR:=Hd hR;have HI:=Hd (show(prog.info? 74).map (·.size)=some (row 64 fun i=>Value.int .u8 (B8 (b i))).toList.length by rw[FD];simp[aQ]);clear hg hR hS hg2;go_enter func313,ntmps313;go_wp2_with (first|(with_reducible refine aw rfl 139 rfl 64 _ kQ ?_)|(with_reducible refine wpList_load_mid rfl 74 _ rfl sb 72 rfl _ _ HR.out underlying74 rfl HI.out ?_));go_loopw [15] (fun i wr=>∃k:Nat,k≤64∧i= .int .i64 k∧wr.heap[w.heap.size+1]?=some (.cells (a6 64 (br b k)) 139 (0,0))∧wr.heap[w.heap.size]?=some (.cells (a6 64 fun _=>0) 139 (0,0))∧Below w.heap.size w wr) (fun i _=>64-(intOf i).toNat);case atStart=>exact⟨0,by omega,rfl,heap_alloc2_new _ _ _,heap_alloc2_old _ _ _,(((Below.refl _ _).alloc (Nat.le_refl _) _).alloc (by simp) _)⟩
 case round =>
  obtain⟨k,hk,rfl,hw,hz,hbel⟩:=hrel;by_cases hlt:k<64
  ·have hi:=fun w=>jo (b:=b) hlt w
   have hk0:(0:Int)≤(k:Int):=by omega
   have hk1:(k:Int)<64:=by omega
   have hc:wr.cell? ⟨w.heap.size+1,k/4,none⟩=some (.int .u32 (U (br b k (k/4)))):=aP hw (by omega);have hf:wr.frozen? ⟨w.heap.size+1,k/4,none⟩=false:=frozen_of_row wr _ _ _ _ hw;obtain⟨u0,u1⟩:=j8 (br b k (k/4));obtain⟨v0,v1⟩:=bK (b k);have HW:=Hd hw;have HZ:=Hd hz;clear hw hz;go_wp2;go_roundw;case rel =>
    refine⟨k+1,by omega,by go_num,?_,?_,hbel.setCell (by simp) _⟩
    ·rw[rP,yq,wn]
     exact bZ _ HW.out (by omega)
    ·rw[heap_setCell_other _ _ _ _ (by simp)];exact HZ.out
   case measure=>simp[intOf];omega
  ·have e:br b k=br b 64:=by rw[show k=64 by omega]
   rw[e]at hw;clear e;go_wp2;go_loopw [6] (fun i wr=>∃k:Nat,16≤k∧k≤64∧i= .int .i64 k∧wr.heap[w.heap.size+1]?=some (.cells (a6 64 (cd (br b 64) k)) 139 (0,0))∧wr.heap[w.heap.size]?=some (.cells (a6 64 fun _=>0) 139 (0,0))∧Below w.heap.size w wr) (fun i _=>64-(intOf i).toNat);case atStart=>exact⟨16,by omega,by omega,rfl,by rw[jn _ 16 (by omega)];exact hw,hz,hbel⟩
   case round =>
    clear hw hz hbel hk hlt;obtain⟨K1,rfl⟩:∃K1,K1=k:=⟨_,rfl⟩;obtain⟨k,hk16,hk,rfl,hw,hz,hbel⟩:=hrel;by_cases hlt:k<64
    ·have hk0:(16:Int)≤(k:Int):=by omega
     have hk1:(k:Int)<64:=by omega
     have hc2:wr.cell? ⟨w.heap.size+1,k-2,none⟩=some (.int .u32 (U (cd (br b 64) k (k-2)))):=aP hw (by omega);have hc7:wr.cell? ⟨w.heap.size+1,k-7,none⟩=some (.int .u32 (U (cd (br b 64) k (k-7)))):=aP hw (by omega);have hc15:wr.cell? ⟨w.heap.size+1,k-15,none⟩=some (.int .u32 (U (cd (br b 64) k (k-15)))):=aP hw (by omega);have hc16:wr.cell? ⟨w.heap.size+1,k-16,none⟩=some (.int .u32 (U (cd (br b 64) k (k-16)))):=aP hw (by omega);have hc:wr.cell? ⟨w.heap.size+1,k,none⟩=some (.int .u32 (U (cd (br b 64) k k))):=aP hw (by omega);have hf:wr.frozen? ⟨w.heap.size+1,k,none⟩=false:=frozen_of_row wr _ _ _ _ hw;have HW:=Hd hw;have HZ:=Hd hz;have HS:=Hd (gR (br b 64) hk16);clear hw hz;generalize cd (br b 64) k=f at *
     obtain⟨a0,a1⟩:=j8 (f (k-2));obtain⟨b0,b1⟩:=j8 (f (k-15));have hs0:=jl (f (k-15));have hs1:=jm (f (k-2));have hadd:=gM;go_wp2;go_quiet (fail);go_wp2_with (first|(go_at_call 314;with_reducible refine(LG _ _).mono ?_;rintro e w'⟨rfl,rfl⟩)|(go_at_call 314;with_reducible refine(Cs _ _).mono ?_;rintro e w'⟨rfl,rfl⟩)|(go_at_call 314;with_reducible refine(JX _ _).mono ?_;rintro e w'⟨rfl,rfl⟩)|(go_at_call 314;with_reducible refine(Cr _ _).mono ?_;rintro e w'⟨rfl,rfl⟩));clear hs0 hs1 hc2 hc7 hc15 hc16 hc hf;have hw:(wr.drewN nq).heap[w.heap.size+1]?=some (.cells (a6 64 f) 139 (0,0)):=HW.out;have hz:(wr.drewN nq).heap[w.heap.size]?=some (.cells (a6 64 fun _=>0) 139 (0,0)):=HZ.out;have hbel:=Go.below_drewN hbel nq;clear HW HZ;generalize wr.drewN nq=W at *
     have hc7:W.cell? ⟨w.heap.size+1,k-7,none⟩=some (.int .u32 (U (f (k-7)))):=ap hw (by omega);have hc16:W.cell? ⟨w.heap.size+1,k-16,none⟩=some (.int .u32 (U (f (k-16)))):=ap hw (by omega);have hc:W.cell? ⟨w.heap.size+1,k,none⟩=some (.int .u32 (U (f k))):=ap hw (by omega);have hf:W.frozen? ⟨w.heap.size+1,k,none⟩=false:=frozen_of_row W _ _ _ _ hw;have HW:=Hd hw;have HZ:=Hd hz;clear hw hz;have e7:IntKind.i64.wrap ((k:Int)-7)=(k:Int)-7:=IntWalk.i64_in _ (by omega);have e16:IntKind.i64.wrap ((k:Int)-16)=(k:Int)-16:=IntWalk.i64_in _ (by omega);have t7:((k:Int)-7).toNat=k-7:=by omega
     have t16:((k:Int)-16).toNat=k-16:=by omega
     have p7:(7:Int)≤(k:Int):=by omega
     have q7:(k:Int)-7<64:=by omega
     have q16:(k:Int)-16<64:=by omega
     go_still_tail 15,(by kernel_rfl);clear e7 e16 t7 t16 p7 q7 q16;change wpList _ _ _ _ _ W.drew;go_wp2;go_roundw;case rel =>
      refine⟨k+1,by omega,by omega,by go_num,?_,?_,(hbel.setCell (by simp) _).drew⟩
      ·rw[HS.out]
       exact bZ _ HW.out (by omega)
      ·show(W.setCell _ _).heap[_]?=_
       rw[heap_setCell_other _ _ _ _ (by simp)];exact HZ.out
     case measure=>simp[intOf];omega
    ·have e:cd (br b 64) k=aT b:=by rw[show k=64 by omega];rfl
     rw[e]at hw;clear e;have HW:=Hd hw;have HZ:=Hd hz;have HN:=Hd (show(prog.info? 139).map (·.size)=some (a6 64 (aT b)).size by rw[oP,aZ]);clear hw hz;go_wp2_with (first|(with_reducible refine wpList_load_row rfl 139 _ rfl (w.heap.size+1) rfl 139 (a6 64 (aT b)) (0,0) _ HW.out underlying139 rfl HN.out ?_)|(with_reducible refine wpList_store_rowTo rfl 139 _ _ rfl rfl w.heap.size (a6 64 (aT b)) rfl rfl 139 _ HZ.out HN.out (by rw[aZ,aZ]) (bP _ _) ?_));refine bodyPost_ret (results_cell_row rfl _ _ w.heap.size 139 (a6 64 (aT b)) (0,0) _ rfl (aC HZ.out) underlying139 rfl HN.out) rfl ?_;exact⟨rfl,aW hbel (Nat.le_refl _) _⟩
end
section
open Go.RowKit
def stF(h:Nat→BitVec 32)(b:Nat→BitVec 8)(n:Nat)(L:BitVec 64):Nat→Value:=fun j =>
 if j<8 then .int .u32 (U (h j))else if j<72 then .int .u32 (U (cV (j-8)))else if j<136 then .int .u8 (B8 (b (j-72)))else if j=136 then .int .i64 n else .int .u64 (Q L)
def bR(h:Nat→BitVec 32)(b:Nat→BitVec 8)(n:Nat)(L:BitVec 64):Array Value:=row 138 (stF h b n L)
theorem fG(n:Nat)(f:Nat→BitVec 32):(((List.range n).map fun i=>U (f i)).map (Value.int .u32)).toArray=a6 n f:=by
 simp[a6,row]
theorem kH(w:World):Rt 292 #[] w (.agg (a6 64 cV)):=by
 have HN:=Hd (show(prog.info? 139).map (·.size)=some (a6 64 cV).size by rw[oP,aZ]);have HW:=Hd (fG 64 cV);go_enter func292,ntmps292;go_wp2_with (first|(with_reducible refine aw rfl 139 rfl 64 _ kQ ?_)|(refine wpList_buildFlatArrTo rfl 139 136 64 _ rfl .u32 ((List.range 64).map fun i=>U (cV i)) _ rfl underlying139 (by kernel_rfl) (by kernel_rfl) (by kernel_rfl) ?_;rw[HW.out])|(with_reducible refine wpList_store_rowTo rfl 139 _ _ rfl rfl w.heap.size (a6 64 cV) rfl rfl 139 _ (heap_alloc_new _ _) HN.out (by rw[aQ,aZ]) (bP _ _) ?_));refine bodyPost_ret (results_cell_row rfl _ _ w.heap.size 139 (a6 64 cV) (0,0) _ rfl (aC (heap_alloc_new _ _)) underlying139 rfl HN.out) rfl ?_;exact⟨rfl,aW ((Below.refl _ _).alloc (Nat.le_refl _) _) (Nat.le_refl _) _⟩
theorem mI(w:World):Calls prog 260 #[] w fun e w'=>∃sb,e= .returned (.pointer (some ⟨sb,0,none⟩))∧w.heap.size≤sb∧w'.heap[sb]?=some (.cells (bR mJ (fun _=>0) 0 0) 325 (0,0))∧Below w.heap.size w w':=by
 have HW:=Hd (fG 8 mJ);go_enter func260,ntmps260;go_wp2_with (first|(refine wpList_buildFlatArrTo rfl 137 136 8 _ rfl .u32 ((List.range 8).map fun i=>U (mJ i)) _ rfl underlying137 (by kernel_rfl) (by kernel_rfl) (by kernel_rfl) ?_;rw[HW.out])|(go_at_call 292;refine(kH _).mono ?_;rintro e w1⟨rfl,hb⟩)|(refine wpList_buildTo rfl 325 _ rfl _ rfl (bR mJ (fun _=>0) 0 0) (by kernel_rfl) ?_)|(refine Great.wpList_boxTo rfl 325 _ rfl _ rfl _ rfl (bR mJ (fun _=>0) 0 0) rfl ?_));go_ret;exact⟨w1.heap.size,rfl,hb.size,heap_alloc_new _ _,hb.alloc hb.size _⟩
end
section
open Go.RowKit
def ow(sb:Nat)(h:Nat→BitVec 32)(b:Nat→BitVec 8)(n:Nat)(L:BitVec 64)(w:World)(a':Act)(w':World):Prop :=
 ∃(t wb vb:Nat) (u:Nat→Value),t≤64∧w.heap.size≤wb∧wb<vb ∧
  a'={ tmps:= #[.pointer (some ⟨sb,0,none⟩),u 1,.pointer (some ⟨wb,0,none⟩),.pointer (some ⟨vb,0,none⟩),.int .i64 t,u 5,u 6,u 7,u 8,u 9,u 10,u 11,u 12,u 13,u 14,u 15,u 16,u 17,u 18,u 19,u 20,u 21,u 22,u 23,u 24,u 25,u 26,u 27,u 28,u 29,u 30,u 31,u 32,u 33,u 34,u 35,u 36,u 37,u 38,u 39,u 40,u 41,u 42,u 43,u 44,u 45,u 46,u 47,u 48,u 49,u 50,u 51,u 52,u 53,u 54,u 55,u 56,u 57,u 58,u 59,u 60,u 61,u 62,u 63,u 64,u 65,u 66,u 67,u 68,u 69,u 70,u 71,u 72,u 73,u 74,u 75,u 76,u 77,u 78,u 79,u 80,u 81,u 82,u 83,u 84,u 85,u 86,u 87,u 88,u 89,u 90,u 91,u 92,u 93,u 94,u 95,u 96,u 97,u 98,u 99,u 100,u 101,u 102,u 103,u 104,u 105,u 106,u 107,u 108,u 109,u 110,u 111,u 112,u 113,u 114,u 115,u 116,u 117,u 118,u 119,u 120,u 121],defers:=[] } ∧
  w'.heap[sb]?=some (.cells (bR h b n L) 325 (0,0))∧w'.heap[wb]?=some (.cells (a6 64 (aT b)) 139 (0,0)) ∧
  w'.heap[vb]?=some (.cells (a6 8 (dj cV (aT b) h t)) 137 (0,0))∧w.grownBy w' (some sb)
theorem gS{sb n:Nat}{h:Nat→BitVec 32}{b:Nat→BitVec 8}{L:BitVec 64}{w w':World}{tm:Array Value}(t wb vb:Nat)(ht:t≤64)(hwb:w.heap.size≤wb)(hvb:wb<vb)(he:({ tmps:=tm,defers:=[] }:Act)={ tmps:= #[.pointer (some ⟨sb,0,none⟩),tm.getD 1 undef,.pointer (some ⟨wb,0,none⟩),.pointer (some ⟨vb,0,none⟩),.int .i64 t,tm.getD 5 undef,tm.getD 6 undef,tm.getD 7 undef,tm.getD 8 undef,tm.getD 9 undef,tm.getD 10 undef,tm.getD 11 undef,tm.getD 12 undef,tm.getD 13 undef,tm.getD 14 undef,tm.getD 15 undef,tm.getD 16 undef,tm.getD 17 undef,tm.getD 18 undef,tm.getD 19 undef,tm.getD 20 undef,tm.getD 21 undef,tm.getD 22 undef,tm.getD 23 undef,tm.getD 24 undef,tm.getD 25 undef,tm.getD 26 undef,tm.getD 27 undef,tm.getD 28 undef,tm.getD 29 undef,tm.getD 30 undef,tm.getD 31 undef,tm.getD 32 undef,tm.getD 33 undef,tm.getD 34 undef,tm.getD 35 undef,tm.getD 36 undef,tm.getD 37 undef,tm.getD 38 undef,tm.getD 39 undef,tm.getD 40 undef,tm.getD 41 undef,tm.getD 42 undef,tm.getD 43 undef,tm.getD 44 undef,tm.getD 45 undef,tm.getD 46 undef,tm.getD 47 undef,tm.getD 48 undef,tm.getD 49 undef,tm.getD 50 undef,tm.getD 51 undef,tm.getD 52 undef,tm.getD 53 undef,tm.getD 54 undef,tm.getD 55 undef,tm.getD 56 undef,tm.getD 57 undef,tm.getD 58 undef,tm.getD 59 undef,tm.getD 60 undef,tm.getD 61 undef,tm.getD 62 undef,tm.getD 63 undef,tm.getD 64 undef,tm.getD 65 undef,tm.getD 66 undef,tm.getD 67 undef,tm.getD 68 undef,tm.getD 69 undef,tm.getD 70 undef,tm.getD 71 undef,tm.getD 72 undef,tm.getD 73 undef,tm.getD 74 undef,tm.getD 75 undef,tm.getD 76 undef,tm.getD 77 undef,tm.getD 78 undef,tm.getD 79 undef,tm.getD 80 undef,tm.getD 81 undef,tm.getD 82 undef,tm.getD 83 undef,tm.getD 84 undef,tm.getD 85 undef,tm.getD 86 undef,tm.getD 87 undef,tm.getD 88 undef,tm.getD 89 undef,tm.getD 90 undef,tm.getD 91 undef,tm.getD 92 undef,tm.getD 93 undef,tm.getD 94 undef,tm.getD 95 undef,tm.getD 96 undef,tm.getD 97 undef,tm.getD 98 undef,tm.getD 99 undef,tm.getD 100 undef,tm.getD 101 undef,tm.getD 102 undef,tm.getD 103 undef,tm.getD 104 undef,tm.getD 105 undef,tm.getD 106 undef,tm.getD 107 undef,tm.getD 108 undef,tm.getD 109 undef,tm.getD 110 undef,tm.getD 111 undef,tm.getD 112 undef,tm.getD 113 undef,tm.getD 114 undef,tm.getD 115 undef,tm.getD 116 undef,tm.getD 117 undef,tm.getD 118 undef,tm.getD 119 undef,tm.getD 120 undef,tm.getD 121 undef],defers:=[] })(h1:w'.heap[sb]?=some (.cells (bR h b n L) 325 (0,0)))(h2:w'.heap[wb]?=some (.cells (a6 64 (aT b)) 139 (0,0)))(h3:w'.heap[vb]?=some (.cells (a6 8 (dj cV (aT b) h t)) 137 (0,0)))(h4:w.grownBy w' (some sb)):ow sb h b n L w { tmps:=tm,defers:=[] } w' :=
 ⟨t,wb,vb,fun i=>tm.getD i undef,ht,hwb,hvb,he,h1,h2,h3,h4⟩
theorem ug:(prog.info? 137).map (fun i=>(i.zero,i.size))=some (some (.agg (row 8 fun _=> .int .u32 0)),8):=by kernel_rfl
theorem kl:(prog.info? 137).map (·.size)=some 8:=by kernel_rfl
def bW(h v:Nat→BitVec 32)(k:Nat):Nat→BitVec 32:=fun i=>if i<k then h i+v i else h i
theorem kI{h v:Nat→BitVec 32}{b:Nat→BitVec 8}{n:Nat}{L:BitVec 64}{k:Nat}(hk:k<8) :
 row 138 (upd (stF (bW h v k) b n L) k (.int .u32 (U (h k+v k))))=bR (bW h v (k+1)) b n L:=ak fun i _=>by
 unfold upd stF bW;by_cases e:i=k
 ·subst e;simp[hk]
 ·rw[if_neg e]
  by_cases h8:i<8
  ·rw[if_pos h8,if_pos h8]
   by_cases hik:i<k
   ·rw[if_pos hik,if_pos (by omega)]
   ·rw[if_neg hik,if_neg (by omega)]
  ·rw[if_neg h8,if_neg h8]
theorem jp{h h':Nat→BitVec 32}{b:Nat→BitVec 8}{n:Nat}{L:BitVec 64}(he:∀i,i<8→h i=h' i):bR h b n L=bR h' b n L:=ak fun i _=>by
 unfold stF;by_cases h8:i<8
 ·rw[if_pos h8,if_pos h8,he i h8]
 ·rw[if_neg h8,if_neg h8]
theorem ox(sb:Nat)(h:Nat→BitVec 32)(b:Nat→BitVec 8)(n:Nat)(L:BitVec 64)(w:World)(hg:w.heap[sb]?=some (.cells (bR h b n L) 325 (0,0))) :
 Calls prog 293 #[.pointer (some ⟨sb,0,none⟩)] w fun e w'=>e= .returned (.tuple #[])∧w'.heap[sb]?=some (.cells (bR (block cV h b) b n L) 325 (0,0))∧w.grownBy w' (some sb):=by
 have HSZ:=Hd (Array.getElem?_eq_some_iff.1 hg).1;have HG:=Hd hg;clear hg;go_enter func293,ntmps293;refine gF 0 (ow sb h b n L w) (fun a' _=>64-(intOf (a'.tmps.getD 4 undef)).toNat) rfl ?_ ?_
 ·rintro a' wr⟨t,wb,vb,u,ht,hwb,hvb,rfl,hs,hw,hv,hgr⟩
  by_cases hlt:t<64
  ·have h0:(0:Int)≤(t:Int):=by omega
   have h1:(t:Int)<64:=by omega
   have cw:wr.cell? ⟨wb,t,none⟩=some (.int .u32 (U (aT b t))):=ap hw hlt;have ck:wr.cell? ⟨sb,8+t,none⟩=some (.int .u32 (U (cV t))):=by
    rw[aP hs (by omega)];unfold stF;rw[if_neg (by omega),if_pos (by omega)];simp
   have HV:=Hd hv;have HS:=Hd hs;have HW:=Hd hw;clear hs hw;have hn:dj cV (aT b) h (t+1)=rnd cV (aT b) t (dj cV (aT b) h t):=rfl;have HN:=Hd hn;clear hn;generalize dj cV (aT b) h t=v at *
   have c0:=ap (i:=0) hv (by decide);have c1:=ap (i:=1) hv (by decide);have c2:=ap (i:=2) hv (by decide);have c3:=ap (i:=3) hv (by decide);have c4:=ap (i:=4) hv (by decide);have c5:=ap (i:=5) hv (by decide);have c6:=ap (i:=6) hv (by decide);have c7:=ap (i:=7) hv (by decide);clear hv;have hadd:=gM;have hxor:=kV;have hand:=BF;have hnot:=Gg;have hadd':=fN;go_wp2;go_quiet (fail);go_wp2_with fail;refine(LI _ _).mono ?_;rintro e w'⟨rfl,rfl⟩;go_wp2_with fail;refine(J0 _ _).mono ?_;rintro e w'⟨rfl,rfl⟩;go_wp2_with fail;refine(J2 _ _).mono ?_;rintro e w'⟨rfl,rfl⟩;go_wp2_with fail;refine(LK _ _).mono ?_;rintro e w'⟨rfl,rfl⟩;go_wp2_with fail;refine(J4 _ _).mono ?_;rintro e w'⟨rfl,rfl⟩;go_wp2_with fail;refine(J6 _ _).mono ?_;rintro e w'⟨rfl,rfl⟩;go_wp2_with fail;go_quiet (fail);have HV2:=Hd (show ∀m,(wr.drewN m).heap[vb]?=some (.cells (a6 8 v) 137 (0,0))from fun _=>HV.out);have HZ8:=Hd (show(prog.info? 137).map (·.size)=some (a6 8 (rnd cV (aT b) t v)).size by rw[kl,aZ]);go_wp2_with ((with_reducible show wpList _ _ _ (⟨_,.store _ _ _,_,_,_,_⟩::_) _ _);refine wpList_store_rowTo rfl 137 _ _ rfl rfl vb (a6 8 (rnd cV (aT b) t v)) rfl rfl 137 _ (HV2.out _) HZ8.out (by rw[aZ,aZ]) (bP _ _) ?_);go_step3;refine⟨rfl,gS (t+1) wb vb (by omega) hwb hvb rfl ?_ ?_ ?_ ?_,?_⟩
   ·have hne:sb≠vb:=by have:=HSZ.out;omega
    exact(au hne).trans HS.out
   ·have hne:wb≠vb:=by omega
    exact(au hne).trans HW.out
   ·rw[HN.out]
    exact aC (HV2.out _)
   ·exact dJ (m6 hgr _) (.inl (by omega)) _
   ·simp[intOf];omega
  ·have hE:dj cV (aT b) h t=dj cV (aT b) h 64:=by rw[show t=64 by omega]
   rw[hE]at hv;have HBL:=Hd (show ∀i,i<8→bW h (dj cV (aT b) h 64) 8 i=block cV h b i from fun i hi=>by unfold bW;rw[if_pos hi];rfl);clear hE hw;generalize dj cV (aT b) h 64=v at *
   have HS:=Hd hs;have HV:=Hd hv;clear hs hv;have hge:(64:Int)≤(t:Int):=by omega
   go_wp2;go_loopw [105] (fun i w2=>∃k:Nat,k≤8∧i= .int .i64 k∧w2.heap[sb]?=some (.cells (bR (bW h v k) b n L) 325 (0,0))∧w2.heap[vb]?=some (.cells (a6 8 v) 137 (0,0))∧w.grownBy w2 (some sb)) (fun i _=>8-(intOf i).toNat);case atStart=>exact⟨0,by omega,rfl,HS.out,HV.out,hgr⟩
   case round =>
    obtain⟨k,hk,rfl,hs,hv,hg2⟩:=hrel;by_cases hk8:k<8
    ·have hk0:(0:Int)≤(k:Int):=by omega
     have hk1:(k:Int)<8:=by omega
     have ca:wr.cell? ⟨sb,k,none⟩=some (.int .u32 (U (h k))):=by
      rw[aP hs (by omega)];unfold stF bW;rw[if_pos hk8,if_neg (by omega)]
     have cb:wr.cell? ⟨vb,k,none⟩=some (.int .u32 (U (v k))):=ap hv hk8;have cf:wr.frozen? ⟨sb,k,none⟩=false:=frozen_of_row wr _ _ _ _ hs;have HS:=Hd hs;have HV:=Hd hv;clear hs hv HBL;have hadd:=gM;have hadd':=fN;go_wp2;go_still_tail 13,(by kernel_rfl);change wpList _ _ _ _ _ wr.drew;go_wp2;go_roundw;case rel =>
      refine⟨k+1,by omega,by go_num,?_,?_,dz (bn hg2 (.inr rfl) _)⟩
      ·show(wr.setCell _ _).heap[_]?=_
       rw[bB _ HS.out (by omega),kI hk8]
      ·have hne:vb≠sb:=by have:=HSZ.out;omega
       show(wr.setCell _ _).heap[_]?=_;rw[heap_setCell_other _ _ _ _ hne];exact HV.out
     case measure=>simp[intOf];omega
    ·obtain rfl:k=8:=by omega
     rw[jp HBL.out]at hs;have HS:=Hd hs;clear hs hv HBL;go_wp2;simp only[Exit.jump];go_end0;exact⟨rfl,HS.out,hg2⟩
 ·intro hrest
  have HL:=Hd (show(prog.info? 139).map (·.size)=some (a6 64 (aT b)).size by rw[oP,aZ]);have H8:=Hd (show(prog.info? 137).map (·.size)=some (a6 8 h).size by rw[kl,aZ]);have H8':=Hd (show(prog.info? 137).map (·.size)=some (a6 8 h).toList.length by rw[kl];simp[aZ]);have HB:=Hd (show ∀i,i<64→stF h b n L (72+i)= .int .u8 (B8 (b i))from fun i hi=>by
   unfold stF;rw[if_neg (by omega),if_neg (by omega),if_pos (by omega)];simp)
  have HR:=Hd hrest;clear hrest;go_wp2_with (first
   | (go_at_call 313;refine(iv sb (stF h b n L) b _ HG.out HB.out).mono ?_;rintro e w1⟨rfl,hb1⟩)
   | (with_reducible refine aw rfl 139 rfl 64 _ kQ ?_)
   | (with_reducible refine aw rfl 137 rfl 8 _ ug ?_)
   | ((with_reducible show wpList _ _ _ (⟨_,.store 139 _ _,_,_,_,_⟩::_) _ _);refine wpList_store_rowTo rfl 139 _ _ rfl rfl _ (a6 64 (aT b)) rfl rfl 139 _ (heap_alloc_new _ _) HL.out (by rw[aQ,aZ]) (bP _ _) ?_)
   | ((with_reducible show wpList _ _ _ (⟨_,.load 137 _,_,_,_,_⟩::_) _ _);refine wpList_load_mid rfl 137 _ rfl sb 0 rfl (a6 8 h).toList _ ?r underlying137 rfl H8'.out ?_)
   | ((with_reducible show wpList _ _ _ (⟨_,.store 137 _ _,_,_,_,_⟩::_) _ _);refine wpList_store_rowTo rfl 137 _ _ rfl rfl _ (a6 8 h) rfl rfl 137 _ (heap_alloc_new _ _) H8.out (by rw[aQ,aZ]) (bP _ _) ?_))
  case r =>
   have hne:sb≠w1.heap.size:=by have:=HSZ.out;have:=hb1.size;omega
   have h1:((w1.alloc (.cells (row 64 fun _=> .int .u32 0) 139)).setRow w1.heap.size (a6 64 (aT b))).heap[sb]?=some (.cells (row 138 (stF h b n L)) 325 (0,0)):=by
    rw[au hne,Below.heap_alloc _ _ _ (by have:=HSZ.out;have:=hb1.size;omega),hb1.block _ HSZ.out];exact HG.out
   have h2:=gx (o:=0) (n:=8) h1 (by decide);have h3:(row 8 fun i=>stF h b n L (0+i))=a6 8 h:=ak fun i hi=>by
    rw[Nat.zero_add];unfold stF;rw[if_pos hi]
   rw[h3]at h2;exact h2
  go_step3;go_step;go_step;have hsz:=hb1.size;have hlt:=HSZ.out;have hne:sb≠w1.heap.size:=by omega
  have hne':sb≠w1.heap.size+1:=by omega
  refine HR.out _ _ (gS 0 w1.heap.size (w1.heap.size+1) (by omega) hsz (by omega) rfl ?_ ?_ ?_ ?_)
  ·rw[au hne',Below.heap_alloc _ _ _ (by simp;omega),au hne,Below.heap_alloc _ _ _ (by omega),hb1.block _ hlt]
   exact HG.out
  ·rw[au (by omega),Below.heap_alloc _ _ _ (by simp)]
   exact aC (heap_alloc_new _ _)
  ·exact aC (by have:=heap_alloc_new ((w1.alloc (.cells (row 64 fun _=> .int .u32 0) 139)).setRow w1.heap.size (a6 64 (aT b))) (.cells (row 8 fun _=> .int .u32 0) 137);simpa using this)
  ·exact dJ (dA (dJ (dA (i5 hb1) _) (.inl hsz) _) _) (.inl (by omega)) _
end
end Go.Proofs.YtoifhhljfaoejaaGreatDoor
