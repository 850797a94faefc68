/-
  Lemmas of the law, part 12: the walks of the functions that it calls and the plain facts about them. No condition beyond those written.
-/
import Derived.Laws.Cover3
import Derived.Test.YtoifhhljfaoejaaGreatDoorPkAA
import Derived.Test.YtoifhhljfaoejaaGreatDoorPkAK
import Derived.Laws.IdiomStrings
set_option maxRecDepth 100000
set_option maxHeartbeats 8000000
set_option linter.unusedVariables false
set_option linter.unusedSimpArgs false
set_option linter.unusedSectionVars false
namespace Go.Proofs.YtoifhhljfaoejaaGreatDoor
open Go.Proofs.Tryz
section
open Go Go.RowKit
theorem AJ{x y:Nat}(hx:x<2^256)(hy:y<2^256)(h:∀i,i<32→ab x i=ab y i):x=y:=by
 have e:leN (ab x)=leN (ab y):=by
  have:∀k,k≤32→leK (ab x) k=leK (ab y) k:=fun k=>by
   induction k with
   | zero=>intro _;rfl
   | succ k ih=>intro hk;show leK _ k+_=leK _ k+_;rw[ih (by omega),h k (by omega)]
  exact this 32 (by omega)
 rwa[bL hx,bL hy]at e
theorem iH(x y:Nat)(hx:x<2^256)(hy:y<2^256):EqV 24 (aa 32 (ab x)) (aa 32 (ab y)) (decide (x=y)) :=
 yF (fun i=>B8 (ab x i)) (fun i=>B8 (ab y i)) underlying24 (by kernel_rfl) underlying5 (fun w=>by kernel_rfl)
  (fun r s x y w=>run_eqGuard_agg _ _ _ _ _ _ _ (by kernel_rfl)) (fun r s x y w=>run_eqGuard_agg _ _ _ _ _ _ _ (by kernel_rfl)) (by
   rw[Bool.eq_iff_iff,yE,decide_eq_true_iff];constructor
   ·intro h
    refine AJ hx hy fun i hi=>BitVec.eq_of_toNat_eq ?_;have:=h i hi;unfold B8 at this;exact Int.ofNat_inj.1 this
   ·intro h i _;rw[h])
theorem iI(e:Ex):bT e<2^256:=by
 unfold bT;have h1:=Nat.lt_trans (e.y*inv e.z).isLt yK;have h2:(2:Nat)^256=2*2^255:=by decide +kernel
 have h3:(e.x*inv e.z).val%2<2:=Nat.mod_lt _ (by omega);have h4:2^255*((e.x*inv e.z).val%2)≤2^255*1:=Nat.mul_le_mul_left _ (by omega);generalize(2:Nat)^255=E at *
 omega
theorem lp(key at_ s:Nat)(m:List (BitVec 8)):(bF at_=none→dD key at_ s m=false)∧(bF key=none→dD key at_ s m=false)∧(¬s<Qo→dD key at_ s m=false) ∧
 ∀r a,bF at_=some r→bF key=some a→s<Qo→dD key at_ s m=decide (bT (cp exB s)=bT (cZ r (cp a (jv key at_ m)))):=by
 refine⟨fun h=>?_,fun h=>?_,fun h=>?_,fun r a h1 h2 h=>?_⟩
 ·unfold dD;rw[h]
 ·unfold dD;rw[h];cases bF at_ <;> rfl
 ·unfold dD
  cases bF at_ with
  | none=>rfl
  | some r =>
   cases bF key with
   | none=>rfl
   | some a=>simp only[h,decide_false,Bool.false_and]
 ·unfold dD
  rw[h1,h2];simp only[h,decide_true,Bool.true_and]
theorem iJ(f:Nat→BitVec 8):sE (leN f)=ae 32 f:=by
 unfold sE Ft ae;exact List.map_congr_left fun i hi=>gU f (List.mem_range.1 hi)
theorem nL(a:Option Addr)(c:Nat)(w:World):(Instr.arrayAt 24 (.slice a 32 c)).run prog w= .ok (.pointer a) w:=run_arrayAt (P:=prog) (w:=w) 24 5 32 a 32 c underlying24 (Nat.le_refl _)
instance Oa:Ent 247:=eo func247
theorem o0(fk fs:Nat→BitVec 8)(vb:Value)(ms:List (List (BitVec 8)))(w:World)(hb:BRows w vb ms)(hm0:0<ms.length)(hl:ms.length≤1000)(hm:ms.flatten.length≤1000000) :
 Rt 210 #[.agg (aa 32 fk),.agg (aa 64 fs),vb] w (.bool (dD (leN fk) (leN fs) (leN fun i=>fs (32+i)) ms.flatten)):=by
 have hL:=Loc.nil w;have harr:=nL;haveI p1:Part (aa 64 fs) 75 0 24 (aa 32 fs):=dR (by omega) fun i hi=>by rw[Nat.zero_add]
 haveI p2:Part (aa 64 fs) 75 32 24 (aa 32 fun i=>fs (32+i)):=dR (by omega) fun i hi=>rfl;obtain⟨fs2,hfs2⟩:∃fs2:Nat→BitVec 8,fs2=fun i=>fs (32+i):=⟨_,rfl⟩;rw[← hfs2]at p2 ⊢;clear hfs2;obtain⟨c1,c2,c3,c4⟩:=lp (leN fk) (leN fs) (leN fs2) ms.flatten;haveI r1:FnC 245 #[.agg (aa 32 fs)] (.tuple #[.agg (wY (bF (leN fs))),.bool (bF (leN fs)).isSome]):=inferInstance;haveI r2:FnC 245 #[.agg (aa 32 fk)] (.tuple #[.agg (wY (bF (leN fk))),.bool (bF (leN fk)).isSome]):=inferInstance;haveI r3:FnC 246 #[.agg (aa 32 fs2)] (.bool (decide (leN fs2<Qo))):=inferInstance;have HS:=Hd (fun w1 (hb1:Below w.heap.size w w1) (pa:Option Addr) (ha:BRows w1 (.slice pa 2 2) [ae 32 fs,ae 32 fk])=>Dk vb pa [ae 32 fs,ae 32 fk] ms w1 (hb.below hb1) ha (by simp) hm0 (by simp;omega) (by simp[ag];simp at hm;omega));have hk:li ([ae 32 fs,ae 32 fk]++ms).flatten=jv (leN fk) (leN fs) ms.flatten:=by
  unfold jv;rw[iJ,iJ];simp
 rw[hk]at HS;haveI t1:FnC 249 #[.agg (dK exB),.agg (aa 32 fs2)] (.agg (dK (cp exB (leN fs2)))):=inferInstance;have HT:=Hd (fun(p:Ex)=>show FnC 249 #[.agg (dK p),.agg (aa 32 (ab (jv (leN fk) (leN fs) ms.flatten)))] (.agg (dK (cp p (jv (leN fk) (leN fs) ms.flatten))))from by
  have h:=t9 p (ab (jv (leN fk) (leN fs) ms.flatten));rw[bL (yZ _ _ _)]at h;exact⟨h⟩)
 generalize dD (leN fk) (leN fs) (leN fs2) ms.flatten=out,jv (leN fk) (leN fs) ms.flatten=kk,bF (leN fs)=R,bF (leN fk)=A at *
 generalize leN fs2=s at *
 clear hk hm hl hm0;have HBB:=Hd hb;obtain⟨pb,cb,rfl,hbn,hbp⟩:=hb;clear hbn hbp HBB;cases R with
 | none =>
  rw[c1 rfl];rw[gQ]at r1;clear c1 c2 c3 c4;cases A with
  | none =>
   rw[gQ]at r2;go_enter func210,ntmps210;go_wp2_with (first|(refine gBp 3 ?_;clear hL;intro b3 w1 hL)|(refine gBp 4 ?_;clear hL;intro b4 w1 hL)|(refine gBp 7 ?_;clear hL;intro b7 w1 hL)|(refine gBp 8 ?_;clear hL;intro b8 w1 hL)|(refine gBp 10 ?_;clear hL;intro b10 w1 hL)|refine aV ?_|(refine aQp ?_;clear hL;intro _ w1 hL));go_ret;exact⟨rfl,hL.bel⟩
  | some a =>
   rw[mE]at r2;go_enter func210,ntmps210;go_wp2_with (first|(refine gBp 3 ?_;clear hL;intro b3 w1 hL)|(refine gBp 4 ?_;clear hL;intro b4 w1 hL)|(refine gBp 7 ?_;clear hL;intro b7 w1 hL)|(refine gBp 8 ?_;clear hL;intro b8 w1 hL)|(refine gBp 10 ?_;clear hL;intro b10 w1 hL)|refine aV ?_|(refine aQp ?_;clear hL;intro _ w1 hL));go_ret;exact⟨rfl,hL.bel⟩
 | some r =>
  rw[mE]at r1;cases A with
  | none =>
   rw[c2 rfl];rw[gQ]at r2;clear c1 c2 c3 c4;go_enter func210,ntmps210;go_wp2_with (first|(refine gBp 3 ?_;clear hL;intro b3 w1 hL)|(refine gBp 4 ?_;clear hL;intro b4 w1 hL)|(refine gBp 7 ?_;clear hL;intro b7 w1 hL)|(refine gBp 8 ?_;clear hL;intro b8 w1 hL)|(refine gBp 10 ?_;clear hL;intro b10 w1 hL)|refine aV ?_|(refine aQp ?_;clear hL;intro _ w1 hL));go_ret;exact⟨rfl,hL.bel⟩
  | some a =>
   rw[mE]at r2;by_cases hs:s<Qo
   ·rw[c4 r a rfl rfl hs]
    rw[decide_eq_true hs]at r3;haveI t2:=HT.out a;haveI eq1:=iH (bT (cp exB s)) (bT (cZ r (cp a kk))) (iI _) (iI _);generalize decide (bT (cp exB s)=bT (cZ r (cp a kk)))=res at *
    clear c1 c2 c3 c4 hs;go_enter func210,ntmps210;go_wp2_with (first|(refine gBp 3 ?_;clear hL;intro b3 w1 hL)|(refine gBp 4 ?_;clear hL;intro b4 w1 hL)|(refine gBp 7 ?_;clear hL;intro b7 w1 hL)|(refine gBp 8 ?_;clear hL;intro b8 w1 hL)|(refine gBp 10 ?_;clear hL;intro b10 w1 hL)|refine aV ?_|(refine aQp ?_;clear hL;intro _ w1 hL));have s0:Seg (aa 64 fs) 0 32 (an (ae 32 fun i=>fs (0+i))):=segB fs 0 32 (by omega);simp only[Nat.zero_add]at s0;haveI s1:Seg (aa 64 fs) 0 32 (an (ae 32 fs)):=s0;clear s0;refine jx (R:=?R) (fun hR=>?h1) ?h2;case h1 =>
     refine mX (S:=fun w'=>Loc w w' _) 7 (hL.drew) ?_;intro hHeld;replace hL:=hL.drew;refine uG 0 ?_;refine uG 1 ?_;refine uG 2 ?_;refine rd2 3 5 ?_ ?_
     ·intro K hK
      refine eBS ?_;clear hL;intro b42 w1 hL;refine kO hK (hL.pop) ?_;clear hK K hHeld;intro hHeld;refine rd2 4 5 ?_ ?_
      ·intro K hK
       refine eVv (HS.out _ hL.bel _ (fH (hL.at_ b42) (See.bytes hL) (See.bytes hL))) hL ?_;clear hL;intro w1 hL;refine kO hK (hL.pop) ?_;clear hK K hHeld;intro hHeld;refine rd1 5 ?_;intro K hK;refine eA hL rfl ?_;clear hL;intro b12 w1 hL;refine kO hK (hL.pop.pop) ?_;clear hK K hHeld;intro hHeld;refine rd1 6 ?_;intro K hK;refine eS hL rfl rfl rfl ?_;clear hL;intro w1 hL;refine kO hK (hL.pop.pop) ?_;clear hK K hHeld;intro hHeld;refine wD ?_;clear hHeld;have hLp:=hL;clear hL;revert hLp;revert w1;revert b42;revert b12;exact pm hR
      ·intro K hK
       refine eA hL rfl ?_;clear hL;intro b12 w1 hL;refine kO hK (hL.pop.pop) ?_;clear hK K hHeld;intro hHeld;refine rd1 4 ?_;intro K hK;refine eVv (HS.out _ hL.bel _ (fH (hL.at_ b42) (See.bytes hL) (See.bytes hL))) hL ?_;clear hL;intro w1 hL;refine kO hK (hL.pop.pop) ?_;clear hK K hHeld;intro hHeld;refine rd1 6 ?_;intro K hK;refine eS hL rfl rfl rfl ?_;clear hL;intro w1 hL;refine kO hK (hL.pop.pop) ?_;clear hK K hHeld;intro hHeld;refine wD ?_;clear hHeld;have hLp:=hL;clear hL;revert hLp;revert w1;revert b42;revert b12;exact pm hR
     ·intro K hK
      refine eA hL rfl ?_;clear hL;intro b12 w1 hL;refine kO hK (hL.pop) ?_;clear hK K hHeld;intro hHeld;refine rd1 3 ?_;intro K hK;refine eBS ?_;clear hL;intro b42 w1 hL;refine kO hK (hL.pop.pop) ?_;clear hK K hHeld;intro hHeld;refine rd1 4 ?_;intro K hK;refine eVv (HS.out _ hL.bel _ (fH (hL.at_ b42) (See.bytes hL) (See.bytes hL))) hL ?_;clear hL;intro w1 hL;refine kO hK (hL.pop.pop) ?_;clear hK K hHeld;intro hHeld;refine rd1 6 ?_;intro K hK;refine eS hL rfl rfl rfl ?_;clear hL;intro w1 hL;refine kO hK (hL.pop.pop) ?_;clear hK K hHeld;intro hHeld;refine wD ?_;clear hHeld;have hLp:=hL;clear hL;revert hLp;revert w1;revert b42;revert b12;exact pm hR
    intro b12 b42 w1 hL1;clear hL;have hL:=hL1;clear hL1;go_wp2_with (first|(refine aQp ?_;clear hL;intro _ w1 hL));refine wf [(0,false),(1,false),(2,false),(3,false),(4,false),(5,false),(6,false),(7,false),(8,false),(9,false),(10,true),(11,true)] [] [] hL ?_
    repeat(first|((with_reducible show bu _ _ _ (_::_) _ _);refine sQ rfl rfl rfl rfl ?_;refine p4 ?_)|refine rS ?_)
    refine aG ?_;refine fC ?_;clear hL;intro w1 hL;go_wp2_with fail;go_ret;exact⟨rfl,hL.bel⟩
   ·rw[c3 hs]
    rw[decide_eq_false hs]at r3;clear c1 c2 c3 c4 hs;go_enter func210,ntmps210;go_wp2_with (first|(refine gBp 3 ?_;clear hL;intro b3 w1 hL)|(refine gBp 4 ?_;clear hL;intro b4 w1 hL)|(refine gBp 7 ?_;clear hL;intro b7 w1 hL)|(refine gBp 8 ?_;clear hL;intro b8 w1 hL)|(refine gBp 10 ?_;clear hL;intro b10 w1 hL)|refine aV ?_|(refine aQp ?_;clear hL;intro _ w1 hL));go_ret;exact⟨rfl,hL.bel⟩
end
section
open Go Go.RowKit
def p8(n:Int)(i:Nat):BitVec 8:=BitVec.ofInt 8 (n/2^(8*(7-i)))
def aR(n:Int):List (BitVec 8):=ae 8 (p8 n)
def aX(l:List Int):List (BitVec 8):=(l.map aR).flatten
theorem aO(n:Int):(aR n).length=8:=ag _ _
theorem bg:∀l:List Int,(aX l).length=8*l.length
 | []=>rfl
 | x::l=>by
  have:=bg l;unfold aX at *
  rw[List.map_cons,List.flatten_cons,List.length_append,aO,this,List.length_cons];omega
theorem jA(l:List Int){k:Nat}(h:k<l.length):aX (l.take (k+1))=aX (l.take k)++aR l[k]:=by
 unfold aX;rw[List.take_succ_eq_append_getElem h,List.map_append,List.flatten_append,List.map_cons,List.map_nil,List.flatten_cons,List.flatten_nil,List.append_nil]
theorem uP(n:Int)(i:Nat):B8 (p8 n i)=n/2^(8*(7-i))%256:=by
 unfold B8 p8;rw[BitVec.toNat_ofInt];have:0≤n/2^(8*(7-i))%((2^8:Nat):Int):=Int.emod_nonneg _ (by decide);rw[Int.toNat_of_nonneg this];rfl
def dq(l:List Int):List Value:=l.map fun x=> .int .i64 x
theorem cP(l:List Int):(dq l).length=l.length:=List.length_map _
theorem Dm:(prog.info? 3).map (fun i=>(i.zero,i.size,i.bytes))=some (some (.int .i64 0),1,8):=by kernel_rfl
instance R9:Elt 53 3:=sm underlying53 Dm (by omega) rfl
instance FE(d:IntKind)(n:Int):Seg #[.int d n] 0 1 [.int d n]:=⟨rfl,fun u hu=>by
 have:=List.mem_singleton.1 hu;subst this;rfl,fun i hi=>by
 have:i=0:=by simpa using hi
 subst this;rfl⟩
theorem o9(n:Int):bits .and .i64 n 255=n%256:=R3.and_255 n
theorem sX(n:Int){j:Nat}(h:j<8):n/2^(8*j)/256=n/2^(8*(j+1)):=by
 have e:(2:Int)^(8*(j+1))=2^(8*j)*256:=by rw[Nat.mul_succ,Int.pow_add];rfl
 rw[e,Int.ediv_ediv_of_nonneg (Int.le_of_lt (Int.pow_pos (by decide)))]
def xK(n:Int)(j:Nat):Nat→BitVec 8:=fun i=>if 8-j≤i then p8 n i else 0
theorem Dn(n:Int){j:Nat}(h:j<8):Put (aa 8 (xK n j)) (7-j) (.int .u8 (B8 (p8 n (7-j)))) (aa 8 (xK n (j+1))):=a9 (by omega) (ak fun i hi=>by
 unfold upd xK;by_cases e:i=7-j
 ·subst e;rw[if_pos rfl,if_pos (by omega)]
 ·rw[if_neg e]
  show Value.int .u8 (B8 (if 8-j≤i then p8 n i else 0))=_;by_cases h:8-j≤i
  ·rw[if_pos h,if_pos (by omega)]
  ·rw[if_neg h,if_neg (by omega)])
instance Ob:RowZ 211 (aa 8 fun _=>0):=⟨by kernel_rfl⟩
section
variable {ops:Array Oper} {rest:List Oper} {o:Oper} {a:Act} {w0 w:World} {M M':Mem} {Q:Exit→Act→World→Prop}
theorem Hz(hL:Loc w0 w M)(hg:o.guard=none){s x:Operand}{t e:TypeId}(ho:o.op= .call { callee:= .builtin .append,args:= #[s,x],argTypes:= #[t,t] })[he:Elt t e](hs:a.eval s= .slice none 0 0)(hx:a.eval x= .slice none 0 0)(h:∀w',Loc w0 w' M→wpList prog ops Q rest (a.put o.dst (.slice none 0 0)) w'):wpList prog ops Q (o::rest) a w:=by
 obtain⟨i,z,hi,hz,hs1,hb,hzs⟩:=he.info;exact wpList_append_own_none hg s x t ho 0 e i 1 he.und hi (.slice none 0 0) 0 [] hs (World.ownsRow_nil _ _ _ _) hx (h w hL)
end
theorem iK(vb:Value)(b:List (BitVec 8))(vl:Value)(l:List Int)(w:World)(hb:BRow w vb b)(hb0:b=[]→vb= .slice none 0 0)(hb1:b.length≤100000)(hl:VRow w vl (dq l))(hl0:0<l.length)(hl1:l.length≤10000)(hr:∀x∈l,-9223372036854775808≤x∧x≤9223372036854775807) :
 Calls prog 73 #[vb,vl] w fun e w'=>Fresh w (b++aX l) e w':=by
 have hL:=Loc.nil w;haveI hA:Arg w vb (an b):=⟨hb.vrow⟩;obtain⟨_,al,cl,rfl,_,hcl⟩:=hl;obtain⟨bl,ol,rfl,hbl,hcell⟩:=hcl (by rwa[cP]);rw[cP];have HW:=Hd (fun(k:Nat) (h:k<l.length)=>show Was w bl (ol+k) (.int .i64 l[k])from⟨by rw[hcell k (by rwa[cP])];simp[dq],hbl⟩);have HR:=Hd (fun(k:Nat) (h:k<l.length)=>hr l[k] (List.getElem_mem h));have HPL:=Hd (fun k=>bg (l.take k));clear hcl hcell hr;obtain⟨pb,cb,rfl,hbn,hbp⟩:=hb;clear hbn hbp;by_cases hbe:b=[]
 ·have hv:=hb0 hbe
  have hbe':=hbe;subst hbe;cases hv
  clear hb0;go_enter func73,ntmps73;go_wp2_with (first|(refine gN 11 ?_;(refine Hz hL rfl rfl rfl rfl fun w1 hL1=>?_);clear hL;have hL:=hL1;clear hL1)|(refine aQp ?_;clear hL;intro _ w1 hL));go_loopw [5,6] (fun v kk wr=>∃k:Nat,k≤l.length∧kk= .int .i64 k∧((k=0∧([]:List (BitVec 8))=[]∧v= .slice none 0 0∧Loc w wr [])∨((0<([]:List (BitVec 8)).length∨0<k)∧∃(g cap:Nat) (cur:Array Value),v= .slice (some ⟨g,0,none⟩) (([]:List (BitVec 8)).length+8*k) cap∧OwnR cur (([]:List (BitVec 8)).length+8*k) cap (an ([]++aX (l.take k)))∧Loc w wr [(g,cur,5)]))) (fun _ kk _=>l.length-(intOf kk).toNat);case atStart=>exact⟨0,by omega,rfl,.inl ⟨rfl,rfl,rfl,hL⟩⟩
  case round =>
   clear hL;obtain⟨k,hk,rfl,hcase⟩:=hrel;by_cases hlt:k<l.length
   ·have hlt':k<l.length:=hlt
    have hk0:(0:Int)≤(k:Int):=by omega
    have hk1:(k:Int)<(l.length:Int):=by omega
    haveI g1:=HW.out k hlt';obtain⟨n0,n1⟩:=HR.out k hlt';have HT:=Hd (jA l hlt');generalize l[k]=n at *
    clear hlt';have HX0:=Hd (show(aa 8 fun _=>0)=aa 8 (xK n 0)from ak fun i hi=>by unfold xK;rw[if_neg (by omega)]);have HX8:=Hd (show aa 8 (xK n 8)=aa 8 (p8 n)from ak fun i hi=>by unfold xK;rw[if_pos (by omega)]);rcases hcase with⟨rfl,hbz,rfl,hL⟩|⟨hpos,g,cap,cur,rfl,hr,hL⟩
    ·skip
     go_wp2_with (first|(refine gBp 8 ?_;clear hL;intro b8 w1 hL)|(refine aQp ?_;clear hL;intro _ w1 hL));go_loopw [7,9] (fun nn kk wr=>∃j:Nat,j≤8∧kk= .int .i64 (7-(j:Int))∧nn= .int .i64 (n/2^(8*j))∧Loc w wr [(b8,aa 8 (xK n j),211)]) (fun _ kk _=>(intOf kk+1).toNat);case atStart=>exact⟨0,by omega,rfl,by simp,by rw[← HX0.out];exact hL⟩
     case round =>
      clear hL;obtain⟨j,hj,rfl,rfl,hL⟩:=hrel;by_cases hj8:j<8
      ·have hq:=sX n hj8
       have k0:(0:Int)≤7-(j:Int):=by omega
       have k1:¬7-(j:Int)<0:=by omega
       have k2:7-(j:Int)<8:=by omega
       have k3:(j:Int)≤7:=by omega
       have ek:7-(j:Int)=((7-j:Nat):Int):=by omega
       have ha:=o9 (n/2^(8*j));obtain⟨v0,v1⟩:=bK (p8 n (7-j));have hv:bits .and .i64 (n/2^(8*j)) 255=B8 (p8 n (7-j)):=by rw[ha,uP,show 7-(7-j)=j from by omega]
       have wv:IntKind.u8.wrap (bits .and .i64 (n/2^(8*j)) 255)=B8 (p8 n (7-j)):=by rw[hv,IntKind.wrap_u8];omega
       haveI p1:=Dn n hj8;have hs:n/2^(8*j)/256=n/2^(8*(j+1)):=hq;have HS:=Hd hs;have q0:(0:Int)≤((7-j:Nat):Int):=by omega
       have q1:((7-j:Nat):Int)<8:=by omega
       rw[ek];have HEK:=Hd ek;clear hq ha hs ek hv k0 k1 k2;generalize B8 (p8 n (7-j))=bb at *
       generalize 7-j=jj,hnd':n/2^(8*(j+1))=nd' at *
       have HND:=Hd hnd';clear hnd';generalize n/2^(8*j)=nd at *
       go_wp2_with (first|(refine aQp ?_;clear hL;intro _ w1 hL));go_roundw;case rel=>exact⟨j+1,by omega,by rw[show(jj:Int)-1=7-((j+1:Nat):Int)from by have:=HEK.out;omega],by rw[HND.out,HS.out],hL⟩
       case measure=>simp[intOf]
      ·obtain rfl:j=8:=by omega
       rw[HX8.out]at hL;rw[show(7:Int)-((8:Nat):Int)= -1 from rfl];generalize n/2^(8*8)=nd at *
       go_wp2_with (first|(refine gN 35 ?_;refine aNb ?_;clear hL;intro g35 cap35 cur35 w1 hr35 hL)|(refine aQp ?_;clear hL;intro _ w1 hL));go_roundw;case rel=>exact⟨0+1,by omega,by go_num,.inr ⟨.inr (by omega),g35,cap35,cur35,rfl,by rw[HT.out];exact hr35,(Loc.rem b8 hL)⟩⟩
       case measure=>simp[intOf];omega
    ·generalize hpre:[]++aX (l.take k)=pre at *
     have HPRE:=Hd hpre;clear hpre;generalize hm:([]:List (BitVec 8)).length+8*k=m at *
     have HM:=Hd hm;have hm1:m≤1000000:=by omega
     clear hm;go_wp2_with (first|(refine gBp 8 ?_;clear hL;intro b8 w1 hL)|(refine aQp ?_;clear hL;intro _ w1 hL));go_loopw [7,9] (fun nn kk wr=>∃j:Nat,j≤8∧kk= .int .i64 (7-(j:Int))∧nn= .int .i64 (n/2^(8*j))∧Loc w wr [(b8,aa 8 (xK n j),211),(g,cur,5)]) (fun _ kk _=>(intOf kk+1).toNat);case atStart=>exact⟨0,by omega,rfl,by simp,by rw[← HX0.out];exact hL⟩
     case round =>
      clear hL;obtain⟨j,hj,rfl,rfl,hL⟩:=hrel;by_cases hj8:j<8
      ·have hq:=sX n hj8
       have k0:(0:Int)≤7-(j:Int):=by omega
       have k1:¬7-(j:Int)<0:=by omega
       have k2:7-(j:Int)<8:=by omega
       have k3:(j:Int)≤7:=by omega
       have ek:7-(j:Int)=((7-j:Nat):Int):=by omega
       have ha:=o9 (n/2^(8*j));obtain⟨v0,v1⟩:=bK (p8 n (7-j));have hv:bits .and .i64 (n/2^(8*j)) 255=B8 (p8 n (7-j)):=by rw[ha,uP,show 7-(7-j)=j from by omega]
       have wv:IntKind.u8.wrap (bits .and .i64 (n/2^(8*j)) 255)=B8 (p8 n (7-j)):=by rw[hv,IntKind.wrap_u8];omega
       haveI p1:=Dn n hj8;have hs:n/2^(8*j)/256=n/2^(8*(j+1)):=hq;have HS:=Hd hs;have q0:(0:Int)≤((7-j:Nat):Int):=by omega
       have q1:((7-j:Nat):Int)<8:=by omega
       rw[ek];have HEK:=Hd ek;clear hq ha hs ek hv k0 k1 k2;generalize B8 (p8 n (7-j))=bb at *
       generalize 7-j=jj,hnd':n/2^(8*(j+1))=nd' at *
       have HND:=Hd hnd';clear hnd';generalize n/2^(8*j)=nd at *
       go_wp2_with (first|(refine aQp ?_;clear hL;intro _ w1 hL));go_roundw;case rel=>exact⟨j+1,by omega,by rw[show(jj:Int)-1=7-((j+1:Nat):Int)from by have:=HEK.out;omega],by rw[HND.out,HS.out],hL⟩
       case measure=>simp[intOf]
      ·obtain rfl:j=8:=by omega
       rw[HX8.out]at hL;rw[show(7:Int)-((8:Nat):Int)= -1 from rfl];generalize n/2^(8*8)=nd at *
       go_wp2_with (first|(refine gN 35 ?_;refine aA ?_;clear hL;intro g35 cap35 cur35 w1 hr35 hL)|(refine aQp ?_;clear hL;intro _ w1 hL));go_roundw;case rel=>exact⟨k+1,by omega,by go_num,.inr ⟨.inr (by omega),g35,cap35,cur35,by rw[show([]:List (BitVec 8)).length+8*(k+1)=m+8 from by have:=HM.out;omega],by rw[show([]:List (BitVec 8)).length+8*(k+1)=m+8 from by have:=HM.out;omega,HT.out,← List.append_assoc,HPRE.out];exact hr35,(Loc.rem b8 hL)⟩⟩
       case measure=>simp[intOf];omega
   ·obtain rfl:k=l.length:=by omega
    rcases hcase with⟨hz,_,_,_⟩|⟨hpos,g,cap,cur,rfl,hr,hL⟩
    ·omega
    ·have ht:l.take l.length=l:=List.take_length
     rw[ht]at hr;have hlen:([]:List (BitVec 8)).length+8*l.length=([]++aX l).length:=by rw[List.length_append,bg]
     rw[hlen]at hr ⊢;clear HW HR HPL ht hlen;simp only[List.nil_append]at hr;go_wp2_with (first|(refine aQp ?_;clear hL;intro _ w1 hL));go_ret;exact hL.back rfl
 ·have hbp:0<b.length:=by
   rcases Nat.eq_zero_or_pos b.length with h|h
   ·exact absurd (List.eq_nil_of_length_eq_zero h) hbe
   ·exact h
  clear hb0;go_enter func73,ntmps73;go_wp2_with (first|(refine gN 11 ?_;(refine mG hL rfl rfl rfl rfl hbp (by first|omega|(simp;omega)|simp) fun g11 cap11 cur11 w1 hr11 hL1=>?_);clear hL;have hL:=hL1;clear hL1;refine p4 ?_)|(refine aQp ?_;clear hL;intro _ w1 hL));go_loopw [5,6] (fun v kk wr=>∃k:Nat,k≤l.length∧kk= .int .i64 k∧((k=0∧b=[]∧v= .slice none 0 0∧Loc w wr [])∨((0<b.length∨0<k)∧∃(g cap:Nat) (cur:Array Value),v= .slice (some ⟨g,0,none⟩) (b.length+8*k) cap∧OwnR cur (b.length+8*k) cap (an (b++aX (l.take k)))∧Loc w wr [(g,cur,5)]))) (fun _ kk _=>l.length-(intOf kk).toNat);case atStart=>exact⟨0,by omega,rfl,.inr ⟨.inl hbp,g11,cap11,cur11,rfl,by simpa[aX] using hr11,hL⟩⟩
  case round =>
   clear hL;obtain⟨k,hk,rfl,hcase⟩:=hrel;by_cases hlt:k<l.length
   ·have hlt':k<l.length:=hlt
    have hk0:(0:Int)≤(k:Int):=by omega
    have hk1:(k:Int)<(l.length:Int):=by omega
    haveI g1:=HW.out k hlt';obtain⟨n0,n1⟩:=HR.out k hlt';have HT:=Hd (jA l hlt');generalize l[k]=n at *
    clear hlt';have HX0:=Hd (show(aa 8 fun _=>0)=aa 8 (xK n 0)from ak fun i hi=>by unfold xK;rw[if_neg (by omega)]);have HX8:=Hd (show aa 8 (xK n 8)=aa 8 (p8 n)from ak fun i hi=>by unfold xK;rw[if_pos (by omega)]);rcases hcase with⟨rfl,hbz,rfl,hL⟩|⟨hpos,g,cap,cur,rfl,hr,hL⟩
    ·rw[hbz]at hbp
     exact absurd hbp (by simp)
    ·generalize hpre:b++aX (l.take k)=pre at *
     have HPRE:=Hd hpre;clear hpre;generalize hm:b.length+8*k=m at *
     have HM:=Hd hm;have hm1:m≤1000000:=by omega
     clear hm;go_wp2_with (first|(refine gBp 8 ?_;clear hL;intro b8 w1 hL)|(refine aQp ?_;clear hL;intro _ w1 hL));go_loopw [7,9] (fun nn kk wr=>∃j:Nat,j≤8∧kk= .int .i64 (7-(j:Int))∧nn= .int .i64 (n/2^(8*j))∧Loc w wr [(b8,aa 8 (xK n j),211),(g,cur,5)]) (fun _ kk _=>(intOf kk+1).toNat);case atStart=>exact⟨0,by omega,rfl,by simp,by rw[← HX0.out];exact hL⟩
     case round =>
      clear hL;obtain⟨j,hj,rfl,rfl,hL⟩:=hrel;by_cases hj8:j<8
      ·have hq:=sX n hj8
       have k0:(0:Int)≤7-(j:Int):=by omega
       have k1:¬7-(j:Int)<0:=by omega
       have k2:7-(j:Int)<8:=by omega
       have k3:(j:Int)≤7:=by omega
       have ek:7-(j:Int)=((7-j:Nat):Int):=by omega
       have ha:=o9 (n/2^(8*j));obtain⟨v0,v1⟩:=bK (p8 n (7-j));have hv:bits .and .i64 (n/2^(8*j)) 255=B8 (p8 n (7-j)):=by rw[ha,uP,show 7-(7-j)=j from by omega]
       have wv:IntKind.u8.wrap (bits .and .i64 (n/2^(8*j)) 255)=B8 (p8 n (7-j)):=by rw[hv,IntKind.wrap_u8];omega
       haveI p1:=Dn n hj8;have hs:n/2^(8*j)/256=n/2^(8*(j+1)):=hq;have HS:=Hd hs;have q0:(0:Int)≤((7-j:Nat):Int):=by omega
       have q1:((7-j:Nat):Int)<8:=by omega
       rw[ek];have HEK:=Hd ek;clear hq ha hs ek hv k0 k1 k2;generalize B8 (p8 n (7-j))=bb at *
       generalize 7-j=jj,hnd':n/2^(8*(j+1))=nd' at *
       have HND:=Hd hnd';clear hnd';generalize n/2^(8*j)=nd at *
       go_wp2_with (first|(refine aQp ?_;clear hL;intro _ w1 hL));go_roundw;case rel=>exact⟨j+1,by omega,by rw[show(jj:Int)-1=7-((j+1:Nat):Int)from by have:=HEK.out;omega],by rw[HND.out,HS.out],hL⟩
       case measure=>simp[intOf]
      ·obtain rfl:j=8:=by omega
       rw[HX8.out]at hL;rw[show(7:Int)-((8:Nat):Int)= -1 from rfl];generalize n/2^(8*8)=nd at *
       go_wp2_with (first|(refine gN 35 ?_;refine aA ?_;clear hL;intro g35 cap35 cur35 w1 hr35 hL)|(refine aQp ?_;clear hL;intro _ w1 hL));go_roundw;case rel=>exact⟨k+1,by omega,by go_num,.inr ⟨.inr (by omega),g35,cap35,cur35,by rw[show b.length+8*(k+1)=m+8 from by have:=HM.out;omega],by rw[show b.length+8*(k+1)=m+8 from by have:=HM.out;omega,HT.out,← List.append_assoc,HPRE.out];exact hr35,(Loc.rem b8 hL)⟩⟩
       case measure=>simp[intOf];omega
   ·obtain rfl:k=l.length:=by omega
    rcases hcase with⟨hz,_,_,_⟩|⟨hpos,g,cap,cur,rfl,hr,hL⟩
    ·omega
    ·have ht:l.take l.length=l:=List.take_length
     rw[ht]at hr;have hlen:b.length+8*l.length=(b++aX l).length:=by rw[List.length_append,bg]
     rw[hlen]at hr ⊢;clear HW HR HPL ht hlen;go_wp2_with (first|(refine aQp ?_;clear hL;intro _ w1 hL));go_ret;exact hL.back rfl
instance Oc:Ent 73:=eo func73
theorem gZ(n:Int):dq [n]=[.int .i64 n]:=rfl
theorem uQ(w:World):BRow w (.slice none 0 0) []:=⟨none,0,rfl,fun _=>rfl,fun h=>absurd h (by simp)⟩
theorem pd(n:Int)(w:World)(h: -9223372036854775808≤n∧n≤9223372036854775807):Calls prog 30 #[.int .i64 n] w fun e w'=>Fresh w (aR n) e w':=by
 have hL:=Loc.nil w;have HI:=Hd (fun w1 (v:Value) (hv:VRow w1 v (dq [n]))=>iK (.slice none 0 0) [] v [n] w1 (uQ w1) (fun _=>rfl) (by simp) hv (by simp) (by simp) (fun x hx=>by rw[List.mem_singleton.1 hx];exact h));rw[show[]++aX [n]=aR n from by unfold aX;simp,gZ]at HI;go_enter func30,ntmps30;go_wp2_with (first|(refine gN 4 ?_;refine aL ?_;clear hL;intro b4 w1 hL)|(go_at_call 73;go_loud (refine(HI.out _ _ (See.see _ hL)).mono ?_);rintro e w1⟨g5,cap5,cur5,rfl,hr5,hg5,hc5,hb5⟩;have hL1:=hL.fresh hb5 hg5 hc5;clear hb5 hg5 hc5;clear hL;have hL:=hL1;clear hL1;refine p4 ?_)|(refine aQp ?_;clear hL;intro _ w1 hL));go_ret;exact hL.back rfl
instance Od:Ent 30:=eo func30
section
variable {ops:Array Oper} {rest:List Oper} {o:Oper} {a:Act} {w0 w:World} {M M':Mem} {Q:Exit→Act→World→Prop}
theorem Do:OwnR #[] 0 0 []:=⟨rfl,fun u hu=>(List.not_mem_nil hu).elim,rfl,Nat.le_refl _,by decide,rfl⟩
instance KT:OwnR #[] 0 0 (an []):=Do
theorem J9(hL:Loc w0 w M)(hg:o.guard=none){t e:TypeId}(ho:o.op= .buildSlice t 0 #[])[he:Elt t e](h:∀b w',Loc w0 w' ((b, #[],e)::M)→wpList prog ops Q rest (a.put o.dst (.slice (some ⟨b,0,none⟩) 0 0)) w'):wpList prog ops Q (o::rest) a w :=
 wpList_plain hg fun K hK=>by
  obtain⟨i,z,hi,hz,hs1,hb,hzs⟩:=he.info;have hrun:(Instr.buildSlice t 0 #[]).run prog w= .ok (.slice (some ⟨w.heap.size,0,none⟩) 0 0) (w.alloc (.cells #[] e)):=by
   have e0:Array.range 0= #[]:=rfl;simp[Instr.buildSlice,run_underlying he.und,sizeOf,typeInfo,hi,Instr.fill,newRow,e0]
  unfold Oper.wp execOp;simp only[ho,Sem.run_bind,List.map_toArray,List.map_nil,hrun,Result.andThen_ok,Sem.run_pure];exact hK _ _ (h _ _ (hL.alloc #[] e))
end
theorem FF(w:World):(binOp .eql 29 (.slice none 0 0) (.slice none 0 0)).run prog w= .ok (.bool true) w:=by kernel_rfl
theorem Dp(a:Addr)(n c:Nat)(w:World):(binOp .eql 29 (.slice (some a) n c) (.slice none 0 0)).run prog w= .ok (.bool false) w:=by kernel_rfl
theorem d9(v:Value)(b:List (BitVec 8))(w:World)(hb:BRow w v b)(h0:0<b.length)(h1:b.length≤1000000):Calls prog 94 #[v] w fun e w'=>Fresh w b e w':=by
 have hL:=Loc.nil w;haveI hA:Arg w v (an b):=⟨hb.vrow⟩;obtain⟨a,c,rfl,hn,hp⟩:=hb;obtain⟨bb,off,rfl,_,_⟩:=hp h0;clear hn hp;have he:=Dp;go_enter func94,ntmps94;go_wp2_with (first|((with_reducible show wpList _ _ _ (⟨some 5,.buildSlice _ _ _,_,_,_,_⟩::_) _ _);(refine J9 hL rfl rfl fun b5 w1 hL1=>?_);clear hL;have hL:=hL1;clear hL1)|(refine gN 7 ?_;refine aA ?_;clear hL;intro g7 cap7 cur7 w1 hr7 hL)|(refine aQp ?_;clear hL;intro _ w1 hL));rw[Nat.zero_add,List.nil_append]at hr7;go_ret;exact hL.back (g:=g7) (cap:=cap7) (by simp)
instance Oe:Ent 94:=eo func94
theorem jV(w:World):Calls prog 94 #[.slice none 0 0] w fun e w'=>e= .returned (.slice none 0 0)∧w=w':=by
 have he:=FF;go_enter func94,ntmps94;go_wp2;go_ret;exact⟨rfl,rfl⟩
end
section
open Go Go.RowKit
theorem LM(n:Int){j:Nat}(h:j<8):IntKind.u8.wrap (IntKind.u64.wrap n/2^(8*(7-j)))=B8 (p8 n j):=by
 rw[uP,IntKind.wrap_u8,IntKind.wrap_u64];have hj:j=0∨j=1∨j=2∨j=3∨j=4∨j=5∨j=6∨j=7:=by omega
 rcases hj with rfl|rfl|rfl|rfl|rfl|rfl|rfl|rfl <;> simp only[Nat.reduceSub,Nat.reduceMul,Int.reducePow] <;> omega
theorem xB(n:Int){j:Nat}(h:j<8):(aR n).take (j+1)=(aR n).take j++[p8 n j]:=by
 rw[List.take_succ_eq_append_getElem (by rw[aO];exact h)];simp[aR,ae]
theorem cB(vb:Value)(b:List (BitVec 8))(vl:Value)(l:List Int)(w:World)(hb:BRow w vb b)(hb0:0<b.length)(hb1:b.length≤100000)(hl:VRow w vl (dq l))(hl1:l.length≤10000) :
 Calls prog 202 #[vb,vl] w fun e w'=>Fresh w (b++aX l) e w':=by
 have hL:=Loc.nil w;have HC:=Hd (d9 vb b w hb hb0 (by omega));obtain⟨_,al,cl,rfl,_,hcl⟩:=hl;rw[cP];have HW:=Hd (fun(k:Nat) (h:k<l.length)=>show ∃bl ol,al=some ⟨bl,ol,none⟩∧Was w bl (ol+k) (.int .i64 l[k])from by
  obtain⟨bl,ol,e,hbl,hcell⟩:=hcl (by rw[cP];omega);exact⟨bl,ol,e,by rw[hcell k (by rwa[cP])];simp[dq],hbl⟩)
 clear hcl hb;go_enter func202,ntmps202;go_wp2_with (first|(go_at_call 94;go_loud (refine(HC.out).mono ?_);rintro e w1⟨g11,cap11,cur11,rfl,hr11,hg11,hc11,hb11⟩;have hL1:=hL.fresh hb11 hg11 hc11;clear hb11 hg11 hc11;clear hL;have hL:=hL1;clear hL1;refine p4 ?_)|(refine aQp ?_;clear hL;intro _ w1 hL));go_loopw [5,14] (fun v kk wr=>∃(k g cap:Nat) (cur:Array Value),k≤l.length∧kk= .int .i64 k∧v= .slice (some ⟨g,0,none⟩) (b.length+8*k) cap∧OwnR cur (b.length+8*k) cap (an (b++aX (l.take k)))∧Loc w wr [(g,cur,5)]) (fun _ kk _=>l.length-(intOf kk).toNat);case atStart=>exact⟨0,g11,cap11,cur11,by omega,rfl,rfl,by simpa[aX] using hr11,hL⟩
 case round =>
  clear hL;obtain⟨k,g,cap,cur,hk,rfl,rfl,hr,hL⟩:=hrel;by_cases hlt:k<l.length
  ·have hk0:(0:Int)≤(k:Int):=by omega
   have hk1:(k:Int)<(l.length:Int):=by omega
   obtain⟨bl,ol,e,g1⟩:=HW.out k hlt;rw[e];have HT:=Hd (jA l hlt);generalize l[k]=n at *
   generalize hpre:b++aX (l.take k)=pre at *
   have HPRE:=Hd hpre;clear hpre;generalize hm:b.length+8*k=m at *
   have HM:=Hd hm;have hm1:m≤1000000:=by omega
   clear hm e;have HP8:=Hd (fun j (h:j<8)=>LM n h);have HPT:=Hd (fun j (h:j<8)=>xB n h);have HP0:=Hd (show(aR n).take 0=[]from rfl);have HPF:=Hd (show(aR n).take 8=aR n from List.take_of_length_le (by rw[aO];exact Nat.le_refl _));go_wp2_with (first|(refine aQp ?_;clear hL;intro _ w1 hL));generalize IntKind.u64.wrap n=u at *
   go_loopw [5,9] (fun v kk wr=>∃(j g cap:Nat) (cur:Array Value),j≤8∧kk= .int .i64 (7-(j:Int))∧v= .slice (some ⟨g,0,none⟩) (m+j) cap∧OwnR cur (m+j) cap (an (pre++(aR n).take j))∧Loc w wr [(g,cur,5)]) (fun _ kk _=>(intOf kk+1).toNat);case atStart=>exact⟨0,g,cap,cur,by omega,rfl,rfl,by rw[HP0.out,List.append_nil];exact hr,hL⟩
   case round =>
    clear hL hr;obtain⟨j,g,cap,cur,hj,rfl,rfl,hr,hL⟩:=hrel;by_cases hj8:j<8
    ·have e8:=HP8.out j hj8
     rw[IntKind.wrap_u8]at e8;have ht:=HPT.out j hj8;have HT2:=Hd ht;clear ht;have k0:(0:Int)≤7-(j:Int):=by omega
     have k1:7-(j:Int)≤7:=by omega
     have hm2:m+j≤2000000:=by omega
     have k2:¬8*(7-(j:Int))<0:=by omega
     have k3:8*(7-(j:Int))<64:=by omega
     have e9:(8*(7-(j:Int))).toNat=8*(7-j):=by omega
     generalize hs:p8 n j=bb at *
     generalize hq:(aR n).take j=pj,hq':(aR n).take (j+1)=pj',hm':m+j=mj at *
     have HM2:=Hd hm';have HQ:=Hd hq';clear hq hq' hm' hs;generalize hk':7-(j:Int)=kk at *
     have HK:=Hd hk';clear hk';generalize 8*(7-j)=sh at *
     go_wp2_with (first|((with_reducible show wpList _ _ _ (⟨some 30,.buildSlice _ _ _,_,_,_,_⟩::_) _ _);rw[e8];(refine Gn hL rfl rfl rfl fun b30 w1 hL1=>?_);clear hL;have hL:=hL1;clear hL1)|(refine gN 31 ?_;refine aA ?_;clear hL;intro g31 cap31 cur31 w1 hr31 hL)|(refine aQp ?_;clear hL;intro _ w1 hL));go_roundw;case rel=>exact⟨j+1,g31,cap31,cur31,by omega,by rw[show kk-1=7-((j+1:Nat):Int)from by have:=HK.out;omega],by rw[← HM2.out];rfl,by rw[← HM2.out]at hr31;rw[HQ.out,HT2.out,← List.append_assoc];exact hr31,Loc.rem b30 hL⟩
     case measure=>simp[intOf];omega
    ·obtain rfl:j=8:=by omega
     rw[show(7:Int)-((8:Nat):Int)= -1 from rfl];rw[HPF.out,← HPRE.out,List.append_assoc,← HT.out]at hr;rw[← HM.out,show b.length+8*k+8=b.length+8*(k+1)from by omega]at hr ⊢;go_wp2_with (first|(refine aQp ?_;clear hL;intro _ w1 hL));go_roundw;case rel=>exact⟨k+1,g,cap,cur,by omega,by go_num,rfl,hr,hL⟩
     case measure=>simp[intOf];omega
  ·obtain rfl:k=l.length:=by omega
   have ht:l.take l.length=l:=List.take_length;rw[ht]at hr;have hlen:b.length+8*l.length=(b++aX l).length:=by rw[List.length_append,bg]
   rw[hlen]at hr ⊢;clear HW ht hlen;go_wp2_with (first|(refine aQp ?_;clear hL;intro _ w1 hL));go_ret;exact hL.back rfl
instance Se:Ent 202:=eo func202
end
section
open Go Go.RowKit Go.Shelf
class One(v:Value):Prop where
 one:v.oneCell'=true
instance Of(d:IntKind)(n:Int):One (.int d n):=⟨rfl⟩
instance Og(p:Option Addr)(n c:Nat):One (.slice p n c):=⟨rfl⟩
instance Oh(b:Bool):One (.bool b):=⟨rfl⟩
class CellL(l:List Value)(k:Nat)(v:outParam Value):Prop where
 cell:l[k]?=some v
instance Oi(a:Value)(l:List Value):CellL (a::l) 0 a:=⟨rfl⟩
instance Oj(a:Value)(l:List Value)(k:Nat)(v:Value)[h:CellL l k v]:CellL (a::l) (k+1) v:=⟨by simpa using h.cell⟩
instance Ol(l:List Value)(k:Nat)(v:Value)[h:CellL l k v]:Cell l.toArray k v:=⟨by simpa using h.cell⟩
class PutL(l:List Value)(k:Nat)(v:Value)(l':outParam (List Value)):Prop where
 put:l.set k v=l'
 lt:k<l.length
instance Om(a v:Value)(l:List Value):PutL (a::l) 0 v (v::l):=⟨rfl,by simp⟩
instance Oo(a v:Value)(l l':List Value)(k:Nat)[h:PutL l k v l']:PutL (a::l) (k+1) v (a::l'):=⟨by simp[h.put],by have:=h.lt;simp;omega⟩
instance LN(l l':List Value)(k:Nat)(v:Value)[h:PutL l k v l']:Put l.toArray k v l'.toArray:=⟨by simp[h.put],by simpa using h.lt⟩
class RowL(l:List Value)(n:outParam Nat):Prop where
 len:l.length=n
 one:∀u∈l,u.oneCell'=true
instance LO:RowL [] 0:=⟨rfl,fun u hu=>(List.not_mem_nil hu).elim⟩
instance LP(a:Value)(l:List Value)(n:Nat)[ha:One a][h:RowL l n]:RowL (a::l) (n+1):=⟨by simp[h.len],fun u hu=>by
 rcases List.mem_cons.1 hu with rfl|hu
 ·exact ha.one
 ·exact h.one u hu⟩
theorem FG{l:List Value}{n:Nat}[h:RowL l n]:Row1 l.toArray n:=⟨by simpa using h.len,by simpa using h.one⟩
instance LQ(a:Value)(l:List Value)(n:Nat)[h:RowL (a::l) n]:Row1 (a::l).toArray n:=FG
instance LR:ScTy 4:=⟨fun w=>by kernel_rfl,by kernel_rfl⟩
instance LS:ScTy 29:=⟨fun w=>by kernel_rfl,by kernel_rfl⟩
instance LU:ScTy 53:=⟨fun w=>by kernel_rfl,by kernel_rfl⟩
section
variable {ops:Array Oper} {rest:List Oper} {o:Oper} {a:Act} {w0 w:World} {M M':Mem} {Q:Exit→Act→World→Prop}
theorem lTg(hL:Loc w0 w M)(hg:o.guard=none){t:TypeId}{x y:Operand}(ho:o.op= .store t x y)(hd:o.dst=none){b k:Nat}(hx:a.eval x= .pointer (some ⟨b,k,none⟩)){v:Value}(hy:a.eval y=v)(h1:v.oneCell'=true){r s:Array Value}{u:TypeId}[ht:ScTy t][hm:At M b r u][hp:Put r k v s][hu:Ups M b s M'](h:∀w',Loc w0 w' M'→wpList prog ops Q rest a w'):wpList prog ops Q (o::rest) a w :=
 wpList_plain hg fun K hK=>by
  unfold Oper.wp execOp;have hs:=ip (t:=t) (w:=w) (b:=b) (k:=k) (v:=v) (by rw[cell_of_row w b k _ _ _ (hL.get hm.mem),Array.getElem?_eq_getElem hp.lt];rfl) (frozen_of_row w _ _ _ _ (hL.get hm.mem)) h1;simp only[ho,hx,hy,Instr.storeAt,Instr.sureAddr,Sem.run_bind,Sem.run_pure,Result.andThen_ok,hs];have:=h _ (hL.put v hm.mem (by rw[hp.put];exact hu.upd));refine hK _ _ ?_;rw[hd];exact this
theorem lTs(hL:Loc w0 w M)(hg:o.guard=none){t:TypeId}{x y:Operand}(ho:o.op= .store t x y)(hd:o.dst=none){b k:Nat}(hx:a.eval x= .pointer (some ⟨b,k,none⟩)){p:Option Addr}{n c:Nat}(hy:a.eval y= .slice p n c){r s:Array Value}{u:TypeId}[ht:ScTy t][hm:At M b r u][hp:Put r k (.slice p n c) s][hu:Ups M b s M'](h:∀w',Loc w0 w' M'→wpList prog ops Q rest a w'):wpList prog ops Q (o::rest) a w:=lTg hL hg ho hd hx hy rfl h
theorem lTb(hL:Loc w0 w M)(hg:o.guard=none){t:TypeId}{x y:Operand}(ho:o.op= .store t x y)(hd:o.dst=none){b k:Nat}(hx:a.eval x= .pointer (some ⟨b,k,none⟩)){d:Bool}(hy:a.eval y= .bool d){r s:Array Value}{u:TypeId}[ht:ScTy t][hm:At M b r u][hp:Put r k (.bool d) s][hu:Ups M b s M'](h:∀w',Loc w0 w' M'→wpList prog ops Q rest a w'):wpList prog ops Q (o::rest) a w:=lTg hL hg ho hd hx hy rfl h
theorem lTp(hL:Loc w0 w M)(hg:o.guard=none){t:TypeId}{x y:Operand}(ho:o.op= .store t x y)(hd:o.dst=none){b k:Nat}(hx:a.eval x= .pointer (some ⟨b,k,none⟩)){p:Option Addr}(hy:a.eval y= .pointer p){r s:Array Value}{u:TypeId}[ht:ScTy t][hm:At M b r u][hp:Put r k (.pointer p) s][hu:Ups M b s M'](h:∀w',Loc w0 w' M'→wpList prog ops Q rest a w'):wpList prog ops Q (o::rest) a w:=lTg hL hg ho hd hx hy rfl h
end
section
variable {ops:Array Oper} {rest:List Oper} {o:Oper} {a:Act} {w0 w:World} {M M':Mem} {Q:Exit→Act→World→Prop}
theorem lq(hg:o.guard=none){f:FuncId}{xs:Array Operand}{ts:Array TypeId}(ho:o.op= .call { callee:= .value (.func f),args:=xs,argTypes:=ts })[he:Ent f]{l:List Value}(hc:Calls prog f l.toArray w fun e w'=>∃v,e= .returned v∧wpList prog ops Q rest (a.put o.dst v) w')(hx:xs.toList.map a.eval=l):wpList prog ops Q (o::rest) a w :=
 wpList_plain hg fun K hK=>by
  unfold Oper.wp;have e:xs.map a.eval=l.toArray:=by rw[← Array.toList_inj,Array.toList_map];exact hx
  rw[ky ho rfl w,e,Oper.upon_enter];refine hc.mono fun e w' hh=>?_;obtain⟨v,rfl,h⟩:=hh;exact hK _ _ h
end
theorem Loc.join{w0 w w':World}{M N:Mem}(h:Loc w0 w M)(hN:Loc w w' N):Loc w0 w' (N++M):=by
 refine⟨h.bel.trans (hN.bel.mono h.bel.size),fun b r t hm=>?_,?_⟩
 ·rcases List.mem_append.1 hm with hm|hm
  ·exact⟨Nat.le_trans h.bel.size (hN.ge hm),hN.get hm⟩
  ·exact⟨h.ge hm,(hN.bel.block b (h.lt hm)).trans (h.get hm)⟩
 ·rw[List.map_append,List.pairwise_append]
  refine⟨hN.nd,h.nd,fun x hx y hy=>?_⟩;obtain⟨⟨b,r,t⟩,hb,rfl⟩:=List.mem_map.1 hx;obtain⟨⟨c,s,u⟩,hc,rfl⟩:=List.mem_map.1 hy;have:=hN.ge hb;have:=h.lt hc;simp only;omega
theorem Seg.drop{r:Array Value}{off n:Nat}{l:List (BitVec 8)}(h:Seg r off n (an l))(m:Nat)(hm:m≤n):Seg r (off+m) (n-m) (an (l.drop m)) where
 len:=by have:=h.len;rw[aq]at *; rw[List.length_drop,this]
 one:=bY _
 seg:=fun i hi=>by
  rw[aq,List.length_drop]at hi;have:=h.seg (m+i) (by rw[aq];omega);rw[Nat.add_assoc,this];simp[an]
theorem Seg.take{r:Array Value}{off n:Nat}{l:List (BitVec 8)}(h:Seg r off n (an l))(m:Nat)(hm:m≤n):Seg r off m (an (l.take m)) where
 len:=by have:=h.len;rw[aq]at *; rw[List.length_take,this];omega
 one:=bY _
 seg:=fun i hi=>by
  rw[aq,List.length_take]at hi;have:=h.seg i (by rw[aq];omega);rw[this];simp[an]
theorem OwnR.segB{cur:Array Value}{n cap:Nat}{l:List (BitVec 8)}(h:OwnR cur n cap (an l)):Seg cur 0 n (an l):=by
 have:=h.seg 0 n (by omega);have hl:=h.1;rw[List.drop_zero,List.take_of_length_le (by omega)]at this;exact this
def sY(rest:Code)(l:Nat)(Q:Exit→Act→World→Prop)(a:Act)(w:World):Prop:=rest.wp prog (Exit.jump l (fun _ _=>False) Q) a w
theorem eX{c rest:Code}{Q:Exit→Act→World→Prop}{a:Act}{w:World}(l:Nat)(hf:findLabel c l=some (Code.skip.seq rest))(h:c.wp prog (Exit.jump l (sY rest l Q) Q) a w):(Code.scope c).wp prog Q a w :=
 gF l (sY rest l Q) (fun _ _=>0) hf (fun a w hJ=>Code.wp_mono (fun e a w q=>by
  cases e with
  | goto l'=>exact q.2.elim
  | normal=>exact q
  | exit id=>exact q
  | ret=>exact q
  | panic ch=>exact q
  | outgrown=>exact q) hJ) (fun _=>h)
class Held(S:World→Prop)(b:Nat)(r:outParam (Array Value))(u:outParam TypeId):Prop where
 get:∀w,S w→w.heap[b]?=some (.cells r u (0,0))
instance Oq(w0:World)(M:Mem)(b:Nat)(r:Array Value)(u:TypeId)[h:At M b r u]:Held (fun w=>Loc w0 w M) b r u:=⟨fun w hS=>hS.get h.mem⟩
instance Ot(w0:World)(M:Array Value→Mem)(b:Nat)(r:Array Value)(u:TypeId)[h:∀x,At (M x) b r u]:Held (fun w=>∃x,Loc w0 w (M x)) b r u:=⟨fun w ⟨x,hS⟩=>hS.get (h x).mem⟩
section
variable {ops:Array Oper} {o:Oper} {a:Act} {w0 w:World} {M M' M1:Mem} {S:World→Prop} {Q:Exit→Act→World→Prop} {K:Act→World→Prop}
theorem zL(hw:Region.wanted o (yielded ops a.tmps)=true){t:TypeId}{x:Operand}(ho:o.op= .load t x){b k:Nat}(hx:a.eval x= .pointer (some ⟨b,k,none⟩)){r s:Array Value}{u:TypeId}{n:Nat}[ht:RowTy t n][hm:Held S b r u][hp:Part r u k t s][hr:Row1 s n] :
 YieldsIf prog ops S o (.agg s) a:=by
 obtain⟨d,h1,h2⟩:=ht.und;have:=yieldsIf_load_mid (P:=prog) (ops:=ops) (S:=S) (op:=o) (a:=a) hw t x ho b k hx s.toList d (fun w h=>eh (hm.get w h) fun j v hv=>hp.part j v hv) h1 h2 (by rw[ht.size,Array.length_toList,hr.size]);simpa only[Array.toArray_toList] using this
theorem zI(hw:Region.wanted o (yielded ops a.tmps)=true){t:TypeId}{x:Operand}(ho:o.op= .load t x){b k:Nat}(hx:a.eval x= .pointer (some ⟨b,k,none⟩)){r:Array Value}{u:TypeId}{v:Value}[ht:ScTy t][hm:Held S b r u][hc:Cell r k v] :
 YieldsIf prog ops S o v a:= .inl ⟨hw,fun w hS=>by
 unfold execOp;have:=cO (t:=t) (w:=w) (b:=b) (k:=k) (v:=v) (by rw[cell_of_row w b k _ _ _ (hm.get w hS)];exact hc.cell);simp only[ho,hx,Instr.loadAt,Instr.sureAddr,Sem.run_bind,Sem.run_pure,Result.andThen_ok,this]⟩
theorem zU(hw:Region.wanted o (yielded ops a.tmps)=true){t:TypeId}{ps:Array (Nat×Operand)}(ho:o.op= .build t ps){vs:Array (Nat×Value)}{r:Array Value}(hb:∀w,(Instr.build t vs).run prog w= .ok (.agg r) w)(hv:(ps.toList.map fun x=>(x.1,a.eval x.2))=vs.toList) :
 YieldsIf prog ops S o (.agg r) a:= .inl ⟨hw,fun w _=>by
 have hv:(ps.map fun x=>(x.1,a.eval x.2))=vs:=by rw[← Array.toList_inj,Array.toList_map];exact hv
 subst hv;unfold execOp;simp only[ho,Sem.run_bind,hb,Result.andThen_ok,Sem.run_pure]⟩
theorem eB(hL:Loc w0 w M){t:TypeId}{x:Operand}(ho:o.op= .box t x){r:Array Value}(hx:a.eval x= .agg r)(h:∀b w',Loc w0 w' ((b,r,t)::M)→K (a.put o.dst (.pointer (some ⟨b,0,none⟩))) w'):o.wp prog a w K Q:=by
 unfold Oper.wp execOp;simp only[ho,hx,Sem.run_bind,Instr.box,newVar,newRow,run_newObj_alloc,Sem.run_pure,Result.andThen_ok];exact h _ _ (hL.alloc r t)
theorem eTg(hL:Loc w0 w M){t:TypeId}{x y:Operand}(ho:o.op= .store t x y){b k:Nat}(hx:a.eval x= .pointer (some ⟨b,k,none⟩)){v:Value}(hy:a.eval y=v)(h1:v.oneCell'=true){r s:Array Value}{u:TypeId}[ht:ScTy t][hm:At M b r u][hp:Put r k v s][hu:Ups M b s M'](h:∀w',Loc w0 w' M'→K (a.put o.dst undef) w'):o.wp prog a w K Q:=by
 have hs:=ip (t:=t) (w:=w) (b:=b) (k:=k) (v:=v) (by rw[cell_of_row w b k _ _ _ (hL.get hm.mem),Array.getElem?_eq_getElem hp.lt];rfl) (frozen_of_row w _ _ _ _ (hL.get hm.mem)) h1;unfold Oper.wp execOp;simp only[ho,hx,hy,Instr.storeAt,Instr.sureAddr,Sem.run_bind,Sem.run_pure,Result.andThen_ok,hs];exact h _ (hL.put v hm.mem (by rw[hp.put];exact hu.upd))
theorem eT(hL:Loc w0 w M){t:TypeId}{x y:Operand}(ho:o.op= .store t x y){b k:Nat}(hx:a.eval x= .pointer (some ⟨b,k,none⟩)){d:IntKind}{n:Int}(hy:a.eval y= .int d n){r s:Array Value}{u:TypeId}[ht:ScTy t][hm:At M b r u][hp:Put r k (.int d n) s][hu:Ups M b s M'](h:∀w',Loc w0 w' M'→K (a.put o.dst undef) w'):o.wp prog a w K Q:=eTg hL ho hx hy rfl h
theorem eTs(hL:Loc w0 w M){t:TypeId}{x y:Operand}(ho:o.op= .store t x y){b k:Nat}(hx:a.eval x= .pointer (some ⟨b,k,none⟩)){p:Option Addr}{n c:Nat}(hy:a.eval y= .slice p n c){r s:Array Value}{u:TypeId}[ht:ScTy t][hm:At M b r u][hp:Put r k (.slice p n c) s][hu:Ups M b s M'](h:∀w',Loc w0 w' M'→K (a.put o.dst undef) w'):o.wp prog a w K Q:=eTg hL ho hx hy rfl h
theorem eTb(hL:Loc w0 w M){t:TypeId}{x y:Operand}(ho:o.op= .store t x y){b k:Nat}(hx:a.eval x= .pointer (some ⟨b,k,none⟩)){d:Bool}(hy:a.eval y= .bool d){r s:Array Value}{u:TypeId}[ht:ScTy t][hm:At M b r u][hp:Put r k (.bool d) s][hu:Ups M b s M'](h:∀w',Loc w0 w' M'→K (a.put o.dst undef) w'):o.wp prog a w K Q:=eTg hL ho hx hy rfl h
theorem eTp(hL:Loc w0 w M){t:TypeId}{x y:Operand}(ho:o.op= .store t x y){b k:Nat}(hx:a.eval x= .pointer (some ⟨b,k,none⟩)){p:Option Addr}(hy:a.eval y= .pointer p){r s:Array Value}{u:TypeId}[ht:ScTy t][hm:At M b r u][hp:Put r k (.pointer p) s][hu:Ups M b s M'](h:∀w',Loc w0 w' M'→K (a.put o.dst undef) w'):o.wp prog a w K Q:=eTg hL ho hx hy rfl h
theorem zm(hL:Loc w0 w M){rest:List Oper}(hg:o.guard=none){t e:TypeId}{x y:Operand}(ho:o.op= .buildSlice t 2 #[(0,x),(1,y)])[he:Elt t e]{d d':IntKind}{n n':Int}(hx:a.eval x= .int d n)(hy:a.eval y= .int d' n')(h:∀b w',Loc w0 w' ((b, #[.int d n,.int d' n'],e)::M)→wpList prog ops Q rest (a.put o.dst (.slice (some ⟨b,0,none⟩) 2 2)) w'):wpList prog ops Q (o::rest) a w:=Jq hL hg ho hx hy rfl rfl h
theorem Ka(hL:Loc w0 w M){t e:TypeId}{x y:Operand}(ho:o.op= .buildSlice t 2 #[(0,x),(1,y)])[he:Elt t e]{d d':IntKind}{n n':Int}(hx:a.eval x= .int d n)(hy:a.eval y= .int d' n')(h:∀b w',Loc w0 w' ((b, #[.int d n,.int d' n'],e)::M)→K (a.put o.dst (.slice (some ⟨b,0,none⟩) 2 2)) w'):o.wp prog a w K Q:=by
 obtain⟨i,z,hi,hz,hs1,hb,hzs⟩:=he.info;refine wp_buildSlice t e 2 #[(0,x),(1,y)] ho #[.int d n,.int d' n'] i z he.und hi hz (by rw[hs1];decide) (by rw[hs1];decide) ?_ (h _ _ (hL.alloc #[.int d n,.int d' n'] e));rw[hs1];have e:(Array.map (fun(y:Nat×Operand)=>(y.1,a.eval y.2)) #[(0,x),(1,y)]).toList=[(0,Value.int d n),(1,Value.int d' n')]:=by simp[hx,hy]
 rw[e];have e1:Array.range 2= #[0,1]:=rfl;simp[Instr.fill,Value.cells,e1]
end
end
section
open Go Go.RowKit Go.Shelf
def pkF(key:List (BitVec 8))(x:BitVec 8):Nat→BitVec 8:=fun i=>key.getD i 0^^^x
def pe(key:List (BitVec 8))(x:BitVec 8):List (BitVec 8):=ae 64 (pkF key x)
def gt(key m:List (BitVec 8)):Nat→BitVec 8:=sha (pe key 92++ae 32 (sha (pe key 54++m)))
def ia(key:List (BitVec 8))(x:BitVec 8)(k:Nat):Nat→BitVec 8:=fun i=>if i<k then key.getD i 0^^^x else key.getD i 0
theorem xC(l:List (BitVec 8)):ae l.length (fun i=>l.getD i 0)=l:=by
 unfold ae;apply List.ext_getElem
 ·simp
 ·intro i h1 h2
  simp[h2]
theorem sZ(key:List (BitVec 8))(x:BitVec 8)(h:key.length≤64):Spl (aa 64 fun _=>0) 0 (an key) (aa 64 (ia key x 0)):=by
 have:=mH (n:=64) (off:=0) (m:=key.length) (fun _=>0) (fun i=>key.getD i 0) (ia key x 0) (by omega) fun i hi=>by
  unfold ia;rw[if_neg (by omega:¬i<0)];split
  ·rfl
  ·rw[List.getD_eq_getElem?_getD,List.getElem?_eq_none (by omega)];rfl
 rwa[xC]at this
theorem ta(key:List (BitVec 8))(x:BitVec 8){k:Nat}(h:k<64):Put (aa 64 (ia key x k)) k (.int .u8 (B8 (key.getD k 0^^^x))) (aa 64 (ia key x (k+1))):=a9 h (ak fun i hi=>by
 unfold upd ia;by_cases e:i=k
 ·subst e;rw[if_pos rfl,if_pos (by omega)]
 ·rw[if_neg e]
  show Value.int .u8 (B8 (if i<k then key.getD i 0^^^x else key.getD i 0))=_;by_cases h:i<k
  ·rw[if_pos h,if_pos (by omega)]
  ·rw[if_neg h,if_neg (by omega)])
theorem pf(key:List (BitVec 8))(x:BitVec 8){k:Nat}(h:k<64):Cell (aa 64 (ia key x k)) k (.int .u8 (B8 (key.getD k 0))):=⟨by
 rw[show(aa 64 (ia key x k))[k]?=some (.int .u8 (B8 (ia key x k k)))from bI _ h];unfold ia;rw[if_neg (by omega)]⟩
theorem pg(key:List (BitVec 8))(x:BitVec 8):(aa 64 (ia key x 64))=aa 64 (pkF key x):=eO fun i hi=>by
 unfold ia;rw[if_pos hi];rfl
theorem Dq(f:Nat→BitVec 8):OwnR (aa 64 f) 64 64 (an (ae 64 f)):=⟨by rw[aq,ag],bY _,aj ..,Nat.le_refl _,by decide,by
 rw[List.take_of_length_le (by simp[aj])];unfold an ae aa row;simp[List.map_map,Function.comp_def]⟩
theorem H9(p:Option Addr)(n c:Nat):OwnR #[.slice p n c] 1 1 [.slice p n c]:=⟨rfl,fun u hu=>by obtain rfl:=List.mem_singleton.1 hu;rfl,rfl,Nat.le_refl _,by decide,rfl⟩
theorem xD{w:World}{v u:Value}{us:List Value}{m:List (BitVec 8)}{ms:List (List (BitVec 8))}(h:VRow w v (u::us))(h0:BRow w u m)(hl:us.length=ms.length)(hb:∀(i:Nat) (h1:i<us.length) (h2:i<ms.length),BRow w us[i] ms[i]):BRows w v (m::ms) :=
 uO h (by simp[hl]) fun i h1 h2=>by
  cases i with
  | zero=>exact h0
  | succ i=>exact hb i (by simpa using h1) (by simpa using h2)
section
variable {ops:Array Oper} {rest:List Oper} {o:Oper} {a:Act} {w0 w:World} {M M':Mem} {Q:Exit→Act→World→Prop}
theorem mL(hL:Loc w0 w M)(hg:o.guard=none){x y:Operand}(ho:o.op= .makeSlice 29 x y){n:Nat}(hx:a.eval x= .int .i64 (n:Int))(hy:a.eval y= .int .i64 (n:Int))(hn:n≤1000000000)(h:∀g w',Loc w0 w' ((g,aa n fun _=>0,5)::M)→wpList prog ops Q rest (a.put o.dst (.slice (some ⟨g,0,none⟩) n n)) w'):wpList prog ops Q (o::rest) a w :=
 wpList_plain hg fun _ hK=>by
  unfold Oper.wp execOp;simp only[ho,hx,hy,Sem.run_bind,Di n hn,Result.andThen_ok,Sem.run_pure];exact hK _ _ (h _ _ (hL.alloc _ _))
end
theorem qu(key:List (BitVec 8))(x:BitVec 8)(A:Option Addr)(c:Nat)(w:World)(hv:BRow w (.slice A key.length c) key)(hk:0<key.length∧key.length≤64) :
 Calls prog 269 #[.slice A key.length c,.int .u8 (B8 x)] w fun e w'=>∃g,e= .returned (.slice (some ⟨g,0,none⟩) 64 64)∧Loc w w' [(g,aa 64 (pkF key x),5)]:=by
 have hL:=Loc.nil w;haveI hA:Arg w (.slice A key.length c) (an key):=⟨hv.vrow⟩;haveI:=sZ key x hk.2;have hel:(an key).length=key.length:=aq key;obtain⟨h0,h1⟩:=hk;clear hv;go_enter func269,ntmps269;go_wp2_with (first|refine aU ?_|(refine gN 7 ?_;refine mL (n:=64) hL rfl rfl rfl rfl (by decide) fun g7 w1 hL1=>?_;clear hL;have hL:=hL1;clear hL1;refine p4 ?_)|(refine gN 10 ?_;(refine yP hL rfl rfl rfl rfl (by first|omega|(simp;omega)|simp) (by first|omega|(simp;omega)|simp) fun w1 hL1=>?_);clear hL;have hL:=hL1;clear hL1;refine p4 ?_)|(refine ah ?_;clear hL;intro w1 hL));go_loopw [13] (fun kk wr=>∃k:Nat,k≤64∧kk= .int .i64 k∧Loc w wr [(g7,aa 64 (ia key x k),5)]) (fun kk _=>64-(intOf kk).toNat);case atStart=>exact⟨0,by omega,rfl,hL⟩
 case round =>
  clear hL;obtain⟨k,hk,rfl,hL⟩:=hrel;by_cases hlt:k<64
  ·have k0:(0:Int)≤k:=by omega
   have k1:(k:Int)<64:=by omega
   obtain⟨r1,hr1⟩:∃r1,r1=aa 64 (ia key x (k+1)):=⟨_,rfl⟩;have q1:=ta key x hlt;rw[← hr1]at q1;haveI:=q1;haveI:=pf key x hlt;have HR1:=Hd hr1;clear hr1;have hx:=i4 (key.getD k 0) x;generalize key.getD k 0=y at *
   go_wp2_with (first|refine aU ?_|(refine ah ?_;clear hL;intro w1 hL));go_roundw;case rel=>exact⟨k+1,by omega,by go_num,by rw[← HR1.out];exact hL⟩
   case measure=>simp only[intOf];omega
  ·obtain rfl:k=64:=by omega
   rw[pg]at hL;go_wp2_with (first|refine aU ?_|(refine ah ?_;clear hL;intro w1 hL));go_ret;exact⟨g7,rfl,hL⟩
instance Ou:Ent 269:=eo func269
instance Ov:Ent 29:=eo func29
instance Ow:Ent 224:=eo func224
theorem tb(v vb:Value)(key:List (BitVec 8))(l:List (List (BitVec 8)))(w:World)(hv:BRow w v key)(hvb:BRows w vb l)(hk:0<key.length∧key.length≤64)(hl:l.length≤999000)(hm:l.flatten.length≤999999000) :
 Rt 242 #[v,vb] w (.agg (aa 32 (gt key l.flatten))):=by
 have hL:=Loc.nil w;obtain⟨A,c,rfl⟩:=hv.shape;obtain⟨vs,hvs,hle,hbs⟩:=sV hvb;obtain⟨B,d,rfl⟩:=hvb.shape;rw[← hle]at hvs;haveI hA:Arg w (.slice B vs.length d) vs:=⟨hvs⟩;have hq:¬(64:Int)<key.length:=by omega
 have HP:=Hd (fun w1 (hb1:Below w.heap.size w w1) x=>qu key x A c w1 (hv.below hb1) hk);have HS:=Hd (fun w1 u us (h:VRow w1 u (us::vs)) (h0:BRow w1 us (pe key 54)) (hb1:Below w.heap.size w w1)=>(show Rt 224 #[u] w1 (.agg (aa 32 (sha (pe key 54++l.flatten))))from sum_any u (pe key 54::l) w1 (xD h h0 hle fun i h1 h2=>(hbs i h1 h2).below hb1) (by simp;omega) (by rw[List.flatten_cons,List.length_append];simp only[pe,ag];omega)));have HT:=Hd (fun w1 u (h:BRows w1 u [pe key 92,ae 32 (sha (pe key 54++l.flatten))])=>(show Rt 224 #[u] w1 (.agg (aa 32 (gt key l.flatten)))from by
  have:=sum_any u _ w1 h (by simp) (by simp[pe,ag]);simp only[List.flatten_cons,List.flatten_nil,List.append_nil]at this;exact this))
 have hl9:vs.length≤999000:=by omega
 rw[← hle];clear hv hvb hk hl hm hvs hbs;generalize sha (pe key 54++l.flatten)=S,gt key l.flatten=T at *
 clear hle;go_enter func242,ntmps242;go_wp2_with (first|refine aU ?_|(refine gBp 4 ?_;clear hL;intro b4 w1 hL)|(refine gBp 6 ?_;clear hL;intro b6 w1 hL)|(refine gN 15 ?_;refine lKk (HP.out _ hL.bel 54) ?_;rintro e w1⟨g15,rfl,hN⟩;have hL1:=hL.join hN;clear hN hL;revert hL1;refine aH ?_;intro hL)|(refine gN 16 ?_;refine aL ?_;clear hL;intro b16 w1 hL)|(refine gN 18 ?_;haveI:=H9 (some ⟨g15,0,none⟩) 64 64;refine G0 hL rfl rfl rfl rfl (by omega) fun g18 cap18 cur18 w1 hr18 hL1=>?_;clear hL;have hL:=hL1;clear hL1;(try dsimp only at hL);refine p4 ?_)|(go_at_call 224;go_loud (refine(HS.out _ _ _ (See.see _ hL) (See.bytes hL) hL.bel).mono ?_);rintro e w1⟨rfl,hb1⟩;have hL1:=hL.keep hb1;clear hb1;clear hL;have hL:=hL1;clear hL1;refine p4 ?_)|(refine ah ?_;clear hL;intro w1 hL));refine mX (S:=(fun _=>True)) 6 (trivial) ?_;intro hHeld;replace hL:=hL.drew;refine uG 0 ?_;refine uG 2 ?_;refine rd1 1 ?_;intro K hK;refine eK (HP.out _ hL.bel 92) ?_;rintro e w1⟨g21,rfl,hN⟩;refine⟨_,rfl,?_⟩;have hL1:=hL.join hN;clear hN hL;revert hL1;refine aJ ?_;intro hL;refine kO hK (trivial) ?_;clear hK K hHeld;intro hHeld;refine rd1 3 ?_;intro K hK;refine eBS ?_;clear hL;intro b23 w1 hL;refine kO hK (trivial) ?_;clear hK K hHeld;intro hHeld;refine rd1 4 ?_;intro K hK;refine eVv (HT.out _ _ (fH (hL.get (.head _)) (See.bytes hL) (See.bytes hL))) hL ?_;clear hL;intro w1 hL;refine kO hK (trivial) ?_;clear hK K hHeld;intro hHeld;refine rd1 5 ?_;intro K hK;refine eJ ?_;clear hL;intro w1 hL;refine kO hK (trivial) ?_;clear hK K hHeld;intro hHeld;refine wD ?_;clear hHeld;go_wp2_with (first|refine aU ?_|(refine ah ?_;clear hL;intro w1 hL));exact bodyPost_ret (ai rfl hL rfl) rfl ⟨rfl,hL.bel⟩
end
section
open Go Go.RowKit Go.Shelf
theorem uR(n:Nat)(f:Nat→BitVec 8):(aa n f).toList=(List.range n).map fun i=>Value.int .u8 (B8 (f i)):=by simp[aa,row]
theorem Ia(l:List (BitVec 8))(w:World):∃c w',(convert 9 29 (.string (dw l))).run prog w= .ok (.slice (some ⟨w.heap.size,0,none⟩) l.length c) w'∧BRow w' (.slice (some ⟨w.heap.size,0,none⟩) l.length c) l∧w.grownBy w' none:=by
 have h:=run_bytes_of_string (P:=prog) w 9 29 5 (dw l) underlying9 underlying29 underlying5;have hsz:(dw l).size=l.length:=by simp[dw,ByteArray.size]
 rw[hsz]at h;refine⟨_,_,h,?_,dA (dz (cq _ _)) _⟩;refine⟨_,_,rfl,nofun,fun h0=>⟨w.heap.size,0,rfl,by show _<(w.heap.push _).size;rw[Array.size_push];omega,fun i hi=>?_⟩⟩;have hg:=heap_alloc_new w.drew (.cells (bytesRow (dw l) (grownCap w l.length 0 5)) 5 ((bytesRow (dw l) (grownCap w l.length 0 5)).size,(bytesRow (dw l) (grownCap w l.length 0 5)).size+1));have hj:i<(dw l).data.size:=by simpa[dw] using hi
 have hc:=bytesRow_at (dw l) (grownCap w l.length 0 5) i hj;have hv:(((dw l).data[i]).toNat:Int)=B8 l[i]:=by
  have hx:=l[i].isLt;simp only[dw,List.getElem_toArray,List.getElem_map];unfold B8;rw[UInt8.toNat_ofNat_of_lt' (by simpa[UInt8.size] using hx)]
 rw[hv]at hc;rw[Nat.zero_add];have hg':(w.drew.alloc (.cells (bytesRow (dw l) (grownCap w l.length 0 5)) 5 ((bytesRow (dw l) (grownCap w l.length 0 5)).size,(bytesRow (dw l) (grownCap w l.length 0 5)).size+1))).heap[w.heap.size]?=some (.cells (bytesRow (dw l) (grownCap w l.length 0 5)) 5 ((bytesRow (dw l) (grownCap w l.length 0 5)).size,(bytesRow (dw l) (grownCap w l.length 0 5)).size+1)):=hg;simp only[World.cell?,hg',hc]
 first|rfl|simp[hc]
theorem AK{o:Oper}{a:Act}{w:World}{K:Act→World→Prop}{Q:Exit→Act→World→Prop}(x:Operand)(ho:o.op= .convert 9 29 x)(l:List (BitVec 8))(hx:a.eval x= .string (dw l))(h:∀g c w',g=w.heap.size→BRow w' (.slice (some ⟨g,0,none⟩) l.length c) l→w.grownBy w' none→K (a.put o.dst (.slice (some ⟨g,0,none⟩) l.length c)) w'):o.wp prog a w K Q:=by
 obtain⟨c,w',hrun,hr,hg⟩:=Ia l w;unfold Oper.wp execOp;simp only[ho,hx,Sem.run_bind,hrun,Result.andThen_ok,Sem.run_pure];exact h _ _ _ rfl hr hg
theorem ph{a b:World}(h:a.grownBy b none):Below a.heap.size a b:=⟨h.os,h.tape,h.output,h.size,fun k hk=>h.block k hk (by simp)⟩
theorem Gw{ops:Array Oper}{rest:List Oper}{o:Oper}{a:Act}{w:World}{Q:Exit→Act→World→Prop}(hg:o.guard=none){x:Operand}(ho:o.op= .convert 9 29 x)(l:List (BitVec 8))(hx:a.eval x= .string (dw l))(h:∀g c w',BRow w' (.slice (some ⟨g,0,none⟩) l.length c) l→Below w.heap.size w w'→wpList prog ops Q rest (a.put o.dst (.slice (some ⟨g,0,none⟩) l.length c)) w'):wpList prog ops Q (o::rest) a w :=
 wpList_plain hg fun K hK=>AK x ho l hx fun g c w' _ hb hw=>hK _ _ (h g c w' hb (ph hw))
theorem FH{w:World}{b off n c:Nat}{f:Nat→BitVec 8}(h:BRow w (.slice (some ⟨b,off,none⟩) n c) ((List.range 32).map f)):(Instr.loadAt 24 (.pointer (some ⟨b,off,none⟩))).run prog w= .ok (.agg (aa 32 f)) w:=by
 obtain⟨a,c',e,_,hp⟩:=h;simp only[Value.slice.injEq]at e;obtain⟨rfl,_,_⟩:=e;obtain⟨b',off',e,_,hc⟩:=hp (by simp);simp only[Option.some.injEq,Addr.mk.injEq]at e;obtain⟨rfl,rfl,_⟩:=e;have h1:=run_loadAt_mid (P:=prog) w b off 24 (aa 32 f).toList _ (fun j v hv=>by
  rw[uR]at hv;have hj:j<32:=by
   rcases Nat.lt_or_ge j 32 with h|h
   ·exact h
   ·rw[List.getElem?_eq_none (by simpa using h)]at hv;cases hv
  rw[hc j (by simpa using hj)];simpa[hj] using hv) underlying24 rfl (by rw[xA];simp[aj])
 rw[h1,Array.toArray_toList]
theorem BRow.some{w:World}{a:Option Addr}{n c:Nat}{l:List (BitVec 8)}(h:BRow w (.slice a n c) l)(h0:0<l.length):∃b off,a=some ⟨b,off,none⟩:=by
 obtain⟨a',c',e,_,hp⟩:=h;simp only[Value.slice.injEq]at e;obtain⟨rfl,_,_⟩:=e;obtain⟨b,off,e,_⟩:=hp h0;exact⟨b,off,e⟩
theorem eQ{ops:Array Oper}{rest:List Oper}{o:Oper}{a:Act}{w:World}{Q:Exit→Act→World→Prop}(hgd:o.guard=none)(x:Operand)(ho:o.op= .load 24 x)(b off n c:Nat)(f:Nat→BitVec 8)(hx:a.eval x= .pointer (some ⟨b,off,none⟩))(hb:BRow w (.slice (some ⟨b,off,none⟩) n c) ((List.range 32).map f))(h:wpList prog ops Q rest (a.put o.dst (.agg (aa 32 f))) w):wpList prog ops Q (o::rest) a w:=by
 refine wpList_plain hgd fun K hK=>?_;unfold Oper.wp;have hl:=FH hb;simp[execOp,ho,hx,hl,Result.andThen];exact hK _ _ h
def lr(f:Nat→BitVec 8)(name:List (BitVec 8)):Nat→BitVec 8:=gt (ae 32 f) (name++[1])
theorem tc(f:Nat→BitVec 8)(A:Option Addr)(c:Nat)(info:List (BitVec 8))(w:World)(hv:BRow w (.slice A info.length c) info)(hi:info.length≤1000000) :
 Calls prog 268 #[.agg (aa 32 f),.slice A info.length c,.int .i64 32] w fun e w'=>∃g cur,e= .returned (.tuple #[.slice (some ⟨g,0,none⟩) 32 32,.int .i64 0])∧Seg cur 0 32 (an (ae 32 (lr f info)))∧Loc w w' [(g,cur,5)]:=by
 have hL:=Loc.nil w;have HM:=Hd (fun w1 u ub (hu:BRow w1 u (ae 32 f)) (hb:BRows w1 ub [[],info,[1]])=>(show Rt 242 #[u,ub] w1 (.agg (aa 32 (lr f info)))from by
  have:=tb u ub (ae 32 f) _ w1 hu hb (by rw[ag];decide) (by simp) (by simp;omega);simp only[List.flatten_cons,List.flatten_nil,List.append_nil,List.nil_append]at this;exact this))
 haveI hA:Arg w (.slice A info.length c) (an info):=⟨hv.vrow⟩;haveI sb:Seg #[Value.int IntKind.u8 1] 0 1 (an [1]):=gB 1;clear hv hi;generalize lr f info=T,info.length=n at *
 go_enter func268,ntmps268;go_wp2_with (first|refine aU ?_|(refine gBp 3 ?_;clear hL;intro b3 w1 hL)|(refine ah ?_;clear hL;intro w1 hL));go_loopw [8,9,10] (fun o l i wr=>(i= .int .i64 1∧o= .slice none 0 0∧l= .slice none 0 0∧Loc w wr [(b3,aa 32 f,24)])∨(i= .int .i64 2∧∃g cap cur,o= .slice (some ⟨g,0,none⟩) 32 cap∧OwnR cur 32 cap (an (ae 32 T))∧Loc w wr [(g,cur,5),(b3,aa 32 f,24)])) (fun _ _ i _=>2-(intOf i).toNat);case atStart=>exact .inl ⟨rfl,rfl,rfl,hL⟩
 case round =>
  clear hL;rcases hrel with⟨rfl,rfl,rfl,hL⟩|⟨rfl,g,cap,cur,rfl,hr,hL⟩
  ·skip
   go_wp2_with (first|refine aU ?_|(refine gBp 11 ?_;clear hL;intro b11 w1 hL)|(refine gN 29 ?_;refine aL ?_;clear hL;intro b29 w1 hL)|(refine gN 30 ?_;refine aL ?_;clear hL;intro b30 w1 hL)|(go_at_call 242;go_loud (refine(HM.out _ _ _ (See.bytes hL) (dG (hL.get (.head _)) (uQ _) (See.bytes hL) (See.bytes hL))).mono ?_);rintro e w1⟨rfl,hb1⟩;have hL1:=hL.keep hb1;clear hb1;clear hL;have hL:=hL1;clear hL1;refine p4 ?_)|(refine gN 35 ?_;refine aNb ?_;clear hL;intro g35 cap35 cur35 w1 hr35 hL)|(refine ah ?_;clear hL;intro w1 hL));go_roundw;case rel=>exact .inr ⟨rfl,g35,cap35,cur35,rfl,hr35,hL.subl (.cons_cons _ (.cons _ (.cons _ (.cons _ (.cons_cons _ (List.nil_sublist _))))))⟩
   case measure=>simp only[intOf];decide
  ·skip
   have hle:=hr.le;have q1:(32:Int)≤cap:=by omega
   go_wp2_with (first|refine aU ?_|(refine ah ?_;clear hL;intro w1 hL));go_ret2;exact⟨g,cur,rfl,xa cur 32 cap _,Loc.rem b3 hL⟩
instance Ox:Ent 268:=eo func268
theorem zn(f:Nat→BitVec 8)(name:List (BitVec 8))(w:World)(hn:0<name.length∧name.length≤1000) :
 Rt 241 #[.agg (aa 32 f),.string (dw name)] w (.agg (aa 32 (lr f name))):=by
 have hL:=Loc.nil w;have HE:=Hd (fun w1 A c (hv:BRow w1 (.slice A name.length c) name)=>tc f A c name w1 hv (by omega));have harr:=nL;clear hn;generalize lr f name=T at *
 go_enter func241,ntmps241;go_wp2_with (first|refine aU ?_|(refine gBp 2 ?_;clear hL;intro b2 w1 hL)|(refine gBp 4 ?_;clear hL;intro b4 w1 hL)|(refine gN 10 ?_;refine Gw rfl rfl name rfl fun g10 c10 w1 hb10 hbb=>?_;have hL1:=hL.keep hbb;clear hL hbb;have hL:=hL1;clear hL1;refine p4 ?_)|(refine gN 11 ?_;refine lKk (HE.out _ _ _ hb10) ?_;rintro e w1⟨g11,cur11,rfl,hs11,hN⟩;have hL1:=hL.join hN;clear hN hL;revert hL1;refine aH ?_;intro hL)|(refine gN 16 ?_;refine eQ rfl _ rfl g11 0 32 32 T rfl (See.bytes (l:=ae 32 T) hL) ?_;refine p4 ?_)|(refine ah ?_;clear hL;intro w1 hL));exact bodyPost_ret (ai rfl hL rfl) rfl ⟨rfl,hL.bel⟩
instance Oy:Ent 241:=eo func241
end
end Go.Proofs.YtoifhhljfaoejaaGreatDoor
