/-
  Lemmas of the law, part 5: the walks of the functions that it calls and the plain facts about them. No condition beyond those written.
-/
import Derived.Test.YtoifhhljfaoejaaGreatDoorPkAA
import Derived.Test.YtoifhhljfaoejaaGreatDoorPkAD
import Derived.Deep.OwnRows
import Derived.Laws.OwnMore
import Derived.Laws.CopyOwn
import Derived.Test.YtoifhhljfaoejaaGreatDoorPkAB
set_option maxRecDepth 100000
set_option maxHeartbeats 8000000
set_option linter.unusedVariables false
set_option linter.unusedSimpArgs false
set_option linter.unusedSectionVars false
namespace Go.Proofs.YtoifhhljfaoejaaGreatDoor
open Go.Proofs.Tryz
section
open Go.RowKit
theorem Fb(p:Pt)(t:F)(h:t=p.x*p.y):eI p.x.val p.y.val 1 t.val=dK (ns p):=by unfold dK ns;simp only;rw[yH,h]
theorem ot(w:World):Rt 248 #[] w (.agg (dK exB)):=by
 have hL:=Loc.nil w;have hx:=Hd I1;have hy:=Hd I2;unfold exB;have hE:=Hd (Fb pB _ rfl);generalize ns pB=e,pB.x=x,pB.y=y at *
 go_enter func248,ntmps248;go_wp2_with (first|(refine aQq ?_;clear hL;intro _ w1 hL));rw[hx.out,hy.out]at hL;refine wf [(0,false),(1,false),(2,true),(3,false),(4,false),(5,false),(6,true)] [] [7] hL ?_
 repeat(first|((with_reducible show bu _ _ _ (_::_) _ _);refine sU rfl rfl (Aj _ _ _) rfl ?_;refine p4 ?_)|refine rS ?_)
 refine aG ?_;refine fB ?_;clear hL;intro w1 hL;go_wp2_with fail;rw[hE.out]at hL;exact bodyPost_ret (ai rfl hL rfl) rfl ⟨rfl,hL.bel⟩
instance I9:Ent 248:=eo func248
instance Ja:FnC 248 #[] (.agg (dK exB)):=⟨ot⟩
theorem t9(p:Ex)(f:Nat→BitVec 8)(w:World):Rt 249 #[.agg (dK p),.agg (aa 32 f)] w (.agg (dK (cp p (leN f)))):=by
 have hL:=Loc.nil w;haveI f0:FnC 270 #[.agg (aa 32 f)] (.agg (am (leN f))):=inferInstance;generalize leN f=e at *
 obtain⟨X,h0,hs,hf⟩:∃X:Nat→Ex,X 0=exO∧(∀j,X (j+1)=if e/2^(255-j)%2=1 then cZ (cZ (X j) (X j)) p else cZ (X j) (X j))∧X 256=cp p e:=⟨fun k=>gA p e k,rfl,fun j=>rfl,rfl⟩;rw[← hf];haveI f9:FnC 282 #[] (.agg (dK (X 0))):=by rw[h0];infer_instance
 have zs:=Hd hs;clear h0 hs hf;go_enter func249,ntmps249;go_wp2_with (first|(refine gBp 2 ?_;clear hL;intro b2 w1 hL)|(refine gBp 3 ?_;clear hL;intro b3 w1 hL)|(refine gBp 4 ?_;clear hL;intro b4 w1 hL)|(refine gBp 5 ?_;clear hL;intro b5 w1 hL)|(refine gBp 6 ?_;clear hL;intro b6 w1 hL)|(refine aQq ?_;clear hL;intro _ w1 hL));go_loopw [7] (fun kk wr=>∃j:Nat,j≤256∧kk= .int .i64 (255-(j:Int))∧Loc w wr [(b6,dK (X j),313),(b5,am e,311),(b4,eI 0 0 0 0,313),(b3,aa 32 f,24),(b2,dK p,313)]) (fun kk _=>(intOf kk+1).toNat);case atStart=>exact⟨0,by omega,rfl,hL⟩
 case round =>
  clear hL;obtain⟨j,hj,rfl,hL⟩:=hrel;by_cases hlt:j<256
  ·have k0:(0:Int)≤255-(j:Int):=by omega
   have k1:¬255-(j:Int)<0:=by omega
   have k2:(j:Int)≤255:=by omega
   have hb:=fun w=>nF e (255-j) (by omega) w;rw[show((255-j:Nat):Int)=255-(j:Int)from by omega]at hb;have HT:=Hd (show X (j+1)=if e/2^(255-j)%2=1 then cZ (cZ (X j) (X j)) p else cZ (X j) (X j)from zs.out j);by_cases hbit:e/2^(255-j)%2=1
   ·rw[hbit]at hb
    rw[if_pos hbit]at HT;generalize X j=x at hL HT;haveI f1:FnC 283 #[.agg (am e),.int .i64 (255-(j:Int))] (.int .u64 1):=⟨hb⟩;clear hb hbit;go_wp2_with (first|(refine aQq ?_;clear hL;intro _ w1 hL));go_roundw;case rel=>exact⟨j+1,by omega,by rw[show 255-(j:Int)-1=255-((j+1:Nat):Int)from by omega],by rw[HT.out];exact hL⟩
    case measure=>simp[intOf];omega
   ·rw[if_neg hbit]at HT
    rw[show e/2^(255-j)%2=0 from by omega]at hb;generalize X j=x at hL HT;haveI f1:FnC 283 #[.agg (am e),.int .i64 (255-(j:Int))] (.int .u64 0):=⟨hb⟩;clear hb hbit;go_wp2_with (first|(refine aQq ?_;clear hL;intro _ w1 hL));go_roundw;case rel=>exact⟨j+1,by omega,by rw[show 255-(j:Int)-1=255-((j+1:Nat):Int)from by omega],by rw[HT.out];exact hL⟩
    case measure=>simp[intOf];omega
  ·obtain rfl:j=256:=by omega
   have k1:(255:Int)-((256:Nat):Int)= -1:=by omega
   rw[k1];clear k1;go_wp2_with (first|(refine aQq ?_;clear hL;intro _ w1 hL));exact bodyPost_ret (ai rfl hL rfl) rfl ⟨rfl,hL.bel⟩
instance Jb:Ent 249:=eo func249
instance Jc(p:Ex)(f:Nat→BitVec 8):FnC 249 #[.agg (dK p),.agg (aa 32 f)] (.agg (dK (cp p (leN f)))):=⟨t9 p f⟩
theorem ua{m:Nat}(hm:m<2^255)(b:Nat)(hb:b<2):(ab m 31).toNat+128*b=(ab (m+2^255*b) 31).toNat:=by
 unfold ab;rw[BitVec.toNat_ofNat,BitVec.toNat_ofNat];simp only[Nat.reducePow,Nat.reduceMul]at *
 omega
theorem Cj(m b:Nat){i:Nat}(h:i<31):ab m i=ab (m+2^255*b) i:=by
 unfold ab;obtain⟨d,hd⟩:∃d,255=8*i+(8+d):=⟨247-8*i,by omega⟩;rw[hd,Nat.pow_add,Nat.pow_add,Nat.mul_assoc,Nat.add_mul_div_left _ _ (Nat.two_pow_pos _),Nat.mul_assoc];refine BitVec.eq_of_toNat_eq ?_;rw[BitVec.toNat_ofNat,BitVec.toNat_ofNat,Nat.add_mul_mod_self_left]
theorem uc{m:Nat}(b:Nat):row 32 (upd (fun i=>Value.int .u8 (B8 (ab m i))) 31 (.int .u8 (B8 (ab (m+2^255*b) 31))))=aa 32 (ab (m+2^255*b)):=ak fun i hi=>by
 unfold upd;by_cases e:i=31
 ·subst e;rw[if_pos rfl]
 ·rw[if_neg e]
  show Value.int .u8 (B8 (ab m i))=_;rw[Cj m b (by omega)]
theorem yJ{m:Nat}(hm:m<2^255)(b:Nat)(hb:b<2):bits .or .u8 (B8 (ab m 31)) ((128*b:Nat):Int)=B8 (ab (m+2^255*b) 31):=by
 have hx:(ab m 31).toNat<128:=by
  have:=ua hm 1 (by omega);have:=(ab (m+2^255*1) 31).isLt;omega
 have h:=ua hm b hb;unfold B8;rw[← h];generalize(ab m 31).toNat=x at *
 have:∀x:Fin 128,∀b:Fin 2,bits .or .u8 (x.val:Int) ((128*b.val:Nat):Int)=((x.val+128*b.val:Nat):Int):=by decide +kernel
 exact this ⟨x,hx⟩ ⟨b,hb⟩
theorem yK:P<2^255:=by decide +kernel
theorem Ck(p:Ex)(w:World):Rt 250 #[.agg (dK p)] w (.agg (aa 32 (ab (bT p)))):=by
 have hL:=Loc.nil w;have hb:=GW (p.x*inv p.z);have hm:(p.y*inv p.z).val<2^255:=Nat.lt_trans (p.y*inv p.z).isLt yK;have ho:=yJ hm ((p.x*inv p.z).val%2) (Nat.mod_lt _ (by omega));haveI g1:Cell (aa 32 (ab (p.y*inv p.z).val)) 31 (.int .u8 (B8 (ab (p.y*inv p.z).val 31))):=aI _ (by omega);have gr:=uc (m:=(p.y*inv p.z).val) ((p.x*inv p.z).val%2);haveI f0:FnC 284 #[.agg (am (p.y*inv p.z).val)] (.agg (aa 32 (ab (p.y*inv p.z).val))):=inferInstance;unfold bT;by_cases hc:(p.x*inv p.z).val%2=1
 ·rw[hc]at hb ho gr ⊢
  rw[← ho,← (show IntKind.u8.wrap (IntKind.u8.wrap 1*128)=((128*1:Nat):Int)from by decide)]at gr;haveI f3:FnC 283 #[.agg (am (p.x*inv p.z).val),.int .i64 0] (.int .u64 1):=⟨hb⟩;haveI gp:Put (aa 32 (ab (p.y*inv p.z).val)) 31 (.int .u8 (bits .or .u8 (B8 (ab (p.y*inv p.z).val 31)) (IntKind.u8.wrap (IntKind.u8.wrap 1*128)))) (aa 32 (ab ((p.y*inv p.z).val+2^255*1))):=a9 (by omega) gr;clear hb hc ho hm gr;generalize ab ((p.y*inv p.z).val+2^255*1)=out,ab ((p.y*inv p.z).val)=s at *
  go_enter func250,ntmps250;go_wp2_with (first|(refine aQq ?_;clear hL;intro _ w1 hL));refine wf [(0,true),(1,false),(2,true),(3,false),(4,false),(5,false),(6,false),(7,true),(8,true),(9,true),(10,true)] [] [11] hL ?_;refine fA ?_;refine fB ?_;clear hL;intro w1 hL;go_wp2_with (first|(refine aQq ?_;clear hL;intro _ w1 hL));exact bodyPost_ret (ai rfl hL rfl) rfl ⟨rfl,hL.bel⟩
 ·rw[show(p.x*inv p.z).val%2=0 from by omega]at hb ho gr ⊢
  rw[← ho,← (show IntKind.u8.wrap (IntKind.u8.wrap 0*128)=((128*0:Nat):Int)from by decide)]at gr;haveI f3:FnC 283 #[.agg (am (p.x*inv p.z).val),.int .i64 0] (.int .u64 0):=⟨hb⟩;haveI gp:Put (aa 32 (ab (p.y*inv p.z).val)) 31 (.int .u8 (bits .or .u8 (B8 (ab (p.y*inv p.z).val 31)) (IntKind.u8.wrap (IntKind.u8.wrap 0*128)))) (aa 32 (ab ((p.y*inv p.z).val+2^255*0))):=a9 (by omega) gr;clear hb hc ho hm gr;generalize ab ((p.y*inv p.z).val+2^255*0)=out,ab ((p.y*inv p.z).val)=s at *
  go_enter func250,ntmps250;go_wp2_with (first|(refine aQq ?_;clear hL;intro _ w1 hL));refine wf [(0,true),(1,false),(2,true),(3,false),(4,false),(5,false),(6,false),(7,true),(8,true),(9,true),(10,true)] [] [11] hL ?_;refine fA ?_;refine fB ?_;clear hL;intro w1 hL;go_wp2_with (first|(refine aQq ?_;clear hL;intro _ w1 hL));exact bodyPost_ret (ai rfl hL rfl) rfl ⟨rfl,hL.bel⟩
instance Jd:Ent 250:=eo func250
instance Je(p:Ex):FnC 250 #[.agg (dK p)] (.agg (aa 32 (ab (bT p)))):=⟨Ck p⟩
end
section
open Go.RowKit
noncomputable def wY:Option Ex→Array Value
 | none=>eI 0 0 0 0
 | some e=>dK e
theorem gQ:wY none=eI 0 0 0 0:=rfl
theorem mE(e:Ex):wY (some e)=dK e:=rfl
def di(f:Nat→BitVec 8):Nat→BitVec 8:=fun i=>if i=31 then f 31&&&127 else f i
theorem yM(f:Nat→BitVec 8):∀k,k≤31→leK (di f) k=leK f k
 | 0,_=>rfl
 | k+1,h=>by
  show leK (di f) k+(di f k).toNat*2^(8*k)=leK f k+(f k).toNat*2^(8*k);rw[yM f k (by omega),show di f k=f k from if_neg (by omega)]
theorem Fc(x:BitVec 8):(x&&&127).toNat=x.toNat%128:=by
 rw[BitVec.toNat_and];exact Nat.and_two_pow_sub_one_eq_mod x.toNat 7
theorem mF(f:Nat→BitVec 8):leN (di f)=leN f%2^255∧leN f/2^255%2=(f 31).toNat/128:=by
 have h1:leN f=leK f 31+(f 31).toNat*2^248:=rfl;have h2:leN (di f)=leK (di f) 31+(di f 31).toNat*2^248:=rfl;have h3:=yM f 31 (Nat.le_refl _);have h4:=df f 31;have h5:(di f 31).toNat=(f 31).toNat%128:=Fc _;have h6:=(f 31).isLt;rw[h3,h5]at h2;rw[h1,h2];generalize leK f 31=y,(f 31).toNat=x at *
 simp only[Nat.reducePow,Nat.reduceMul]at *
 omega
theorem Fd(x:BitVec 8):bits .and .u8 (B8 x) 127=B8 (x&&&127):=by
 have:∀x:Fin 256,bits .and .u8 (x.val:Int) 127=(((BitVec.ofFin x:BitVec 8)&&&127).toNat:Int):=by decide +kernel
 exact this x.toFin
theorem nG(f:Nat→BitVec 8):row 32 (upd (fun i=>Value.int .u8 (B8 (f i))) 31 (.int .u8 (bits .and .u8 (B8 (f 31)) 127)))=aa 32 (di f):=ak fun i hi=>by
 unfold upd di;by_cases e:i=31
 ·subst e;rw[if_pos rfl,Fd];rfl
 ·rw[if_neg e]
  show Value.int .u8 (B8 (f i))=Value.int .u8 (B8 (if i=31 then f 31&&&127 else f i));rw[if_neg e]
theorem GY(r:F):r-r=0:=by grind
theorem Al:(0:F)-0=0:=GY 0
theorem qT(r:F):dv r=0↔r=0:=by
 unfold dv;by_cases h:r.val%2=1
 ·rw[if_pos h]
  constructor
  ·intro e
   have:r=0:=by grind
   exact this
  ·intro e;rw[e];exact Al
 ·rw[if_neg h]
noncomputable def Gm(y:F)(odd:Bool)(r:Option F):Option Ex:=match r with
 | none=>none
 | some r=>if odd=true∧dv r=0 then none else if odd then some ⟨0-dv r,y,1,(0-dv r)*y⟩else some ⟨dv r,y,1,dv r*y⟩
theorem Am(n:Nat):bF n=if n%2^255<P then Gm (fe (n%2^255)) (decide (n/2^255%2=1)) (eH ((fe (n%2^255)*fe (n%2^255)-1)*inv (dF*(fe (n%2^255)*fe (n%2^255))+1)))else none:=by
 unfold bF;by_cases h:n%2^255<P
 ·rw[if_pos h,if_pos h]
  simp only;generalize fe (n%2^255)=y;have hb:n/2^255%2<2:=Nat.mod_lt _ (by omega);generalize n/2^255%2=b at *
  generalize eH ((y*y-1)*inv (dF*(y*y)+1))=o;cases o with
  | none=>rfl
  | some r =>
   show(if r=0∧b=1 then none else if r.val%2=b then some ⟨r,y,1,r*y⟩else some ⟨-r,y,1,-r*y⟩:Option Ex)=(if decide (b=1)=true∧dv r=0 then none else if decide (b=1)=true then some ⟨0-dv r,y,1,(0-dv r)*y⟩else some ⟨dv r,y,1,dv r*y⟩:Option Ex);by_cases h1:b=1
   ·subst h1
    by_cases h0:r=0
    ·rw[if_pos ⟨h0,rfl⟩,if_pos ⟨rfl,(qT r).2 h0⟩]
    ·have n1:¬(r=0∧1=1):=fun h=>h0 h.1
     have n2:¬(decide (1=1)=true∧dv r=0):=fun h=>h0 ((qT r).1 h.2);rw[if_neg n1,if_neg n2,if_pos (decide_eq_true rfl)];by_cases hr:r.val%2=1
     ·rw[if_pos hr,show dv r=0-r from if_pos hr,show(0:F)-(0-r)=r from by grind]
     ·rw[if_neg hr,show dv r=r from if_neg hr,show(0:F)-r= -r from by grind]
   ·have n1:¬(r=0∧b=1):=fun h=>h1 h.2
    have n2:¬(decide (b=1)=true∧dv r=0):=fun h=>h1 (of_decide_eq_true h.1);have n3:¬decide (b=1)=true:=fun h=>h1 (of_decide_eq_true h);rw[if_neg n1,if_neg n2,if_neg n3];by_cases hr:r.val%2=1
    ·rw[if_neg (show ¬r.val%2=b from by omega),show dv r=0-r from if_pos hr,show(0:F)-r= -r from by grind]
    ·rw[if_pos (show r.val%2=b from by omega),show dv r=r from if_neg hr]
 ·rw[if_neg h,if_neg h]
theorem jh{P:Program}{ops:Array Oper}{Q:Exit→Act→World→Prop}{a:Act}{w:World}{rest:List Oper}{d:Option Tmp}{op:Op}{t:TypeId}{ps:String}{af:Array Edge}{g:Nat×Bool}(hw:Region.wanted ⟨d,op,t,ps,af,some g⟩ (yielded ops a.tmps)=true)(h:wpList P ops Q (⟨d,op,t,ps,af,none⟩::rest) a w):wpList P ops Q (⟨d,op,t,ps,af,some g⟩::rest) a w:=by
 unfold wpList at h ⊢;rw[if_pos hw];rw[if_pos (show Region.wanted ⟨d,op,t,ps,af,none⟩ (yielded ops a.tmps)=true from rfl)]at h;exact h
theorem iu(w:World):(Instr.build 313 #[]).run prog w= .ok (.agg (eI 0 0 0 0)) w:=by kernel_rfl
theorem qU(w:World):(Instr.build 311 #[]).run prog w= .ok (.agg (am 0)) w:=by kernel_rfl
theorem Cl(f:Nat→BitVec 8)(w:World):Rt 245 #[.agg (aa 32 f)] w (.tuple #[.agg (wY (bF (leN f))),.bool (bF (leN f)).isSome]):=by
 have hL:=Loc.nil w;obtain⟨hy,hodd⟩:=mF f;have he:=Am (leN f);rw[hodd]at he;rw[← hy]at he;haveI g1:Cell (aa 32 f) 31 (.int .u8 (B8 (f 31))):=aI _ (by omega);haveI g2:Put (aa 32 f) 31 (.int .u8 (bits .and .u8 (B8 (f 31)) 127)) (aa 32 (di f)):=a9 (by omega) (nG f);haveI f0:FnC 270 #[.agg (aa 32 (di f))] (.agg (am (leN (di f)))):=inferInstance;have hlt:leN (di f)<2^256:=fh _;haveI f1:FnC 271 #[.agg (am (leN (di f)))] (.agg (am (leN (di f)%P))):=⟨kE _ hlt⟩;have e1:=Gl (leN (di f)%P) (leN (di f)) (Nat.lt_of_le_of_lt (Nat.mod_le _ _) hlt) hlt;have nz:=Hd sj;generalize bF (leN f)=out,di f=g at *
 generalize leN g=y at *
 have hq:=Hd (show(B8 (f 31)/128==1)=decide ((f 31).toNat/128=1)from by
  rw[Bool.eq_iff_iff,decide_eq_true_iff,beq_iff_eq];unfold B8;omega)
 generalize decide ((f 31).toNat/128=1)=odd at *
 have h1:=Hd (show #[Value.int .u64 1,Value.int .u64 0,Value.int .u64 0,Value.int .u64 0]=am (1:F).val from by rw[yH];exact yG);by_cases hc:y<P
 ·rw[if_pos hc]at he
  rw[Nat.mod_eq_of_lt hc]at e1 f1;rw[decide_eq_true rfl]at e1;obtain⟨Y,hY⟩:∃Y:F,Y.val=y:=⟨⟨y,hc⟩,rfl⟩;subst hY;rw[eN]at he;clear hy hodd hlt hc;have fs:∀w,_:=wV ((Y*Y-1)*inv (dF*(Y*Y)+1));cases hr:eH ((Y*Y-1)*inv (dF*(Y*Y)+1))with
  | none =>
   rw[oh hr,hr]at fs;rw[hr]at he;haveI f3:FnC 276 #[.agg (am ((Y*Y-1)*inv (dF*(Y*Y)+1)).val)] (.tuple #[.agg (am 0),.bool false]):=⟨fs⟩;subst he;show Calls _ _ _ _ fun r w'=>r= .returned (.tuple #[.agg (wY none),.bool (none:Option Ex).isSome])∧_;rw[gQ];clear hr fs;go_enter func245,ntmps245;go_wp2_with (first|(refine gBp 1 ?_;clear hL;intro b1 w1 hL)|(refine gBp 2 ?_;clear hL;intro b2 w1 hL)|(refine aQq ?_;clear hL;intro _ w1 hL));refine wf [(0,false),(1,false),(2,false),(3,true)] [] [] hL ?_
   repeat refine rN ?_
   refine aG ?_;refine fC ?_;clear hL;intro w1 hL;go_wp2_with (first|(refine gBp 5 ?_;clear hL;intro b5 w1 hL)|(refine gBp 6 ?_;clear hL;intro b6 w1 hL)|(refine gBp 7 ?_;clear hL;intro b7 w1 hL)|(refine aQq ?_;clear hL;intro _ w1 hL));rw[hq.out];rw[h1.out]at hL;clear hq h1;refine ar [(0,false),(1,false),(2,false),(3,false),(4,false),(5,false),(6,false),(7,false)] [(8,_,311),(9,_,311)] [10,11] (by kernel_rfl) (by kernel_rfl) ⟨⟨_,rfl,rfl,rfl⟩,inferInstance,⟨⟨_,rfl,rfl,rfl⟩,inferInstance,trivial⟩⟩ hL ?_;refine pF ?_;refine fA ?_;refine az fun b=>?_;refine az fun b=>?_;refine fB ?_;clear hL;intro w1 hL;go_wp2_with (first|(refine aQq ?_;clear hL;intro _ w1 hL));refine ar [(0,false),(1,false),(2,false),(3,false),(4,false),(5,true),(6,true),(7,true)] [(8,_,311)] [9,10] (by kernel_rfl) (by kernel_rfl) ⟨⟨_,rfl,rfl,rfl⟩,inferInstance,trivial⟩ hL ?_;refine pF ?_;refine fA ?_;refine az fun b=>?_;refine fB ?_;clear hL;intro w1 hL;go_wp2_with (first|((with_reducible show wpList _ _ _ (⟨_,.build 313 _,_,_,_,_⟩::_) _ _);refine lU hL rfl rfl iu rfl fun w1 hL1=>?_;clear hL;have hL:=hL1;clear hL1)|(refine aQq ?_;clear hL;intro _ w1 hL));exact bodyPost_ret (ay rfl hL rfl rfl) rfl ⟨rfl,hL.bel⟩
  | some r =>
   rw[kG hr,hr]at fs;rw[hr]at he;haveI f3:FnC 276 #[.agg (am ((Y*Y-1)*inv (dF*(Y*Y)+1)).val)] (.tuple #[.agg (am (dv r).val),.bool true]):=⟨fs⟩;unfold Gm at he;simp only at he;clear hr fs;generalize dv r=x at *
   go_enter func245,ntmps245;go_wp2_with (first|(refine gBp 1 ?_;clear hL;intro b1 w1 hL)|(refine gBp 2 ?_;clear hL;intro b2 w1 hL)|(refine aQq ?_;clear hL;intro _ w1 hL));refine wf [(0,false),(1,false),(2,false),(3,true)] [] [] hL ?_
   repeat refine rN ?_
   refine aG ?_;refine fC ?_;clear hL;intro w1 hL;go_wp2_with (first|(refine gBp 5 ?_;clear hL;intro b5 w1 hL)|(refine gBp 6 ?_;clear hL;intro b6 w1 hL)|(refine gBp 7 ?_;clear hL;intro b7 w1 hL)|(refine aQq ?_;clear hL;intro _ w1 hL));rw[hq.out];rw[h1.out]at hL;clear hq h1;refine ar [(0,false),(1,false),(2,false),(3,false),(4,false),(5,false),(6,false),(7,false)] [(8,_,311),(9,_,311)] [10,11] (by kernel_rfl) (by kernel_rfl) ⟨⟨_,rfl,rfl,rfl⟩,inferInstance,⟨⟨_,rfl,rfl,rfl⟩,inferInstance,trivial⟩⟩ hL ?_;refine pF ?_;refine fA ?_;refine az fun b=>?_;refine az fun b=>?_;refine fB ?_;clear hL;intro w1 hL;go_wp2_with (first|(refine aQq ?_;clear hL;intro _ w1 hL));refine ar [(0,false),(1,false),(2,false),(3,false),(4,false),(5,true),(6,true),(7,true)] [(8,_,311)] [9,10] (by kernel_rfl) (by kernel_rfl) ⟨⟨_,rfl,rfl,rfl⟩,inferInstance,trivial⟩ hL ?_;refine pF ?_;refine fA ?_;refine az fun b=>?_;refine fB ?_;clear hL;intro w1 hL;cases odd
   case' false=>rw[if_neg (show ¬(false=true∧x=0)from fun h=>by cases h.1),if_neg (show ¬false=true from by decide)]at he
   case false =>
    subst he;go_wp2_with (first|(refine aQq ?_;clear hL;intro _ w1 hL));refine wf [(0,false),(1,false),(2,false),(3,false),(4,false),(5,false),(6,true)] [] [7,8] hL ?_
    repeat(first|((with_reducible show bu _ _ _ (_::_) _ _);refine sU rfl rfl (oq _ _ _ _) rfl ?_;refine p4 ?_)|refine rS ?_)
    refine aG ?_;refine fB ?_;clear hL;intro w1 hL;go_wp2_with fail;exact bodyPost_ret (ay rfl hL rfl rfl) rfl ⟨rfl,hL.bel⟩
   case true =>
    have ez:=Cc x 0;rw[sk]at ez;by_cases hx:x=0
    ·rw[if_pos ⟨rfl,hx⟩]at he
     rw[decide_eq_true hx]at ez;subst he;go_wp2_with (first|refine aV ?_|((with_reducible show wpList _ _ _ (⟨_,.build 311 #[],_,_,_,_⟩::_) _ _);refine lU hL rfl rfl qU rfl fun w1 hL1=>?_;clear hL;have hL:=hL1;clear hL1)|((with_reducible show wpList _ _ _ (⟨_,.binOp .eql 311 _ _ _,_,_,_,_⟩::_) _ _);refine lQ hL rfl rfl rfl rfl fun w1 hL1=>?_;clear hL;have hL:=hL1;clear hL1)|((with_reducible show wpList _ _ _ (⟨_,.build 313 _,_,_,_,_⟩::_) _ _);refine lU hL rfl rfl iu rfl fun w1 hL1=>?_;clear hL;have hL:=hL1;clear hL1)|(refine aQq ?_;clear hL;intro _ w1 hL));exact bodyPost_ret (ay rfl hL rfl rfl) rfl ⟨rfl,hL.bel⟩
    ·rw[if_neg (fun h=>hx h.2),if_pos rfl]at he
     rw[decide_eq_false hx]at ez;subst he;haveI gm:FnC 273 #[.agg (am 0),.agg (am x.val)] (.agg (am (0-x).val)):=⟨fun w=>by
      have:=mz 0 x w;rw[sk]at this;exact this⟩
     clear hx;go_wp2_with (first|refine aV ?_|((with_reducible show wpList _ _ _ (⟨_,.build 311 #[],_,_,_,_⟩::_) _ _);refine lU hL rfl rfl qU rfl fun w1 hL1=>?_;clear hL;have hL:=hL1;clear hL1)|((with_reducible show wpList _ _ _ (⟨_,.binOp .eql 311 _ _ _,_,_,_,_⟩::_) _ _);refine lQ hL rfl rfl rfl rfl fun w1 hL1=>?_;clear hL;have hL:=hL1;clear hL1)|((with_reducible show wpList _ _ _ (⟨_,.build 313 _,_,_,_,_⟩::_) _ _);refine lU hL rfl rfl iu rfl fun w1 hL1=>?_;clear hL;have hL:=hL1;clear hL1)|(refine aQq ?_;clear hL;intro _ w1 hL));refine wf [(0,false),(1,false),(2,false),(3,false),(4,false),(5,false),(6,true)] [] [7,8] hL ?_
     repeat(first|((with_reducible show bu _ _ _ (_::_) _ _);refine sU rfl rfl (oq _ _ _ _) rfl ?_;refine p4 ?_)|refine rS ?_)
     refine aG ?_;refine fB ?_;clear hL;intro w1 hL;go_wp2_with fail;exact bodyPost_ret (ay rfl hL rfl rfl) rfl ⟨rfl,hL.bel⟩
 ·rw[if_neg hc]at he
  subst he;have hp:y%P≠y:=fun e=>hc (by rw[← e];exact Nat.mod_lt _ qN);rw[decide_eq_false hp]at e1;generalize y%P=z at *
  rw[gQ];clear hy hodd hlt hc hp;go_enter func245,ntmps245;go_wp2_with (first|(refine gBp 1 ?_;clear hL;intro b1 w1 hL)|(refine gBp 2 ?_;clear hL;intro b2 w1 hL)|(refine aQq ?_;clear hL;intro _ w1 hL));refine wf [(0,false),(1,false),(2,false),(3,true)] [] [] hL ?_
  repeat refine rN ?_
  refine aG ?_;refine fC ?_;clear hL;intro w1 hL;go_wp2_with (first|((with_reducible show wpList _ _ _ (⟨_,.build 313 _,_,_,_,_⟩::_) _ _);refine lU hL rfl rfl iu rfl fun w1 hL1=>?_;clear hL;have hL:=hL1;clear hL1)|(refine aQq ?_;clear hL;intro _ w1 hL));exact bodyPost_ret (ay rfl hL rfl rfl) rfl ⟨rfl,hL.bel⟩
instance Jf:Ent 245:=eo func245
instance Jg(f:Nat→BitVec 8):FnC 245 #[.agg (aa 32 f)] (.tuple #[.agg (wY (bF (leN f))),.bool (bF (leN f)).isSome]):=⟨Cl f⟩
end
section
open Go.RowKit
theorem Jh: #[Value.int .u64 6346243789798364141,Value.int .u64 1503914060200516822,Value.int .u64 0,Value.int .u64 1152921504606846976]=am Qo:=by kernel_rfl
theorem yN:Qo<2^256:=by decide +kernel
theorem An(w:World):Rt 279 #[] w (.agg (am Qo)):=by
 have hL:=Loc.nil w;have hP:=Hd Jh;go_enter func279,ntmps279;go_wp2_with (first|(refine aQq ?_;clear hL;intro _ w1 hL));rw[hP.out]at hL;exact bodyPost_ret (ai rfl hL rfl) rfl ⟨rfl,hL.bel⟩
instance Ji:Ent 279:=eo func279
instance Jj:FnC 279 #[] (.agg (am Qo)):=⟨An⟩
theorem Ao(f:Nat→BitVec 8)(w:World):Rt 246 #[.agg (aa 32 f)] w (.bool (decide (leN f<Qo))):=by
 have hL:=Loc.nil w;haveI f0:FnC 270 #[.agg (aa 32 f)] (.agg (am (leN f))):=inferInstance;haveI f1:FnC 279 #[] (.agg (am Qo)):=inferInstance;haveI f2:FnC 278 #[.agg (am (leN f)),.agg (am Qo)] (.bool (decide (leN f<Qo))):=⟨BZ _ _ (fh f) yN⟩;generalize decide (leN f<Qo)=c at *
 generalize leN f=n,Qo=q at *
 go_enter func246,ntmps246;go_wp2_with (first|(refine gBp 1 ?_;clear hL;intro b1 w1 hL)|(refine aQq ?_;clear hL;intro _ w1 hL));go_ret;exact⟨rfl,hL.bel⟩
instance Jk:Ent 246:=eo func246
instance Jl(f:Nat→BitVec 8):FnC 246 #[.agg (aa 32 f)] (.bool (decide (leN f<Qo))):=⟨Ao f⟩
end
section
open Go.RowKit
def uv(x:Nat→Nat):Nat→Nat
 | 0=>0
 | n+1=>uv x n+x n*2^(64*n)
theorem Cm{x:Nat→Nat}(hx:∀i,x i<2^64):∀n,uv x n<2^(64*n)
 | 0=>by simp[uv]
 | n+1=>by
  have h:=Cm hx n;have h2:=hx n;show uv x n+x n*2^(64*n)<_;rw[Nat.mul_succ,Nat.pow_add];have:x n*2^(64*n)≤(2^64-1)*2^(64*n):=Nat.mul_le_mul_right _ (by omega);have:2^(64*n)*2^64=(2^64-1)*2^(64*n)+2^(64*n):=by rw[Nat.mul_comm,← Nat.succ_mul]
  omega
theorem Cn{x:Nat→Nat}(hx:∀i,x i<2^64):∀n t,t<64*n→uv x n/2^t%2=x (t/64)/2^(t%64)%2
 | 0,t,h=>by omega
 | n+1,t,h=>by
  show(uv x n+x n*2^(64*n))/2^t%2=_;by_cases ht:t<64*n
  ·obtain⟨d,hd⟩:∃d,64*n=t+(d+1):=⟨64*n-t-1,by omega⟩
   rw[← Cn hx n t ht,hd,Nat.pow_add,Nat.mul_left_comm,Nat.add_mul_div_left _ _ (Nat.two_pow_pos _),Nat.pow_succ,← Nat.mul_assoc,Nat.add_mul_mod_self_right]
  ·obtain⟨r,rfl⟩:∃r,t=64*n+r:=⟨t-64*n,by omega⟩
   rw[Nat.pow_add,← Nat.div_div_eq_div_mul,Nat.mul_comm (x n),Nat.add_mul_div_left _ _ (Nat.two_pow_pos _),Nat.div_eq_of_lt (Cm hx n),Nat.zero_add,show(64*n+r)/64=n from by omega,show(64*n+r)%64=r from by omega]
theorem Co(N L j:Nat)(hj:j<L):N/2^(L-(j+1))%Qo=(2*(N/2^(L-j)%Qo)+N/2^(L-(j+1))%2)%Qo:=by
 have h:N/2^(L-j)=N/2^(L-(j+1))/2:=by rw[Nat.div_div_eq_div_mul,← Nat.pow_succ];congr 2;omega
 rw[h];generalize N/2^(L-(j+1))=a;rw[Nat.add_mod,Nat.mul_mod,Nat.mod_mod,← Nat.mul_mod,← Nat.add_mod];congr 1;omega
theorem Fe(m:Nat)(h:m<2*Qo):m%Qo=if m<Qo then m else m-Qo:=by
 by_cases hm:m<Qo
 ·rw[if_pos hm,Nat.mod_eq_of_lt hm]
 ·rw[if_neg hm,Nat.mod_eq_sub_mod (by omega),Nat.mod_eq_of_lt (by omega)]
theorem GZ(m b:Nat)(hb:b<2)(h2:m%2=0)(hm:m<18446744073709551616):bits .or .u64 (m:Int) (b:Int)=((m+b:Nat):Int):=by
 refine(bits_or_u64_nat m b hm (by omega)).trans ?_;congr 1;obtain⟨k,rfl⟩:∃k,m=2*k:=⟨m/2,by omega⟩;have:=Nat.shiftLeft_add_eq_or_of_lt (show b<2^1 from hb) k;rw[Nat.shiftLeft_eq,Nat.pow_one,Nat.mul_comm]at this;exact this.symm
theorem Ff(x r:Nat)(hx:x<2^64):bits .and .u64 ((x:Int)/2^r) 1=((x/2^r%2:Nat):Int):=by
 have e:((x:Int)/2^r)=((x/2^r:Nat):Int):=by norm_cast
 rw[e];refine(bits_and_u64_nat (x/2^r) 1 (Nat.lt_of_le_of_lt (Nat.div_le_self _ _) hx) (by omega)).trans ?_;rw[Nat.and_one_is_mod]
theorem sl(R b:Nat)(hb:b<2):row 4 (upd (lv (R+R)) 0 (.int .u64 (bits .or .u64 (lw (R+R) 0:Nat) (b:Int))))=am (R+R+b):=ak fun i hi=>by
 unfold upd;by_cases e:i=0
 ·subst e
  rw[if_pos rfl,GZ _ b hb (by unfold lw;omega) (dn _ _)];unfold lv lw;simp only[Nat.mul_zero,Nat.pow_zero,Nat.div_one];congr 2;omega
 ·rw[if_neg e]
  obtain⟨d,hd⟩:∃d,64*i=1+d:=⟨64*i-1,by omega⟩;unfold lv lw;rw[hd,Nat.pow_add,← Nat.div_div_eq_div_mul,← Nat.div_div_eq_div_mul,show(R+R)/2^1=(R+R+b)/2^1 from by omega]
class Was(w0:World)(b k:Nat)(v:outParam Value):Prop where
 cell:w0.cell? ⟨b,k,none⟩=some v
 lt:b<w0.heap.size
theorem Loc.was{w0 w:World}{M:Mem}(h:Loc w0 w M){b k:Nat}{v:Value}(hc:Was w0 b k v):w.cell? ⟨b,k,none⟩=some v:=(h.bel.cell hc.lt).trans hc.cell
section
variable {ops:Array Oper} {rest:List Oper} {l:List (Oper×Bool)} {R:Act→Prop} {o:Oper} {a:Act} {w0 w:World} {M M':Mem} {Q:Exit→Act→World→Prop}
theorem sW(hg:o.guard=none){t:TypeId}{x:Operand}(ho:o.op= .load t x){b k:Nat}(hx:a.eval x= .pointer (some ⟨b,k,none⟩)){v:Value}[ht:ScTy t][hc:Was w0 b k v](h:bu prog ops (fun w=>Loc w0 w M) l (a.put o.dst v) R):bu prog ops (fun w=>Loc w0 w M) ((o,false)::l) a R :=
 qL hg (fun w hS=>by
  unfold execOp;have:=cO (t:=t) (w:=w) (b:=b) (k:=k) (v:=v) (hS.was hc);simp only[ho,hx,Instr.loadAt,Instr.sureAddr,Sem.run_bind,Sem.run_pure,Result.andThen_ok,this]) h
theorem lW(hL:Loc w0 w M)(hg:o.guard=none){t:TypeId}{x:Operand}(ho:o.op= .load t x){b k:Nat}(hx:a.eval x= .pointer (some ⟨b,k,none⟩)){v:Value}[ht:ScTy t][hc:Was w0 b k v](h:∀w',Loc w0 w' M→wpList prog ops Q rest (a.put o.dst v) w'):wpList prog ops Q (o::rest) a w :=
 wpList_plain hg fun K hK=>by
  unfold Oper.wp execOp;have:=cO (t:=t) (w:=w) (b:=b) (k:=k) (v:=v) (hL.was hc);simp only[ho,hx,Instr.loadAt,Instr.sureAddr,Sem.run_bind,Sem.run_pure,Result.andThen_ok,this];exact hK _ _ (h w hL)
end
theorem ou(N s:Nat):N/2^s%Qo=(N/2^(s+1)%Qo+N/2^(s+1)%Qo+N/2^s%2)%Qo:=by
 have:=Co N (s+1) 0 (by omega);rw[show s+1-(0+1)=s from by omega,Nat.sub_zero,Nat.two_mul]at this;exact this
theorem Jm:0<Qo:=by decide +kernel
theorem Jn:Qo<2^255:=by decide +kernel
theorem wZ(x:Nat→Nat)(n c B:Nat)(w:World)(hx:∀i,x i<2^64)(hn:n≤8)(hn0:0<n)(hw:∀i,i<n→Was w B i (.int .u64 (x i:Nat))) :
 Rt 305 #[.slice (some ⟨B,0,none⟩) n c] w (.agg (am (uv x n%Qo))):=by
 have hL:=Loc.nil w;have z0:=Hd (show am 0=am (uv x n/2^(64*n)%Qo)from by rw[Nat.div_eq_of_lt (Cm hx n)];rfl);have hb:=fun t (h:t<64*n)=>Cn hx n t h;generalize uv x n=N at *
 have hn1:(n:Int)≤8:=by omega
 have HW:=Hd hw;have HX:=Hd hx;clear hw hx;go_enter func305,ntmps305;go_wp2_with (first|(refine gBp 2 ?_;clear hL;intro b2 w1 hL)|(refine gBp 3 ?_;clear hL;intro b3 w1 hL)|(refine aQq ?_;clear hL;intro _ w1 hL));go_loopw [4] (fun kk wr=>∃i:Nat,i≤64*n∧kk= .int .i64 ((i:Int)-1)∧Loc w wr [(b3,am (N/2^i%Qo),311),(b2,am 0,311)]) (fun kk _=>(intOf kk+1).toNat);case atStart=>exact⟨64*n,Nat.le_refl _,by go_num,by rw[← z0.out];exact hL⟩
 case round =>
  clear hL;obtain⟨i,hi,rfl,hL⟩:=hrel;by_cases hlt:0<i
  ·obtain⟨s,rfl⟩:∃s,i=s+1:=⟨i-1,by omega⟩
   rw[show((s+1:Nat):Int)-1=(s:Int)from by omega];have hd:=ou N s;rw[hb s (by omega)]at hd;have hR:N/2^(s+1)%Qo<Qo:=Nat.mod_lt _ Jm;have hg:=Ff (x (s/64)) (s%64) (HX.out _);have hb2:x (s/64)/2^(s%64)%2<2:=Nat.mod_lt _ (by omega);haveI g0:Was w B (s/64) (.int .u64 (x (s/64):Nat)):=HW.out _ (by omega);generalize N/2^(s+1)%Qo=R at *
   have gl:=sl R _ hb2;rw[← hg]at gl;haveI g1:Cell (am (R+R)) 0 (.int .u64 (lw (R+R) 0:Nat)):=aI _ (by omega);haveI g2:Put (am (R+R)) 0 (.int .u64 (bits .or .u64 (lw (R+R) 0:Nat) (bits .and .u64 ((x (s/64):Int)/2^(s%64)) 1))) (am (R+R+x (s/64)/2^(s%64)%2)):=a9 (by omega) gl;rw[Fe (R+R+x (s/64)/2^(s%64)%2) (by omega)]at hd;have hm:R+R+x (s/64)/2^(s%64)%2<2^256:=by have:=Jn;omega
   have hs:=fy _ Qo hm yN;have hbw:bw (R+R+x (s/64)/2^(s%64)%2) Qo 4=if R+R+x (s/64)/2^(s%64)%2<Qo then 1 else 0:=by
    unfold bw;rw[show 64*4=256 from rfl,Nat.mod_eq_of_lt hm,Nat.mod_eq_of_lt yN]
   generalize R+R+x (s/64)/2^(s%64)%2=m at *
   rw[← dQ (m+2^256-Qo)]at hs;rw[hbw]at hs;generalize x (s/64)=X at *
   have e1:(s:Int)/64=((s/64:Nat):Int):=by omega
   have e2:(s:Int)%64=((s%64:Nat):Int):=by omega
   have hq1:((s/64:Nat):Int)<(n:Int):=by omega
   have hr1:((s%64:Nat):Int)<64:=by omega
   have e3:(s:Int).tdiv 64=((s/64:Nat):Int):=by rw[Int.tdiv_eq_ediv_of_nonneg (by omega)];omega
   have e4:(s:Int).tmod 64=((s%64:Nat):Int):=by rw[Int.tmod_eq_emod_of_nonneg (by omega)];omega
   have hs0:(0:Int)≤(s:Int):=by omega
   have hs1:(s:Int)<512:=by omega
   have hq2:s/64<n:=by omega
   have hr2:s%64<64:=by omega
   have hmm:=Hd hm;clear hb hg hb2 gl hR hbw hm;generalize s/64=q,s%64=r at *
   have hq0:(0:Int)≤(q:Int):=by omega
   have hr0:(0:Int)≤(r:Int):=by omega
   have wq:IntKind.i64.wrap (q:Int)=(q:Int):=IntWalk.i64_in _ (by omega);have wr':IntKind.i64.wrap (r:Int)=(r:Int):=IntWalk.i64_in _ (by omega);by_cases hc:m<Qo
   ·rw[if_pos hc]at hs hd
    haveI fs:FnC 296 #[.agg (am m),.agg (am Qo)] (.tuple #[.agg (am ((m+2^256-Qo)%2^256)),.int .u64 1]):=⟨hs⟩;have HD:=Hd hd;clear hs hd hc;generalize(m+2^256-Qo)%2^256=d at *
    go_wp2_with (first|(refine aQq ?_;clear hL;intro _ w1 hL));refine wf [(0,true),(1,false),(2,true),(3,true),(4,true),(5,true),(6,false),(7,true),(8,true),(9,true),(10,true),(11,true),(12,true)] [] [13] hL ?_
    repeat(first|((with_reducible show bu _ _ _ (_::_) _ _);refine sW rfl rfl rfl ?_;refine p4 ?_)|refine rS ?_)
    refine aG ?_;refine fB ?_;clear hL;intro w1 hL;go_wp2_with (first|(refine aQq ?_;clear hL;intro _ w1 hL));refine ar [(0,false),(1,false),(2,false),(3,true),(4,true),(5,true)] [(6,_,311)] [7,8] (by kernel_rfl) (by kernel_rfl) ⟨⟨_,rfl,rfl,rfl⟩,inferInstance,trivial⟩ hL ?_;refine pF ?_;refine fA ?_;refine az fun b=>?_;refine fB ?_;clear hL;intro w1 hL;go_wp2_with fail;go_roundw;case rel=>exact⟨s,by omega,rfl,by rw[HD.out];exact hL.pop⟩
    case measure=>simp[intOf]
   ·rw[if_neg hc]at hs hd
    have he:(m+2^256-Qo)%2^256=m-Qo:=by
     have:=hmm.out;have:=yN;rw[show m+2^256-Qo=m-Qo+2^256 from by omega,Nat.add_mod_right,Nat.mod_eq_of_lt (by omega)]
    rw[he]at hs;haveI fs:FnC 296 #[.agg (am m),.agg (am Qo)] (.tuple #[.agg (am (m-Qo)),.int .u64 0]):=⟨hs⟩;have HD:=Hd hd;clear hs hd hc he;generalize m-Qo=d at *
    go_wp2_with (first|(refine aQq ?_;clear hL;intro _ w1 hL));refine wf [(0,true),(1,false),(2,true),(3,true),(4,true),(5,true),(6,false),(7,true),(8,true),(9,true),(10,true),(11,true),(12,true)] [] [13] hL ?_
    repeat(first|((with_reducible show bu _ _ _ (_::_) _ _);refine sW rfl rfl rfl ?_;refine p4 ?_)|refine rS ?_)
    refine aG ?_;refine fB ?_;clear hL;intro w1 hL;go_wp2_with (first|(refine aQq ?_;clear hL;intro _ w1 hL));refine ar [(0,false),(1,false),(2,false),(3,true),(4,true),(5,true)] [(6,_,311)] [7,8] (by kernel_rfl) (by kernel_rfl) ⟨⟨_,rfl,rfl,rfl⟩,inferInstance,trivial⟩ hL ?_;refine pF ?_;refine fA ?_;refine az fun b=>?_;refine fB ?_;clear hL;intro w1 hL;go_wp2_with (first|(refine aQq ?_;clear hL;intro _ w1 hL));go_roundw;case rel=>exact⟨s,by omega,rfl,by rw[HD.out];exact hL.pop⟩
    case measure=>simp[intOf]
  ·obtain rfl:i=0:=by omega
   rw[Nat.pow_zero,Nat.div_one]at hL;go_wp2_with (first|(refine aQq ?_;clear hL;intro _ w1 hL));exact bodyPost_ret (ai rfl hL rfl) rfl ⟨rfl,hL.bel⟩
end
section
open Go.RowKit Go.Shelf
def VRow(w:World)(v:Value)(ys:List Value):Prop :=
 (∀u∈ys,u.oneCell'=true)∧∃a c,v= .slice a ys.length c∧(a=none→c=0)∧(0<ys.length→∃b off,a=some ⟨b,off,none⟩∧b<w.heap.size∧∀(i:Nat) (h:i<ys.length),w.cell? ⟨b,off+i,none⟩=some ys[i])
theorem aq(l:List (BitVec 8)):(an l).length=l.length:=List.length_map _
theorem dY(l m:List (BitVec 8)):an (l++m)=an l++an m:=List.map_append
theorem bY(l:List (BitVec 8)):∀u∈an l,u.oneCell'=true:=fun u hu=>by
 obtain⟨y,_,rfl⟩:=List.mem_map.1 hu;rfl
theorem BRow.vrow{w:World}{v:Value}{l:List (BitVec 8)}(h:BRow w v l):VRow w v (an l):=by
 obtain⟨a,c,rfl,hn,hp⟩:=h;refine⟨bY l,a,c,by rw[aq],hn,fun h0=>?_⟩;rw[aq]at h0;obtain⟨b,off,e,hb,hc⟩:=hp h0;exact⟨b,off,e,hb,fun i hi=>(hc i (by rwa[aq]at hi)).trans (by simp[an])⟩
theorem VRow.brow{w:World}{v:Value}{l:List (BitVec 8)}(h:VRow w v (an l)):BRow w v l:=by
 obtain⟨_,a,c,rfl,hn,hp⟩:=h;refine⟨a,c,by rw[aq],hn,fun h0=>?_⟩;obtain⟨b,off,e,hb,hc⟩:=hp (by rwa[aq]);exact⟨b,off,e,hb,fun i hi=>(hc i (by rwa[aq])).trans (by simp[an])⟩
theorem VRow.below{w w':World}{v:Value}{ys:List Value}(h:VRow w v ys)(hb:Below w.heap.size w w'):VRow w' v ys:=by
 obtain⟨h1,a,c,rfl,hn,h⟩:=h;refine⟨h1,a,c,rfl,hn,fun h0=>?_⟩;obtain⟨b,off,rfl,h1,h2⟩:=h h0;exact⟨b,off,rfl,Nat.lt_of_lt_of_le h1 hb.size,fun i hi=>(hb.cell (p:=⟨b,off+i,none⟩) h1).trans (h2 i hi)⟩
class Seg(r:Array Value)(off n:Nat)(ys:outParam (List Value)):Prop where
 len:ys.length=n
 one:∀u∈ys,u.oneCell'=true
 seg:∀(i:Nat) (h:i<ys.length),r[off+i]?=some ys[i]
class Arg(w0:World)(v:Value)(ys:outParam (List Value)):Prop where
 arg:VRow w0 v ys
class See(w0:World)(M:Mem)(v:Value)(ys:outParam (List Value)):Prop where
 see:∀w,Loc w0 w M→VRow w v ys
instance ov(w0:World)(M:Mem):See w0 M (.slice none 0 0) []:=⟨fun w _=>⟨fun u hu=>(List.not_mem_nil hu).elim,none,0,rfl,fun _=>rfl,fun h=>absurd h (by simp)⟩⟩
instance Lq(w0:World)(M:Mem)(v:Value)(ys:List Value)[h:Arg w0 v ys]:See w0 M v ys:=⟨fun w hL=>h.arg.below hL.bel⟩
instance Nf(w0:World)(M:Mem)(g off n c:Nat)(cur:Array Value)(e:TypeId)(ys:List Value)[hm:At M g cur e][hs:Seg cur off n ys]:See w0 M (.slice (some ⟨g,off,none⟩) n c) ys :=
 ⟨fun w hL=>⟨hs.one,some ⟨g,off,none⟩,c,by rw[hs.len],fun h=>(by cases h),fun _=>⟨g,off,rfl,hL.lt hm.mem,fun i hi=>by
  rw[cell_of_row w g _ _ _ _ (hL.get hm.mem)];exact hs.seg i hi⟩⟩⟩
theorem See.bytes{w0 w:World}{M:Mem}{v:Value}{l:List (BitVec 8)}(hL:Loc w0 w M)[h:See w0 M v (an l)]:BRow w v l:=(h.see w hL).brow
def ae(n:Nat)(f:Nat→BitVec 8):List (BitVec 8):=(List.range n).map f
theorem ag(n:Nat)(f:Nat→BitVec 8):(ae n f).length=n:=by simp[ae]
theorem segB{n:Nat}(f:Nat→BitVec 8)(off m:Nat)(h:off+m≤n):Seg (aa n f) off m (an (ae m fun i=>f (off+i))) where
 len:=by rw[aq,ag]
 one:=bY _
 seg:=fun i hi=>by
  rw[aq,ag]at hi;rw[show(an (ae m fun i=>f (off+i)))[i]=Value.int .u8 (B8 (f (off+i)))from by simp[an,ae]];exact bI (fun i=>Value.int .u8 (B8 (f i))) (show off+i<n by omega)
instance fT(n:Nat)(f:Nat→BitVec 8):Seg (aa n f) 0 n (an (ae n f)):=by
 have:=segB (n:=n) f 0 n (by omega);simpa using this
class OwnR(cur:Array Value)(n:Nat)(cap:outParam Nat)(xs:outParam (List Value)):Prop where
 len:xs.length=n
 one:∀u∈xs,u.oneCell'=true
 size:cur.size=cap
 le:n≤cap
 max:cap≤maxLen
 take:cur.toList.take n=xs
theorem OwnR.cell{cur:Array Value}{n cap:Nat}{xs:List Value}(h:OwnR cur n cap xs){i:Nat}(hi:i<xs.length):cur[i]?=some xs[i]:=by
 have h1:cur.toList[i]?=(cur.toList.take n)[i]?:=by rw[List.getElem?_take_of_lt (by rw[← h.len];exact hi)]
 rw[← Array.getElem?_toList,h1,h.take,List.getElem?_eq_getElem hi]
instance xa(cur:Array Value)(n cap:Nat)(xs:List Value)[h:OwnR cur n cap xs]:Seg cur 0 n xs :=
 ⟨h.len,h.one,fun i hi=>by rw[Nat.zero_add];exact h.cell hi⟩
theorem OwnR.seg{cur:Array Value}{n cap:Nat}{xs:List Value}(h:OwnR cur n cap xs)(off m:Nat)(hm:off+m≤n):Seg cur off m ((xs.drop off).take m) where
 len:=by rw[List.length_take,List.length_drop,h.len];omega
 one:=fun u hu=>h.one u (List.mem_of_mem_drop (List.mem_of_mem_take hu))
 seg:=fun i hi=>by
  rw[List.length_take,List.length_drop,h.len]at hi;rw[h.cell (i:=off+i) (by rw[h.len];omega)];simp
theorem OwnR.cellB{cur:Array Value}{n cap:Nat}{l:List (BitVec 8)}(h:OwnR cur n cap (an l)){i:Nat}(hi:i<l.length):Cell cur i (.int .u8 (B8 l[i])) :=
 ⟨by rw[h.cell (i:=i) (by rwa[aq])];simp[an]⟩
class Elt(t:TypeId)(e:outParam TypeId):Prop where
 und:prog.underlying t=some (.slice e)
 info:∃i z,prog.info? e=some i∧i.zero=some z∧i.size=1∧i.bytes≤1000∧z.cells.size=1
theorem sm{t e:TypeId}{z:Value}{k:Nat}(hu:prog.underlying t=some (.slice e))(hi:(prog.info? e).map (fun i=>(i.zero,i.size,i.bytes))=some (some z,1,k))(hk:k≤1000)(hz:z.cells.size=1):Elt t e:=by
 obtain⟨i,h1,h2,h3,h4⟩:=info_parts hi;exact⟨hu,i,z,h1,h2,h3,by rw[h4];exact hk,hz⟩
instance R4:Elt 29 5:=sm underlying29 sf (by omega) rfl
class Reps(M:Mem)(g:Nat)(F:outParam (Nat→Array Value→Mem)):Prop where
 reps:∃L R cur e,M=L++(g,cur,e)::R∧∀g' c',F g' c'=L++(g',c',e)::R
instance R5(M:Mem)(g:Nat)(cur:Array Value)(e:TypeId):Reps ((g,cur,e)::M) g (fun g' c'=>(g',c',e)::M):=⟨[],M,cur,e,rfl,fun _ _=>rfl⟩
instance R6(x:Nat×Array Value×TypeId)(M:Mem)(g:Nat)(F:Nat→Array Value→Mem)[h:Reps M g F]:Reps (x::M) g (fun g' c'=>x::F g' c'):=by
 obtain⟨L,R,cur,e,h1,h2⟩:=h.reps;exact⟨x::L,R,cur,e,by rw[h1];rfl,fun g' c'=>by rw[h2];rfl⟩
theorem Loc.reps{w0 w w':World}{M:Mem}(h:Loc w0 w M){g:Nat}{cur:Array Value}{e:TypeId}(hm:(g,cur,e)∈M){F:Nat→Array Value→Mem}(hf:Reps M g F)(hg:w.grownBy w' (some g)){g':Nat}{cur':Array Value}(hc:w'.heap[g']?=some (.cells cur' e (0,0)))(hn:g'=g∨w.heap.size≤g'):Loc w0 w' (F g' cur'):=by
 obtain⟨L,R,cur2,e2,rfl,hF⟩:=hf.reps;have hnd:=h.nd;have hm2:(g,cur2,e2)∈L++(g,cur2,e2)::R:=by simp
 have ee:e2=e:=by
  have a:=h.get hm;rw[h.get hm2]at a;cases a;rfl
 subst ee;have hge:=h.ge hm2;have hsz:=h.bel.size;rw[hF];simp only[List.map_append,List.map_cons,List.pairwise_append,List.pairwise_cons,List.mem_cons,List.mem_map]at hnd;obtain⟨p1,⟨p2,p3⟩,p4⟩:=hnd;have far:∀b r t,((b,r,t)∈L∨(b,r,t)∈R)→b≠g∧b≠g'∧w0.heap.size≤b∧w'.heap[b]?=some (.cells r t (0,0)):=by
  intro b r t hb;have hbm:(b,r,t)∈L++(g,cur2,e2)::R:=by rcases hb with hb|hb <;> simp[hb]
  have n1:b≠g:=by
   rcases hb with hb|hb
   ·exact p4 b ⟨_,hb,rfl⟩ g (.inl rfl)
   ·exact fun e=>p2 b ⟨_,hb,rfl⟩ e.symm
  have hlt:=h.lt hbm;refine⟨n1,by omega,h.ge hbm,?_⟩;rw[hg.block b hlt (fun e=>n1 (by injection e))];exact h.get hbm
 refine⟨h.bel.grown hg hsz (fun k hk=>by cases hk;exact hge),fun b r t hb=>?_,?_⟩
 ·rw[List.mem_append,List.mem_cons]at hb
  rcases hb with hb|hb|hb
  ·exact(far b r t (.inl hb)).2.2
  ·cases hb;exact⟨by omega,hc⟩
  ·exact(far b r t (.inr hb)).2.2
 ·simp only[List.map_append,List.map_cons,List.pairwise_append,List.pairwise_cons,List.mem_cons,List.mem_map]
  refine⟨p1,⟨?_,p3⟩,?_⟩
  ·rintro b⟨⟨b,r,t⟩,hb,rfl⟩
   exact(far b r t (.inr hb)).2.1.symm
  ·rintro b⟨⟨b,r,t⟩,hb,rfl⟩ c hc'
   rcases hc' with rfl|⟨x,hx,rfl⟩
   ·exact(far b r t (.inl hb)).2.1
   ·exact p4 b ⟨_,hb,rfl⟩ x.1 (.inr ⟨x,hx,rfl⟩)
theorem Loc.fresh{w0 w w':World}{M:Mem}(h:Loc w0 w M)(hb:Below w.heap.size w w'){g:Nat}{cur:Array Value}{e:TypeId}(hg:w.heap.size≤g)(hc:w'.heap[g]?=some (.cells cur e (0,0))):Loc w0 w' ((g,cur,e)::M):=by
 have h1:=h.keep hb;have hsz:=h.bel.size;refine⟨h1.bel,fun b r t hm=>?_,?_⟩
 ·cases hm with
  | head=>exact⟨by omega,hc⟩
  | tail _ hm=>exact h1.ok b r t hm
 ·refine List.Pairwise.cons (fun b hb=>?_) h1.nd
  obtain⟨⟨b',r',t'⟩,hm,rfl⟩:=List.mem_map.1 hb;have:=h.lt hm;simp only;omega
section
variable {w:World}
theorem ji{t ty e:TypeId}[he:Elt t e]{g n cap:Nat}{cur:Array Value}{xs:List Value}(hr:OwnR cur n cap xs)(hg:w.heap[g]?=some (.cells cur e (0,0))){v:Value}{ys:List Value}(hy:VRow w v ys)(hsz:n+ys.length≤100000000000) :
 ∃g' cap' cur' w',(Builtin.append_ #[t,t] ty #[.slice (some ⟨g,0,none⟩) n cap,v]).run prog w= .ok (.slice (some ⟨g',0,none⟩) (n+ys.length) cap') w' ∧
  OwnR cur' (n+ys.length) cap' (xs++ys)∧w.grownBy w' (some g)∧w'.heap[g']?=some (.cells cur' e (0,0))∧(g'=g∨w.heap.size≤g'):=by
 obtain⟨i,z,hi,hz,hs1,hb,hzs⟩:=he.info;have hone:∀u∈xs++ys,u.oneCell'=true:=fun u hu=>by
  rcases List.mem_append.1 hu with h|h
  ·exact hr.one u h
  ·exact hy.1 u h
 have hown:w.ownsRow 0 e 1 (.slice (some ⟨g,0,none⟩) n cap) n xs:=⟨by rw[hr.len];omega,.inr ⟨g,cap,cur,rfl,Nat.zero_le _,hg,hr.le,hr.max,by rw[hr.size];omega,by rw[Nat.mul_one];exact hr.take⟩⟩;obtain⟨hy1,a,c,rfl,hn,hp⟩:=hy;cases a with
 | none =>
  have hl:ys=[]:=by
   rcases Nat.eq_zero_or_pos ys.length with h0|h0
   ·exact List.eq_nil_of_length_eq_zero h0
   ·obtain⟨_,_,hc,_⟩:=hp h0;cases hc
  subst hl;rw[hn rfl];refine⟨g,cap,cur,w,run_append_owned_none (P:=prog) (w:=w) 0 t ty e i 1 he.und hi _ _ _ hown,?_,⟨rfl,rfl,rfl,Nat.le_refl _,fun _ _ _=>rfl⟩,hg,.inl rfl⟩;rw[List.append_nil];exact hr
 | some ad =>
  have hcells:∀j u,ys[j]?=some u→w.cell? (ad.add j)=some u:=fun j u hj=>by
   have hjl:j<ys.length:=by
    rcases Nat.lt_or_ge j ys.length with h|h
    ·exact h
    ·rw[List.getElem?_eq_none h]at hj;cases hj
   obtain⟨b,off,hc,_,hcell⟩:=hp (by omega);cases hc
   rw[Addr.add_mid,hcell j hjl,← hj,List.getElem?_eq_getElem hjl]
  by_cases hroom:n+ys.length≤cap
  ·have hfit:n*i.size+ys.length≤cur.size:=by rw[hs1,hr.size];omega
   have hrun:=run_append_room (P:=prog) w t ty e i he.und hi g n cap cur hg ad ys.length c ys (by rw[hs1,Nat.mul_one]) hcells hy1 hroom hfit;rw[hs1,Nat.mul_one]at hrun;refine⟨g,cap,_,_,hrun,⟨by rw[List.length_append,hr.len],hone,?_,hroom,hr.max,?_⟩,⟨rfl,rfl,rfl,by simp,fun k _ hk=>setRow_other w g k _ (fun e=>hk (by rw[e]))⟩,setRow_heap w g cur _ e _ hg,.inl rfl⟩
   ·simp only[List.size_toArray,List.length_append,List.length_take,List.length_drop,Array.length_toList,hr.size]
    have:=hr.le;omega
   ·rw[hr.take]
    have:n+ys.length=(xs++ys).length:=by rw[List.length_append,hr.len]
    rw[this];exact List.take_left
  ·have hrun:=run_append_grow (P:=prog) w t ty e i z he.und hi hz ⟨g,0,none⟩ n cap xs (by rw[hs1,hr.len,Nat.mul_one]) (hown.cells (g:=g) rfl) ad ys.length c ys (by rw[hs1,Nat.mul_one]) hcells (by omega) (by omega)
    (growslice_fits (by omega) (Nat.le_trans (Nat.mul_le_mul_left _ hb) (by omega)))
   have hge:=grownCap_ge w (n+ys.length) cap e;refine⟨_,_,_,_,hrun,⟨by rw[List.length_append,hr.len],hone,?_,hge,grownCap_le_maxLen w _ _ e (by unfold maxLen;omega),?_⟩,⟨rfl,rfl,rfl,by simp,fun k hk _=>heap_alloc_old w.drew _ hk⟩,heap_alloc_new w.drew _,.inr (Nat.le_refl _)⟩
   ·simp only[Array.size_append,List.size_toArray,size_zeroCells,hzs,hr.len]
    omega
   ·have:n+ys.length=(xs++ys).length:=by rw[List.length_append,hr.len]
    rw[this];simp only[Array.toList_append,List.append_assoc];rw[← List.append_assoc];exact List.take_left
theorem jk{t ty e:TypeId}[he:Elt t e]{v:Value}{ys:List Value}(hy:VRow w v ys)(h0:0<ys.length)(hsz:ys.length≤100000000000) :
 ∃g' cap' cur' w',(Builtin.append_ #[t,t] ty #[.slice none 0 0,v]).run prog w= .ok (.slice (some ⟨g',0,none⟩) ys.length cap') w' ∧
  OwnR cur' ys.length cap' ys∧Below w.heap.size w w'∧w'.heap[g']?=some (.cells cur' e (0,0))∧w.heap.size≤g':=by
 obtain⟨i,z,hi,hz,hs1,hb,hzs⟩:=he.info;obtain⟨hy1,a,c,rfl,hn,hp⟩:=hy;obtain⟨b,off,rfl,hbl,hcell⟩:=hp h0;have hrun:=run_append_nil (P:=prog) w t ty e i z he.und hi hz ⟨b,off,none⟩ ys.length c ys (by rw[hs1,Nat.mul_one]) (fun j u hj=>by
  have hjl:j<ys.length:=by
   rcases Nat.lt_or_ge j ys.length with h|h
   ·exact h
   ·rw[List.getElem?_eq_none h]at hj;cases hj
  rw[Addr.add_mid,hcell j hjl,← hj,List.getElem?_eq_getElem hjl]) h0 (by omega) (Nat.le_trans (Nat.mul_le_mul_left _ hb) (by omega))
 have hge:=grownCap_ge w ys.length 0 e;refine⟨_,_,_,_,hrun,⟨rfl,hy1,?_,hge,grownCap_le_maxLen w _ _ e (by unfold maxLen;omega),?_⟩,⟨rfl,rfl,rfl,by simp,fun k hk=>heap_alloc_old w.drew _ hk⟩,heap_alloc_new w.drew _,Nat.le_refl _⟩
 ·simp only[Array.size_append,List.size_toArray,size_zeroCells,hzs]
  omega
 ·simp only[Array.toList_append]
  exact List.take_left
end
section
variable {ops:Array Oper} {rest:List Oper} {o:Oper} {a:Act} {w0 w:World} {M M':Mem} {Q:Exit→Act→World→Prop}
theorem See.len{w0 w:World}{M:Mem}{p:Option Addr}{k cc:Nat}{ys:List Value}(hL:Loc w0 w M)(hy:See w0 M (.slice p k cc) ys):k=ys.length:=by
 obtain⟨_,a',c',e,_⟩:=hy.see w hL;cases e;rfl
theorem G0(hL:Loc w0 w M)(hg:o.guard=none){s x:Operand}{t e:TypeId}(ho:o.op= .call { callee:= .builtin .append,args:= #[s,x],argTypes:= #[t,t] })[he:Elt t e]{g n cap:Nat}(hs:a.eval s= .slice (some ⟨g,0,none⟩) n cap){cur:Array Value}[hm:At M g cur e]{xs:List Value}[hr:OwnR cur n cap xs]{F:Nat→Array Value→Mem}[hf:Reps M g F]{p:Option Addr}{k cc:Nat}(hx:a.eval x= .slice p k cc){ys:List Value}[hy:See w0 M (.slice p k cc) ys](hsz:n+k≤100000000000)(h:∀g' cap' cur' w',OwnR cur' (n+k) cap' (xs++ys)→Loc w0 w' (F g' cur')→wpList prog ops Q rest (a.put o.dst (.slice (some ⟨g',0,none⟩) (n+k) cap')) w'):wpList prog ops Q (o::rest) a w :=
 wpList_plain hg fun K hK=>by
  obtain rfl:=hy.len hL;obtain⟨g',cap',cur',w',hrun,h1,h2,h3,h4⟩:=ji (t:=t) (ty:=o.type) hr (hL.get hm.mem) (hy.see w hL) hsz;unfold Oper.wp execOp;simp only[ho,resolve,invoke,builtin,Sem.run_bind,Sem.run_pure,Result.andThen_ok,List.map_toArray,List.map_cons,List.map_nil,hs,hx,hrun];exact hK _ _ (h g' cap' cur' w' h1 (hL.reps hm.mem hf h2 h3 h4))
theorem Jo(hL:Loc w0 w M)(hg:o.guard=none){s x:Operand}(ho:o.op= .call { callee:= .builtin .append,args:= #[s,x],argTypes:= #[29,29] }){g n cap:Nat}(hs:a.eval s= .slice (some ⟨g,0,none⟩) n cap){cur:Array Value}[hm:At M g cur 5]{xs:List (BitVec 8)}[hr:OwnR cur n cap (an xs)]{F:Nat→Array Value→Mem}[hf:Reps M g F]{p:Option Addr}{k cc:Nat}(hx:a.eval x= .slice p k cc){ys:List (BitVec 8)}[hy:See w0 M (.slice p k cc) (an ys)](hsz:n+k≤100000000000)(h:∀g' cap' cur' w',OwnR cur' (n+k) cap' (an (xs++ys))→Loc w0 w' (F g' cur')→wpList prog ops Q rest (a.put o.dst (.slice (some ⟨g',0,none⟩) (n+k:Nat) cap')) w'):wpList prog ops Q (o::rest) a w :=
 G0 hL hg ho hs hx hsz fun g' cap' cur' w' h1 h2=>by
  rw[← dY]at h1;exact h g' cap' cur' w' h1 h2
theorem Cp(hL:Loc w0 w M)(hg:o.guard=none){s x:Operand}{t e:TypeId}(ho:o.op= .call { callee:= .builtin .append,args:= #[s,x],argTypes:= #[t,t] })[he:Elt t e](hs:a.eval s= .slice none 0 0){p:Option Addr}{k cc:Nat}(hx:a.eval x= .slice p k cc){ys:List Value}[hy:See w0 M (.slice p k cc) ys](h0:0<k)(hsz:k≤100000000000)(h:∀g' cap' cur' w',OwnR cur' k cap' ys→Loc w0 w' ((g',cur',e)::M)→wpList prog ops Q rest (a.put o.dst (.slice (some ⟨g',0,none⟩) k cap')) w'):wpList prog ops Q (o::rest) a w :=
 wpList_plain hg fun K hK=>by
  obtain rfl:=hy.len hL;obtain⟨g',cap',cur',w',hrun,h1,h2,h3,h4⟩:=jk (t:=t) (ty:=o.type) (hy.see w hL) h0 hsz;unfold Oper.wp execOp;simp only[ho,resolve,invoke,builtin,Sem.run_bind,Sem.run_pure,Result.andThen_ok,List.map_toArray,List.map_cons,List.map_nil,hs,hx,hrun];exact hK _ _ (h g' cap' cur' w' h1 (hL.fresh h2 h4 h3))
theorem mG(hL:Loc w0 w M)(hg:o.guard=none){s x:Operand}(ho:o.op= .call { callee:= .builtin .append,args:= #[s,x],argTypes:= #[29,29] })(hs:a.eval s= .slice none 0 0){p:Option Addr}{k cc:Nat}(hx:a.eval x= .slice p k cc){ys:List (BitVec 8)}[hy:See w0 M (.slice p k cc) (an ys)](h0:0<k)(hsz:k≤100000000000)(h:∀g' cap' cur' w',OwnR cur' k cap' (an ys)→Loc w0 w' ((g',cur',5)::M)→wpList prog ops Q rest (a.put o.dst (.slice (some ⟨g',0,none⟩) k cap')) w'):wpList prog ops Q (o::rest) a w :=
 Cp hL hg ho hs hx h0 hsz h
end
end
section
open Go.RowKit Go.Shelf
theorem fF{v:Value}(h:v.oneCell'=true):v.cells= #[v]:=by cases v <;> first|rfl|cases h
instance gB(x:BitVec 8):Seg #[.int .u8 (B8 x)] 0 1 (an [x]):=⟨rfl,bY _,fun i hi=>by
 have:i=0:=by simpa[an] using hi
 subst this;rfl⟩
section
variable {ops:Array Oper} {rest:List Oper} {o:Oper} {a:Act} {w0 w:World} {M M':Mem} {Q:Exit→Act→World→Prop}
theorem Jp(hL:Loc w0 w M)(hg:o.guard=none){t e:TypeId}{x:Operand}(ho:o.op= .buildSlice t 1 #[(0,x)])[he:Elt t e]{v:Value}(hx:a.eval x=v)(h1:v.oneCell'=true)(h:∀b w',Loc w0 w' ((b, #[v],e)::M)→wpList prog ops Q rest (a.put o.dst (.slice (some ⟨b,0,none⟩) 1 1)) w'):wpList prog ops Q (o::rest) a w :=
 wpList_plain hg fun K hK=>by
  obtain⟨i,z,hi,hz,hs1,hb,hzs⟩:=he.info;refine wp_buildSlice t e 1 #[(0,x)] ho #[v] i z he.und hi hz (by rw[hs1];decide) (by rw[hs1];decide) ?_ (hK _ _ (h _ _ (hL.alloc #[v] e)));rw[hs1];have e:(Array.map (fun(y:Nat×Operand)=>(y.1,a.eval y.2)) #[(0,x)]).toList=[(0,v)]:=by simp[hx]
  rw[e];have e1:Array.range 1= #[0]:=rfl;simp[Instr.fill,fF h1,e1]
theorem Gn(hL:Loc w0 w M)(hg:o.guard=none){t e:TypeId}{x:Operand}(ho:o.op= .buildSlice t 1 #[(0,x)])[he:Elt t e]{d:IntKind}{n:Int}(hx:a.eval x= .int d n)(h:∀b w',Loc w0 w' ((b, #[.int d n],e)::M)→wpList prog ops Q rest (a.put o.dst (.slice (some ⟨b,0,none⟩) 1 1)) w'):wpList prog ops Q (o::rest) a w:=Jp hL hg ho hx rfl h
theorem yO(hL:Loc w0 w M)(hg:o.guard=none){t e:TypeId}{x:Operand}(ho:o.op= .buildSlice t 1 #[(0,x)])[he:Elt t e]{p:Option Addr}{n c:Nat}(hx:a.eval x= .slice p n c)(h:∀b w',Loc w0 w' ((b, #[.slice p n c],e)::M)→wpList prog ops Q rest (a.put o.dst (.slice (some ⟨b,0,none⟩) 1 1)) w'):wpList prog ops Q (o::rest) a w:=Jp hL hg ho hx rfl h
theorem Jq(hL:Loc w0 w M)(hg:o.guard=none){t e:TypeId}{x y:Operand}(ho:o.op= .buildSlice t 2 #[(0,x),(1,y)])[he:Elt t e]{v u:Value}(hx:a.eval x=v)(hy:a.eval y=u)(h1:v.oneCell'=true)(h2:u.oneCell'=true)(h:∀b w',Loc w0 w' ((b, #[v,u],e)::M)→wpList prog ops Q rest (a.put o.dst (.slice (some ⟨b,0,none⟩) 2 2)) w'):wpList prog ops Q (o::rest) a w :=
 wpList_plain hg fun K hK=>by
  obtain⟨i,z,hi,hz,hs1,hb,hzs⟩:=he.info;refine wp_buildSlice t e 2 #[(0,x),(1,y)] ho #[v,u] i z he.und hi hz (by rw[hs1];decide) (by rw[hs1];decide) ?_ (hK _ _ (h _ _ (hL.alloc #[v,u] e)));rw[hs1];have e:(Array.map (fun(y:Nat×Operand)=>(y.1,a.eval y.2)) #[(0,x),(1,y)]).toList=[(0,v),(1,u)]:=by simp[hx,hy]
  rw[e];have e1:Array.range 2= #[0,1]:=rfl;simp[Instr.fill,fF h1,fF h2,e1]
theorem Lr(hL:Loc w0 w M)(hg:o.guard=none){t e:TypeId}{x y z':Operand}(ho:o.op= .buildSlice t 3 #[(0,x),(1,y),(2,z')])[he:Elt t e]{v u s:Value}(hx:a.eval x=v)(hy:a.eval y=u)(hz':a.eval z'=s)(h1:v.oneCell'=true)(h2:u.oneCell'=true)(h3:s.oneCell'=true)(h:∀b w',Loc w0 w' ((b, #[v,u,s],e)::M)→wpList prog ops Q rest (a.put o.dst (.slice (some ⟨b,0,none⟩) 3 3)) w'):wpList prog ops Q (o::rest) a w :=
 wpList_plain hg fun K hK=>by
  obtain⟨i,z,hi,hz,hs1,hb,hzs⟩:=he.info;refine wp_buildSlice t e 3 #[(0,x),(1,y),(2,z')] ho #[v,u,s] i z he.und hi hz (by rw[hs1];decide) (by rw[hs1];decide) ?_ (hK _ _ (h _ _ (hL.alloc #[v,u,s] e)));rw[hs1];have e:(Array.map (fun(y:Nat×Operand)=>(y.1,a.eval y.2)) #[(0,x),(1,y),(2,z')]).toList=[(0,v),(1,u),(2,s)]:=by simp[hx,hy,hz']
  rw[e];have e1:Array.range 3= #[0,1,2]:=rfl;simp[Instr.fill,fF h1,fF h2,fF h3,e1]
theorem Jr(hL:Loc w0 w M)(hg:o.guard=none){t e:TypeId}{x y:Operand}(ho:o.op= .buildSlice t 2 #[(0,x),(1,y)])[he:Elt t e]{p q:Option Addr}{n c n' c':Nat}(hx:a.eval x= .slice p n c)(hy:a.eval y= .slice q n' c')(h:∀b w',Loc w0 w' ((b, #[.slice p n c,.slice q n' c'],e)::M)→wpList prog ops Q rest (a.put o.dst (.slice (some ⟨b,0,none⟩) 2 2)) w'):wpList prog ops Q (o::rest) a w:=Jq hL hg ho hx hy rfl rfl h
theorem Js(hL:Loc w0 w M)(hg:o.guard=none){t e:TypeId}{x y z':Operand}(ho:o.op= .buildSlice t 3 #[(0,x),(1,y),(2,z')])[he:Elt t e]{p q r:Option Addr}{n c n' c' n2 c2:Nat}(hx:a.eval x= .slice p n c)(hy:a.eval y= .slice q n' c')(hz':a.eval z'= .slice r n2 c2)(h:∀b w',Loc w0 w' ((b, #[.slice p n c,.slice q n' c',.slice r n2 c2],e)::M)→wpList prog ops Q rest (a.put o.dst (.slice (some ⟨b,0,none⟩) 3 3)) w'):wpList prog ops Q (o::rest) a w:=Lr hL hg ho hx hy hz' rfl rfl rfl h
end
class Spl(cur:Array Value)(off:Nat)(ys:List Value)(cur':outParam (Array Value)):Prop where
 fit:off+ys.length≤cur.size
 spl:(cur.toList.take off++(ys++cur.toList.drop (off+ys.length))).toArray=cur'
theorem mH{n off m:Nat}(f g h:Nat→BitVec 8)(hm:off+m≤n)(e:∀i,i<n→(if off≤i∧i<off+m then g (i-off)else f i)=h i):Spl (aa n f) off (an (ae m g)) (aa n h) where
 fit:=by rw[aq,ag,aj];exact hm
 spl:=by
  rw[aq,ag];apply Array.ext_getElem?;intro i;have hlen:(aa n f).toList.length=n:=by simp[aj]
  rcases Nat.lt_or_ge i n with hi|hi
  ·rw[show(aa n h)[i]?=some (.int .u8 (B8 (h i)))from bI _ hi,← e i hi]
   rw[List.getElem?_toArray];by_cases h1:i<off
   ·rw[if_neg (by omega),List.getElem?_append_left (by rw[List.length_take,hlen];omega),List.getElem?_take_of_lt h1,Array.getElem?_toList]
    exact bI _ hi
   ·rw[List.getElem?_append_right (by rw[List.length_take,hlen];omega),List.length_take,hlen,Nat.min_eq_left (by omega)]
    by_cases h2:i<off+m
    ·rw[if_pos ⟨by omega,h2⟩,List.getElem?_append_left (by rw[aq,ag];omega)]
     simp[an,ae,show i-off<m by omega]
    ·rw[if_neg (by omega),List.getElem?_append_right (by rw[aq,ag];omega),aq,ag,List.getElem?_drop,Array.getElem?_toList]
     rw[show off+m+(i-off-m)=i by omega];exact bI _ hi
  ·rw[show(aa n h)[i]?=none from Array.getElem?_eq_none (by rw[aj];exact hi)]
   refine Array.getElem?_eq_none ?_;simp only[List.size_toArray,List.length_append,List.length_take,List.length_drop,hlen,aq,ag];omega
section
variable {ops:Array Oper} {rest:List Oper} {o:Oper} {a:Act} {w0 w:World} {M M':Mem} {Q:Exit→Act→World→Prop}
theorem yP(hL:Loc w0 w M)(hg:o.guard=none){d s:Operand}{t e:TypeId}(ho:o.op= .call { callee:= .builtin .copy,args:= #[d,s],argTypes:= #[t,t] })[he:Elt t e]{g off n c:Nat}(hd:a.eval d= .slice (some ⟨g,off,none⟩) n c){cur:Array Value}{u:TypeId}[hm:At M g cur u]{p:Option Addr}{k cc:Nat}(hs:a.eval s= .slice p k cc){ys:List Value}[hy:See w0 M (.slice p k cc) ys](hn:ys.length≤n)(h0:0<ys.length){cur':Array Value}[hp:Spl cur off ys cur'][hu:Ups M g cur' M'](h:∀w',Loc w0 w' M'→wpList prog ops Q rest (a.put o.dst (.int .i64 ys.length)) w'):wpList prog ops Q (o::rest) a w:=by
 obtain⟨h1,ad,cc',e1,hnn,hpp⟩:=hy.see w hL;obtain⟨b,o2,rfl,hb,hcell⟩:=hpp h0;obtain⟨i,z,hi,hz,hs1,hbb,hzs⟩:=he.info;cases e1
 refine wpList_copy_own hg d s t t ho e he.und (by rw[hi];simp[hs1]) g off n c ⟨b,o2,none⟩ ys.length cc hd hs cur u (hL.get hm.mem) ys (Nat.min_eq_left hn).symm (fun j v hj=>?_) hp.fit h1 ?_
 ·have hjl:j<ys.length:=by
   rcases Nat.lt_or_ge j ys.length with h|h
   ·exact h
   ·rw[List.getElem?_eq_none h]at hj;cases hj
  rw[Addr.add_mid,hcell j hjl,← hj,List.getElem?_eq_getElem hjl]
 ·rw[hp.spl]
  exact h _ (hL.setRow hu.upd)
end
def Fresh(w:World)(l:List (BitVec 8))(e:Ending)(w':World):Prop :=
 ∃g cap cur,e= .returned (.slice (some ⟨g,0,none⟩) l.length cap)∧OwnR cur l.length cap (an l)∧w.heap.size≤g∧w'.heap[g]?=some (.cells cur 5 (0,0))∧Below w.heap.size w w'
theorem Loc.back{w w':World}{M:Mem}{g cap:Nat}{cur:Array Value}{l:List (BitVec 8)}{v:Value}(hL:Loc w w' M)[hm:At M g cur 5](hv:v= .slice (some ⟨g,0,none⟩) l.length cap)[hr:OwnR cur l.length cap (an l)]:Fresh w l (.returned v) w' :=
 ⟨g,cap,cur,by rw[hv],hr,hL.ge hm.mem,hL.get hm.mem,hL.bel⟩
end
namespace Shb
open Go.Proofs.YtoifhhljfaoejaaGreatDoor
def aS(x:BitVec 64)(n:Nat):BitVec 64:=x<<<n|||x>>>(64-n)
def ef(x:BitVec 8):BitVec 64:=x.setWidth 64
def ud(x:BitVec 64):BitVec 64:=aS x 63^^^aS x 56^^^x>>>7
def ue(x:BitVec 64):BitVec 64:=aS x 45^^^aS x 3^^^x>>>6
def G1(x:BitVec 64):BitVec 64:=aS x 50^^^aS x 46^^^aS x 23
def G2(x:BitVec 64):BitVec 64:=aS x 36^^^aS x 30^^^aS x 25
open Go.RowKit
theorem Q_xor(a b:BitVec 64):bits .xor .u64 (Q a) (Q b)=Q (a^^^b):=by
 unfold Q;rw[bits_xor_u64_nat _ _ a.isLt b.isLt,BitVec.toNat_xor]
theorem Q_and(a b:BitVec 64):bits .and .u64 (Q a) (Q b)=Q (a&&&b):=by
 unfold Q;rw[bits_and_u64_nat _ _ a.isLt b.isLt,BitVec.toNat_and]
theorem Fg(a b:BitVec 64):bits .or .u64 (Q a) (Q b)=Q (a|||b):=by
 unfold Q;rw[bits_or_u64_nat _ _ a.isLt b.isLt,BitVec.toNat_or]
theorem Gp(a:BitVec 64):bits .xor .u64 (if IntKind.u64.signed=true then -1 else IntKind.u64.max) (Q a)=Q (~~~a):=by
 have e:(if IntKind.u64.signed=true then(-1:Int)else IntKind.u64.max)=Q (BitVec.allOnes 64):=by decide
 rw[e,Q_xor,BitVec.allOnes_xor]
theorem yQ(a:BitVec 64)(n:Nat):Q a/((2^n:Nat):Int)=Q (a>>>n):=by
 unfold Q;rw[BitVec.toNat_ushiftRight,Nat.shiftRight_eq_div_pow];norm_cast
theorem Cq(a:BitVec 64)(n:Nat):Q a*((2^n:Nat):Int)%18446744073709551616=Q (a<<<n):=by
 unfold Q;rw[BitVec.toNat_shiftLeft,Nat.shiftLeft_eq,Int.natCast_emod,Int.natCast_mul];rfl
theorem uf(y:BitVec 8):B8 y=Q (y.setWidth 64):=by
 unfold B8 Q;rw[BitVec.toNat_setWidth];have:=y.isLt;omega
theorem G3(x:BitVec 64):Q x/(128:Int)=Q (x>>>7):=yQ x 7
theorem G4(x:BitVec 64):Q x/(64:Int)=Q (x>>>6):=yQ x 6
theorem G5(x:BitVec 64):Q x*(256:Int)%(18446744073709551616:Int)=Q (x<<<8):=Cq x 8
theorem sn(x:BitVec 64)(n m:Nat)(h:m=64-n):bits .or .u64 (Q x*((2^n:Nat):Int)%18446744073709551616) (Q x/((2^m:Nat):Int))=Q (aS x n):=by
 subst h;rw[Cq,yQ,Fg];rfl
theorem dW(x:BitVec 64)(n m:Nat)(h:m=64-n):bits .or .u64 (Q x/((2^m:Nat):Int)) (Q x*((2^n:Nat):Int)%18446744073709551616)=Q (aS x n):=by
 subst h;rw[Cq,yQ,Fg,BitVec.or_comm];rfl
theorem jl(x:BitVec 64):bits .xor .u64 (bits .xor .u64 (Q (aS x 63)) (Q (aS x 56))) (Q x/(128:Int))=Q (ud x):=by
 rw[G3,Q_xor,Q_xor];rfl
theorem jm(x:BitVec 64):bits .xor .u64 (bits .xor .u64 (Q (aS x 45)) (Q (aS x 3))) (Q x/(64:Int))=Q (ue x):=by
 rw[G4,Q_xor,Q_xor];rfl
def K512(i:Nat):BitVec 64:=BitVec.ofNat 64 ([4794697086780616226,8158064640168781261,13096744586834688815,16840607885511220156,4131703408338449720,6480981068601479193,10538285296894168987,12329834152419229976,15566598209576043074,1334009975649890238,2608012711638119052,6128411473006802146,8268148722764581231,9286055187155687089,11230858885718282805,13951009754708518548,16472876342353939154,17275323862435702243,1135362057144423861,2597628984639134821,3308224258029322869,5365058923640841347,6679025012923562964,8573033837759648693,10970295158949994411,12119686244451234320,12683024718118986047,13788192230050041572,14330467153632333762,15395433587784984357,489312712824947311,1452737877330783856,2861767655752347644,3322285676063803686,5560940570517711597,5996557281743188959,7280758554555802590,8532644243296465576,9350256976987008742,10552545826968843579,11727347734174303076,12113106623233404929,14000437183269869457,14369950271660146224,15101387698204529176,15463397548674623760,17586052441742319658,1182934255886127544,1847814050463011016,2177327727835720531,2830643537854262169,3796741975233480872,4115178125766777443,5681478168544905931,6601373596472566643,7507060721942968483,8399075790359081724,8693463985226723168,9568029438360202098,10144078919501101548,10430055236837252648,11840083180663258601,13761210420658862357,14299343276471374635,14566680578165727644,15097957966210449927,16922976911328602910,17689382322260857208,500013540394364858,748580250866718886,1242879168328830382,1977374033974150939,2944078676154940804,3659926193048069267,4368137639120453308,4836135668995329356,5532061633213252278,6448918945643986474,6902733635092675308,7801388544844847127].getD i 0)
def so(i:Nat):BitVec 64:=BitVec.ofNat 64 ([7640891576956012808,13503953896175478587,4354685564936845355,11912009170470909681,5840696475078001361,11170449401992604703,2270897969802886507,6620516959819538809].getD i 0)
def br(b:Nat→BitVec 8):Nat→Nat→BitVec 64
 | 0=>fun _=>0
 | k+1=>upd (br b k) (k/8) (br b k (k/8)<<<8|||ef (b k))
def eW(f:Nat→BitVec 64)(k:Nat):BitVec 64:=ue (f (k-2))+f (k-7)+ud (f (k-15))+f (k-16)
def cd(W:Nat→BitVec 64):Nat→Nat→BitVec 64
 | 0=>W
 | k+1=>if k<16 then W else upd (cd W k) k (eW (cd W k) k)
def aT(b:Nat→BitVec 8):Nat→BitVec 64:=cd (br b 128) 80
theorem jn(W:Nat→BitVec 64):∀k,k≤16→cd W k=W
 | 0,_=>rfl
 | k+1,h=>by unfold cd;rw[if_pos (by omega)]
theorem gR(W:Nat→BitVec 64){k:Nat}(h:16≤k):cd W (k+1)=upd (cd W k) k (eW (cd W k) k):=by
 rw[cd,if_neg (by omega)]
def xb(K W:Nat→BitVec 64)(t:Nat)(v:Nat→BitVec 64):BitVec 64:=v 7+G1 (v 4)+(v 4&&&v 5 ^^^ ~~~(v 4)&&&v 6)+K t+W t
def Fh(v:Nat→BitVec 64):BitVec 64:=G2 (v 0)+(v 0&&&v 1^^^v 0&&&v 2^^^v 1&&&v 2)
def rnd(K W:Nat→BitVec 64)(t:Nat)(v:Nat→BitVec 64):Nat→BitVec 64
 | 0=>xb K W t v+Fh v
 | 1=>v 0
 | 2=>v 1
 | 3=>v 2
 | 4=>v 3+xb K W t v
 | 5=>v 4
 | 6=>v 5
 | 7=>v 6
 | _=>0
def dj(K W:Nat→BitVec 64)(h:Nat→BitVec 64):Nat→Nat→BitVec 64
 | 0=>h
 | t+1=>rnd K W t (dj K W h t)
def block(K:Nat→BitVec 64)(h:Nat→BitVec 64)(b:Nat→BitVec 8):Nat→BitVec 64:=fun i=>h i+dj K (aT b) h 80 i
end Shb
end Go.Proofs.YtoifhhljfaoejaaGreatDoor
