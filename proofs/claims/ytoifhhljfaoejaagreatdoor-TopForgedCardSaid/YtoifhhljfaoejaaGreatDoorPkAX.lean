/-
  Lemmas of the law, part 24: the walks of the functions that it calls and the plain facts about them. No condition beyond those written.
-/
import Derived.Test.YtoifhhljfaoejaaGreatDoorPkAA
import Derived.Test.YtoifhhljfaoejaaGreatDoorPkAI
import Derived.Test.YtoifhhljfaoejaaGreatDoorPkAL
import Derived.Test.YtoifhhljfaoejaaGreatDoorPkAJ
import Derived.Test.YtoifhhljfaoejaaGreatDoorPkAK
import Derived.Test.YtoifhhljfaoejaaGreatDoorPkAO
set_option maxRecDepth 100000
set_option maxHeartbeats 8000000
set_option linter.unusedVariables false
set_option linter.unusedSimpArgs false
set_option linter.unusedSectionVars false
namespace Go.Proofs.YtoifhhljfaoejaaGreatDoor
open Go.Proofs.Tryz
namespace R3
open Go Go.Proofs.YtoifhhljfaoejaaGreatDoor Go.RowKit
def fe1:Nat→BitVec 8:=fun i=>if i=0 then 254 else 255
theorem Gb:Put (aa 32 (ffs 32)) 0 (.int .u8 254) (aa 32 fe1):=a9 (by omega) (ak fun i hi=>by
 unfold upd ffs fe1;by_cases e:i=0
 ·subst e;rfl
 ·rw[if_neg e]
  show Value.int .u8 (B8 (if i<32 then 255 else 0))=_;rw[if_pos hi,if_neg e])
theorem Iw:Put (aa 32 fe1) 31 (.int .u8 15) (aa 32 (ab bp)):=a9 (by omega) (by kernel_rfl)
theorem yj(w:World):Rt 231 #[] w (.agg (aa 32 (ab bp))):=by
 have hL:=Loc.nil w;haveI p1:=Gb;haveI p2:=Iw;have HZ:=Hd (show(aa 32 fun _=>0)=aa 32 (ffs 0)from ak fun i _=>by unfold ffs;rw[if_neg (by omega)]);have HS:=Hd ux;generalize ab bp=out,fe1=f1,ffs=ff at *
 go_enter func231,ntmps231;go_wp2_with (first|(refine gBp 0 ?_;clear hL;intro b0 w1 hL)|(refine gBp 1 ?_;clear hL;intro b1 w1 hL)|(refine aQq ?_;clear hL;intro _ w1 hL));go_loopw [2] (fun kk wr=>∃k:Nat,k≤32∧kk= .int .i64 k∧Loc w wr [(b1,aa 32 (ff k),24),(b0,aa 32 fun _=>0,24)]) (fun kk _=>32-(intOf kk).toNat);case atStart=>exact⟨0,by omega,rfl,by rw[← HZ.out];exact hL⟩
 case round =>
  clear hL;obtain⟨k,hk,rfl,hL⟩:=hrel;by_cases hlt:k<32
  ·have hk0:(0:Int)≤(k:Int):=by omega
   have hk1:(k:Int)<32:=by omega
   haveI g1:Put (aa 32 (ff k)) k (.int .u8 255) (aa 32 (ff (k+1))):=HS.out k hlt;go_wp2_with (first|(refine aQq ?_;clear hL;intro _ w1 hL));go_roundw;case rel=>exact⟨k+1,by omega,by go_num,hL⟩
   case measure=>simp[intOf];omega
  ·obtain rfl:k=32:=by omega
   go_wp2_with (first|(refine aQq ?_;clear hL;intro _ w1 hL));exact bodyPost_ret (ai rfl hL rfl) rfl ⟨rfl,hL.bel⟩
instance Rm:Ent 231:=eo func231
instance Rn:FnC 231 #[] (.agg (aa 32 (ab bp))):=⟨yj⟩
theorem Bt(f:Nat→BitVec 8)(w:World):Rt 183 #[.agg (aa 32 f)] w (.agg (aa 32 (ab (El.of (leN f)).v.val))):=by
 have hL:=Loc.nil w;go_enter func183,ntmps183;go_wp2_with (first|(refine gBp 1 ?_;clear hL;intro b1 w1 hL)|(refine gBp 2 ?_;clear hL;intro b2 w1 hL)|(refine aQp ?_;clear hL;intro _ w1 hL));exact bodyPost_ret (ai rfl hL rfl) rfl ⟨rfl,hL.bel⟩
instance Ro:Ent 183:=eo func183
theorem vS(x y:El)(w:World):Rt 232 #[.agg (rowEl x),.agg (rowEl y)] w (.bool (decide (x.v=y.v))):=by
 have hL:=Loc.nil w;haveI q:=iH x.v.val y.v.val (jg _) (jg _);have hd:decide (x.v.val=y.v.val)=decide (x.v=y.v):=decide_eq_decide.2 ⟨fun h=>Fin.ext h,fun h=>by rw[h]⟩;rw[hd]at q;haveI f1:FnC 129 #[.agg (rowEl x)] (.agg (aa 32 (ab x.v.val))):=inferInstance;haveI f2:FnC 129 #[.agg (rowEl y)] (.agg (aa 32 (ab y.v.val))):=inferInstance;clear hd;generalize decide (x.v=y.v)=b,ab x.v.val=bx,ab y.v.val=by_ at *
 go_enter func232,ntmps232;go_wp2_with (first|(refine gBp 2 ?_;clear hL;intro b2 w1 hL)|(refine gBp 3 ?_;clear hL;intro b3 w1 hL)|(refine aQq ?_;clear hL;intro _ w1 hL));refine wf [(0,false),(1,false),(2,false),(3,false),(4,true),(5,true)] [] [] hL ?_
 repeat(first|((with_reducible show bu _ _ _ (_::_) _ _);refine sQ rfl rfl rfl rfl ?_;refine p4 ?_)|refine rS ?_)
 refine aG ?_;refine fC ?_;clear hL;intro w1 hL;go_wp2_with (first|(refine aQq ?_;clear hL;intro _ w1 hL));go_ret;exact⟨rfl,hL.bel⟩
instance Rq:Ent 232:=eo func232
instance Rr(x y:El):FnC 232 #[.agg (rowEl x),.agg (rowEl y)] (.bool (decide (x.v=y.v))):=⟨vS x y⟩
noncomputable def El.rt(a:El):El:=if((a.pow bp).mul (a.pow bp)).v=a.v then a.pow bp else(a.pow bp).mul (El.of iF.val)
noncomputable def El.rtOk(a:El):Bool:=decide (((a.pow bp).mul (a.pow bp)).v=a.v) || decide ((((a.pow bp).mul (El.of iF.val)).mul ((a.pow bp).mul (El.of iF.val))).v=a.v)
theorem El.rt_v(a:El):eH a.v=if a.rtOk then some a.rt.v else none:=by
 have hp:(a.pow bp).v=pw a.v bp:=El.pow_v a Ce;have hi:(El.of iF.val).v=iF:=by rw[El.of_v (jg _),eN]
 rw[la];unfold kF El.rtOk El.rt;simp only[El.mul_v,hp,hi];generalize pw a.v bp=x at *
 by_cases h1:x*x=a.v
 ·rw[if_pos h1,decide_eq_true h1,if_pos h1]
  simp[hp]
 ·rw[if_neg h1,decide_eq_false h1,if_neg h1]
  by_cases h2:x*iF*(x*iF)=a.v
  ·rw[if_pos h2,decide_eq_true h2]
   simp[El.mul_v,hp,hi]
  ·rw[if_neg h2,decide_eq_false h2]
   simp
theorem Es(a:El)(w:World)[hI:GlobI w]:Rt 184 #[.agg (rowEl a)] w (.tuple #[.agg (rowEl a.rt),.bool a.rtOk]):=by
 have hL:=Loc.nil w;haveI f1:FnC 188 #[.agg (rowEl a),.agg (aa 32 (ab bp))] (.agg (rowEl (a.pow bp))):=⟨fun w1=>by have:=y8 a (ab bp) w1;rwa[bL Ce]at this⟩;have s1:=fun w1=>vS ((a.pow bp).mul (a.pow bp)) a w1;haveI f2:FnC 231 #[] (.agg (aa 32 (ab bp))):=inferInstance;haveI f3:FnC 130 #[.agg (rowEl (a.pow bp)),.agg (rowEl (a.pow bp))] (.agg (rowEl ((a.pow bp).mul (a.pow bp)))):=inferInstance;have HRT:=Hd (show a.rt=if((a.pow bp).mul (a.pow bp)).v=a.v then a.pow bp else(a.pow bp).mul (El.of iF.val)from rfl);have HOK:=Hd (show a.rtOk=(decide (((a.pow bp).mul (a.pow bp)).v=a.v) || decide ((((a.pow bp).mul (El.of iF.val)).mul ((a.pow bp).mul (El.of iF.val))).v=a.v))from rfl);rw[HRT.out,HOK.out];clear HRT HOK;generalize ab bp=bE,a.pow bp=X at *
 by_cases h:(X.mul X).v=a.v
 ·rw[if_pos h,decide_eq_true h,Bool.true_or]
  rw[decide_eq_true h]at s1;haveI f4:FnC 232 #[.agg (rowEl (X.mul X)),.agg (rowEl a)] (.bool true):=⟨s1⟩;generalize X.mul X=XX at *
  clear h;go_enter func184,ntmps184;go_wp2_with (first|(refine gBp 1 ?_;clear hL;intro b1 w1 hL)|(refine gBp 2 ?_;clear hL;intro b2 w1 hL)|(refine aQq ?_;clear hL;intro _ w1 hL));refine ar [(0,false),(1,false),(2,false)] [(3,_,147)] [4] (by kernel_rfl) (by kernel_rfl) ⟨⟨_,rfl,rfl,rfl⟩,inferInstance,trivial⟩ hL ?_;refine pF ?_;refine fA ?_;refine az fun b=>?_;refine fB ?_;clear hL;intro w1 hL;go_wp2_with (first|(refine aQq ?_;clear hL;intro _ w1 hL));refine wf [(0,false),(1,false),(2,false),(3,false),(4,false)] [] [] hL ?_;refine fA ?_;refine fC ?_;clear hL;intro w1 hL;go_wp2_with (first|(refine aQq ?_;clear hL;intro _ w1 hL));exact bodyPost_ret (ay rfl hL rfl rfl) rfl ⟨rfl,hL.bel⟩
 ·rw[if_neg h,decide_eq_false h,Bool.false_or]
  rw[decide_eq_false h]at s1;haveI f4:FnC 232 #[.agg (rowEl (X.mul X)),.agg (rowEl a)] (.bool false):=⟨s1⟩;haveI g7:WasR w 7 (rowEl (El.of iF.val)):=inferInstance;generalize El.of iF.val=iE at *
  haveI f5:FnC 130 #[.agg (rowEl X),.agg (rowEl iE)] (.agg (rowEl (X.mul iE))):=inferInstance;generalize X.mul iE=Y at *
  haveI f6:FnC 130 #[.agg (rowEl Y),.agg (rowEl Y)] (.agg (rowEl (Y.mul Y))):=inferInstance;haveI f7:FnC 232 #[.agg (rowEl (Y.mul Y)),.agg (rowEl a)] (.bool (decide ((Y.mul Y).v=a.v))):=inferInstance;generalize decide ((Y.mul Y).v=a.v)=ok at *
  generalize Y.mul Y=YY,X.mul X=XX at *
  clear h;go_enter func184,ntmps184;go_wp2_with (first|(refine gBp 1 ?_;clear hL;intro b1 w1 hL)|(refine gBp 2 ?_;clear hL;intro b2 w1 hL)|(refine aQq ?_;clear hL;intro _ w1 hL));refine ar [(0,false),(1,false),(2,false)] [(3,_,147)] [4] (by kernel_rfl) (by kernel_rfl) ⟨⟨_,rfl,rfl,rfl⟩,inferInstance,trivial⟩ hL ?_;refine pF ?_;refine fA ?_;refine az fun b=>?_;refine fB ?_;clear hL;intro w1 hL;go_wp2_with (first|(refine aQq ?_;clear hL;intro _ w1 hL));refine wf [(0,false),(1,false),(2,false),(3,false),(4,false)] [] [] hL ?_;refine fA ?_;refine fC ?_;clear hL;intro w1 hL;go_wp2_with (first|(refine aQp ?_;clear hL;intro _ w1 hL));refine wf [(0,false),(1,false),(2,false),(3,false),(4,false),(5,false)] [] [6,7] hL ?_;refine fA ?_;refine fB ?_;clear hL;intro w1 hL;go_wp2_with (first|(refine aQq ?_;clear hL;intro _ w1 hL));exact bodyPost_ret (ay rfl hL rfl rfl) rfl ⟨rfl,hL.bel⟩
instance Rs:Ent 184:=eo func184
end R3
namespace R3
open Go Go.Proofs.YtoifhhljfaoejaaGreatDoor Go.RowKit
class FnI(f:FuncId)(args:Array Value)(v:outParam Value):Prop where
 calls:∀w,GlobI w→Calls prog f args w fun e w'=>e= .returned v∧Below w.heap.size w w'
instance Ru(a:El):FnI 184 #[.agg (rowEl a)] (.tuple #[.agg (rowEl a.rt),.bool a.rtOk]):=⟨fun w _=>Es a w⟩
section
variable {ops:Array Oper} {rest:List Oper} {l:List (Oper×Bool)} {R:Act→Prop} {o:Oper} {a:Act} {w0 w:World} {M M':Mem} {Q:Exit→Act→World→Prop}
theorem sI1(hg:o.guard=none){f:FuncId}{x:Operand}{ts:Array TypeId}(ho:o.op= .call { callee:= .value (.func f),args:= #[x],argTypes:=ts }){r:Array Value}(hx:a.eval x= .agg r)[he:Ent f][hG:GlobI w0]{v:Value}[hf:FnI f #[.agg r] v](h:bu prog ops (fun w=>Loc w0 w M) l (a.put o.dst v) R):bu prog ops (fun w=>Loc w0 w M) ((o,false)::l) a R :=
 mv hg (fun w=>by rw[ky ho rfl w,show #[x].map a.eval= #[.agg r]from by simp[hx]]) (fun w hS=>hf.calls w (hG.below hS.bel)) h
end
noncomputable def exm(y:F)(b:Nat):Option F→Option Ex
 | none=>none
 | some x=>if x=0∧b=1 then none else if x.val%2=b then some ⟨x,y,1,x*y⟩else some ⟨-x,y,1,-x*y⟩
theorem Et(n:Nat):bF n=if n%2^255<P then exm (fe (n%2^255)) (n/2^255%2) (eH ((fe (n%2^255)*fe (n%2^255)-1)*inv (dF*(fe (n%2^255)*fe (n%2^255))+1)))else none:=by
 unfold bF;by_cases h:n%2^255<P
 ·rw[if_pos h,if_pos h]
  simp only;generalize eH _=o;cases o <;> rfl
 ·rw[if_neg h,if_neg h]
def a7:Option Pe→Array Value
 | none=>Az
 | some p=>rowPe p
theorem ed(w:World):(Instr.build 149 #[]).run prog w= .ok (.agg Az) w:=by kernel_rfl
theorem il(w:World):(Instr.build 24 #[]).run prog w= .ok (.agg (aa 32 (ab 0))) w:=by kernel_rfl
theorem io(w:World):(Instr.build 147 #[]).run prog w= .ok (.agg (rowEl El.zero)) w:=by kernel_rfl
theorem Eu(n:Nat):bits .and .u8 (B8 (ab n 0)) 1=((n%2:Nat):Int):=by
 have:∀x:Fin 256,bits .and .u8 (x.val:Int) 1=((x.val%2:Nat):Int):=by decide +kernel
 have h:=this (ab n 0).toFin;have e:((ab n 0).toFin.val:Nat)=n%256:=by
  show(ab n 0).toNat=_;unfold ab;rw[BitVec.toNat_ofNat,Nat.mul_zero,Nat.pow_zero,Nat.div_one]
 rw[e]at h;have e2:B8 (ab n 0)=((n%256:Nat):Int):=by unfold B8;exact congrArg Nat.cast e
 rw[e2,h];congr 1;omega
theorem Ix(x:BitVec 8):B8 x/128=((x.toNat/128:Nat):Int)∧x.toNat/128<2:=by
 have:=x.isLt;unfold B8;omega
theorem gE(f:Nat→BitVec 8)(w:World)[hG:Glob w][hI:GlobI w]:Calls prog 122 #[.agg (aa 32 f)] w fun r w'=>∃o:Option Pe,r= .returned (.tuple #[.agg (a7 o),.bool o.isSome])∧o.map Pe.ex=bF (leN f)∧Below w.heap.size w w':=by
 have hL:=Loc.nil w;obtain⟨hy,hodd⟩:=mF f;have he:=Et (leN f);rw[hodd,← hy]at he;have hlt:leN (di f)<2^256:=fh _;have hgr:aa 32 (di f)=aa 32 (ab (leN (di f))):=ak fun i hi=>by rw[gU _ hi]
 haveI g1:Cell (aa 32 f) 31 (.int .u8 (B8 (f 31))):=aI _ (by omega);haveI g2:Put (aa 32 f) 31 (.int .u8 (bits .and .u8 (B8 (f 31)) 127)) (aa 32 (ab (leN (di f)))):=a9 (by omega) ((nG f).trans hgr);have hbit:=Ix (f 31);generalize leN (di f)=y at *
 clear hy hodd hgr;haveI f0:FnC 140 #[.agg (aa 32 (ab y))] (.agg (rowEl (El.of y))):=⟨fun w1=>by have:=CK (ab y) w1;rwa[bL hlt]at this⟩;have hYv:(El.of y).v=fe y:=El.of_v hlt;haveI f1:FnC 183 #[.agg (aa 32 (ab y))] (.agg (aa 32 (ab (y%P)))):=⟨fun w1=>by have:=Bt (ab y) w1;rwa[bL hlt,hYv,wJ]at this⟩;have e1:=iH (y%P) y (Nat.lt_of_le_of_lt (Nat.mod_le _ _) hlt) hlt;by_cases hc:y<P
 ·rw[if_pos hc]at he
  rw[Nat.mod_eq_of_lt hc]at e1 f1;rw[decide_eq_true rfl]at e1;clear hlt hc;obtain⟨A,hA⟩:∃A,A=(((El.of y).mul (El.of y)).sub El.one).mul (((dE.mul ((El.of y).mul (El.of y))).add El.one).inv):=⟨_,rfl⟩;have hAV:A.v=(fe y*fe y-1)*inv (dF*(fe y*fe y)+1):=by
   rw[hA];simp only[El.mul_v,El.sub_v,El.add_v,El.inv_v,El.one_v,CI,hYv]
  have hr:=El.rt_v A;rw[hAV]at hr;rw[hr]at he;clear hAV hr;obtain⟨hb1,hb2⟩:=hbit;generalize(f 31).toNat/128=bit at *
  have hYx:∀X:El,Pe.ex ⟨X,El.of y,El.one,X.mul (El.of y)⟩=⟨X.v,fe y,1,X.v*fe y⟩:=fun X=>by
   unfold Pe.ex;simp only[El.mul_v,El.one_v,hYv]
  have HX:=Hd hYx;clear hYv hYx;generalize fe y=yv,El.of y=Y,ab y=by_ at *
  have t1:FnC 130 #[.agg (rowEl Y),.agg (rowEl Y)] (.agg (rowEl (Y.mul Y))):=inferInstance;generalize Y.mul Y=YY at *
  have t2:FnC 142 #[.agg (rowEl YY),.agg (rowEl El.one)] (.agg (rowEl (YY.sub El.one))):=inferInstance;have t3:FnC 130 #[.agg (rowEl dE),.agg (rowEl YY)] (.agg (rowEl (dE.mul YY))):=inferInstance;have t4:FnC 141 #[.agg (rowEl (dE.mul YY)),.agg (rowEl El.one)] (.agg (rowEl ((dE.mul YY).add El.one))):=inferInstance;have t5:FnC 128 #[.agg (rowEl ((dE.mul YY).add El.one))] (.agg (rowEl ((dE.mul YY).add El.one).inv)):=inferInstance;have t6:FnC 130 #[.agg (rowEl (YY.sub El.one)),.agg (rowEl ((dE.mul YY).add El.one).inv)] (.agg (rowEl A)):=by rw[hA];infer_instance
  clear hA;haveI t7:FnI 184 #[.agg (rowEl A)] (.tuple #[.agg (rowEl A.rt),.bool A.rtOk]):=inferInstance;generalize A.rt=X at *
  generalize A.rtOk=ok at *
  cases ok
  ·have he2:bF (leN f)=none:=he
   rw[he2];clear he he2 HX hb1 hb2;go_enter func122,ntmps122;go_wp2_with (first|(refine gBp 1 ?_;clear hL;intro b1 w1 hL)|(refine gBp 2 ?_;clear hL;intro b2 w1 hL)|(refine aQq ?_;clear hL;intro _ w1 hL));refine wf [(0,false),(1,false),(2,false),(3,true)] [] [] hL ?_
   repeat refine rN ?_
   refine aG ?_;refine fC ?_;clear hL;intro w1 hL;go_wp2_with (first|(refine gBp 5 ?_;clear hL;intro b5 w1 hL)|(refine gBp 6 ?_;clear hL;intro b6 w1 hL)|(refine aQq ?_;clear hL;intro _ w1 hL));refine ar [(0,false),(1,false),(2,false),(3,false),(4,false),(5,false),(6,false),(7,false),(8,false),(9,false),(10,false),(11,true),(12,true),(13,true)] [(14,_,147)] [15,16] (by kernel_rfl) (by kernel_rfl) ⟨⟨_,rfl,rfl,rfl⟩,inferInstance,trivial⟩ hL ?_;refine pF ?_
   repeat(first|((with_reducible show bu _ _ _ (_::_) _ _);refine sI1 rfl rfl rfl ?_;refine p4 ?_)|refine rS ?_)
   refine aG ?_;refine az fun b=>?_;refine fB ?_;clear hL;intro w1 hL;go_wp2_with (first|((with_reducible show wpList _ _ _ (⟨_,.build 149 _,_,_,_,_⟩::_) _ _);refine lU hL rfl rfl ed rfl fun w1 hL1=>?_;clear hL;have hL:=hL1;clear hL1)|(refine aQq ?_;clear hL;intro _ w1 hL));exact bodyPost_ret (ay rfl hL rfl rfl) rfl ⟨none,rfl,rfl,hL.bel⟩
  ·have he2:bF (leN f)=exm yv bit (some X.v):=he
   clear he;have hcs:(X.v=0∧bit=1)∨(X.v=0∧bit=0)∨(X.v≠0∧bit=0∧X.v.val%2=0)∨(X.v≠0∧bit=1∧X.v.val%2=1)∨(X.v≠0∧bit=0∧X.v.val%2=1)∨(X.v≠0∧bit=1∧X.v.val%2=0):=by
    by_cases h:X.v=0
    ·rcases(show bit=1∨bit=0 by omega)with e|e
     ·exact .inl ⟨h,e⟩
     ·exact .inr (.inl ⟨h,e⟩)
    ·rcases(show(bit=0∧X.v.val%2=0)∨(bit=1∧X.v.val%2=1)∨(bit=0∧X.v.val%2=1)∨(bit=1∧X.v.val%2=0) by omega)with e|e|e|e
     ·exact .inr (.inr (.inl ⟨h,e⟩))
     ·exact .inr (.inr (.inr (.inl ⟨h,e⟩)))
     ·exact .inr (.inr (.inr (.inr (.inl ⟨h,e⟩))))
     ·exact .inr (.inr (.inr (.inr (.inr ⟨h,e⟩))))
   have ez:=iH X.v.val 0 (jg _) (by decide);have hpar:=Eu X.v.val;haveI gb:Cell (aa 32 (ab X.v.val)) 0 (.int .u8 (B8 (ab X.v.val 0))):=aI _ (by omega);haveI go:FnC 129 #[.agg (rowEl X)] (.agg (aa 32 (ab X.v.val))):=inferInstance;have hvz:(X.v=0)↔(X.v.val=0):=⟨fun h=>by rw[h];rfl,fun h=>Fin.ext h⟩;have HP:=Hd (show Pe.ex ⟨X,Y,El.one,X.mul Y⟩=⟨X.v,yv,1,X.v*yv⟩from HX.out X);have HN:=Hd (show Pe.ex ⟨El.zero.sub X,Y,El.one,(El.zero.sub X).mul Y⟩=⟨-X.v,yv,1,-X.v*yv⟩from by
    rw[HX.out,El.sub_v,El.zero_v,show(0:F)-X.v= -X.v from by grind])
   haveI gs:FnC 142 #[.agg (rowEl El.zero),.agg (rowEl X)] (.agg (rowEl (El.zero.sub X))):=inferInstance;haveI gm:FnC 130 #[.agg (rowEl X),.agg (rowEl Y)] (.agg (rowEl (X.mul Y))):=inferInstance;haveI gm2:FnC 130 #[.agg (rowEl (El.zero.sub X)),.agg (rowEl Y)] (.agg (rowEl ((El.zero.sub X).mul Y))):=inferInstance;rw[he2];clear he2 HX hb2;generalize El.zero.sub X=XN at *
   generalize XN.mul Y=XNY,X.mul Y=XY,B8 (ab X.v.val 0)=w0 at *
   generalize ab X.v.val=wx,f 31=f31 at *
   rcases hcs with hc|hc|hc|hc|hc|hc
   ·obtain⟨hz,rfl⟩:=hc
    have hv:=hvz.1 hz;rw[decide_eq_true hv]at ez;rw[hv]at hpar;have hpar2:bits .and .u8 w0 1=0:=hpar;rw[show exm yv 1 (some X.v)=none from if_pos ⟨hz,rfl⟩];have hb3:B8 f31/128=1:=hb1;clear hz hv hvz hpar hb1;go_enter func122,ntmps122;go_wp2_with (first|(refine gBp 1 ?_;clear hL;intro b1 w1 hL)|(refine gBp 2 ?_;clear hL;intro b2 w1 hL)|(refine aQq ?_;clear hL;intro _ w1 hL));refine wf [(0,false),(1,false),(2,false),(3,true)] [] [] hL ?_
    repeat refine rN ?_
    refine aG ?_;refine fC ?_;clear hL;intro w1 hL;go_wp2_with (first|(refine gBp 5 ?_;clear hL;intro b5 w1 hL)|(refine gBp 6 ?_;clear hL;intro b6 w1 hL)|(refine aQq ?_;clear hL;intro _ w1 hL));refine ar [(0,false),(1,false),(2,false),(3,false),(4,false),(5,false),(6,false),(7,false),(8,false),(9,false),(10,false),(11,true),(12,true),(13,true)] [(14,_,147)] [15,16] (by kernel_rfl) (by kernel_rfl) ⟨⟨_,rfl,rfl,rfl⟩,inferInstance,trivial⟩ hL ?_;refine pF ?_
    repeat(first|((with_reducible show bu _ _ _ (_::_) _ _);refine sI1 rfl rfl rfl ?_;refine p4 ?_)|refine rS ?_)
    refine aG ?_;refine az fun b=>?_;refine fB ?_;clear hL;intro w1 hL;go_wp2_with (first|(refine gBp 9 ?_;clear hL;intro b9 w1 hL)|(refine gN 48 ?_;refine lQ hL rfl rfl rfl rfl fun w1 hL1=>?_;clear hL;have hL:=hL1;clear hL1)|refine aV ?_|((with_reducible show wpList _ _ _ (⟨_,.build 24 #[],_,_,_,_⟩::_) _ _);refine lU hL rfl rfl il rfl fun w1 hL1=>?_;clear hL;have hL:=hL1;clear hL1)|((with_reducible show wpList _ _ _ (⟨_,.build 149 _,_,_,_,_⟩::_) _ _);refine lU hL rfl rfl ed rfl fun w1 hL1=>?_;clear hL;have hL:=hL1;clear hL1)|((with_reducible show wpList _ _ _ (⟨_,.build 147 #[],_,_,_,_⟩::_) _ _);refine lU hL rfl rfl io rfl fun w1 hL1=>?_;clear hL;have hL:=hL1;clear hL1)|(refine aQq ?_;clear hL;intro _ w1 hL));exact bodyPost_ret (ay rfl hL rfl rfl) rfl ⟨none,rfl,rfl,hL.bel⟩
   ·obtain⟨hz,rfl⟩:=hc
    have hv:=hvz.1 hz;rw[decide_eq_true hv]at ez;rw[hv]at hpar;have hpar2:bits .and .u8 w0 1=0:=hpar;rw[show exm yv 0 (some X.v)=some ⟨X.v,yv,1,X.v*yv⟩from(if_neg (fun h=>absurd h.2 (by decide))).trans (if_pos (by rw[hv]))];have hb3:B8 f31/128=0:=hb1;clear hz hv hvz hpar hb1;go_enter func122,ntmps122;go_wp2_with (first|(refine gBp 1 ?_;clear hL;intro b1 w1 hL)|(refine gBp 2 ?_;clear hL;intro b2 w1 hL)|(refine aQq ?_;clear hL;intro _ w1 hL));refine wf [(0,false),(1,false),(2,false),(3,true)] [] [] hL ?_
    repeat refine rN ?_
    refine aG ?_;refine fC ?_;clear hL;intro w1 hL;go_wp2_with (first|(refine gBp 5 ?_;clear hL;intro b5 w1 hL)|(refine gBp 6 ?_;clear hL;intro b6 w1 hL)|(refine aQq ?_;clear hL;intro _ w1 hL));refine ar [(0,false),(1,false),(2,false),(3,false),(4,false),(5,false),(6,false),(7,false),(8,false),(9,false),(10,false),(11,true),(12,true),(13,true)] [(14,_,147)] [15,16] (by kernel_rfl) (by kernel_rfl) ⟨⟨_,rfl,rfl,rfl⟩,inferInstance,trivial⟩ hL ?_;refine pF ?_
    repeat(first|((with_reducible show bu _ _ _ (_::_) _ _);refine sI1 rfl rfl rfl ?_;refine p4 ?_)|refine rS ?_)
    refine aG ?_;refine az fun b=>?_;refine fB ?_;clear hL;intro w1 hL;go_wp2_with (first|(refine gBp 9 ?_;clear hL;intro b9 w1 hL)|(refine gN 48 ?_;refine lQ hL rfl rfl rfl rfl fun w1 hL1=>?_;clear hL;have hL:=hL1;clear hL1)|refine aV ?_|((with_reducible show wpList _ _ _ (⟨_,.build 24 #[],_,_,_,_⟩::_) _ _);refine lU hL rfl rfl il rfl fun w1 hL1=>?_;clear hL;have hL:=hL1;clear hL1)|((with_reducible show wpList _ _ _ (⟨_,.build 149 _,_,_,_,_⟩::_) _ _);refine lU hL rfl rfl ed rfl fun w1 hL1=>?_;clear hL;have hL:=hL1;clear hL1)|((with_reducible show wpList _ _ _ (⟨_,.build 147 #[],_,_,_,_⟩::_) _ _);refine lU hL rfl rfl io rfl fun w1 hL1=>?_;clear hL;have hL:=hL1;clear hL1)|(refine aQq ?_;clear hL;intro _ w1 hL));refine wf [(0,false),(1,false),(2,false),(3,false),(4,false),(5,false),(6,true)] [] [7,8] hL ?_
    repeat(first|((with_reducible show bu _ _ _ (_::_) _ _);refine sU rfl rfl (fg _ _ _ _) rfl ?_;refine p4 ?_)|refine rS ?_)
    refine aG ?_;refine fB ?_;clear hL;intro w1 hL;go_wp2_with (first|(refine aQq ?_;clear hL;intro _ w1 hL));exact bodyPost_ret (ay rfl hL rfl rfl) rfl ⟨some ⟨X,Y,El.one,XY⟩,rfl,congrArg some HP.out,hL.bel⟩
   ·obtain⟨hz,rfl,hp⟩:=hc
    have hv:¬X.v.val=0:=fun e=>hz (hvz.2 e);rw[decide_eq_false hv]at ez;rw[hp]at hpar;have hpar2:bits .and .u8 w0 1=0:=hpar;rw[show exm yv 0 (some X.v)=some ⟨X.v,yv,1,X.v*yv⟩from(if_neg (fun h=>hz h.1)).trans (if_pos hp)];have hb3:B8 f31/128=0:=hb1;clear hz hv hvz hpar hb1 hp;go_enter func122,ntmps122;go_wp2_with (first|(refine gBp 1 ?_;clear hL;intro b1 w1 hL)|(refine gBp 2 ?_;clear hL;intro b2 w1 hL)|(refine aQq ?_;clear hL;intro _ w1 hL));refine wf [(0,false),(1,false),(2,false),(3,true)] [] [] hL ?_
    repeat refine rN ?_
    refine aG ?_;refine fC ?_;clear hL;intro w1 hL;go_wp2_with (first|(refine gBp 5 ?_;clear hL;intro b5 w1 hL)|(refine gBp 6 ?_;clear hL;intro b6 w1 hL)|(refine aQq ?_;clear hL;intro _ w1 hL));refine ar [(0,false),(1,false),(2,false),(3,false),(4,false),(5,false),(6,false),(7,false),(8,false),(9,false),(10,false),(11,true),(12,true),(13,true)] [(14,_,147)] [15,16] (by kernel_rfl) (by kernel_rfl) ⟨⟨_,rfl,rfl,rfl⟩,inferInstance,trivial⟩ hL ?_;refine pF ?_
    repeat(first|((with_reducible show bu _ _ _ (_::_) _ _);refine sI1 rfl rfl rfl ?_;refine p4 ?_)|refine rS ?_)
    refine aG ?_;refine az fun b=>?_;refine fB ?_;clear hL;intro w1 hL;go_wp2_with (first|(refine gBp 9 ?_;clear hL;intro b9 w1 hL)|(refine gN 48 ?_;refine lQ hL rfl rfl rfl rfl fun w1 hL1=>?_;clear hL;have hL:=hL1;clear hL1)|refine aV ?_|((with_reducible show wpList _ _ _ (⟨_,.build 24 #[],_,_,_,_⟩::_) _ _);refine lU hL rfl rfl il rfl fun w1 hL1=>?_;clear hL;have hL:=hL1;clear hL1)|((with_reducible show wpList _ _ _ (⟨_,.build 149 _,_,_,_,_⟩::_) _ _);refine lU hL rfl rfl ed rfl fun w1 hL1=>?_;clear hL;have hL:=hL1;clear hL1)|((with_reducible show wpList _ _ _ (⟨_,.build 147 #[],_,_,_,_⟩::_) _ _);refine lU hL rfl rfl io rfl fun w1 hL1=>?_;clear hL;have hL:=hL1;clear hL1)|(refine aQq ?_;clear hL;intro _ w1 hL));refine wf [(0,false),(1,false),(2,false),(3,false),(4,false),(5,false),(6,true)] [] [7,8] hL ?_
    repeat(first|((with_reducible show bu _ _ _ (_::_) _ _);refine sU rfl rfl (fg _ _ _ _) rfl ?_;refine p4 ?_)|refine rS ?_)
    refine aG ?_;refine fB ?_;clear hL;intro w1 hL;go_wp2_with (first|(refine aQq ?_;clear hL;intro _ w1 hL));exact bodyPost_ret (ay rfl hL rfl rfl) rfl ⟨some ⟨X,Y,El.one,XY⟩,rfl,congrArg some HP.out,hL.bel⟩
   ·obtain⟨hz,rfl,hp⟩:=hc
    have hv:¬X.v.val=0:=fun e=>hz (hvz.2 e);rw[decide_eq_false hv]at ez;rw[hp]at hpar;have hpar2:bits .and .u8 w0 1=1:=hpar;rw[show exm yv 1 (some X.v)=some ⟨X.v,yv,1,X.v*yv⟩from(if_neg (fun h=>hz h.1)).trans (if_pos hp)];have hb3:B8 f31/128=1:=hb1;clear hz hv hvz hpar hb1 hp;go_enter func122,ntmps122;go_wp2_with (first|(refine gBp 1 ?_;clear hL;intro b1 w1 hL)|(refine gBp 2 ?_;clear hL;intro b2 w1 hL)|(refine aQq ?_;clear hL;intro _ w1 hL));refine wf [(0,false),(1,false),(2,false),(3,true)] [] [] hL ?_
    repeat refine rN ?_
    refine aG ?_;refine fC ?_;clear hL;intro w1 hL;go_wp2_with (first|(refine gBp 5 ?_;clear hL;intro b5 w1 hL)|(refine gBp 6 ?_;clear hL;intro b6 w1 hL)|(refine aQq ?_;clear hL;intro _ w1 hL));refine ar [(0,false),(1,false),(2,false),(3,false),(4,false),(5,false),(6,false),(7,false),(8,false),(9,false),(10,false),(11,true),(12,true),(13,true)] [(14,_,147)] [15,16] (by kernel_rfl) (by kernel_rfl) ⟨⟨_,rfl,rfl,rfl⟩,inferInstance,trivial⟩ hL ?_;refine pF ?_
    repeat(first|((with_reducible show bu _ _ _ (_::_) _ _);refine sI1 rfl rfl rfl ?_;refine p4 ?_)|refine rS ?_)
    refine aG ?_;refine az fun b=>?_;refine fB ?_;clear hL;intro w1 hL;go_wp2_with (first|(refine gBp 9 ?_;clear hL;intro b9 w1 hL)|(refine gN 48 ?_;refine lQ hL rfl rfl rfl rfl fun w1 hL1=>?_;clear hL;have hL:=hL1;clear hL1)|refine aV ?_|((with_reducible show wpList _ _ _ (⟨_,.build 24 #[],_,_,_,_⟩::_) _ _);refine lU hL rfl rfl il rfl fun w1 hL1=>?_;clear hL;have hL:=hL1;clear hL1)|((with_reducible show wpList _ _ _ (⟨_,.build 149 _,_,_,_,_⟩::_) _ _);refine lU hL rfl rfl ed rfl fun w1 hL1=>?_;clear hL;have hL:=hL1;clear hL1)|((with_reducible show wpList _ _ _ (⟨_,.build 147 #[],_,_,_,_⟩::_) _ _);refine lU hL rfl rfl io rfl fun w1 hL1=>?_;clear hL;have hL:=hL1;clear hL1)|(refine aQq ?_;clear hL;intro _ w1 hL));refine wf [(0,false),(1,false),(2,false),(3,false),(4,false),(5,false),(6,true)] [] [7,8] hL ?_
    repeat(first|((with_reducible show bu _ _ _ (_::_) _ _);refine sU rfl rfl (fg _ _ _ _) rfl ?_;refine p4 ?_)|refine rS ?_)
    refine aG ?_;refine fB ?_;clear hL;intro w1 hL;go_wp2_with (first|(refine aQq ?_;clear hL;intro _ w1 hL));exact bodyPost_ret (ay rfl hL rfl rfl) rfl ⟨some ⟨X,Y,El.one,XY⟩,rfl,congrArg some HP.out,hL.bel⟩
   ·obtain⟨hz,rfl,hp⟩:=hc
    have hv:¬X.v.val=0:=fun e=>hz (hvz.2 e);rw[decide_eq_false hv]at ez;rw[hp]at hpar;have hpar2:bits .and .u8 w0 1=1:=hpar;rw[show exm yv 0 (some X.v)=some ⟨-X.v,yv,1,-X.v*yv⟩from(if_neg (fun h=>hz h.1)).trans (if_neg (by omega))];have hb3:B8 f31/128=0:=hb1;clear hz hv hvz hpar hb1 hp;go_enter func122,ntmps122;go_wp2_with (first|(refine gBp 1 ?_;clear hL;intro b1 w1 hL)|(refine gBp 2 ?_;clear hL;intro b2 w1 hL)|(refine aQq ?_;clear hL;intro _ w1 hL));refine wf [(0,false),(1,false),(2,false),(3,true)] [] [] hL ?_
    repeat refine rN ?_
    refine aG ?_;refine fC ?_;clear hL;intro w1 hL;go_wp2_with (first|(refine gBp 5 ?_;clear hL;intro b5 w1 hL)|(refine gBp 6 ?_;clear hL;intro b6 w1 hL)|(refine aQq ?_;clear hL;intro _ w1 hL));refine ar [(0,false),(1,false),(2,false),(3,false),(4,false),(5,false),(6,false),(7,false),(8,false),(9,false),(10,false),(11,true),(12,true),(13,true)] [(14,_,147)] [15,16] (by kernel_rfl) (by kernel_rfl) ⟨⟨_,rfl,rfl,rfl⟩,inferInstance,trivial⟩ hL ?_;refine pF ?_
    repeat(first|((with_reducible show bu _ _ _ (_::_) _ _);refine sI1 rfl rfl rfl ?_;refine p4 ?_)|refine rS ?_)
    refine aG ?_;refine az fun b=>?_;refine fB ?_;clear hL;intro w1 hL;go_wp2_with (first|(refine gBp 9 ?_;clear hL;intro b9 w1 hL)|(refine gN 48 ?_;refine lQ hL rfl rfl rfl rfl fun w1 hL1=>?_;clear hL;have hL:=hL1;clear hL1)|refine aV ?_|((with_reducible show wpList _ _ _ (⟨_,.build 24 #[],_,_,_,_⟩::_) _ _);refine lU hL rfl rfl il rfl fun w1 hL1=>?_;clear hL;have hL:=hL1;clear hL1)|((with_reducible show wpList _ _ _ (⟨_,.build 149 _,_,_,_,_⟩::_) _ _);refine lU hL rfl rfl ed rfl fun w1 hL1=>?_;clear hL;have hL:=hL1;clear hL1)|((with_reducible show wpList _ _ _ (⟨_,.build 147 #[],_,_,_,_⟩::_) _ _);refine lU hL rfl rfl io rfl fun w1 hL1=>?_;clear hL;have hL:=hL1;clear hL1)|(refine aQq ?_;clear hL;intro _ w1 hL));refine wf [(0,false),(1,false),(2,false),(3,false),(4,false),(5,false),(6,true)] [] [7,8] hL ?_
    repeat(first|((with_reducible show bu _ _ _ (_::_) _ _);refine sU rfl rfl (fg _ _ _ _) rfl ?_;refine p4 ?_)|refine rS ?_)
    refine aG ?_;refine fB ?_;clear hL;intro w1 hL;go_wp2_with (first|(refine aQq ?_;clear hL;intro _ w1 hL));exact bodyPost_ret (ay rfl hL rfl rfl) rfl ⟨some ⟨XN,Y,El.one,XNY⟩,rfl,congrArg some HN.out,hL.bel⟩
   ·obtain⟨hz,rfl,hp⟩:=hc
    have hv:¬X.v.val=0:=fun e=>hz (hvz.2 e);rw[decide_eq_false hv]at ez;rw[hp]at hpar;have hpar2:bits .and .u8 w0 1=0:=hpar;rw[show exm yv 1 (some X.v)=some ⟨-X.v,yv,1,-X.v*yv⟩from(if_neg (fun h=>hz h.1)).trans (if_neg (by omega))];have hb3:B8 f31/128=1:=hb1;clear hz hv hvz hpar hb1 hp;go_enter func122,ntmps122;go_wp2_with (first|(refine gBp 1 ?_;clear hL;intro b1 w1 hL)|(refine gBp 2 ?_;clear hL;intro b2 w1 hL)|(refine aQq ?_;clear hL;intro _ w1 hL));refine wf [(0,false),(1,false),(2,false),(3,true)] [] [] hL ?_
    repeat refine rN ?_
    refine aG ?_;refine fC ?_;clear hL;intro w1 hL;go_wp2_with (first|(refine gBp 5 ?_;clear hL;intro b5 w1 hL)|(refine gBp 6 ?_;clear hL;intro b6 w1 hL)|(refine aQq ?_;clear hL;intro _ w1 hL));refine ar [(0,false),(1,false),(2,false),(3,false),(4,false),(5,false),(6,false),(7,false),(8,false),(9,false),(10,false),(11,true),(12,true),(13,true)] [(14,_,147)] [15,16] (by kernel_rfl) (by kernel_rfl) ⟨⟨_,rfl,rfl,rfl⟩,inferInstance,trivial⟩ hL ?_;refine pF ?_
    repeat(first|((with_reducible show bu _ _ _ (_::_) _ _);refine sI1 rfl rfl rfl ?_;refine p4 ?_)|refine rS ?_)
    refine aG ?_;refine az fun b=>?_;refine fB ?_;clear hL;intro w1 hL;go_wp2_with (first|(refine gBp 9 ?_;clear hL;intro b9 w1 hL)|(refine gN 48 ?_;refine lQ hL rfl rfl rfl rfl fun w1 hL1=>?_;clear hL;have hL:=hL1;clear hL1)|refine aV ?_|((with_reducible show wpList _ _ _ (⟨_,.build 24 #[],_,_,_,_⟩::_) _ _);refine lU hL rfl rfl il rfl fun w1 hL1=>?_;clear hL;have hL:=hL1;clear hL1)|((with_reducible show wpList _ _ _ (⟨_,.build 149 _,_,_,_,_⟩::_) _ _);refine lU hL rfl rfl ed rfl fun w1 hL1=>?_;clear hL;have hL:=hL1;clear hL1)|((with_reducible show wpList _ _ _ (⟨_,.build 147 #[],_,_,_,_⟩::_) _ _);refine lU hL rfl rfl io rfl fun w1 hL1=>?_;clear hL;have hL:=hL1;clear hL1)|(refine aQq ?_;clear hL;intro _ w1 hL));refine wf [(0,false),(1,false),(2,false),(3,false),(4,false),(5,false),(6,true)] [] [7,8] hL ?_
    repeat(first|((with_reducible show bu _ _ _ (_::_) _ _);refine sU rfl rfl (fg _ _ _ _) rfl ?_;refine p4 ?_)|refine rS ?_)
    refine aG ?_;refine fB ?_;clear hL;intro w1 hL;go_wp2_with (first|(refine aQq ?_;clear hL;intro _ w1 hL));exact bodyPost_ret (ay rfl hL rfl rfl) rfl ⟨some ⟨XN,Y,El.one,XNY⟩,rfl,congrArg some HN.out,hL.bel⟩
 ·rw[if_neg hc]at he
  have hp:y%P≠y:=fun e=>hc (by rw[← e];exact Nat.mod_lt _ qN);rw[decide_eq_false hp]at e1;rw[he];clear hlt hc hp he f0 hYv;generalize ab (y%P)=z,ab y=y at *
  go_enter func122,ntmps122;go_wp2_with (first|(refine gBp 1 ?_;clear hL;intro b1 w1 hL)|(refine gBp 2 ?_;clear hL;intro b2 w1 hL)|(refine aQq ?_;clear hL;intro _ w1 hL));refine wf [(0,false),(1,false),(2,false),(3,true)] [] [] hL ?_
  repeat refine rN ?_
  refine aG ?_;refine fC ?_;clear hL;intro w1 hL;go_wp2_with (first|((with_reducible show wpList _ _ _ (⟨_,.build 149 _,_,_,_,_⟩::_) _ _);refine lU hL rfl rfl ed rfl fun w1 hL1=>?_;clear hL;have hL:=hL1;clear hL1)|(refine aQq ?_;clear hL;intro _ w1 hL));exact bodyPost_ret (ay rfl hL rfl rfl) rfl ⟨none,rfl,rfl,hL.bel⟩
instance Rv:Ent 122:=eo func122
end R3
namespace R3
open Go Go.Proofs.YtoifhhljfaoejaaGreatDoor Go.RowKit
instance Rw(o:Option Pe):Row1 (a7 o) 64:=by cases o <;> unfold a7 <;> infer_instance
theorem refMay_any(f:Nat→BitVec 8)(w:World)[hG:Glob w][hI:GlobI w]:Rt 80 #[.agg (aa 32 f)] w (.bool (bF (leN f)).isSome):=by
 have hL:=Loc.nil w;have HR:=Hd (fun w1 (hb1:Below w.heap.size w w1)=> @gE f w1 (hG.below hb1) (hI.below hb1));generalize bF (leN f)=R at *
 go_enter func80,ntmps80;go_wp2_with (first|refine aV ?_|(refine gBp 1 ?_;clear hL;intro b1 w1 hL)|(refine gBp 3 ?_;clear hL;intro b3 w1 hL)|(refine gN 7 ?_;refine lKk (HR.out _ hL.bel) ?_;rintro e w1⟨o7,rfl,ho7,hb7⟩;have hL1:=hL.keep hb7;clear hL;revert hL1;refine aE ?_;intro hL)|(refine aM ?_;clear hL;intro w1 hL));go_ret;exact⟨by rw[← ho7];cases o7 <;> rfl,hL.bel⟩
theorem vT(f:Nat→BitVec 8)(i:Nat):∀k,leK f (i+k)=leK f i+2^(8*i)*leK (fun j=>f (i+j)) k
 | 0=>by show leK f i=leK f i+_*0;omega
 | k+1=>by
  show leK f (i+k)+(f (i+k)).toNat*2^(8*(i+k))=leK f i+2^(8*i)*(leK (fun j=>f (i+j)) k+(f (i+k)).toNat*2^(8*k));rw[vT f i k,Nat.mul_add 8,Nat.pow_add];grind
theorem Kz(f g:Nat→BitVec 8){i:Nat}(hi:i<32)(h:∀j,i<j→j<32→f j=g j)(hne:(f i).toNat≠(g i).toNat):(leN f<leN g)=((f i).toNat<(g i).toNat):=by
 have e:∀f:Nat→BitVec 8,leN f=leK f (i+1)+2^(8*(i+1))*leK (fun j=>f (i+1+j)) (31-i):=fun f=>by
  have:=vT f (i+1) (31-i);rw[show i+1+(31-i)=32 from by omega]at this;exact this
 have hr:leK (fun j=>f (i+1+j)) (31-i)=leK (fun j=>g (i+1+j)) (31-i):=by
  have key:∀k,k≤31-i→leK (fun j=>f (i+1+j)) k=leK (fun j=>g (i+1+j)) k:=fun k=>by
   induction k with
   | zero=>intro _;rfl
   | succ k ih =>
    intro hk;show leK _ k+(f (i+1+k)).toNat*_=leK _ k+(g (i+1+k)).toNat*_;rw[ih (by omega),h (i+1+k) (by omega) (by omega)]
  exact key _ (Nat.le_refl _)
 rw[e f,e g,hr];have h1:=df f i;have h2:=df g i;show(leK f i+(f i).toNat*2^(8*i)+_<leK g i+(g i).toNat*2^(8*i)+_)=_;generalize 2^(8*(i+1))*leK (fun j=>g (i+1+j)) (31-i)=R;generalize leK f i=x,leK g i=y,2^(8*i)=E,(f i).toNat=a,(g i).toNat=b at *
 apply propext;constructor
 ·intro hlt
  rcases Nat.lt_or_gt_of_ne hne with h|h
  ·exact h
  ·exfalso
   have:(b+1)*E≤a*E:=Nat.mul_le_mul_right _ h;rw[Nat.add_mul]at this;omega
 ·intro hlt
  have:(a+1)*E≤b*E:=Nat.mul_le_mul_right _ hlt;rw[Nat.add_mul]at this;omega
theorem vU(f:Nat→BitVec 8)(w:World)[hG:Glob w]:Rt 123 #[.agg (aa 32 f)] w (.bool (decide (leN f<Qo))):=by
 have hL:=Loc.nil w;have HO:=Hd (fun(i:Nat) (hi:i<32)=>show Was w 5 i (.int .i64 (B8 (ab Qo i)))from⟨hG.ord i hi,by have:=hG.lt;omega⟩);have hq:leN (ab Qo)=Qo:=bL xt;have HA:=Hd (fun(i:Nat) (hi:i<32) (h:∀j,i<j→j<32→f j=ab Qo j) (hne:(f i).toNat≠(ab Qo i).toNat)=>show decide (leN f<Qo)=decide ((f i).toNat<(ab Qo i).toNat)from by
  have:=Kz f (ab Qo) hi h hne;rw[hq]at this;exact decide_eq_decide.2 (Iff.of_eq this))
 have HE:=Hd (fun(h:∀j,j<32→f j=ab Qo j)=>show decide (leN f<Qo)=false from by
  have:leN f=leN (ab Qo):=by
   have key:∀k,k≤32→leK f k=leK (ab Qo) k:=fun k=>by
    induction k with
    | zero=>intro _;rfl
    | succ k ih=>intro hk;show leK f k+(f k).toNat*_=leK _ k+(ab Qo k).toNat*_;rw[ih (by omega),h k (by omega)]
   exact key 32 (Nat.le_refl _)
  rw[this,hq];exact decide_eq_false (Nat.lt_irrefl _))
 clear hq;obtain⟨out,hout⟩:∃out,out=decide (leN f<Qo):=⟨_,rfl⟩;rw[← hout]at HA HE ⊢;clear hout;generalize ab Qo=q at *
 go_enter func123,ntmps123;go_wp2_with (first|(refine gBp 1 ?_;clear hL;intro b1 w1 hL)|(refine aQq ?_;clear hL;intro _ w1 hL));go_loopw [3] (fun kk wr=>∃k:Nat,k≤32∧kk= .int .i64 ((k:Int)-1)∧(∀j,k≤j→j<32→f j=q j)∧Loc w wr [(b1,aa 32 f,24)]) (fun kk _=>(intOf kk+1).toNat);case atStart=>exact⟨32,by omega,rfl,fun j h1 h2=>absurd h1 (by omega),hL⟩
 case round =>
  clear hL;obtain⟨k,hk,rfl,hall,hL⟩:=hrel;have HALL:=Hd hall;clear hall;by_cases hpos:0<k
  ·obtain⟨i,rfl⟩:∃i,k=i+1:=⟨k-1,by omega⟩
   rw[show(((i+1:Nat):Int)-1)=(i:Int)from by omega];have hi0:(0:Int)≤(i:Int):=by omega
   have hi1:(i:Int)<32:=by omega
   haveI gf:Cell (aa 32 f) i (.int .u8 (B8 (f i))):=aI _ (by omega);haveI gq:Was w 5 i (.int .i64 (B8 (q i))):=HO.out i (by omega);obtain⟨b0,b1'⟩:=bK (f i);have wv:IntKind.i64.wrap (B8 (f i))=B8 (f i):=IntWalk.i64_in _ (by omega);by_cases hne:f i=q i
   ·have he:B8 (f i)=B8 (q i):=by rw[hne]
    have HALL2:=Hd (show ∀j,i≤j→j<32→f j=q j from fun j h1 h2=>by
     rcases Nat.eq_or_lt_of_le h1 with h|h
     ·rw[← h];exact hne
     ·exact HALL.out j h h2)
    rw[he]at gf wv b0 b1';generalize B8 (q i)=y at *
    clear he hne HALL HA HE HO;go_wp2_with (first|(refine aQq ?_;clear hL;intro _ w1 hL));refine wf [(0,true),(1,true),(2,false),(3,true),(4,true),(5,true),(6,false),(7,true)] [] [] hL ?_
    repeat(first|((with_reducible show bu _ _ _ (_::_) _ _);refine sW rfl rfl rfl ?_;refine p4 ?_)|refine rS ?_)
    refine aG ?_;refine fC ?_;clear hL;intro w1 hL;go_wp2_with (first|(refine aQq ?_;clear hL;intro _ w1 hL));go_roundw;case rel=>exact⟨i,by omega,by first|rfl|go_num,HALL2.out,hL⟩
    case measure=>simp[intOf]
   ·have hn:(f i).toNat≠(q i).toNat:=fun e=>hne (BitVec.eq_of_toNat_eq e)
    have ha:=HA.out i (by omega) (fun j h1 h2=>HALL.out j h1 h2) hn;have hneI:¬B8 (f i)=B8 (q i):=fun e=>hn (by unfold B8 at e;omega);have hlt:decide (B8 (f i)<B8 (q i))=out:=by
     rw[ha];apply decide_eq_decide.2;unfold B8;omega
    clear ha hn hne HALL HA HE HO;generalize B8 (q i)=y,B8 (f i)=x at *
    go_wp2_with (first|(refine aQq ?_;clear hL;intro _ w1 hL));refine wf [(0,true),(1,true),(2,false),(3,true),(4,true),(5,true),(6,false),(7,true)] [] [] hL ?_
    repeat(first|((with_reducible show bu _ _ _ (_::_) _ _);refine sW rfl rfl rfl ?_;refine p4 ?_)|refine rS ?_)
    refine aG ?_;refine fC ?_;clear hL;intro w1 hL;go_wp2_with (first|(refine aQq ?_;clear hL;intro _ w1 hL));refine wf [(0,true),(1,true),(2,false),(3,true),(4,true),(5,true),(6,false),(7,true),(8,true)] [] [] hL ?_
    repeat(first|((with_reducible show bu _ _ _ (_::_) _ _);refine sW rfl rfl rfl ?_;refine p4 ?_)|refine rS ?_)
    refine aG ?_;refine fC ?_;clear hL;intro w1 hL;go_wp2_with (first|(refine aQq ?_;clear hL;intro _ w1 hL));go_ret;exact⟨by rw[← hlt];rfl,hL.bel⟩
  ·obtain rfl:k=0:=by omega
   have ho:=HE.out (fun j h=>HALL.out j (by omega) h);rw[show(((0:Nat):Int)-1)= -1 from rfl];clear HALL HA HE HO;subst ho;go_wp2_with (first|(refine aQq ?_;clear hL;intro _ w1 hL));go_ret;exact⟨rfl,hL.bel⟩
end R3
namespace R3
open Go Go.Proofs.YtoifhhljfaoejaaGreatDoor Go.RowKit Go.Shelf
theorem rG(f:Nat→BitVec 8)(h:bF (leN f)=none)(w:World)(hG:Glob w)(hI:GlobI w):Rt 122 #[.agg (aa 32 f)] w (.tuple #[.agg Az,.bool false]) :=
 (gE f w).mono fun e w' ⟨o,h1,h2,h3⟩=>by
  rw[h]at h2;cases o with
  | none=>exact⟨h1,h3⟩
  | some p=>cases h2
theorem rH(f:Nat→BitVec 8){a:Ex}(h:bF (leN f)=some a)(w:World)(hG:Glob w)(hI:GlobI w):Calls prog 122 #[.agg (aa 32 f)] w fun r w'=>∃p:Pe,r= .returned (.tuple #[.agg (rowPe p),.bool true])∧p.ex=a∧Below w.heap.size w w' :=
 (gE f w).mono fun e w' ⟨o,h1,h2,h3⟩=>by
  rw[h]at h2;cases o with
  | none=>cases h2
  | some p=>exact⟨p,h1,by simpa using h2,h3⟩
theorem refVerify_any(fk fs:Nat→BitVec 8)(vb:Value)(m:List (BitVec 8))(w:World)[hG:Glob w][hI:GlobI w](hb:BRow w vb m)(hm:m.length≤1000000) :
 Rt 70 #[.agg (aa 32 fk),.agg (aa 64 fs),vb] w (.bool (dD (leN fk) (leN fs) (leN fun i=>fs (32+i)) m)):=by
 have hL:=Loc.nil w;haveI hA1:Arg w vb (an m):=⟨hb.vrow⟩;obtain⟨pb,cb,rfl⟩:=hb.shape;obtain⟨fs2,hfs2⟩:∃fs2:Nat→BitVec 8,fs2=fun i=>fs (32+i):=⟨_,rfl⟩;haveI sg1:Seg (aa 64 fs) 0 32 (an (ae 32 fs)):=by
  have:=segB (n:=64) fs 0 32 (by omega);simpa using this
 haveI sg2:Seg (aa 64 fs) 32 32 (an (ae 32 fs2)):=by rw[hfs2];exact segB (n:=64) fs 32 32 (by omega)
 rw[← hfs2];clear hfs2;obtain⟨c1,c2,c3,c4⟩:=lp (leN fk) (leN fs) (leN fs2) m;have h32:(an (ae 32 fs)).length=32:=by rw[aq,ag]
 have h32b:(an (ae 32 fs2)).length=32:=by rw[aq,ag]
 haveI sp1:Spl (aa 32 fun _=>0) 0 (an (ae 32 fs)) (aa 32 fs):=mH _ _ _ (by omega) fun i hi=>by rw[if_pos ⟨by omega,by omega⟩];rfl
 haveI sp2:Spl (aa 32 fun _=>0) 0 (an (ae 32 fs2)) (aa 32 fs2):=mH _ _ _ (by omega) fun i hi=>by rw[if_pos ⟨by omega,by omega⟩];rfl
 haveI s3:Seg (aa 32 fs) 0 32 (an (ae 32 fs)):=fT 32 fs;haveI s4:Seg (aa 32 fk) 0 32 (an (ae 32 fk)):=fT 32 fk;have HL:=Hd (fun w1 (hb1:Below w.heap.size w w1)=> @vU fs2 w1 (hG.below hb1));cases hA:bF (leN fk)with
 | none =>
  rw[c2 hA];have HK:=Hd (fun w1 (hb1:Below w.heap.size w w1)=>rG fk hA w1 (hG.below hb1) (hI.below hb1));have HR:=Hd (fun w1 (hb1:Below w.heap.size w w1)=> @gE fs w1 (hG.below hb1) (hI.below hb1));clear c1 c2 c3 c4 hA;go_enter func70,ntmps70;go_wp2_with (first|refine aU ?_|(refine gBp 3 ?_;clear hL;intro b3 w1 hL)|(refine gBp 4 ?_;clear hL;intro b4 w1 hL)|(refine gBp 7 ?_;clear hL;intro b7 w1 hL)|(refine gBp 8 ?_;clear hL;intro b8 w1 hL)|(refine ah ?_;clear hL;intro w1 hL));refine mX (S:=fun w'=>Loc _ w' _) 3 (Loc.rem b7 (hL.drew)) ?_;intro hHeld;replace hL:=hL.drew;refine uG 0 ?_;refine uG 1 ?_;refine rd1 2 ?_;intro K hK;refine eCp ?_;clear hL;intro w1 hL;refine kO hK (Loc.rem b7 (hL)) ?_;clear hK K hHeld;intro hHeld;refine wD ?_;clear hHeld;go_wp2_with (first|refine aU ?_|(refine ah ?_;clear hL;intro w1 hL));refine mX (S:=fun w'=>Loc _ w' _) 3 (Loc.rem b8 (hL.drew)) ?_;intro hHeld;replace hL:=hL.drew;refine uG 0 ?_;refine uG 1 ?_;refine rd1 2 ?_;intro K hK;refine eCp ?_;clear hL;intro w1 hL;refine kO hK (Loc.rem b8 (hL)) ?_;clear hK K hHeld;intro hHeld;refine wD ?_;clear hHeld;go_wp2_with (first|refine aU ?_|(refine gBp 9 ?_;clear hL;intro b9 w1 hL)|(refine gBp 11 ?_;clear hL;intro b11 w1 hL)|(go_at_call 122;go_loud (refine(HK.out _ hL.bel).mono ?_);rintro e w1⟨rfl,hb1⟩;have hL1:=hL.keep hb1;clear hb1;clear hL;have hL:=hL1;clear hL1;refine p4 ?_)|(refine gN 27 ?_;refine lKk (HR.out _ hL.bel) ?_;rintro e w1⟨o27,rfl,ho27,hb27⟩;have hL1:=hL.keep hb27;clear hL;revert hL1;refine aE ?_;intro hL)|(refine ah ?_;clear hL;intro w1 hL));go_ret;exact⟨rfl,hL.bel⟩
 | some a =>
  have HK:=Hd (fun w1 (hb1:Below w.heap.size w w1)=>rH fk hA w1 (hG.below hb1) (hI.below hb1));cases hR:bF (leN fs)with
  | none =>
   rw[c1 hR];have HR:=Hd (fun w1 (hb1:Below w.heap.size w w1)=>rG fs hR w1 (hG.below hb1) (hI.below hb1));clear c1 c2 c3 c4 hA hR;go_enter func70,ntmps70;go_wp2_with (first|refine aU ?_|(refine gBp 3 ?_;clear hL;intro b3 w1 hL)|(refine gBp 4 ?_;clear hL;intro b4 w1 hL)|(refine gBp 7 ?_;clear hL;intro b7 w1 hL)|(refine gBp 8 ?_;clear hL;intro b8 w1 hL)|(refine ah ?_;clear hL;intro w1 hL));refine mX (S:=fun w'=>Loc _ w' _) 3 (Loc.rem b7 (hL.drew)) ?_;intro hHeld;replace hL:=hL.drew;refine uG 0 ?_;refine uG 1 ?_;refine rd1 2 ?_;intro K hK;refine eCp ?_;clear hL;intro w1 hL;refine kO hK (Loc.rem b7 (hL)) ?_;clear hK K hHeld;intro hHeld;refine wD ?_;clear hHeld;go_wp2_with (first|refine aU ?_|(refine ah ?_;clear hL;intro w1 hL));refine mX (S:=fun w'=>Loc _ w' _) 3 (Loc.rem b8 (hL.drew)) ?_;intro hHeld;replace hL:=hL.drew;refine uG 0 ?_;refine uG 1 ?_;refine rd1 2 ?_;intro K hK;refine eCp ?_;clear hL;intro w1 hL;refine kO hK (Loc.rem b8 (hL)) ?_;clear hK K hHeld;intro hHeld;refine wD ?_;clear hHeld;go_wp2_with (first|refine aU ?_|(refine gBp 9 ?_;clear hL;intro b9 w1 hL)|(refine gBp 11 ?_;clear hL;intro b11 w1 hL)|(refine gN 22 ?_;refine lKk (HK.out _ hL.bel) ?_;rintro e w1⟨o22,rfl,ho22,hb22⟩;have hL1:=hL.keep hb22;clear hL;revert hL1;refine aE ?_;intro hL)|(refine gN 27 ?_;refine lKk (HR.out _ hL.bel) ?_;rintro e w1⟨rfl,hb27⟩;have hL1:=hL.keep hb27;clear hL;revert hL1;refine aE ?_;intro hL)|(refine ah ?_;clear hL;intro w1 hL));go_ret;exact⟨rfl,hL.bel⟩
  | some r =>
   have HR:=Hd (fun w1 (hb1:Below w.heap.size w w1)=>rH fs hR w1 (hG.below hb1) (hI.below hb1));by_cases hs:leN fs2<Qo
   ·rw[c4 r a hR hA hs]
    rw[decide_eq_true hs]at HL;have hk:li [ae 32 fs,ae 32 fk,m].flatten=jv (leN fk) (leN fs) m:=by
     unfold jv;rw[iJ,iJ];simp
    have hw:=(fun w1 (hb1:Below w.heap.size w w1) (u:Value) (hu:BRows w1 u [ae 32 fs,ae 32 fk,m])=> @oW u _ w1 (hG.below hb1) hu ⟨_,_,rfl,by rw[ag];omega⟩ (by simp) (by simp[ag];omega));rw[hk]at hw;have HW:=Hd hw;have hKl:=yZ (leN fk) (leN fs) m;have HM:=Hd (fun(p:Pe)=>show FnG 76 #[.agg (rowPe p),.agg (aa 32 (ab (jv (leN fk) (leN fs) m)))] (.agg (rowPe (p.many (jv (leN fk) (leN fs) m))))from⟨fun w1 h1=>by
     have:= @uz p (ab (jv (leN fk) (leN fs) m)) w1 h1;rwa[bL hKl]at this⟩)
    haveI gb:FnG 77 #[] (.agg (rowPe Pe.B)):=inferInstance;haveI gm:FnG 76 #[.agg (rowPe Pe.B),.agg (aa 32 fs2)] (.agg (rowPe (Pe.B.many (leN fs2)))):=inferInstance;have hbx:(Pe.B.many (leN fs2)).ex=cp exB (leN fs2):=by rw[Pe.many_ex,Pe.B_ex]
    rw[← hbx];clear hw hk hKl c1 c2 c3 c4 hA hR hs hbx;generalize Pe.B.many (leN fs2)=SB,jv (leN fk) (leN fs) m=KK at *
    go_enter func70,ntmps70;go_wp2_with (first|refine aU ?_|(refine gBp 3 ?_;clear hL;intro b3 w1 hL)|(refine gBp 4 ?_;clear hL;intro b4 w1 hL)|(refine gBp 7 ?_;clear hL;intro b7 w1 hL)|(refine gBp 8 ?_;clear hL;intro b8 w1 hL)|(refine ah ?_;clear hL;intro w1 hL));refine mX (S:=fun w'=>Loc _ w' _) 3 (Loc.rem b7 (hL.drew)) ?_;intro hHeld;replace hL:=hL.drew;refine uG 0 ?_;refine uG 1 ?_;refine rd1 2 ?_;intro K hK;refine eCp ?_;clear hL;intro w1 hL;refine kO hK (Loc.rem b7 (hL)) ?_;clear hK K hHeld;intro hHeld;refine wD ?_;clear hHeld;go_wp2_with (first|refine aU ?_|(refine ah ?_;clear hL;intro w1 hL));refine mX (S:=fun w'=>Loc _ w' _) 3 (Loc.rem b8 (hL.drew)) ?_;intro hHeld;replace hL:=hL.drew;refine uG 0 ?_;refine uG 1 ?_;refine rd1 2 ?_;intro K hK;refine eCp ?_;clear hL;intro w1 hL;refine kO hK (Loc.rem b8 (hL)) ?_;clear hK K hHeld;intro hHeld;refine wD ?_;clear hHeld;go_wp2_with (first|refine aU ?_|(refine gBp 9 ?_;clear hL;intro b9 w1 hL)|(refine gBp 11 ?_;clear hL;intro b11 w1 hL)|(refine gN 22 ?_;refine lKk (HK.out _ hL.bel) ?_;rintro e w1⟨p22,rfl,hp22,hb22⟩;have hL1:=hL.keep hb22;clear hL;revert hL1;refine aE ?_;intro hL)|(refine gN 27 ?_;refine lKk (HR.out _ hL.bel) ?_;rintro e w1⟨p27,rfl,hp27,hb27⟩;have hL1:=hL.keep hb27;clear hL;revert hL1;refine aE ?_;intro hL)|(go_at_call 123;go_loud (refine(HL.out _ hL.bel).mono ?_);rintro e w1⟨rfl,hb1⟩;have hL1:=hL.keep hb1;clear hb1;clear hL;have hL:=hL1;clear hL1;refine p4 ?_)|(refine ah ?_;clear hL;intro w1 hL));refine jx (R:=?R) (fun hR=>?h1) ?h2;case h1 =>
     refine mX (S:=(fun _=>True)) 7 (trivial) ?_;intro hHeld;replace hL:=hL.drew;refine uG 0 ?_;refine uG 1 ?_;refine uG 2 ?_;refine rd2 3 5 ?_ ?_
     ·intro K hK
      refine eBS ?_;clear hL;intro b44 w1 hL;refine kO hK (trivial) ?_;clear hK K hHeld;intro hHeld;refine rd2 4 5 ?_ ?_
      ·intro K hK
       refine eK (HW.out _ hL.bel _ (dG (hL.at_ b44) (See.bytes hL) (See.bytes hL) (See.bytes hL))) ?_;rintro e w1⟨rfl,hN⟩;refine⟨_,rfl,?_⟩;have hL1:=hL.keep hN;clear hN;clear hL;revert hL1;refine aN ?_;intro hL;refine kO hK (trivial) ?_;clear hK K hHeld;intro hHeld;refine rd1 5 ?_;intro K hK;refine eA hL rfl ?_;clear hL;intro b13 w1 hL;refine kO hK (trivial) ?_;clear hK K hHeld;intro hHeld;refine rd1 6 ?_;intro K hK;refine eJ ?_;clear hL;intro w1 hL;refine kO hK (trivial) ?_;clear hK K hHeld;intro hHeld;refine wD ?_;clear hHeld;have hLp:=hL;clear hL;revert hLp;revert w1;revert b13;revert b44;exact pm hR
      ·intro K hK
       refine eA hL rfl ?_;clear hL;intro b13 w1 hL;refine kO hK (trivial) ?_;clear hK K hHeld;intro hHeld;refine rd1 4 ?_;intro K hK;refine eK (HW.out _ hL.bel _ (dG (hL.at_ b44) (See.bytes hL) (See.bytes hL) (See.bytes hL))) ?_;rintro e w1⟨rfl,hN⟩;refine⟨_,rfl,?_⟩;have hL1:=hL.keep hN;clear hN;clear hL;revert hL1;refine aN ?_;intro hL;refine kO hK (trivial) ?_;clear hK K hHeld;intro hHeld;refine rd1 6 ?_;intro K hK;refine eJ ?_;clear hL;intro w1 hL;refine kO hK (trivial) ?_;clear hK K hHeld;intro hHeld;refine wD ?_;clear hHeld;have hLp:=hL;clear hL;revert hLp;revert w1;revert b13;revert b44;exact pm hR
     ·intro K hK
      refine eA hL rfl ?_;clear hL;intro b13 w1 hL;refine kO hK (trivial) ?_;clear hK K hHeld;intro hHeld;refine rd1 3 ?_;intro K hK;refine eBS ?_;clear hL;intro b44 w1 hL;refine kO hK (trivial) ?_;clear hK K hHeld;intro hHeld;refine rd1 4 ?_;intro K hK;refine eK (HW.out _ hL.bel _ (dG (hL.at_ b44) (See.bytes hL) (See.bytes hL) (See.bytes hL))) ?_;rintro e w1⟨rfl,hN⟩;refine⟨_,rfl,?_⟩;have hL1:=hL.keep hN;clear hN;clear hL;revert hL1;refine aN ?_;intro hL;refine kO hK (trivial) ?_;clear hK K hHeld;intro hHeld;refine rd1 6 ?_;intro K hK;refine eJ ?_;clear hL;intro w1 hL;refine kO hK (trivial) ?_;clear hK K hHeld;intro hHeld;refine wD ?_;clear hHeld;have hLp:=hL;clear hL;revert hLp;revert w1;revert b13;revert b44;exact pm hR
    intro b44 b13 w1 hL1;clear hL;have hL:=hL1;clear hL1;go_wp2_with (first|refine aU ?_|(refine ah ?_;clear hL;intro w1 hL));haveI gk:=HM.out p22;have hfin:(p27.add (p22.many KK)).ex=cZ r (cp a KK):=by rw[Pe.add_ex,Pe.many_ex,hp22,hp27]
    have eq1:=iH (bT SB.ex) (bT (p27.add (p22.many KK)).ex) (iI _) (iI _);have HFIN:=Hd hfin;clear hfin HM HW HK HR HL;generalize p22.many KK=PK at *
    haveI ga:FnG 125 #[.agg (rowPe p27),.agg (rowPe PK)] (.agg (rowPe (p27.add PK))):=inferInstance;generalize p27.add PK=QQ at *
    refine wf [(0,false),(1,false),(2,false),(3,false),(4,false),(5,false),(6,false),(7,false),(8,false),(9,false),(10,true),(11,true)] [] [] hL ?_
    repeat(first|((with_reducible show bu _ _ _ (_::_) _ _);refine sQ rfl rfl rfl rfl ?_;refine p4 ?_)|refine rS ?_)
    refine aG ?_;refine fC ?_;clear hL;intro w1 hL;go_wp2_with (first|refine aU ?_|(refine ah ?_;clear hL;intro w1 hL));go_ret;exact⟨by rw[HFIN.out];rfl,hL.bel⟩
   ·rw[c3 hs]
    rw[decide_eq_false hs]at HL;clear c1 c2 c3 c4 hA hR hs;go_enter func70,ntmps70;go_wp2_with (first|refine aU ?_|(refine gBp 3 ?_;clear hL;intro b3 w1 hL)|(refine gBp 4 ?_;clear hL;intro b4 w1 hL)|(refine gBp 7 ?_;clear hL;intro b7 w1 hL)|(refine gBp 8 ?_;clear hL;intro b8 w1 hL)|(refine ah ?_;clear hL;intro w1 hL));refine mX (S:=fun w'=>Loc _ w' _) 3 (Loc.rem b7 (hL.drew)) ?_;intro hHeld;replace hL:=hL.drew;refine uG 0 ?_;refine uG 1 ?_;refine rd1 2 ?_;intro K hK;refine eCp ?_;clear hL;intro w1 hL;refine kO hK (Loc.rem b7 (hL)) ?_;clear hK K hHeld;intro hHeld;refine wD ?_;clear hHeld;go_wp2_with (first|refine aU ?_|(refine ah ?_;clear hL;intro w1 hL));refine mX (S:=fun w'=>Loc _ w' _) 3 (Loc.rem b8 (hL.drew)) ?_;intro hHeld;replace hL:=hL.drew;refine uG 0 ?_;refine uG 1 ?_;refine rd1 2 ?_;intro K hK;refine eCp ?_;clear hL;intro w1 hL;refine kO hK (Loc.rem b8 (hL)) ?_;clear hK K hHeld;intro hHeld;refine wD ?_;clear hHeld;go_wp2_with (first|refine aU ?_|(refine gBp 9 ?_;clear hL;intro b9 w1 hL)|(refine gBp 11 ?_;clear hL;intro b11 w1 hL)|(refine gN 22 ?_;refine lKk (HK.out _ hL.bel) ?_;rintro e w1⟨o22,rfl,ho22,hb22⟩;have hL1:=hL.keep hb22;clear hL;revert hL1;refine aE ?_;intro hL)|(refine gN 27 ?_;refine lKk (HR.out _ hL.bel) ?_;rintro e w1⟨o27,rfl,ho27,hb27⟩;have hL1:=hL.keep hb27;clear hL;revert hL1;refine aE ?_;intro hL)|(go_at_call 123;go_loud (refine(HL.out _ hL.bel).mono ?_);rintro e w1⟨rfl,hb1⟩;have hL1:=hL.keep hb1;clear hb1;clear hL;have hL:=hL1;clear hL1;refine p4 ?_)|(refine ah ?_;clear hL;intro w1 hL));go_ret;exact⟨rfl,hL.bel⟩
instance Rx:Ent 70:=eo func70
end R3
end Go.Proofs.YtoifhhljfaoejaaGreatDoor
