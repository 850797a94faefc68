/- Lemmas of the law: walks of functions that it calls, plain facts about them; no condition beyond those written. -/
import Derived.Test.YtoifhhljfaoejaaGreatDoorPkAC
import Derived.Deep.AppendLies
import Derived.Outline
import Derived.OpenShut
import Derived.Deep.Slices
set_option maxRecDepth 100000
set_option maxHeartbeats 8000000
set_option linter.unusedVariables false
set_option linter.unusedSimpArgs false
set_option linter.unusedSectionVars false
namespace Go.Proofs.YtoifhhljfaoejaaGreatDoor
open Go.Proofs.Tryz Go Go.RowKit Go.Shelf
class Glob(w:ϑ):Prop where
 lt:6<w.heap.size
 k256:∀i,i<64→w.cell? ⟨0,i,none⟩=some (.int .u32 (U (di i)))
 bx:∀i,i<16→w.cell? ⟨1,i,none⟩=some (.int .i64 (R3.dg pB.x.val i:Nat))
 by_:∀i,i<16→w.cell? ⟨2,i,none⟩=some (.int .i64 (R3.dg pB.y.val i:Nat))
 dd:∀i,i<16→w.cell? ⟨4,i,none⟩=some (.int .i64 (R3.dg dF.val i:Nat))
 ord:∀i,i<32→w.cell? ⟨5,i,none⟩=some (.int .i64 ((ah Qo i).toNat:Nat))
 k512:∀i,i<80→w.cell? ⟨6,i,none⟩=some (.int .u64 (Q (Shb.K512 i)))
theorem Glob.below{w Z:ϑ}(h:Glob w)(hb:Υ w Z):Glob Z:=by
 have c:∀(b i:Nat) (v:ό),b≤6→w.cell? ⟨b,i,none⟩=some v→Z.cell? ⟨b,i,none⟩=some v:=fun b i v hb' hc=>(hb.cell (p:=⟨b,i,none⟩) (Yw hb' h.lt)).trans hc;exact⟨Xl h.lt hb.size,fun i hi=>c _ _ _ Ω (h.k256 i hi),fun i hi=>c _ _ _ Ω (h.bx i hi),fun i hi=>c _ _ _ Ω (h.by_ i hi),fun i hi=>c _ _ _ Ω (h.dd i hi),
  fun i hi=>c _ _ _ Ω (h.ord i hi),fun i hi=>c _ _ _ Ω (h.k512 i hi)⟩
class GlobI(w:ϑ):Prop where
 lt:7<w.heap.size
 im:∀i,i<16→w.cell? ⟨7,i,none⟩=some (.int .i64 (R3.dg iF.val i:Nat))
theorem GlobI.below{w Z:ϑ}(h:GlobI w)(hb:Υ w Z):GlobI Z :=
 ⟨Xl h.lt hb.size,fun i hi=>(hb.cell (p:=⟨7,i,none⟩) h.lt).trans (h.im i hi)⟩
theorem Loc.glob{D w:ϑ}{M:Mem}(h:Loc D w M)(hg:Glob D):Glob w:=hg.below h.bel
class FnG(f:FuncId)(args:Ψ)(v:outParam Value):Prop where
 calls:∀w,Glob w→ϓ f args w fun e Z=>e= .returned v∧Υ w Z
class WasR(D:ϑ)(b:Nat)(r:outParam Ψ):Prop where
 cell:∀(j:Nat) (v:ό),r.toList[j]?=some v→D.cell? ⟨b,0+j,none⟩=some v
 lt:b<D.heap.size
theorem mU{D:ϑ}{b n:Nat}{S:Nat→ό}(hc:∀i,i<n→D.cell? ⟨b,i,none⟩=some (S i))(hl:b<D.heap.size):WasR D b (row n S):=⟨fun j v hv=>by
 have hj:j<n:=by
  rcases XI j n with h|h
  ·exact h
  ·rw[List.getElem?_eq_none (by simp[aS];exact h)]at hv;cases hv
 rw[Array.getElem?_toList,bG S hj]at hv;cases hv
 rw[XA];exact hc j hj,hl⟩
section
variable {ops:Array Oper} {rest:List Oper} {l:List (Oper×Bool)} {R:Act→Prop} {o:Oper} {a:Act} {D w:ϑ} {M M':Mem} {Q:Exit→Act→ϑ→Prop}
theorem lR(I:Loc D w M)(hg:o.guard=none){t:ϋ}{x:Operand}(ho:o.op= .load t x){b:Nat}(hx:a.eval x= .pointer (ϐ b)){s:Ψ}{n:Nat}[ht:RowTy t n][hm:WasR D b s][hr:Row1 s n](h:∀Z,Loc D Z M→wpList prog ops Q rest (a.put o.dst (.agg s)) Z):wpList prog ops Q (o::rest) a w:=by
 obtain⟨d,h1,h2⟩:=ht.und;have:=ZQ (ops:=ops) (rest:=rest) (Q:=Q) hg t x ho b 0 hx s.toList d (fun j v hv=>(I.bel.cell (p:=⟨b,0+j,none⟩) hm.lt).trans (hm.cell j v hv)) h1 h2 (by rw[ht.size,Yq,hr.size]);simp only[YO]at this;exact this (h w I)
theorem sR(hg:o.guard=none){t:ϋ}{x:Operand}(ho:o.op= .load t x){b:Nat}(hx:a.eval x= .pointer (ϐ b)){s:Ψ}{n:Nat}[ht:RowTy t n][hm:WasR D b s][hr:Row1 s n](h:bC prog ops (fun w=>Loc D w M) l (a.put o.dst (.agg s)) R):bC prog ops (fun w=>Loc D w M) ((o,false)::l) a R:=by
 obtain⟨d,h1,h2⟩:=ht.und;have hy:=yieldsIf_load_mid (P:=prog) (ops:=ops) (S:=fun w=>Loc D w M) (op:=o) (a:=a) (by simp[Region.wanted,hg]) t x ho b 0 hx s.toList d (fun w h=>fun j v hv=>(h.bel.cell (p:=⟨b,0+j,none⟩) hm.lt).trans (hm.cell j v hv)) h1 h2 (by rw[ht.size,Yq,hr.size]);simp only[YO]at hy;rcases hy with⟨hw,hv⟩|⟨_,h0⟩
 ·exact⟨_,⟨hw,fun w hS=> .inl (hv w hS)⟩,h⟩
 ·cases h0
theorem lG(I:Loc D w M)(hg:o.guard=none){f:FuncId}{xs:Array Operand}{ts:Array TypeId}(ho:o.op= .call { callee:= .value (.func f),args:=xs,argTypes:=ts }){args:Ψ}(hx:xs.map a.eval=args)[he:Ent f][hG:Glob D]{v:ό}[hf:FnG f args v](h:∀Z,Loc D Z M→wpList prog ops Q rest (a.put o.dst v) Z):wpList prog ops Q (o::rest) a w :=
 Xt hg fun K T=>by
  unfold Oper.wp;rw[lx ho rfl w,hx,Zz];refine(hf.calls w (I.glob hG)).mono fun e w'' hh=>?_;obtain⟨rfl,hb⟩:=hh;exact T _ _ (h w'' (I.keep hb))
theorem lG0(I:Loc D w M)(hg:o.guard=none){f:FuncId}{ts:Array TypeId}(ho:o.op= .call { callee:= .value (.func f),args:= #[],argTypes:=ts })[he:Ent f][hG:Glob D]{v:ό}[hf:FnG f #[] v](h:∀Z,Loc D Z M→wpList prog ops Q rest (a.put o.dst v) Z):wpList prog ops Q (o::rest) a w:=lG (args:= #[]) I hg ho Ϡ h
theorem lG1(I:Loc D w M)(hg:o.guard=none){f:FuncId}{x:Operand}{ts:Array TypeId}(ho:o.op= .call { callee:= .value (.func f),args:= #[x],argTypes:=ts }){r:Ψ}(hx:a.eval x= .agg r)[he:Ent f][hG:Glob D]{v:ό}[hf:FnG f #[.agg r] v](h:∀Z,Loc D Z M→wpList prog ops Q rest (a.put o.dst v) Z):wpList prog ops Q (o::rest) a w:=lG (args:= #[.agg r]) I hg ho (by simp[hx]) h
theorem lG2(I:Loc D w M)(hg:o.guard=none){f:FuncId}{x y:Operand}{ts:Array TypeId}(ho:o.op= .call { callee:= .value (.func f),args:= #[x,y],argTypes:=ts }){r s:Ψ}(hx:a.eval x= .agg r)(hy:a.eval y= .agg s)[he:Ent f][hG:Glob D]{v:ό}[hf:FnG f #[.agg r,.agg s] v](h:∀Z,Loc D Z M→wpList prog ops Q rest (a.put o.dst v) Z):wpList prog ops Q (o::rest) a w:=lG (args:= #[.agg r,.agg s]) I hg ho (by simp[hx,hy]) h
theorem sG(hg:o.guard=none){f:FuncId}{xs:Array Operand}{ts:Array TypeId}(ho:o.op= .call { callee:= .value (.func f),args:=xs,argTypes:=ts }){args:Ψ}(hx:xs.map a.eval=args)[he:Ent f][hG:Glob D]{v:ό}[hf:FnG f args v](h:bC prog ops (fun w=>Loc D w M) l (a.put o.dst v) R):bC prog ops (fun w=>Loc D w M) ((o,false)::l) a R :=
 nO hg (fun w=>by rw[lx ho rfl w,hx]) (fun w hS=>hf.calls w (hS.glob hG)) h
theorem sG0(hg:o.guard=none){f:FuncId}{ts:Array TypeId}(ho:o.op= .call { callee:= .value (.func f),args:= #[],argTypes:=ts })[he:Ent f][hG:Glob D]{v:ό}[hf:FnG f #[] v](h:bC prog ops (fun w=>Loc D w M) l (a.put o.dst v) R):bC prog ops (fun w=>Loc D w M) ((o,false)::l) a R:=sG (args:= #[]) hg ho Ϡ h
theorem sG1(hg:o.guard=none){f:FuncId}{x:Operand}{ts:Array TypeId}(ho:o.op= .call { callee:= .value (.func f),args:= #[x],argTypes:=ts }){r:Ψ}(hx:a.eval x= .agg r)[he:Ent f][hG:Glob D]{v:ό}[hf:FnG f #[.agg r] v](h:bC prog ops (fun w=>Loc D w M) l (a.put o.dst v) R):bC prog ops (fun w=>Loc D w M) ((o,false)::l) a R:=sG (args:= #[.agg r]) hg ho (by simp[hx]) h
theorem sG2(hg:o.guard=none){f:FuncId}{x y:Operand}{ts:Array TypeId}(ho:o.op= .call { callee:= .value (.func f),args:= #[x,y],argTypes:=ts }){r s:Ψ}(hx:a.eval x= .agg r)(hy:a.eval y= .agg s)[he:Ent f][hG:Glob D]{v:ό}[hf:FnG f #[.agg r,.agg s] v](h:bC prog ops (fun w=>Loc D w M) l (a.put o.dst v) R):bC prog ops (fun w=>Loc D w M) ((o,false)::l) a R:=sG (args:= #[.agg r,.agg s]) hg ho (by simp[hx,hy]) h
end
instance OZ(w:ϑ)[h:Glob w]:WasR w 1 (R3.rowEl (R3.El.of pB.x.val)):=mU h.bx (by have:=h.lt;omega)
instance O0(w:ϑ)[h:Glob w]:WasR w 2 (R3.rowEl (R3.El.of pB.y.val)):=mU h.by_ (by have:=h.lt;omega)
instance O1(w:ϑ)[h:Glob w]:WasR w 4 (R3.rowEl R3.dE):=mU h.dd (by have:=h.lt;omega)
instance O2(w:ϑ)[h:GlobI w]:WasR w 7 (R3.rowEl (R3.El.of iF.val)):=mU h.im (by have:=h.lt;omega)
namespace Shb
instance MJ:Ent 187:=eo func187
theorem MK(x:BitVec 64)(w:ϑ):ϓ 187 #[.int .u64 (Q x),.int .u64 1] w fun e Z=>e= .returned (.int .u64 (Q (aX x 63)))∧w=Z:=by
 obtain⟨h0,h1⟩:=jH x;have HV:=Hd (el x 63 1 rfl);go_enter func187,ntmps187;go_wp2;go_ret;exact⟨XH (fun z=>Ending.returned (.int .u64 z)) HV.out,rfl⟩
instance ML(x:BitVec 64):FnC 187 #[.int .u64 (Q x),.int .u64 1] (.int .u64 (Q (aX x 63))):=⟨fun w=>cN (MK x w)⟩
theorem MM(x:BitVec 64)(w:ϑ):ϓ 187 #[.int .u64 (Q x),.int .u64 8] w fun e Z=>e= .returned (.int .u64 (Q (aX x 56)))∧w=Z:=by
 obtain⟨h0,h1⟩:=jH x;have HV:=Hd (el x 56 8 rfl);go_enter func187,ntmps187;go_wp2;go_ret;exact⟨XH (fun z=>Ending.returned (.int .u64 z)) HV.out,rfl⟩
instance MN(x:BitVec 64):FnC 187 #[.int .u64 (Q x),.int .u64 8] (.int .u64 (Q (aX x 56))):=⟨fun w=>cN (MM x w)⟩
theorem KH(x:BitVec 64)(w:ϑ):ϓ 187 #[.int .u64 (Q x),.int .u64 19] w fun e Z=>e= .returned (.int .u64 (Q (aX x 45)))∧w=Z:=by
 obtain⟨h0,h1⟩:=jH x;have HV:=Hd (el x 45 19 rfl);go_enter func187,ntmps187;go_wp2;go_ret;exact⟨XH (fun z=>Ending.returned (.int .u64 z)) HV.out,rfl⟩
instance MO(x:BitVec 64):FnC 187 #[.int .u64 (Q x),.int .u64 19] (.int .u64 (Q (aX x 45))):=⟨fun w=>cN (KH x w)⟩
theorem KI(x:BitVec 64)(w:ϑ):ϓ 187 #[.int .u64 (Q x),.int .u64 61] w fun e Z=>e= .returned (.int .u64 (Q (aX x 3)))∧w=Z:=by
 obtain⟨h0,h1⟩:=jH x;have HV:=Hd (el x 3 61 rfl);go_enter func187,ntmps187;go_wp2;go_ret;exact⟨XH (fun z=>Ending.returned (.int .u64 z)) HV.out,rfl⟩
instance MP(x:BitVec 64):FnC 187 #[.int .u64 (Q x),.int .u64 61] (.int .u64 (Q (aX x 3))):=⟨fun w=>cN (KI x w)⟩
theorem KJ(x:BitVec 64)(w:ϑ):ϓ 187 #[.int .u64 (Q x),.int .u64 14] w fun e Z=>e= .returned (.int .u64 (Q (aX x 50)))∧w=Z:=by
 obtain⟨h0,h1⟩:=jH x;have HV:=Hd (el x 50 14 rfl);go_enter func187,ntmps187;go_wp2;go_ret;exact⟨XH (fun z=>Ending.returned (.int .u64 z)) HV.out,rfl⟩
instance MQ(x:BitVec 64):FnC 187 #[.int .u64 (Q x),.int .u64 14] (.int .u64 (Q (aX x 50))):=⟨fun w=>cN (KJ x w)⟩
theorem KL(x:BitVec 64)(w:ϑ):ϓ 187 #[.int .u64 (Q x),.int .u64 18] w fun e Z=>e= .returned (.int .u64 (Q (aX x 46)))∧w=Z:=by
 obtain⟨h0,h1⟩:=jH x;have HV:=Hd (el x 46 18 rfl);go_enter func187,ntmps187;go_wp2;go_ret;exact⟨XH (fun z=>Ending.returned (.int .u64 z)) HV.out,rfl⟩
instance MS(x:BitVec 64):FnC 187 #[.int .u64 (Q x),.int .u64 18] (.int .u64 (Q (aX x 46))):=⟨fun w=>cN (KL x w)⟩
theorem KM(x:BitVec 64)(w:ϑ):ϓ 187 #[.int .u64 (Q x),.int .u64 41] w fun e Z=>e= .returned (.int .u64 (Q (aX x 23)))∧w=Z:=by
 obtain⟨h0,h1⟩:=jH x;have HV:=Hd (el x 23 41 rfl);go_enter func187,ntmps187;go_wp2;go_ret;exact⟨XH (fun z=>Ending.returned (.int .u64 z)) HV.out,rfl⟩
instance MT(x:BitVec 64):FnC 187 #[.int .u64 (Q x),.int .u64 41] (.int .u64 (Q (aX x 23))):=⟨fun w=>cN (KM x w)⟩
theorem KN(x:BitVec 64)(w:ϑ):ϓ 187 #[.int .u64 (Q x),.int .u64 28] w fun e Z=>e= .returned (.int .u64 (Q (aX x 36)))∧w=Z:=by
 obtain⟨h0,h1⟩:=jH x;have HV:=Hd (el x 36 28 rfl);go_enter func187,ntmps187;go_wp2;go_ret;exact⟨XH (fun z=>Ending.returned (.int .u64 z)) HV.out,rfl⟩
instance MV(x:BitVec 64):FnC 187 #[.int .u64 (Q x),.int .u64 28] (.int .u64 (Q (aX x 36))):=⟨fun w=>cN (KN x w)⟩
theorem KO(x:BitVec 64)(w:ϑ):ϓ 187 #[.int .u64 (Q x),.int .u64 34] w fun e Z=>e= .returned (.int .u64 (Q (aX x 30)))∧w=Z:=by
 obtain⟨h0,h1⟩:=jH x;have HV:=Hd (el x 30 34 rfl);go_enter func187,ntmps187;go_wp2;go_ret;exact⟨XH (fun z=>Ending.returned (.int .u64 z)) HV.out,rfl⟩
instance Ly(x:BitVec 64):FnC 187 #[.int .u64 (Q x),.int .u64 34] (.int .u64 (Q (aX x 30))):=⟨fun w=>cN (KO x w)⟩
theorem KP(x:BitVec 64)(w:ϑ):ϓ 187 #[.int .u64 (Q x),.int .u64 39] w fun e Z=>e= .returned (.int .u64 (Q (aX x 25)))∧w=Z:=by
 obtain⟨h0,h1⟩:=jH x;have HV:=Hd (el x 25 39 rfl);go_enter func187,ntmps187;go_wp2;go_ret;exact⟨XH (fun z=>Ending.returned (.int .u64 z)) HV.out,rfl⟩
instance Lz(x:BitVec 64):FnC 187 #[.int .u64 (Q x),.int .u64 39] (.int .u64 (Q (aX x 25))):=⟨fun w=>cN (KP x w)⟩
instance LA(n:Nat)(f:Nat→BitVec 64):Row1 (bi n f) n:=⟨aS _ _,by simp[bi,row,Value.oneCell']⟩
instance LB:RowZ 262 (bi 80 fun _=>0):=⟨Θ⟩
instance LD:RowTy 75 64:=⟨⟨_,underlying75,rfl⟩,Θ⟩
instance LE:RowZ 75 (aa 64 fun _=>0):=⟨Θ⟩
instance r64(f:Φ):Row1 (aa 64 f) 64:=⟨aS _ _,by simp[aa,row,Value.oneCell']⟩
theorem fR{n k:Nat}(f:Nat→BitVec 64)(h:k<n):Cell (bi n f) k (.int .u64 (Q (f k))):=aO _ h
theorem KQ{n k:Nat}{f g:Nat→BitVec 64}{x:Int}{y:BitVec 64}(h:k<n)(hx:x=Q y)(e:upd f k y=g):Put (bi n f) k (.int .u64 x) (bi n g) :=
 bm h (am fun i hi=>by
  rw[← e,hx];unfold upd;by_cases c:i=k
  ·rw[Ρ c,Ρ c]
  ·rw[Χ c,Χ c])
theorem IJ(w:ϑ):(Instr.build 261 #[(0,.int .u64 7640891576956012808),(1,.int .u64 13503953896175478587),(2,.int .u64 4354685564936845355),(3,.int .u64 11912009170470909681),(4,.int .u64 5840696475078001361),(5,.int .u64 11170449401992604703),(6,.int .u64 2270897969802886507),(7,.int .u64 6620516959819538809)]).run prog w= .ok (.agg (bi 8 uR)) w:=Θ
theorem CQ(K Wzq:Nat→BitVec 64)(t:Nat)(v:Nat→BitVec 64)(w:ϑ):(Instr.build 261 #[(0,.int .u64 (Q (zE K Wzq t v+Iu v))),(1,.int .u64 (Q (v 0))),(2,.int .u64 (Q (v 1))),(3,.int .u64 (Q (v 2))),(4,.int .u64 (Q (v 3+zE K Wzq t v))),(5,.int .u64 (Q (v 4))),(6,.int .u64 (Q (v 5))),(7,.int .u64 (Q (v 6)))]).run prog w= .ok (.agg (bi 8 (rnd K Wzq t v))) w:=Θ
theorem MW{w:ϑ}[h:Glob w]{k:Nat}(hk:k<80):Was w 6 k (.int .u64 (Q (K512 k))):=⟨h.k512 k hk,by have:=h.lt;omega⟩
theorem FA(h:Nat→BitVec 64)(k:Nat):bits .and .u64 (Q (h (k/8))/2^(56-8*(k%8))) 255=B8 (cm h k):=by
 rw[← mS h k (k%8) rfl];have e:Q (h (k/8))/2^(56-8*(k%8))=(((h (k/8)).toNat/2^(56-8*(k%8)):Nat):Int):=by
  unfold Q;generalize(h (k/8)).toNat=x;generalize 56-8*(k%8)=r;rw[Zs,YM];rfl
 have e2:((2^(56-8*(k%8)):Nat):Int)=2^(56-8*(k%8)):=by rw[YM];rfl
 rw[e2,e];have:=Zp ((h (k/8)).toNat/2^(56-8*(k%8))) 255 (Yw (ZR _ _) (h (k/8)).isLt) Ω;rw[nat_mask8]at this;exact this.trans (Ye _ 256)
theorem z6(b:Φ)(k i:Nat)(h:k/8=i):upd (bB b k) i (bB b k i<<<8|||eF (b k))=bB b (k+1):=by subst h;rfl
theorem nY(h v:Nat→BitVec 64)(k:Nat):upd (cg h v k) k (h k+v k)=cg h v (k+1):=by
 funext i;unfold upd cg;by_cases e:i=k
 ·subst e;simp
 ·rw[Χ e]
  by_cases hi:i<k
  ·rw[Ρ hi,Ρ Ω]
  ·rw[Χ hi,Χ Ω]
theorem refShb_any(v:ό)(l:Δ)(w:ϑ)[hG:Glob w](hv:BRow w v l)(h0:0<l.length)(hl:l.length≤1000000000) :
 Rt 126 #[v] w (.agg (aa 64 (sha l))):=by
 have I:=Loc.nil w;have HV:=Hd hv;have HFIN:=Hd (ma l);have HPL:=Hd (gP l);have HPB:=Hd (show(pad l).length≤1000000400 by unfold pad cV aG;simp;omega);have HPAD:=Hd (fun J (h:Loc w J [(0, #[],0)])=>h);clear HPAD;obtain⟨a,c,rfl,hn,hp⟩:=hv;clear hn hp;go_enter func126,ntmps126;go_wp2_with (first|refine gBp 2 fun b2 J I=>?_|((refine ϗ (.build 261 _) ?_);refine lU I rfl rfl IJ rfl fun J I=>?_)|refine gBp 3 fun b3 J I=>?_|(go_at_call 71;go_loud (refine(Fy _ l _ (HV.out.below I.bel) h0 hl).mono ?_);rintro e J⟨g23,Y23,Z23,rfl,W23,hg23,hc23,hb23⟩;have Y:=I.fresh hb23 hg23 hc23;clear hb23 hg23 hc23;clear I;have I:=Y;clear Y;refine p4 ?_)|refine aQp fun _ J I=>?_);obtain⟨f,hf⟩:∃f:Nat→Γ,f=fun i=>(pad l).getD i 0:=⟨_,rfl⟩;have HM:=Hd (show ∀i,i<(pad l).length→Cell Z23 i (.int .u8 (B8 (f i)))from fun i hi=>by
  have:=W23.cellB hi;rw[hf];simp only;rw[List.getD_eq_getElem?_getD,List.getElem?_eq_getElem hi,Option.getD_some];exact this)
 rw[← hf]at HFIN;clear hf HV;generalize(pad l).length=n at *
 clear W23;go_loopw [5] (fun i wr=>∃k s:Nat,s=128*k∧s≤n∧i= .int .i64 s∧Loc w wr [(g23,Z23,5),(b3,bi 8 (aI f k),261),(b2,aa 64 fun _=>0,75)]) (fun i _=>n-(intOf i).toNat);case atStart=>exact⟨0,0,rfl,Yb _,rfl,I⟩
 case round =>
  clear I;obtain⟨k,s,hs,hsn,rfl,I⟩:=hrel;have hs0:(0:Int)≤(s:Int):=Ω;by_cases hlt:s<n
  ·have HS:=Hd (show s+128≤n∧s=128*k by have:=HPL.out;omega)
   have hs1:(s:Int)<(n:Int):=Ω;obtain⟨b,hb⟩:∃b:Nat→Γ,b=fun q=>f (s+q):=⟨_,rfl⟩;have HBL:=Hd (show ∀i,i<8→cg (aI f k) (dz K512 (aY b) (aI f k) 80) 8 i=aI f (k+1) i from fun i hi=>by
    unfold cg;rw[Ρ hi,hb,hs];rfl)
   have HMB:=Hd (show ∀q,q<128→Cell Z23 (s+q) (.int .u8 (B8 (b q)))from fun q hq=>by rw[hb];exact HM.out (s+q) (by have:=HS.out;omega));clear hb hs hsn hlt;go_wp2_with (first|refine gBp 6 fun b6 J I=>?_|refine aQp fun _ J I=>?_);have HW0:=Hd (show(bi 80 fun _=>0)=bi 80 (bB b (8*0))from rfl);go_loopw [7] (fun i wr=>∃j:Nat,j≤16∧i= .int .i64 j∧Loc w wr [(b6,bi 80 (bB b (8*j)),262),(g23,Z23,5),(b3,bi 8 (aI f k),261),(b2,aa 64 fun _=>0,75)]) (fun i _=>16-(intOf i).toNat);case atStart=>exact⟨0,Ω,rfl,by rw[← HW0.out];exact I⟩
   case round =>
    clear I;obtain⟨j,hj,rfl,I⟩:=hrel;by_cases hj16:j<16
    ·have hj0:(0:Int)≤(j:Int):=Ω
     have hj1:(j:Int)<16:=Ω;have hj2:(j:Int)<80:=Ω;go_wp2_with (refine aQp fun _ J I=>?_);go_loopw [8] (fun i wr=>∃q:Nat,q≤8∧i= .int .i64 q∧Loc w wr [(b6,bi 80 (bB b (8*j+q)),262),(g23,Z23,5),(b3,bi 8 (aI f k),261),(b2,aa 64 fun _=>0,75)]) (fun i _=>8-(intOf i).toNat);case atStart=>exact⟨0,Ω,rfl,I⟩
     case round =>
      clear I;obtain⟨q,hq,rfl,I⟩:=hrel;by_cases hq8:q<8
      ·have hq0:(0:Int)≤(q:Int):=Ω
       have hq1:(q:Int)<8:=Ω;have hsb:(n:Int)≤2000000000:=by have:=HPB.out;omega
       haveI g1:Cell Z23 (s+(8*j+q)) (.int .u8 (B8 (b (8*j+q)))):=HMB.out _ Ω;haveI g2:Cell (bi 80 (bB b (8*j+q))) j (.int .u64 (Q (bB b (8*j+q) j))):=fR _ Ω;haveI g3:Put (bi 80 (bB b (8*j+q))) j (.int .u64 (bits .or .u64 (IntKind.u64.wrap (Q (bB b (8*j+q) j)*256)) (B8 (b (8*j+q))))) (bi 80 (bB b (8*j+q+1))) :=
        KQ Ω (by rw[Bu,wS,It];rfl) (z6 b _ j Ω)
       obtain⟨u0,u1⟩:=jH (bB b (8*j+q) j);obtain⟨v0,v1⟩:=bP (b (8*j+q));have wv:IntKind.u64.wrap (B8 (b (8*j+q)))=B8 (b (8*j+q)):=by rw[XM];omega
       have hx:(s:Int)+8*(j:Int)+(q:Int)=((s+(8*j+q):Nat):Int):=Ω;have y0:(0:Int)≤((s+(8*j+q):Nat):Int):=Ω;have y1:((s+(8*j+q):Nat):Int)<(n:Int):=by have:=HS.out;omega
       have z0:IntKind.i64.wrap (8*(j:Int))=8*(j:Int):=W3 _ Ω;have z1:IntKind.i64.wrap ((s:Int)+8*(j:Int))=(s:Int)+8*(j:Int):=W3 _ Ω;have z2:IntKind.i64.wrap ((s+(8*j+q):Nat):Int)=((s+(8*j+q):Nat):Int):=W3 _ Ω;generalize bB b (8*j+q)=Wzq at *
       generalize b (8*j+q)=x at *
       generalize s+(8*j+q)=p at *
       clear HFIN HPL HPB HM HBL HMB HW0;go_wp2_with fail;refine wf [(0,true),(1,true),(2,true),(3,false),(4,true),(5,true),(6,true),(7,true),(8,true),(9,true),(10,true),(11,true),(12,true),(13,false),(14,true),(15,true),(16,true)] [] [17] I ?_;refine fA ?_;refine fB fun J I=>?_;go_wp2_with (refine aQp fun _ J I=>?_);go_roundw;case rel=>exact⟨q+1,Ω,by go_num,I⟩
       case measure=>exact ϝ
      ·obtain rfl:q=8:=Ω
       go_wp2_with (refine aQp fun _ J I=>?_);go_roundw;case rel=>exact⟨j+1,Ω,by go_num,I⟩
       case measure=>exact ϝ
    ·obtain rfl:j=16:=Ω
     rw[show 8*16=128 from rfl,← j8 (bB b 128) 16 Ω]at I;clear HMB HW0 hj hj16;go_wp2_with (refine aQp fun _ J I=>?_);go_loopw [9] (fun i wr=>∃j:Nat,16≤j∧j≤80∧i= .int .i64 j∧Loc w wr [(b6,bi 80 (cz (bB b 128) j),262),(g23,Z23,5),(b3,bi 8 (aI f k),261),(b2,aa 64 fun _=>0,75)]) (fun i _=>80-(intOf i).toNat);case atStart=>exact⟨16,Ω,Ω,rfl,I⟩
     case round =>
      clear I;obtain⟨j,hj16,hj,rfl,I⟩:=hrel;by_cases hlt:j<80
      ·have hk0:(16:Int)≤(j:Int):=Ω
       have hk1:(j:Int)<80:=Ω;have HST:=Hd (iN (bB b 128) hj16);haveI c2:Cell (bi 80 (cz (bB b 128) j)) (j-2) (.int .u64 (Q (cz (bB b 128) j (j-2)))):=fR _ Ω;haveI c7:Cell (bi 80 (cz (bB b 128) j)) (j-7) (.int .u64 (Q (cz (bB b 128) j (j-7)))):=fR _ Ω;haveI c15:Cell (bi 80 (cz (bB b 128) j)) (j-15) (.int .u64 (Q (cz (bB b 128) j (j-15)))):=fR _ Ω;haveI c16:Cell (bi 80 (cz (bB b 128) j)) (j-16) (.int .u64 (Q (cz (bB b 128) j (j-16)))):=fR _ Ω;generalize cz (bB b 128) j=Wzq at *
       haveI p1:Put (bi 80 Wzq) j (.int .u64 (Q (Wzq (j-16)+wQ (Wzq (j-15))+Wzq (j-7)+wR (Wzq (j-2))))) (bi 80 (cz (bB b 128) (j+1))) :=
        KQ hlt rfl (by rw[HST.out,show Wzq (j-16)+wQ (Wzq (j-15))+Wzq (j-7)+wR (Wzq (j-2))=fK Wzq j by unfold fK;ac_rfl])
       obtain⟨a0,a1⟩:=jH (Wzq (j-2));obtain⟨b0,b1⟩:=jH (Wzq (j-15));have hs0':=j6 (Wzq (j-15));have hs1':=j7 (Wzq (j-2));have hadd:=ov;have x2:(j:Int)-2=((j-2:Nat):Int):=Ω;have x7:(j:Int)-7=((j-7:Nat):Int):=Ω;have x15:(j:Int)-15=((j-15:Nat):Int):=Ω;have x16:(j:Int)-16=((j-16:Nat):Int):=Ω;have j0:(0:Int)≤(j:Int):=Ω;have y2:(0:Int)≤((j-2:Nat):Int)∧((j-2:Nat):Int)<80:=Ω;have y7:(0:Int)≤((j-7:Nat):Int)∧((j-7:Nat):Int)<80:=Ω;have y15:(0:Int)≤((j-15:Nat):Int)∧((j-15:Nat):Int)<80:=Ω;have y16:(0:Int)≤((j-16:Nat):Int)∧((j-16:Nat):Int)<80:=Ω;obtain⟨y2a,y2b⟩:=y2;obtain⟨y7a,y7b⟩:=y7;obtain⟨y15a,y15b⟩:=y15;obtain⟨y16a,y16b⟩:=y16;have z2:IntKind.i64.wrap ((j-2:Nat):Int)=((j-2:Nat):Int):=W3 _ Ω;have z7:IntKind.i64.wrap ((j-7:Nat):Int)=((j-7:Nat):Int):=W3 _ Ω;have z15:IntKind.i64.wrap ((j-15:Nat):Int)=((j-15:Nat):Int):=W3 _ Ω;have z16:IntKind.i64.wrap ((j-16:Nat):Int)=((j-16:Nat):Int):=W3 _ Ω;clear HFIN HPL HPB HM HBL HST;generalize j-2=i2 at *
       generalize j-7=i7 at *
       generalize j-15=i15 at *
       generalize j-16=i16 at *
       generalize Wzq i2=v2 at *
       generalize Wzq i7=v7 at *
       generalize Wzq i15=v15 at *
       generalize Wzq i16=v16 at *
       go_wp2_with (refine aQp fun _ J I=>?_);refine wf [(0,true),(1,true),(2,true),(3,true),(4,false),(5,true),(6,false),(7,true),(8,false),(9,true),(10,true),(11,true),(12,true),(13,true),(14,true),(15,true),(16,true),(17,false),(18,true),(19,true),(20,false),(21,true),(22,false),(23,true),(24,true),(25,true),(26,true),(27,true),(28,true)] [] [29] I ?_;refine fA ?_;refine fB fun J I=>?_;go_wp2_with (refine aQp fun _ J I=>?_);go_roundw;case rel=>exact⟨j+1,Ω,Ω,by go_num,I⟩
       case measure=>exact ϝ
      ·obtain rfl:j=80:=Ω
       have HSC:=Hd (show bi 80 (cz (bB b 128) 80)=bi 80 (aY b)from rfl);rw[HSC.out]at I;clear HSC hj hj16 hlt;have HR0:=Hd (show bi 8 (aI f k)=bi 8 (dz K512 (aY b) (aI f k) 0)from rfl);go_wp2_with (first|refine gBp 12 fun b12 J I=>?_|refine aQp fun _ J I=>?_);generalize hsc:aY b=SC at *
       go_loopw [13] (fun i wr=>∃t:Nat,t≤80∧i= .int .i64 t∧Loc w wr [(b12,bi 8 (dz K512 SC (aI f k) t),261),(b6,bi 80 SC,262),(g23,Z23,5),(b3,bi 8 (aI f k),261),(b2,aa 64 fun _=>0,75)]) (fun i _=>80-(intOf i).toNat);case atStart=>exact⟨0,Yb _,rfl,I⟩
       case round =>
        clear I;obtain⟨t,ht,rfl,I⟩:=hrel;by_cases hlt:t<80
        ·have h0:(0:Int)≤(t:Int):=Ω
         have h1:(t:Int)<80:=Ω;haveI gk:Was w 6 t (.int .u64 (Q (K512 t))):=MW hlt;haveI gw:Cell (bi 80 SC) t (.int .u64 (Q (SC t))):=fR _ hlt;have HN:=Hd (show dz K512 SC (aI f k) (t+1)=rnd K512 SC t (dz K512 SC (aI f k) t)from rfl);generalize dz K512 SC (aI f k) t=Vzq at *
         haveI v0:Cell (bi 8 Vzq) 0 (.int .u64 (Q (Vzq 0))):=fR _ Ω;haveI v1:Cell (bi 8 Vzq) 1 (.int .u64 (Q (Vzq 1))):=fR _ Ω;haveI v2:Cell (bi 8 Vzq) 2 (.int .u64 (Q (Vzq 2))):=fR _ Ω;haveI v3:Cell (bi 8 Vzq) 3 (.int .u64 (Q (Vzq 3))):=fR _ Ω;haveI v4:Cell (bi 8 Vzq) 4 (.int .u64 (Q (Vzq 4))):=fR _ Ω;haveI v5:Cell (bi 8 Vzq) 5 (.int .u64 (Q (Vzq 5))):=fR _ Ω;haveI v6:Cell (bi 8 Vzq) 6 (.int .u64 (Q (Vzq 6))):=fR _ Ω;haveI v7:Cell (bi 8 Vzq) 7 (.int .u64 (Q (Vzq 7))):=fR _ Ω;have hadd:=ov;have hxor:=Q_xor;have hand:=Q_and;have hnot:=JH;have hadd':=uU;clear HFIN HPL HPB HM HBL HR0;go_wp2_with (refine aQp fun _ J I=>?_);refine wf [(0,true),(1,false),(2,true),(3,false),(4,true),(5,false),(6,true),(7,true),(8,false),(9,true),(10,true),(11,true),(12,true),(13,false),(14,true),(15,true),(16,true),(17,true),(18,false),(19,true),(20,true),(21,true),(22,true),(23,true),(24,false),(25,true),(26,true),(27,true),(28,false),(29,true),(30,true)] [] [] I ?_
         repeat(first|((with_reducible show bC _ _ _ (_::_) _ _);refine sW rfl rfl rfl ?_;refine p4 ?_)|refine rS ?_)
         refine aK ?_;refine fC fun J I=>?_;go_wp2_with (refine aQp fun _ J I=>?_);refine wf [(0,true),(1,false),(2,true),(3,false),(4,true),(5,true),(6,false),(7,true),(8,true),(9,true),(10,false),(11,true),(12,true),(13,true),(14,false),(15,true),(16,true),(17,true),(18,false),(19,true),(20,false),(21,true),(22,true),(23,true),(24,true)] [] [] I ?_;refine fA ?_;refine fC fun J I=>?_;go_wp2_with (first|((refine ϗ (.build 261 _) ?_);refine lU I rfl rfl (CQ K512 SC t Vzq) rfl fun J I=>?_)|refine aQp fun _ J I=>?_);go_roundw;case rel=>exact⟨t+1,Ω,by go_num,by rw[HN.out];exact I⟩
         case measure=>exact ϝ
        ·obtain rfl:t=80:=Ω
         have HA0:=Hd (show bi 8 (aI f k)=bi 8 (cg (aI f k) (dz K512 SC (aI f k) 80) 0)from am fun i _=>by unfold cg;rw[Χ Ω]);have HA8:=Hd (show bi 8 (cg (aI f k) (dz K512 SC (aI f k) 80) 8)=bi 8 (aI f (k+1))from am fun i hi=>by rw[HBL.out i hi]);clear HBL HR0 ht hlt;generalize dz K512 SC (aI f k) 80=Vzq at *
         rw[HA0.out]at I;go_wp2_with (refine aQp fun _ J I=>?_);go_loopw [18] (fun i wr=>∃q:Nat,q≤8∧i= .int .i64 q∧Loc w wr [(b12,bi 8 Vzq,261),(b6,bi 80 SC,262),(g23,Z23,5),(b3,bi 8 (cg (aI f k) Vzq q),261),(b2,aa 64 fun _=>0,75)]) (fun i _=>8-(intOf i).toNat);case atStart=>exact⟨0,Yb _,rfl,I⟩
         case round =>
          clear I;obtain⟨q,hq,rfl,I⟩:=hrel;by_cases hlt:q<8
          ·have q0:(0:Int)≤(q:Int):=Ω
           have q1:(q:Int)<8:=Ω;haveI c1:Cell (bi 8 (cg (aI f k) Vzq q)) q (.int .u64 (Q (aI f k q))):=by
            have:cg (aI f k) Vzq q q=aI f k q:=by unfold cg;rw[Χ Ω]
            rw[← this];exact fR _ hlt
           haveI c2:Cell (bi 8 Vzq) q (.int .u64 (Q (Vzq q))):=fR _ hlt;haveI p1:Put (bi 8 (cg (aI f k) Vzq q)) q (.int .u64 (Q (aI f k q+Vzq q))) (bi 8 (cg (aI f k) Vzq (q+1))):=KQ hlt rfl (nY (aI f k) Vzq q);have hadd:=ov;have hadd':=uU;clear HFIN HPL HPB HM HA0 HA8;generalize cg (aI f k) Vzq q=A0 at *
           generalize aI f k q=x at *
           generalize Vzq q=y at *
           go_wp2_with fail;refine wf [(0,true),(1,true),(2,true),(3,false),(4,true),(5,true),(6,false),(7,true),(8,true)] [] [9] I ?_;refine fA ?_;refine fB fun J I=>?_;go_wp2_with (refine aQp fun _ J I=>?_);go_roundw;case rel=>exact⟨q+1,Ω,by go_num,I⟩
           case measure=>exact ϝ
          ·obtain rfl:q=8:=Ω
           rw[HA8.out]at I;have hsb:(s:Int)≤2000000000:=by have:=HS.out;have:=HPB.out;omega
           go_wp2_with (refine aQp fun _ J I=>?_);go_roundw;case rel=>exact⟨k+1,s+128,by have:=HS.out;omega,HS.out.1,by go_num,I.pop.pop⟩
           case measure=>exact ϝ
  ·obtain rfl:s=n:=Ω
   have HFIN2:=Hd (show sha l=cm (aI f k) by rw[HFIN.out];congr 2;omega);generalize aI f k=hh at *
   have HB0:=Hd (show(aa 64 fun _=>0)=aa 64 (eH hh 0)from am fun i _=>by unfold eH;rw[Χ Ω]);have HB1:=Hd (show aa 64 (eH hh 64)=aa 64 (sha l)from am fun i hi=>by unfold eH;rw[Ρ hi,HFIN2.out]);clear HFIN HPL HPB HM HFIN2 hs hsn hlt;go_wp2_with (first|refine gBp 19 fun b19 J I=>?_|refine aQp fun _ J I=>?_);go_loopw [20] (fun i wr=>∃q:Nat,q≤64∧i= .int .i64 q∧Loc w wr [(b19,aa 64 (eH hh q),75),(g23,Z23,5),(b3,bi 8 hh,261),(b2,aa 64 fun _=>0,75)]) (fun i _=>64-(intOf i).toNat);case atStart=>exact⟨0,Ω,rfl,by rw[← HB0.out];exact I⟩
   case round =>
    clear I;obtain⟨q,hq,rfl,I⟩:=hrel;by_cases hlt:q<64
    ·have q0:(0:Int)≤(q:Int):=Ω
     have q1:(q:Int)<64:=Ω;have ho:=FA hh q;haveI c1:Cell (bi 8 hh) (q/8) (.int .u64 (Q (hh (q/8)))):=fR _ Ω;obtain⟨x0,x1⟩:=bP (cm hh q);haveI p1:Put (aa 64 (eH hh q)) q (.int .u8 (bits .and .u64 (Q (hh (q/8))/2^(56-8*(q%8))) 255)) (aa 64 (eH hh (q+1))):=bm hlt (by
      rw[ho,← iT];exact am fun i _=>by unfold upd;split <;> rfl)
     have wo:IntKind.u8.wrap (bits .and .u64 (Q (hh (q/8))/2^(56-8*(q%8))) 255)=bits .and .u64 (Q (hh (q/8))/2^(56-8*(q%8))) 255:=by rw[ho,X7];omega
     have e1:(q:Int)/8=((q/8:Nat):Int):=Ω;have e2:(q:Int)%8=((q%8:Nat):Int):=Ω;have e3:(q:Int).tdiv 8=((q/8:Nat):Int):=by rw[X6 Ω];omega
     have e4:(q:Int).tmod 8=((q%8:Nat):Int):=by rw[XF Ω];omega
     have e5:56-8*((q%8:Nat):Int)=((56-8*(q%8):Nat):Int):=Ω;have k0:(0:Int)≤((q/8:Nat):Int):=Ω;have k1:((q/8:Nat):Int)<8:=Ω;have r0:(0:Int)≤((q%8:Nat):Int):=Ω;have r1:((q%8:Nat):Int)<8:=Ω;have s0:(0:Int)≤((56-8*(q%8):Nat):Int):=Ω;have s1:((56-8*(q%8):Nat):Int)<64:=Ω;have ws:IntKind.u64.wrap ((56-8*(q%8):Nat):Int)=((56-8*(q%8):Nat):Int):=by rw[XM];omega
     have ws':IntKind.i64.wrap ((56-8*(q%8):Nat):Int)=((56-8*(q%8):Nat):Int):=W3 _ Ω;have w8:IntKind.i64.wrap (8*((q%8:Nat):Int))=8*((q%8:Nat):Int):=W3 _ Ω;have hm:min (56-8*(q%8)) 64=56-8*(q%8):=Ω;clear ho x0 x1 HB0 HB1;generalize eH hh q=oo at *
     generalize hh (q/8)=x at *
     generalize q/8=qd at *
     generalize 56-8*(q%8)=sh at *
     generalize q%8=qr at *
     go_wp2_with (refine aQp fun _ J I=>?_);go_roundw;case rel=>exact⟨q+1,Ω,by go_num,I⟩
     case measure=>exact ϝ
    ·obtain rfl:q=64:=Ω
     rw[HB1.out]at I;go_wp2_with (refine aQp fun _ J I=>?_);exact Λ
end Shb
namespace R3
def kl(x y z t:El):Ψ:=row 64 fun i=> .int .i64 ((if i<16 then x else if i<32 then y else if i<48 then z else t).f (i%16))
def rowPe(p:Pe):Ψ:=kl p.x p.y p.z p.t
instance Re(x y z t:El):Row1 (kl x y z t) 64:=⟨aS _ _,by simp[kl,row,Value.oneCell']⟩
instance Rf(p:Pe):Row1 (rowPe p) 64:=inferInstanceAs (Row1 (kl _ _ _ _) 64)
instance Rg:RowTy 149 64:=⟨⟨_,underlying149,rfl⟩,Θ⟩
def CT:Ψ:=aq 64 fun _=>0
instance Rh:Row1 CT 64:=inferInstanceAs (Row1 (aq 64 _) 64)
instance Ri:RowZ 149 CT:=⟨Θ⟩
theorem FB(x y z t:El):Part (kl x y z t) 149 0 147 (rowEl x):=d9 Ω fun i hi=>by
 have e:(0+i)%16=i:=Ω;rw[e]
 first
  | rw[Ρ Ω]
  | rw[Χ Ω,Ρ Ω]
  | rw[Χ Ω,Χ Ω,Ρ Ω]
  | rw[Χ Ω,Χ Ω,Χ Ω]
instance Rj(p:Pe):Part (rowPe p) 149 0 147 (rowEl p.x):=FB _ _ _ _
theorem CU(x y z t:El):Part (kl x y z t) 149 16 147 (rowEl y):=d9 Ω fun i hi=>by
 have e:(16+i)%16=i:=Ω;rw[e]
 first
  | rw[Ρ Ω]
  | rw[Χ Ω,Ρ Ω]
  | rw[Χ Ω,Χ Ω,Ρ Ω]
  | rw[Χ Ω,Χ Ω,Χ Ω]
instance Rk(p:Pe):Part (rowPe p) 149 16 147 (rowEl p.y):=CU _ _ _ _
theorem CV(x y z t:El):Part (kl x y z t) 149 32 147 (rowEl z):=d9 Ω fun i hi=>by
 have e:(32+i)%16=i:=Ω;rw[e]
 first
  | rw[Ρ Ω]
  | rw[Χ Ω,Ρ Ω]
  | rw[Χ Ω,Χ Ω,Ρ Ω]
  | rw[Χ Ω,Χ Ω,Χ Ω]
instance O3(p:Pe):Part (rowPe p) 149 32 147 (rowEl p.z):=CV _ _ _ _
theorem CW(x y z t:El):Part (kl x y z t) 149 48 147 (rowEl t):=d9 Ω fun i hi=>by
 have e:(48+i)%16=i:=Ω;rw[e]
 first
  | rw[Ρ Ω]
  | rw[Χ Ω,Ρ Ω]
  | rw[Χ Ω,Χ Ω,Ρ Ω]
  | rw[Χ Ω,Χ Ω,Χ Ω]
instance O4(p:Pe):Part (rowPe p) 149 48 147 (rowEl p.t):=CW _ _ _ _
theorem fS(x y z t:El)(w:ϑ):(Instr.build 149 #[(0,.agg (rowEl x)),(1,.agg (rowEl y)),(2,.agg (rowEl z)),(3,.agg (rowEl t))]).run prog w= .ok (.agg (kl x y z t)) w:=Θ
theorem sum_any(p q:Pe)(w:ϑ)[Glob w]:Rt 125 #[.agg (rowPe p),.agg (rowPe q)] w (.agg (rowPe (p.add q))):=by
 have I:=Loc.nil w;go_enter func125,ntmps125;go_wp2_with (first|refine gBp 2 fun b2 J I=>?_|refine gBp 3 fun b3 J I=>?_|refine gBp 4 fun b4 J I=>?_|refine aQq fun _ J I=>?_);refine au [(0,true),(1,false),(2,true),(3,false),(4,false),(5,true),(6,false),(7,true),(8,false),(9,false),(10,false)] [(11,_,147)] [12] Θ Θ ⟨⟨_,rfl,rfl,rfl⟩,Ϙ,trivial⟩ I ?_;refine pF ?_;refine fA ?_;refine aC fun b=>?_;refine fB fun J I=>?_;go_wp2_with (refine aQq fun _ J I=>?_);refine au [(0,true),(1,false),(2,true),(3,false),(4,false),(5,true),(6,false),(7,true),(8,false),(9,false),(10,false)] [(11,_,147)] [12] Θ Θ ⟨⟨_,rfl,rfl,rfl⟩,Ϙ,trivial⟩ I ?_;refine pF ?_;refine fA ?_;refine aC fun b=>?_;refine fB fun J I=>?_;go_wp2_with (refine aQq fun _ J I=>?_);refine au [(0,true),(1,false),(2,true),(3,false),(4,false),(5,false),(6,false),(7,false),(8,false)] [(9,_,147)] [10] Θ Θ ⟨⟨_,rfl,rfl,rfl⟩,Ϙ,trivial⟩ I ?_;refine pF ?_;refine fA ?_;refine aC fun b=>?_;refine fB fun J I=>?_;go_wp2_with (refine aQp fun _ J I=>?_);refine wf [(0,false),(1,false),(2,false),(3,false),(4,false),(5,false),(6,false),(7,false),(8,false),(9,false),(10,false),(11,false),(12,true)] [] [13] I ?_
 repeat(first|((with_reducible show bC _ _ _ (_::_) _ _);refine sU rfl rfl (fS _ _ _ _) rfl ?_;refine p4 ?_)|refine rS ?_)
 refine aK ?_;refine fB fun J I=>?_;go_wp2_with fail;exact Λ
instance O5:Ent 125:=eo func125
instance O6(p q:Pe):FnG 125 #[.agg (rowPe p),.agg (rowPe q)] (.agg (rowPe (p.add q))):=⟨fun w _=>sum_any p q w⟩
end R3
namespace R3
theorem CX(w:ϑ):(Instr.build 147 #[]).run prog w= .ok (.agg (rowEl El.zero)) w:=Θ
theorem z8(w:ϑ):Rt 131 #[] w (.agg (rowPe Pe.O)):=by
 have I:=Loc.nil w;have HR:=Hd (show rowPe Pe.O=kl El.zero El.one El.one El.zero from rfl);rw[HR.out];go_enter func131,ntmps131;go_wp2_with (first|((refine ϗ (.build 147 _) ?_);refine lU I rfl rfl CX rfl fun J I=>?_)|((refine ϗ (.build 149 _) ?_);refine lU I rfl rfl (fS _ _ _ _) rfl fun J I=>?_)|refine aQp fun _ J I=>?_);exact Λ
instance Rl:Ent 131:=eo func131
instance Rm:FnC 131 #[] (.agg (rowPe Pe.O)):=⟨z8⟩
theorem ql(w:ϑ)[Glob w]:Rt 77 #[] w (.agg (rowPe Pe.B)):=by
 have I:=Loc.nil w;have HR:=Hd (show rowPe Pe.B=kl (El.of pB.x.val) (El.of pB.y.val) El.one ((El.of pB.x.val).mul (El.of pB.y.val))from rfl);rw[HR.out];haveI g1:WasR w 1 (rowEl (El.of pB.x.val)):=Ϙ;haveI g2:WasR w 2 (rowEl (El.of pB.y.val)):=Ϙ;generalize El.of pB.x.val=bx,El.of pB.y.val=by_ at *
 clear HR;go_enter func77,ntmps77;go_wp2_with (refine aQp fun _ J I=>?_);refine wf [(0,false),(1,false),(2,false),(3,false),(4,false),(5,false),(6,true)] [] [7] I ?_
 repeat(first|((with_reducible show bC _ _ _ (_::_) _ _);refine sU rfl rfl (fS _ _ _ _) rfl ?_;refine p4 ?_)|refine rS ?_)
 refine aK ?_;refine fB fun J I=>?_;go_wp2_with fail;exact Λ
instance Rn:Ent 77:=eo func77
instance Ro:FnG 77 #[] (.agg (rowPe Pe.B)):=⟨fun w _=>ql w⟩
theorem xk(p:Pe)(e:Φ)(w:ϑ)[hG:Glob w]:Rt 76 #[.agg (rowPe p),.agg (aa 32 e)] w (.agg (rowPe (p.many (leN e)))):=by
 have I:=Loc.nil w;have HB:=Hd (fun i=> @qI e i);generalize leN e=n at *
 obtain⟨X,h0,hs,hf⟩:∃X:Nat→Pe,X 0=Pe.O∧(∀j,X (j+1)=if n/2^(255-j)%2=1 then((X j).add (X j)).add p else(X j).add (X j))∧X 256=p.many n:=⟨fun k=>Pe.manyK p n k,rfl,fun j=>rfl,Pe.many_eq p n⟩;rw[← hf];have zs:=Hd hs;haveI f0:FnC 131 #[] (.agg (rowPe (X 0))):=by rw[h0];infer_instance
 clear h0 hs hf;go_enter func76,ntmps76;go_wp2_with (first|refine gBp 2 fun b2 J I=>?_|refine gBp 3 fun b3 J I=>?_|refine gBp 4 fun b4 J I=>?_|refine gBp 5 fun b5 J I=>?_|refine aQp fun _ J I=>?_);go_loopw [6] (fun kk wr=>∃j:Nat,j≤256∧kk= .int .i64 (255-(j:Int))∧Loc w wr [(b5,rowPe (X j),149),(b4,CT,149),(b3,aa 32 e,24),(b2,rowPe p,149)]) (fun kk _=>(intOf kk+1).toNat);case atStart=>exact⟨0,Ω,rfl,I⟩
 case round =>
  clear I;obtain⟨j,hj,rfl,I⟩:=hrel;by_cases hlt:j<256
  ·have HT:=Hd (zs.out j)
   have hv:=HB.out (i:=255-j) Ω;obtain⟨k,hk⟩:∃k,k=255-j:=⟨_,rfl⟩;rw[← hk]at hv HT;have ek:255-(j:Int)=(k:Int):=Ω;rw[ek];have hk1:k<256:=Ω;haveI g1:Cell (aa 32 e) (k/8) (.int .u8 (B8 (e (k/8)))):=aO _ Ω;obtain⟨b0,b1⟩:=bP (e (k/8));have k0:(0:Int)≤(k:Int):=Ω;have HK:=Hd hk;have e1:(k:Int)/8=((k/8:Nat):Int):=Ω;have e2:(k:Int)%8=((k%8:Nat):Int):=Ω;have e3:(k:Int).tdiv 8=((k/8:Nat):Int):=by rw[X6 Ω];omega
   have e4:(k:Int).tmod 8=((k%8:Nat):Int):=by rw[XF Ω];omega
   have q0:(0:Int)≤((k/8:Nat):Int):=Ω;have q1:((k/8:Nat):Int)<32:=Ω;have r0:(0:Int)≤((k%8:Nat):Int):=Ω;have r1:((k%8:Nat):Int)<8:=Ω;clear hk;by_cases hbit:n/2^k%2=1
   ·rw[hbit]at hv
    rw[Ρ hbit]at HT;generalize X j=X0 at I HT;generalize k/8=q,k%8=r at *
    generalize B8 (e q)=u at *
    clear hbit;go_wp2_with (refine aQp fun _ J I=>?_);go_roundw;case rel=>exact⟨j+1,Ω,by rw[show(k:Int)-1=255-((j+1:Nat):Int)from by have:=HK.out;omega],by rw[HT.out];exact I⟩
    case measure=>simp[intOf]
   ·rw[show n/2^k%2=0 from by omega]at hv
    rw[Χ hbit]at HT;generalize X j=X0 at I HT;generalize k/8=q,k%8=r at *
    generalize B8 (e q)=u at *
    clear hbit;go_wp2_with (refine aQp fun _ J I=>?_);go_roundw;case rel=>exact⟨j+1,Ω,by rw[show(k:Int)-1=255-((j+1:Nat):Int)from by have:=HK.out;omega],by rw[HT.out];exact I⟩
    case measure=>simp[intOf]
  ·obtain rfl:j=256:=Ω
   have k1:(255:Int)-((256:Nat):Int)= -1:=Ω;rw[k1];clear k1;go_wp2_with (refine aQp fun _ J I=>?_);exact Λ
instance Rq:Ent 76:=eo func76
instance Rr(p:Pe)(e:Φ):FnG 76 #[.agg (rowPe p),.agg (aa 32 e)] (.agg (rowPe (p.many (leN e)))):=⟨fun w _=>xk p e w⟩
theorem uO(n:Nat):bits .and .u8 (B8 (ah n 0)) 1=((n%2:Nat):Int):=by
 unfold B8 ah;rw[Xv,XO,Yh,Yj,show(2:Nat)^8=256 from rfl,qH _ (XJ _ Ω)];omega
theorem xl(p:Pe)(w:ϑ):Rt 75 #[.agg (rowPe p)] w (.agg (aa 32 (ah (cd p.ex)))):=by
 have I:=Loc.nil w;obtain⟨Yzq,hY⟩:∃Yzq,Yzq=(p.y.mul p.z.inv).v.val:=⟨_,rfl⟩;obtain⟨X,hX⟩:∃X,X=(p.x.mul p.z.inv).v.val:=⟨_,rfl⟩;haveI f1:FnC 129 #[.agg (rowEl (p.y.mul p.z.inv))] (.agg (aa 32 (ah Yzq))):=by rw[hY];infer_instance
 haveI f2:FnC 129 #[.agg (rowEl (p.x.mul p.z.inv))] (.agg (aa 32 (ah X))):=by rw[hX];infer_instance
 have hm:Yzq<2^255:=by rw[hY];exact Yo (Fin.isLt _) Bp
 have ho:=Bo hm (X%2) (XJ _ Ω);have hb:=uO X;haveI g1:Cell (aa 32 (ah Yzq)) 31 (.int .u8 (B8 (ah Yzq 31))):=aO _ Ω;haveI g2:Cell (aa 32 (ah X)) 0 (.int .u8 (B8 (ah X 0))):=aO _ Ω;have gr:=wO (m:=Yzq) (X%2);have he:cd p.ex=Yzq+2^255*(X%2):=by
  rw[hY,hX,El.mul_v,El.mul_v,El.inv_v];rfl
 rw[he];clear he hY hX;by_cases hc:X%2=1
 ·rw[hc]at hb ho gr ⊢
  rw[← ho,show((128*1:Nat):Int)=128 from rfl]at gr;haveI gp:Put (aa 32 (ah Yzq)) 31 (.int .u8 (bits .or .u8 (B8 (ah Yzq 31)) 128)) (aa 32 (ah (Yzq+2^255*1))):=bm Ω gr;clear hc ho hm gr;generalize ah (Yzq+2^255*1)=out,ah Yzq=s,ah X=u at *
  go_enter func75,ntmps75;go_wp2_with (refine aQp fun _ J I=>?_);exact Λ
 ·rw[show X%2=0 from by omega]at hb ho gr ⊢
  rw[← ho,show((128*0:Nat):Int)=0 from rfl]at gr;haveI gp:Put (aa 32 (ah Yzq)) 31 (.int .u8 (bits .or .u8 (B8 (ah Yzq 31)) 0)) (aa 32 (ah (Yzq+2^255*0))):=bm Ω gr;clear hc ho hm gr;generalize ah (Yzq+2^255*0)=out,ah Yzq=s,ah X=u at *
  go_enter func75,ntmps75;go_wp2_with (refine aQp fun _ J I=>?_);exact Λ
instance Rs:Ent 75:=eo func75
instance Ru(p:Pe):FnC 75 #[.agg (rowPe p)] (.agg (aa 32 (ah (cd p.ex)))):=⟨xl p⟩
end R3
namespace R3
def aQ(f:Nat→Int):Nat→Int
 | 0=>0
 | k+1=>aQ f k+f k*2^(8*k)
theorem dj{f g:Nat→Int}:∀k,(∀i,i<k→f i=g i)→aQ f k=aQ g k
 | 0,_=>rfl
 | k+1,h=>by unfold aQ;rw[dj k fun i hi=>h i Ω,h k Ω]
theorem IK(i k:Nat):(2:Int)^(8*(i+k))=2^(8*i)*2^(8*k):=by rw[YD,Int.pow_add]
theorem JK(k:Nat):(2:Int)^(8*(k+1))=2^(8*k)*256:=by rw[IK];rfl
def dgB(n i:Nat):Nat:=n/2^(8*i)%256
theorem dH(n i:Nat):dgB n i<256:=XJ _ Ω
theorem ve(n:Nat):∀k,aQ (fun i=>(dgB n i:Int)) k=((n%2^(8*k):Nat):Int)
 | 0=>by simp[aQ,YH]
 | k+1=>by
  unfold aQ;have hE:((2^(8*k):Nat):Int)=(2:Int)^(8*k):=by norm_cast
  have hd:dgB n k=n/2^(8*k)%2^8:=rfl;rw[ve n k,Yu,Xk,YV,YN,Yg,hE,← hd,Int.mul_comm]
def IL(f:Nat→Int):Prop:=∀i,0≤f i∧f i≤255
theorem iU{f:Nat→Int}(h:IL f):∀k:Nat,0≤aQ f k∧aQ f k<2^(8*k)
 | 0=>by simp[aQ]
 | k+1=>by
  have ih:=iU h k;have hf:=h k;unfold aQ;rw[JK];generalize(2:Int)^(8*k)=Ezq at *
  have h1:0≤f k*Ezq:=YR hf.1 Ω;have h2:f k*Ezq≤255*Ezq:=Yr hf.2 Ω;omega
theorem pz{f:Nat→Int}(h:IL f):∀k:Nat,∀i,i<k→f i=(dgB (aQ f k).toNat i:Int)
 | 0,i,hi=>absurd hi Ω
 | k+1,i,hi=>by
  have hv:=iU h k;have hf:=h k;have e:(aQ f (k+1)).toNat=(aQ f k).toNat+2^(8*k)*(f k).toNat:=by
   have:((2^(8*k):Nat):Int)=(2:Int)^(8*k):=by norm_cast
   refine Int.ofNat_inj.1 ?_;have h1:0≤f k*(2:Int)^(8*k):=YR hf.1 Ω;have hvk:aQ f (k+1)=aQ f k+f k*2^(8*k):=rfl;rw[hvk,YF (show 0≤aQ f k+f k*2^(8*k) by omega),YN,Yg,this,YF hv.1,YF hf.1];show aQ f k+f k*2^(8*k)=_;grind
  have hlt:(aQ f k).toNat<2^(8*k):=by
   have:((2^(8*k):Nat):Int)=(2:Int)^(8*k):=by norm_cast
   omega
  unfold dgB;rw[e];rcases XI i k with h1|h1
  ·rw[pz h k i h1]
   unfold dgB;obtain⟨d,hd⟩:∃d,k=i+1+d:=⟨k-(i+1),Ω⟩;rw[show 8*k=8*i+(8+8*d)from by omega,Xk,XK,Xy _ _ (Xg _),Xk,XK,show(2:Nat)^8=256 from rfl,XD]
  ·obtain rfl:i=k:=Ω
   rw[Xy _ _ (Xg _),Xp hlt,XA];omega
def bq(n:Nat):Nat→Int
 | 0=>0
 | k+1=>if(dgB n k:Int)-dgB Qo k-bq n k<0 then 1 else 0
def jI(n i:Nat):Int:=(dgB n i:Int)-dgB Qo i-bq n i
theorem BE(n:Nat):∀k,0≤bq n k∧bq n k≤1
 | 0=>by unfold bq;omega
 | k+1=>by unfold bq;split <;> omega
theorem BF(n i:Nat): -256≤jI n i∧jI n i≤255:=by
 have:=BE n i;have:=dH n i;have:=dH Qo i;unfold jI;omega
theorem BG(n k:Nat):jI n k/256%2=bq n (k+1):=by
 have:=BF n k;have e:bq n (k+1)=if jI n k<0 then 1 else 0:=rfl;rw[e];split <;> omega
theorem qL(n:Nat):∀k,aQ (fun i=>jI n i%256) k=aQ (fun i=>(dgB n i:Int)) k-aQ (fun i=>(dgB Qo i:Int)) k+bq n k*2^(8*k)
 | 0=>by simp[aQ,bq]
 | k+1=>by
  have h:=BF n k;have hb:=BG n k;have hr:jI n k%256=(dgB n k:Int)-dgB Qo k-bq n k+256*bq n (k+1):=by
   have:jI n k=(dgB n k:Int)-dgB Qo k-bq n k:=rfl;have:=BE n (k+1);omega
  unfold aQ;rw[qL n k,hr,JK];grind
theorem xm(n:Nat):IL (fun i=>jI n i%256):=fun i=>(show 0≤jI n i%256∧jI n i%256≤255 by omega)
def vf(n:Nat):Nat:=if n<Qo then n else n-Qo
theorem FC{a b:Nat}(h:a<b):2^a*2≤2^b:=by rw[← Zb];exact Xx Ξ h
theorem qM{n k:Nat}(h:n<2^k):(n:Int)<(2:Int)^k:=by
 have:=Int.ofNat_lt.2 h;rwa[YM]at this
theorem pC{n:Nat}(h:n<2^264):aQ (fun i=>(dgB n i:Int)) 33=(n:Int):=by rw[ve,show 8*33=264 from rfl,Xd h]
theorem z9:Qo<2^264:=Ϛ
theorem FD{n:Nat}(h:n<2^264):(bq n 33=0∧Qo≤n)∨(bq n 33=1∧n<Qo):=by
 have h1:=qL n 33;rw[pC h,pC z9]at h1;have h2:=iU (xm n) 33;have h5:=BE n 33;rw[show 8*33=264 from rfl]at h1 h2;have hn:=qM h;have hp:=qM z9;generalize aQ (fun i=>jI n i%256) 33=v at *
 generalize(2:Int)^264=Ezq at *
 have hb:bq n 33=0∨bq n 33=1:=Ω;rcases hb with hb|hb
 ·rw[hb,Int.zero_mul]at h1
  exact .inl ⟨hb,Ω⟩
 ·rw[hb,Int.one_mul]at h1
  exact .inr ⟨hb,Ω⟩
theorem IM{n:Nat}(h:n<2^264)(hp:Qo≤n):∀i,i<33→jI n i%256=(dgB (n-Qo) i:Int):=by
 have h1:=qL n 33;rw[pC h,pC z9]at h1;have hb:bq n 33=0:=by rcases FD h with h|h <;> omega
 rw[hb,Int.zero_mul]at h1;intro i hi;have h2:=pz (xm n) 33 i hi;rw[h1]at h2;rw[h2,show((n:Int)-(Qo:Int)+0).toNat=n-Qo from by omega]
theorem FE{n:Nat}(h:n<2*Qo):vf n=n%Qo:=by
 unfold vf;by_cases h0:n<Qo
 ·rw[Ρ h0,Xd h0]
 ·rw[Χ h0,Yv Ω,Xd Ω]
def crK(n c k:Nat):Nat:=(2*(n%2^(8*k))+c)/2^(8*k)
theorem xn(n c:Nat):crK n c 0=c:=by unfold crK;simp[YH]
theorem FF(n c k:Nat):dgB (2*n+c) k=(2*dgB n k+crK n c k)%256:=by
 unfold dgB crK;have h:=ZS n (2^(8*k));have hpos:=Xg (8*k);generalize 2^(8*k)=Ezq at *
 have e:2*n+c=2*(n%Ezq)+c+Ezq*(2*(n/Ezq)):=by rw[Nat.mul_left_comm];omega
 rw[e,Xy _ _ hpos];omega
theorem xo(n c k:Nat):crK n c (k+1)=(2*dgB n k+crK n c k)/256:=by
 unfold crK dgB;rw[Yu,Xk,show(2:Nat)^8=256 from rfl,YV];have hpos:=Xg (8*k);generalize 2^(8*k)=Ezq at *
 have e:2*(n%Ezq+Ezq*(n/Ezq%256))+c=2*(n%Ezq)+c+Ezq*(2*(n/Ezq%256)):=by rw[YD,Nat.mul_left_comm];omega
 rw[e,← Xj,Xy _ _ hpos,Nat.add_comm]
theorem FG(n c:Nat)(hc:c≤1):∀k,crK n c k≤1
 | 0=>by rw[xn];exact hc
 | k+1=>by
  rw[xo];have:=FG n c hc k;have:=dH n k;omega
def csK(a b k:Nat):Nat:=(a%2^(8*k)+b%2^(8*k))/2^(8*k)
theorem xp(a b:Nat):csK a b 0=0:=by unfold csK;simp[YH]
theorem KR(a b k:Nat):dgB (a+b) k=(csK a b k+dgB a k+dgB b k)%256:=by
 unfold dgB csK;have h1:=ZS a (2^(8*k));have h2:=ZS b (2^(8*k));have hpos:=Xg (8*k);generalize 2^(8*k)=Ezq at *
 have e:a+b=a%Ezq+b%Ezq+Ezq*(a/Ezq+b/Ezq):=by rw[YD];omega
 rw[e,Xy _ _ hpos];omega
theorem xq(a b k:Nat):csK a b (k+1)=(csK a b k+dgB a k+dgB b k)/256:=by
 unfold csK dgB;rw[Yu,Xk,show(2:Nat)^8=256 from rfl,YV,YV];have hpos:=Xg (8*k);generalize 2^(8*k)=Ezq at *
 have e:a%Ezq+Ezq*(a/Ezq%256)+(b%Ezq+Ezq*(b/Ezq%256))=a%Ezq+b%Ezq+Ezq*(a/Ezq%256+b/Ezq%256):=by rw[YD];omega
 rw[e,← Xj,Xy _ _ hpos,XT]
theorem FH(a b:Nat):∀k,csK a b k≤1
 | 0=>by rw[xp];omega
 | k+1=>by
  rw[xq];have:=FH a b k;have:=dH a k;have:=dH b k;omega
def dW(f:Nat→Nat):Nat→Nat
 | 0=>0
 | k+1=>dW f k+f k*2^(8*k)
theorem vg(n:Nat):∀k,dW (dgB n) k=n%2^(8*k)
 | 0=>by simp[dW,YH]
 | k+1=>by
  unfold dW;rw[vg n k,Yu,Xk,YV,XU (dgB n k)];rfl
theorem xr(f:Nat→Nat)(j x:Nat):∀k,dW (fun i=>if i=j then f i+x else f i) k=dW f k+if j<k then x*2^(8*j)else 0
 | 0=>by simp[dW]
 | k+1=>by
  unfold dW;rw[xr f j x k];by_cases e:k=j
  ·subst e;rw[Ρ rfl,Χ Ω,Ρ Ω];grind
  ·rw[Χ e]
   by_cases h:j<k
   ·rw[Ρ h,Ρ Ω];grind
   ·rw[Χ h,Χ Ω];grind
theorem CY(k:Nat):dW (fun _=>0) k=0:=by
 induction k with
 | zero=>rfl
 | succ k ih=>unfold dW;rw[ih];simp
def tQ(a b:Nat→Nat)(i:Nat):Nat→Nat→Nat
 | 0=>match i with
  | 0=>fun _=>0
  | i+1=>tQ a b i 32
 | k+1=>fun j=>if j=i+k then tQ a b i k j+a i*b k else tQ a b i k j
termination_by k=>(i,k)
theorem vh(a b:Nat→Nat):tQ a b 0 0=fun _=>0:=by unfold tQ;rfl
theorem Aa(a b:Nat→Nat)(i:Nat):tQ a b (i+1) 0=tQ a b i 32:=by conv=>lhs;unfold tQ
theorem vj(a b:Nat→Nat)(i k:Nat):tQ a b i (k+1)=fun j=>if j=i+k then tQ a b i k j+a i*b k else tQ a b i k j:=by conv=>lhs;unfold tQ
theorem FI(a b:Nat→Nat)(i:Nat)(hi:i<32):∀k,k≤32→dW (tQ a b i k) 64=dW (tQ a b i 0) 64+a i*2^(8*i)*dW b k
 | 0,_=>by
  have h0:dW b 0=0:=rfl;rw[h0,XO,Zm]
 | k+1,hk=>by
  have hk1:dW b (k+1)=dW b k+b k*2^(8*k):=rfl;rw[vj,xr,FI a b i hi k Ω,Ρ Ω,YD 8 i k,Xk,hk1];generalize dW (tQ a b i 0) 64=Vzq;generalize 2^(8*i)=Ezq;generalize 2^(8*k)=G;generalize dW b k=Wzq;grind
theorem FJ(a b:Nat→Nat):∀i,i≤32→dW (tQ a b i 0) 64=dW a i*dW b 32
 | 0,_=>by
  have h0:dW a 0=0:=rfl;rw[vh,CY,h0,Nat.zero_mul]
 | i+1,hi=>by
  have hk1:dW a (i+1)=dW a i+a i*2^(8*i):=rfl;rw[Aa,FI a b i Ω 32 Ω,FJ a b i Ω,hk1,ZL]
theorem BH{x y:Nat}(hx:x<256)(hy:y<256):x*y≤65536:=ZD (Z1 (ZE hx) (ZE hy)) Ω
theorem FK{a b:Nat→Nat}(ha:∀i,a i<256)(hb:∀i,b i<256)(i:Nat)(h0:∀j,tQ a b i 0 j≤65536*i):∀k j,tQ a b i k j≤65536*(i+1)∧(i+k≤j→tQ a b i k j≤65536*i)
 | 0,j=>by have:=h0 j;omega
 | k+1,j=>by
  have ih:=FK ha hb i h0 k j;have hm:=BH (ha i) (hb k);rw[vj];simp only;by_cases e:j=i+k
  ·rw[Ρ e]
   have:=ih.2 Ω;omega
  ·rw[Χ e]
   exact⟨ih.1,fun h=>ih.2 Ω⟩
theorem FL{a b:Nat→Nat}(ha:∀i,a i<256)(hb:∀i,b i<256):∀i j:Nat,tQ a b i 0 j≤65536*i
 | 0,j=>by rw[vh];simp
 | i+1,j=>by
  rw[Aa];exact(FK ha hb i (FL ha hb i) 32 j).1
theorem FM{a b:Nat→Nat}(ha:∀i,a i<256)(hb:∀i,b i<256)(i k j:Nat)(hi:i≤32):tQ a b i k j≤2162688:=by
 have:=(FK ha hb i (FL ha hb i) k j).1;omega
def ctK(t:Nat→Nat)(k:Nat):Nat:=dW t k/2^(8*k)
theorem xt(t:Nat→Nat)(k:Nat):ctK t (k+1)=(ctK t k+t k)/256:=by
 have hk1:dW t (k+1)=dW t k+t k*2^(8*k):=rfl;unfold ctK;rw[hk1,Yu,Xk,show(2:Nat)^8=256 from rfl,← Xj,XU (t k),Xy _ _ (Xg _)]
theorem BI{t:Nat→Nat}(h:∀j,t j≤2162688):∀k,ctK t k≤2162688
 | 0=>by unfold ctK dW;simp
 | k+1=>by
  rw[xt];have:=BI h k;have:=h k;omega
theorem qN(t:Nat→Nat)(n:Nat):∀k,∃r,dW t (n+k)=dW t n+2^(8*n)*r
 | 0=>⟨0,Ϡ⟩
 | k+1=>by
  obtain⟨r,hr⟩:=qN t n k;refine⟨r+t (n+k)*2^(8*k),?_⟩;show dW t (n+k)+t (n+k)*2^(8*(n+k))=_;rw[hr,YD 8 n k,Xk];grind
theorem MX(t:Nat→Nat){m k:Nat}(h:k<m):dgB (dW t m) k=(ctK t k+t k)%256:=by
 obtain⟨d,hd⟩:∃d,m=k+1+d:=⟨m-(k+1),Ω⟩;obtain⟨r,hr⟩:=qN t (k+1) d;rw[hd,hr];unfold dgB ctK;rw[Yu 8 k,Xk,show(2:Nat)^8=256 from rfl,XK];show(dW t k+t k*2^(8*k)+2^(8*k)*(256*r))/2^(8*k)%256=_;rw[Xy _ _ (Xg _),XU (t k),Xy _ _ (Xg _),XD]
theorem mV(n i:Nat):(ah n i).toNat=dgB n i:=by unfold ah dgB;rw[Xv]
theorem IN(f:Φ){n i:Nat}(h:i<8*n):leK f n/2^i%2=(f (i/8)).toNat/2^(i%8)%2:=by
 have e:2^i=2^(8*(i/8))*2^(i%8):=by rw[← Xk];congr 1;omega
 rw[e,← Xj,xd _ _ (XJ _ Ω),qG f n (i/8) Ω]
end R3
namespace R3
instance Rv:RowTy 296 33:=⟨⟨_,underlying296,rfl⟩,Θ⟩
instance Rw:RowZ 296 (aq 33 fun _=>0):=⟨Θ⟩
def jJ(n:Nat)(x:Nat):Ψ:=aq n fun i=>(dgB x i:Int)
instance Rx(n x:Nat):Row1 (jJ n x) n:=inferInstanceAs (Row1 (aq n _) n)
theorem JL{n k:Nat}(x:Nat)(h:k<n):Cell (jJ n x) k (.int .i64 (dgB x k:Nat)):=bX (fun i=>(dgB x i:Int)) h
theorem IP{w:ϑ}[h:Glob w]{k:Nat}(hk:k<32):Was w 5 k (.int .i64 (dgB Qo k:Nat)):=⟨by have:=h.ord k hk;rw[mV]at this;exact this,by have:=h.lt;omega⟩
def stL(n k i:Nat):Int:=if i<k then jI n i%256 else(dgB n i:Int)
theorem BJ(n:Nat){k:Nat}(h:k<33)(x:Int)(e:x=jI n k%256):Put (aq 33 (stL n k)) k (.int .i64 x) (aq 33 (stL n (k+1))):=ec h fun i hi=>by
 unfold stL;rw[e];by_cases c:i=k
 ·subst c;rw[Ρ rfl,Ρ Ω]
 ·rw[Χ c]
  by_cases h:i<k
  ·rw[Ρ h,Ρ Ω]
  ·rw[Χ h,Χ Ω]
theorem KS:dgB Qo 32=0:=Ϛ
theorem CZ(n:Nat)(hn:n<2^264)(w:ϑ)[hG:Glob w]:Rt 233 #[.agg (jJ 33 n)] w (.agg (jJ 33 (vf n))):=by
 have I:=Loc.nil w;have HZ:=Hd (show jJ 33 n=aq 33 (stL n 0)from bL fun i _=>by unfold stL;rw[Χ Ω]);have HI:=Hd (FD hn);have HS:=Hd (fun(h:Qo≤n)=>show aq 33 (stL n 33)=jJ 33 (vf n)from bL fun i hi=>by
  have e:vf n=n-Qo:=by unfold vf;rw[Χ Ω]
  unfold stL;rw[Ρ hi,e];exact IM hn h i hi)
 have HT:=Hd (fun(h:n<Qo)=>show jJ 33 n=jJ 33 (vf n)from by unfold vf;rw[Ρ h]);clear hn;go_enter func233,ntmps233;go_wp2_with (first|refine gBp 1 fun b1 J I=>?_|refine gBp 2 fun b2 J I=>?_|refine gBp 3 fun b3 J I=>?_|refine aQq fun _ J I=>?_);go_loopw [4,5] (fun cc kk wr=>∃k:Nat,k≤33∧kk= .int .i64 k∧cc= .int .i64 (bq n k)∧Loc w wr [(b3,aq 33 (stL n k),296),(b2,aq 33 fun _=>0,296),(b1,jJ 33 n,296)]) (fun _ kk _=>33-(intOf kk).toNat);case atStart=>exact⟨0,Ω,rfl,rfl,by rw[← HZ.out];exact I⟩
 case round =>
  clear I;obtain⟨k,hk,rfl,rfl,I⟩:=hrel;by_cases hlt:k<33
  ·have hk0:(0:Int)≤(k:Int):=Ω
   have hk1:(k:Int)<33:=Ω;have hb:=BE n k;have hd:=dH n k;have hq:=dH Qo k;have hs:=BG n k;have hr:jI n k=(dgB n k:Int)-dgB Qo k-bq n k:=rfl;haveI g1:Cell (jJ 33 n) k (.int .i64 (dgB n k:Nat)):=JL n hlt;by_cases h32:k<32
   ·haveI g2:Was w 5 k (.int .i64 (dgB Qo k:Nat)):=IP h32
    have h32':(k:Int)<32:=Ω;by_cases hneg:jI n k<0
    ·have HB:=Hd (show bq n (k+1)=1 from Ω)
     haveI p1:Put (aq 33 (stL n k)) k (.int .i64 ((dgB n k:Nat)-bq n k-(dgB Qo k:Nat)+256)) (aq 33 (stL n (k+1))):=BJ n hlt _ Ω;have hneg':(dgB n k:Int)-bq n k-dgB Qo k<0:=Ω;clear hs hr hneg;generalize stL n k=s,dgB n k=d,dgB Qo k=q,bq n k=c at *
     have J:IntKind.i64.wrap ((d:Int)-c)=(d:Int)-c:=W3 _ Ω;have w2:IntKind.i64.wrap ((d:Int)-c-q)=(d:Int)-c-q:=W3 _ Ω;have w3:IntKind.i64.wrap ((d:Int)-c-q+256)=(d:Int)-c-q+256:=W3 _ Ω;go_wp2_with (refine aQq fun _ J I=>?_);go_roundw;case rel=>exact⟨k+1,Ω,by go_num,by rw[HB.out],I⟩
     case measure=>exact ϝ
    ·have HB:=Hd (show bq n (k+1)=0 from Ω)
     haveI p1:Put (aq 33 (stL n k)) k (.int .i64 ((dgB n k:Nat)-bq n k-(dgB Qo k:Nat))) (aq 33 (stL n (k+1))):=BJ n hlt _ Ω;have hneg':¬(dgB n k:Int)-bq n k-dgB Qo k<0:=Ω;have hneg2:0≤(dgB n k:Int)-bq n k-dgB Qo k:=Ω;clear hs hr hneg;generalize stL n k=s,dgB n k=d,dgB Qo k=q,bq n k=c at *
     have J:IntKind.i64.wrap ((d:Int)-c)=(d:Int)-c:=W3 _ Ω;have w2:IntKind.i64.wrap ((d:Int)-c-q)=(d:Int)-c-q:=W3 _ Ω;go_wp2_with (refine aQq fun _ J I=>?_);go_roundw;case rel=>exact⟨k+1,Ω,by go_num,by rw[HB.out],I⟩
     case measure=>exact ϝ
   ·obtain rfl:k=32:=Ω
    rw[KS]at hr;by_cases hneg:jI n 32<0
    ·have HB:=Hd (show bq n (32+1)=1 from Ω)
     haveI p1:Put (aq 33 (stL n 32)) 32 (.int .i64 ((dgB n 32:Nat)-bq n 32+256)) (aq 33 (stL n (32+1))):=BJ n hlt _ Ω;have hneg':(dgB n 32:Int)-bq n 32<0:=Ω;clear hs hr hneg;generalize stL n 32=s,dgB n 32=d,bq n 32=c at *
     have J:IntKind.i64.wrap ((d:Int)-c)=(d:Int)-c:=W3 _ Ω;have w3:IntKind.i64.wrap ((d:Int)-c+256)=(d:Int)-c+256:=W3 _ Ω;go_wp2_with (refine aQq fun _ J I=>?_);go_roundw;case rel=>exact⟨32+1,Ω,by go_num,by rw[HB.out],I⟩
     case measure=>simp[intOf]
    ·have HB:=Hd (show bq n (32+1)=0 from Ω)
     haveI p1:Put (aq 33 (stL n 32)) 32 (.int .i64 ((dgB n 32:Nat)-bq n 32)) (aq 33 (stL n (32+1))):=BJ n hlt _ Ω;have hneg':¬(dgB n 32:Int)-bq n 32<0:=Ω;have hneg2:0≤(dgB n 32:Int)-bq n 32:=Ω;clear hs hr hneg;generalize stL n 32=s,dgB n 32=d,bq n 32=c at *
     have J:IntKind.i64.wrap ((d:Int)-c)=(d:Int)-c:=W3 _ Ω;go_wp2_with (refine aQq fun _ J I=>?_);go_roundw;case rel=>exact⟨32+1,Ω,by go_num,by rw[HB.out],I⟩
     case measure=>simp[intOf]
  ·obtain rfl:k=33:=Ω
   rcases HI.out with⟨h1,h2⟩|⟨h1,h2⟩
   ·rw[h1]
    rw[HS.out h2]at I;clear h2;go_wp2_with (refine aQq fun _ J I=>?_);exact Λ
   ·rw[h1]
    rw[HT.out h2]at I;clear h2;go_wp2_with (refine aQq fun _ J I=>?_);exact Λ
instance Ry:Ent 233:=eo func233
def stR(n c k i:Nat):Int:=if i<k then(dgB (2*n+c) i:Int)else(dgB n i:Int)
theorem MY(n c:Nat){k:Nat}(h:k<33)(x:Int)(e:x=(dgB (2*n+c) k:Int)):Put (aq 33 (stR n c k)) k (.int .i64 x) (aq 33 (stR n c (k+1))):=ec h fun i hi=>by
 unfold stR;rw[e];by_cases c:i=k
 ·subst c;rw[Ρ rfl,Ρ Ω]
 ·rw[Χ c]
  by_cases h:i<k
  ·rw[Ρ h,Ρ Ω]
  ·rw[Χ h,Χ Ω]
def byP(n k:Nat):Nat→Γ:=fun i=>if i<k then ah n i else 0
theorem MZ(n:Nat){k:Nat}(h:k<32):Put (aa 32 (byP n k)) k (.int .u8 (dgB n k:Nat)) (aa 32 (byP n (k+1))):=bm h (am fun i _=>by
 unfold upd byP;by_cases e:i=k
 ·subst e;rw[Ρ rfl,Ρ Ω];unfold B8;rw[mV]
 ·rw[Χ e]
  show Value.int .u8 (B8 (if i<k then ah n i else 0))=_;by_cases h:i<k
  ·rw[Ρ h,Ρ Ω]
  ·rw[Χ h,Χ Ω])
theorem refRed_any(f:Φ)(n c B:Nat)(w:ϑ)[hG:Glob w](hn:n≤64)(hcap:n≤c)(hw:∀i,i<n→Was w B i (.int .u8 (B8 (f i)))) :
 Rt 186 #[.slice (ϐ B) n c] w (.agg (aa 32 (ah (leK f n%Qo)))):=by
 have I:=Loc.nil w;have HW:=Hd hw;have hn1:(n:Int)≤64:=Ω;have hn0:(0:Int)≤(n:Int):=Ω;have HBIT:=Hd (fun i (h:i<8*n)=>IN f h);have HZ:=Hd (show aq 33 (fun _=>0)=jJ 33 (leK f n/2^(8*n)%Qo)from by
  rw[Xp (dt f n),Nat.zero_mod];exact bL fun i _=>by unfold dgB;simp)
 generalize leK f n=A at *
 go_enter func186,ntmps186;go_wp2_with (first|refine gBp 2 fun b2 J I=>?_|refine gBp 3 fun b3 J I=>?_|refine aQq fun _ J I=>?_);rw[HZ.out]at I;have hm:8*(n:Int)-1=((8*n:Nat):Int)-1:=Ω;rw[hm];go_loopw [4] (fun kk wr=>∃s:Nat,s≤8*n∧kk= .int .i64 ((s:Int)-1)∧Loc w wr [(b3,jJ 33 (A/2^s%Qo),296),(b2,aa 32 fun _=>0,24)]) (fun kk _=>(intOf kk+1).toNat);case atStart=>exact⟨8*n,Xn _,rfl,I⟩
 case round =>
  clear I;obtain⟨s,hs,rfl,I⟩:=hrel;by_cases hlt:0<s
  ·obtain⟨p,rfl⟩:∃p,s=p+1:=⟨s-1,Ω⟩
   have ep:((p+1:Nat):Int)-1=(p:Int):=Ω;rw[ep];have hp8:p<8*n:=Ω;have hbit:=HBIT.out p hp8;have HRED:=Hd (qo A p);haveI g1:Was w B (p/8) (.int .u8 (B8 (f (p/8)))):=HW.out (p/8) Ω;obtain⟨b0,b1⟩:=bP (f (p/8));have hv:bits .and .i64 (B8 (f (p/8))/2^(p%8)) 1=((A/2^p%2:Nat):Int):=by
    rw[mM,hbit];unfold B8;rw[Ye,Zs,YM];rfl
   have p0:(0:Int)≤(p:Int):=Ω;have e1:(p:Int)/8=((p/8:Nat):Int):=Ω;have e2:(p:Int)%8=((p%8:Nat):Int):=Ω;have e3:(p:Int).tdiv 8=((p/8:Nat):Int):=by rw[X6 Ω];omega
   have e4:(p:Int).tmod 8=((p%8:Nat):Int):=by rw[XF Ω];omega
   have q0:(0:Int)≤((p/8:Nat):Int):=Ω;have q1:((p/8:Nat):Int)<(n:Int):=Ω;have r0:(0:Int)≤((p%8:Nat):Int):=Ω;have r1:((p%8:Nat):Int)<8:=Ω;have HP:=Hd hp8;have hbl:A/2^p%2≤1:=Ω;clear hbit hlt hs;have hN:A/2^(p+1)%Qo<Qo:=XJ _ zY;have hQ:2*Qo<2^264:=Ϛ;have HOFF:=Hd (show vf (2*(A/2^(p+1)%Qo)+A/2^p%2)=A/2^p%Qo from by rw[FE Ω,qo A p,← Nat.two_mul]);haveI fl:FnG 233 #[.agg (jJ 33 (2*(A/2^(p+1)%Qo)+A/2^p%2))] (.agg (jJ 33 (A/2^p%Qo))):=⟨fun w hw=>by rw[← HOFF.out];exact CZ _ Ω w⟩;clear hN hQ HOFF HRED;have HC0:=Hd (xn (A/2^(p+1)%Qo) (A/2^p%2));have HCL:=Hd (FG (A/2^(p+1)%Qo) (A/2^p%2) hbl);generalize A/2^(p+1)%Qo=N,A/2^p%2=bit,p/8=q,p%8=r at *
   generalize B8 (f q)=u at *
   have wu:IntKind.i64.wrap u=u:=W3 _ Ω;go_wp2_with (refine aQq fun _ J I=>?_);have HR0:=Hd (show jJ 33 N=aq 33 (stR N bit 0)from bL fun i _=>by unfold stR;rw[Χ Ω]);have HR1:=Hd (show aq 33 (stR N bit 33)=jJ 33 (2*N+bit)from bL fun i hi=>by unfold stR;rw[Ρ hi]);go_loopw [5,6] (fun cc kk wr=>∃k:Nat,k≤33∧kk= .int .i64 k∧cc= .int .i64 (crK N bit k:Nat)∧Loc w wr [(b3,aq 33 (stR N bit k),296),(b2,aa 32 fun _=>0,24)]) (fun _ kk _=>33-(intOf kk).toNat);case atStart=>exact⟨0,Ω,rfl,by rw[HC0.out],by rw[← HR0.out];exact I⟩
   case round =>
    clear I;obtain⟨k,hk,rfl,rfl,I⟩:=hrel;by_cases hkl:k<33
    ·have hk0:(0:Int)≤(k:Int):=Ω
     have hk1:(k:Int)<33:=Ω;have hd:=dH N k;have hc:=HCL.out k;have ht:=FF N bit k;have HCS:=Hd (xo N bit k);have ha:=and_255 (2*(dgB N k:Int)+(crK N bit k:Int));haveI g2:Cell (aq 33 (stR N bit k)) k (.int .i64 (dgB N k:Nat)):=by
      have:stR N bit k k=(dgB N k:Int):=by unfold stR;rw[Χ Ω]
      rw[← this];exact bX _ hkl
     haveI p1:Put (aq 33 (stR N bit k)) k (.int .i64 (bits .and .i64 (2*(dgB N k:Int)+(crK N bit k:Int)) 255)) (aq 33 (stR N bit (k+1))):=MY N bit hkl _ (by rw[ha,ht];omega);clear ha ht;generalize stR N bit k=st at *
     generalize hcr:crK N bit (k+1)=c',dgB N k=d,crK N bit k=c at *
     have J:IntKind.i64.wrap (2*(d:Int))=2*(d:Int):=W3 _ Ω;have w2:IntKind.i64.wrap (2*(d:Int)+c)=2*(d:Int)+c:=W3 _ Ω;have hcc:(2*(d:Int)+c)/256=(c':Int):=by have:=HCS.out;omega
     have HCR:=Hd hcr;clear hcr;go_wp2_with (refine aQq fun _ J I=>?_);go_roundw;case rel=>exact⟨k+1,Ω,by go_num,by rw[HCR.out],I⟩
     case measure=>exact ϝ
    ·obtain rfl:k=33:=Ω
     rw[HR1.out]at I;go_wp2_with (refine aQq fun _ J I=>?_);go_roundw;case rel=>exact⟨p,by have:=HP.out;omega,rfl,I⟩
     case measure=>simp[intOf]
  ·obtain rfl:s=0:=Ω
   rw[Yh,Yj]at I;have k1:((0:Nat):Int)-1= -1:=Ω;rw[k1];clear k1 hs hlt HW HBIT HZ;have HB0:=Hd (show(aa 32 fun _=>0)=aa 32 (byP (A%Qo) 0)from am fun i _=>by unfold byP;rw[Χ Ω]);have HB1:=Hd (show aa 32 (byP (A%Qo) 32)=aa 32 (ah (A%Qo))from am fun i hi=>by unfold byP;rw[Ρ hi]);go_wp2_with (first|refine gBp 8 fun b8 J I=>?_|refine aQq fun _ J I=>?_);go_loopw [9] (fun kk wr=>∃k:Nat,k≤32∧kk= .int .i64 k∧Loc w wr [(b8,aa 32 (byP (A%Qo) k),24),(b3,jJ 33 (A%Qo),296),(b2,aa 32 fun _=>0,24)]) (fun kk _=>32-(intOf kk).toNat);case atStart=>exact⟨0,Ω,rfl,by rw[← HB0.out];exact I⟩
   case round =>
    clear I;obtain⟨k,hk,rfl,I⟩:=hrel;by_cases hkl:k<32
    ·have hk0:(0:Int)≤(k:Int):=Ω
     have hk1:(k:Int)<32:=Ω;have hk2:(k:Int)<33:=Ω;have hd:=dH (A%Qo) k;haveI g1:Cell (jJ 33 (A%Qo)) k (.int .i64 (dgB (A%Qo) k:Nat)):=JL _ Ω;haveI p1:=MZ (A%Qo) hkl;generalize dgB (A%Qo) k=d at *
     have J:IntKind.u8.wrap (d:Int)=(d:Int):=by rw[X7];omega
     go_wp2_with (refine aQq fun _ J I=>?_);go_roundw;case rel=>exact⟨k+1,Ω,by go_num,I⟩
     case measure=>exact ϝ
    ·obtain rfl:k=32:=Ω
     rw[HB1.out]at I;go_wp2_with (refine aQq fun _ J I=>?_);exact Λ
end R3
namespace R3
instance Rz:RowZ 74 (aa 64 fun _=>0):=⟨Θ⟩
theorem BK(n:Nat){k:Nat}(h:k<64):Put (aa 64 (byP n k)) k (.int .u8 (dgB n k:Nat)) (aa 64 (byP n (k+1))):=bm h (am fun i _=>by
 unfold upd byP;by_cases e:i=k
 ·subst e;rw[Ρ rfl,Ρ Ω];unfold B8;rw[mV]
 ·rw[Χ e]
  show Value.int .u8 (B8 (if i<k then ah n i else 0))=_;by_cases h:i<k
  ·rw[Ρ h,Ρ Ω]
  ·rw[Χ h,Χ Ω])
theorem was_loc{D w:ϑ}{M:Mem}(I:Loc D w M){b:Nat}{r:Ψ}{t:ϋ}(hm:(b,r,t)∈M){k:Nat}{v:ό}(hc:r[k]?=some v):Was w b k v :=
 ⟨by rw[Ya w b k _ _ _ (I.get hm)];exact hc,I.lt hm⟩
theorem pD(f:Φ){k:Nat}(h:k<32):B8 (f k)=(dgB (leN f) k:Nat):=by
 unfold B8 dgB;rw[kg f h]
theorem FN(f g:Φ)(w:ϑ)[hG:Glob w]:Rt 134 #[.agg (aa 32 f),.agg (aa 32 g)] w (.agg (aa 32 (ah ((leN f+leN g)%Qo)))):=by
 have I:=Loc.nil w;have HF:=Hd (fun k (h:k<32)=>pD f h);have HG:=Hd (fun k (h:k<32)=>pD g h);have hA:=fX f;have hB:=fX g;generalize leN f=A,leN g=B at *
 have HS:=Hd (show aa 64 (byP (A+B) 33)=aa 64 (ah (A+B))from am fun i hi=>by
  unfold byP;by_cases h:i<33
  ·rw[Ρ h]
  ·rw[Χ h]
   unfold ah;rw[Xp (Xl (show A+B<2^256*2 by omega) (FC (show 256<8*i by omega)))];rfl)
 have HV:=Hd (show leK (ah (A+B)) 64=A+B from by rw[kJ,Xd Ω]);have HD:=Hd (show dgB A 32=0∧dgB B 32=0 from by unfold dgB;rw[Xp hA,Xp hB];exact⟨rfl,rfl⟩);clear hA hB;go_enter func134,ntmps134;go_wp2_with (first|refine gBp 2 fun b2 J I=>?_|refine gBp 3 fun b3 J I=>?_|refine gBp 4 fun b4 J I=>?_|refine gBp 5 fun b5 J I=>?_|refine aQq fun _ J I=>?_);have HC0:=Hd (xp A B);have HCL:=Hd (FH A B);have HB0:=Hd (show(aa 64 fun _=>0)=aa 64 (byP (A+B) 0)from am fun i _=>by unfold byP;rw[Χ Ω]);go_loopw [6,7] (fun cc kk wr=>∃k:Nat,k≤33∧kk= .int .i64 k∧cc= .int .i64 (csK A B k:Nat)∧Loc w wr [(b5,aa 64 (byP (A+B) k),74),(b4,aa 32 fun _=>0,24),(b3,aa 32 g,24),(b2,aa 32 f,24)]) (fun _ kk _=>33-(intOf kk).toNat);case atStart=>exact⟨0,Ω,rfl,by rw[HC0.out];rfl,by rw[← HB0.out];exact I⟩
 case round =>
  clear I;obtain⟨k,hk,rfl,rfl,I⟩:=hrel;by_cases hkl:k<33
  ·have hk0:(0:Int)≤(k:Int):=Ω
   have hk1:(k:Int)<33:=Ω;have hk2:(k:Int)<64:=Ω;have hd:=dH A k;have he:=dH B k;have hc:=HCL.out k;have ht:=KR A B k;have HCS:=Hd (xq A B k);have p1:=BK (A+B) (k:=k) Ω;by_cases h32:k<32
   ·have h32':(k:Int)<32:=Ω
    haveI g1:Cell (aa 32 f) k (.int .u8 (dgB A k:Nat)):=by rw[← HF.out k h32];exact aO _ h32
    haveI g2:Cell (aa 32 g) k (.int .u8 (dgB B k:Nat)):=by rw[← HG.out k h32];exact aO _ h32
    have ha:=and_255 ((csK A B k:Int)+(dgB A k:Int)+(dgB B k:Int));have hv:((dgB (A+B) k:Nat):Int)=bits .and .i64 ((csK A B k:Int)+(dgB A k:Int)+(dgB B k:Int)) 255:=by rw[ha,ht];omega
    rw[hv]at p1;haveI p1:=p1;generalize hcs:csK A B (k+1)=c',csK A B k=c,dgB A k=d,dgB B k=e at *
    have J:IntKind.i64.wrap ((c:Int)+d)=(c:Int)+d:=W3 _ Ω;have w2:IntKind.i64.wrap ((c:Int)+d+e)=(c:Int)+d+e:=W3 _ Ω;have w3:IntKind.i64.wrap (d:Int)=(d:Int):=W3 _ Ω;have w4:IntKind.i64.wrap (e:Int)=(e:Int):=W3 _ Ω;have w5:IntKind.u8.wrap (bits .and .i64 ((c:Int)+d+e) 255)=bits .and .i64 ((c:Int)+d+e) 255:=by rw[ha,X7];omega
    have hcc:((c:Int)+d+e)/256=(c':Int):=by have:=HCS.out;omega
    have HCR:=Hd hcs;clear hcs ha hv ht HF HG;generalize byP (A+B) k=st at *
    go_wp2_with (refine aQq fun _ J I=>?_);refine wf [(0,true),(1,true),(2,true),(3,false),(4,true),(5,true),(6,true),(7,true),(8,false),(9,true),(10,true),(11,true)] [] [] I ?_;refine fA ?_;refine fC fun J I=>?_;go_wp2_with (refine aQq fun _ J I=>?_);go_roundw;case rel=>exact⟨k+1,Ω,by go_num,by rw[HCR.out],I⟩
    case measure=>exact ϝ
   ·obtain rfl:k=32:=Ω
    obtain⟨z1,z2⟩:=HD.out;have ha:=and_255 (csK A B 32:Int);have hv:((dgB (A+B) 32:Nat):Int)=bits .and .i64 (csK A B 32:Int) 255:=by rw[ha,ht,z1,z2];omega
    rw[hv]at p1;haveI p1:=p1;have hcc:(csK A B 32:Int)/256=(csK A B (32+1):Int):=by have:=HCS.out;omega
    generalize hcs:csK A B (32+1)=c',csK A B 32=c at *
    have w5:IntKind.u8.wrap (bits .and .i64 (c:Int) 255)=bits .and .i64 (c:Int) 255:=by rw[ha,X7];omega
    have HCR:=Hd hcs;clear hcs ha hv ht HF HG HCS HD z1 z2 hd he;generalize byP (A+B) 32=st at *
    go_wp2_with (refine aQq fun _ J I=>?_);go_roundw;case rel=>exact⟨32+1,Ω,by go_num,by rw[HCR.out],I⟩
    case measure=>simp[intOf]
  ·obtain rfl:k=33:=Ω
   rw[HS.out]at I;have HR:=Hd (fun J (h:Loc w J [(b5,aa 64 (ah (A+B)),74),(b4,aa 32 fun _=>0,24),(b3,aa 32 g,24),(b2,aa 32 f,24)]) =>
    haveI:=h.glob hG
    refRed_any (ah (A+B)) 64 64 b5 J Ω Ω fun i hi=>was_loc h (.head _) (bG _ hi))
   rw[HV.out]at HR;go_wp2_with (first|((go_at_call 186;refine(HR.out _ I).mono ?_;rintro e J⟨rfl,V⟩;replace I:=I.keep V))|refine aQq fun _ J I=>?_);exact Λ
instance RA:Ent 134:=eo func134
instance RB(f g:Φ):FnG 134 #[.agg (aa 32 f),.agg (aa 32 g)] (.agg (aa 32 (ah ((leN f+leN g)%Qo)))):=⟨fun w _=>FN f g w⟩
def qO(t:Nat→Nat):Ψ:=aq 64 fun i=>(t i:Int)
instance RC:RowZ 266 (qO fun _=>0):=⟨Θ⟩
theorem FO(f g:Φ)(w:ϑ)[hG:Glob w]:Rt 135 #[.agg (aa 32 f),.agg (aa 32 g)] w (.agg (aa 32 (ah (leN f*leN g%Qo)))):=by
 have I:=Loc.nil w;have HF:=Hd (fun k (h:k<32)=>pD f h);have HG:=Hd (fun k (h:k<32)=>pD g h);have hA:=fX f;have hB:=fX g;generalize leN f=A,leN g=B at *
 have hV:dW (tQ (dgB A) (dgB B) 32 0) 64=A*B:=by
  rw[FJ _ _ 32 Ω,vg,vg,Xd hA,Xd hB]
 have HV:=Hd (show leK (ah (A*B)) 64=A*B from by
  rw[kJ,Xd];have:=Nat.mul_lt_mul_of_lt_of_lt hA hB;rwa[← Xk,show 256+256=8*64 from rfl]at this)
 have HLIM:=Hd (fun i k j (hi:i≤32)=>FM (dH A) (dH B) i k j hi);obtain⟨Tzq,hT⟩:∃Tzq,Tzq=tQ (dgB A) (dgB B) 32 0:=⟨_,rfl⟩;rw[← hT]at hV;have HT:=Hd hT;have HTL:=Hd (show ∀j,Tzq j≤2162688 from fun j=>by rw[hT];exact FM (dH A) (dH B) 32 0 j Ω);have HDG:=Hd (show ∀k,k<64→dgB (A*B) k=(ctK Tzq k+Tzq k)%256 from fun k hk=>by rw[← hV];exact MX Tzq hk);have HZ:=Hd (show qO (fun _=>0)=qO (tQ (dgB A) (dgB B) 0 0)from by rw[vh]);clear hA hB hV hT;go_enter func135,ntmps135;go_wp2_with (first|refine gBp 2 fun b2 J I=>?_|refine gBp 3 fun b3 J I=>?_|refine gBp 4 fun b4 J I=>?_|refine gBp 5 fun b5 J I=>?_|refine aQq fun _ J I=>?_);rw[HZ.out]at I;go_loopw [6] (fun kk wr=>∃i:Nat,i≤32∧kk= .int .i64 i∧Loc w wr [(b5,qO (tQ (dgB A) (dgB B) i 0),266),(b4,aa 32 fun _=>0,24),(b3,aa 32 g,24),(b2,aa 32 f,24)]) (fun kk _=>32-(intOf kk).toNat);case atStart=>exact⟨0,Ω,rfl,I⟩
 case round =>
  clear I;obtain⟨i,hi,rfl,I⟩:=hrel;by_cases hlt:i<32
  ·have hi0:(0:Int)≤(i:Int):=Ω
   have hi1:(i:Int)<32:=Ω;go_wp2_with (refine aQq fun _ J I=>?_);go_loopw [7] (fun kk wr=>∃k:Nat,k≤32∧kk= .int .i64 k∧Loc w wr [(b5,qO (tQ (dgB A) (dgB B) i k),266),(b4,aa 32 fun _=>0,24),(b3,aa 32 g,24),(b2,aa 32 f,24)]) (fun kk _=>32-(intOf kk).toNat);case atStart=>exact⟨0,Ω,rfl,I⟩
   case round =>
    clear I;obtain⟨k,hk,rfl,I⟩:=hrel;by_cases hkl:k<32
    ·have hk0:(0:Int)≤(k:Int):=Ω
     have hk1:(k:Int)<32:=Ω;have ht:=HLIM.out i k (i+k) hi;have hd:=dH A i;have he:=dH B k;have hm:=BH hd he;haveI g1:Cell (qO (tQ (dgB A) (dgB B) i k)) (i+k) (.int .i64 (tQ (dgB A) (dgB B) i k (i+k):Nat)):=bX (fun j=>(tQ (dgB A) (dgB B) i k j:Int)) Ω;haveI g2:Cell (aa 32 f) i (.int .u8 (dgB A i:Nat)):=by rw[← HF.out i hlt];exact aO _ hlt
     haveI g3:Cell (aa 32 g) k (.int .u8 (dgB B k:Nat)):=by rw[← HG.out k hkl];exact aO _ hkl
     haveI g4:Put (qO (tQ (dgB A) (dgB B) i k)) (i+k) (.int .i64 ((tQ (dgB A) (dgB B) i k (i+k):Nat)+(dgB A i:Int)*(dgB B k:Int))) (qO (tQ (dgB A) (dgB B) i (k+1))):=ec Ω fun j hj=>by
      rw[vj];simp only;by_cases e:j=i+k
      ·subst e
       simp only[ZV];rw[YN,Yg]
      ·rw[Χ e,Χ e]
     generalize tQ (dgB A) (dgB B) i k=s at *
     have hik:(i:Int)+(k:Int)=((i+k:Nat):Int):=Ω;have hk31:((i+k:Nat):Int)<64:=Ω;have hk30:(0:Int)≤((i+k:Nat):Int):=Ω;have wk:IntKind.i64.wrap ((i+k:Nat):Int)=((i+k:Nat):Int):=W3 _ Ω;generalize i+k=q at *
     generalize s q=t at *
     have hp:(dgB A i:Int)*(dgB B k:Int)=((dgB A i*dgB B k:Nat):Int):=(Yg _ _).symm;rw[hp]at g4;generalize dgB A i*dgB B k=p at *
     generalize dgB A i=u,dgB B k=v at *
     have wp:IntKind.i64.wrap (p:Int)=(p:Int):=W3 _ Ω;have wt:IntKind.i64.wrap ((t:Int)+p)=(t:Int)+p:=W3 _ Ω;have wu:IntKind.i64.wrap (u:Int)=(u:Int):=W3 _ Ω;have wv:IntKind.i64.wrap (v:Int)=(v:Int):=W3 _ Ω;clear HF HG HV HLIM HT HTL HDG HZ hm hd he;go_wp2_with fail;refine wf [(0,true),(1,true),(2,true),(3,true),(4,true),(5,true),(6,true),(7,false),(8,true),(9,true),(10,false),(11,true),(12,true),(13,true),(14,false),(15,true),(16,true),(17,true),(18,true)] [] [19] I ?_;refine fA ?_;refine fB fun J I=>?_;go_wp2_with (refine aQq fun _ J I=>?_);go_roundw;case rel=>exact⟨k+1,Ω,by go_num,I⟩
     case measure=>exact ϝ
    ·obtain rfl:k=32:=Ω
     rw[← Aa]at I;go_wp2_with (refine aQq fun _ J I=>?_);go_roundw;case rel=>exact⟨i+1,Ω,by go_num,I⟩
     case measure=>exact ϝ
  ·obtain rfl:i=32:=Ω
   rw[← HT.out]at I;clear HF HG HLIM HT HZ hi hlt;have HB0:=Hd (show(aa 64 fun _=>0)=aa 64 (byP (A*B) 0)from am fun i _=>by unfold byP;rw[Χ Ω]);have HB1:=Hd (show aa 64 (byP (A*B) 64)=aa 64 (ah (A*B))from am fun i hi=>by unfold byP;rw[Ρ hi]);have HC0:=Hd (show ctK Tzq 0=0 from by unfold ctK;show 0/_=0;simp);have HCL:=Hd (BI HTL.out);have HCS:=Hd (xt Tzq);generalize ctK Tzq=ct at *
   go_wp2_with (first|refine gBp 8 fun b8 J I=>?_|refine aQq fun _ J I=>?_);go_loopw [9,10] (fun cc kk wr=>∃k:Nat,k≤64∧kk= .int .i64 k∧cc= .int .i64 (ct k:Nat)∧Loc w wr [(b8,aa 64 (byP (A*B) k),74),(b5,qO Tzq,266),(b4,aa 32 fun _=>0,24),(b3,aa 32 g,24),(b2,aa 32 f,24)]) (fun _ kk _=>64-(intOf kk).toNat);case atStart=>exact⟨0,Ω,rfl,by rw[HC0.out];rfl,by rw[← HB0.out];exact I⟩
   case round =>
    clear I;obtain⟨k,hk,rfl,rfl,I⟩:=hrel;by_cases hkl:k<64
    ·have hk0:(0:Int)≤(k:Int):=Ω
     have hk1:(k:Int)<64:=Ω;have ht:=HTL.out k;have hc:=HCL.out k;have hcs:=HCS.out k;have hdg:=HDG.out k hkl;haveI g1:Cell (qO Tzq) k (.int .i64 (Tzq k:Nat)):=bX (fun j=>(Tzq j:Int)) hkl;have p1:=BK (A*B) hkl;have ha:=and_255 ((ct k:Int)+(Tzq k:Int));have hv:((dgB (A*B) k:Nat):Int)=bits .and .i64 ((ct k:Int)+(Tzq k:Int)) 255:=by rw[ha,hdg];omega
     rw[hv]at p1;haveI p1:=p1;have J:IntKind.i64.wrap ((ct k:Int)+(Tzq k:Int))=(ct k:Int)+(Tzq k:Int):=W3 _ Ω;have w5:IntKind.u8.wrap (bits .and .i64 ((ct k:Int)+(Tzq k:Int)) 255)=bits .and .i64 ((ct k:Int)+(Tzq k:Int)) 255:=by rw[ha,X7];omega
     have hcc:((ct k:Int)+(Tzq k:Int))/256=(ct (k+1):Int):=Ω;have HCR:=Hd hcc;clear ha hv hdg hcs hcc HV HTL HDG;generalize hc':ct (k+1)=c' at *
     have HC':=Hd hc';have hcc:=HCR.out;clear hc' HC0 HCL HCS;generalize byP (A*B) k=st,ct k=c,Tzq k=t at *
     go_wp2_with (refine aQq fun _ J I=>?_);go_roundw;case rel=>exact⟨k+1,Ω,by go_num,by rw[HC'.out],I⟩
     case measure=>exact ϝ
    ·obtain rfl:k=64:=Ω
     rw[HB1.out]at I;have HR:=Hd (fun J (h:Loc w J [(b8,aa 64 (ah (A*B)),74),(b5,qO Tzq,266),(b4,aa 32 fun _=>0,24),(b3,aa 32 g,24),(b2,aa 32 f,24)]) =>
      haveI:=h.glob hG
      refRed_any (ah (A*B)) 64 64 b8 J Ω Ω fun i hi=>was_loc h (.head _) (bG _ hi))
     rw[HV.out]at HR;go_wp2_with (first|((go_at_call 186;refine(HR.out _ I).mono ?_;rintro e J⟨rfl,V⟩;replace I:=I.keep V))|refine aQq fun _ J I=>?_);exact Λ
instance RD:Ent 135:=eo func135
instance RE(f g:Φ):FnG 135 #[.agg (aa 32 f),.agg (aa 32 g)] (.agg (aa 32 (ah (leN f*leN g%Qo)))):=⟨fun w _=>FO f g w⟩
end R3
theorem sE{P:Program}{ops:Array Oper}{Q:Exit→Act→ϑ→Prop}{S:ϑ→Prop}{id:Nat}{a:Act}{w:ϑ}(n:Nat)(hm:P.follows .mixedOrders=true)(hn:ops.size=n)(hS:S w.drew)(h:S w.drew→wpAnyH P .any ops (NoPanic Q) S n (Array.replicate n false) a w.drew):(Code.region id ops true).wp P Q a w:=by
 subst hn;exact wp_region_noPanic (wp_region_held_drew hm hS h)
theorem mX{P:Program}{ops:Array Oper}{Q:Exit→Act→ϑ→Prop}{S:ϑ→Prop}{id:Nat}{a:Act}{w:ϑ}(n:Nat)(hS:S w.drew)(h:S w.drew→wpAnyH P .any ops (NoPanic Q) S n (Array.replicate n false) a w.drew)(hm:P.follows .mixedOrders=true:=by kernel_rfl)(hn:ops.size=n:=by kernel_rfl):(Code.region id ops true).wp P Q a w:=sE n hm hn hS h
theorem Ϭ{P:Program}{ops:Array Oper}{Q:Exit→Act→ϑ→Prop}{id:Nat}{a:Act}{D w:ϑ}{M:Mem}(n:Nat)(I:Loc D w M)(h:Loc D w.drew M→Loc D w.drew M→wpAnyH P .any ops (NoPanic Q) (fun Z=>Loc D Z M) n (Array.replicate n false) a w.drew)(hm:P.follows .mixedOrders=true:=by kernel_rfl)(hn:ops.size=n:=by kernel_rfl):(Code.region id ops true).wp P Q a w:=mX (S:=fun Z=>Loc D Z M) n I.drew (fun x=>h x x) hm hn
section
variable {ops:Array Oper} {o:Oper} {a:Act} {D w:ϑ} {M M' M1:Mem} {Q:Exit→Act→ϑ→Prop} {K:Act→ϑ→Prop}
theorem yL(hg:o.guard=none){t:ϋ}{x:Operand}(ho:o.op= .load t x){b k:Nat}(hx:a.eval x= .pointer (some ⟨b,k,none⟩)){r s:Ψ}{u:ϋ}{n:Nat}[ht:RowTy t n][hm:At M b r u][hp:Part r u k t s][hr:Row1 s n] :
 YieldsIf prog ops (fun w=>Loc D w M) o (.agg s) a:=by
 obtain⟨d,h1,h2⟩:=ht.und;have:=yieldsIf_load_mid (P:=prog) (ops:=ops) (S:=fun w=>Loc D w M) (op:=o) (a:=a) (by simp[Region.wanted,hg]) t x ho b k hx s.toList d (fun w h=>eJ (h.get hm.mem) fun j v hv=>hp.part j v hv) h1 h2 (by rw[ht.size,Yq,hr.size]);simpa only[YO] using this
theorem yI(hg:o.guard=none){t:ϋ}{x:Operand}(ho:o.op= .load t x){b k:Nat}(hx:a.eval x= .pointer (some ⟨b,k,none⟩)){r:Ψ}{u:ϋ}{v:ό}[ht:ScTy t][hm:At M b r u][hc:Cell r k v] :
 YieldsIf prog ops (fun w=>Loc D w M) o v a:= .inl ⟨by simp[Region.wanted,hg],fun w hS=>by
 unfold execOp;have:=cO (t:=t) (w:=w) (b:=b) (k:=k) (v:=v) (by rw[Ya w b k _ _ _ (hS.get hm.mem)];exact hc.cell);simp only[ho,hx,Instr.loadAt,Instr.sureAddr,Sem.run_bind,Sem.run_pure,Result.andThen_ok,this]⟩
theorem yW(hg:o.guard=none){t:ϋ}{x:Operand}(ho:o.op= .load t x){b k:Nat}(hx:a.eval x= .pointer (some ⟨b,k,none⟩)){v:ό}[ht:ScTy t][hc:Was D b k v] :
 YieldsIf prog ops (fun w=>Loc D w M) o v a:= .inl ⟨by simp[Region.wanted,hg],fun w hS=>by
 unfold execOp;have:=cO (t:=t) (w:=w) (b:=b) (k:=k) (v:=v) (hS.was hc);simp only[ho,hx,Instr.loadAt,Instr.sureAddr,Sem.run_bind,Sem.run_pure,Result.andThen_ok,this]⟩
theorem eA(I:Loc D w M){t:ϋ}(ho:o.op= .alloc t){r:Ψ}[hz:RowZ t r](h:∀b Z,Loc D Z ((b,r,t)::M)→K (a.put o.dst (.pointer (ϐ b))) Z):o.wp prog a w K Q:=by
 unfold Oper.wp execOp;simp only[ho,Sem.run_bind,jO hz.zero,Result.andThen_ok];exact h _ _ (I.alloc r t)
theorem xu{f:FuncId}{xs:Array Operand}{ts:Array TypeId}(ho:o.op= .call { callee:= .value (.func f),args:=xs,argTypes:=ts })[he:Ent f]{args:Ψ}(hx:xs.map a.eval=args)(hc:ϓ f args w fun e Z=>∃v,e= .returned v∧K (a.put o.dst v) Z):o.wp prog a w K Q:=by
 unfold Oper.wp;rw[lx ho rfl w,hx,Zz];refine hc.mono fun e w'' hh=>?_;obtain⟨v,rfl,h⟩:=hh;exact h
theorem eC(I:Loc D w M){f:FuncId}{xs:Array Operand}{ts:Array TypeId}(ho:o.op= .call { callee:= .value (.func f),args:=xs,argTypes:=ts })[he:Ent f]{args:Ψ}(hx:xs.map a.eval=args){v:ό}[hf:FnC f args v](h:∀Z,Loc D Z M→K (a.put o.dst v) Z):o.wp prog a w K Q :=
 xu ho hx ((hf.calls w).mono fun e Z hh=>⟨v,hh.1,h Z (I.keep hh.2)⟩)
theorem eG(I:Loc D w M){f:FuncId}{xs:Array Operand}{ts:Array TypeId}(ho:o.op= .call { callee:= .value (.func f),args:=xs,argTypes:=ts })[he:Ent f]{args:Ψ}(hx:xs.map a.eval=args)[hG:Glob D]{v:ό}[hf:FnG f args v](h:∀Z,Loc D Z M→K (a.put o.dst v) Z):o.wp prog a w K Q :=
 xu ho hx ((hf.calls w (I.glob hG)).mono fun e Z hh=>⟨v,hh.1,h Z (I.keep hh.2)⟩)
theorem M3(I:Loc D w M){t e:ϋ}{x:Operand}(ho:o.op= .buildSlice t 1 #[(0,x)])[he:Elt t e]{d:IntKind}{n:Int}(hx:a.eval x= .int d n)(h:∀b Z,Loc D Z ((b, #[.int d n],e)::M)→K (a.put o.dst (.slice (ϐ b) 1 1)) Z):o.wp prog a w K Q:=by
 obtain⟨i,z,hi,hz,hs1,hb,hzs⟩:=he.info;refine Yl t e 1 #[(0,x)] ho #[.int d n] i z he.und hi hz (by rw[hs1];decide) (by rw[hs1];decide) ?_ (h _ _ (I.alloc #[.int d n] e));rw[hs1];have e:(Array.map (fun(y:Nat×Operand)=>(y.1,a.eval y.2)) #[(0,x)]).toList=[(0,Value.int d n)]:=by simp[hx]
 rw[e];have e1:Array.range 1= #[0]:=rfl;simp[Instr.fill,Value.cells,e1]
theorem M4(I:Loc D w M){t e:ϋ}{x:Operand}(ho:o.op= .buildSlice t 1 #[(0,x)])[he:Elt t e]{p:ϊ}{n c:Nat}(hx:a.eval x= .slice p n c)(h:∀b Z,Loc D Z ((b, #[.slice p n c],e)::M)→K (a.put o.dst (.slice (ϐ b) 1 1)) Z):o.wp prog a w K Q:=by
 obtain⟨i,z,hi,hz,hs1,hb,hzs⟩:=he.info;refine Yl t e 1 #[(0,x)] ho #[.slice p n c] i z he.und hi hz (by rw[hs1];decide) (by rw[hs1];decide) ?_ (h _ _ (I.alloc #[.slice p n c] e));rw[hs1];have e:(Array.map (fun(y:Nat×Operand)=>(y.1,a.eval y.2)) #[(0,x)]).toList=[(0,Value.slice p n c)]:=by simp[hx]
 rw[e];have e1:Array.range 1= #[0]:=rfl;simp[Instr.fill,Value.cells,e1]
theorem M5(I:Loc D w M){t e:ϋ}{x y:Operand}(ho:o.op= .buildSlice t 2 #[(0,x),(1,y)])[he:Elt t e]{p q:ϊ}{n c n' c':Nat}(hx:a.eval x= .slice p n c)(hy:a.eval y= .slice q n' c')(h:∀b Z,Loc D Z ((b, #[.slice p n c,.slice q n' c'],e)::M)→K (a.put o.dst (.slice (ϐ b) 2 2)) Z):o.wp prog a w K Q:=by
 obtain⟨i,z,hi,hz,hs1,hb,hzs⟩:=he.info;refine Yl t e 2 #[(0,x),(1,y)] ho #[.slice p n c,.slice q n' c'] i z he.und hi hz (by rw[hs1];decide) (by rw[hs1];decide) ?_ (h _ _ (I.alloc #[.slice p n c,.slice q n' c'] e));rw[hs1];have e:(Array.map (fun(y:Nat×Operand)=>(y.1,a.eval y.2)) #[(0,x),(1,y)]).toList=[(0,Value.slice p n c),(1,Value.slice q n' c')]:=by simp[hx,hy]
 rw[e];have e1:Array.range 2= #[0,1]:=rfl;simp[Instr.fill,Value.cells,e1]
theorem M6(I:Loc D w M){t e:ϋ}{x y z':Operand}(ho:o.op= .buildSlice t 3 #[(0,x),(1,y),(2,z')])[he:Elt t e]{p q r:ϊ}{n c n' c' n2 c2:Nat}(hx:a.eval x= .slice p n c)(hy:a.eval y= .slice q n' c')(hz':a.eval z'= .slice r n2 c2)(h:∀b Z,Loc D Z ((b, #[.slice p n c,.slice q n' c',.slice r n2 c2],e)::M)→K (a.put o.dst (.slice (ϐ b) 3 3)) Z):o.wp prog a w K Q:=by
 obtain⟨i,z,hi,hz,hs1,hb,hzs⟩:=he.info;refine Yl t e 3 #[(0,x),(1,y),(2,z')] ho #[.slice p n c,.slice q n' c',.slice r n2 c2] i z he.und hi hz (by rw[hs1];decide) (by rw[hs1];decide) ?_ (h _ _ (I.alloc #[.slice p n c,.slice q n' c',.slice r n2 c2] e));rw[hs1];have e:(Array.map (fun(y:Nat×Operand)=>(y.1,a.eval y.2)) #[(0,x),(1,y),(2,z')]).toList=[(0,Value.slice p n c),(1,Value.slice q n' c'),(2,Value.slice r n2 c2)]:=by simp[hx,hy,hz']
 rw[e];have e1:Array.range 3= #[0,1,2]:=rfl;simp[Instr.fill,Value.cells,e1]
theorem eS(I:Loc D w M){t:ϋ}{x y:Operand}(ho:o.op= .store t x y){b:Nat}(hx:a.eval x= .pointer (ϐ b)){r:Ψ}(hy:a.eval y= .agg r){n:Nat}[hr:Row1 r n][ht:RowTy t n]{old:Ψ}[hm:At M b old t][hs:Row1 old n][hu:Ups M b r M'](h:∀Z,Loc D Z M'→K (a.put o.dst undef) Z):o.wp prog a w K Q:=by
 have hrun:(storeVar t ⟨b,0,none⟩ (.agg r)).run prog w= .ok () (w.setRow b r) :=
  run_storeVar_row w b t t old r (I.get hm.mem) (by rw[ht.size,hr.size]) (by rw[hs.size,hr.size]) hr.one
 unfold Oper.wp execOp;simp only[ho,hx,hy,Instr.storeAt,Instr.sureAddr,Sem.run_bind,Sem.run_pure,Result.andThen_ok,hrun];exact h _ (I.setRow hu.upd)
theorem eV(I:Loc D w M){x:Operand}(ho:o.op= .assign x)(h:∀Z,Loc D Z M→K (a.put o.dst (a.eval x)) Z):o.wp prog a w K Q:=by
 unfold Oper.wp execOp;simp only[ho,Sem.run_pure];exact h w I
theorem BM(I:Loc D w M){d s:Operand}{t e:ϋ}(ho:o.op= .call { callee:= .builtin .copy,args:= #[d,s],argTypes:= #[t,t] })[he:Elt t e]{g off n c:Nat}(hd:a.eval d= .slice (some ⟨g,off,none⟩) n c){E:Ψ}{u:ϋ}[hm:At M g E u]{p:ϊ}{k cc:Nat}(hs:a.eval s= .slice p k cc){ys:List Value}[hy:See D M (.slice p k cc) ys](hn:ys.length≤n)(h0:0<ys.length){cur':Ψ}[hp:Spl E off ys cur'][hu:Ups M g cur' M'](h:∀Z,Loc D Z M'→K (a.put o.dst (.int .i64 ys.length)) Z):o.wp prog a w K Q:=by
 obtain⟨h1,ad,cc',e1,hnn,hpp⟩:=hy.see w I;obtain⟨b,o2,rfl,hb,hcell⟩:=hpp h0;obtain⟨i,z,hi,hz,hs1,hbb,hzs⟩:=he.info;cases e1
 have hrun:=run_copy_row (P:=prog) w t t o.type e g off n c ⟨b,o2,none⟩ ys.length cc E u ys he.und (by rw[hi];simp[hs1]) (I.get hm.mem) (Nat.min_eq_left hn).symm (fun j v hj=>by
  have hjl:j<ys.length:=by
   rcases XI j ys.length with h|h
   ·exact h
   ·rw[List.getElem?_eq_none h]at hj;cases hj
  rw[zaa,hcell j hjl,← hj,List.getElem?_eq_getElem hjl]) hp.fit h1
 rw[show(E.toList.take off++ys++E.toList.drop (off+ys.length)).toArray=cur' from by rw[Xc];exact hp.spl]at hrun;unfold Oper.wp;simp only[execOp,ho,resolve,invoke,builtin,hd,hs,hrun,Result.andThen_ok,Sem.run_bind,Sem.run_pure,List.map_toArray,List.map_cons,List.map_nil];exact h _ (I.setRow hu.upd)
theorem FP(I:Loc D w M){s x:Operand}(ho:o.op= .call { callee:= .builtin .append,args:= #[s,x],argTypes:= #[29,29] })(hs:a.eval s= .slice none 0 0){p:ϊ}{k cc:Nat}(hx:a.eval x= .slice p k cc){ys:Δ}[hy:See D M (.slice p k cc) (ak ys)](h0:0<k)(hsz:k≤100000000000)(h:∀g' cap' cur' Z,OwnR cur' k cap' (ak ys)→Loc D Z ((g',cur',5)::M)→K (a.put o.dst (.slice (ϐ g') k cap')) Z):o.wp prog a w K Q:=by
 obtain rfl:=hy.len I;obtain⟨g',cap',cur',Z,hrun,h1,h2,h3,h4⟩:=j5 (t:=29) (ty:=o.type) (hy.see w I) h0 hsz;unfold Oper.wp execOp;simp only[ho,resolve,invoke,builtin,Sem.run_bind,Sem.run_pure,Result.andThen_ok,List.map_toArray,List.map_cons,List.map_nil,hs,hx,hrun];exact h g' cap' cur' Z h1 (I.fresh h2 h4 h3)
theorem qP(I:Loc D w M){s x:Operand}(ho:o.op= .call { callee:= .builtin .append,args:= #[s,x],argTypes:= #[29,29] }){g n W:Nat}(hs:a.eval s= .slice (ϐ g) n W){E:Ψ}[hm:At M g E 5]{xs:Δ}[hr:OwnR E n W (ak xs)]{F:Nat→Ψ→Mem}[hf:Reps M g F]{p:ϊ}{k cc:Nat}(hx:a.eval x= .slice p k cc){ys:Δ}[hy:See D M (.slice p k cc) (ak ys)](hsz:n+k≤100000000000)(h:∀g' cap' cur' Z,OwnR cur' (n+k) cap' (ak (xs++ys))→Loc D Z (F g' cur')→K (a.put o.dst (.slice (ϐ g') (n+k:Nat) cap')) Z):o.wp prog a w K Q:=by
 obtain rfl:=hy.len I;obtain⟨g',cap',cur',Z,hrun,h1,h2,h3,h4⟩:=jZ (t:=29) (ty:=o.type) hr (I.get hm.mem) (hy.see w I) hsz;rw[← eu]at h1;unfold Oper.wp execOp;simp only[ho,resolve,invoke,builtin,Sem.run_bind,Sem.run_pure,Result.andThen_ok,List.map_toArray,List.map_cons,List.map_nil,hs,hx,hrun];exact h g' cap' cur' Z h1 (I.reps hm.mem hf h2 h3 h4)
theorem eC0(I:Loc D w M){f:FuncId}{ts:Array TypeId}(ho:o.op= .call { callee:= .value (.func f),args:= #[],argTypes:=ts })[he:Ent f]{v:ό}[hf:FnC f #[] v](h:∀Z,Loc D Z M→K (a.put o.dst v) Z):o.wp prog a w K Q:=eC (args:= #[]) I ho Ϡ h
theorem eC1(I:Loc D w M){f:FuncId}{x:Operand}{ts:Array TypeId}(ho:o.op= .call { callee:= .value (.func f),args:= #[x],argTypes:=ts }){r:Ψ}(hx:a.eval x= .agg r)[he:Ent f]{v:ό}[hf:FnC f #[.agg r] v](h:∀Z,Loc D Z M→K (a.put o.dst v) Z):o.wp prog a w K Q:=eC (args:= #[.agg r]) I ho (by simp[hx]) h
theorem eC2(I:Loc D w M){f:FuncId}{x y:Operand}{ts:Array TypeId}(ho:o.op= .call { callee:= .value (.func f),args:= #[x,y],argTypes:=ts }){r s:Ψ}(hx:a.eval x= .agg r)(hy:a.eval y= .agg s)[he:Ent f]{v:ό}[hf:FnC f #[.agg r,.agg s] v](h:∀Z,Loc D Z M→K (a.put o.dst v) Z):o.wp prog a w K Q:=eC (args:= #[.agg r,.agg s]) I ho (by simp[hx,hy]) h
theorem eG0(I:Loc D w M){f:FuncId}{ts:Array TypeId}(ho:o.op= .call { callee:= .value (.func f),args:= #[],argTypes:=ts })[he:Ent f][hG:Glob D]{v:ό}[hf:FnG f #[] v](h:∀Z,Loc D Z M→K (a.put o.dst v) Z):o.wp prog a w K Q:=eG (args:= #[]) I ho Ϡ h
theorem eG1(I:Loc D w M){f:FuncId}{x:Operand}{ts:Array TypeId}(ho:o.op= .call { callee:= .value (.func f),args:= #[x],argTypes:=ts }){r:Ψ}(hx:a.eval x= .agg r)[he:Ent f][hG:Glob D]{v:ό}[hf:FnG f #[.agg r] v](h:∀Z,Loc D Z M→K (a.put o.dst v) Z):o.wp prog a w K Q:=eG (args:= #[.agg r]) I ho (by simp[hx]) h
theorem eG2(I:Loc D w M){f:FuncId}{x y:Operand}{ts:Array TypeId}(ho:o.op= .call { callee:= .value (.func f),args:= #[x,y],argTypes:=ts }){r s:Ψ}(hx:a.eval x= .agg r)(hy:a.eval y= .agg s)[he:Ent f][hG:Glob D]{v:ό}[hf:FnG f #[.agg r,.agg s] v](h:∀Z,Loc D Z M→K (a.put o.dst v) Z):o.wp prog a w K Q:=eG (args:= #[.agg r,.agg s]) I ho (by simp[hx,hy]) h
end
theorem eQ{R G:Prop}(h1:R→G)(h2:R):G:=h1 h2
class Rem(M:Mem)(b:Nat)(M':outParam Mem):Prop where
 sub:M'.Sublist M
instance RF(M:Mem)(b:Nat)(r:Ψ)(t:ϋ):Rem ((b,r,t)::M) b M:=⟨YT _ _⟩
instance RG(e:Nat×Ψ×ϋ)(M M':Mem)(b:Nat)[h:Rem M b M']:Rem (e::M) b (e::M'):=⟨h.sub.cons_cons e⟩
theorem Loc.rem(b:Nat){D w:ϑ}{M M':Mem}(h:Loc D w M)[hr:Rem M b M']:Loc D w M' :=
 ⟨h.bel,fun b r t hm=>h.ok b r t (hr.sub.subset hm),h.nd.sublist (hr.sub.map _)⟩
instance RH:ScTy 29:=⟨fun w=>by kernel_rfl,Θ⟩
theorem FQ:(prog.info? 29).map (fun i=>(i.zero,i.size,i.bytes))=some (some (.slice none 0 0),1,24):=Θ
instance WK:Elt 30 29:=uP underlying30 FQ Ω rfl
theorem ld{α:Type}:∀(l:List (List α)) (k:Nat) (h:k<l.length),(l.take k).flatten.length+l[k].length≤l.flatten.length
 | [],k,h=>absurd h Ϡ
 | x::l,0,_=>by simp
 | x::l,k+1,h=>by
  have:=ld l k (by simpa using h);simp only[List.take_succ_cons,XP,Xa,List.getElem_cons_succ];omega
theorem C0{l:List Δ}{k:Nat}(h:k<l.length):(l.take (k+1)).flatten=(l.take k).flatten++l[k]:=by
 rw[Xo h,ZI,XP,Yz,Yf]
theorem C1(v:ό)(l:List Δ)(w:ϑ)(hv:BRows w v l)(hpos:∃x r,l=x::r∧0<x.length)(hl:l.length≤1000000)(hm:l.flatten.length≤1000000000) :
 ϓ 185 #[v] w fun e Z=>Fresh w l.flatten e Z:=by
 have I:=Loc.nil w;obtain⟨a,c,rfl,_,hv⟩:=hv;have HV:=Hd hv;have HPOS:=Hd hpos;clear hv;go_enter func185,ntmps185;go_wp2_with (refine aQp fun _ J I=>?_);go_loopw [3,4] (fun v kk wr=>∃k:Nat,k≤l.length∧kk= .int .i64 k∧((k=0∧v= .slice none 0 0∧Loc w wr [])∨(0<k∧∃(g W:Nat) (E:Ψ),v= .slice (ϐ g) (l.take k).flatten.length W∧OwnR E (l.take k).flatten.length W (ak (l.take k).flatten)∧Loc w wr [(g,E,5)]))) (fun _ kk _=>l.length-(intOf kk).toNat);case atStart=>exact⟨0,Ω,rfl,.inl ⟨rfl,rfl,I⟩⟩
 case round =>
  clear I;obtain⟨k,hk,rfl,hcase⟩:=hrel;by_cases hlt:k<l.length
  ·obtain⟨b,off,ha,hbl,hcells⟩:=HV.out Ω
   obtain⟨vi,hvi,hbr⟩:=hcells k hlt;have hk0:(0:Int)≤(k:Int):=Ω;have hk1:(k:Int)<(l.length:Int):=Ω;rw[ha];haveI g1:Was w b (off+k) vi:=⟨hvi,hbl⟩;haveI g2:Arg w vi (ak l[k]):=⟨hbr.vrow⟩;have HT:=Hd (C0 hlt);have hln:=ld l k hlt;have hz:k=0→0<l[k].length:=fun e=>by
    subst e;obtain⟨x,r,rfl,h⟩:=HPOS.out;exact h
   obtain⟨a2,c2,e2,hn2,hp2⟩:=hbr;subst e2;clear hcells hvi hn2 hp2;generalize l[k]=m at *
   rcases hcase with⟨rfl,rfl,I⟩|⟨hkp,g,W,E,rfl,hr,I⟩
   ·have hmp:=hz rfl
    have HE:=Hd (show(l.take (0+1)).flatten=m from HT.out);go_wp2_with (first|(refine gN 16 ?_;(refine lP I rfl rfl rfl rfl hmp ϖ fun g16 Y16 Z16 J W16 Y=>?_);clear I;have I:=Y;clear Y;refine p4 ?_)|refine aQp fun _ J I=>?_);go_roundw;case rel=>exact⟨0+1,Ω,by go_num,.inr ⟨Ω,g16,Y16,Z16,by rw[HE.out],by rw[HE.out];exact W16,I⟩⟩
    case measure=>exact ϝ
   ·clear hz
    generalize hpre:(l.take k).flatten=pre at *
    clear hpre;go_wp2_with (first|(refine gN 16 ?_;refine aA fun g16 Y16 Z16 J W16 I=>?_)|refine aQp fun _ J I=>?_);go_roundw;case rel=>exact⟨k+1,Ω,by go_num,.inr ⟨Ω,g16,Y16,Z16,by rw[HT.out,Xa],by rw[HT.out,Xa];exact W16,I⟩⟩
    case measure=>exact ϝ
  ·obtain rfl:k=l.length:=Ω
   rcases hcase with⟨h,_,_⟩|⟨hkp,g,W,E,rfl,hr,I⟩
   ·obtain⟨x,r,rfl,_⟩:=HPOS.out;cases h
   ·rw[List.take_length]at hr ⊢
    clear HPOS HV;go_wp2_with (refine aQp fun _ J I=>?_);go_ret;exact I.back rfl
instance WL(f:Φ):Row1 (aa 64 f) 64:=⟨aS _ _,by simp[aa,row,Value.oneCell']⟩
theorem qQ(v:ό)(l:List Δ)(w:ϑ)[hG:Glob w](hv:BRows w v l)(hpos:∃x r,l=x::r∧0<x.length)(hl:l.length≤1000000)(hm:l.flatten.length≤1000000000) :
 Rt 124 #[v] w (.agg (aa 32 (ah (mQ l.flatten)))):=by
 have I:=Loc.nil w;have HV:=Hd hv;have HJ:=Hd (fun J (hb:Υ w J)=>C1 v l J (hv.below hb) hpos hl hm);have h0:0<l.flatten.length:=by
  obtain⟨x,r,rfl,h⟩:=hpos;rw[XP,Xa];omega
 clear hpos hl;generalize l.flatten=m at *
 go_enter func124,ntmps124;go_wp2_with (first|refine gBp 2 fun b2 J I=>?_|(go_at_call 185;go_loud (refine(HJ.out _ I.bel).mono ?_);rintro e J⟨g5,Y5,Z5,rfl,W5,hg5,hc5,hb5⟩;have Y:=I.fresh hb5 hg5 hc5;clear hb5 hg5 hc5;clear I;have I:=Y;clear Y;refine p4 ?_)|(go_at_call 126;go_loud (refine((haveI:=I.glob hG;Shb.refShb_any _ m _ (See.bytes I) h0 hm)).mono ?_);rintro e J⟨rfl,V⟩;replace I:=I.keep V;refine p4 ?_)|(go_at_call 186;go_loud (refine((haveI:=I.glob hG;R3.refRed_any (Shb.sha m) 64 64 _ _ Ω Ω fun i hi=>R3.was_loc I (List.Mem.head _) (bG _ hi))).mono ?_);rintro e J⟨rfl,V⟩;replace I:=I.keep V;refine p4 ?_)|refine aQp fun _ J I=>?_);exact Λ
instance RI:Ent 124:=eo func124
theorem uQ(x:BitVec 32)(n m:Nat)(h:m=32-n):bits .or .u32 (U x*((2^n:Nat):Int)%4294967296) (U x/((2^m:Nat):Int))=U (aX x n):=by
 subst h;rw[ow,tn,y9];rfl
theorem el(x:BitVec 32)(n m:Nat)(h:m=32-n):bits .or .u32 (U x/((2^m:Nat):Int)) (U x*((2^n:Nat):Int)%4294967296)=U (aX x n):=by
 subst h;rw[ow,tn,y9,BitVec.or_comm];rfl
theorem iv(x:BitVec 32)(w:ϑ)(s:Int)(n m:Nat)(hm:bits .and .u64 (IntKind.u64.wrap s) 31=n:=by decide)(hq:m=32-n:=by rfl)(h:bits .and .u64 (IntKind.u64.wrap s) 31=n→RowKit.Hid (bits .or .u32 (U x*((2^n:Nat):Int)%4294967296) (U x/((2^m:Nat):Int))=U (aX x n))→ϓ 314 #[.int .u32 (U x),.int .i64 s] w (fun e Z=>e= .returned (.int .u32 (U (aX x n)))∧w=Z):=by
  intro hm HV;obtain⟨h0,h1⟩:=kX x;go_enter func314,ntmps314;go_wp2;go_ret;exact⟨XH (fun z=>Ending.returned (.int .u32 z)) HV.out,rfl⟩):ϓ 314 #[.int .u32 (U x),.int .i64 s] w (fun e Z=>e= .returned (.int .u32 (U (aX x n)))∧w=Z):=h hm (Hd (uQ x n m hq))
theorem sF(x:BitVec 32)(w:ϑ)(s:Int)(n m:Nat)(hq:m=32-n:=by rfl)(h:RowKit.Hid (bits .or .u32 (U x/((2^m:Nat):Int)) (U x*((2^n:Nat):Int)%4294967296)=U (aX x n))→ϓ 72 #[.int .u32 (U x),.int .u64 s] w (fun e Z=>e= .returned (.int .u32 (U (aX x n)))∧w=Z):=by
  intro HV;obtain⟨h0,h1⟩:=kX x;go_enter func72,ntmps72;go_wp2;go_ret;exact⟨XH (fun z=>Ending.returned (.int .u32 z)) HV.out,rfl⟩):ϓ 72 #[.int .u32 (U x),.int .u64 s] w (fun e Z=>e= .returned (.int .u32 (U (aX x n)))∧w=Z):=h (Hd (el x n m hq))
theorem O7(x:BitVec 32)(w:ϑ):ϓ 314 #[.int .u32 (U x),.int .i64 (-7)] w fun e Z=>e= .returned (.int .u32 (U (aX x 25)))∧w=Z:=iv x w (-7) 25 7
theorem O8(x:BitVec 32)(w:ϑ):ϓ 72 #[.int .u32 (U x),.int .u64 7] w fun e Z=>e= .returned (.int .u32 (U (aX x 25)))∧w=Z:=sF x w 7 25 7
theorem EV(x:BitVec 32)(w:ϑ):ϓ 314 #[.int .u32 (U x),.int .i64 (-18)] w fun e Z=>e= .returned (.int .u32 (U (aX x 14)))∧w=Z:=iv x w (-18) 14 18
theorem M7(x:BitVec 32)(w:ϑ):ϓ 72 #[.int .u32 (U x),.int .u64 18] w fun e Z=>e= .returned (.int .u32 (U (aX x 14)))∧w=Z:=sF x w 18 14 18
theorem M8(x:BitVec 32)(w:ϑ):ϓ 314 #[.int .u32 (U x),.int .i64 (-17)] w fun e Z=>e= .returned (.int .u32 (U (aX x 15)))∧w=Z:=iv x w (-17) 15 17
theorem M9(x:BitVec 32)(w:ϑ):ϓ 72 #[.int .u32 (U x),.int .u64 17] w fun e Z=>e= .returned (.int .u32 (U (aX x 15)))∧w=Z:=sF x w 17 15 17
theorem EU(x:BitVec 32)(w:ϑ):ϓ 314 #[.int .u32 (U x),.int .i64 (-19)] w fun e Z=>e= .returned (.int .u32 (U (aX x 13)))∧w=Z:=iv x w (-19) 13 19
theorem Na(x:BitVec 32)(w:ϑ):ϓ 72 #[.int .u32 (U x),.int .u64 19] w fun e Z=>e= .returned (.int .u32 (U (aX x 13)))∧w=Z:=sF x w 19 13 19
theorem O9(x:BitVec 32)(w:ϑ):ϓ 314 #[.int .u32 (U x),.int .i64 (-6)] w fun e Z=>e= .returned (.int .u32 (U (aX x 26)))∧w=Z:=iv x w (-6) 26 6
theorem Pa(x:BitVec 32)(w:ϑ):ϓ 72 #[.int .u32 (U x),.int .u64 6] w fun e Z=>e= .returned (.int .u32 (U (aX x 26)))∧w=Z:=sF x w 6 26 6
theorem Nb(x:BitVec 32)(w:ϑ):ϓ 314 #[.int .u32 (U x),.int .i64 (-11)] w fun e Z=>e= .returned (.int .u32 (U (aX x 21)))∧w=Z:=iv x w (-11) 21 11
theorem Nc(x:BitVec 32)(w:ϑ):ϓ 72 #[.int .u32 (U x),.int .u64 11] w fun e Z=>e= .returned (.int .u32 (U (aX x 21)))∧w=Z:=sF x w 11 21 11
theorem Nd(x:BitVec 32)(w:ϑ):ϓ 314 #[.int .u32 (U x),.int .i64 (-25)] w fun e Z=>e= .returned (.int .u32 (U (aX x 7)))∧w=Z:=iv x w (-25) 7 25
theorem Nf(x:BitVec 32)(w:ϑ):ϓ 72 #[.int .u32 (U x),.int .u64 25] w fun e Z=>e= .returned (.int .u32 (U (aX x 7)))∧w=Z:=sF x w 25 7 25
theorem Pb(x:BitVec 32)(w:ϑ):ϓ 314 #[.int .u32 (U x),.int .i64 (-2)] w fun e Z=>e= .returned (.int .u32 (U (aX x 30)))∧w=Z:=iv x w (-2) 30 2
theorem Pc(x:BitVec 32)(w:ϑ):ϓ 72 #[.int .u32 (U x),.int .u64 2] w fun e Z=>e= .returned (.int .u32 (U (aX x 30)))∧w=Z:=sF x w 2 30 2
theorem Ng(x:BitVec 32)(w:ϑ):ϓ 314 #[.int .u32 (U x),.int .i64 (-13)] w fun e Z=>e= .returned (.int .u32 (U (aX x 19)))∧w=Z:=iv x w (-13) 19 13
theorem Nh(x:BitVec 32)(w:ϑ):ϓ 72 #[.int .u32 (U x),.int .u64 13] w fun e Z=>e= .returned (.int .u32 (U (aX x 19)))∧w=Z:=sF x w 13 19 13
theorem Ni(x:BitVec 32)(w:ϑ):ϓ 314 #[.int .u32 (U x),.int .i64 (-22)] w fun e Z=>e= .returned (.int .u32 (U (aX x 10)))∧w=Z:=iv x w (-22) 10 22
theorem Nj(x:BitVec 32)(w:ϑ):ϓ 72 #[.int .u32 (U x),.int .u64 22] w fun e Z=>e= .returned (.int .u32 (U (aX x 10)))∧w=Z:=sF x w 22 10 22
theorem mg:(prog.info? 139).map (fun i=>(i.zero,i.size))=some (some (.agg (row 64 fun _=> .int .u32 0)),64):=Θ
theorem IQ:(prog.info? 74).map (·.size)=some 64:=Θ
theorem qJ:(prog.info? 139).map (·.size)=some 64:=Θ
theorem j9{b:Φ}{k:Nat}(h:k<64)(w:ϑ):(Instr.index 74 (.agg (row 64 fun i=>Value.int .u8 (B8 (b i)))) (.int .i64 k)).run prog w= .ok (.int .u8 (B8 (b k))) w :=
 iu _ underlying74 Θ (fun w=>by kernel_rfl) h w
theorem jl(sb:Nat)(S:Nat→ό)(b:Φ)(w:ϑ)(hg:w.heap[sb]?=some (.cells (row 138 S) 325 (0,0)))(hS:∀i,i<64→S (72+i)= .int .u8 (B8 (b i))) :
 Rt 313 #[.pointer (ϐ sb)] w (.agg (bg 64 (aY b))):=by
 have hsb:sb<w.heap.size:=(Array.getElem?_eq_some_iff.1 hg).1;have hg2:((w.alloc (.cells (row 64 fun _=> .int .u32 0) 139)).alloc (.cells (row 64 fun _=> .int .u32 0) 139)).heap[sb]?=some (.cells (row 138 S) 325 (0,0)):=by
  rw[Xf _ _ _ Ϟ,Xf _ _ _ hsb,hg]
 have hR:=ie (o:=72) (n:=64) hg2 Ξ;rw[am hS]at hR;have HR:=Hd hR;have HI:=Hd (show(prog.info? 74).map (·.size)=some (row 64 fun i=>Value.int .u8 (B8 (b i))).toList.length by rw[IQ];simp[aS]);clear hg hR hS hg2;go_enter func313,ntmps313;go_wp2_with (first|(with_reducible refine az rfl 139 rfl 64 _ mg ?_)|(with_reducible refine ZQ rfl 74 _ rfl sb 72 rfl _ _ HR.out underlying74 rfl HI.out ?_));go_loopw [15] (fun i wr=>∃k:Nat,k≤64∧i= .int .i64 k∧wr.heap[w.heap.size+1]?=some (.cells (bg 64 (bB b k)) 139 (0,0))∧wr.heap[w.heap.size]?=some (.cells (bg 64 fun _=>0) 139 (0,0))∧Υ w wr) (fun i _=>64-(intOf i).toNat);case atStart=>exact⟨0,Ω,rfl,heap_alloc2_new _ _ _,heap_alloc2_old _ _ _,(((XE _ _).alloc (Xn _) _).alloc Ϡ _)⟩
 case round =>
  obtain⟨k,hk,rfl,hw,hz,hbel⟩:=hrel;by_cases hlt:k<64
  ·have hi:=fun w=>j9 (b:=b) hlt w
   have hk0:(0:Int)≤(k:Int):=Ω;have hk1:(k:Int)<64:=Ω;have hc:wr.cell? ⟨w.heap.size+1,k/4,none⟩=some (.int .u32 (U (bB b k (k/4)))):=aR hw Ω;have hf:wr.frozen? ⟨w.heap.size+1,k/4,none⟩=false:=Xi wr _ _ _ _ hw;obtain⟨u0,u1⟩:=kX (bB b k (k/4));obtain⟨v0,v1⟩:=bP (b k);have HW:=Hd hw;have HZ:=Hd hz;clear hw hz;go_wp2;go_roundw;case rel =>
    refine⟨k+1,Ω,by go_num,?_,?_,hbel.setCell Ϡ _⟩
    ·rw[uq,A8,y9]
     exact cu _ HW.out Ω
    ·rw[Xh _ _ _ _ Ϡ];exact HZ.out
   case measure=>exact ϝ
  ·have e:bB b k=bB b 64:=by rw[show k=64 by omega]
   rw[e]at hw;clear e;go_wp2;go_loopw [6] (fun i wr=>∃k:Nat,16≤k∧k≤64∧i= .int .i64 k∧wr.heap[w.heap.size+1]?=some (.cells (bg 64 (cz (bB b 64) k)) 139 (0,0))∧wr.heap[w.heap.size]?=some (.cells (bg 64 fun _=>0) 139 (0,0))∧Υ w wr) (fun i _=>64-(intOf i).toNat);case atStart=>exact⟨16,Ω,Ω,rfl,by rw[j8 _ 16 Ω];exact hw,hz,hbel⟩
   case round =>
    clear hw hz hbel hk hlt;obtain⟨K1,rfl⟩:∃K1,K1=k:=⟨_,rfl⟩;obtain⟨k,hk16,hk,rfl,hw,hz,hbel⟩:=hrel;by_cases hlt:k<64
    ·have hk0:(16:Int)≤(k:Int):=Ω
     have hk1:(k:Int)<64:=Ω;have hc2:wr.cell? ⟨w.heap.size+1,k-2,none⟩=some (.int .u32 (U (cz (bB b 64) k (k-2)))):=aR hw Ω;have hc7:wr.cell? ⟨w.heap.size+1,k-7,none⟩=some (.int .u32 (U (cz (bB b 64) k (k-7)))):=aR hw Ω;have hc15:wr.cell? ⟨w.heap.size+1,k-15,none⟩=some (.int .u32 (U (cz (bB b 64) k (k-15)))):=aR hw Ω;have hc16:wr.cell? ⟨w.heap.size+1,k-16,none⟩=some (.int .u32 (U (cz (bB b 64) k (k-16)))):=aR hw Ω;have hc:wr.cell? ⟨w.heap.size+1,k,none⟩=some (.int .u32 (U (cz (bB b 64) k k))):=aR hw Ω;have hf:wr.frozen? ⟨w.heap.size+1,k,none⟩=false:=Xi wr _ _ _ _ hw;have HW:=Hd hw;have HZ:=Hd hz;have HS:=Hd (iN (bB b 64) hk16);clear hw hz;generalize cz (bB b 64) k=f at *
     obtain⟨a0,a1⟩:=kX (f (k-2));obtain⟨b0,b1⟩:=kX (f (k-15));have hs0:=j6 (f (k-15));have hs1:=j7 (f (k-2));have hadd:=iI;go_wp2;go_quiet (fail);go_wp2_with (first|(go_at_call 314;with_reducible refine(O7 _ _).mono ?_;rintro e Z⟨rfl,rfl⟩)|(go_at_call 314;with_reducible refine(EV _ _).mono ?_;rintro e Z⟨rfl,rfl⟩)|(go_at_call 314;with_reducible refine(M8 _ _).mono ?_;rintro e Z⟨rfl,rfl⟩)|(go_at_call 314;with_reducible refine(EU _ _).mono ?_;rintro e Z⟨rfl,rfl⟩));clear hs0 hs1 hc2 hc7 hc15 hc16 hc hf;have hw:(wr.drewN nq).heap[w.heap.size+1]?=some (.cells (bg 64 f) 139 (0,0)):=HW.out;have hz:(wr.drewN nq).heap[w.heap.size]?=some (.cells (bg 64 fun _=>0) 139 (0,0)):=HZ.out;have hbel:=Go.below_drewN hbel nq;clear HW HZ;generalize wr.drewN nq=Wzq at *
     have hc7:Wzq.cell? ⟨w.heap.size+1,k-7,none⟩=some (.int .u32 (U (f (k-7)))):=ar hw Ω;have hc16:Wzq.cell? ⟨w.heap.size+1,k-16,none⟩=some (.int .u32 (U (f (k-16)))):=ar hw Ω;have hc:Wzq.cell? ⟨w.heap.size+1,k,none⟩=some (.int .u32 (U (f k))):=ar hw Ω;have hf:Wzq.frozen? ⟨w.heap.size+1,k,none⟩=false:=Xi Wzq _ _ _ _ hw;have HW:=Hd hw;have HZ:=Hd hz;clear hw hz;have e7:IntKind.i64.wrap ((k:Int)-7)=(k:Int)-7:=W3 _ Ω;have e16:IntKind.i64.wrap ((k:Int)-16)=(k:Int)-16:=W3 _ Ω;have t7:((k:Int)-7).toNat=k-7:=Ω;have t16:((k:Int)-16).toNat=k-16:=Ω;have p7:(7:Int)≤(k:Int):=Ω;have q7:(k:Int)-7<64:=Ω;have q16:(k:Int)-16<64:=Ω;go_still_tail 15,Θ;clear e7 e16 t7 t16 p7 q7 q16;change wpList _ _ _ _ _ Wzq.drew;go_wp2;go_roundw;case rel =>
      refine⟨k+1,Ω,Ω,by go_num,?_,?_,(hbel.setCell Ϡ _).drew⟩
      ·rw[HS.out]
       exact cu _ HW.out Ω
      ·show(Wzq.setCell _ _).heap[_]?=_
       rw[Xh _ _ _ _ Ϡ];exact HZ.out
     case measure=>exact ϝ
    ·have e:cz (bB b 64) k=aY b:=by rw[show k=64 by omega];rfl
     rw[e]at hw;clear e;have HW:=Hd hw;have HZ:=Hd hz;have HN:=Hd (show(prog.info? 139).map (·.size)=some (bg 64 (aY b)).size by rw[qJ,a8]);clear hw hz;go_wp2_with (first|(with_reducible refine XW rfl 139 _ rfl (w.heap.size+1) rfl 139 (bg 64 (aY b)) (0,0) _ HW.out underlying139 rfl HN.out ?_)|(with_reducible refine Xu rfl 139 _ _ rfl rfl w.heap.size (bg 64 (aY b)) rfl rfl 139 _ HZ.out HN.out (by rw[a8,a8]) (bW _ _) ?_));refine Ϣ (Yy rfl _ _ w.heap.size 139 (bg 64 (aY b)) (0,0) _ rfl (aF HZ.out) underlying139 rfl HN.out) rfl ?_;exact⟨rfl,aZ hbel (Xn _) _⟩
def stF(h:Nat→BitVec 32)(b:Φ)(n:Nat)(L:BitVec 64):Nat→Value:=fun j =>
 if j<8 then .int .u32 (U (h j))else if j<72 then .int .u32 (U (di (j-8)))else if j<136 then .int .u8 (B8 (b (j-72)))else if j=136 then .int .i64 n else .int .u64 (Q L)
def bZ(h:Nat→BitVec 32)(b:Φ)(n:Nat)(L:BitVec 64):Ψ:=row 138 (stF h b n L)
theorem gC(n:Nat)(f:Nat→BitVec 32):(((List.range n).map fun i=>U (f i)).map (Value.int .u32)).toArray=bg n f:=by
 simp[bg,row]
theorem lX(w:ϑ):Rt 292 #[] w (.agg (bg 64 di)):=by
 have HN:=Hd (show(prog.info? 139).map (·.size)=some (bg 64 di).size by rw[qJ,a8]);have HW:=Hd (gC 64 di);go_enter func292,ntmps292;go_wp2_with (first|(with_reducible refine az rfl 139 rfl 64 _ mg ?_)|(refine Zw rfl 139 136 64 _ rfl .u32 ((List.range 64).map fun i=>U (di i)) _ rfl underlying139 Θ Θ Θ ?_;rw[HW.out])|(with_reducible refine Xu rfl 139 _ _ rfl rfl w.heap.size (bg 64 di) rfl rfl 139 _ (Xe _ _) HN.out (by rw[aS,a8]) (bW _ _) ?_));refine Ϣ (Yy rfl _ _ w.heap.size 139 (bg 64 di) (0,0) _ rfl (aF (Xe _ _)) underlying139 rfl HN.out) rfl ?_;exact⟨rfl,aZ ((XE _ _).alloc (Xn _) _) (Xn _) _⟩
theorem nW(w:ϑ):ϓ 260 #[] w fun e Z=>∃sb,e= .returned (.pointer (ϐ sb))∧w.heap.size≤sb∧Z.heap[sb]?=some (.cells (bZ nX (fun _=>0) 0 0) 325 (0,0))∧Υ w Z:=by
 have HW:=Hd (gC 8 nX);go_enter func260,ntmps260;go_wp2_with (first|(refine Zw rfl 137 136 8 _ rfl .u32 ((List.range 8).map fun i=>U (nX i)) _ rfl underlying137 Θ Θ Θ ?_;rw[HW.out])|(go_at_call 292;refine(lX _).mono ?_;rintro e J⟨rfl,hb⟩)|(refine wpList_buildTo rfl 325 _ rfl _ rfl (bZ nX (fun _=>0) 0 0) Θ ?_)|(refine Great.wpList_boxTo rfl 325 _ rfl _ rfl _ rfl (bZ nX (fun _=>0) 0 0) rfl ?_));go_ret;exact⟨J.heap.size,rfl,hb.size,Xe _ _,hb.alloc hb.size _⟩
def qs(sb:Nat)(h:Nat→BitVec 32)(b:Φ)(n:Nat)(L:BitVec 64)(w:ϑ)(a':Act)(Z:ϑ):Prop :=
 ∃(t wb vb:Nat) (u:Nat→ό),t≤64∧w.heap.size≤wb∧wb<vb ∧
  a'={ tmps:= #[.pointer (ϐ sb),u 1,.pointer (ϐ wb),.pointer (ϐ vb),.int .i64 t,u 5,u 6,u 7,u 8,u 9,u 10,u 11,u 12,u 13,u 14,u 15,u 16,u 17,u 18,u 19,u 20,u 21,u 22,u 23,u 24,u 25,u 26,u 27,u 28,u 29,u 30,u 31,u 32,u 33,u 34,u 35,u 36,u 37,u 38,u 39,u 40,u 41,u 42,u 43,u 44,u 45,u 46,u 47,u 48,u 49,u 50,u 51,u 52,u 53,u 54,u 55,u 56,u 57,u 58,u 59,u 60,u 61,u 62,u 63,u 64,u 65,u 66,u 67,u 68,u 69,u 70,u 71,u 72,u 73,u 74,u 75,u 76,u 77,u 78,u 79,u 80,u 81,u 82,u 83,u 84,u 85,u 86,u 87,u 88,u 89,u 90,u 91,u 92,u 93,u 94,u 95,u 96,u 97,u 98,u 99,u 100,u 101,u 102,u 103,u 104,u 105,u 106,u 107,u 108,u 109,u 110,u 111,u 112,u 113,u 114,u 115,u 116,u 117,u 118,u 119,u 120,u 121],defers:=[] } ∧
  Z.heap[sb]?=some (.cells (bZ h b n L) 325 (0,0))∧Z.heap[wb]?=some (.cells (bg 64 (aY b)) 139 (0,0)) ∧
  Z.heap[vb]?=some (.cells (bg 8 (dz di (aY b) h t)) 137 (0,0))∧w.grownBy Z (some sb)
theorem iO{sb n:Nat}{h:Nat→BitVec 32}{b:Φ}{L:BitVec 64}{w Z:ϑ}{tm:Ψ}(t wb vb:Nat)(ht:t≤64)(hwb:w.heap.size≤wb)(hvb:wb<vb)(he:({ tmps:=tm,defers:=[] }:Act)={ tmps:= #[.pointer (ϐ sb),tm.getD 1 undef,.pointer (ϐ wb),.pointer (ϐ vb),.int .i64 t,tm.getD 5 undef,tm.getD 6 undef,tm.getD 7 undef,tm.getD 8 undef,tm.getD 9 undef,tm.getD 10 undef,tm.getD 11 undef,tm.getD 12 undef,tm.getD 13 undef,tm.getD 14 undef,tm.getD 15 undef,tm.getD 16 undef,tm.getD 17 undef,tm.getD 18 undef,tm.getD 19 undef,tm.getD 20 undef,tm.getD 21 undef,tm.getD 22 undef,tm.getD 23 undef,tm.getD 24 undef,tm.getD 25 undef,tm.getD 26 undef,tm.getD 27 undef,tm.getD 28 undef,tm.getD 29 undef,tm.getD 30 undef,tm.getD 31 undef,tm.getD 32 undef,tm.getD 33 undef,tm.getD 34 undef,tm.getD 35 undef,tm.getD 36 undef,tm.getD 37 undef,tm.getD 38 undef,tm.getD 39 undef,tm.getD 40 undef,tm.getD 41 undef,tm.getD 42 undef,tm.getD 43 undef,tm.getD 44 undef,tm.getD 45 undef,tm.getD 46 undef,tm.getD 47 undef,tm.getD 48 undef,tm.getD 49 undef,tm.getD 50 undef,tm.getD 51 undef,tm.getD 52 undef,tm.getD 53 undef,tm.getD 54 undef,tm.getD 55 undef,tm.getD 56 undef,tm.getD 57 undef,tm.getD 58 undef,tm.getD 59 undef,tm.getD 60 undef,tm.getD 61 undef,tm.getD 62 undef,tm.getD 63 undef,tm.getD 64 undef,tm.getD 65 undef,tm.getD 66 undef,tm.getD 67 undef,tm.getD 68 undef,tm.getD 69 undef,tm.getD 70 undef,tm.getD 71 undef,tm.getD 72 undef,tm.getD 73 undef,tm.getD 74 undef,tm.getD 75 undef,tm.getD 76 undef,tm.getD 77 undef,tm.getD 78 undef,tm.getD 79 undef,tm.getD 80 undef,tm.getD 81 undef,tm.getD 82 undef,tm.getD 83 undef,tm.getD 84 undef,tm.getD 85 undef,tm.getD 86 undef,tm.getD 87 undef,tm.getD 88 undef,tm.getD 89 undef,tm.getD 90 undef,tm.getD 91 undef,tm.getD 92 undef,tm.getD 93 undef,tm.getD 94 undef,tm.getD 95 undef,tm.getD 96 undef,tm.getD 97 undef,tm.getD 98 undef,tm.getD 99 undef,tm.getD 100 undef,tm.getD 101 undef,tm.getD 102 undef,tm.getD 103 undef,tm.getD 104 undef,tm.getD 105 undef,tm.getD 106 undef,tm.getD 107 undef,tm.getD 108 undef,tm.getD 109 undef,tm.getD 110 undef,tm.getD 111 undef,tm.getD 112 undef,tm.getD 113 undef,tm.getD 114 undef,tm.getD 115 undef,tm.getD 116 undef,tm.getD 117 undef,tm.getD 118 undef,tm.getD 119 undef,tm.getD 120 undef,tm.getD 121 undef],defers:=[] })(h1:Z.heap[sb]?=some (.cells (bZ h b n L) 325 (0,0)))(h2:Z.heap[wb]?=some (.cells (bg 64 (aY b)) 139 (0,0)))(h3:Z.heap[vb]?=some (.cells (bg 8 (dz di (aY b) h t)) 137 (0,0)))(h4:w.grownBy Z (some sb)):qs sb h b n L w { tmps:=tm,defers:=[] } Z :=
 ⟨t,wb,vb,fun i=>tm.getD i undef,ht,hwb,hvb,he,h1,h2,h3,h4⟩
theorem wT:(prog.info? 137).map (fun i=>(i.zero,i.size))=some (some (.agg (row 8 fun _=> .int .u32 0)),8):=Θ
theorem lc:(prog.info? 137).map (·.size)=some 8:=Θ
def cg(h v:Nat→BitVec 32)(k:Nat):Nat→BitVec 32:=fun i=>if i<k then h i+v i else h i
theorem lY{h v:Nat→BitVec 32}{b:Φ}{n:Nat}{L:BitVec 64}{k:Nat}(hk:k<8) :
 row 138 (upd (stF (cg h v k) b n L) k (.int .u32 (U (h k+v k))))=bZ (cg h v (k+1)) b n L:=am fun i _=>by
 unfold upd stF cg;by_cases e:i=k
 ·subst e;simp[hk]
 ·rw[Χ e]
  by_cases h8:i<8
  ·rw[Ρ h8,Ρ h8]
   by_cases hik:i<k
   ·rw[Ρ hik,Ρ Ω]
   ·rw[Χ hik,Χ Ω]
  ·rw[Χ h8,Χ h8]
theorem ka{h h':Nat→BitVec 32}{b:Φ}{n:Nat}{L:BitVec 64}(he:∀i,i<8→h i=h' i):bZ h b n L=bZ h' b n L:=am fun i _=>by
 unfold stF;by_cases h8:i<8
 ·rw[Ρ h8,Ρ h8,he i h8]
 ·rw[Χ h8,Χ h8]
theorem qt(sb:Nat)(h:Nat→BitVec 32)(b:Φ)(n:Nat)(L:BitVec 64)(w:ϑ)(hg:w.heap[sb]?=some (.cells (bZ h b n L) 325 (0,0))) :
 ϓ 293 #[.pointer (ϐ sb)] w fun e Z=>e= .returned (.tuple #[])∧Z.heap[sb]?=some (.cells (bZ (block di h b) b n L) 325 (0,0))∧w.grownBy Z (some sb):=by
 have HSZ:=Hd (Array.getElem?_eq_some_iff.1 hg).1;have HG:=Hd hg;clear hg;go_enter func293,ntmps293;refine it 0 (qs sb h b n L w) (fun a' _=>64-(intOf (a'.tmps.getD 4 undef)).toNat) rfl ?_ ?_
 ·rintro a' wr⟨t,wb,vb,u,ht,hwb,hvb,rfl,hs,hw,hv,hgr⟩
  by_cases hlt:t<64
  ·have h0:(0:Int)≤(t:Int):=Ω
   have h1:(t:Int)<64:=Ω;have cw:wr.cell? ⟨wb,t,none⟩=some (.int .u32 (U (aY b t))):=ar hw hlt;have ck:wr.cell? ⟨sb,8+t,none⟩=some (.int .u32 (U (di t))):=by
    rw[aR hs Ω];unfold stF;rw[Χ Ω,Ρ Ω];simp
   have HV:=Hd hv;have HS:=Hd hs;have HW:=Hd hw;clear hs hw;have hn:dz di (aY b) h (t+1)=rnd di (aY b) t (dz di (aY b) h t):=rfl;have HN:=Hd hn;clear hn;generalize dz di (aY b) h t=v at *
   have c0:=ar (i:=0) hv Ξ;have c1:=ar (i:=1) hv Ξ;have c2:=ar (i:=2) hv Ξ;have c3:=ar (i:=3) hv Ξ;have c4:=ar (i:=4) hv Ξ;have c5:=ar (i:=5) hv Ξ;have c6:=ar (i:=6) hv Ξ;have c7:=ar (i:=7) hv Ξ;clear hv;have hadd:=iI;have hxor:=mA;have hand:=Eb;have hnot:=JA;have hadd':=gH;go_wp2;go_quiet (fail);go_wp2_with fail;refine(O9 _ _).mono ?_;rintro e Z⟨rfl,rfl⟩;go_wp2_with fail;refine(Nb _ _).mono ?_;rintro e Z⟨rfl,rfl⟩;go_wp2_with fail;refine(Nd _ _).mono ?_;rintro e Z⟨rfl,rfl⟩;go_wp2_with fail;refine(Pb _ _).mono ?_;rintro e Z⟨rfl,rfl⟩;go_wp2_with fail;refine(Ng _ _).mono ?_;rintro e Z⟨rfl,rfl⟩;go_wp2_with fail;refine(Ni _ _).mono ?_;rintro e Z⟨rfl,rfl⟩;go_wp2_with fail;go_quiet (fail);have HV2:=Hd (show ∀m,(wr.drewN m).heap[vb]?=some (.cells (bg 8 v) 137 (0,0))from fun _=>HV.out);have HZ8:=Hd (show(prog.info? 137).map (·.size)=some (bg 8 (rnd di (aY b) t v)).size by rw[lc,a8]);go_wp2_with ((refine ϗ (.store _ _ _) ?_);refine Xu rfl 137 _ _ rfl rfl vb (bg 8 (rnd di (aY b) t v)) rfl rfl 137 _ (HV2.out _) HZ8.out (by rw[a8,a8]) (bW _ _) ?_);go_step3;refine⟨rfl,iO (t+1) wb vb Ω hwb hvb rfl ?_ ?_ ?_ ?_,?_⟩
   ·have hne:sb≠vb:=by have:=HSZ.out;omega
    exact(ax hne).trans HS.out
   ·have hne:wb≠vb:=Ω
    exact(ax hne).trans HW.out
   ·rw[HN.out]
    exact aF (HV2.out _)
   ·exact dU (oy hgr _) (.inl Ω) _
   ·simp[intOf];omega
  ·have hE:dz di (aY b) h t=dz di (aY b) h 64:=by rw[show t=64 by omega]
   rw[hE]at hv;have HBL:=Hd (show ∀i,i<8→cg h (dz di (aY b) h 64) 8 i=block di h b i from fun i hi=>by unfold cg;rw[Ρ hi];rfl);clear hE hw;generalize dz di (aY b) h 64=v at *
   have HS:=Hd hs;have HV:=Hd hv;clear hs hv;have hge:(64:Int)≤(t:Int):=Ω;go_wp2;go_loopw [105] (fun i w2=>∃k:Nat,k≤8∧i= .int .i64 k∧w2.heap[sb]?=some (.cells (bZ (cg h v k) b n L) 325 (0,0))∧w2.heap[vb]?=some (.cells (bg 8 v) 137 (0,0))∧w.grownBy w2 (some sb)) (fun i _=>8-(intOf i).toNat);case atStart=>exact⟨0,Ω,rfl,HS.out,HV.out,hgr⟩
   case round =>
    obtain⟨k,hk,rfl,hs,hv,hg2⟩:=hrel;by_cases hk8:k<8
    ·have hk0:(0:Int)≤(k:Int):=Ω
     have hk1:(k:Int)<8:=Ω;have ca:wr.cell? ⟨sb,k,none⟩=some (.int .u32 (U (h k))):=by
      rw[aR hs Ω];unfold stF cg;rw[Ρ hk8,Χ Ω]
     have cb:wr.cell? ⟨vb,k,none⟩=some (.int .u32 (U (v k))):=ar hv hk8;have cf:wr.frozen? ⟨sb,k,none⟩=false:=Xi wr _ _ _ _ hs;have HS:=Hd hs;have HV:=Hd hv;clear hs hv HBL;have hadd:=iI;have hadd':=gH;go_wp2;go_still_tail 13,Θ;change wpList _ _ _ _ _ wr.drew;go_wp2;go_roundw;case rel =>
      refine⟨k+1,Ω,by go_num,?_,?_,dL (bz hg2 (.inr rfl) _)⟩
      ·show(wr.setCell _ _).heap[_]?=_
       rw[bH _ HS.out Ω,lY hk8]
      ·have hne:vb≠sb:=by have:=HSZ.out;omega
       show(wr.setCell _ _).heap[_]?=_;rw[Xh _ _ _ _ hne];exact HV.out
     case measure=>exact ϝ
    ·obtain rfl:k=8:=Ω
     rw[ka HBL.out]at hs;have HS:=Hd hs;clear hs hv HBL;go_wp2;simp only[Exit.jump];go_end0;exact⟨rfl,HS.out,hg2⟩
 ·intro hrest
  have HL:=Hd (show(prog.info? 139).map (·.size)=some (bg 64 (aY b)).size by rw[qJ,a8]);have H8:=Hd (show(prog.info? 137).map (·.size)=some (bg 8 h).size by rw[lc,a8]);have H8':=Hd (show(prog.info? 137).map (·.size)=some (bg 8 h).toList.length by rw[lc];simp[a8]);have HB:=Hd (show ∀i,i<64→stF h b n L (72+i)= .int .u8 (B8 (b i))from fun i hi=>by
   unfold stF;rw[Χ Ω,Χ Ω,Ρ Ω];simp)
  have HR:=Hd hrest;clear hrest;go_wp2_with (first
   | (go_at_call 313;refine(jl sb (stF h b n L) b _ HG.out HB.out).mono ?_;rintro e J⟨rfl,V⟩)
   | (with_reducible refine az rfl 139 rfl 64 _ mg ?_)
   | (with_reducible refine az rfl 137 rfl 8 _ wT ?_)
   | ((refine ϗ (.store 139 _ _) ?_);refine Xu rfl 139 _ _ rfl rfl _ (bg 64 (aY b)) rfl rfl 139 _ (Xe _ _) HL.out (by rw[aS,a8]) (bW _ _) ?_)
   | ((refine ϗ (.load 137 _) ?_);refine ZQ rfl 137 _ rfl sb 0 rfl (bg 8 h).toList _ ?r underlying137 rfl H8'.out ?_)
   | ((refine ϗ (.store 137 _ _) ?_);refine Xu rfl 137 _ _ rfl rfl _ (bg 8 h) rfl rfl 137 _ (Xe _ _) H8.out (by rw[aS,a8]) (bW _ _) ?_))
  case r =>
   have hne:sb≠J.heap.size:=by have:=HSZ.out;have:=V.size;omega
   have h1:((J.alloc (.cells (row 64 fun _=> .int .u32 0) 139)).setRow J.heap.size (bg 64 (aY b))).heap[sb]?=some (.cells (row 138 (stF h b n L)) 325 (0,0)):=by
    rw[ax hne,Xf _ _ _ (by have:=HSZ.out;have:=V.size;omega),V.block _ HSZ.out];exact HG.out
   have h2:=ie (o:=0) (n:=8) h1 Ξ;have h3:(row 8 fun i=>stF h b n L (0+i))=bg 8 h:=am fun i hi=>by
    rw[XA];unfold stF;rw[Ρ hi]
   rw[h3]at h2;exact h2
  go_step3;go_step;go_step;have hsz:=V.size;have hlt:=HSZ.out;have hne:sb≠J.heap.size:=Ω;have hne':sb≠J.heap.size+1:=Ω;refine HR.out _ _ (iO 0 J.heap.size (J.heap.size+1) Ω hsz Ω rfl ?_ ?_ ?_ ?_)
  ·rw[ax hne',Xf _ _ _ Ϟ,ax hne,Xf _ _ _ Ω,V.block _ hlt]
   exact HG.out
  ·rw[ax Ω,Xf _ _ _ Ϡ]
   exact aF (Xe _ _)
  ·exact aF (by have:=Xe ((J.alloc (.cells (row 64 fun _=> .int .u32 0) 139)).setRow J.heap.size (bg 64 (aY b))) (.cells (row 8 fun _=> .int .u32 0) 137);simpa using this)
  ·exact dU (dM (dU (dM (jM V) _) (.inl hsz) _) _) (.inl Ω) _
theorem lZ{h:Nat→BitVec 32}{b:Φ}{n i:Nat}{L:BitVec 64}(x:Γ)(hi:i<64):row 138 (upd (stF h b n L) (72+i) (.int .u8 (B8 x)))=bZ h (upd b i x) n L:=am fun j _=>by
 unfold upd stF;by_cases e:j=72+i
 ·subst e
  rw[Ρ rfl,Χ Ω,Χ Ω,Ρ Ω];simp
 ·rw[Χ e]
  by_cases h8:j<8
  ·rw[Ρ h8,Ρ h8]
  ·rw[Χ h8,Χ h8]
   by_cases h72:j<72
   ·rw[Ρ h72,Ρ h72]
   ·rw[Χ h72,Χ h72]
    by_cases h136:j<136
    ·rw[Ρ h136,Ρ h136]
     show _=Value.int .u8 (B8 (if j-72=i then x else b (j-72)));rw[Χ Ω]
    ·rw[Χ h136,Χ h136]
theorem gO{h:Nat→BitVec 32}{b:Φ}{n:Nat}{L:BitVec 64}(m:Nat):row 138 (upd (stF h b n L) 136 (.int .i64 m))=bZ h b m L:=am fun j _=>by
 unfold upd stF;by_cases e:j=136
 ·subst e;simp
 ·rw[Χ e];simp only[Χ e]
theorem l9{h:Nat→BitVec 32}{b:Φ}{n:Nat}{L:BitVec 64}(M:BitVec 64):row 138 (upd (stF h b n L) 137 (.int .u64 (Q M)))=bZ h b n M:=am fun j _=>by
 unfold upd stF;by_cases e:j=137
 ·subst e;simp
 ·rw[Χ e]
  by_cases h8:j<8
  ·rw[Ρ h8,Ρ h8]
  ·rw[Χ h8,Χ h8]
   by_cases h72:j<72
   ·rw[Ρ h72,Ρ h72]
   ·rw[Χ h72,Χ h72]
    by_cases h136:j<136
    ·rw[Ρ h136,Ρ h136]
    ·rw[Χ h136,Χ h136,Ρ Ω,Ρ Ω]
theorem uV{h:Nat→BitVec 32}{b:Φ}{n:Nat}{L:BitVec 64}:stF h b n L 136= .int .i64 n:=by simp[stF]
theorem Kr{h:Nat→BitVec 32}{b:Φ}{n i:Nat}{L:BitVec 64}(hi:i<64):stF h b n L (72+i)= .int .u8 (B8 (b i)):=by
 unfold stF;rw[Χ Ω,Χ Ω,Ρ Ω];simp
theorem Ks{h:Nat→BitVec 32}{b:Φ}{n i:Nat}{L:BitVec 64}(hi:i<8):stF h b n L i= .int .u32 (U (h i)):=by
 unfold stF;rw[Ρ hi]
theorem EX{h:Nat→BitVec 32}{b:Φ}{n:Nat}{L:BitVec 64}:stF h b n L 137= .int .u64 (Q L):=by simp[stF]
theorem qu(sb:Nat)(s:St)(x:Γ)(L:BitVec 64)(w:ϑ)(hn:s.n<64)(hg:w.heap[sb]?=some (.cells (bZ s.h s.b s.n L) 325 (0,0))) :
 ϓ 261 #[.pointer (ϐ sb),.int .u8 (B8 x)] w fun e Z=>e= .returned (.tuple #[])∧Z.heap[sb]?=some (.cells (bZ (a6 s x).h (a6 s x).b (a6 s x).n L) 325 (0,0))∧w.grownBy Z (some sb):=by
 obtain⟨h,b,n⟩:=s;simp only at hn hg;have hc:w.cell? ⟨sb,136,none⟩=some (.int .i64 n):=by rw[aR hg Ω,uV]
 have hb:w.cell? ⟨sb,72+n,none⟩=some (.int .u8 (B8 (b n))):=by rw[aR hg Ω,Kr hn]
 have hf:w.frozen? ⟨sb,72+n,none⟩=false:=Xi w _ _ _ _ hg;have h0:(0:Int)≤(n:Int):=Ω;have h1:(n:Int)<64:=Ω;have hf2:w.frozen? ⟨sb,136,none⟩=false:=Xi w _ _ _ _ hg;have hw1:∀(m:Nat) (z:Int),z=m→((w.setCell ⟨sb,72+n,none⟩ (.int .u8 (B8 x))).setCell ⟨sb,136,none⟩ (.int .i64 z)).heap[sb]?=some (.cells (bZ h (upd b n x) m L) 325 (0,0)):=by
  intro m z hz;subst hz;have e1:(w.setCell ⟨sb,72+n,none⟩ (.int .u8 (B8 x))).heap[sb]?=some (.cells (bZ h (upd b n x) n L) 325 (0,0)):=by
   rw[bH _ hg Ω,lZ x hn]
  rw[bH _ e1 Ω,gO]
 have HW:=Hd hw1;clear hg hw1;by_cases h63:n<63
 ·have ht:a6 ⟨h,b,n⟩ x=⟨h,upd b n x,n+1⟩:=by unfold a6;rw[Ρ h63]
  rw[ht];clear ht;have he:((n:Int)+1==64)=false:=Ϟ;go_enter func261,ntmps261;go_wp2_with fail;go_still_tail 9,Θ;change wpList _ _ _ _ _ w.drew;go_wp2_with fail;go_end0;have hH:=HW.out (n+1) ((n:Int)+1) Ω;refine⟨rfl,hH,?_⟩;refine dL ?_;refine bz ?_ (.inr rfl) _;exact bz (cH _ _) (.inr rfl) _
 ·obtain rfl:n=63:=Ω
  have ht:a6 ⟨h,b,63⟩ x=⟨block di h (upd b 63 x),upd b 63 x,0⟩:=by unfold a6;rw[Χ Ϡ]
  rw[ht];clear ht;go_enter func261,ntmps261;go_wp2_with fail;go_still_tail 9,Θ;change wpList _ _ _ _ _ w.drew;go_wp2_with fail;have hH:(((w.setCell ⟨sb,135,none⟩ (.int .u8 (B8 x))).setCell ⟨sb,136,none⟩ (.int .i64 64)).drew).heap[sb]?=some (.cells (bZ h (upd b 63 x) 64 L) 325 (0,0)):=HW.out 64 64 rfl;refine(qt sb h (upd b 63 x) 64 L _ hH).mono ?_;rintro e J⟨rfl,hs,hg⟩;have hc1:J.cell? ⟨sb,136,none⟩=some (.int .i64 64):=by rw[aR hs Ω,uV];rfl
  have hf1:J.frozen? ⟨sb,136,none⟩=false:=Xi J _ _ _ _ hs;have HS:=Hd hs;clear hs;go_wp2;go_end0;refine⟨rfl,?_,?_⟩
  ·rw[bH _ HS.out Ω]
   exact XH (fun r=>some (Obj.cells r 325 (0,0))) (gO 0)
  ·refine bz (ox ?_ hg) (.inr rfl) _
   refine dL ?_;refine bz ?_ (.inr rfl) _;exact bz (cH _ _) (.inr rfl) _
def vd(s:St)(L:BitVec 64):Ψ:=bZ s.h s.b s.n L
theorem vk:(prog.info? 24).map (fun i=>(i.zero,i.size))=some (some (.agg (row 32 fun _=> .int .u8 0)),32):=Θ
theorem Ab:(prog.info? 24).map (·.size)=some 32:=Θ
theorem dh(sb:Nat)(s:St)(x:Γ)(L:BitVec 64)(w:ϑ)(hn:s.n<64)(hg:w.heap[sb]?=some (.cells (vd s L) 325 (0,0))) :
 ϓ 261 #[.pointer (ϐ sb),.int .u8 (B8 x)] w fun e Z=>e= .returned (.tuple #[])∧Z.heap[sb]?=some (.cells (vd (a6 s x) L) 325 (0,0))∧w.grownBy Z (some sb) :=
 qu sb s x L w hn hg
structure SumAt(w:ϑ)(sb:Nat)(s:St)(L:BitVec 64)(wr:ϑ):Prop where
 lo:w.heap.size<sb
 st:wr.heap[sb]?=some (.cells (vd s L) 325 (0,0))
 res:wr.heap[w.heap.size]?=some (.cells (aa 32 fun _=>0) 24 (0,0))
 bel:Υ w wr
theorem SumAt.grow{w wr Z:ϑ}{sb:Nat}{s s':St}{L L':BitVec 64}(h:SumAt w sb s L wr)(hs:Z.heap[sb]?=some (.cells (vd s' L') 325 (0,0)))(hg:wr.grownBy Z (some sb)):SumAt w sb s' L' Z:=by
 have hsz:w.heap.size<wr.heap.size:=(Array.getElem?_eq_some_iff.1 h.res).1;refine⟨h.lo,hs,?_,h.bel.grown hg Ω (fun k hk=>?_)⟩
 ·rw[hg.block _ hsz (fun e=>by have:=h.lo;cases e;omega)]
  exact h.res
 ·cases hk;exact ZE h.lo
theorem SumAt.setCell{w wr:ϑ}{sb:Nat}{s:St}{L:BitVec 64}(h:SumAt w sb s L wr){x:Addr}(hx:w.heap.size<x.block)(hs:x.block≠sb)(v:ό):SumAt w sb s L (wr.setCell x v) :=
 ⟨h.lo,(Xh wr x sb v (Ne.symm hs)).trans h.st,(Xh wr x _ v Ω).trans h.res,h.bel.setCell Ω v⟩
theorem flat_take_le{α:Type}:∀(l:List (List α)) (k:Nat) (h:k<l.length),(l.take k).flatten.length+l[k].length≤l.flatten.length
 | [],k,h=>absurd h Ϡ
 | x::l,0,_=>by simp
 | x::l,k+1,h=>by
  have:=flat_take_le l k (by simpa using h);simp only[List.take_succ_cons,XP,Xa,List.getElem_cons_succ];omega
def eH(h:Nat→BitVec 32)(k:Nat):Nat→Γ:=fun i=>if i<k then cm h i else 0
theorem iT(h:Nat→BitVec 32)(k:Nat):upd (eH h k) k (cm h k)=eH h (k+1):=by
 funext i;unfold upd eH;by_cases e:i=k
 ·subst e;simp
 ·rw[Χ e]
  by_cases hi:i<k
  ·rw[Ρ hi,Ρ Ω]
  ·rw[Χ hi,Χ Ω]
theorem gS{n:Nat}{f g:Φ}(h:∀i,i<n→f i=g i):aa n f=aa n g:=am fun i hi=>by rw[h i hi]
theorem mS(h:Nat→BitVec 32)(k r:Nat)(hr:k%4=r):U (h (k/4))/((2^(24-8*r):Nat):Int)%(256:Int)=B8 (cm h k):=by
 unfold U B8 cm;rw[YL,Zc,YW,hr,Ye,Zs];rfl
theorem sum_any(v:ό)(l:List Δ)(w:ϑ)(hv:BRows w v l)(hl:l.length≤1000000)(hm:l.flatten.length≤1000000000) :
 Rt 224 #[v] w (.agg (aa 32 (sha l.flatten))):=by
 obtain⟨a,c,rfl,_,hv⟩:=hv;have HV:=Hd hv;clear hv;go_enter func224,ntmps224;go_wp2_with (first|(with_reducible refine az rfl 24 rfl 32 _ vk ?_)|(go_at_call 260;refine(nW _).mono ?_;rintro e J⟨sb,rfl,hsb,hs,V⟩));have hat:SumAt w sb st0 0 J:=by
  have e1:(w.alloc (.cells (row 32 fun _=> .int .u8 0) 24)).heap.size=w.heap.size+1:=Ϡ;refine⟨by rw[e1]at hsb;omega,hs,?_,?_⟩
  ·rw[V.block _ (by rw[e1];omega)];exact Xe _ _
  ·exact((XE _ _).alloc (Xn _) _).trans (V.mono (by rw[e1];omega))
 clear hs V hsb;go_loopw [14] (fun i wr=>∃k:Nat,k≤l.length∧i= .int .i64 k∧SumAt w sb (aB st0 (l.take k).flatten) (BitVec.ofNat 64 (l.take k).flatten.length) wr) (fun i _=>l.length-(intOf i).toNat);case atStart=>exact⟨0,Yb _,rfl,hat⟩
 case round =>
  clear hat
  obtain⟨k,hk,rfl,hat⟩:=hrel;by_cases hlt:k<l.length
  ·obtain⟨b,off,ha,hbl,hcells⟩:=HV.out Ω
   obtain⟨vi,hvi,a2,c2,rfl,_,hin⟩:=hcells k hlt;have hk0:(0:Int)≤(k:Int):=Ω;have hk1:(k:Int)<(l.length:Int):=Ω;have hci:=(hat.bel.cell (p:=⟨b,off+k,none⟩) hbl).trans hvi;rw[ha];clear hvi hcells;have HI:=Hd hin;have HT:=Hd (show l.take (k+1)=l.take k++[l[k]]from Xo hlt);have hln:=flat_take_le l k hlt;clear hin;generalize l[k]=m at *
   obtain⟨p,hp⟩:∃p,p=(l.take k).flatten:=⟨_,rfl⟩;rw[← hp]at hat hln;have HP:=Hd hp.symm;clear hp;go_wp2_with fail;obtain⟨D,rfl⟩:∃D:ϑ,D=wr:=⟨_,rfl⟩;go_loopw [20] (fun i w2=>∃j:Nat,j≤m.length∧i= .int .i64 j∧SumAt w sb (aB (aB st0 p) (m.take j)) (BitVec.ofNat 64 p.length) w2∧Below w.heap.size D w2) (fun i _=>m.length-(intOf i).toNat);case atStart=>exact⟨0,Yb _,rfl,hat,XE _ _⟩
   case round =>
    clear hat
    obtain⟨j,hj,rfl,hat,hb0⟩:=hrel;by_cases hjl:j<m.length
    ·obtain⟨b2,o2,ha2,hbl2,hc2⟩:=HI.out Ω
     have hcj:=(hat.bel.cell (p:=⟨b2,o2+j,none⟩) hbl2).trans (hc2 j hjl);have HTJ:=Hd (show aB (aB st0 p) (m.take (j+1))=a6 (aB (aB st0 p) (m.take j)) m[j] by
      rw[Xo hjl,df])
     have hlt64:=cR (cR (s:=st0) Ξ p) (m.take j);have hj0:(0:Int)≤(j:Int):=Ω;have hj1:(j:Int)<(m.length:Int):=Ω;rw[ha2];clear hc2;generalize aB (aB st0 p) (m.take j)=S at *
     generalize m[j]=x at *
     go_wp2_with fail;refine(dh sb S x _ _ hlt64 hat.st).mono ?_;rintro e w3⟨rfl,hs3,hg3⟩;have hat3:=hat.grow hs3 hg3;have hb3:Below w.heap.size D w3:=hb0.grown hg3 (by have:=hat.bel.size;omega) (fun k hk=>by cases hk;exact ZE hat.lo);clear hs3 hg3 hat hb0;go_wp2;go_roundw;case rel=>exact⟨j+1,Ω,by go_num,by rw[HTJ.out];exact hat3,hb3⟩
     case measure=>exact ϝ
    ·have hje:m.take j=m:=Xq Ω
     rw[hje]at hat
     have HTK:=Hd (show aB st0 (l.take (k+1)).flatten=aB (aB st0 p) m∧BitVec.ofNat 64 (l.take (k+1)).flatten.length=BitVec.ofNat 64 p.length+BitVec.ofNat 64 m.length from by
      rw[HT.out,ZI,XP,Yz,Yf,HP.out,bM,Xa,BitVec.ofNat_add];exact⟨rfl,rfl⟩)
     have hst:=hat.st;have cL:wr.cell? ⟨sb,137,none⟩=some (.int .u64 (Q (BitVec.ofNat 64 p.length))):=by rw[aR hst Ω,EX]
     have fL:wr.frozen? ⟨sb,137,none⟩=false:=Xi wr _ _ _ _ hst;have hq:=zc (BitVec.ofNat 64 p.length) m.length Ω;have hq':=A7 (BitVec.ofNat 64 p.length) m.length Ω;have HH:=Hd ((bH (.int .u64 (Q (BitVec.ofNat 64 p.length+BitVec.ofNat 64 m.length))) hst Ω).trans (XH (fun r=>some (Obj.cells r 325 (0,0))) (l9 _)));have HAT:=Hd hat
     clear hat hst hje;generalize BitVec.ofNat 64 p.length=L1 at *
     generalize BitVec.ofNat 64 m.length=L2 at *
     generalize aB (aB st0 p) m=S at *
     go_wp2;go_roundw;case rel =>
      refine⟨k+1,Ω,by go_num,?_⟩;rw[HTK.out.1,HTK.out.2];exact HAT.out.grow HH.out (bz (cH _ _) (.inr rfl) _)
     case measure=>exact ϝ
  ·have hke:l.take k=l:=Xq Ω
   rw[hke]at hat
   clear hke;have hlt64:=cR (s:=st0) Ξ l.flatten;go_wp2_with fail;refine(dh sb _ 128 _ _ hlt64 hat.st).mono ?_;rintro e w2⟨rfl,hs2,hg2⟩;have hat2:=hat.grow hs2 hg2;clear hs2 hg2 hat hlt64;obtain⟨len,χ⟩:∃len,len=l.flatten.length:=⟨_,rfl⟩;have hS0:(a6 (aB st0 l.flatten) 128).n=(len+1)%64:=by
    rw[jm (cR Ξ _),mK Ξ,χ];show((0+l.flatten.length)%64+1)%64=_;omega
   rw[← χ]at hat2;have hlm:len≤1000000000:=Ω;have HLEN:=Hd χ;clear χ;go_wp2;go_loopw [41] (fun _ wr=>∃z:Nat,z≤cV len∧SumAt w sb (aB (a6 (aB st0 l.flatten) 128) (List.replicate z 0)) (BitVec.ofNat 64 len) wr) (fun _ wr=>(120-(intOf ((wr.cell? ⟨sb,136,none⟩).getD undef)).toNat)%64);case atStart=>exact⟨0,Yb _,hat2⟩
   case round =>
    clear hat2;obtain⟨z,hz,hat⟩:=hrel;have hSn:(aB (a6 (aB st0 l.flatten) 128) (List.replicate z 0)).n=(len+1+z)%64:=by
     rw[mK (eN _ _),hS0,Zx];omega
    have hZ:cV len=(119-len%64)%64:=rfl;have hlt64:(aB (a6 (aB st0 l.flatten) 128) (List.replicate z 0)).n<64:=cR (eN _ _) _;have hcn:wr.cell? ⟨sb,136,none⟩=some (.int .i64 (aB (a6 (aB st0 l.flatten) 128) (List.replicate z 0)).n):=by rw[aR hat.st Ω,uV]
    by_cases hzl:z<cV len
    ·have HTZ:=Hd (show aB (a6 (aB st0 l.flatten) 128) (List.replicate (z+1) 0)=a6 (aB (a6 (aB st0 l.flatten) 128) (List.replicate z 0)) 0 by
      rw[ZG,df])
     have h56:(aB (a6 (aB st0 l.flatten) 128) (List.replicate z 0)).n≠56:=by rw[hSn];omega
     clear hSn hZ;generalize aB (a6 (aB st0 l.flatten) 128) (List.replicate z 0)=S at *
     have he:((S.n:Int) !=56)=true:=by rw[bne_iff_ne];omega
     have he':((S.n:Int)==56)=false:=by rw[Zl];omega
     go_wp2_with fail;refine(dh sb S 0 _ _ hlt64 hat.st).mono ?_;rintro e w3⟨rfl,hs3,hg3⟩;have hat3:=hat.grow hs3 hg3;have hc3:w3.cell? ⟨sb,136,none⟩=some (.int .i64 ((S.n+1)%64:Nat)):=by rw[aR hs3 Ω,uV,jm hlt64]
     clear hs3 hg3 hat
     go_wp2;go_roundw;case rel=>exact⟨z+1,Ω,by rw[HTZ.out];exact hat3⟩
     case measure =>
      simp only[hc3,hcn,Option.getD_some,intOf,Ys];omega
    ·have hze:z=cV len:=Ω
     have h56:(aB (a6 (aB st0 l.flatten) 128) (List.replicate z 0)).n=56:=by rw[hSn];omega
     clear hSn hZ hzl;subst hze;obtain⟨S,hS⟩:∃S,S=aB (a6 (aB st0 l.flatten) 128) (List.replicate (cV len) 0):=⟨_,rfl⟩;rw[← hS]at hat hlt64 hcn h56;have HS:=Hd hS;clear hS hz hS0;have he:((S.n:Int) !=56)=false:=by rw[h56];decide
     have he':((S.n:Int)==56)=true:=by rw[h56];decide
     clear h56;go_wp2;go_loopw [8] (fun i w5=>∃j:Nat,j≤8∧i= .int .i64 (7-(j:Int))∧SumAt w sb (aB S ((aG len).take j)) (BitVec.ofNat 64 len) w5) (fun i _=>(intOf i+1).toNat);case atStart=>exact⟨0,Ω,rfl,hat⟩
     case round =>
      clear hat hcn he he';obtain⟨j,hj,rfl,hat⟩:=hrel;by_cases hj8:j<8
      ·have cL:wr.cell? ⟨sb,137,none⟩=some (.int .u64 (len:Int)):=by rw[aR hat.st Ω,EX,un len Ω]
       have hlb:(len:Int)≤1000000000:=Ω;have hl0:(0:Int)≤(len:Int):=Ω;have hlt64j:=cR hlt64 ((aG len).take j);have HTJ:=Hd (show aB S ((aG len).take (j+1))=a6 (aB S ((aG len).take j)) (ay len j) by
        rw[bV len hj8,df])
       clear hlt64;generalize aB S ((aG len).take j)=S2 at *
       have E0:=Hd (show(len:Int)*8/72057594037927936=B8 (ay len 0) by rw[bu len 0,show 2^(8*(7-0))=72057594037927936 from rfl];omega);have E1:=Hd (show(len:Int)*8/281474976710656=B8 (ay len 1) by rw[bu len 1,show 2^(8*(7-1))=281474976710656 from rfl];omega);have E2:=Hd (show(len:Int)*8/1099511627776=B8 (ay len 2) by rw[bu len 2,show 2^(8*(7-2))=1099511627776 from rfl];omega);have E3:=Hd (show(len:Int)*8/4294967296=B8 (ay len 3) by rw[bu len 3,show 2^(8*(7-3))=4294967296 from rfl];omega);have E4:=Hd (show(len:Int)*8/16777216%256=B8 (ay len 4) by rw[bu len 4,show 2^(8*(7-4))=16777216 from rfl];omega);have E5:=Hd (show(len:Int)*8/65536%256=B8 (ay len 5) by rw[bu len 5,show 2^(8*(7-5))=65536 from rfl];omega);have E6:=Hd (show(len:Int)*8/256%256=B8 (ay len 6) by rw[bu len 6,show 2^(8*(7-6))=256 from rfl];omega);have E7:=Hd (show(len:Int)*8%256=B8 (ay len 7) by rw[bu len 7,show 2^(8*(7-7))=1 from rfl];omega);have hj8':j=0∨j=1∨j=2∨j=3∨j=4∨j=5∨j=6∨j=7:=Ω;rcases hj8' with rfl|rfl|rfl|rfl|rfl|rfl|rfl|rfl
       all_goals
        first|rw[show(7:Int)-((0:Nat):Int)=7 from rfl]|rw[show(7:Int)-((1:Nat):Int)=6 from rfl]|rw[show(7:Int)-((2:Nat):Int)=5 from rfl]|rw[show(7:Int)-((3:Nat):Int)=4 from rfl]|rw[show(7:Int)-((4:Nat):Int)=3 from rfl]|rw[show(7:Int)-((5:Nat):Int)=2 from rfl]|rw[show(7:Int)-((6:Nat):Int)=1 from rfl]|rw[show(7:Int)-((7:Nat):Int)=0 from rfl]
        go_wp2_with fail
        first|rw[E0.out]|rw[E1.out]|rw[E2.out]|rw[E3.out]|rw[E4.out]|rw[E5.out]|rw[E6.out]|rw[E7.out]
        refine(dh sb S2 _ _ _ hlt64j hat.st).mono ?_;rintro e w6⟨rfl,hs6,hg6⟩;have hat6:=hat.grow hs6 hg6;rw[← HTJ.out]at hat6;clear hs6 hg6 hat cL E0 E1 E2 E3 E4 E5 E6 E7;go_wp2;go_roundw;case rel=>exact⟨_,Ω,rfl,hat6⟩
        case measure=>simp[intOf]
      ·have h8:(aG len).take j=aG len:=Xq (by simp[aG];omega)
       rw[h8]at hat
       clear h8;have hj7:(7:Int)-(j:Int)= -1:=Ω;rw[hj7];clear hj7;go_wp2_with (with_reducible refine az rfl 24 rfl 32 _ vk ?_);have hz:=hat.bel.size;have hrs:w.heap.size<wr.heap.size:=(Array.getElem?_eq_some_iff.1 hat.res).1;have hbs:sb<wr.heap.size:=(Array.getElem?_eq_some_iff.1 hat.st).1;have hat9:SumAt w sb (aB S (aG len)) (BitVec.ofNat 64 len) (wr.alloc (.cells (row 32 fun _=> .int .u8 0) 24)) :=
        hat.grow ((Xf _ _ _ hbs).trans hat.st) (dM (cH _ _) _)
       obtain⟨ob,hob⟩:∃ob,ob=wr.heap.size:=⟨_,rfl⟩;have hnew:(wr.alloc (.cells (row 32 fun _=> .int .u8 0) 24)).heap[ob]?=some (.cells (aa 32 (eH (aB S (aG len)).h 0)) 24 (0,0)):=by
        rw[hob];exact Xe _ _
       have hfin:sha l.flatten=cm (aB S (aG len)).h:=by
        unfold sha pad;rw[bM,bM,bM,HLEN.out,HS.out,HLEN.out];rfl
       have HFIN:=Hd hfin;have hob1:w.heap.size<ob:=Ω;have hob2:sb<ob:=Ω;rw[← hob];clear hat hfin hob hrs hbs hz;generalize aB S (aG len)=S3 at *
       go_loopw [63] (fun i w9=>∃q:Nat,q≤32∧i= .int .i64 q∧SumAt w sb S3 (BitVec.ofNat 64 len) w9∧w9.heap[ob]?=some (.cells (aa 32 (eH S3.h q)) 24 (0,0))) (fun i _=>32-(intOf i).toNat);case atStart=>exact⟨0,Ω,rfl,hat9,hnew⟩
       case round =>
        clear hat9 hnew;obtain⟨q,hq,rfl,hat,ho⟩:=hrel;by_cases hq32:q<32
        ·have hq0:(0:Int)≤(q:Int):=Ω
         have hq1:(q:Int)<32:=Ω;have ch:wr.cell? ⟨sb,q/4,none⟩=some (.int .u32 (U (S3.h (q/4)))):=by rw[aR hat.st Ω,Ks Ω]
         have co:wr.cell? ⟨ob,q,none⟩=some (.int .u8 (B8 (eH S3.h q q))):=a9 ho hq32;have fo:wr.frozen? ⟨ob,q,none⟩=false:=Xi wr _ _ _ _ ho;have HO:=Hd ho;have HOK:=Hd (iT S3.h q);have HVAL:=Hd (mS S3.h q);obtain⟨u0,u1⟩:=kX (S3.h (q/4));clear ho;have W4:q%4=0∨q%4=1∨q%4=2∨q%4=3:=Ω;rcases W4 with hr|hr|hr|hr
         all_goals
          have hv:=HVAL.out _ hr;simp only[Nat.reduceMul,Nat.reduceSub,Nat.reducePow]at hv
          first|have hri:(q:Int)%4=0:=by omega|have hri:(q:Int)%4=1:=by omega|have hri:(q:Int)%4=2:=by omega|have hri:(q:Int)%4=3:=Ω
          clear hr;go_wp2;go_roundw;case rel =>
           first|rw[show U (S3.h (q/4))/16777216=B8 (cm S3.h q) by omega]|rw[show U (S3.h (q/4))/65536%256=B8 (cm S3.h q) by omega]|rw[show U (S3.h (q/4))/256%256=B8 (cm S3.h q) by omega]|rw[show U (S3.h (q/4))%256=B8 (cm S3.h q) by omega]
           refine⟨q+1,Ω,by go_num,hat.setCell hob1 (Nat.ne_of_gt hob2) _,?_⟩;rw[bv _ HO.out hq32,HOK.out]
          case measure=>exact ϝ
        ·have hro:aa 32 (eH S3.h q)=aa 32 (sha l.flatten):=gS fun i hi=>by
          unfold eH;rw[Ρ Ω,HFIN.out]
         rw[hro]at ho;have HO:=Hd ho;have HA:=Hd hat
         have HSZ:=Hd (show(prog.info? 24).map (·.size)=some (aa 32 (sha l.flatten)).size by rw[Ab,ai]);clear ho hro hat HFIN;go_wp2_with (first
          | ((refine ϗ (.load 24 _) ?_);refine XW rfl 24 _ rfl ob rfl 24 (aa 32 (sha l.flatten)) (0,0) _ HO.out underlying24 rfl HSZ.out ?_)
          | ((refine ϗ (.store 24 _ _) ?_);refine Xu rfl 24 _ _ rfl rfl w.heap.size (aa 32 (sha l.flatten)) rfl rfl 24 _ HA.out.res HSZ.out (by rw[ai,ai]) (bS _ _) ?_))
         refine Ϣ (Yy rfl _ _ w.heap.size 24 (aa 32 (sha l.flatten)) (0,0) _ rfl (aF HA.out.res) underlying24 rfl HSZ.out) rfl ?_;exact⟨rfl,aZ HA.out.bel (Xn _) _⟩
theorem BRows.shape{w:ϑ}{v:ό}{l:List Δ}(h:BRows w v l):∃a c,v= .slice a l.length c:=by obtain⟨a,c,e,_⟩:=h;exact⟨a,c,e⟩
theorem BRow.shape{w:ϑ}{v:ό}{l:Δ}(h:BRow w v l):∃a c,v= .slice a l.length c:=by obtain⟨a,c,e,_⟩:=h;exact⟨a,c,e⟩

theorem FR(n:Nat):madeCells #[Value.int .u8 0] n=aa n fun _=>0:=by
 apply Array.ext';rw[toList_madeCells_one];simp only[aa,row,List.toList_toArray];rw[List.map_const',ZX];rfl
theorem FS(n:Nat)(h:n≤1000000000)(w:ϑ):(Instr.makeSlice 29 (.int .i64 (n:Int)) (.int .i64 (n:Int))).run prog w= .ok (.slice (some ⟨w.heap.size,0,none⟩) n n) (w.alloc (.cells (aa n fun _=>0) 5)):=by
 rw[← FR];exact run_make_row' 29 5 _ 1 underlying29 uJ rfl .i64 .i64 n Ω Ω w
section
open Go.ChangeShapes Go.WideShapes Go.ChangeAt Go.Deep
def NRow(w:ϑ)(v:ό)(l:List Φ):Prop :=
 ∃a c,v= .slice a l.length c∧(a=none→c=0)∧(0<l.length→∃b off,a=some ⟨b,off,none⟩∧b<w.heap.size∧∀(i:Nat) (h:i<l.length) (j:Nat),j<32→w.cell? ⟨b,off+i*32+j,none⟩=some (.int .u8 (B8 (l[i] j))))
theorem NRow.below{w Z:ϑ}{v:ό}{l:List Φ}(h:NRow w v l)(hb:Υ w Z):NRow Z v l:=by
 obtain⟨a,c,rfl,hn,h⟩:=h;refine⟨a,c,rfl,hn,fun h0=>?_⟩;obtain⟨b,off,rfl,h1,h2⟩:=h h0;exact⟨b,off,rfl,Xl h1 hb.size,fun i hi j hj=>(hb.cell (p:=⟨b,off+i*32+j,none⟩) h1).trans (h2 i hi j hj)⟩
theorem FT{y:Int}(h:(Lit.int .u8 y).wf=true):∃x:Γ,y=B8 x:=by
 unfold Lit.wf at h;rw[Xs,ZW,ZW,show IntKind.u8.min=0 by decide,show IntKind.u8.max=255 by decide]at h;refine⟨BitVec.ofNat 8 y.toNat,?_⟩;unfold B8;rw[Xv];omega
theorem C2{y:Int}(h:(Lit.int .i64 y).wf=true): -9223372036854775808≤y∧y≤9223372036854775807:=by
 unfold Lit.wf at h;rw[Xs,ZW,ZW,show IntKind.i64.min= -9223372036854775808 by decide,show IntKind.i64.max=9223372036854775807 by decide]at h;exact h
theorem BN{w:ϑ}{a:Addr}{v:ό}(h:w.cell? a=some v):a.block<w.heap.size:=by
 unfold World.cell? at h;split at h
 ·rename_i hb
  exact(Array.getElem?_eq_some_iff.1 hb).1
 ·cases h
theorem xv{a:Addr}{i:Nat}(h:a.spot=none):a.add i=⟨a.block,a.off+i,none⟩:=by
 obtain⟨b,off,spot⟩:=a;simp only at h;subst h;unfold Addr.add;split
 ·rename_i hz;subst hz;rfl
 ·rfl
end
end Go.Proofs.YtoifhhljfaoejaaGreatDoor
