/- Lemmas of the law; no condition beyond those written. -/
import Derived.Test.YtoifhhljfaoejaaGreatDoorPkAF
import Derived.Lib.AppendStr
set_option maxRecDepth 100000
set_option maxHeartbeats 8000000
set_option linter.unusedVariables false
set_option linter.unusedSimpArgs false
set_option linter.unusedSectionVars false
namespace Go.Proofs.YtoifhhljfaoejaaGreatDoor
open Go.Proofs.Tryz Go Go.RowKit Go.Shelf
noncomputable def Man.good(m:Man)(k:Φ):Bool:=gV k m.id m.κ m.cs&&mw m.κ m.sg m.body
theorem kv(m:Man)(hm:m.Ok)(k:Φ)(p:ϊ)(c:Nat)(w:ϑ)(hv:BRow w (.slice p 80 c) m.wr) :
 Rt 157 #[.agg (aa 32 k),.agg (m.row p 80 c)] w (.int .i64 (if m.good k then 0 else 11)):=by
 have I:=Loc.nil w;have HB:=Hd (fun J (V:Υ w J)=>Am m hm p c J (hv.below V));have hbl:=Man.body_length hm;have HC:=Hd (fun J=>sS k m.id m.κ m.cs J hm.i0 hm.i1);have hs:=(fun J (v:ό) (hv:BRows J v [m.body])=>mi m.κ m.sg v [m.body] J hv Ϡ Ϡ Ϟ);rw[show[m.body].flatten=m.body from by simp]at hs;have HS:=Hd hs;have HSO:=Hd (show dA (leN m.κ) (leN m.sg) (leN fun i=>m.sg (32+i)) m.body=mw m.κ m.sg m.body from rfl);rw[HSO.out]at HS;have HG:=Hd (show m.good k=(gV k m.id m.κ m.cs&&mw m.κ m.sg m.body)from rfl);rw[HG.out];clear hs HSO HG hv hbl hm;generalize gV k m.id m.κ m.cs=C,mw m.κ m.sg m.body=S at *
 have HROW:=Hd (show m.row p 80 c=mfR m.ν m.ζ m.ρ p 80 c m.id m.κ m.cs m.sg from rfl);rw[HROW.out]at HB ⊢;clear HROW;obtain⟨b,hb⟩:∃b,b=m.body:=⟨_,rfl⟩;rw[← hb]at HB HS;clear hb;obtain⟨ν,ζ,ρ,wr,id,κ,cs,sg⟩:=m;dsimp only at *
 cases C
 ·rw[show(if(false&&S)=true then(0:Int)else 11)=11 from by simp]
  go_enter func157,ntmps157;go_wp2_with (first|refine aU ?_|((refine gN 21 ?_;go_wp2_with fail))|refine gBp 2 fun b2 J I=>?_|refine gBp 3 fun b3 J I=>?_|(refine gN 9 ?_;refine lKk (HB.out _ I.bel) ?_;rintro e J⟨g9,Y9,Z9,rfl,W9,hN⟩;refine Ϩ (I.join hN) fun I=>?_)|(go_at_call 209;go_loud (refine(HC.out _).mono ?_);rintro e J⟨rfl,V⟩;replace I:=I.keep V;refine p4 ?_)|refine ab fun J I=>?_);go_ret;exact⟨rfl,I.bel⟩
 ·cases S
  ·rw[show(if(true&&false)=true then(0:Int)else 11)=11 from by simp]
   go_enter func157,ntmps157;go_wp2_with (first|refine aU ?_|((refine gN 21 ?_;go_wp2_with (first|((with_reducible show wpList _ _ _ (⟨_,_,_,_,_,some _⟩::_) _ _);refine bU rfl rfl rfl ?_)|((refine ϗ (.load _ _) ?_);(refine lL I rfl rfl rfl ?_);clear I;intro J I;refine p4 ?_)|((refine gN 29 ?_);refine Bs I rfl rfl rfl fun b29 J I=>?_;refine p4 ?_)|(go_at_call 210;go_loud (refine(HS.out _ _ (iV (I.get (.head _)) (See.bytes I (v:= .slice (ϐ g9) 236 Y9)))).mono ?_);rintro e J⟨rfl,V⟩;replace I:=I.keep V;refine p4 ?_))))|refine gBp 2 fun b2 J I=>?_|refine gBp 3 fun b3 J I=>?_|(refine gN 9 ?_;refine lKk (HB.out _ I.bel) ?_;rintro e J⟨g9,Y9,Z9,rfl,W9,hN⟩;refine Ϩ (I.join hN) fun I=>?_)|(go_at_call 209;go_loud (refine(HC.out _).mono ?_);rintro e J⟨rfl,V⟩;replace I:=I.keep V;refine p4 ?_)|refine ab fun J I=>?_);go_ret;exact⟨rfl,I.bel⟩
  ·rw[show(if(true&&true)=true then(0:Int)else 11)=0 from by simp]
   go_enter func157,ntmps157;go_wp2_with (first|refine aU ?_|((refine gN 21 ?_;go_wp2_with (first|((with_reducible show wpList _ _ _ (⟨_,_,_,_,_,some _⟩::_) _ _);refine bU rfl rfl rfl ?_)|((refine ϗ (.load _ _) ?_);(refine lL I rfl rfl rfl ?_);clear I;intro J I;refine p4 ?_)|((refine gN 29 ?_);refine Bs I rfl rfl rfl fun b29 J I=>?_;refine p4 ?_)|(go_at_call 210;go_loud (refine(HS.out _ _ (iV (I.get (.head _)) (See.bytes I (v:= .slice (ϐ g9) 236 Y9)))).mono ?_);rintro e J⟨rfl,V⟩;replace I:=I.keep V;refine p4 ?_))))|refine gBp 2 fun b2 J I=>?_|refine gBp 3 fun b3 J I=>?_|(refine gN 9 ?_;refine lKk (HB.out _ I.bel) ?_;rintro e J⟨g9,Y9,Z9,rfl,W9,hN⟩;refine Ϩ (I.join hN) fun I=>?_)|(go_at_call 209;go_loud (refine(HC.out _).mono ?_);rintro e J⟨rfl,V⟩;replace I:=I.keep V;refine p4 ?_)|refine ab fun J I=>?_);go_ret;exact⟨rfl,I.bel⟩
instance TR:Ent 157:=eo func157
theorem kw(s:Sta)(q:Sq)(h:¬s.ac=0)(w:ϑ):Rt 216 #[.agg (stR s q)] w (.int .i64 0):=by
 have I:=Loc.nil w;have h2:(s.ac==0)=false:=by simpa using h
 go_enter func216,ntmps216;go_wp2_with (first|refine aU ?_|refine gBp 1 fun b1 J I=>?_|refine ab fun J I=>?_)
 all_goals(go_ret;exact⟨rfl,I.bel⟩)
instance TS:Ent 216:=eo func216
instance TT:RowTy 200 2:=⟨⟨_,underlying200,rfl⟩,Θ⟩
instance TU:RowZ 200 #[.bool false,.bool false]:=⟨Θ⟩
theorem Dg(s:Sta)(q:Sq)(w:ϑ)(hr:ReadS w s q)(hg:Good s)(hac:s.ac= -1)(hd:s.d0=false):Rt 169 #[.agg (stR s q),.agg #[.bool false,.bool false]] w (.tuple #[.int .i64 (-1),.bool false]):=by
 have I:=Loc.nil w;have HM:=Hd (fun J (h:Υ w J)=>ng s q J ⟨hr.r.below h,by have:=hr.a.vrow.below h;exact this.brow,by have:=hr.b.vrow.below h;exact this.brow,hr.zr,hr.za,hr.zb⟩ hg);have HT:=Hd (fun J=>kw s q (by rw[hac];decide) J);clear hr hg;obtain⟨fl,rv,m0,d0,t0,m1,d1,t1,ac⟩:=s;dsimp only at hac hd;subst hac;subst hd;go_enter func169,ntmps169;go_wp2_with (first|refine aU ?_|refine gBp 2 fun b2 J I=>?_|refine gBp 3 fun b3 J I=>?_|(refine gN 8 ?_;refine lV (HM.out _ I.bel) I fun J I=>?_)|(refine gN 11 ?_;refine lV (HT.out _) I fun J I=>?_)|refine ab fun J I=>?_)
 all_goals(go_ret2;exact⟨rfl,I.bel⟩)
instance TV:Ent 169:=eo func169
theorem n6{w:ϑ}{p:ϊ}{n c:Nat}{l:Δ}(h:BRow w (.slice p n c) l)(hp:p=none):c=0:=by
 obtain⟨a,c',e,hn,_⟩:=h;injection e with e1 e2 e3;rw[e3];exact hn (by rw[← e1];exact hp)
section
variable {D w:ϑ} {F:ύ} {bf bb bo bk kp a0 a1 cc:Nat} {fr fs:Φ}
theorem xQ(hF:CoM F bf bb bo bk kp a0 a1 cc)(d:Dv)(hS:∀x y z u c,SeeS D (F x y z u c) d.s d.q)(hm:d.s.m0=[])(I:Loc D w (d.at F bf bb bo kp fr fs)) :
 ϓ 168 #[aT cc,.int .i64 0] w fun e Z=>e= .returned (.bool false)∧Loc D Z (d.at F bf bb bo kp fr fs):=by
 have hG:=hF.g;have hp:=(hS #[] #[] #[] #[] #[]).za hm;have hc:=n6 ((hS _ _ _ _ _).read I).a hp;clear hS;obtain⟨er,pr,y,f,n,m,p,kn,kc,φ,s,q,bt,rg⟩:=d;obtain⟨fl,rv,m0,d0,t0,m1,d1,t1,ac⟩:=s;obtain⟨pr',cr',p0,c0,p1,c1⟩:=q;dsimp only[Dv.at]at *
 subst hm;subst hp;subst hc;go_enter func168,ntmps168;go_wp2_with (first|refine aU ?_|refine gBp 5 fun b5 J I=>?_|(refine gN 16 ?_;refine lV (mr _) I fun J I=>?_)|refine ab fun J I=>?_);refine Ϭ 21 I fun H I=>?_;refine uG 0 ?_;refine uG 1 ?_;refine uG 2 ?_;refine uS 3 ?_;refine uS 4 ?_;refine uS 5 ?_;refine uL 6 ?_;refine uS 7 ?_;refine uS 8 ?_;refine uG 9 ?_;refine uG 10 ?_;refine uS 11 ?_;refine uS 13 ?_;refine uL 12 ?_;refine uS 14 ?_;refine uS 15 ?_;refine uS 16 ?_;refine uL 17 ?_;refine uS 18 ?_;refine uG 19 ?_;refine uG 20 ?_;refine wD ?_;clear H;go_wp2_with fail
 all_goals(go_ret;exact⟨rfl,Loc.rem b5 I⟩)
theorem xR(hF:CoM F bf bb bo bk kp a0 a1 cc)(d:Dv)(hS:∀x y z u c,SeeS D (F x y z u c) d.s d.q)(hm:d.s.m1=[])(I:Loc D w (d.at F bf bb bo kp fr fs)) :
 ϓ 168 #[aT cc,.int .i64 1] w fun e Z=>e= .returned (.bool false)∧Loc D Z (d.at F bf bb bo kp fr fs):=by
 have hG:=hF.g;have hp:=(hS #[] #[] #[] #[] #[]).zb hm;have hc:=n6 ((hS _ _ _ _ _).read I).b hp;clear hS;obtain⟨er,pr,y,f,n,m,p,kn,kc,φ,s,q,bt,rg⟩:=d;obtain⟨fl,rv,m0,d0,t0,m1,d1,t1,ac⟩:=s;obtain⟨pr',cr',p0,c0,p1,c1⟩:=q;dsimp only[Dv.at]at *
 subst hm;subst hp;subst hc;go_enter func168,ntmps168;go_wp2_with (first|refine aU ?_|refine gBp 5 fun b5 J I=>?_|(refine gN 16 ?_;refine lV (mr _) I fun J I=>?_)|refine ab fun J I=>?_);refine Ϭ 21 I fun H I=>?_;refine uG 0 ?_;refine uG 1 ?_;refine uG 2 ?_;refine uS 3 ?_;refine uS 4 ?_;refine uS 5 ?_;refine uL 6 ?_;refine uS 7 ?_;refine uS 8 ?_;refine uG 9 ?_;refine uG 10 ?_;refine uS 11 ?_;refine uS 13 ?_;refine uL 12 ?_;refine uS 14 ?_;refine uS 15 ?_;refine uS 16 ?_;refine uL 17 ?_;refine uS 18 ?_;refine uG 19 ?_;refine uG 20 ?_;refine wD ?_;clear H;go_wp2_with fail
 all_goals(go_ret;exact⟨rfl,Loc.rem b5 I⟩)
instance TW:Ent 168:=eo func168
theorem Dh(a b:Bool)(w:ϑ):(Instr.build 200 #[(0,.bool a),(1,.bool b)]).run prog w= .ok (.agg #[.bool a,.bool b]) w:=Θ
theorem Di(hF:CoM F bf bb bo bk kp a0 a1 cc)(d:Dv)(hS:∀x y z u c,SeeS D (F x y z u c) d.s d.q)(hg:Good d.s)(hm0:d.s.m0=[])(hm1:d.s.m1=[])(hac:d.s.ac= -1)(hd:d.s.d0=false)(hbt:d.bt= -1)(I:Loc D w (d.at F bf bb bo kp fr fs)) :
 ϓ 99 #[aT cc] w fun e Z=>e= .returned (.int .i64 18)∧Loc D Z (d.at F bf bb bo kp fr fs):=by
 have hG:=hF.g;have hH:=hF.h;have hA:=hF.a;have hU:=hF.u;have hB:=hF.b;have hV:=hF.v;have hO:=hF.o;have hPP:=hF.p;have hQ:=hF.q;have hRR:=hF.r;have hKK:=hF.k;have hll:=hF.l;have hmm:=hF.m;have H0:=Hd (fun J (h:Loc D J (d.at F bf bb bo kp fr fs))=>xQ hF d hS hm0 h);have H1:=Hd (fun J (h:Loc D J (d.at F bf bb bo kp fr fs))=>xR hF d hS hm1 h);have HP:=Hd (fun J (h:Loc D J (d.at F bf bb bo kp fr fs))=>Dg d.s d.q J ((hS _ _ _ _ _).read h) hg hac hd);clear hS hg hac hd hm0 hm1;obtain⟨er,pr,y,f,n,m,p,kn,kc,φ,s,q,bt,rg⟩:=d;dsimp only[Dv.at]at *
 subst hbt;go_enter func99,ntmps99;go_wp2_with (first|refine aU ?_|refine gBp 3 fun b3 J I=>?_|(refine gN 8 ?_;refine lO (H0.out _ I) fun J I=>?_)|(refine gN 10 ?_;refine lO (H1.out _ I) fun J I=>?_)|(refine gN 11 ?_;refine ϙ (Dh _ _ _) fun J I=>?_)|refine ab fun J I=>?_);refine Ϭ 11 I fun H I=>?_;refine uG 0 ?_;refine uZ 4 ?_;refine uG 1 ?_;refine uG 2 ?_;refine uZ 3 ?_;refine rd1 5 fun K T=>?_;refine eVv (HP.out _ I.pop) I fun J I=>?_;refine kO T (I) fun H=>?_;refine uG 6 ?_;refine uG 7 ?_;refine uG 8 ?_;refine uG 9 ?_;refine uG 10 ?_;refine wD ?_;clear H;go_wp2_with (first|refine aU ?_|refine ab fun J I=>?_)
 all_goals(go_ret;exact⟨rfl,Loc.rem b3 I⟩)
instance TX:Ent 99:=eo func99
theorem An{M:Mem}(v:ό)(l:Δ)(hv:∀J,Loc D J M→BRow J v l)(h0:0<l.length)(h4:l.length<4)(I:Loc D w M) :
 ϓ 96 #[aT cc,v] w fun e Z=>e= .returned (.int .i64 4)∧Loc D Z M:=by
 have HR:=Hd (fun J (h:Loc D J M)=>vD v l J (hv J h) h0 h4);clear hv;go_enter func96,ntmps96;go_wp2_with (first|refine aU ?_|refine gBp 5 fun b5 J I=>?_|(refine gN 12 ?_;refine lV (HR.out _ I) I fun J I=>?_)|refine ab fun J I=>?_)
 all_goals(go_ret;exact⟨rfl,Loc.rem b5 I⟩)
instance TY:Ent 96:=eo func96
end
abbrev mvR(k:Int)(p:ϊ)(n c:Nat)(N:Int):Ψ:= #[.int .i64 k,.slice p n c,.int .i64 N]
abbrev dvR(bf cc:Nat):Ψ:= #[aT bf,aT cc,.bool false]
instance TZ:RowTy 47 3:=⟨⟨_,underlying47,rfl⟩,Θ⟩
instance T0:RowTy 180 3:=⟨⟨_,underlying180,rfl⟩,Θ⟩
instance T1:RowZ 180 (mvR 0 none 0 0 0):=⟨Θ⟩
instance Ol:Row1 #[] 0:=⟨rfl,Ϡ⟩
instance T2:RowTy 184 0:=⟨⟨_,underlying184,rfl⟩,Θ⟩
instance T3:RowZ 184 #[]:=⟨Θ⟩
theorem K5(p:ϊ)(n c:Nat)(N:Int)(w:ϑ):Rt 95 #[.agg (mvR 1 p n c N)] w (.iface 178 (.slice p n c)):=by
 have I:=Loc.nil w;go_enter func95,ntmps95;go_wp2_with (first|refine aU ?_|refine gBp 1 fun b1 J I=>?_|refine ab fun J I=>?_)
 all_goals(go_ret;exact⟨rfl,I.bel⟩)
theorem K6(p:ϊ)(n c:Nat)(N:Int)(w:ϑ):Rt 95 #[.agg (mvR 2 p n c N)] w (.iface 180 (.agg (mvR 2 p n c N))):=by
 have I:=Loc.nil w;go_enter func95,ntmps95;go_wp2_with (first|refine aU ?_|refine gBp 1 fun b1 J I=>?_|refine ab fun J I=>?_)
 all_goals(go_ret;exact⟨rfl,I.bel⟩)
theorem K7(p:ϊ)(n c:Nat)(N:Int)(w:ϑ):Rt 95 #[.agg (mvR 4 p n c N)] w (.iface 184 (.agg #[])):=by
 have I:=Loc.nil w;go_enter func95,ntmps95;go_wp2_with (first|refine aU ?_|refine gBp 1 fun b1 J I=>?_|refine ab fun J I=>?_)
 all_goals(go_ret;exact⟨rfl,I.bel⟩)
theorem K8(p:ϊ)(n c:Nat)(N:Int)(w:ϑ):Rt 95 #[.agg (mvR 6 p n c N)] w (.iface 186 (.slice p n c)):=by
 have I:=Loc.nil w;go_enter func95,ntmps95;go_wp2_with (first|refine aU ?_|refine gBp 1 fun b1 J I=>?_|refine ab fun J I=>?_)
 all_goals(go_ret;exact⟨rfl,I.bel⟩)
instance Qk:Ent 95:=eo func95
theorem IX(v:ό)(w:ϑ):(Instr.typeAssert (.iface 178 v) 20 178 true).run prog w= .ok (.tuple #[v,.bool true]) w:=Θ
theorem Gr(v:ό)(w:ϑ):(Instr.typeAssert (.iface 180 v) 20 180 true).run prog w= .ok (.tuple #[v,.bool true]) w:=Θ
theorem sV(v:ό)(w:ϑ):(Instr.typeAssert (.iface 180 v) 20 178 true).run prog w= .ok (.tuple #[.slice none 0 0,.bool false]) w:=Θ
theorem IY(v:ό)(w:ϑ):(Instr.typeAssert (.iface 184 v) 20 184 true).run prog w= .ok (.tuple #[v,.bool true]) w:=Θ
theorem vE(v:ό)(w:ϑ):(Instr.typeAssert (.iface 184 v) 20 178 true).run prog w= .ok (.tuple #[.slice none 0 0,.bool false]) w:=Θ
theorem sX(v:ό)(w:ϑ):(Instr.typeAssert (.iface 184 v) 20 180 true).run prog w= .ok (.tuple #[.agg (mvR 0 none 0 0 0),.bool false]) w:=Θ
theorem rA(v:ό)(w:ϑ):(Instr.typeAssert (.iface 184 v) 20 183 true).run prog w= .ok (.tuple #[.agg #[],.bool false]) w:=Θ
theorem Dj(v:ό)(w:ϑ):(Instr.typeAssert (.iface 186 v) 20 186 true).run prog w= .ok (.tuple #[v,.bool true]) w:=Θ
theorem rC(v:ό)(w:ϑ):(Instr.typeAssert (.iface 186 v) 20 178 true).run prog w= .ok (.tuple #[.slice none 0 0,.bool false]) w:=Θ
theorem o9(v:ό)(w:ϑ):(Instr.typeAssert (.iface 186 v) 20 180 true).run prog w= .ok (.tuple #[.agg (mvR 0 none 0 0 0),.bool false]) w:=Θ
theorem n7(v:ό)(w:ϑ):(Instr.typeAssert (.iface 186 v) 20 183 true).run prog w= .ok (.tuple #[.agg #[],.bool false]) w:=Θ
theorem rE(v:ό)(w:ϑ):(Instr.typeAssert (.iface 186 v) 20 184 true).run prog w= .ok (.tuple #[.agg #[],.bool false]) w:=Θ
theorem np(v:ό)(w:ϑ):(Instr.typeAssert (.iface 186 v) 20 185 true).run prog w= .ok (.tuple #[.agg #[],.bool false]) w:=Θ
section
variable {D w:ϑ} {M:Mem} {cc:Nat} {p:ϊ} {n c:Nat} {N:Int}
theorem tP(R:Int→Mem→Prop)(hf:∀b J,Loc D J ((b,mvR 1 p n c N,47)::M)→ϓ 96 #[aT cc,.slice p n c] J fun e Z=>∃v M',e= .returned (.int .i64 v)∧R v M'∧Loc D Z ((b,mvR 1 p n c N,47)::M'))(I:Loc D w M):ϓ 52 #[aT cc,.agg (mvR 1 p n c N)] w fun e Z=>∃v M',e= .returned (.tuple #[.slice none 0 0,.int .i64 v])∧R v M'∧Loc D Z M':=by
 have HF:=Hd hf;have HM:=Hd (fun J=>K5 p n c N J);clear hf;have ht:=IX;go_enter func52,ntmps52;go_wp2_with (first|refine aU ?_|refine gBp 3 fun b3 J I=>?_|refine gBp 7 fun b7 J I=>?_|refine gBp 8 fun b8 J I=>?_|refine gBp 9 fun b9 J I=>?_|refine gBp 10 fun b10 J I=>?_|(refine gN 14 ?_;refine lV (HM.out _) I fun J I=>?_)|(refine gN 20 ?_;refine lKk (HF.out _ _ I) ?_;rintro e J⟨v,M',rfl,hRv,Y⟩;refine Ϥ Y fun I=>?_)|refine ab fun J I=>?_)
 all_goals(go_ret2;exact⟨v,M',rfl,hRv,Loc.rem b3 I⟩)
theorem xS(R:Int→Mem→Prop)(hf:∀b J,Loc D J ((b,mvR 6 p n c N,47)::M)→ϓ 101 #[aT cc,.slice p n c] J fun e Z=>∃v M',e= .returned (.int .i64 v)∧R v M'∧Loc D Z ((b,mvR 6 p n c N,47)::M'))(I:Loc D w M):ϓ 52 #[aT cc,.agg (mvR 6 p n c N)] w fun e Z=>∃v M',e= .returned (.tuple #[.slice none 0 0,.int .i64 v])∧R v M'∧Loc D Z M':=by
 have HF:=Hd hf;have HM:=Hd (fun J=>K8 p n c N J);clear hf;have ht0:=rC;have ht1:=o9;have ht2:=n7;have ht3:=rE;have ht4:=np;have ht:=Dj;go_enter func52,ntmps52;go_wp2_with (first|refine aU ?_|refine gBp 3 fun b3 J I=>?_|refine gBp 7 fun b7 J I=>?_|refine gBp 8 fun b8 J I=>?_|refine gBp 9 fun b9 J I=>?_|refine gBp 10 fun b10 J I=>?_|(refine gN 14 ?_;refine lV (HM.out _) I fun J I=>?_)|(refine gN 50 ?_;refine lKk (HF.out _ _ I) ?_;rintro e J⟨v,M',rfl,hRv,Y⟩;refine Ϥ Y fun I=>?_)|refine ab fun J I=>?_)
 all_goals(go_ret2;exact⟨v,M',rfl,hRv,Loc.rem b3 I⟩)
theorem Dk(R:Int→Mem→Prop)(hf:∀b J,Loc D J ((b,mvR 4 p n c N,47)::M)→ϓ 99 #[aT cc] J fun e Z=>∃v M',e= .returned (.int .i64 v)∧R v M'∧Loc D Z ((b,mvR 4 p n c N,47)::M'))(I:Loc D w M):ϓ 52 #[aT cc,.agg (mvR 4 p n c N)] w fun e Z=>∃v M',e= .returned (.tuple #[.slice none 0 0,.int .i64 v])∧R v M'∧Loc D Z M':=by
 have HF:=Hd hf;have HM:=Hd (fun J=>K7 p n c N J);clear hf;have ht0:=vE;have ht1:=sX;have ht2:=rA;have ht:=IY;go_enter func52,ntmps52;go_wp2_with (first|refine aU ?_|refine gBp 3 fun b3 J I=>?_|refine gBp 7 fun b7 J I=>?_|refine gBp 8 fun b8 J I=>?_|refine gBp 9 fun b9 J I=>?_|refine gBp 10 fun b10 J I=>?_|(refine gN 14 ?_;refine lV (HM.out _) I fun J I=>?_)|(refine gN 39 ?_;refine lKk (HF.out _ _ I.pop) ?_;rintro e J⟨v,M',rfl,hRv,Y⟩;refine Ϥ Y fun I=>?_)|refine ab fun J I=>?_)
 all_goals(go_ret2;exact⟨v,M',rfl,hRv,Loc.rem b3 I⟩)
instance Ql:Ent 52:=eo func52
end
section
variable {D w:ϑ} {M:Mem} {bf bb cc dd:Nat} {er pr:Int} {p:ϊ} {n c:Nat} {k N:Int}
theorem BW(hA:At M bf (flR bb er pr) 106)(hD:At M dd (dvR bf cc) 126)(R:ό→Int→Mem→Prop)(hR:∀o v M',R o v M'→¬v=8∧(dd,dvR bf cc,126)∈M')(hc:∀b J,Loc D J ((b,mvR k p n c N,47)::M)→ϓ 52 #[aT cc,.agg (mvR k p n c N)] J fun e Z=>∃po no co v M',e= .returned (.tuple #[.slice po no co,.int .i64 v])∧R (.slice po no co) v M'∧Loc D Z ((b,mvR k p n c N,47)::M'))(I:Loc D w M):ϓ 18 #[aT dd,.agg (mvR k p n c N)] w fun e Z=>∃po no co v M',e= .returned (.tuple #[.slice po no co,.int .i64 v])∧R (.slice po no co) v M'∧Loc D Z M':=by
 have HC:=Hd hc;have HRR:=Hd hR;clear hc hR;have HDEAD:=Hd (fun(b:Nat) J (h:Loc D J ((b,mvR k p n c N,47)::M))=>(show ϓ 51 #[aT bf] J fun e Z=>e= .returned (.bool false)∧Loc D Z ((b,mvR k p n c N,47)::M)from by
  have I:=h;go_enter func51,ntmps51;go_wp2_with (first|refine aU ?_|refine ab fun J I=>?_)
  all_goals(go_ret;exact⟨rfl,I⟩)))
 go_enter func18,ntmps18;go_wp2_with (first|refine aU ?_|refine gBp 3 fun b3 J I=>?_|(refine gN 17 ?_;refine lO (HDEAD.out _ _ I) fun J I=>?_)|refine ab fun J I=>?_);have hK1:=I.get (At.mem (M:=(b3,mvR k p n c N,47)::M) (b:=dd));have hK2:=I.get (At.mem (M:=(b3,mvR k p n c N,47)::M) (b:=b3));haveI hH1:Held (fun Z=>Z.heap[dd]?=some (.cells (dvR bf cc) 126 (0,0))∧Z.heap[b3]?=some (.cells (mvR k p n c N) 47 (0,0))) dd (dvR bf cc) 126:=⟨fun w h=>h.1⟩;haveI hH2:Held (fun Z=>Z.heap[dd]?=some (.cells (dvR bf cc) 126 (0,0))∧Z.heap[b3]?=some (.cells (mvR k p n c N) 47 (0,0))) b3 (mvR k p n c N) 47:=⟨fun w h=>h.2⟩;refine mX (S:=fun Z=>Z.heap[dd]?=some (.cells (dvR bf cc) 126 (0,0))∧Z.heap[b3]?=some (.cells (mvR k p n c N) 47 (0,0))) 11 ((by first|exact⟨I.drew.get (hQ.2.tail _),I.drew.get (.head _)⟩|exact⟨hK1,hK2⟩)) ?_;intro H;replace I:=I.drew;refine uG 0 ?_;refine uZ 4 ?_;refine uG 1 ?_;refine uG 2 ?_;refine uZ 3 ?_;refine rd1 5 fun K T=>?_;refine eK (HC.out _ _ I) ?_;rintro e J⟨po,no,co,v,M',rfl,hRv,Y⟩;refine⟨_,rfl,?_⟩;have hQ:=HRR.out _ _ _ hRv;refine Ϫ Y fun I=>?_;refine kO T ((by first|exact⟨I.get (hQ.2.tail _),I.get (.head _)⟩|exact⟨hK1,hK2⟩)) fun H=>?_;refine uG 6 ?_;refine uG 7 ?_;refine uG 8 ?_;refine uG 9 ?_;refine uG 10 ?_;refine wD ?_;clear H;have hq8:=hQ.1;have HE:=Hd (show ∃M',R (.slice po no co) v M'∧Loc D J M' from⟨M',hRv,I.pop⟩);clear hQ hRv I;have I:=Loc.nil J;go_wp2_with (first|refine aU ?_|refine ab fun J I=>?_);obtain⟨M2,hE1,hE2⟩:=HE.out
 all_goals(go_ret2;exact⟨po,no,co,v,M2,rfl,hE1,hE2⟩)
instance T4:Ent 18:=eo func18
end
section
variable {D w:ϑ} {F:ύ} {bf bb bo bk kp a0 a1 cc dd:Nat} {fr fs:Φ}
theorem xT(hF:CoM F bf bb bo bk kp a0 a1 cc)(hD:∀x y z u c,At (F x y z u c) dd (dvR bf cc) 126)(d:Dv)(ok:d.Ok)(hS:∀x y z u c,SeeS D (F x y z u c) d.s d.q)(I:Loc D w (d.at F bf bb bo kp fr fs)) :
 ϓ 21 #[aT dd] w fun e Z=>∃q' Sr S0 S1,e= .returned (.agg (stR d.s q'))∧HoldQ Sr S0 S1 d.s q'∧Loc D Z (S1++(S0++(Sr++d.at F bf bb bo kp fr fs))):=by
 have hA:=hF.a;have hU:=hF.u;have hB:=hF.b;have hV:=hF.v;have hO:=hF.o;have hPP:=hF.p;have hQ:=hF.q;have hRR:=hF.r;have hG:=hF.g;have hH:=hF.h;have hKK:=hF.k;have hll:=hF.l;have hmm:=hF.m;have HC:=Hd (fun(b:Nat) J (h:Loc D J ((b,xN,58)::d.at F bf bb bo kp fr fs))=>xP (F:=fun x y z u c=>(b,xN,58)::F x y z u c) (bf:=bf) (bb:=bb) (bo:=bo) (bk:=bk) (kp:=kp) (a0:=a0) (a1:=a1) (cc:=cc) (fr:=fr) (fs:=fs) Ϙ d ok (fun x y z u c=>Ϙ) h);clear hS ok;obtain⟨er,pr,y,f,n,m,p,kn,kc,φ,s,q,bt,rg⟩:=d;dsimp only[Dv.at]at *
 go_enter func21,ntmps21;go_wp2_with (first|refine aU ?_|refine gBp 2 fun b2 J I=>?_|(refine gN 7 ?_;refine lKk (HC.out _ _ I) ?_;rintro e J⟨q',Sr,S0,S1,rfl,hQ,Y⟩;refine Ϥ Y fun I=>?_)|refine ab fun J I=>?_);exact Ϣ (aj rfl I rfl) rfl ⟨q',Sr,S0,S1,rfl,hQ,Loc.rem b2 I⟩
instance T5:Ent 21:=eo func21
end
section
variable {D w:ϑ} {F:Ψ→Ψ→Mem} {bf bb:Nat} [hF:FlM F bf bb] {er pr:Int} {y:Ψ}
theorem xU(bf:Nat)(k:Int)(w:ϑ):(Instr.build 170 #[(0,aT bf),(1,.int .i64 k)]).run prog w= .ok (.agg (arR bf k)) w:=Θ
theorem Gs(I:Loc D w (F (flR bb er pr) y)):ϓ 46 #[aT bf,.int .i64 0] w fun e Z=>∃b,e= .returned (.tuple #[aT b,.int .i64 0])∧Loc D Z ((b,arR bf 64,170)::F (flR bb er pr) y):=by
 go_enter func46,ntmps46;go_wp2_with (first|refine aU ?_|refine gBp 26 fun b26 J I=>?_|(refine gN 10 ?_;refine lO (iZ (F:=F) (bf:=bf) (bb:=bb) I) fun J I=>?_)|(refine gN 25 ?_;refine ϙ (xU _ _ _) fun J I=>?_)|refine ab fun J I=>?_)
 all_goals(go_ret2;exact⟨b26,rfl,I⟩)
theorem Gt(I:Loc D w (F (flR bb er pr) y)):ϓ 46 #[aT bf,.int .i64 1] w fun e Z=>∃b,e= .returned (.tuple #[aT b,.int .i64 0])∧Loc D Z ((b,arR bf 96,170)::F (flR bb er pr) y):=by
 go_enter func46,ntmps46;go_wp2_with (first|refine aU ?_|refine gBp 26 fun b26 J I=>?_|(refine gN 10 ?_;refine lO (iZ (F:=F) (bf:=bf) (bb:=bb) I) fun J I=>?_)|(refine gN 25 ?_;refine ϙ (xU _ _ _) fun J I=>?_)|refine ab fun J I=>?_)
 all_goals(go_ret2;exact⟨b26,rfl,I⟩)
instance T6:Ent 46:=eo func46
end
theorem Gu(kp:Nat)(fr fs:Φ)(s:Sta)(q:Sq)(w:ϑ):(Instr.build 176 #[(0,.iface 115 (aT kp)),(1,.agg (aa 32 fr)),(2,.agg (aa 32 fs)),(3,.agg (stR s q)),(4,.int .i64 (-1))]).run prog w= .ok (.agg (coR kp fr fs s q (-1) fun _=>0)) w:=Θ
theorem xV(kp:Nat)(fr fs:Φ)(s:Sta)(q:Sq)(w:ϑ):ϓ 47 #[.iface 115 (aT kp),.agg (aa 32 fr),.agg (aa 32 fs),.agg (stR s q)] w fun e Z=>∃b,e= .returned (aT b)∧Loc w Z [(b,coR kp fr fs s q (-1) fun _=>0,176)]:=by
 have I:=Loc.nil w;have hB:=Gu kp fr fs s q;generalize coR kp fr fs s q (-1) (fun _=>0)=cr at *
 go_enter func47,ntmps47;go_wp2_with (first|refine aU ?_|refine gBp 5 fun b5 J I=>?_|refine gBp 6 fun b6 J I=>?_|refine gBp 7 fun b7 J I=>?_|refine gBp 14 fun b14 J I=>?_|(refine gN 13 ?_;refine ϙ hB fun J I=>?_)|refine ab fun J I=>?_)
 all_goals(go_ret;exact⟨b14,rfl,Loc.rem b5 (Loc.rem b6 (Loc.rem b7 I))⟩)
instance T7:Ent 47:=eo func47
theorem Gv(w:ϑ):Rt 44 #[.slice none 0 0] w (.tuple #[.agg (stR Sta.new Sq.none),.int .i64 0]):=by
 have I:=Loc.nil w;go_enter func44,ntmps44;go_wp2_with (first|refine aU ?_|refine gBp 2 fun b2 J I=>?_|(refine gN 9 ?_;refine lV (vA _) I fun J I=>?_)|refine ab fun J I=>?_);exact Ϣ (ao rfl I rfl rfl) rfl ⟨rfl,I.bel⟩
instance T8:Ent 44:=eo func44
abbrev vF(F:Ψ→Ψ→Ψ→Mem)(bf bo bk kp a0 a1 cc dd:Nat):ύ :=
 fun x y z u c=>(dd,dvR bf cc,126)::(cc,c,176)::(a1,arR bf 96,170)::(a0,arR bf 64,170)::(kp,kpR bo bk a0 a1,119)::(bk,u,166)::F x y z
theorem Gw(bo bk:Nat)(w:ϑ):(Instr.build 119 #[(0,aT bo),(1,aT bk)]).run prog w= .ok (.agg #[aT bo,aT bk,.pointer none,.pointer none]) w:=Θ
theorem Gx(bf cc:Nat)(w:ϑ):(Instr.build 126 #[(0,aT bf),(1,aT cc)]).run prog w= .ok (.agg (dvR bf cc)) w:=Θ
structure Dv.Fresh(d:Dv)(m:Int):Prop where
 ok:d.Ok
 n:d.n=1
 m:d.m=m
 s:d.s=Sta.new
 q:d.q=Sq.none
 bt:d.bt= -1
 rg:d.rg=fun _=>0
 f:∀i,16384≤i→d.f i=255
section
variable {D w:ϑ} {F:Ψ→Ψ→Ψ→Mem} {bf bb bo:Nat} {er pr:Int} {y:Ψ} {fr fs:Φ} {m:Int}
theorem BX(hF:OtM F bf bb bo)(hm0:0<m)(hm:m≤1048576)(he:0≤er∧er≤1099511627776)(hp:0≤pr∧pr≤1099511627776)(hy:Fl (fun _=>255) y)(I:Loc D w (F (flR bb er pr) y (otR bf fr fs 0 m))) :
 ϓ 15 #[aT bf,aT bo] w fun e Z=>∃bk kp a0 a1 cc dd d,e= .returned (.tuple #[aT dd,.int .i64 0])∧Dv.Fresh d m∧Loc D Z (d.at (vF F bf bo bk kp a0 a1 cc dd) bf bb bo kp fr fs):=by
 have hA:=hF.a;have hU:=hF.u;have hB:=hF.b;have hV:=hF.v;have hO:=hF.o;have hPP:=hF.p;have HBK:=Hd (fun J (h:Loc D J (F (flR bb er pr) y (otR bf fr fs 0 m)))=>vz (F:=F) (bf:=bf) (bb:=bb) (bo:=bo) hm0 hm he hp hy h);clear hy;have HM:=Hd (show(1:Int)≤m from hm0);have HMM:=Hd hm;clear hm0 hm;go_enter func15,ntmps15;go_wp2_with (first|refine aU ?_|refine gBp 8 fun b8 J I=>?_|refine gBp 43 fun b43 J I=>?_|(refine gN 19 ?_;refine lO (iZ (F:=fun x y=>F x y (otR bf fr fs 0 m)) (bf:=bf) (bb:=bb) I) fun J I=>?_)|(refine gN 25 ?_;refine lKk (HBK.out _ I) ?_;rintro e J⟨bk,er2,pr2,f2,y2,rfl,he2,hp2,hf2,hy2,Y⟩;refine Ϥ Y fun I=>?_)|(refine gN 33 ?_;refine lO (Ge (bf:=bf) (bo:=bo) (bk:=bk) Ϙ I) fun J I=>?_)|(refine gN 34 ?_;refine lV (Gv _) I fun J I=>?_)|(refine gN 42 ?_;refine ϙ (Gw _ _ _) fun J I=>?_)|refine ab fun J I=>?_);go_loopw [44] (fun kk wr=>(kk= .int .i64 0∧Loc D wr ((b43, #[aT bo,aT bk,.pointer none,.pointer none],119)::(b8,stR Sta.new Sq.none,58)::(bk,bkR bf bo none 0 0 0,166)::F (flR bb er2 pr2) y2 (otR bf fr fs 1 m))) ∨
  (kk= .int .i64 1∧∃a0,Loc D wr ((a0,arR bf 64,170)::(b43, #[aT bo,aT bk,aT a0,.pointer none],119)::(b8,stR Sta.new Sq.none,58)::(bk,bkR bf bo none 0 0 0,166)::F (flR bb er2 pr2) y2 (otR bf fr fs 1 m))) ∨
  (kk= .int .i64 2∧∃a0 a1,Loc D wr ((a1,arR bf 96,170)::(a0,arR bf 64,170)::(b43,kpR bo bk a0 a1,119)::(b8,stR Sta.new Sq.none,58)::(bk,bkR bf bo none 0 0 0,166)::F (flR bb er2 pr2) y2 (otR bf fr fs 1 m)))) (fun kk _=>2-(intOf kk).toNat)
 case atStart=>exact .inl ⟨rfl,I⟩
 case round =>
  clear I;rcases hrel with⟨rfl,I⟩|⟨rfl,a0,I⟩|⟨rfl,a0,a1,I⟩
  ·skip
   go_wp2_with (first|refine aU ?_|refine ab fun J I=>?_);refine mX (S:=fun Z=>True) 12 (trivial) ?_;intro H;replace I:=I.drew;refine uG 0 ?_;refine uG 1 ?_;refine uG 2 ?_;refine uG 3 ?_;refine uG 8 ?_;refine uG 9 ?_;refine rd1 4 fun K T=>?_;refine eK (Gs (F:=fun x y=>(b43, #[aT bo,aT bk,.pointer none,.pointer none],119)::(b8,stR Sta.new Sq.none,58)::(bk,bkR bf bo none 0 0 0,166)::F x y (otR bf fr fs 1 m)) (bf:=bf) (bb:=bb) I) ?_;rintro e J⟨a0,rfl,Y⟩;refine⟨_,rfl,?_⟩;refine Ϫ Y fun I=>?_;refine kO T (trivial) fun H=>?_;refine uG 5 ?_;refine uG 6 ?_;refine uG 7 ?_;refine uG 10 ?_;refine rd1 11 fun K T=>?_;refine cY fun J I=>?_;refine kO T (trivial) fun H=>?_;refine wD ?_;clear H;go_wp2_with (first|refine aU ?_|refine ab fun J I=>?_);go_roundw;case rel=>exact .inr (.inl ⟨rfl,a0,I⟩)
   case measure=>simp only[intOf];decide
  ·skip
   go_wp2_with (first|refine aU ?_|refine ab fun J I=>?_);refine mX (S:=fun Z=>True) 12 (trivial) ?_;intro H;replace I:=I.drew;refine uG 0 ?_;refine uG 1 ?_;refine uG 2 ?_;refine uG 3 ?_;refine uG 8 ?_;refine uG 9 ?_;refine rd1 4 fun K T=>?_;refine eK (Gt (F:=fun x y=>(a0,arR bf 64,170)::(b43, #[aT bo,aT bk,aT a0,.pointer none],119)::(b8,stR Sta.new Sq.none,58)::(bk,bkR bf bo none 0 0 0,166)::F x y (otR bf fr fs 1 m)) (bf:=bf) (bb:=bb) I) ?_;rintro e J⟨a1,rfl,Y⟩;refine⟨_,rfl,?_⟩;refine Ϫ Y fun I=>?_;refine kO T (trivial) fun H=>?_;refine uG 5 ?_;refine uG 6 ?_;refine uG 7 ?_;refine uG 10 ?_;refine rd1 11 fun K T=>?_;refine cY fun J I=>?_;refine kO T (trivial) fun H=>?_;refine wD ?_;clear H;go_wp2_with (first|refine aU ?_|refine ab fun J I=>?_);go_roundw;case rel=>exact .inr (.inr ⟨rfl,a0,a1,I⟩)
   case measure=>simp only[intOf];decide
  ·skip
   go_wp2_with (first|refine aU ?_|refine ab fun J I=>?_);refine Ϭ 13 I fun H I=>?_;refine uG 0 ?_;refine uG 1 ?_;refine uG 3 ?_;refine uG 5 ?_;refine uZ 7 ?_;refine uG 2 ?_;refine rd1 4 fun K T=>?_;refine eK (xF (F:=fun x y z=>(a1,arR bf 96,170)::(a0,arR bf 64,170)::(b43,kpR bo bk a0 a1,119)::(b8,stR Sta.new Sq.none,58)::(bk,bkR bf bo none 0 0 0,166)::F x y z) (bf:=bf) (bb:=bb) I) ?_;rintro e J⟨rfl,Y⟩;refine⟨_,rfl,?_⟩;refine Ϫ Y fun I=>?_;refine kO T (I) fun H=>?_;refine rd1 6 fun K T=>?_;refine eK (iz (F:=fun x y z=>(a1,arR bf 96,170)::(a0,arR bf 64,170)::(b43,kpR bo bk a0 a1,119)::(b8,stR Sta.new Sq.none,58)::(bk,bkR bf bo none 0 0 0,166)::F x y z) (bf:=bf) (bb:=bb) I) ?_;rintro e J⟨rfl,Y⟩;refine⟨_,rfl,?_⟩;refine Ϫ Y fun I=>?_;refine kO T (I) fun H=>?_;refine rd1 8 fun K T=>?_;refine eK (xV b43 fr fs Sta.new Sq.none _) ?_;rintro e J⟨b67,rfl,hN⟩;refine⟨_,rfl,?_⟩;refine Ϧ (I.join hN) fun I=>?_;refine kO T (I.pop) fun H=>?_;refine uT 9 (hi:=rfl) (zU ϕ rfl (Gx _ _) rfl) ?_;refine rd1 10 fun K T=>?_;refine eB I rfl rfl fun b69 J I=>?_;refine kO T (I.pop.pop) fun H=>?_;refine uG 11 ?_;refine uG 12 ?_;refine wD ?_;clear H;go_wp2_with (first|refine aU ?_|refine ab fun J I=>?_)
   all_goals(go_ret2;exact⟨bk,b43,a0,a1,b67,b69,⟨er2,pr2,y2,f2,1,m,none,0,0,0,Sta.new,Sq.none,-1,fun _=>0⟩,rfl,⟨⟨he2,hp2,hy2,by dsimp only;decide,HM.out,HMM.out,.inl rfl,xJ⟩,rfl,rfl,rfl,rfl,rfl,rfl,hf2⟩,Loc.rem b8 I⟩)
instance T9:Ent 15:=eo func15
end
def lenOf:ό→Nat | .slice _ n _=>n|_=>0
theorem eg{w:ϑ}{g:Nat}(x:Γ)(h:w.heap[g]?=some (.cells #[.int .u8 (B8 x)] 5 (0,0))):BRow w (.slice (ϐ g) 1 1) [x] :=
 ⟨_,1,rfl,(fun hc=>by cases hc),fun _=>⟨g,0,rfl,(Array.getElem?_eq_some_iff.1 h).1,fun i hi=>by
  have:i=0:=by simpa using hi
  subst this;rw[Ya w g _ _ _ _ h];rfl⟩⟩
theorem Ao(v:ό)(l:Δ)(w:ϑ)(hv:BRow w v l)(hl:l.length≤1000000000) :
 ϓ 71 #[v,.int .i64 64,.int .i64 8] w fun e Z=>∃v',e= .returned v'∧OwnB Z w.heap.size v' (pad l)∧Υ w Z:=by
 have HV:=Hd hv;have h0:OwnB w w.heap.size (.slice none 0 0) []:=World.ownsRow_nil _ _ _ _;obtain⟨a,c,rfl,hn,hp⟩:=hv;clear hn hp;have H0:=Hd h0;clear h0;go_enter func71,ntmps71;go_wp2_with (first
  | (at_builtin;refine bD rfl (.const (.slice none 0 0)) (.tmp 11) rfl w.heap.size _ [] l rfl H0.out HV.out Ϟ (Xn _) ?_;intro v1 J hown1 hg1;rw[List.nil_append]at hown1)
  | (at_builtin;refine bD rfl (.tmp 12) (.tmp 13) rfl w.heap.size v1 l [128] rfl ?o1 ?o2 ?o3 ?o4 ?_;rotate_left 4;intro v2 w2 hown2 hg2))
 case o1=>exact Yp hown1 _
 case o2=>exact eg 128 (Xe _ _)
 case o3=>simp;omega
 case o4=>have:=hg1.size;simp;omega
 have hb2:Υ w w2:=((((XE _ _).grown hg1 (Xn _) (fun k hk=>by cases hk)).alloc hg1.size _)).grown hg2 (by have:=hg1.size;simp;omega) (fun k hk=>(hown1.lt k hk).1);have HST:=Hd (show ∃a c,v2= .slice a (l.length+1) c from by obtain⟨a,c,e,_⟩:=hown2.brow;exact⟨a,c,by simpa using e⟩);clear hg1 hg2 hown1;go_loopw [7] (fun v wr=>∃z:Nat,z≤cV l.length∧(∃a c,v= .slice a (l.length+1+z) c)∧OwnB wr w.heap.size v (l++[128]++List.replicate z 0)∧Υ w wr) (fun v _=>1000000100-lenOf v);case atStart=>exact⟨0,Yb _,HST.out,by simpa using hown2,hb2⟩
 case round =>
  clear hown2 hb2 HST;obtain⟨z,hz,⟨a1,c1,rfl⟩,hown,hbel⟩:=hrel;have hZ:cV l.length=(119-l.length%64)%64:=rfl;have hsz:=hbel.size;have HOWN:=Hd hown;have HLT:=Hd hown.lt;have HBEL:=Hd hbel;clear hown hbel;by_cases hzl:z<cV l.length
  ·have h56:(((l.length+1+z:Nat):Int)%64 !=56)=true:=by rw[bne_iff_ne];omega
   obtain⟨n,hn⟩:∃n,n=l.length+1+z:=⟨_,rfl⟩;rw[← hn]at h56 ⊢;rw[← hn]at HOWN HLT;have HN:=Hd hn;have hn1:n≤1000000065:=Ω;clear hn hZ;go_wp2_with (at_builtin;refine bD rfl (.tmp 23) (.tmp 24) rfl w.heap.size (.slice a1 n c1) (l++[128]++List.replicate z 0) [0] rfl ?p1 ?p2 ?p3 ?p4 ?_;rotate_left 4;intro v3 w3 hown3 hg3);case p1=>exact Yp HOWN.out _
   case p2=>exact eg 0 (Xe _ _)
   case p3=>have:=HN.out;simp;omega
   case p4=>simp;omega
   have hb3:=(HBEL.out.alloc hsz (.cells #[.int .u8 0] 5)).grown hg3 Ϟ (fun k hk=>(HLT.out k hk).1);have e3:l++[128]++List.replicate z 0++[0]=l++[128]++List.replicate (z+1) 0:=by rw[ZG,Xc (l++[128])]
   rw[e3]at hown3;clear e3 hg3;have HB3:=Hd hb3;have HO3:=Hd hown3;have HST:=Hd (show ∃a c,v3= .slice a (l.length+1+(z+1)) c from by obtain⟨a,c,e,_⟩:=hown3.brow;exact⟨a,c,by rw[e];congr 1;simp;omega⟩);clear hb3 hown3;go_wp2;go_roundw;case rel=>exact⟨z+1,Ω,HST.out,HO3.out,HB3.out⟩
   case measure =>
    obtain⟨a,c,e⟩:=HST.out;have:=HN.out;rw[e];simp only[lenOf];omega
  ·have hze:z=cV l.length:=Ω
   have h56:(((l.length+1+z:Nat):Int)%64 !=56)=false:=by rw[bne_eq_false_iff_eq];omega
   subst hze;obtain⟨n,hn⟩:∃n,n=l.length+1+cV l.length:=⟨_,rfl⟩;rw[← hn]at h56 ⊢;rw[← hn]at HOWN HLT;clear hn hZ hzl hz;go_wp2;have HST:=Hd (show ∃a c,(Value.slice a1 n c1)= .slice a n c from⟨a1,c1,rfl⟩);obtain⟨pre,hpre⟩:∃pre,pre=l++[128]++List.replicate (cV l.length) 0:=⟨_,rfl⟩;rw[← hpre]at HOWN;have HPRE:=Hd hpre;have hlp:pre.length≤1000000100:=by rw[hpre];simp;unfold cV;omega
   clear hpre;obtain⟨D,rfl⟩:∃D:ϑ,D=wr:=⟨_,rfl⟩;go_loopw [7,9] (fun v i wr=>∃j:Nat,j≤8∧i= .int .i64 (7-(j:Int))∧OwnB wr w.heap.size v (pre++(aG l.length).take j)∧Υ w wr) (fun _ i _=>(intOf i+1).toNat);case atStart=>exact⟨0,Ω,rfl,by simpa using HOWN.out,HBEL.out⟩
   case round =>
    clear HOWN HLT HBEL hsz HST;obtain⟨j,hj,rfl,hown,hbel⟩:=hrel;have hsz:=hbel.size;have HOWN:=Hd hown;have HLT:=Hd hown.lt;have HBEL:=Hd hbel;clear hown hbel;by_cases hj8:j<8
    ·have HVJ:=Hd (bu l.length j)
     have hl0:(0:Int)≤(l.length:Int):=Ω;have hl1:(l.length:Int)≤1000000000:=Ω;have hj8':j=0∨j=1∨j=2∨j=3∨j=4∨j=5∨j=6∨j=7:=Ω;rcases hj8' with rfl|rfl|rfl|rfl|rfl|rfl|rfl|rfl
     ·have hX:bits BinOp.and IntKind.i64 (8*(l.length:Int)/72057594037927936) 255=B8 (ay l.length 0):=by
       rw[show 8*(l.length:Int)/72057594037927936=((8*l.length/72057594037927936:Nat):Int) by omega,dK _ Ω,HVJ.out,show 2^(8*(7-0))=72057594037927936 from rfl]
      obtain⟨x0,x1⟩:=bP (ay l.length 0);have HT:=Hd (bV l.length hj8);clear HVJ;rw[show(7:Int)-((0:Nat):Int)=7 from rfl];go_wp2_with (at_builtin;refine bD rfl (.tmp 43) (.tmp 46) rfl w.heap.size u7 (pre++(aG l.length).take 0) [ay l.length 0] rfl ?p1_0 ?p2_0 ?p3_0 ?p4_0 ?_;rotate_left 4;intro v3 w3 hown3 hg3);case p1_0=>exact Yp HOWN.out _
      case p2_0=>exact eg _ (Xe _ _)
      case p3_0=>simp;omega
      case p4_0=>simp;omega
      have hb3:=(HBEL.out.alloc hsz (.cells #[.int .u8 (B8 (ay l.length 0))] 5)).grown hg3 Ϟ (fun k hk=>(HLT.out k hk).1);rw[Xc,← HT.out]at hown3;refine⟨⟨1,Ω,rfl,hown3,hb3⟩,by simp only[intOf];omega⟩
     ·have hX:bits BinOp.and IntKind.i64 (8*(l.length:Int)/281474976710656) 255=B8 (ay l.length 1):=by
       rw[show 8*(l.length:Int)/281474976710656=((8*l.length/281474976710656:Nat):Int) by omega,dK _ Ω,HVJ.out,show 2^(8*(7-1))=281474976710656 from rfl]
      obtain⟨x0,x1⟩:=bP (ay l.length 1);have HT:=Hd (bV l.length hj8);clear HVJ;rw[show(7:Int)-((1:Nat):Int)=6 from rfl];go_wp2_with (at_builtin;refine bD rfl (.tmp 43) (.tmp 46) rfl w.heap.size u7 (pre++(aG l.length).take 1) [ay l.length 1] rfl ?p1_1 ?p2_1 ?p3_1 ?p4_1 ?_;rotate_left 4;intro v3 w3 hown3 hg3);case p1_1=>exact Yp HOWN.out _
      case p2_1=>exact eg _ (Xe _ _)
      case p3_1=>simp;omega
      case p4_1=>simp;omega
      have hb3:=(HBEL.out.alloc hsz (.cells #[.int .u8 (B8 (ay l.length 1))] 5)).grown hg3 Ϟ (fun k hk=>(HLT.out k hk).1);rw[Xc,← HT.out]at hown3;refine⟨⟨2,Ω,rfl,hown3,hb3⟩,by simp only[intOf];omega⟩
     ·have hX:bits BinOp.and IntKind.i64 (8*(l.length:Int)/1099511627776) 255=B8 (ay l.length 2):=by
       rw[show 8*(l.length:Int)/1099511627776=((8*l.length/1099511627776:Nat):Int) by omega,dK _ Ω,HVJ.out,show 2^(8*(7-2))=1099511627776 from rfl]
      obtain⟨x0,x1⟩:=bP (ay l.length 2);have HT:=Hd (bV l.length hj8);clear HVJ;rw[show(7:Int)-((2:Nat):Int)=5 from rfl];go_wp2_with (at_builtin;refine bD rfl (.tmp 43) (.tmp 46) rfl w.heap.size u7 (pre++(aG l.length).take 2) [ay l.length 2] rfl ?p1_2 ?p2_2 ?p3_2 ?p4_2 ?_;rotate_left 4;intro v3 w3 hown3 hg3);case p1_2=>exact Yp HOWN.out _
      case p2_2=>exact eg _ (Xe _ _)
      case p3_2=>simp;omega
      case p4_2=>simp;omega
      have hb3:=(HBEL.out.alloc hsz (.cells #[.int .u8 (B8 (ay l.length 2))] 5)).grown hg3 Ϟ (fun k hk=>(HLT.out k hk).1);rw[Xc,← HT.out]at hown3;refine⟨⟨3,Ω,rfl,hown3,hb3⟩,by simp only[intOf];omega⟩
     ·have hX:bits BinOp.and IntKind.i64 (8*(l.length:Int)/4294967296) 255=B8 (ay l.length 3):=by
       rw[show 8*(l.length:Int)/4294967296=((8*l.length/4294967296:Nat):Int) by omega,dK _ Ω,HVJ.out,show 2^(8*(7-3))=4294967296 from rfl]
      obtain⟨x0,x1⟩:=bP (ay l.length 3);have HT:=Hd (bV l.length hj8);clear HVJ;rw[show(7:Int)-((3:Nat):Int)=4 from rfl];go_wp2_with (at_builtin;refine bD rfl (.tmp 43) (.tmp 46) rfl w.heap.size u7 (pre++(aG l.length).take 3) [ay l.length 3] rfl ?p1_3 ?p2_3 ?p3_3 ?p4_3 ?_;rotate_left 4;intro v3 w3 hown3 hg3);case p1_3=>exact Yp HOWN.out _
      case p2_3=>exact eg _ (Xe _ _)
      case p3_3=>simp;omega
      case p4_3=>simp;omega
      have hb3:=(HBEL.out.alloc hsz (.cells #[.int .u8 (B8 (ay l.length 3))] 5)).grown hg3 Ϟ (fun k hk=>(HLT.out k hk).1);rw[Xc,← HT.out]at hown3;refine⟨⟨4,Ω,rfl,hown3,hb3⟩,by simp only[intOf];omega⟩
     ·have hX:bits BinOp.and IntKind.i64 (8*(l.length:Int)/16777216) 255=B8 (ay l.length 4):=by
       rw[show 8*(l.length:Int)/16777216=((8*l.length/16777216:Nat):Int) by omega,dK _ Ω,HVJ.out,show 2^(8*(7-4))=16777216 from rfl]
      obtain⟨x0,x1⟩:=bP (ay l.length 4);have HT:=Hd (bV l.length hj8);clear HVJ;rw[show(7:Int)-((4:Nat):Int)=3 from rfl];go_wp2_with (at_builtin;refine bD rfl (.tmp 43) (.tmp 46) rfl w.heap.size u7 (pre++(aG l.length).take 4) [ay l.length 4] rfl ?p1_4 ?p2_4 ?p3_4 ?p4_4 ?_;rotate_left 4;intro v3 w3 hown3 hg3);case p1_4=>exact Yp HOWN.out _
      case p2_4=>exact eg _ (Xe _ _)
      case p3_4=>simp;omega
      case p4_4=>simp;omega
      have hb3:=(HBEL.out.alloc hsz (.cells #[.int .u8 (B8 (ay l.length 4))] 5)).grown hg3 Ϟ (fun k hk=>(HLT.out k hk).1);rw[Xc,← HT.out]at hown3;refine⟨⟨5,Ω,rfl,hown3,hb3⟩,by simp only[intOf];omega⟩
     ·have hX:bits BinOp.and IntKind.i64 (8*(l.length:Int)/65536) 255=B8 (ay l.length 5):=by
       rw[show 8*(l.length:Int)/65536=((8*l.length/65536:Nat):Int) by omega,dK _ Ω,HVJ.out,show 2^(8*(7-5))=65536 from rfl]
      obtain⟨x0,x1⟩:=bP (ay l.length 5);have HT:=Hd (bV l.length hj8);clear HVJ;rw[show(7:Int)-((5:Nat):Int)=2 from rfl];go_wp2_with (at_builtin;refine bD rfl (.tmp 43) (.tmp 46) rfl w.heap.size u7 (pre++(aG l.length).take 5) [ay l.length 5] rfl ?p1_5 ?p2_5 ?p3_5 ?p4_5 ?_;rotate_left 4;intro v3 w3 hown3 hg3);case p1_5=>exact Yp HOWN.out _
      case p2_5=>exact eg _ (Xe _ _)
      case p3_5=>simp;omega
      case p4_5=>simp;omega
      have hb3:=(HBEL.out.alloc hsz (.cells #[.int .u8 (B8 (ay l.length 5))] 5)).grown hg3 Ϟ (fun k hk=>(HLT.out k hk).1);rw[Xc,← HT.out]at hown3;refine⟨⟨6,Ω,rfl,hown3,hb3⟩,by simp only[intOf];omega⟩
     ·have hX:bits BinOp.and IntKind.i64 (8*(l.length:Int)/256) 255=B8 (ay l.length 6):=by
       rw[show 8*(l.length:Int)/256=((8*l.length/256:Nat):Int) by omega,dK _ Ω,HVJ.out,show 2^(8*(7-6))=256 from rfl]
      obtain⟨x0,x1⟩:=bP (ay l.length 6);have HT:=Hd (bV l.length hj8);clear HVJ;rw[show(7:Int)-((6:Nat):Int)=1 from rfl];go_wp2_with (at_builtin;refine bD rfl (.tmp 43) (.tmp 46) rfl w.heap.size u7 (pre++(aG l.length).take 6) [ay l.length 6] rfl ?p1_6 ?p2_6 ?p3_6 ?p4_6 ?_;rotate_left 4;intro v3 w3 hown3 hg3);case p1_6=>exact Yp HOWN.out _
      case p2_6=>exact eg _ (Xe _ _)
      case p3_6=>simp;omega
      case p4_6=>simp;omega
      have hb3:=(HBEL.out.alloc hsz (.cells #[.int .u8 (B8 (ay l.length 6))] 5)).grown hg3 Ϟ (fun k hk=>(HLT.out k hk).1);rw[Xc,← HT.out]at hown3;refine⟨⟨7,Ω,rfl,hown3,hb3⟩,by simp only[intOf];omega⟩
     ·have hX:bits BinOp.and IntKind.i64 (8*(l.length:Int)) 255=B8 (ay l.length 7):=by
       rw[show 8*(l.length:Int)=((8*l.length/1:Nat):Int) by omega,dK _ Ω,HVJ.out,show 2^(8*(7-7))=1 from rfl]
      obtain⟨x0,x1⟩:=bP (ay l.length 7);have HT:=Hd (bV l.length hj8);clear HVJ;rw[show(7:Int)-((7:Nat):Int)=0 from rfl];go_wp2_with (at_builtin;refine bD rfl (.tmp 43) (.tmp 46) rfl w.heap.size u7 (pre++(aG l.length).take 7) [ay l.length 7] rfl ?p1_7 ?p2_7 ?p3_7 ?p4_7 ?_;rotate_left 4;intro v3 w3 hown3 hg3);case p1_7=>exact Yp HOWN.out _
      case p2_7=>exact eg _ (Xe _ _)
      case p3_7=>simp;omega
      case p4_7=>simp;omega
      have hb3:=(HBEL.out.alloc hsz (.cells #[.int .u8 (B8 (ay l.length 7))] 5)).grown hg3 Ϟ (fun k hk=>(HLT.out k hk).1);rw[Xc,← HT.out]at hown3;refine⟨⟨8,Ω,rfl,hown3,hb3⟩,by simp only[intOf];omega⟩
    ·have hj9:j=8:=Ω
     subst hj9;have HT:=Hd (show(aG l.length).take 8=aG l.length from Xq (by simp[aG]));go_wp2;go_ret;refine⟨_,rfl,?_,HBEL.out⟩;have h:=HOWN.out;rw[HT.out,HPRE.out]at h;exact h
def KAt(w:ϑ):Prop:=0<w.heap.size∧∀i,i<64→w.cell? ⟨0,i,none⟩=some (.int .u32 (U (di i)))
theorem KAt.below{w Z:ϑ}(h:KAt w)(hb:Υ w Z):KAt Z :=
 ⟨Xl h.1 hb.size,fun i hi=>(hb.cell (p:=⟨0,i,none⟩) h.1).trans (h.2 i hi)⟩
theorem xW{B:Nat}{a w:ϑ}(h:Below B a w)(n:Nat):Below B a (w.drewN n):=h.trans ⟨rfl,rfl,rfl,Xn _,fun _ _=>rfl⟩
structure ShaAt(w:ϑ)(g n:Nat)(f:Φ)(h:Nat→BitVec 32)(wr:ϑ):Prop where
 res:wr.heap[w.heap.size]?=some (.cells (aa 32 fun _=>0) 24 (0,0))
 hh:wr.heap[w.heap.size+1]?=some (.cells (bg 8 h) 137 (0,0))
 lo:w.heap.size+1<g
 hi:g<wr.heap.size
 mm:∀i,i<n→wr.cell? ⟨g,i,none⟩=some (.int .u8 (B8 (f i)))
 bel:Υ w wr
theorem ShaAt.keep{w wr Z:ϑ}{g n:Nat}{f:Φ}{h:Nat→BitVec 32}(s:ShaAt w g n f h wr)(hb:Below (g+1) wr Z):ShaAt w g n f h Z where
 res:=(hb.block _ (by have:=s.lo;omega)).trans s.res
 hh:=(hb.block _ (by have:=s.lo;omega)).trans s.hh
 lo:=s.lo
 hi:=Xl s.hi hb.size
 mm:=fun i hi=>(hb.cell (p:=⟨g,i,none⟩) Ϡ).trans (s.mm i hi)
 bel:=s.bel.trans (hb.mono (by have:=s.lo;omega))
theorem ShaAt.setH{w wr:ϑ}{g n:Nat}{f:Φ}{h:Nat→BitVec 32}(s:ShaAt w g n f h wr){i:Nat}(x:BitVec 32)(hi:i<8) :
 ShaAt w g n f (upd h i x) (wr.setCell ⟨w.heap.size+1,i,none⟩ (.int .u32 (U x))) where
 res:=(Xh _ _ _ _ Ϡ).trans s.res
 hh:=cu x s.hh hi
 lo:=s.lo
 hi:=by have:=s.hi;simpa[World.setCell] using this
 mm:=fun j hj=>by
  rw[World.cell?_setCell_other _ _ _ _ (fun e=>by have:=s.lo;cases e;omega)];exact s.mm j hj
 bel:=s.bel.setCell Ϡ _
structure InAt(w:ϑ)(g n:Nat)(f:Φ)(h:Nat→BitVec 32)(wb:Nat)(Wzq:Nat→BitVec 32)(wr:ϑ):Prop where
 at_:ShaAt w g n f h wr
 lo:g<wb
 ww:wr.heap[wb]?=some (.cells (bg 64 Wzq) 139 (0,0))
theorem InAt.drewN{w wr:ϑ}{g n wb:Nat}{f:Φ}{h Wzq:Nat→BitVec 32}(s:InAt w g n f h wb Wzq wr)(k:Nat):InAt w g n f h wb Wzq (wr.drewN k) :=
 ⟨s.at_.keep (xW (XE _ _) k),s.lo,s.ww⟩
theorem InAt.set{w wr:ϑ}{g n wb:Nat}{f:Φ}{h Wzq:Nat→BitVec 32}(s:InAt w g n f h wb Wzq wr){i:Nat}(x:BitVec 32)(hi:i<64) :
 InAt w g n f h wb (upd Wzq i x) (wr.setCell ⟨wb,i,none⟩ (.int .u32 (U x))).drew :=
 ⟨s.at_.keep (((XE _ _).setCell (by have:=s.lo;simp;omega) _).drew),s.lo,cu x s.ww hi⟩
theorem InAt.keep{w wr Z:ϑ}{g n wb:Nat}{f:Φ}{h Wzq:Nat→BitVec 32}(s:InAt w g n f h wb Wzq wr)(hb:Below (wb+1) wr Z):InAt w g n f h wb Wzq Z :=
 ⟨s.at_.keep (hb.mono (by have:=s.lo;omega)),s.lo,(hb.block _ Ω).trans s.ww⟩
structure VAt(w:ϑ)(g n:Nat)(f:Φ)(h:Nat→BitVec 32)(wb:Nat)(Wzq:Nat→BitVec 32)(vb:Nat)(Vzq:Nat→BitVec 32)(wr:ϑ):Prop where
 in_:InAt w g n f h wb Wzq wr
 lo:wb<vb
 vv:wr.heap[vb]?=some (.cells (bg 8 Vzq) 137 (0,0))
theorem VAt.drewN{w wr:ϑ}{g n wb vb:Nat}{f:Φ}{h Wzq Vzq:Nat→BitVec 32}(s:VAt w g n f h wb Wzq vb Vzq wr)(k:Nat):VAt w g n f h wb Wzq vb Vzq (wr.drewN k) :=
 ⟨s.in_.drewN k,s.lo,s.vv⟩
theorem VAt.setRow{w wr:ϑ}{g n wb vb:Nat}{f:Φ}{h Wzq Vzq:Nat→BitVec 32}(s:VAt w g n f h wb Wzq vb Vzq wr)(V':Nat→BitVec 32):VAt w g n f h wb Wzq vb V' (wr.setRow vb (bg 8 V')) :=
 ⟨s.in_.keep (aZ (XE _ _) (by have:=s.lo;omega) _),s.lo,aF s.vv⟩
theorem VAt.setH{w wr:ϑ}{g n wb vb:Nat}{f:Φ}{h Wzq Vzq:Nat→BitVec 32}(s:VAt w g n f h wb Wzq vb Vzq wr){i:Nat}(x:BitVec 32)(hi:i<8) :
 VAt w g n f (upd h i x) wb Wzq vb Vzq (wr.setCell ⟨w.heap.size+1,i,none⟩ (.int .u32 (U x))).drew :=
 have l1:=s.in_.at_.lo;have l2:=s.in_.lo;have l3:=s.lo;have t:=s.in_.at_.setH x hi
 ⟨⟨⟨t.res,t.hh,t.lo,t.hi,t.mm,t.bel.drew⟩,l2,(Xh _ _ _ _ Ϟ).trans s.in_.ww⟩,l3,(Xh _ _ _ _ Ϟ).trans s.vv⟩
theorem nY(h v:Nat→BitVec 32)(k:Nat):upd (cg h v k) k (h k+v k)=cg h v (k+1):=by
 funext i;unfold upd cg;by_cases e:i=k
 ·subst e;simp
 ·rw[Χ e]
  by_cases hi:i<k
  ·rw[Ρ hi,Ρ Ω]
  ·rw[Χ hi,Χ Ω]
theorem Ap{n:Nat}{f g:Nat→BitVec 32}(h:∀i,i<n→f i=g i):bg n f=bg n g:=am fun i hi=>by rw[h i hi]
theorem ShaAt.congr{w wr:ϑ}{g n:Nat}{f:Φ}{h h':Nat→BitVec 32}(s:ShaAt w g n f h wr)(e:∀i,i<8→h i=h' i):ShaAt w g n f h' wr :=
 ⟨s.res,by rw[← Ap e];exact s.hh,s.lo,s.hi,s.mm,s.bel⟩
theorem OwnB.at{w:ϑ}{base:Nat}{v:ό}{l:Δ}(h:OwnB w base v l)(h0:0<l.length) :
 ∃g W,v= .slice (ϐ g) l.length W∧base≤g∧g<w.heap.size∧∀i,i<l.length→w.cell? ⟨g,i,none⟩=some (.int .u8 (B8 (l.getD i 0))):=by
 have h5:=World.ownsRow.lt h;have hb:=h.brow;rcases h.2 with⟨rfl,h1⟩|⟨g,W,E,rfl,_,hg,_,_,_,_⟩
 ·omega
 ·refine⟨g,W,rfl,(h5 g rfl).1,(Array.getElem?_eq_some_iff.1 hg).1,fun i hi=>?_⟩
  obtain⟨a,c,e,_,hp⟩:=hb;obtain⟨b,off,rfl,_,hc⟩:=hp h0;cases e
  have:=hc i hi;rw[XA]at this;rw[this,List.getD_eq_getElem?_getD,List.getElem?_eq_getElem hi,Option.getD_some]
def mx(b:Φ)(k:Nat)(i:Nat):BitVec 32:=if i<k then qK b i else 0
theorem xX(b:Φ)(k:Nat):upd (mx b k) k (qK b k)=mx b (k+1):=by
 funext i;unfold upd mx;by_cases e:i=k
 ·subst e;simp
 ·rw[Χ e]
  by_cases hi:i<k
  ·rw[Ρ hi,Ρ Ω]
  ·rw[Χ hi,Χ Ω]
theorem xY(b:Φ):mx b 16=bB b 64:=by rw[qv];rfl
theorem K9(x:Γ):IntKind.u32.wrap (B8 x)=U (eF x):=by
 obtain⟨h0,h1⟩:=bP x;rw[ZY,← show B8 x=U (eF x)from A8 x];omega
theorem pI(h:Nat→BitVec 32)(k r:Nat)(hr:k%4=r):bits .and .u32 (U (h (k/4))/((2^(24-8*r):Nat):Int)) (255:Int)=B8 (cm h k):=by
 rw[← mS h k r hr];have h5:=(h (k/4)).isLt;have e:U (h (k/4))/((2^(24-8*r):Nat):Int)=(((h (k/4)).toNat/2^(24-8*r):Nat):Int):=by
  unfold U;norm_cast
 rw[e];have h1:(h (k/4)).toNat/2^(24-8*r)<4294967296:=Yw (ZR _ _) h5;have:=u32_and_nat ((h (k/4)).toNat/2^(24-8*r)) 255 h1 Ω;rw[nat_mask8]at this;rw[show(255:Int)=((255:Nat):Int)from rfl,this];exact Ye _ 256
theorem IZ(x:BitVec 32):U x*(16777216:Int)%(4294967296:Int)=U (x<<<24):=ow x 24
theorem I0(x:BitVec 32):U x*(65536:Int)%(4294967296:Int)=U (x<<<16):=ow x 16
theorem I1(x:BitVec 32)(n:Int)(w:ϑ)(h:n∈[(7:Int),18,17,19,6,11,25,2,13,22]):ϓ 72 #[.int .u32 (U x),.int .u64 n] w fun e Z=>e= .returned (.int .u32 (U (aX x (32-n.toNat))))∧w=Z:=by
 simp only[Ym,Yc,or_false]at h;rcases h with rfl|rfl|rfl|rfl|rfl|rfl|rfl|rfl|rfl|rfl
 ·exact O8 x w
 ·exact M7 x w
 ·exact M9 x w
 ·exact Na x w
 ·exact Pa x w
 ·exact Nc x w
 ·exact Nf x w
 ·exact Pc x w
 ·exact Nh x w
 ·exact Nj x w
theorem gE(x:BitVec 32)(n:Int)(m:Nat)(w:ϑ)(h:n∈[(7:Int),18,17,19,6,11,25,2,13,22])(hm:m=32-n.toNat):ϓ 72 #[.int .u32 (U x),.int .u64 n] w fun e Z=>e= .returned (.int .u32 (U (aX x m)))∧Z=w :=
 (I1 x n w h).mono fun _ _ ⟨h1,h2⟩=>⟨by rw[h1,hm],h2.symm⟩
theorem dB(v:ό)(l:Δ)(w:ϑ)(hv:BRow w v l)(hl:l.length≤1000000000)(hk:KAt w) :
 Rt 29 #[v] w (.agg (aa 32 (sha l))):=by
 have HV:=Hd hv;have HK:=Hd hk;have HFIN:=Hd (ma l);have HW8:=Hd (gC 8 nX);have HPL:=Hd (gP l);have HPB:=Hd (show(pad l).length≤1000000200 by unfold pad cV aG;simp;omega);clear hv hk;have HN8:=Hd (show(prog.info? 137).map (·.size)=some (bg 8 nX).size by rw[lc,a8]);go_enter func29,ntmps29;go_wp2_with (first
  | (with_reducible refine az rfl 24 rfl 32 _ vk ?_)
  | (with_reducible refine az rfl 137 rfl 8 _ wT ?_)
  | (refine Zw rfl 137 136 8 _ rfl .u32 ((List.range 8).map fun i=>U (nX i)) _ rfl underlying137 Θ Θ Θ ?_;rw[HW8.out])
  | ((refine ϗ (.store 137 _ _) ?_);go_loud (refine Xu rfl 137 _ _ rfl rfl _ (bg 8 nX) rfl rfl 137 _ (Xe _ _) HN8.out (by rw[aS,a8]) (bW _ _) ?_))
  | (go_at_call 71;go_loud (refine(Ao _ l _ ?b hl).mono ?_);rotate_left;rintro e w2⟨v2,rfl,hown,hb2⟩))
 case b=>exact HV.out.below (aZ (((XE _ _).alloc (Xn _) _).alloc Ϡ _) Ϡ _)
 obtain⟨g,W,rfl,hg1,hg2,hcells⟩:=hown.at (by unfold pad;simp;omega);have hat:ShaAt w g (pad l).length (fun i=>(pad l).getD i 0) (aI (fun i=>(pad l).getD i 0) 0) w2:=by
  have hsz:(((w.alloc (.cells (row 32 fun _=> .int .u8 0) 24)).alloc (.cells (row 8 fun _=> .int .u32 0) 137)).setRow (w.heap.size+1) (bg 8 nX)).heap.size=w.heap.size+2:=by simp[World.setRow]
  have hb2:Below _ _ w2:=hb2;rw[hsz]at hg1 hb2;refine⟨?_,?_,Ω,hg2,hcells,?_⟩
  ·rw[hb2.block _ Ϡ]
   exact(ax Ω).trans (heap_alloc2_old _ _ _)
  ·rw[hb2.block _ Ϡ]
   exact aF (heap_alloc2_new _ _ _)
  ·exact(aZ (((XE _ _).alloc (Xn _) _).alloc Ϡ _) Ϡ _).trans (hb2.mono Ϡ)
 obtain⟨f,hf⟩:∃f:Nat→Γ,f=fun i=>(pad l).getD i 0:=⟨_,rfl⟩;rw[← hf]at hat HFIN;clear hf hcells hg1 hg2 hown hb2 HV HW8 HN8;generalize(pad l).length=n at *
 go_loopw [5] (fun i wr=>∃k s:Nat,s=64*k∧s≤n∧i= .int .i64 s∧ShaAt w g n f (aI f k) wr) (fun i _=>n-(intOf i).toNat);case atStart=>exact⟨0,0,rfl,Yb _,rfl,hat⟩
 case round =>
  clear hat
  obtain⟨k,s,hs,hsn,rfl,hat⟩:=hrel;have HS:=Hd hs;have hs0:(0:Int)≤(s:Int):=Ω;by_cases h5:s<n
  ·have HS64:=Hd (show s+64≤n by have:=HPL.out;omega)
   have hs1:(s:Int)<(n:Int):=Ω;clear hs hsn h5;have HAT:=Hd hat
   clear hat
   go_wp2_with (with_reducible refine az rfl 139 rfl 64 _ mg ?_);have hlt2:g<wr.heap.size:=HAT.out.hi;have HIN:=Hd (show InAt w g n f (aI f k) wr.heap.size (mx (fun q=>f (64*k+q)) 0) (wr.alloc (.cells (row 64 fun _=> .int .u32 0) 139))from
    ⟨HAT.out.keep ((XE _ _).alloc Ω _),hlt2,Xe _ _⟩)
   have HWL:=Hd hlt2;clear HAT hlt2;generalize wr.heap.size=wb at *
   generalize wr.alloc (.cells (row 64 fun _=> .int .u32 0) 139)=D at *
   obtain⟨b,hb⟩:∃b:Nat→Γ,b=fun q=>f (64*k+q):=⟨_,rfl⟩;rw[← hb]at HIN;have HB:=Hd hb;clear hb;go_loopw [7] (fun i w2=>∃j:Nat,j≤16∧i= .int .i64 j∧InAt w g n f (aI f k) wb (mx b j) w2) (fun i _=>16-(intOf i).toNat);case atStart=>exact⟨0,Yb _,rfl,HIN.out⟩
   case round =>
    clear HIN;obtain⟨j,hj,rfl,hin⟩:=hrel;by_cases hj16:j<16
    ·have hj0:(0:Int)≤(j:Int):=Ω
     have hj1:(j:Int)<16:=Ω;have hj2:(j:Int)<64:=Ω;have hsb:(s:Int)≤2000000000:=by have:=HS64.out;have:=HPB.out;omega
     obtain⟨q,hq⟩:∃q,q=s+4*j:=⟨_,rfl⟩;have hqn:q+3<n:=by have:=HS64.out;omega
     have m0:=hin.at_.mm q Ω;have m1:=hin.at_.mm (q+1) Ω;have m2:=hin.at_.mm (q+2) Ω;have m3:=hin.at_.mm (q+3) Ω;have cf:wr.frozen? ⟨wb,j,none⟩=false:=Xi wr _ _ _ _ hin.ww;have cc:wr.cell? ⟨wb,j,none⟩=some (.int .u32 (U (mx b j j))):=ar hin.ww Ω;have hq':(s:Int)+4*(j:Int)=(q:Int):=Ω;have HIN:=Hd hin;have HWD:=Hd (show eF (f q)<<<24|||eF (f (q+1))<<<16|||eF (f (q+2))<<<8|||eF (f (q+3))=qK b j by
      rw[HB.out];unfold qK;simp only[show 64*k+4*j=q by have:=HS.out;omega,show 64*k+(4*j+1)=q+1 by have:=HS.out;omega,show 64*k+(4*j+2)=q+2 by have:=HS.out;omega,show 64*k+(4*j+3)=q+3 by have:=HS.out;omega])
     have HST:=Hd (xX b j);have hn1:(n:Int)≤2000000000:=by have:=HPB.out;omega
     clear hin hq;go_wp2;have e1:IntKind.i64.wrap ((q:Int)+1)=(q:Int)+1:=W3 _ Ω;have e2:IntKind.i64.wrap ((q:Int)+2)=(q:Int)+2:=W3 _ Ω;have e3:IntKind.i64.wrap ((q:Int)+3)=(q:Int)+3:=W3 _ Ω;have t1:((q:Int)+1).toNat=q+1:=Ω;have t2:((q:Int)+2).toNat=q+2:=Ω;have t3:((q:Int)+3).toNat=q+3:=Ω;have p0:(0:Int)≤(q:Int):=Ω;have p1:(0:Int)≤(q:Int)+1:=Ω;have p2:(0:Int)≤(q:Int)+2:=Ω;have p3:(0:Int)≤(q:Int)+3:=Ω;have q0:(q:Int)<(n:Int):=Ω;have q1:(q:Int)+1<(n:Int):=Ω;have q2:(q:Int)+2<(n:Int):=Ω;have q3:(q:Int)+3<(n:Int):=Ω;have hconv:=K9;have h24:=IZ;have h16:=I0;have h8:=uq;have hor:=y9;go_still_tail 31,Θ;change wpList _ _ _ _ _ wr.drew;clear e1 e2 e3 t1 t2 t3 p0 p1 p2 p3 q0 q1 q2 q3;go_wp2;go_roundw;case rel =>
      refine⟨j+1,Ω,by go_num,?_⟩;rw[HWD.out,← HST.out];exact HIN.out.set _ Ω
     case measure=>exact ϝ
    ·obtain rfl:j=16:=Ω
     rw[xY,← j8 (bB b 64) 16 Ω]at hin;rw[show((16:Nat):Int)=16 from rfl];have HIN:=Hd hin;clear hin;go_wp2;obtain⟨J,rfl⟩:∃J:ϑ,J=wr:=⟨_,rfl⟩;go_loopw [9] (fun i w2=>∃j:Nat,16≤j∧j≤64∧i= .int .i64 j∧InAt w g n f (aI f k) wb (cz (bB b 64) j) w2) (fun i _=>64-(intOf i).toNat);case atStart=>exact⟨16,Ω,Ω,rfl,HIN.out⟩
     case round =>
      clear HIN hj hj16;obtain⟨j,hj16,hj,rfl,hin⟩:=hrel;by_cases h5:j<64
      ·have hk0:(16:Int)≤(j:Int):=Ω
       have hk1:(j:Int)<64:=Ω;have hc2:wr.cell? ⟨wb,j-2,none⟩=some (.int .u32 (U (cz (bB b 64) j (j-2)))):=ar hin.ww Ω;have hc7:wr.cell? ⟨wb,j-7,none⟩=some (.int .u32 (U (cz (bB b 64) j (j-7)))):=ar hin.ww Ω;have hc15:wr.cell? ⟨wb,j-15,none⟩=some (.int .u32 (U (cz (bB b 64) j (j-15)))):=ar hin.ww Ω;have hc16:wr.cell? ⟨wb,j-16,none⟩=some (.int .u32 (U (cz (bB b 64) j (j-16)))):=ar hin.ww Ω;have hc:wr.cell? ⟨wb,j,none⟩=some (.int .u32 (U (cz (bB b 64) j j))):=ar hin.ww Ω;have hf:wr.frozen? ⟨wb,j,none⟩=false:=Xi wr _ _ _ _ hin.ww;have HIN:=Hd hin;have HST:=Hd (iN (bB b 64) hj16);clear hin;generalize cz (bB b 64) j=Wzq at *
       go_wp2;have e7:IntKind.i64.wrap ((j:Int)-7)=(j:Int)-7:=W3 _ Ω;have e16:IntKind.i64.wrap ((j:Int)-16)=(j:Int)-16:=W3 _ Ω;have t7:((j:Int)-7).toNat=j-7:=Ω;have t16:((j:Int)-16).toNat=j-16:=Ω;have p7:(7:Int)≤(j:Int):=Ω;have q7:(j:Int)-7<64:=Ω;have q16:(j:Int)-16<64:=Ω;have j0:(0:Int)≤(j:Int):=Ω;obtain⟨a0,a1⟩:=kX (Wzq (j-2));obtain⟨b0,b1⟩:=kX (Wzq (j-15));have hs0:=j6 (Wzq (j-15));have hs1:=j7 (Wzq (j-2));have hadd:=iI;go_still_tail 29,Θ;still_call (gE (Wzq (j-15)) 7 25 _ Ξ rfl)
       repeat still_step
       still_call (gE (Wzq (j-15)) 18 14 _ Ξ rfl)
       repeat still_step
       still_call (gE (Wzq (j-2)) 17 15 _ Ξ rfl)
       repeat still_step
       still_call (gE (Wzq (j-2)) 19 13 _ Ξ rfl)
       repeat still_step
       refine YC ?_;change wpList _ _ _ _ _ wr.drew;clear e7 e16 t7 t16 p7 q7 q16 hs0 hs1;go_wp2;go_roundw;case rel =>
        refine⟨j+1,Ω,Ω,by go_num,?_⟩;rw[HST.out,show Wzq (j-16)+wQ (Wzq (j-15))+Wzq (j-7)+wR (Wzq (j-2))=fK Wzq j by unfold fK;ac_rfl];exact HIN.out.set (fK Wzq j) h5
       case measure=>exact ϝ
      ·obtain rfl:j=64:=Ω
       rw[show((64:Nat):Int)=64 from rfl];have HIN:=Hd (show InAt w g n f (aI f k) wb (aY b) wr from hin);have HH8:=Hd hin.at_.hh;have HN8:=Hd (show(prog.info? 137).map (·.size)=some (bg 8 (aI f k)).size by rw[lc,a8]);clear hin;go_wp2_with (first
        | (with_reducible refine XW rfl 137 _ rfl (w.heap.size+1) rfl 137 (bg 8 (aI f k)) (0,0) _ HH8.out underlying137 rfl HN8.out ?_)
        | (with_reducible refine az rfl 137 rfl 8 _ wT ?_)
        | ((refine ϗ (.store 137 _ _) ?_);refine Xu rfl 137 _ _ rfl rfl _ (bg 8 (aI f k)) rfl rfl 137 _ (Xe _ _) HN8.out (by rw[aS,a8]) (bW _ _) ?_))
       have hlt2:wb<wr.heap.size:=(Array.getElem?_eq_some_iff.1 HIN.out.ww).1;have HVA:=Hd (show VAt w g n f (aI f k) wb (aY b) wr.heap.size (dz di (aY b) (aI f k) 0) ((wr.alloc (.cells (row 8 fun _=> .int .u32 0) 137)).setRow wr.heap.size (bg 8 (aI f k)))from
        ⟨HIN.out.keep (aZ ((XE _ _).alloc Ω _) Ω _),hlt2,aF (Xe _ _)⟩)
       clear HIN HH8 hlt2 hj hj16 h5;generalize(wr.alloc (.cells (row 8 fun _=> .int .u32 0) 137)).setRow wr.heap.size (bg 8 (aI f k))=w2 at *
       generalize wr.heap.size=vb at *
       clear wr;go_loopw [13] (fun i w2=>∃t:Nat,t≤64∧i= .int .i64 t∧VAt w g n f (aI f k) wb (aY b) vb (dz di (aY b) (aI f k) t) w2) (fun i _=>64-(intOf i).toNat);case atStart=>exact⟨0,Yb _,rfl,HVA.out⟩
       case round =>
        clear HVA;obtain⟨t,ht,rfl,hva⟩:=hrel;by_cases h5:t<64
        ·have h0:(0:Int)≤(t:Int):=Ω
         have h1:(t:Int)<64:=Ω;have ck:wr.cell? ⟨0,t,none⟩=some (.int .u32 (U (di t))):=(HK.out.below hva.in_.at_.bel).2 t h5;have cw:wr.cell? ⟨wb,t,none⟩=some (.int .u32 (U (aY b t))):=ar hva.in_.ww h5;have HN:=Hd (show dz di (aY b) (aI f k) (t+1)=rnd di (aY b) t (dz di (aY b) (aI f k) t)from rfl);generalize dz di (aY b) (aI f k) t=Vzq at *
         have hvv:=hva.vv;have c0:=ar (i:=0) hvv Ξ;have c1:=ar (i:=1) hvv Ξ;have c2:=ar (i:=2) hvv Ξ;have c3:=ar (i:=3) hvv Ξ;have c4:=ar (i:=4) hvv Ξ;have c5:=ar (i:=5) hvv Ξ;have c6:=ar (i:=6) hvv Ξ;have c7:=ar (i:=7) hvv Ξ;have HVA:=Hd hva;clear hva hvv;have hadd:=iI;have hxor:=mA;have hand:=Eb;have hnot:=JA;have hadd':=gH;go_wp2;go_quiet ((go_at_call 72;exact Calls.quiet_of_same (gE _ _ _ _ Ξ rfl)));have HVB:=Hd (HVA.out.drewN nq);clear c0 c1 c2 c3 c4 c5 c6 c7 ck cw HVA;generalize wr.drewN nq=wq at *
         have hvv:=HVB.out.vv;have c1:=ar (i:=1) hvv Ξ;have c2:=ar (i:=2) hvv Ξ;have c3:=ar (i:=3) hvv Ξ;have c5:=ar (i:=5) hvv Ξ;have c6:=ar (i:=6) hvv Ξ;clear hvv;go_wp2;go_quiet ((go_at_call 72;exact Calls.quiet_of_same (gE _ _ _ _ Ξ rfl)));have HV2:=Hd (show ∀m,(wq.drewN m).heap[vb]?=some (.cells (bg 8 Vzq) 137 (0,0))from fun _=>HVB.out.vv);have HZ8:=Hd (show(prog.info? 137).map (·.size)=some (bg 8 (rnd di (aY b) t Vzq)).size by rw[lc,a8]);go_wp2_with ((refine ϗ (.store _ _ _) ?_);refine Xu rfl 137 _ _ rfl rfl vb (bg 8 (rnd di (aY b) t Vzq)) rfl rfl 137 _ (HV2.out _) HZ8.out (by rw[a8,a8]) (bW _ _) ?_);go_roundw;case rel =>
          refine⟨t+1,Ω,by go_num,?_⟩;rw[HN.out];exact(HVB.out.drewN _).setRow _
         case measure=>exact ϝ
        ·obtain rfl:t=64:=Ω
         rw[show((64:Nat):Int)=64 from rfl];have HBL:=Hd (show ∀i,i<8→cg (aI f k) (dz di (aY b) (aI f k) 64) 8 i=aI f (k+1) i from fun i hi=>by
          unfold cg;rw[Ρ hi,aI,← HB.out];rfl)
         generalize dz di (aY b) (aI f k) 64=Vzq at *
         have HVA:=Hd (show VAt w g n f (cg (aI f k) Vzq 0) wb (aY b) vb Vzq wr from hva);clear hva ht h5;go_wp2;obtain⟨w3,rfl⟩:∃w3:ϑ,w3=wr:=⟨_,rfl⟩;go_loopw [18] (fun i w2=>∃q:Nat,q≤8∧i= .int .i64 q∧VAt w g n f (cg (aI f k) Vzq q) wb (aY b) vb Vzq w2) (fun i _=>8-(intOf i).toNat);case atStart=>exact⟨0,Yb _,rfl,HVA.out⟩
         case round =>
          clear HVA;obtain⟨q,hq,rfl,hva⟩:=hrel;by_cases h5:q<8
          ·have q0:(0:Int)≤(q:Int):=Ω
           have q1:(q:Int)<8:=Ω;have ca:wr.cell? ⟨w.heap.size+1,q,none⟩=some (.int .u32 (U (aI f k q))):=by
            rw[ar hva.in_.at_.hh h5];unfold cg;rw[Χ Ω]
           have cb:wr.cell? ⟨vb,q,none⟩=some (.int .u32 (U (Vzq q))):=ar hva.vv h5;have cf:wr.frozen? ⟨w.heap.size+1,q,none⟩=false:=Xi wr _ _ _ _ hva.in_.at_.hh;have HST:=Hd (nY (aI f k) Vzq q);have HVA:=Hd hva;clear hva;have hadd:=iI;have hadd':=gH;go_wp2;go_still_tail 9,Θ;change wpList _ _ _ _ _ wr.drew;go_wp2;go_roundw;case rel =>
            refine⟨q+1,Ω,by go_num,?_⟩;rw[← HST.out];exact HVA.out.setH _ h5
           case measure=>exact ϝ
          ·obtain rfl:q=8:=Ω
           rw[show((8:Nat):Int)=8 from rfl];have HAT:=Hd (hva.in_.at_.congr HBL.out);have hsb:(s:Int)≤2000000000:=by have:=HS64.out;have:=HPB.out;omega
           clear hva HBL;go_wp2;go_roundw;case rel=>exact⟨k+1,s+64,by have:=HS.out;omega,HS64.out,by go_num,HAT.out⟩
           case measure=>exact ϝ
  ·obtain rfl:s=n:=Ω
   have HFIN2:=Hd (show sha l=cm (aI f k) by rw[HFIN.out];congr 2;omega);have HAT:=Hd hat
   clear hat hs h5 HFIN hsn;go_wp2_with (with_reducible refine az rfl 24 rfl 32 _ vk ?_);have hz:=HAT.out.bel.size;have hg1:=HAT.out.lo;have hg2:=HAT.out.hi;have HAT9:=Hd (HAT.out.keep (Z:=wr.alloc (.cells (row 32 fun _=> .int .u8 0) 24)) ((XE _ _).alloc Ω _));have HNEW:=Hd (show(wr.alloc (.cells (row 32 fun _=> .int .u8 0) 24)).heap[wr.heap.size]?=some (.cells (aa 32 (eH (aI f k) 0)) 24 (0,0))from Xe _ _);obtain⟨ob,hob⟩:∃ob,ob=wr.heap.size:=⟨_,rfl⟩;rw[← hob]at HNEW hg2 ⊢;clear hob hz HAT HS;generalize wr.alloc (.cells (row 32 fun _=> .int .u8 0) 24)=w8 at *
   clear wr;generalize aI f k=hh at *
   go_loopw [20] (fun i w9=>∃q:Nat,q≤32∧i= .int .i64 q∧ShaAt w g s f hh w9∧w9.heap[ob]?=some (.cells (aa 32 (eH hh q)) 24 (0,0))) (fun i _=>32-(intOf i).toNat);case atStart=>exact⟨0,Ω,rfl,HAT9.out,HNEW.out⟩
   case round =>
    clear HAT9 HNEW;obtain⟨q,hq,rfl,hat,ho⟩:=hrel;by_cases hq32:q<32
    ·have hq0:(0:Int)≤(q:Int):=Ω
     have hq1:(q:Int)<32:=Ω;have ch:wr.cell? ⟨w.heap.size+1,q/4,none⟩=some (.int .u32 (U (hh (q/4)))):=ar hat.hh Ω;have co:wr.cell? ⟨ob,q,none⟩=some (.int .u8 (B8 (eH hh q q))):=a9 ho hq32;have fo:wr.frozen? ⟨ob,q,none⟩=false:=Xi wr _ _ _ _ ho;have HO:=Hd ho;have HOK:=Hd (iT hh q);have HAT:=Hd hat
     obtain⟨u0,u1⟩:=kX (hh (q/4));obtain⟨x0,x1⟩:=bP (cm hh q);clear ho hat
     have W4:q%4=0∨q%4=1∨q%4=2∨q%4=3:=Ω;rcases W4 with hr|hr|hr|hr
     ·have hX:bits BinOp.and IntKind.u32 (U (hh (q/4))/16777216) 255=B8 (cm hh q):=by
       have:=pI hh q 0 hr;rw[show((2^(24-8*0):Nat):Int)=16777216 from rfl]at this;exact this
      have hri:(q:Int)%4=0:=Ω;clear hr;go_wp2;go_roundw;case rel =>
       refine⟨q+1,Ω,by go_num,HAT.out.keep ((XE _ _).setCell (by show g+1≤ob;omega) _),?_⟩;rw[bv _ HO.out hq32,HOK.out]
      case measure=>exact ϝ
     ·have hX:bits BinOp.and IntKind.u32 (U (hh (q/4))/65536) 255=B8 (cm hh q):=by
       have:=pI hh q 1 hr;rw[show((2^(24-8*1):Nat):Int)=65536 from rfl]at this;exact this
      have hri:(q:Int)%4=1:=Ω;clear hr;go_wp2;go_roundw;case rel =>
       refine⟨q+1,Ω,by go_num,HAT.out.keep ((XE _ _).setCell (by show g+1≤ob;omega) _),?_⟩;rw[bv _ HO.out hq32,HOK.out]
      case measure=>exact ϝ
     ·have hX:bits BinOp.and IntKind.u32 (U (hh (q/4))/256) 255=B8 (cm hh q):=by
       have:=pI hh q 2 hr;rw[show((2^(24-8*2):Nat):Int)=256 from rfl]at this;exact this
      have hri:(q:Int)%4=2:=Ω;clear hr;go_wp2;go_roundw;case rel =>
       refine⟨q+1,Ω,by go_num,HAT.out.keep ((XE _ _).setCell (by show g+1≤ob;omega) _),?_⟩;rw[bv _ HO.out hq32,HOK.out]
      case measure=>exact ϝ
     ·have hX:bits BinOp.and IntKind.u32 (U (hh (q/4))) 255=B8 (cm hh q):=by
       have:=pI hh q 3 hr;rw[show((2^(24-8*3):Nat):Int)=1 from rfl]at this;rwa[Int.ediv_one]at this
      have hri:(q:Int)%4=3:=Ω;clear hr;go_wp2;go_roundw;case rel =>
       refine⟨q+1,Ω,by go_num,HAT.out.keep ((XE _ _).setCell (by show g+1≤ob;omega) _),?_⟩;rw[bv _ HO.out hq32,HOK.out]
      case measure=>exact ϝ
    ·have hro:aa 32 (eH hh q)=aa 32 (sha l):=gS fun i hi=>by
      unfold eH;rw[Ρ Ω,HFIN2.out]
     rw[hro]at ho;have HO:=Hd ho;have HRES:=Hd hat.res;have HA:=Hd hat.bel;have HSZ:=Hd (show(prog.info? 24).map (·.size)=some (aa 32 (sha l)).size by rw[Ab,ai]);clear ho hro hat HFIN2;go_wp2_with (first
      | ((refine ϗ (.load 24 _) ?_);refine XW rfl 24 _ rfl ob rfl 24 (aa 32 (sha l)) (0,0) _ HO.out underlying24 rfl HSZ.out ?_)
      | ((refine ϗ (.store 24 _ _) ?_);refine Xu rfl 24 _ _ rfl rfl w.heap.size (aa 32 (sha l)) rfl rfl 24 _ HRES.out HSZ.out (by rw[ai,ai]) (bS _ _) ?_))
     refine Ϣ (Yy rfl _ _ w.heap.size 24 (aa 32 (sha l)) (0,0) _ rfl (aF HRES.out) underlying24 rfl HSZ.out) rfl ?_;exact⟨rfl,aZ HA.out (Xn _) _⟩
theorem iG(l:Δ):Lib.strCells (bn l)=ak l:=by
 unfold Lib.strCells bn ak;simp only[List.map_map];refine List.map_congr_left fun x _=>?_;simp[B8,Xd x.isLt]
theorem Dl(l:Δ):(bn l).size=l.length:=by
 have:=Lib.strCells_length (bn l);rw[iG,ap]at this;exact this.symm
section
variable {w:ϑ}
theorem rF{ty:ϋ}{g n W:Nat}{E:Ψ}{xs l:Δ}(hr:OwnR E n W (ak xs))(hg:w.heap[g]?=some (.cells E 5 (0,0)))(hsz:n+l.length≤100000000000) :
 ∃g' cap' cur' Z,(Builtin.append_ #[29,9] ty #[.slice (ϐ g) n W,.string (bn l)]).run prog w= .ok (.slice (ϐ g') (n+l.length) cap') Z ∧
  OwnR cur' (n+l.length) cap' (ak (xs++l))∧w.grownBy Z (some g)∧Z.heap[g']?=some (.cells cur' 5 (0,0))∧(g'=g∨w.heap.size≤g'):=by
 obtain⟨i,z,hi,hz,hs1,hb,hzs⟩:=(Ϙ:Elt 29 5).info;have hsl:=Dl l;have hown:w.ownsRow 0 5 1 (.slice (ϐ g) n W) n (ak xs):=⟨by rw[hr.len];omega,.inr ⟨g,W,E,rfl,Yb _,hg,hr.le,hr.max,by rw[hr.size];omega,by rw[XS];exact hr.take⟩⟩;have hle:=hr.le;by_cases hroom:n+l.length≤W
 ·have hrun:=Lib.run_append_room_string (P:=prog) w 29 9 ty 5 i underlying29 underlying9 hi hs1 g n W E hg (bn l) (by rw[hsl];exact hroom) (by rw[hsl,hr.size];exact hroom)
  rw[hsl,iG]at hrun;refine⟨g,W,_,_,hrun,⟨by rw[eu,Xa,hr.len,ap],bY _,?_,hroom,hr.max,?_⟩,⟨rfl,rfl,rfl,Ϡ,fun k _ hk=>setRow_other w g k _ (fun e=>hk (by rw[e]))⟩,setRow_heap w g E _ _ _ hg,.inl rfl⟩
  ·simp only[YS,Xa,Xr,Xz,Yq,hr.size,ap]
   omega
  ·rw[hr.take,eu]
   have:n+l.length=(ak xs++ak l).length:=by rw[Xa,hr.len,ap]
   rw[this];exact Ze
 ·have hrun:=Lib.run_append_grow_string (P:=prog) w 29 9 ty 5 i z underlying29 underlying9 hi hz ⟨g,0,none⟩ n W (ak xs) (by rw[hs1,hr.len,XS]) (hown.cells (g:=g) rfl) (bn l) (by rw[hsl];omega) (by rw[hsl];omega)
   (growslice_fits (by rw[hsl];omega) (ZD (YE _ hb) (by rw[hsl];omega)))
  rw[hsl,iG]at hrun;have hge:=grownCap_ge w (n+l.length) W 5;refine⟨_,_,_,_,hrun,⟨by rw[eu,Xa,hr.len,ap],bY _,?_,hge,grownCap_le_maxLen w _ _ _ (by unfold maxLen;omega),?_⟩,⟨rfl,rfl,rfl,Ϡ,fun k hk _=>heap_alloc_old w.drew _ hk⟩,Xe w.drew _,.inr (Xn _)⟩
  ·simp only[YK,YS,size_zeroCells,hzs,hr.len,ap]
   omega
  ·have:n+l.length=(ak xs++ak l).length:=by rw[Xa,hr.len,ap]
   simp only[YJ,eu];rw[this];exact Ze
end
section
variable {o:Oper} {a:Act} {D w:ϑ} {M M':Mem} {Q:ώ} {K:Act→ϑ→Prop}
theorem pJ(l:Δ)(I:Loc D w M){s x:Operand}(ho:o.op= .call { callee:= .builtin .append,args:= #[s,x],argTypes:= #[29,9] }){g n W:Nat}(hs:a.eval s= .slice (ϐ g) n W){E:Ψ}[hm:At M g E 5]{xs:Δ}[hr:OwnR E n W (ak xs)]{F:Nat→Ψ→Mem}[hf:Reps M g F](hx:a.eval x= .string (bn l))(hsz:n+l.length≤100000000000)(h:∀g' cap' cur' Z,OwnR cur' (n+l.length) cap' (ak (xs++l))→Loc D Z (F g' cur')→K (a.put o.dst (.slice (ϐ g') (n+l.length) cap')) Z):o.wp prog a w K Q:=by
 obtain⟨g',cap',cur',Z,hrun,h1,h2,h3,h4⟩:=rF (ty:=o.type) (l:=l) hr (I.get hm.mem) hsz;unfold Oper.wp execOp;simp only[ho,resolve,invoke,builtin,Sem.run_bind,Sem.run_pure,Result.andThen_ok,List.map_toArray,List.map_cons,List.map_nil,hs,hx,hrun];exact h g' cap' cur' Z h1 (I.reps hm.mem hf h2 h3 h4)
theorem Ns{ops:Array Oper}{rest:List Oper}(I:Loc D w M)(hg:o.guard=none){t e:ϋ}{x y z' q:Operand}(ho:o.op= .buildSlice t 4 #[(0,x),(1,y),(2,z'),(3,q)])[he:Elt t e]{s1 s2 s3 s4:ByteArray}(hx:a.eval x= .string s1)(hy:a.eval y= .string s2)(hz':a.eval z'= .string s3)(hq:a.eval q= .string s4)(h:∀b Z,Loc D Z ((b, #[.string s1,.string s2,.string s3,.string s4],e)::M)→wpList prog ops Q rest (a.put o.dst (.slice (ϐ b) 4 4)) Z):wpList prog ops Q (o::rest) a w :=
 Xt hg fun K T=>by
  obtain⟨i,z,hi,hz,hs1,hb,hzs⟩:=he.info;refine Yl t e 4 #[(0,x),(1,y),(2,z'),(3,q)] ho #[.string s1,.string s2,.string s3,.string s4] i z he.und hi hz (by rw[hs1];decide) (by rw[hs1];decide) ?_ (T _ _ (h _ _ (I.alloc #[.string s1,.string s2,.string s3,.string s4] e)));rw[hs1];have e:(Array.map (fun(y:Nat×Operand)=>(y.1,a.eval y.2)) #[(0,x),(1,y),(2,z'),(3,q)]).toList=[(0,.string s1),(1,.string s2),(2,.string s3),(3,.string s4)]:=by simp[hx,hy,hz',hq]
  rw[e];have e1:Array.range 4= #[0,1,2,3]:=rfl;simp[Instr.fill,Value.cells,e1]
end
theorem Gy:(prog.info? 9).map (fun i=>(i.zero,i.size,i.bytes))=some (some (.string ByteArray.empty),1,16):=Θ
instance WT:Elt 85 9:=uP underlying85 Gy Ω rfl
instance Ua:ScTy 9:=⟨fun w=>by kernel_rfl,Θ⟩
def cp(a b c d:Φ):Ψ:=aa 32 a++aa 32 b++aa 32 c++aa 32 d
abbrev z32:Nat→Γ:=fun _=>0
section
variable (a b c d x:Φ) {u:ϋ}
theorem Dm:(cp a b c d).size=128:=by simp[cp,ai]
instance Ub:Row1 (cp a b c d) 128:=⟨Dm _ _ _ _,by simp only[cp,Zt,bS,Bool.and_self]⟩
instance Uc:Part (cp a b c d) u 0 24 (aa 32 a):=bQ (pre:= #[]) (post:=aa 32 b++aa 32 c++aa 32 d) (by simp only[cp,Xb,Za]) rfl
instance Ud:Part (cp a b c d) u 32 24 (aa 32 b):=bQ (pre:=aa 32 a) (post:=aa 32 c++aa 32 d) (by simp only[cp,Xb]) ϔ
instance Ue:Part (cp a b c d) u 64 24 (aa 32 c):=bQ (pre:=aa 32 a++aa 32 b) (post:=aa 32 d) (by simp only[cp,Xb]) ϔ
instance Uf:Part (cp a b c d) u 96 24 (aa 32 d):=bQ (pre:=aa 32 a++aa 32 b++aa 32 c) (post:= #[]) (by simp only[cp,Array.append_empty]) ϔ
instance Ug:Splice (cp a b c d) 0 (aa 32 x) (cp x b c d):=by
 have:=cq #[] (aa 32 a) (aa 32 x) (aa 32 b++aa 32 c++aa 32 d) 0 rfl ϔ;simpa only[cp,Xb,Za] using this
instance Uh:Splice (cp a b c d) 32 (aa 32 x) (cp a x c d):=by
 have:=cq (aa 32 a) (aa 32 b) (aa 32 x) (aa 32 c++aa 32 d) 32 ϔ ϔ;simpa only[cp,Xb] using this
instance Ui:Splice (cp a b c d) 64 (aa 32 x) (cp a b x d):=by
 have:=cq (aa 32 a++aa 32 b) (aa 32 c) (aa 32 x) (aa 32 d) 64 ϔ ϔ;simpa only[cp,Xb] using this
instance Uj:Splice (cp a b c d) 96 (aa 32 x) (cp a b c x):=by
 have:=cq (aa 32 a++aa 32 b++aa 32 c) (aa 32 d) (aa 32 x) #[] 96 ϔ ϔ;simpa only[cp,Array.append_empty] using this
end
instance Uk:RowTy 26 128:=⟨⟨_,underlying26,rfl⟩,Θ⟩
instance Ul:RowZ 26 (cp z32 z32 z32 z32):=⟨Θ⟩
instance Um:RowZ 86 (cp z32 z32 z32 z32):=⟨Θ⟩
theorem Dn(a b c d:Φ)(w:ϑ):(Instr.build 26 #[(0,.agg (aa 32 a)),(1,.agg (aa 32 b)),(2,.agg (aa 32 c)),(3,.agg (aa 32 d))]).run prog w= .ok (.agg (cp a b c d)) w:=Θ
def fI:Δ:=[114,111,111,116]
def fb:Δ:=[115,105,103,110,101,114]
def fd:Δ:=[100,101,118,105,99,101]
def i5:Δ:=[107,101,121]
def kOf(ς:Int)(nm:Δ):Nat→Γ:=sha (aM ς++nm)
abbrev setO(ς:Int):Ψ:=cp (kOf ς fI) (kOf ς fb) (kOf ς fd) (kOf ς i5)
theorem Do(ς:Int)(hs: -9223372036854775808≤ς∧ς≤9223372036854775807)(w:ϑ)(hk:KAt w):Rt 9 #[.int .i64 ς] w (.agg (cp (kOf ς fI) (kOf ς fb) (kOf ς fd) (kOf ς i5))):=by
 have I:=Loc.nil w;have HKW:=Hd (fun J (h:Υ w J)=>hk.below h);have HONE:=Hd (fun J=>(qX ς J hs).mono fun e Z h=>(show ∃g W E,e= .returned (.slice (ϐ g) 8 W)∧OwnR E 8 W (ak (aM ς))∧J.heap.size≤g∧Z.heap[g]?=some (.cells E 5 (0,0))∧Υ J Z from by have h':=h;unfold Fresh at h';rw[aw]at h';exact h'));have HS0:=Hd (fun J (hk:KAt J) v (h:BRow J v (aM ς++[114,111,111,116]))=>(show Rt 29 #[v] J (.agg (aa 32 (kOf ς fI)))from dB v _ J h (by rw[Xa,aw];decide) hk));have HS1:=Hd (fun J (hk:KAt J) v (h:BRow J v (aM ς++[115,105,103,110,101,114]))=>(show Rt 29 #[v] J (.agg (aa 32 (kOf ς fb)))from dB v _ J h (by rw[Xa,aw];decide) hk));have HS2:=Hd (fun J (hk:KAt J) v (h:BRow J v (aM ς++[100,101,118,105,99,101]))=>(show Rt 29 #[v] J (.agg (aa 32 (kOf ς fd)))from dB v _ J h (by rw[Xa,aw];decide) hk));have HS3:=Hd (fun J (hk:KAt J) v (h:BRow J v (aM ς++[107,101,121]))=>(show Rt 29 #[v] J (.agg (aa 32 (kOf ς i5)))from dB v _ J h (by rw[Xa,aw];decide) hk));clear hs hk;generalize kOf ς fI=k0,kOf ς fb=k1,kOf ς fd=k2,kOf ς i5=k3,aM ς=ps at *
 go_enter func9,ntmps9;go_wp2_with (first|refine aU ?_|refine gBp 2 fun b2 J I=>?_|refine gBp 4 fun b4 J I=>?_|(refine gN 6 ?_;refine Ns I rfl rfl rfl rfl rfl rfl ?_;intro b6;clear I;intro J I)|refine ab fun J I=>?_);go_loopw [5] (fun kk wr=>(kk= .int .i64 0∧Loc w wr [(b4,cp z32 z32 z32 z32,86),(b6, #[.string ⟨#[114,111,111,116]⟩,.string ⟨#[115,105,103,110,101,114]⟩,.string ⟨#[100,101,118,105,99,101]⟩,.string ⟨#[107,101,121]⟩],9),(b2,cp z32 z32 z32 z32,26)]) ∨
  (kk= .int .i64 1∧Loc w wr [(b4,cp k0 z32 z32 z32,86),(b6, #[.string ⟨#[114,111,111,116]⟩,.string ⟨#[115,105,103,110,101,114]⟩,.string ⟨#[100,101,118,105,99,101]⟩,.string ⟨#[107,101,121]⟩],9),(b2,cp z32 z32 z32 z32,26)]) ∨
  (kk= .int .i64 2∧Loc w wr [(b4,cp k0 k1 z32 z32,86),(b6, #[.string ⟨#[114,111,111,116]⟩,.string ⟨#[115,105,103,110,101,114]⟩,.string ⟨#[100,101,118,105,99,101]⟩,.string ⟨#[107,101,121]⟩],9),(b2,cp z32 z32 z32 z32,26)]) ∨
  (kk= .int .i64 3∧Loc w wr [(b4,cp k0 k1 k2 z32,86),(b6, #[.string ⟨#[114,111,111,116]⟩,.string ⟨#[115,105,103,110,101,114]⟩,.string ⟨#[100,101,118,105,99,101]⟩,.string ⟨#[107,101,121]⟩],9),(b2,cp z32 z32 z32 z32,26)]) ∨
  (kk= .int .i64 4∧Loc w wr [(b4,cp k0 k1 k2 k3,86),(b6, #[.string ⟨#[114,111,111,116]⟩,.string ⟨#[115,105,103,110,101,114]⟩,.string ⟨#[100,101,118,105,99,101]⟩,.string ⟨#[107,101,121]⟩],9),(b2,cp z32 z32 z32 z32,26)])) (fun kk _=>4-(intOf kk).toNat)
 case atStart=>exact .inl ⟨rfl,I⟩
 case round =>
  clear I;rcases hrel with⟨rfl,I⟩|⟨rfl,I⟩|⟨rfl,I⟩|⟨rfl,I⟩|⟨rfl,I⟩
  ·skip
   go_wp2_with (first|refine aU ?_|refine ab fun J I=>?_);refine mX (S:=fun Z=>∃x,Loc w Z [(b4,x,86),(b6, #[.string ⟨#[114,111,111,116]⟩,.string ⟨#[115,105,103,110,101,114]⟩,.string ⟨#[100,101,118,105,99,101]⟩,.string ⟨#[107,101,121]⟩],9),(b2,cp z32 z32 z32 z32,26)]) 11 (⟨_,I.drew⟩) ?_;intro H;replace I:=I.drew;refine uG 0 ?_;refine uG 1 ?_;refine uG 3 ?_;refine uG 4 ?_;refine uG 5 ?_;refine uZ 6 ?_;refine rd1 2 fun K T=>?_;refine eK (HONE.out _) ?_;rintro e J⟨g13,Y13,Z13,rfl,W13,hg13,hc13,hb13⟩;refine⟨_,rfl,?_⟩;have Y:=I.fresh hb13 hg13 hc13;clear hb13 hg13 hc13;clear I;have I:=Y;clear Y;refine kO T (⟨_,I.pop⟩) fun H=>?_;refine rd1 7 fun K T=>?_;refine pJ [114,111,111,116] I rfl rfl rfl ϖ fun g18 Y18 Z18 J W18 I=>?_;refine kO T (⟨_,I.pop⟩) fun H=>?_;refine rd1 8 fun K T=>?_;refine eVv (HS0.out _ (HKW.out _ I.bel) (.slice (ϐ g18) (8+4) Y18) (See.bytes I)) I fun J I=>?_;refine kO T (⟨_,I.pop⟩) fun H=>?_;refine uG 9 ?_;refine rd1 10 fun K T=>?_;refine cY fun J I=>?_;refine kO T (⟨_,I.pop⟩) fun H=>?_;refine wD ?_;clear H;have Y:=Loc.rem g18 I;clear I;have I:=Y;clear Y;go_wp2_with (first|refine aU ?_|refine ab fun J I=>?_);go_roundw;case rel=>exact .inr (.inl ⟨rfl,I⟩)
   case measure=>simp only[intOf];decide
  ·skip
   go_wp2_with (first|refine aU ?_|refine ab fun J I=>?_);refine mX (S:=fun Z=>∃x,Loc w Z [(b4,x,86),(b6, #[.string ⟨#[114,111,111,116]⟩,.string ⟨#[115,105,103,110,101,114]⟩,.string ⟨#[100,101,118,105,99,101]⟩,.string ⟨#[107,101,121]⟩],9),(b2,cp z32 z32 z32 z32,26)]) 11 (⟨_,I.drew⟩) ?_;intro H;replace I:=I.drew;refine uG 0 ?_;refine uG 1 ?_;refine uG 3 ?_;refine uG 4 ?_;refine uG 5 ?_;refine uZ 6 ?_;refine rd1 2 fun K T=>?_;refine eK (HONE.out _) ?_;rintro e J⟨g13,Y13,Z13,rfl,W13,hg13,hc13,hb13⟩;refine⟨_,rfl,?_⟩;have Y:=I.fresh hb13 hg13 hc13;clear hb13 hg13 hc13;clear I;have I:=Y;clear Y;refine kO T (⟨_,I.pop⟩) fun H=>?_;refine rd1 7 fun K T=>?_;refine pJ [115,105,103,110,101,114] I rfl rfl rfl ϖ fun g18 Y18 Z18 J W18 I=>?_;refine kO T (⟨_,I.pop⟩) fun H=>?_;refine rd1 8 fun K T=>?_;refine eVv (HS1.out _ (HKW.out _ I.bel) (.slice (ϐ g18) (8+6) Y18) (See.bytes I)) I fun J I=>?_;refine kO T (⟨_,I.pop⟩) fun H=>?_;refine uG 9 ?_;refine rd1 10 fun K T=>?_;refine cY fun J I=>?_;refine kO T (⟨_,I.pop⟩) fun H=>?_;refine wD ?_;clear H;have Y:=Loc.rem g18 I;clear I;have I:=Y;clear Y;go_wp2_with (first|refine aU ?_|refine ab fun J I=>?_);go_roundw;case rel=>exact .inr (.inr (.inl ⟨rfl,I⟩))
   case measure=>simp only[intOf];decide
  ·skip
   go_wp2_with (first|refine aU ?_|refine ab fun J I=>?_);refine mX (S:=fun Z=>∃x,Loc w Z [(b4,x,86),(b6, #[.string ⟨#[114,111,111,116]⟩,.string ⟨#[115,105,103,110,101,114]⟩,.string ⟨#[100,101,118,105,99,101]⟩,.string ⟨#[107,101,121]⟩],9),(b2,cp z32 z32 z32 z32,26)]) 11 (⟨_,I.drew⟩) ?_;intro H;replace I:=I.drew;refine uG 0 ?_;refine uG 1 ?_;refine uG 3 ?_;refine uG 4 ?_;refine uG 5 ?_;refine uZ 6 ?_;refine rd1 2 fun K T=>?_;refine eK (HONE.out _) ?_;rintro e J⟨g13,Y13,Z13,rfl,W13,hg13,hc13,hb13⟩;refine⟨_,rfl,?_⟩;have Y:=I.fresh hb13 hg13 hc13;clear hb13 hg13 hc13;clear I;have I:=Y;clear Y;refine kO T (⟨_,I.pop⟩) fun H=>?_;refine rd1 7 fun K T=>?_;refine pJ [100,101,118,105,99,101] I rfl rfl rfl ϖ fun g18 Y18 Z18 J W18 I=>?_;refine kO T (⟨_,I.pop⟩) fun H=>?_;refine rd1 8 fun K T=>?_;refine eVv (HS2.out _ (HKW.out _ I.bel) (.slice (ϐ g18) (8+6) Y18) (See.bytes I)) I fun J I=>?_;refine kO T (⟨_,I.pop⟩) fun H=>?_;refine uG 9 ?_;refine rd1 10 fun K T=>?_;refine cY fun J I=>?_;refine kO T (⟨_,I.pop⟩) fun H=>?_;refine wD ?_;clear H;have Y:=Loc.rem g18 I;clear I;have I:=Y;clear Y;go_wp2_with (first|refine aU ?_|refine ab fun J I=>?_);go_roundw;case rel=>exact .inr (.inr (.inr (.inl ⟨rfl,I⟩)))
   case measure=>simp only[intOf];decide
  ·skip
   go_wp2_with (first|refine aU ?_|refine ab fun J I=>?_);refine mX (S:=fun Z=>∃x,Loc w Z [(b4,x,86),(b6, #[.string ⟨#[114,111,111,116]⟩,.string ⟨#[115,105,103,110,101,114]⟩,.string ⟨#[100,101,118,105,99,101]⟩,.string ⟨#[107,101,121]⟩],9),(b2,cp z32 z32 z32 z32,26)]) 11 (⟨_,I.drew⟩) ?_;intro H;replace I:=I.drew;refine uG 0 ?_;refine uG 1 ?_;refine uG 3 ?_;refine uG 4 ?_;refine uG 5 ?_;refine uZ 6 ?_;refine rd1 2 fun K T=>?_;refine eK (HONE.out _) ?_;rintro e J⟨g13,Y13,Z13,rfl,W13,hg13,hc13,hb13⟩;refine⟨_,rfl,?_⟩;have Y:=I.fresh hb13 hg13 hc13;clear hb13 hg13 hc13;clear I;have I:=Y;clear Y;refine kO T (⟨_,I.pop⟩) fun H=>?_;refine rd1 7 fun K T=>?_;refine pJ [107,101,121] I rfl rfl rfl ϖ fun g18 Y18 Z18 J W18 I=>?_;refine kO T (⟨_,I.pop⟩) fun H=>?_;refine rd1 8 fun K T=>?_;refine eVv (HS3.out _ (HKW.out _ I.bel) (.slice (ϐ g18) (8+3) Y18) (See.bytes I)) I fun J I=>?_;refine kO T (⟨_,I.pop⟩) fun H=>?_;refine uG 9 ?_;refine rd1 10 fun K T=>?_;refine cY fun J I=>?_;refine kO T (⟨_,I.pop⟩) fun H=>?_;refine wD ?_;clear H;have Y:=Loc.rem g18 I;clear I;have I:=Y;clear Y;go_wp2_with (first|refine aU ?_|refine ab fun J I=>?_);go_roundw;case rel=>exact .inr (.inr (.inr (.inr (⟨rfl,I⟩))))
   case measure=>simp only[intOf];decide
  ·skip
   obtain⟨sr,hsr⟩:∃sr,sr=cp k0 k1 k2 k3:=⟨_,rfl⟩;have hB:=Dn k0 k1 k2 k3;rw[← hsr]at hB;haveI hS1:Row1 sr 128:=by rw[hsr];infer_instance
   have HSR:=Hd hsr;clear hsr;go_wp2_with (first|refine aU ?_|(refine gN 29 ?_;refine ϙ hB fun J I=>?_)|refine ab fun J I=>?_);exact Ϣ (aj rfl I rfl) rfl ⟨by rw[HSR.out],I.bel⟩
instance Un:Ent 9:=eo func9
theorem xZ(a b c d:Φ)(w:ϑ)(hG:Glob w):Rt 10 #[.agg (cp a b c d)] w (.agg (aa 32 (ah (gZ (ae 32 a))))):=by
 have I:=Loc.nil w;have HP:=Hd (fun J (h:Glob J)=>mh a J (hG:=h));have HG:=Hd hG;clear hG;generalize ah (gZ (ae 32 a))=pk at *
 go_enter func10,ntmps10;go_wp2_with (first|refine aU ?_|refine gBp 1 fun b1 J I=>?_|refine gBp 2 fun b2 J I=>?_|(refine gN 5 ?_;refine lV (HP.out _ (I.glob HG.out)) I fun J I=>?_)|refine ab fun J I=>?_);exact Λ
instance Uo:Ent 10:=eo func10
theorem n8(n:Int)(w:ϑ):ϓ 79 #[.int .i64 n] w fun e Z=>e= .returned (.bool (fH n))∧w=Z:=by
 rcases(by omega:¬0≤n∨(0≤n∧¬n≤2147483647)∨(0≤n∧n≤2147483647))with h|⟨h,h2⟩|⟨h,h2⟩
 all_goals
  go_enter func79,ntmps79;go_wp2_with (first|refine aU ?_|refine ab fun J I=>?_);go_ret;exact⟨by simp[fH,h] <;> omega,rfl⟩
theorem n9(n:Int)(h:eX n)(w:ϑ):ϓ 79 #[.int .i64 n] w fun e Z=>e= .returned (.bool true)∧w=Z:=by
 have hm:fH n=true:=Xw h;rw[← hm];exact n8 n w
instance Up:Ent 79:=eo func79
theorem jx(n:Int)(h:eX n)(w:ϑ):ϓ 88 #[.int .i64 n] w fun e Z=>Fresh w (cK n) e Z:=by
 have I:=Loc.nil w;obtain⟨h0,h1⟩:=h;have HP:=Hd (fun J (v1 v2:ό) (h2:BRow J v1 [80,67,83,84]) (h3:VRow J v2 (cj [n]))=>gT v1 [80,67,83,84] v2 [n] J h2 (fun h=>by simp at h) Ξ h3 Ϡ Ϡ (fun x hx=>by rw[List.mem_singleton.1 hx];omega));rw[show aW [n]=aM n from by unfold aW;simp,eU]at HP;rw[show cK n=[80,67,83,84]++aM n from rfl];generalize[80,67,83,84]++aM n=tx at *
 go_enter func88,ntmps88;go_wp2_with (first|refine aU ?_|((with_reducible show wpList _ _ _ (⟨some 3,_,_,_,_,_⟩::⟨some 4,_,_,_,_,_⟩::_) _ _);go_loud (refine xG 80 67 83 84 I rfl rfl rfl rfl rfl rfl rfl rfl (fun _=>rfl) ?_);clear I;intro b3 w4 hb3 hL0;have hA3:Arg w4 (.slice (ϐ b3) 4 4) (ak [80,67,83,84]):=⟨hb3.vrow⟩;have I:=Loc.nil w4)|(refine gN 6 ?_;refine aL fun b6 J I=>?_)|(go_at_call 73;go_loud (refine(HP.out _ _ _ (See.bytes I) (See.see _ I)).mono ?_);rintro e J⟨g7,Y7,Z7,rfl,W7,hg7,hc7,hb7⟩;have Y:=I.fresh hb7 hg7 hc7;clear hb7 hg7 hc7;clear I;have I:=Y;clear Y;refine p4 ?_)|refine ab fun J I=>?_);go_ret;exact(I.back rfl).from hL0.bel
instance Uq:Ent 88:=eo func88
theorem x8(f:Φ)(n:Int)(h:eX n)(w:ϑ)(hG:Glob w):Rt 39 #[.agg (aa 32 f),.int .i64 n] w (.tuple #[.agg (bR n (ia (ae 32 f) (cK n))),.int .i64 0]):=by
 have I:=Loc.nil w;have HS:=Hd (fun J=>n9 n h J);have HT:=Hd (fun J=>jx n h J);have χ:(cK n).length≤1000000:=by simp[cK,aw]
 have HSG:=Hd (fun J (hg:Glob J) v (hv:BRow J v (cK n))=>qT f v (cK n) J (hG:=hg) hv χ);have HG:=Hd hG;clear hG χ h;generalize ia (ae 32 f) (cK n)=sg at *
 generalize cK n=tx at *
 have hB:=rl n sg;have hS1:Row1 (bR n sg) 65:=Ϙ;generalize bR n sg=sr at *
 go_enter func39,ntmps39;go_wp2_with (first|refine aU ?_|refine gBp 2 fun b2 J I=>?_|refine gBp 4 fun b4 J I=>?_|((go_at_call 79;go_loud (refine(HS.out _).mono ?_);rintro e J⟨rfl,rfl⟩;refine p4 ?_))|refine ab fun J I=>?_);refine mX (S:=fun Z=>∃x,Loc w Z [(b4,x,98),(b2,aa 32 f,24)]) 8 (⟨_,I.drew⟩) ?_;intro H;replace I:=I.drew;refine uG 0 ?_;refine uZ 1 ?_;refine uG 2 ?_;refine rd1 3 fun K T=>?_;refine eK (HT.out _) ?_;rintro e J⟨g13,Y13,Z13,rfl,W13,hg13,hc13,hb13⟩;refine⟨_,rfl,?_⟩;have Y:=I.fresh hb13 hg13 hc13;clear hb13 hg13 hc13;clear I;have I:=Y;clear Y;refine kO T (⟨_,I.pop⟩) fun H=>?_;refine rd1 4 fun K T=>?_;refine eVv (HSG.out _ (I.glob HG.out) (.slice (ϐ g13) tx.length Y13) (See.bytes I)) I fun J I=>?_;refine kO T (⟨_,I.pop⟩) fun H=>?_;refine uT 5 (hi:=rfl) (zU ϕ rfl hB rfl) ?_;refine rd1 6 fun K T=>?_;refine cY fun J I=>?_;refine kO T (⟨_,I.pop⟩) fun H=>?_;refine uG 7 ?_;refine wD ?_;clear H;go_wp2_with (first|refine aU ?_|refine ab fun J I=>?_);exact Ϣ (ao rfl I rfl rfl) rfl ⟨rfl,I.bel⟩
instance Ur:Ent 39:=eo func39
theorem I2(n:Int)(f:Φ):Seg (bR n f) 1 64 (ak (ae 64 f)) where
 len:=by rw[ap,ag]
 one:=bY _
 seg:=fun i hi=>by
  rw[ap,ag]at hi;unfold bR;rw[Array.getElem?_append_right Ϡ];rw[show(ak (ae 64 f))[i]=Value.int .u8 (B8 (f i))from by simp[ak,ae]];have h1:1+i-(#[Value.int .i64 n]:Ψ).size=i:=Ϡ;rw[h1];exact bG (fun i=>Value.int .u8 (B8 (f i))) hi
theorem vG(n:Int)(f:Φ)(h:eX n)(w:ϑ):ϓ 40 #[.agg (bR n f)] w fun e Z=>∃g W E,e= .returned (.tuple #[.slice (ϐ g) 76 W,.int .i64 0])∧OwnR E 76 W (ak (ef n f))∧Loc w Z [(g,E,5)]:=by
 have I:=Loc.nil w;have HS:=Hd (fun J=>n9 n h J);have χ:(cK n).length=12:=by simp[cK,aw]
 have HT:=Hd (fun J=>(jx n h J).mono fun e Z h=>(show ∃g W E,e= .returned (.slice (ϐ g) 12 W)∧OwnR E 12 W (ak (cK n))∧J.heap.size≤g∧Z.heap[g]?=some (.cells E 5 (0,0))∧Υ J Z from by have h':=h;unfold Fresh at h';rw[χ]at h';exact h'));rw[show ef n f=cK n++ae 64 f from rfl];haveI hsg:=I2 n f;clear χ h;generalize cK n=tx at *
 go_enter func40,ntmps40;go_wp2_with (first|refine aU ?_|refine gBp 1 fun b1 J I=>?_|((go_at_call 79;go_loud (refine(HS.out _).mono ?_);rintro e J⟨rfl,rfl⟩;refine p4 ?_))|refine ab fun J I=>?_);refine Ϭ 8 I fun H I=>?_;refine uG 0 ?_;refine uG 3 ?_;refine uZ 1 ?_;refine uG 4 ?_;refine rd1 2 fun K T=>?_;refine eK (HT.out _) ?_;rintro e J⟨g10,Y10,Z10,rfl,W10,hg10,hc10,hb10⟩;refine⟨_,rfl,?_⟩;have Y:=I.fresh hb10 hg10 hc10;clear hb10 hg10 hc10;clear I;have I:=Y;clear Y;refine kO T (I.pop) fun H=>?_;refine rd1 5 fun K T=>?_;refine eAp ?_;intro g13 Y13 Z13 J W13 I;refine kO T (I.pop) fun H=>?_;refine uG 6 ?_;refine uG 7 ?_;refine wD ?_;clear H;go_wp2_with fail;go_ret2;exact⟨g13,Y13,Z13,rfl,W13,Loc.rem b1 I⟩
instance Us:Ent 40:=eo func40
theorem Aq(a b c d:Φ)(n:Int)(h:eX n)(w:ϑ)(hG:Glob w):ϓ 12 #[.agg (cp a b c d),.int .i64 n] w fun e Z=>∃g W E,e= .returned (.tuple #[.slice (ϐ g) 76 W,.int .i64 0])∧OwnR E 76 W (ak (ef n (ia (ae 32 a) (cK n))))∧Loc w Z [(g,E,5)]:=by
 have I:=Loc.nil w;have HS:=Hd (fun J (hg:Glob J)=>x8 a n h J hg);have HP:=Hd (fun J=>vG n (ia (ae 32 a) (cK n)) h J);have HG:=Hd hG;clear hG h;generalize ia (ae 32 a) (cK n)=sg at *
 go_enter func12,ntmps12;go_wp2_with (first|refine aU ?_|refine gBp 2 fun b2 J I=>?_|refine gBp 6 fun b6 J I=>?_|(refine gN 12 ?_;refine lV (HS.out _ (I.glob HG.out)) I fun J I=>?_)|(refine gN 19 ?_;refine lKk (HP.out _) ?_;rintro e J⟨g19,Y19,Z19,rfl,W19,hN⟩;refine Ϩ (I.join hN) fun I=>?_)|refine ab fun J I=>?_);go_ret2;exact⟨g19,Y19,Z19,rfl,W19,Loc.rem b2 (Loc.rem b6 I)⟩
instance Ut:Ent 12:=eo func12
theorem dS(n:Int)(h0:0≤n)(h1:n≤2147483647):FnC 79 #[.int .i64 n] (.bool true) :=
 ⟨fun w=>(n9 n ⟨h0,h1⟩ w).mono fun e Z h=>⟨h.1,by rw[← h.2];exact XE _ _⟩⟩
theorem io(m:Man)(hm:m.Ok)(p:ϊ)(c:Nat)(w:ϑ)(hv:BRow w (.slice p 80 c) m.wr) :
 ϓ 67 #[.agg (m.row p 80 c)] w fun e Z=>∃g W E,e= .returned (.tuple #[.slice (ϐ g) 236 W,.int .i64 0])∧OwnR E 236 W (ak m.body)∧Loc w Z [(g,E,5)]:=by
 have I:=Loc.nil w;haveI hA:Arg w (.slice p 80 c) (ak m.wr):=⟨hv.vrow⟩;obtain⟨ν,ζ,ρ,wr,id,κ,cs,sg⟩:=m;obtain⟨v0,v1,b0,b1,hw,i0,i1⟩:=hm;dsimp only at *
 haveI f1:=dS ν v0 v1;haveI f2:=dS id i0 i1;have HROW:=Hd (show Man.row ⟨ν,ζ,ρ,wr,id,κ,cs,sg⟩ p 80 c=mfR ν ζ ρ p 80 c id κ cs sg from rfl);have HB:=Hd (show Man.body ⟨ν,ζ,ρ,wr,id,κ,cs,sg⟩=[80,67,77,49]++aW [ν,ζ]++ae 32 ρ++wr++aW [id]++ae 32 κ++ae 64 cs from by
  unfold Man.body aW;simp only[List.map_cons,List.map_nil,XP,Yz,Xc,Yf])
 rw[HROW.out,HB.out];have hp1:=(fun J (u1 u2:ό) (h2:BRow J u1 [80,67,77,49]) (h3:VRow J u2 (cj [ν,ζ]))=>gT u1 [80,67,77,49] u2 [ν,ζ] J h2 (fun h=>by cases h) Ξ h3 Ϡ Ϡ (fun x hx=>by
  rcases List.mem_cons.1 hx with e|hx
  ·subst e;omega
  ·obtain rfl:=List.mem_singleton.1 hx;omega))
 obtain⟨l1,hl1⟩:∃l1,l1=[80,67,77,49]++aW [ν,ζ]:=⟨_,rfl⟩;have hn1:l1.length=20:=by rw[hl1];simp[bp]
 obtain⟨l2,hl2⟩:∃l2,l2=l1++ae 32 ρ++wr:=⟨_,rfl⟩;have hn2:l2.length=132:=by rw[hl2];simp[hn1,ag,hw]
 have hp2:=(fun J (u1 u2:ό) (h2:BRow J u1 l2) (h3:VRow J u2 (cj [id]))=>gT u1 l2 u2 [id] J h2 (fun h=>by rw[h]at hn2;cases hn2) Ω h3 Ϡ Ϡ (fun x hx=>by
  obtain rfl:=List.mem_singleton.1 hx;omega))
 obtain⟨l3,hl3⟩:∃l3,l3=l2++aW [id]:=⟨_,rfl⟩;have hn3:l3.length=140:=by rw[hl3];simp[bp,hn2]
 rw[← hl1]at hp1 ⊢;rw[← hl2,← hl3];rw[← hl3]at hp2;simp only[Fresh,hn1]at hp1;simp only[Fresh,hn3,eU]at hp2;have HP1:=Hd hp1;have HP2:=Hd hp2;have HL2:=Hd hl2;haveI s2:=tK ν ζ;have d1:decide (ζ<1)=false:=XB Ω;have d2:decide ((32:Int)<ζ)=false:=XB Ω;clear hl1 hl2 hl3 HB HROW hv hw hp1 hp2 hn1 hn2 hn3;go_enter func67,ntmps67;go_wp2_with (first|refine aU ?_|refine gBp 1 fun b1 J I=>?_|((with_reducible show wpList _ _ _ (⟨some 32,_,_,_,_,_⟩::⟨some 33,_,_,_,_,_⟩::_) _ _);go_loud (refine xG 80 67 77 49 I rfl rfl rfl rfl rfl rfl rfl rfl (fun _=>rfl) ?_);clear I;intro b8 w9 hb8 hL0;have hA8:Arg w9 (.slice (ϐ b8) 4 4) (ak [80,67,77,49]):=⟨hb8.vrow⟩;have hW0:Was w9 b1 0 (.int .i64 ν):=⟨by rw[Ya w9 b1 0 _ _ _ (hL0.get (.head _))];exact(Ϙ:Cell (mfR ν ζ ρ p 80 c id κ cs sg) 0 (.int .i64 ν)).cell,hL0.lt (.head _)⟩;have hW1:Was w9 b1 1 (.int .i64 ζ):=⟨by rw[Ya w9 b1 1 _ _ _ (hL0.get (.head _))];exact(Ϙ:Cell (mfR ν ζ ρ p 80 c id κ cs sg) 1 (.int .i64 ζ)).cell,hL0.lt (.head _)⟩;have I:=Loc.nil w9;refine p4 ?_)|((refine gN 38 ?_);(first|refine BP I rfl rfl rfl rfl ?_|refine F9 I rfl rfl rfl rfl rfl rfl ?_);intro b38;clear I;intro J I;refine p4 ?_)|((go_at_call 73;go_loud (refine(HP1.out _ _ _ (See.bytes I (l:=[80,67,77,49])) (See.see _ I)).mono ?_);rintro e J⟨g15,Y15,Z15,rfl,W15,hg15,hc15,hb15⟩;have Y:=hL0.join (I.fresh hb15 hg15 hc15);clear hb15 hg15 hc15;clear I hA8 hb8;have I:=Y;clear Y;try simp only[List.cons_append,List.nil_append]at I;refine p4 ?_))|refine ab fun J I=>?_|refine Ϯ fun J I=>?_);refine mX (S:=(fun Z=>Loc _ Z [(b1,mfR ν ζ ρ p 80 c id κ cs sg,79)])) 8 (I.drew.pop.pop) ?_;intro H;replace I:=I.drew;refine uG 0 ?_;refine uG 1 ?_;refine uG 4 ?_;refine uG 2 ?_;refine uZ 5 ?_;refine rd1 3 fun K T=>?_;refine eAp ?_;intro g43 Y43 Z43 J W43 I;refine kO T (I.pop.pop) fun H=>?_;refine rd1 6 fun K T=>?_;refine eAp ?_;intro g46 Y46 Z46 J W46 I;refine kO T (I.pop.pop) fun H=>?_;refine uG 7 ?_;refine wD ?_;clear H;simp only[Nat.reduceAdd]at W46;go_wp2_with (first|refine aU ?_|(refine gN 51 ?_;refine aL fun b51 J I=>?_)|(go_at_call 73;go_loud (refine(HP2.out _ _ _ (by rw[HL2.out];exact See.bytes I (v:= .slice (ϐ g46) 132 Y46)) (See.see (v:= .slice (ϐ b51) 1 1) _ I)).mono ?_);rintro e J⟨g52,Y52,Z52,rfl,W52,hg52,hc52,hb52⟩;have Y:=I.fresh hb52 hg52 hc52;clear hb52 hg52 hc52;clear I;have I:=Y;clear Y;refine p4 ?_)|refine ab fun J I=>?_);refine mX (S:=(fun _=>True)) 11 (trivial) ?_;intro H;replace I:=I.drew;refine uG 0 ?_;refine uG 1 ?_;refine uG 5 ?_;refine uG 2 ?_;refine uG 6 ?_;refine uG 3 ?_;refine uG 7 ?_;refine rd1 4 fun K T=>?_;refine eAp ?_;intro g57 Y57 Z57 J W57 I;refine kO T (trivial) fun H=>?_;refine rd1 8 fun K T=>?_;refine eAp ?_;intro g61 Y61 Z61 J W61 I;refine kO T (trivial) fun H=>?_;refine uG 9 ?_;refine uG 10 ?_;refine wD ?_;clear H;go_wp2_with (first|refine aU ?_|refine ab fun J I=>?_);go_ret2;exact⟨g61,Y61,Z61,rfl,W61,I.sub ((Yd _).cons_cons _)⟩
instance Uu:Ent 67:=eo func67
theorem x9{ν ζ id:Int}{ρ κ cs sg:Φ}{p:ϊ}{c:Nat}(hb:jw ν ζ id=false)(w:ϑ) :
 Rt 67 #[.agg (mfR ν ζ ρ p 80 c id κ cs sg)] w (.tuple #[.slice none 0 0,.int .i64 1]):=by
 have I:=Loc.nil w;have hsm:∀n,FnC 79 #[.int .i64 n] (.bool (fH n)):=fun n=>⟨fun J=>(n8 n J).mono fun e Z h=>⟨h.1,by rw[← h.2];exact XE _ _⟩⟩;haveI f1:=hsm ν;haveI f2:=hsm id;have hb2:=ZN hb;rcases(by unfold fH;simp only[ZW,decide_eq_false_iff_not];omega:fH ν=false∨(fH ν=true∧decide (ζ<1)=true)∨(fH ν=true∧decide (ζ<1)=false∧decide ((32:Int)<ζ)=true)∨(fH ν=true∧decide (ζ<1)=false∧decide ((32:Int)<ζ)=false∧fH id=false))with h|⟨h,h2⟩|⟨h,h2,h3⟩|⟨h,h2,h3,h4⟩
 all_goals
  clear hb hb2 hsm;go_enter func67,ntmps67;go_wp2_with (first|refine aU ?_|refine gBp 1 fun b1 J I=>?_|refine ab fun J I=>?_|refine Ϯ fun J I=>?_);go_ret2;exact⟨rfl,I.bel⟩
instance Uv(ν ζ:Int)(ρ:Φ)(p:ϊ)(n c:Nat)(id:Int)(κ cs sg:Φ):Seg (mfR ν ζ ρ p n c id κ cs sg) 132 64 (ak (ae 64 sg)):=kQ (pre:= #[.int .i64 ν,.int .i64 ζ]++aa 32 ρ ++ #[.slice p n c,.int .i64 id]++aa 32 κ++aa 64 cs) (post:= #[]) (by simp only[mfR,Xb,Array.append_empty]) ϔ
theorem ya(m:Man)(hm:m.Ok)(p:ϊ)(c:Nat)(w:ϑ)(hv:BRow w (.slice p 80 c) m.wr) :
 ϓ 27 #[.agg (m.row p 80 c)] w fun e Z=>∃g W E,e= .returned (.tuple #[.slice (ϐ g) 300 W,.int .i64 0])∧OwnR E 300 W (ak m.bytes)∧Loc w Z [(g,E,5)]:=by
 have I:=Loc.nil w;have HB:=Hd (fun J (V:Υ w J)=>io m hm p c J (hv.below V));have HY:=Hd (show m.bytes=m.body++ae 64 m.sg from rfl);rw[HY.out];have HROW:=Hd (show m.row p 80 c=mfR m.ν m.ζ m.ρ p 80 c m.id m.κ m.cs m.sg from rfl);rw[HROW.out]at HB ⊢;obtain⟨b,hb⟩:∃b,b=m.body:=⟨_,rfl⟩;rw[← hb]at HB ⊢;clear HROW HY hb hv hm;obtain⟨ν,ζ,ρ,wr,id,κ,cs,sg⟩:=m;dsimp only at *
 go_enter func27,ntmps27;go_wp2_with (first|refine aU ?_|refine gBp 1 fun b1 J I=>?_|(refine gN 8 ?_;refine lKk (HB.out _ I.bel) ?_;rintro e J⟨g8,Y8,Z8,rfl,W8,hN⟩;refine Ϩ (I.join hN) fun I=>?_)|(refine gN 17 ?_;refine aA ?_;intro g17 Y17 Z17 J W17 I)|refine ab fun J I=>?_);go_ret2;exact⟨g17,Y17,Z17,rfl,W17,I.sub ((Yd _).cons_cons _)⟩
instance Uw:Ent 27:=eo func27
namespace R3
def P5:Nat:=1361129467683753853853498429727072845819
theorem BY:2^130=P5+5:=Ϛ
def f5(n:Nat):Nat:=n%2^130+5*(n/2^130)
theorem jy(n:Nat):f5 n%P5=n%P5:=by
 have h:n=f5 n+n/2^130*P5:=by
  unfold f5;have:=ZA n (2^130);rw[BY]at *
  generalize n/(P5+5)=q at *
  rw[ZL]at this;rw[XU q P5];omega
 conv=>rhs;rw[h]
 rw[YU]
def c5(f:Nat→Int):Nat→Int
 | 0=>0
 | k+1=>(c5 f k+f k)/256
def d5(f:Nat→Int)(i:Nat):Int:=(c5 f i+f i)%256
theorem vH(f:Nat→Int):∀k,aQ (d5 f) k+c5 f k*2^(8*k)=aQ f k
 | 0=>by simp[aQ,c5]
 | k+1=>by
  have ih:=vH f k;show aQ (d5 f) k+(c5 f k+f k)%256*2^(8*k)+(c5 f k+f k)/256*2^(8*(k+1))=aQ f k+f k*2^(8*k);rw[← ih,IK,show(2:Int)^(8*1)=256 from rfl];generalize(2:Int)^(8*k)=Ezq;have h:=Int.emod_add_mul_ediv (c5 f k+f k) 256;generalize(c5 f k+f k)%256=x at *
  generalize(c5 f k+f k)/256=y at *
  have hf:f k=x+256*y-c5 f k:=Ω;rw[hf];grind
theorem kx{f:Nat→Int}(h:∀i,0≤f i):∀k,0≤c5 f k
 | 0=>Int.le_refl _
 | k+1=>by
  have:=kx h k;have:=h k;show 0≤(c5 f k+f k)/256;omega
theorem yb{f:Nat→Int}{B:Int}(h:∀i,0≤f i∧f i≤B)(hB:1≤B):∀k,c5 f k≤B
 | 0=>by show(0:Int)≤B;omega
 | k+1=>by
  have:=yb h hB k;have:=h k;show(c5 f k+f k)/256≤B;omega
theorem fZ(f:Nat→Int):IL (d5 f):=fun i=>by unfold d5;omega
def rD(n i:Nat):Nat:=if i=0 then n%256+5*(n/2^130)else if i=16 then n/2^128%4 else dgB n i
def em(f:Nat→Int)(i:Nat):Int:=if i=0 then d5 f 0+5*((c5 f 16+f 16)/4)else if i=16 then(c5 f 16+f 16)%4 else d5 f i
theorem oa{f:Nat→Int}(h:∀i,0≤f i){i:Nat}(hi:i<17):em f i=(rD (aQ f 17).toNat i:Int):=by
 have hv:=vH f 16;have hn:=iU (fZ f) 16;have hd:=pz (fZ f) 16;have hp:=kx h 16;have h16:=h 16;have hV:aQ f 17=aQ (d5 f) 16+(c5 f 16+f 16)*2^(8*16):=by
  show aQ f 16+f 16*2^(8*16)=_;rw[← hv,Int.add_mul];omega
 rw[show 8*16=128 from rfl]at *
 obtain⟨S,hS⟩:=YG hn.1;obtain⟨u,hu⟩:=YG (show 0≤c5 f 16+f 16 by omega);rw[hS]at hd hV hn;rw[hu]at hV;have hS2:S<2^128:=by
  have:=hn.2;rw[show(2:Int)^128=((2^128:Nat):Int)from rfl]at this;omega
 have hVn:(aQ f 17).toNat=S+u*2^128:=by
  rw[hV,show(2:Int)^128=((2^128:Nat):Int)from rfl];omega
 rw[Ys]at hd;have hq:(S+u*2^128)/2^128=u:=by rw[Nat.add_mul_div_right _ _ (Xg _),Xp hS2,XA]
 have hq2:(S+u*2^128)/2^130=u/4:=by rw[show 2^130=2^128*4 from rfl,← Xj,hq]
 have hdg:∀j,j<16→dgB (S+u*2^128) j=dgB S j:=fun j hj=>by
  unfold dgB;rw[show 2^128=2^(8*j)*(256*2^(128-8*j-8))from by rw[show 256=2^8 from rfl,← Xk,← Xk];congr 1;omega,← XK,XU u,XK,Xy _ _ (Xg _),← XK,XU u,XK,XD]
 unfold em rD;rw[hVn];by_cases h0:i=0
 ·rw[Ρ h0,Ρ h0,hq2,hu,hd 0 Ω,← hdg 0 Ω]
  show((S+u*2^128)/2^(8*0)%256:Nat)+5*((u:Int)/4)=_;rw[XO,Yh,Yj];generalize S+u*2^128=Vzq;omega
 ·rw[Χ h0,Χ h0]
  by_cases h1:i=16
  ·rw[Ρ h1,Ρ h1,hq,hu];omega
  ·rw[Χ h1,Χ h1,hd i Ω,hdg i Ω]
theorem rG(n:Nat):aQ (fun i=>(rD n i:Int)) 17=(f5 n:Int):=by
 have h0:aQ (fun i=>(rD n i:Int)) 16=aQ (fun i=>(dgB n i:Int)) 16+((5*(n/2^130):Nat):Int):=by
  have κ:∀k,k<16→aQ (fun i=>(rD n i:Int)) (k+1)=aQ (fun i=>(dgB n i:Int)) (k+1)+((5*(n/2^130):Nat):Int):=fun k=>by
   induction k with
   | zero =>
    intro _;show 0+(rD n 0:Int)*2^(8*0)=0+(dgB n 0:Int)*2^(8*0)+_;unfold rD dgB;rw[Ρ rfl,XO,Yh,Yj];generalize n/2^130=q;omega
   | succ k ih =>
    intro hk;have:=ih Ω;show aQ (fun i=>(rD n i:Int)) (k+1)+(rD n (k+1):Int)*2^(8*(k+1))=aQ (fun i=>(dgB n i:Int)) (k+1)+(dgB n (k+1):Int)*2^(8*(k+1))+_;rw[this,show rD n (k+1)=dgB n (k+1)from by unfold rD;rw[Χ Ω,Χ Ω]];omega
  exact κ 15 Ω
 show aQ (fun i=>(rD n i:Int)) 16+(rD n 16:Int)*2^(8*16)=_;rw[h0,ve,show 8*16=128 from rfl,show rD n 16=n/2^128%4 from by unfold rD;rw[Χ Ω,Ρ rfl]];unfold f5;have hm:n%2^130=n%2^128+2^128*(n/2^128%4):=by
  rw[show 2^130=2^128*4 from rfl,YV]
 rw[hm,show(2:Int)^128=((2^128:Nat):Int)from rfl,← Yg,← YN,← YN,XU (2^128)];congr 1;omega
theorem yc{f:Nat→Int}(h:∀i,0≤f i)(g k:Nat→Int)(hg:∀i,i<17→g i=em f i)(hg0:∀i,0≤g i)(hk:∀i,i<17→k i=em g i)(hk0:∀i,0≤k i){i:Nat}(hi:i<17) :
 em k i=(rD (f5 (f5 (aQ f 17).toNat)) i:Int):=by
 have e1:(aQ g 17).toNat=f5 (aQ f 17).toNat:=by
  rw[dj 17 fun i hi=>(hg i hi).trans (oa h hi),rG,Ys]
 have e2:(aQ k 17).toNat=f5 (f5 (aQ f 17).toNat):=by
  rw[dj 17 fun i hi=>(hk i hi).trans (oa hg0 hi),rG,Ys,e1]
 rw[oa hk0 hi,e2]
theorem rH(f:Nat→Int)(a:Nat):∀b,aQ f (a+b)=aQ f a+2^(8*a)*aQ (fun i=>f (a+i)) b
 | 0=>by show aQ f a=aQ f a+_*(0:Int);omega
 | b+1=>by
  show aQ f (a+b)+f (a+b)*2^(8*(a+b))=aQ f a+2^(8*a)*(aQ (fun i=>f (a+i)) b+f (a+b)*2^(8*b));rw[rH f a b,IK];grind
theorem ky(f g:Nat→Int)(c:Int):∀k,aQ (fun i=>f i+c*g i) k=aQ f k+c*aQ g k
 | 0=>by show(0:Int)=0+c*0;omega
 | k+1=>by
  show aQ (fun i=>f i+c*g i) k+(f k+c*g k)*2^(8*k)=aQ f k+f k*2^(8*k)+c*(aQ g k+g k*2^(8*k));rw[ky f g c k];grind
def w5(r:Nat→Int)(j i:Nat):Int:=if j≤i then r (i-j)else 320*r (i+17-j)
def cv(h r:Nat→Int)(i:Nat):Nat→Int
 | 0=>0
 | k+1=>cv h r i k+h k*w5 r k i
theorem La(r:Nat→Int)(j:Nat)(hj:j≤17):∃Tzq,aQ (w5 r j) 17=2^(8*j)*aQ r 17-(2^136-320)*Tzq:=by
 refine⟨aQ (fun i=>r (17-j+i)) j,?_⟩;have a1:=rH (w5 r j) j (17-j);have a2:=rH r (17-j) j;rw[show j+(17-j)=17 from by omega]at a1;rw[show 17-j+j=17 from by omega]at a2;have b1:aQ (fun i=>w5 r j (j+i)) (17-j)=aQ r (17-j):=dj _ fun i hi=>by
  show w5 r j (j+i)=r i;unfold w5;rw[Ρ Ω,show j+i-j=i from by omega]
 have b2:aQ (w5 r j) j=320*aQ (fun i=>r (17-j+i)) j:=by
  rw[dj (g:=fun i=>0+320*r (17-j+i)) j fun i hi=>by unfold w5;rw[Χ Ω,show i+17-j=17-j+i from by omega];omega];rw[ky (fun _=>0) (fun i=>r (17-j+i)) 320 j];have:∀k,aQ (fun _=>0) k=0:=fun k=>by
   induction k with
   | zero=>rfl
   | succ k ih=>show aQ (fun _=>0) k+0*_=0;rw[ih];omega
  rw[this];omega
 rw[a1,b1,b2,a2];have e:(2:Int)^(8*j)*2^(8*(17-j))=2^136:=by rw[← Int.pow_add];congr 1;omega
 generalize aQ (fun i=>r (17-j+i)) j=Tzq at *
 generalize aQ r (17-j)=R at *
 generalize(2:Int)^(8*j)=A at *
 generalize(2:Int)^(8*(17-j))=B at *
 rw[← e];grind
theorem Gz(h r:Nat→Int):∀k,k≤17→∃Tzq,aQ (fun i=>cv h r i k) 17=aQ h k*aQ r 17-(2^136-320)*Tzq
 | 0,_=>⟨0,by
  have:∀k,aQ (fun i=>cv h r i 0) k=0:=fun k=>by
   induction k with
   | zero=>rfl
   | succ k ih=>show aQ (fun i=>cv h r i 0) k+0*_=0;rw[ih];omega
  rw[this];show(0:Int)=0*_-_;omega⟩
 | k+1,hk=>by
  obtain⟨Tzq,hT⟩:=Gz h r k Ω;obtain⟨U,hU⟩:=La r k Ω;refine⟨Tzq+h k*U,?_⟩;show aQ (fun i=>cv h r i k+h k*w5 r k i) 17=(aQ h k+h k*2^(8*k))*aQ r 17-_;rw[ky (fun i=>cv h r i k) (w5 r k) (h k) 17,hT,show aQ (fun i=>w5 r k i) 17=_ from hU];generalize aQ r 17=R;generalize aQ h k=Hzq;generalize(2:Int)^(8*k)=A;generalize(2:Int)^136=Ezq;grind
theorem Lb{h r:Nat→Int}{Hzq R:Nat}(hH:aQ h 17=Hzq)(hR:aQ r 17=R)(h0:0≤aQ (fun i=>cv h r i 17) 17):(aQ (fun i=>cv h r i 17) 17).toNat%P5=Hzq*R%P5:=by
 obtain⟨Tzq,hT⟩:=Gz h r 17 (Xn _);rw[hH,hR]at hT;obtain⟨Vzq,hV⟩:=YG h0;rw[hV]at hT ⊢;rw[Ys];have e:(2:Int)^136-320=((64*P5:Nat):Int):=Ϛ;rw[e,← Yg]at hT;have hd:((Vzq:Int)%(P5:Nat))=((Hzq*R:Nat):Int)%(P5:Nat):=by
  rw[hT,Yg 64 P5];generalize((Hzq*R:Nat):Int)=X;rw[show(64:Nat)*(P5:Int)*Tzq=(P5:Int)*(64*Tzq)from by push_cast;grind,Int.sub_mul_emod_self_left]
 exact Int.ofNat_inj.1 (by rw[Ye,Ye];exact hd)
end R3
namespace R3
instance Ux:RowTy 302 17:=⟨⟨_,underlying302,rfl⟩,Θ⟩
instance Uy:RowZ 302 (aq 17 fun _=>0):=⟨Θ⟩
theorem Nt(n:Int):bits .and .i64 n 3=n%4:=by
 show IntKind.i64.wrap ((BitVec.ofInt 64 n&&&BitVec.ofInt 64 3).toNat:Nat)=_;have e:(BitVec.ofInt 64 n&&&BitVec.ofInt 64 3).toNat=(BitVec.ofInt 64 n).toNat%4:=by
  rw[YA];exact X5 _ 2
 rw[e,X9,W3 _ Ω];omega
def k8(f:Nat→Int):Nat→Nat→Int
 | 0=>f
 | k+1=>em (k8 f k)
theorem Dp{f:Nat→Int}{B:Int}(h:∀i,0≤f i∧f i≤B)(hB:255≤B)(i:Nat):0≤em f i∧em f i≤4*B:=by
 have h1:=kx fun i=>(h i).1;have h2:=yb h Ω;unfold em;have:=h1 16;have:=h2 16;have:=h 16;have:=fZ f 0;have:=fZ f i;split
 ·omega
 ·split <;> omega
theorem vI{f:Nat→Int}(h:∀i,0≤f i∧f i≤1099511627776):∀k,k≤3→∀i,0≤k8 f k i∧k8 f k i≤70368744177664:=by
 have κ:∀k i,0≤k8 f k i∧k8 f k i≤4^k*1099511627776:=fun k=>by
  induction k with
  | zero=>intro i;have:=h i;show 0≤f i∧f i≤4^0*_;omega
  | succ k ih =>
   intro i;have h4:(1:Int)≤4^k:=Int.pow_pos Ω;have:=Dp ih Ω i;show 0≤em (k8 f k) i∧em (k8 f k) i≤4^(k+1)*_;rw[Int.pow_succ];omega
 intro k hk i;have:=κ k i;have h4:(4:Int)^k≤64:=by
  rcases(show k=0∨k=1∨k=2∨k=3 by omega)with rfl|rfl|rfl|rfl <;> decide
 omega
def nr(f:Nat→Int)(i j:Nat):Int:=if j<i then d5 f j else f j
theorem oG(f:Nat→Int)(hf:∀i,0≤f i∧f i≤1099511627776)(w:ϑ):Rt 267 #[.agg (aq 17 f)] w (.agg (aq 17 fun i=>(rD (f5 (f5 (aQ f 17).toNat)) i:Int))):=by
 have I:=Loc.nil w;have HBD:=Hd (vI hf);have HFIN:=Hd (show aq 17 (k8 f 3)=aq 17 fun i=>(rD (f5 (f5 (aQ f 17).toNat)) i:Int)from am fun i hi=>by
  rw[show k8 f 3 i=_ from yc (fun i=>(hf i).1) (k8 f 1) (k8 f 2) (fun _ _=>rfl) (fun i=>(vI hf 1 Ω i).1) (fun _ _=>rfl) (fun i=>(vI hf 2 Ω i).1) hi])
 rw[← HFIN.out];clear HFIN hf;have HZ:=Hd (show aq 17 f=aq 17 (k8 f 0)from rfl);go_enter func267,ntmps267;go_wp2_with (first|refine gBp 1 fun b1 J I=>?_|refine gBp 2 fun b2 J I=>?_|refine aQq fun _ J I=>?_);rw[HZ.out]at I;go_loopw [3] (fun kk wr=>∃k:Nat,k≤3∧kk= .int .i64 k∧Loc w wr [(b2,aq 17 fun _=>0,302),(b1,aq 17 (k8 f k),302)]) (fun kk _=>3-(intOf kk).toNat);case atStart=>exact⟨0,Ω,rfl,I⟩
 case round =>
  clear I;obtain⟨k,hk,rfl,I⟩:=hrel;by_cases h5:k<3
  ·have k0:(k:Int)<3:=Ω
   have HNX:=Hd (show k8 f (k+1)=em (k8 f k)from rfl);have HG:=Hd (HBD.out k hk);generalize k8 f k=g at *
   have HC:=Hd (fun i=>(⟨kx (fun i=>(HG.out i).1) i,yb HG.out Ω i⟩:0≤c5 g i∧c5 g i≤70368744177664));have HM0:=Hd (show aq 17 g=aq 17 (nr g 0)from am fun i _=>by unfold nr;rw[Χ Ω]);have HC0:=Hd (show(0:Int)=c5 g 0 from rfl);go_wp2_with (refine aQq fun _ J I=>?_);rw[HM0.out]at I;go_loopw [4,5] (fun u ii wr=>∃i:Nat,i≤16∧ii= .int .i64 i∧u= .int .i64 (c5 g i)∧Loc w wr [(b2,aq 17 fun _=>0,302),(b1,aq 17 (nr g i),302)]) (fun _ ii _=>16-(intOf ii).toNat);case atStart=>exact⟨0,Ω,rfl,rfl,I⟩
   case round =>
    clear I;obtain⟨i,hi,rfl,rfl,I⟩:=hrel;by_cases hi16:i<16
    ·have i0:(0:Int)≤(i:Int):=Ω
     have i1:(i:Int)<16:=Ω;have i2:(i:Int)<17:=Ω;obtain⟨p1,p2⟩:=HC.out i;obtain⟨q1,q2⟩:=HG.out i;have HS:=Hd (show c5 g (i+1)=(c5 g i+g i)/256 from rfl);have ha:=and_255 (c5 g i+g i);haveI g1:Cell (aq 17 (nr g i)) i (.int .i64 (g i)):=by
      have:=bX (n:=17) (nr g i) (k:=i) Ω;rwa[show nr g i i=g i from by unfold nr;rw[Χ Ω]]at this
     haveI g2:Put (aq 17 (nr g i)) i (.int .i64 ((c5 g i+g i)%256)) (aq 17 (nr g (i+1))):=ec Ω fun j hj=>by
      unfold nr;by_cases c:j=i
      ·subst c;rw[Ρ rfl,Ρ Ω];rfl
      ·rw[Χ c];by_cases d:j<i
       ·rw[Ρ d,Ρ Ω]
       ·rw[Χ d,Χ Ω]
     generalize c5 g i=c at *
     generalize g i=x at *
     clear HC0 HM0 HC HG HNX HZ HBD;go_wp2_with (refine aQq fun _ J I=>?_);go_roundw;case rel=>exact⟨i+1,Ω,by go_num,by rw[HS.out],I⟩
     case measure=>exact ϝ
    ·obtain rfl:i=16:=Ω
     obtain⟨p1,p2⟩:=HC.out 16;obtain⟨q1,q2⟩:=HG.out 16;have hd:=fZ g 0;have ha:=Nt (c5 g 16+g 16);have HR:=Hd (show(fun i=>if i=0 then d5 g 0+5*((c5 g 16+g 16)/4)else if i=16 then(c5 g 16+g 16)%4 else d5 g i)=em g from rfl);haveI g1:Cell (aq 17 (nr g 16)) 16 (.int .i64 (g 16)):=bX (n:=17) (nr g 16) (k:=16) Ω;haveI g2:Put (aq 17 (nr g 16)) 16 (.int .i64 ((c5 g 16+g 16)%4)) (aq 17 fun i=>if i=16 then(c5 g 16+g 16)%4 else d5 g i):=ec Ω fun j hj=>by
      by_cases c:j=16
      ·rw[Ρ c,Ρ c]
      ·rw[Χ c,Χ c];unfold nr;rw[Ρ Ω]
     haveI g3:Cell (aq 17 fun i=>if i=16 then(c5 g 16+g 16)%4 else d5 g i) 0 (.int .i64 (d5 g 0)):=bX (n:=17) (fun i=>if i=16 then(c5 g 16+g 16)%4 else d5 g i) (k:=0) Ω;haveI g4:Put (aq 17 fun i=>if i=16 then(c5 g 16+g 16)%4 else d5 g i) 0 (.int .i64 (d5 g 0+5*((c5 g 16+g 16)/4))) (aq 17 (em g)):=ec Ω fun j hj=>by
      unfold em;by_cases c:j=0
      ·rw[Ρ c]
      ·rw[Χ c]
     generalize c5 g 16=c at *
     generalize g 16=x,d5 g 0=d at *
     generalize(fun i=>if i=16 then(c+x)%4 else d5 g i)=m at *
     clear HC0 HM0 HC HG HZ HBD HR;go_wp2_with (refine aQq fun _ J I=>?_);go_roundw;case rel=>exact⟨k+1,Ω,by go_num,by rw[HNX.out];exact I⟩
     case measure=>exact ϝ
  ·obtain rfl:k=3:=Ω
   go_wp2_with (refine aQq fun _ J I=>?_);exact Λ
instance Uz:Ent 267:=eo func267
theorem BZ{h r:Nat→Int}(hh:∀i,0≤h i∧h i≤2000)(hr:∀i,0≤r i∧r i≤255)(i:Nat):∀k:Nat,0≤cv h r i k∧cv h r i k≤163200000*k
 | 0=>by show(0:Int)≤0∧(0:Int)≤_;omega
 | k+1=>by
  have ih:=BZ hh hr i k;have hw:0≤w5 r k i∧w5 r k i≤81600:=by
   unfold w5;split
   ·have:=hr (i-k);omega
   ·have:=hr (i+17-k);omega
  have h1:=hh k;have m0:=YR h1.1 hw.1;have m1:h k*w5 r k i≤2000*81600:=Int.mul_le_mul h1.2 hw.2 hw.1 Ω;show 0≤cv h r i k+h k*w5 r k i∧cv h r i k+h k*w5 r k i≤_;omega
def xK(h r:Nat→Int)(i j:Nat):Int:=if j<i then cv h r j 17 else 0
theorem Ar(h r:Nat→Int)(hh:∀i,0≤h i∧h i≤2000)(hr:∀i,0≤r i∧r i≤255)(w:ϑ):Rt 236 #[.agg (aq 17 h),.agg (aq 17 r)] w (.agg (aq 17 fun i=>(rD (f5 (f5 (aQ (fun i=>cv h r i 17) 17).toNat)) i:Int))):=by
 have I:=Loc.nil w;have HCV:=Hd (BZ hh hr);have HH:=Hd hh;have HR:=Hd hr;haveI fc:FnC 267 #[.agg (aq 17 fun i=>cv h r i 17)] (.agg (aq 17 fun i=>(rD (f5 (f5 (aQ (fun i=>cv h r i 17) 17).toNat)) i:Int))):=⟨oG _ fun i=>by have:=BZ hh hr i 17;omega⟩;generalize(fun i=>(rD (f5 (f5 (aQ (fun i=>cv h r i 17) 17).toNat)) i:Int))=out at *
 have HX0:=Hd (show(aq 17 fun _=>0)=aq 17 (xK h r 0)from am fun i _=>by unfold xK;rw[Χ Ω]);have HX:=Hd (show aq 17 (xK h r 17)=aq 17 fun i=>cv h r i 17 from am fun i hi=>by unfold xK;rw[Ρ hi]);clear hh hr;go_enter func236,ntmps236;go_wp2_with (first|refine gBp 2 fun b2 J I=>?_|refine gBp 3 fun b3 J I=>?_|refine gBp 4 fun b4 J I=>?_|refine gBp 5 fun b5 J I=>?_|refine aQq fun _ J I=>?_);have hL0:=I;clear I;have I:Loc w J [(b5,aq 17 (xK h r 0),302),(b4,aq 17 fun _=>0,302),(b3,aq 17 r,302),(b2,aq 17 h,302)]:=by rw[← HX0.out];exact hL0
 clear hL0;go_loopw [6] (fun ii wr=>∃i:Nat,i≤17∧ii= .int .i64 i∧Loc w wr [(b5,aq 17 (xK h r i),302),(b4,aq 17 fun _=>0,302),(b3,aq 17 r,302),(b2,aq 17 h,302)]) (fun ii _=>17-(intOf ii).toNat);case atStart=>exact⟨0,Ω,rfl,I⟩
 case round =>
  clear I;obtain⟨i,hi,rfl,I⟩:=hrel;by_cases h5:i<17
  ·have i0:(0:Int)≤(i:Int):=Ω
   have i1:(i:Int)<17:=Ω;have HC0:=Hd (show(0:Int)=cv h r i 0 from rfl);go_wp2_with (refine aQq fun _ J I=>?_);go_loopw [7,8] (fun u jj wr=>∃j:Nat,j≤i+1∧jj= .int .i64 j∧u= .int .i64 (cv h r i j)∧Loc w wr [(b5,aq 17 (xK h r i),302),(b4,aq 17 fun _=>0,302),(b3,aq 17 r,302),(b2,aq 17 h,302)]) (fun _ jj _=>i+1-(intOf jj).toNat);case atStart=>exact⟨0,Ω,rfl,rfl,I⟩
   case round =>
    clear I;obtain⟨j,hj,rfl,rfl,I⟩:=hrel;by_cases hji:j≤i
    ·have j0:(0:Int)≤(j:Int):=Ω
     have j1:(j:Int)<17:=Ω;have j2:(j:Int)≤(i:Int):=Ω;have x1:(i:Int)-(j:Int)=((i-j:Nat):Int):=Ω;have z1:IntKind.i64.wrap ((i-j:Nat):Int)=((i-j:Nat):Int):=W3 _ Ω;have y0:(0:Int)≤((i-j:Nat):Int):=Ω;have y1:((i-j:Nat):Int)<17:=Ω;have HS:=Hd (show cv h r i (j+1)=cv h r i j+h j*r (i-j)from by show cv h r i j+h j*w5 r j i=_;unfold w5;rw[Ρ hji]);obtain⟨c0,c1⟩:=HCV.out i j;obtain⟨h0,h1⟩:=HH.out j;obtain⟨r0,r1⟩:=HR.out (i-j);haveI g1:Cell (aq 17 h) j (.int .i64 (h j)):=bX _ Ω;haveI g2:Cell (aq 17 r) (i-j) (.int .i64 (r (i-j))):=bX _ Ω;have m0:=YR h0 r0;have m1:h j*r (i-j)≤2000*255:=Int.mul_le_mul h1 r1 r0 Ω;have z2:IntKind.i64.wrap (h j*r (i-j))=h j*r (i-j):=W3 _ Ω;have z3:IntKind.i64.wrap (cv h r i j+h j*r (i-j))=cv h r i j+h j*r (i-j):=W3 _ Ω;generalize cv h r i j=c,i-j=d,h j=hv at *
     generalize r d=rv at *
     clear HCV HH HR HX0 HX HC0 c0 c1 h0 h1 r0 r1 m0 m1;go_wp2_with (refine aQq fun _ J I=>?_);refine wf [(0,true),(1,true),(2,true),(3,false),(4,true),(5,true),(6,true),(7,true),(8,false),(9,true),(10,true),(11,true)] [] [] I ?_;refine fA ?_;refine fC fun J I=>?_;go_wp2_with (refine aQq fun _ J I=>?_);go_roundw;case rel=>exact⟨j+1,Ω,by go_num,by rw[HS.out],I⟩
     case measure=>exact ϝ
    ·obtain rfl:j=i+1:=Ω
     have q1:¬((i+1:Nat):Int)≤(i:Int):=Ω;have HI:=Hd (show((i+1:Nat):Int)=(i:Int)+1 from Ω);go_wp2_with (refine aQq fun _ J I=>?_);go_loopw [7,9] (fun u jj wr=>∃j:Nat,i+1≤j∧j≤17∧jj= .int .i64 j∧u= .int .i64 (cv h r i j)∧Loc w wr [(b5,aq 17 (xK h r i),302),(b4,aq 17 fun _=>0,302),(b3,aq 17 r,302),(b2,aq 17 h,302)]) (fun _ jj _=>17-(intOf jj).toNat);case atStart=>exact⟨i+1,Ω,Ω,by rw[HI.out],rfl,I⟩
     case round =>
      clear I;obtain⟨j,hj0,hj,rfl,rfl,I⟩:=hrel;by_cases hj17:j<17
      ·have j0:(0:Int)≤(j:Int):=Ω
       have j1:(j:Int)<17:=Ω;have x1:(i:Int)+17-(j:Int)=((i+17-j:Nat):Int):=Ω;have z0:IntKind.i64.wrap ((i:Int)+17)=(i:Int)+17:=W3 _ Ω;have z1:IntKind.i64.wrap ((i+17-j:Nat):Int)=((i+17-j:Nat):Int):=W3 _ Ω;have y0:(0:Int)≤((i+17-j:Nat):Int):=Ω;have y1:((i+17-j:Nat):Int)<17:=Ω;have HS:=Hd (show cv h r i (j+1)=cv h r i j+320*h j*r (i+17-j)from by show cv h r i j+h j*w5 r j i=_;unfold w5;rw[Χ Ω];grind);obtain⟨c0,c1⟩:=HCV.out i j;obtain⟨h0,h1⟩:=HH.out j;obtain⟨r0,r1⟩:=HR.out (i+17-j);haveI g1:Cell (aq 17 h) j (.int .i64 (h j)):=bX _ Ω;haveI g2:Cell (aq 17 r) (i+17-j) (.int .i64 (r (i+17-j))):=bX _ Ω;have m0:=YR (show 0≤320*h j by omega) r0;have m1:320*h j*r (i+17-j)≤640000*255:=Int.mul_le_mul Ω r1 r0 Ω;have z2:IntKind.i64.wrap (320*h j)=320*h j:=W3 _ Ω;have z4:IntKind.i64.wrap (320*h j*r (i+17-j))=320*h j*r (i+17-j):=W3 _ Ω;have z3:IntKind.i64.wrap (cv h r i j+320*h j*r (i+17-j))=cv h r i j+320*h j*r (i+17-j):=W3 _ Ω;generalize cv h r i j=c,i+17-j=d,h j=hv at *
       generalize r d=rv at *
       clear HCV HH HR HX0 HX HC0 c0 c1 h0 h1 r0 r1 m0 m1;go_wp2_with (refine aQq fun _ J I=>?_);refine wf [(0,true),(1,true),(2,true),(3,false),(4,true),(5,true),(6,true),(7,true),(8,true),(9,true),(10,false),(11,true),(12,true),(13,true)] [] [] I ?_;refine fA ?_;refine fC fun J I=>?_;go_wp2_with (refine aQq fun _ J I=>?_);go_roundw;case rel=>exact⟨j+1,Ω,Ω,by go_num,by rw[HS.out],I⟩
       case measure=>exact ϝ
      ·obtain rfl:j=17:=Ω
       haveI g3:Put (aq 17 (xK h r i)) i (.int .i64 (cv h r i 17)) (aq 17 (xK h r (i+1))):=ec h5 fun j hj=>by
        unfold xK;by_cases c:j=i
        ·subst c;rw[Ρ rfl,Ρ Ω]
        ·rw[Χ c];by_cases d:j<i
         ·rw[Ρ d,Ρ Ω]
         ·rw[Χ d,Χ Ω]
       clear HCV HH HR HX0 HX HC0 HI;go_wp2_with (refine aQq fun _ J I=>?_);go_roundw;case rel=>exact⟨i+1,Ω,by go_num,I⟩
       case measure=>exact ϝ
  ·obtain rfl:i=17:=Ω
   rw[HX.out]at I;go_wp2_with (refine aQq fun _ J I=>?_);exact Λ
instance UA:Ent 236:=eo func236
theorem B0{f:Nat→Int}{B:Int}(h:∀i,0≤f i∧f i≤B)(hB:0≤B):∀k:Nat,0≤aQ f k∧aQ f k≤B*2^(8*k)
 | 0=>by show(0:Int)≤0∧(0:Int)≤B*1;omega
 | k+1=>by
  have ih:=B0 h hB k;show 0≤aQ f k+f k*2^(8*k)∧aQ f k+f k*2^(8*k)≤B*2^(8*(k+1));rw[IK,show(2:Int)^(8*1)=256 from rfl];have hE:(0:Int)<2^(8*k):=Int.pow_pos Ω;generalize(2:Int)^(8*k)=Ezq at *
  have hk:=h k;have m0:=YR hk.1 (Int.le_of_lt hE);have m1:f k*Ezq≤B*Ezq:=Yr hk.2 (Int.le_of_lt hE);have m2:=YR hB (Int.le_of_lt hE);have e:B*(Ezq*256)=256*(B*Ezq):=by grind
  omega
theorem yd{n:Nat}(h:n<2^180):f5 n<2^131:=by
 unfold f5;have h1:n%2^130<2^130:=XJ _ (Xg _);have h2:n/2^130<2^50:=by
  rw[Yn (Xg _),← Xk];exact h
 have e:(2:Nat)^131=2^130+2^130:=Ϛ;have e2:5*(2:Nat)^50<2^130:=Ϛ;generalize(2:Nat)^130=Ezq at *
 omega
theorem I3{n:Nat}(h:n<2^131):f5 n<2*P5∧f5 n+5<2^130+16:=by
 unfold f5;have h1:n%2^130<2^130:=XJ _ (Xg _);have h2:n/2^130<2:=by
  rw[Yn (Xg _),← Nat.pow_succ'];exact h
 rw[BY]at *
 have:16<P5:=Ϛ;generalize n/(P5+5)=q,n%(P5+5)=r at *
 omega
theorem B4{n:Nat}(h:n<2^131)(i:Nat):rD n i≤260:=by
 unfold rD;have h2:n/2^130<2:=by
  rw[Yn (Xg _),← Nat.pow_succ'];exact h
 have:=dH n i;split
 ·omega
 ·split <;> omega
def br(h:Nat→Int)(i:Nat):Int:=if i=0 then h 0+5 else h i
theorem tR(h:Nat→Int):∀k,aQ (br h) (k+1)=aQ h (k+1)+5
 | 0=>by
  show 0+br h 0*2^(8*0)=0+h 0*2^(8*0)+5;unfold br;rw[Ρ rfl,XO,Int.pow_zero];omega
 | k+1=>by
  show aQ (br h) (k+1)+br h (k+1)*_=aQ h (k+1)+h (k+1)*_+5;rw[tR h k,show br h (k+1)=h (k+1)from Χ Ω];omega
theorem Dq{Wzq:Nat}{h:Nat→Int}(h0:∀i,0≤h i)(hv:aQ h 17=Wzq)(hW:Wzq<2*P5∧Wzq+5<2^130+16) :
 (d5 (br h) 16<4→Wzq%P5=Wzq)∧(¬d5 (br h) 16<4→aQ (fun i=>if i=16 then d5 (br h) 16-4 else d5 (br h) i) 17=(Wzq%P5:Nat)):=by
 have hp:∀i,0≤br h i:=fun i=>by unfold br;have:=h0 0;have:=h0 i;split <;> omega
 have v1:=vH (br h) 17;rw[tR h 16,hv]at v1;have n16:=iU (fZ (br h)) 16;have hc:=kx hp 17;have e17:aQ (d5 (br h)) 17=aQ (d5 (br h)) 16+d5 (br h) 16*2^(8*16):=rfl;have hd:=fZ (br h) 16;have eP:(2:Int)^(8*16)*4=(P5:Int)+5:=Ϛ;have e136:(2:Int)^(8*17)=2^(8*16)*256:=Ϛ;have e130:(2:Nat)^130=P5+5:=BY;have hq:16<P5:=Ϛ;have hvl:aQ (fun i=>if i=16 then d5 (br h) 16-4 else d5 (br h) i) 17=aQ (d5 (br h)) 16+(d5 (br h) 16-4)*2^(8*16):=by
  show aQ (fun i=>if i=16 then d5 (br h) 16-4 else d5 (br h) i) 16+_=_;rw[dj (g:=d5 (br h)) 16 fun i hi=>by rw[Χ Ω]];rfl
 rw[hvl];rw[e17,e136]at v1;rw[e130]at hW;generalize c5 (br h) 17=c,aQ (d5 (br h)) 16=S,d5 (br h) 16=x,(2:Int)^(8*16)=Ezq at *
 have hc0:c=0:=by
  by_cases hc1:0<c
  ·have m1:1*(Ezq*256)≤c*(Ezq*256):=Yr hc1 Ω
   have m2:0≤x*Ezq:=YR hd.1 Ω;omega
  ·omega
 subst hc0;rw[Int.zero_mul]at v1;constructor
 ·intro hx
  have m:x*Ezq≤3*Ezq:=Yr Ω Ω;exact Xd Ω
 ·intro hx
  have m:4*Ezq≤x*Ezq:=Yr Ω Ω;have:Wzq%P5=Wzq-P5:=by rw[Yv Ω,Xd Ω]
  rw[this,Int.sub_mul];omega
def oc(h:Nat→Int)(i j:Nat):Int:=if j<i then d5 (br h) j else h j
def uW(h:Nat→Int)(i:Nat):Int:=if i=0 then 5 else c5 (br h) i
theorem Dr(Vzq:Nat)(hV:Vzq<2^131):∃x:Nat→Int,(∀i,0≤x i∧x i≤260)∧aQ x 17=(f5 Vzq%P5:Nat)∧∀w,Rt 237 #[.agg (aq 17 fun i=>(rD Vzq i:Int))] w (.agg (aq 17 x)):=by
 have hV1:f5 Vzq<2^131:=yd (Xl hV (Xx Ω Ω));have hV2:f5 (f5 Vzq)<2^131:=yd (Xl hV1 (Xx Ω Ω));have hV3:f5 (f5 (f5 Vzq))<2^131:=yd (Xl hV2 (Xx Ω Ω));have hcar:=oG (fun i=>(rD Vzq i:Int)) fun i=>by have:=B4 hV i;omega
 rw[rG,Ys]at hcar;have hn:=I3 hV3;have hmod:f5 (f5 (f5 (f5 Vzq)))%P5=f5 Vzq%P5:=by rw[jy,jy,jy]
 have hbd:=B4 hV3;obtain⟨h,hh⟩:∃h:Nat→Int,h=fun i=>(rD (f5 (f5 (f5 Vzq))) i:Int):=⟨_,rfl⟩;have hval:aQ h 17=(f5 (f5 (f5 (f5 Vzq))):Nat):=by rw[hh,rG]
 have hb:∀i,0≤h i∧h i≤260:=fun i=>by rw[hh];have:=hbd i;dsimp only;omega
 rw[← hh]at hcar;obtain⟨k1,k2⟩:=Dq (fun i=>(hb i).1) hval hn;rw[hmod]at k1 k2;haveI fc:FnC 267 #[.agg (aq 17 fun i=>(rD Vzq i:Int))] (.agg (aq 17 h)):=⟨hcar⟩;clear hcar hV hV1 hV2 hV3 hn hbd hh;generalize(fun i=>(rD Vzq i:Int))=inp at *
 have hpb:∀i,0≤br h i∧br h i≤265:=fun i=>by unfold br;have:=hb 0;have:=hb i;split <;> omega
 refine⟨if d5 (br h) 16<4 then h else fun i=>if i=16 then d5 (br h) 16-4 else d5 (br h) i,fun i=>?_,?_,fun w=>?_⟩
 ·by_cases hx:d5 (br h) 16<4
  ·rw[Ρ hx];exact hb i
  ·rw[Χ hx]
   have:=fZ (br h) 16;have:=fZ (br h) i;show 0≤(if i=16 then _ else _)∧(if i=16 then _ else _)≤(260:Int);split <;> omega
 ·by_cases hx:d5 (br h) 16<4
  ·rw[Ρ hx,hval,← k1 hx]
  ·rw[Χ hx,k2 hx]
 have I:=Loc.nil w;generalize hres:(if d5 (br h) 16<4 then h else fun i=>if i=16 then d5 (br h) 16-4 else d5 (br h) i)=res;have HRES:=Hd hres;clear hres;have HB:=Hd hb;have HC:=Hd (fun i=>(⟨kx (fun i=>(hpb i).1) i,yb hpb Ω i⟩:0≤c5 (br h) i∧c5 (br h) i≤265));have HM0:=Hd (show aq 17 h=aq 17 (oc h 0)from am fun i _=>by unfold oc;rw[Χ Ω]);have HM:=Hd (show aq 17 (oc h 17)=aq 17 (d5 (br h))from am fun i hi=>by unfold oc;rw[Ρ hi]);have HD:=Hd (fZ (br h));clear hb hpb k1 k2 hval hmod;go_enter func237,ntmps237;go_wp2_with (first|refine gBp 1 fun b1 J I=>?_|refine gBp 2 fun b2 J I=>?_|refine gBp 3 fun b3 J I=>?_|refine aQq fun _ J I=>?_);have hL0:=I;clear I;have I:Loc w J [(b3,aq 17 (oc h 0),302),(b2,aq 17 fun _=>0,302),(b1,aq 17 h,302)]:=by rw[← HM0.out];exact hL0
 clear hL0;go_loopw [4,5] (fun u ii wr=>∃i:Nat,i≤17∧ii= .int .i64 i∧u= .int .i64 (uW h i)∧Loc w wr [(b3,aq 17 (oc h i),302),(b2,aq 17 fun _=>0,302),(b1,aq 17 h,302)]) (fun _ ii _=>17-(intOf ii).toNat);case atStart=>exact⟨0,Ω,rfl,rfl,I⟩
 case round =>
  clear I;obtain⟨i,hi,rfl,rfl,I⟩:=hrel;by_cases h5:i<17
  ·have i0:(0:Int)≤(i:Int):=Ω
   have i1:(i:Int)<17:=Ω;have hs:uW h i+h i=c5 (br h) i+br h i:=by
    unfold uW br;by_cases c:i=0
    ·subst c;rw[Ρ rfl,Ρ rfl];show 5+h 0=0+(h 0+5);omega
    ·rw[Χ c,Χ c]
   have HS:=Hd (show uW h (i+1)=(uW h i+h i)/256 from by rw[hs];unfold uW;rw[Χ Ω];rfl);have hu:0≤uW h i∧uW h i≤265:=by unfold uW;have:=HC.out i;split <;> omega
   obtain⟨h0,h1⟩:=HB.out i;have ha:=and_255 (uW h i+h i);haveI g1:Cell (aq 17 (oc h i)) i (.int .i64 (h i)):=by
    have:=bX (n:=17) (oc h i) (k:=i) Ω;rwa[show oc h i i=h i from by unfold oc;rw[Χ Ω]]at this
   haveI g2:Put (aq 17 (oc h i)) i (.int .i64 ((uW h i+h i)%256)) (aq 17 (oc h (i+1))):=ec h5 fun j hj=>by
    unfold oc;by_cases c:j=i
    ·subst c;rw[Ρ rfl,Ρ Ω,hs];rfl
    ·rw[Χ c];by_cases d:j<i
     ·rw[Ρ d,Ρ Ω]
     ·rw[Χ d,Χ Ω]
   clear hs HC HM0 HM HD HB;generalize uW h i=u at *
   generalize h i=x at *
   go_wp2_with (refine aQq fun _ J I=>?_);go_roundw;case rel=>exact⟨i+1,Ω,by go_num,by rw[HS.out],I⟩
   case measure=>exact ϝ
  ·obtain rfl:i=17:=Ω
   rw[HM.out]at I;have hd:=HD.out 16;haveI g1:Cell (aq 17 (d5 (br h))) 16 (.int .i64 (d5 (br h) 16)):=bX _ Ω;haveI g2:Put (aq 17 (d5 (br h))) 16 (.int .i64 (d5 (br h) 16-4)) (aq 17 fun i=>if i=16 then d5 (br h) 16-4 else d5 (br h) i):=ec Ω fun j hj=>rfl;clear HC HM0 HM HD HB;have he:=HRES.out;clear HRES;generalize(fun i=>if i=16 then d5 (br h) 16-4 else d5 (br h) i)=o at *
   by_cases hx:d5 (br h) 16<4
   ·rw[Ρ hx]at he
    have HE:=Hd he;clear he;generalize d5 (br h) 16=x at *
    have hx2:¬4≤x:=Ω;go_wp2_with (refine aQq fun _ J I=>?_);rw[HE.out]at I;exact Λ
   ·rw[Χ hx]at he
    have HE:=Hd he;clear he;generalize d5 (br h) 16=x at *
    have hx2:4≤x:=Ω;go_wp2_with (refine aQq fun _ J I=>?_);rw[HE.out]at I;exact Λ
instance UB:Ent 237:=eo func237
end R3
end Go.Proofs.YtoifhhljfaoejaaGreatDoor
