/- Lemmas of the law; no condition beyond those written. -/
import Derived.Test.YtoifhhljfaoejaaGreatDoorPkAJ
set_option maxRecDepth 100000
set_option maxHeartbeats 8000000
set_option linter.unusedVariables false
set_option linter.unusedSimpArgs false
set_option linter.unusedSectionVars false
namespace Go.Proofs.YtoifhhljfaoejaaGreatDoor
open Go.Proofs.Tryz Go Go.RowKit Go.Shelf
theorem fq{r pre mid post:Ψ}{j k:Nat}{v:ό}(h:r=pre++mid++post)(hk:k=pre.size+j)(hc:Cell mid j v):Cell r k v:=⟨by
 subst h hk;have hj:j<mid.size:=(Array.getElem?_eq_some_iff.1 hc.cell).1;rw[Xb,Array.getElem?_append_right Ω,YP,Array.getElem?_append_left hj];exact hc.cell⟩
def hrR(ν ζ:Int)(ρ:Φ)(p:ϊ)(n c:Nat)(id:Int)(κ cs sg K:Φ)(b:Bool):Ψ:= #[.int .i64 0]++mfR ν ζ ρ p n c id κ cs sg++aa 32 K ++ #[.bool b]
abbrev hrZ:Ψ:=hrR 0 0 (fun _=>0) none 0 0 0 (fun _=>0) (fun _=>0) (fun _=>0) (fun _=>0) false
section
variable (ν ζ:Int) (ρ:Φ) (p:ϊ) (n c:Nat) (id:Int) (κ cs sg K:Φ) (b:Bool)
instance VZ:Row1 (hrR ν ζ ρ p n c id κ cs sg K b) 230:=⟨by simp[hrR,fW,ai],by
 have h1:=(Ϙ:Row1 (mfR ν ζ ρ p n c id κ cs sg) 196).one;unfold hrR;generalize mfR ν ζ ρ p n c id κ cs sg=m at *
 rw[Zt,Zt,Zt,bS,h1];simp[Value.oneCell']⟩
instance Qw:Cell (hrR ν ζ ρ p n c id κ cs sg K b) 0 (.int .i64 0):=⟨by
 unfold hrR;rw[Xb,Xb,Array.getElem?_append_left Ϡ];rfl⟩
instance V0:Cell (hrR ν ζ ρ p n c id κ cs sg K b) 1 (.int .i64 ν):=fq (pre:= #[.int .i64 0]) (mid:=mfR ν ζ ρ p n c id κ cs sg) (post:=aa 32 K ++ #[.bool b]) (j:=0) (by simp only[hrR,Xb]) rfl (by unfold mfR;exact⟨by rw[Xb,Xb,Xb,Xb,Array.getElem?_append_left Ϡ];rfl⟩)
instance V1:Cell (hrR ν ζ ρ p n c id κ cs sg K b) 2 (.int .i64 ζ):=fq (pre:= #[.int .i64 0]) (mid:=mfR ν ζ ρ p n c id κ cs sg) (post:=aa 32 K ++ #[.bool b]) (j:=1) (by simp only[hrR,Xb]) rfl (by unfold mfR;exact⟨by rw[Xb,Xb,Xb,Xb,Array.getElem?_append_left Ϡ];rfl⟩)
instance Qx:Cell (hrR ν ζ ρ p n c id κ cs sg K b) 229 (.bool b):=fq (pre:= #[.int .i64 0]++mfR ν ζ ρ p n c id κ cs sg++aa 32 K) (mid:= #[.bool b]) (post:= #[]) (j:=0) (by simp only[hrR,Xb,Array.append_empty]) (by simp[fW,ai]) ⟨rfl⟩
instance V2:Part (hrR ν ζ ρ p n c id κ cs sg K b) 241 197 24 (aa 32 K):=bQ (pre:= #[.int .i64 0]++mfR ν ζ ρ p n c id κ cs sg) (post:= #[.bool b]) (by simp only[hrR,Xb]) (by simp[fW])
end
instance V3:RowTy 241 230:=⟨⟨_,underlying241,rfl⟩,Θ⟩
instance V4:RowZ 241 hrZ:=⟨Θ⟩
theorem He(ν ζ:Int)(ρ:Φ)(p:ϊ)(n c:Nat)(id:Int)(κ cs sg K:Φ)(b:Bool)(w:ϑ):(Instr.build 241 #[(0,.int .i64 0),(1,.agg (mfR ν ζ ρ p n c id κ cs sg)),(2,.agg (aa 32 K)),(3,.bool b)]).run prog w= .ok (.agg (hrR ν ζ ρ p n c id κ cs sg K b)) w:=Θ
theorem DX(w:ϑ):(Instr.build 241 #[]).run prog w= .ok (.agg hrZ) w:=Θ
structure Fed(s:Sta)(fs:Φ):Prop where
 l:s.m0.length=300
 b:gU s.m0=true
 u:unB fs (av s.m0).wr=true
theorem mz{l:Δ}(hl:l.length=300)(hb:gU l=true):(av l).Ok:=by
 obtain⟨v0,v1,b0,b1,i0,i1⟩:=XC ((Xs _ _).mp hb).2;exact⟨v0,v1,b0,b1,by show((l.drop 52).take 80).length=80;rw[Xr,Xz];omega,i0,i1⟩
section
variable {D w:ϑ} {F:ύ} {bf bb bo bk kp a0 a1 cc:Nat} {fr fs:Φ}
theorem DY(hF:CoM F bf bb bo bk kp a0 a1 cc)(d:Dv)(hS:∀x y z u c,SeeS D (F x y z u c) d.s d.q)(hm:d.s.m0=[])(I:Loc D w (d.at F bf bb bo kp fr fs)) :
 ϓ 177 #[aT cc,.int .i64 0] w fun e Z=>e= .returned (.tuple #[.agg hrZ,.bool false])∧Loc D Z (d.at F bf bb bo kp fr fs):=by
 have hG:=hF.g;have hp:=(hS #[] #[] #[] #[] #[]).za hm;have hc:=n6 ((hS _ _ _ _ _).read I).a hp;clear hS;obtain⟨er,pr,y,f,n,m,p,kn,kc,φ,s,q,bt,rg⟩:=d;obtain⟨fl,rv,m0,d0,t0,m1,d1,t1,ac⟩:=s;obtain⟨pr',cr',p0,c0,p1,c1⟩:=q;dsimp only[Dv.at]at *
 subst hm;subst hp;subst hc;go_enter func177,ntmps177;go_wp2_with (first|refine aU ?_|refine gBp 4 fun b4 J I=>?_|refine gBp 6 fun b6 J I=>?_|(refine gN 18 ?_;refine lV (mr _) I fun J I=>?_)|(refine gN 23 ?_;refine ϙ DX fun J I=>?_)|refine ab fun J I=>?_);exact Ϣ (ao rfl I rfl rfl) rfl ⟨rfl,Loc.rem b4 (Loc.rem b6 I)⟩
theorem Hf(hF:CoM F bf bb bo bk kp a0 a1 cc)(d:Dv)(hS:∀x y z u c,SeeS D (F x y z u c) d.s d.q)(hf:Fed d.s fs)(I:Loc D w (d.at F bf bb bo kp fr fs)) :
 ϓ 177 #[aT cc,.int .i64 0] w fun e Z=>∃g W E,e= .returned (.tuple #[.agg (hrR (av d.s.m0).ν (av d.s.m0).ζ (av d.s.m0).ρ (ϐ g) 80 W (av d.s.m0).id (av d.s.m0).κ (av d.s.m0).cs (av d.s.m0).sg (unK fs (av d.s.m0).wr) true),.bool true])∧Loc D Z ((g,E,5)::d.at F bf bb bo kp fr fs):=by
 have hG:=hF.g;have hok:=mz hf.l hf.b;have HRD:=Hd (fun J (h:Loc D J (d.at F bf bb bo kp fr fs))=>(mt d.s.m0 hf.l (.slice d.q.p0 d.s.m0.length d.q.c0) J ((hS _ _ _ _ _).read h).a).mono fun e Z h=>by rw[hf.b]at h;exact h);have HUW:=Hd (fun J pa ca hc (hv:BRow J (.slice pa 80 ca) (av d.s.m0).wr)=>oU (yF hok.w hf.u) pa ca hc J hv);have hrow:∀p n c,(av d.s.m0).row p n c=mfR (av d.s.m0).ν (av d.s.m0).ζ (av d.s.m0).ρ p n c (av d.s.m0).id (av d.s.m0).κ (av d.s.m0).cs (av d.s.m0).sg:=fun _ _ _=>rfl;simp only[hrow]at HRD;clear hrow hf hok hS;generalize unK fs (av d.s.m0).wr=K at *
 generalize av d.s.m0=mm at *
 obtain⟨ν,ζ,ρ,wr,id,κ,cs,sg⟩:=mm;dsimp only at *
 obtain⟨er,pr,y,f,n,m,p,kn,kc,φ,s,q,bt,rg⟩:=d;dsimp only[Dv.at]at *
 go_enter func177,ntmps177;go_wp2_with (first|refine aU ?_|refine gBp 4 fun b4 J I=>?_|refine gBp 6 fun b6 J I=>?_|(refine gN 18 ?_;refine lKk (HRD.out _ I.pop) ?_;rintro e J⟨g18,Y18,Z18,rfl,W18,hN⟩;refine Ϩ (I.join hN) fun I=>?_)|refine ab fun J I=>?_);refine eQ (R:=?R) (fun hR=>?h1) ?h2;case h1 =>
  refine mX (S:=(fun Z=>Loc D Z ((b6,mfR ν ζ ρ (ϐ g18) 80 Y18 id κ cs sg,79)::(g18,Z18,5)::(b4,hrZ,241)::F (flR bb er pr) y (otR bf fr fs n m) (bkR bf bo p kn kc φ) (coR kp fr fs s q bt rg)))) 13 ϒ ?_;intro H;replace I:=I.drew;refine uG 0 ?_;refine uG 4 ?_;refine uG 1 ?_;refine uZ 5 ?_;refine uG 2 ?_;refine uZ 3 ?_;refine rd2 6 10 ?_ ?_
  ·intro K T
   refine eVv (HUW.out _ _ _ W18.le (See.bytes I)) I ?_;clear I;intro J I;refine kO T ϒ ?_;clear T K H;intro H;refine uG 7 ?_;refine uG 8 ?_;refine uG 9 ?_;refine rd1 10 fun K T=>?_;refine eA I rfl ?_;clear I;intro b8 J I;refine kO T ϒ ?_;clear T K H;intro H;refine rd1 11 fun K T=>?_;refine cY ?_;clear I;intro J I;refine kO T ϒ ?_;clear T K H;intro H;refine uG 12 ?_;refine wD ?_;clear H;have hLp:=I;clear I;revert hLp;revert J;revert b8;exact pm hR
  ·intro K T
   refine eA I rfl ?_;clear I;intro b8 J I;refine kO T ϒ ?_;clear T K H;intro H;refine rd1 6 fun K T=>?_;refine eVv (HUW.out _ _ _ W18.le (See.bytes I)) I ?_;clear I;intro J I;refine kO T ϒ ?_;clear T K H;intro H;refine uG 7 ?_;refine uG 8 ?_;refine uG 9 ?_;refine rd1 11 fun K T=>?_;refine cY ?_;clear I;intro J I;refine kO T ϒ ?_;clear T K H;intro H;refine uG 12 ?_;refine wD ?_;clear H;have hLp:=I;clear I;revert hLp;revert J;revert b8;exact pm hR
 intro b8 J Y;clear I;have I:=Y;clear Y;go_wp2_with (first|refine aU ?_|refine gBp 8 fun b8 J I=>?_|(refine gN 39 ?_;refine ϙ (He _ _ _ _ _ _ _ _ _ _ _ _) fun J I=>?_)|refine ab fun J I=>?_);exact Ϣ (ao rfl I rfl rfl) rfl ⟨g18,Y18,Z18,rfl,Loc.rem b4 (Loc.rem b6 (Loc.rem b8 I))⟩
instance V5:Ent 177:=eo func177
theorem yK(hF:CoM F bf bb bo bk kp a0 a1 cc)(d:Dv)(ok:d.Ok)(hS:∀x y z u c,SeeS D (F x y z u c) d.s d.q)(hm:d.s.m0=[])(hac:d.s.ac= -1)(I:Loc D w (d.at F bf bb bo kp fr fs)) :
 ϓ 163 #[aT cc] w fun e Z=>e= .returned (.tuple #[.agg hrZ,.bool false])∧Loc D Z (d.at F bf bb bo kp fr fs):=by
 have hG:=hF.g;have HTG:=Hd (fun J (h:Loc D J (d.at F bf bb bo kp fr fs))=>kF d.s d.q J ((hS _ _ _ _ _).read h) ok.good hac);have HOF:=Hd (fun(b:Nat) (r:Ψ) J (h:Loc D J ((b,r,241)::d.at F bf bb bo kp fr fs))=>DY (F:=fun x y z u c=>(b,r,241)::F x y z u c) (bf:=bf) (bb:=bb) (bo:=bo) (bk:=bk) (kp:=kp) (a0:=a0) (a1:=a1) (cc:=cc) (fr:=fr) (fs:=fs) (cG _ hF) d (fun x y z u c=>by haveI:=hS x y z u c;infer_instance) hm h);clear hS ok hac hm;obtain⟨er,pr,y,f,n,m,p,kn,kc,φ,s,q,bt,rg⟩:=d;dsimp only[Dv.at]at *
 go_enter func163,ntmps163;go_wp2_with (first|refine aU ?_|refine gBp 2 fun b2 J I=>?_|refine gBp 5 fun b5 J I=>?_|(go_at_call 160;go_loud (refine(HTG.out _ I.pop).mono ?_);rintro e J⟨rfl,V⟩;replace I:=I.keep V;refine p4 ?_)|(refine gN 15 ?_;refine lO (HOF.out _ _ _ I) fun J I=>?_)|refine ab fun J I=>?_);refine mX (S:=fun Z=>Loc _ Z _) 15 (Loc.rem b2 (I.drew)) ?_;intro H;replace I:=I.drew;refine uZ 0 ?_;refine uG 1 ?_;refine uG 2 ?_;refine uS 3 ?_;refine uS 4 ?_;refine uS 5 ?_;refine uS 6 ?_;refine uS 7 ?_;refine uS 8 ?_;refine uS 9 ?_;refine uL 10 ?_;refine uS 11 ?_;refine uG 12 ?_;refine rd1 13 fun K T=>?_;refine cY fun J I=>?_;refine kO T (Loc.rem b2 (I)) fun H=>?_;refine uG 14 ?_;refine wD ?_;clear H;go_wp2_with (refine ϛ fun J I=>?_);exact Ϣ (ao rfl I rfl rfl) rfl ⟨rfl,Loc.rem b2 (Loc.rem b5 I)⟩
theorem AO(hF:CoM F bf bb bo bk kp a0 a1 cc)(d:Dv)(ok:d.Ok)(hS:∀x y z u c,SeeS D (F x y z u c) d.s d.q)(hf:Fed d.s fs)(hd:d.s.d0=false)(hac:d.s.ac= -1)(I:Loc D w (d.at F bf bb bo kp fr fs)) :
 ϓ 163 #[aT cc] w fun e Z=>∃g W E,e= .returned (.tuple #[.agg (hrR (av d.s.m0).ν (av d.s.m0).ζ (av d.s.m0).ρ (ϐ g) 80 W (av d.s.m0).id (av d.s.m0).κ (av d.s.m0).cs (av d.s.m0).sg (unK fs (av d.s.m0).wr) true),.bool true])∧Loc D Z ((g,E,5)::d.at F bf bb bo kp fr fs):=by
 have hG:=hF.g;have HTG:=Hd (fun J (h:Loc D J (d.at F bf bb bo kp fr fs))=>kF d.s d.q J ((hS _ _ _ _ _).read h) ok.good hac);have HOF:=Hd (fun(b:Nat) (r:Ψ) J (h:Loc D J ((b,r,241)::d.at F bf bb bo kp fr fs))=>Hf (F:=fun x y z u c=>(b,r,241)::F x y z u c) (bf:=bf) (bb:=bb) (bo:=bo) (bk:=bk) (kp:=kp) (a0:=a0) (a1:=a1) (cc:=cc) (fr:=fr) (fs:=fs) (cG _ hF) d (fun x y z u c=>by haveI:=hS x y z u c;infer_instance) hf h);clear hS ok hac hf;generalize unK fs (av d.s.m0).wr=K at *
 generalize av d.s.m0=mm at *
 obtain⟨ν,ζ,ρ,wr,id,κ,cs,sg⟩:=mm;dsimp only at *
 obtain⟨er,pr,y,f,n,m,p,kn,kc,φ,s,q,bt,rg⟩:=d;dsimp only[Dv.at]at *
 obtain⟨HR,hHR⟩:∃HR:ϊ→Nat→Ψ,∀p c,hrR ν ζ ρ p 80 c id κ cs sg K true=HR p c:=⟨_,fun _ _=>rfl⟩;haveI hrw:∀p c,Row1 (HR p c) 230:=fun p c=>by rw[← hHR];infer_instance
 have hof:=HOF.out;simp only[hHR]at hof ⊢;clear HOF hHR;have HOF:=Hd hof;clear hof;go_enter func163,ntmps163;go_wp2_with (first|refine aU ?_|refine gBp 2 fun b2 J I=>?_|refine gBp 5 fun b5 J I=>?_|(go_at_call 160;go_loud (refine(HTG.out _ I.pop).mono ?_);rintro e J⟨rfl,V⟩;replace I:=I.keep V;refine p4 ?_)|(refine gN 15 ?_;refine lKk (HOF.out _ _ _ I) ?_;rintro e J⟨g15,Y15,Z15,rfl,Y⟩;refine Ϥ Y fun I=>?_)|refine ab fun J I=>?_);refine mX (S:=fun Z=>Loc _ Z _) 15 (Loc.rem b2 (I.drew)) ?_;intro H;replace I:=I.drew;refine uZ 0 ?_;refine uG 1 ?_;refine uG 2 ?_;refine uS 3 ?_;refine uS 4 ?_;refine uS 5 ?_;refine uS 6 ?_;refine uS 7 ?_;refine uS 8 ?_;refine uS 9 ?_;refine uL 10 ?_;refine uS 11 ?_;refine uG 12 ?_;refine rd1 13 fun K T=>?_;refine cY fun J I=>?_;refine kO T (Loc.rem b2 (I)) fun H=>?_;refine uG 14 ?_;refine wD ?_;clear H;go_wp2_with (refine ϛ fun J I=>?_);exact Ϣ (ao rfl I rfl rfl) rfl ⟨g15,Y15,Z15,rfl,Loc.rem b2 (Loc.rem b5 I)⟩
instance V6:Ent 163:=eo func163
theorem AP(hF:CoM F bf bb bo bk kp a0 a1 cc)(d:Dv)(ok:d.Ok){ν ζ id:Int}{ρ κ cs sg K:Φ}{p:ϊ}{n c:Nat}(v0:0≤ν)(v1:ν≤2147483647)(I:Loc D w (d.at F bf bb bo kp fr fs)) :
 ϓ 165 #[aT cc,.agg (hrR ν ζ ρ p n c id κ cs sg K true),.int .i64 0] w fun e Z=>∃v,e= .returned (.tuple #[v,.bool (opB K ν 0 d.raw)])∧Loc D Z (d.at F bf bb bo kp fr fs):=by
 have hG:=hF.g;have HRW:=Hd (fun(b:Nat) (r:Ψ) J (h:Loc D J ((b,r,241)::d.at F bf bb bo kp fr fs))=>Hc (F:=fun x y z u c=>(b,r,241)::F x y z u c) (bf:=bf) (bb:=bb) (bo:=bo) (bk:=bk) (kp:=kp) (a0:=a0) (a1:=a1) (cc:=cc) (fr:=fr) (fs:=fs) (cG _ hF) d ok h);have him:=(fun p c hc J hv=>oV K ν 0 v0 v1 Ξ Ξ p c d.raw (ag _ _) hc J hv);clear ok v0 v1;generalize d.raw=R at *
 generalize opB K ν 0 R=o at *
 cases o
 all_goals
  simp only[X8,ZP,ZV]at him;have HIM:=Hd him;clear him;obtain⟨er,pr,y,f,nn,m,pp,kn,kc,φ,s,q,bt,rg⟩:=d;dsimp only[Dv.at]at *
  go_enter func165,ntmps165;go_wp2_with (first|refine aU ?_|refine gBp 4 fun b4 J I=>?_|refine ab fun J I=>?_);refine Ϭ 20 I fun H I=>?_;refine uG 0 ?_;refine uG 2 ?_;refine uG 5 ?_;refine uG 6 ?_;refine uG 10 ?_;refine uG 12 ?_;refine uZ 1 ?_;refine uG 3 ?_;refine uG 7 ?_;refine uZ 11 ?_;refine uZ 4 ?_;refine uG 8 ?_;refine uZ 9 ?_;refine rd1 13 fun K T=>?_;refine IW rfl rfl ((HRW.out _ _ _ I).mono ?_) (by first|rfl|(simp only[List.map_cons,List.map_nil];rfl));rintro e J⟨g27,Y27,Z27,rfl,W27,Y⟩;refine⟨_,rfl,?_⟩;refine Ϫ Y fun I=>?_;refine kO T (I.pop) fun H=>?_;refine rd1 14 fun K T=>?_;refine eK (HIM.out _ _ W27.le _ (See.bytes I)) ?_;rintro e J⟨v28,rfl,hb28⟩;refine⟨_,rfl,?_⟩;have Y:=I.keep hb28;refine Ϫ Y fun I=>?_;refine kO T (I.pop) fun H=>?_;refine uG 15 ?_;refine uG 16 ?_;refine uG 17 ?_;refine uG 18 ?_;refine uG 19 ?_;refine wD ?_;clear H;go_wp2_with (refine ϛ fun J I=>?_);go_ret2;exact⟨_,rfl,Loc.rem b4 I.pop⟩
instance V7:Ent 165:=eo func165
end
abbrev qB(p:ϊ)(c:Nat):Sq:=⟨none,0,p,c,none,0⟩
abbrev zR(p:ϊ)(n c:Nat):Ψ:= #[.int .i64 0,.slice none 0 0,.slice p n c,.bool false,.int .i64 0,.slice none 0 0,.bool false,.int .i64 0,.int .i64 (-1)]
theorem pg(w:ϑ):ϓ 50 #[] w fun e Z=>e= .returned (.agg (stR Sta.new Sq.none))∧Υ w Z:=by
 have I:=Loc.nil w;go_enter func50,ntmps50;go_wp2_with (first|((with_reducible show wpList _ _ _ (⟨_,.load _ _,_,_,_,some _⟩::_) _ _);refine bU rfl rfl rfl ?_)|((with_reducible show wpList _ _ _ (⟨_,.call _,_,_,_,some _⟩::_) _ _);refine bU rfl rfl rfl ?_)|((with_reducible show wpList _ _ _ (⟨some 0,_,_,_,_,_⟩::_) _ _);(first|refine lB I rfl rfl rfl ?_|refine lA I rfl rfl ?_);intro b0;clear I;intro J I;try simp only[Act.put,List.setIfInBounds_toArray,List.set_cons_zero,List.set_cons_succ])|((with_reducible show wpList _ _ _ (⟨some 1,_,_,_,_,_⟩::_) _ _);refine lU I rfl rfl tN rfl fun J I=>?_;try simp only[Act.put,List.setIfInBounds_toArray,List.set_cons_zero,List.set_cons_succ])|((with_reducible show wpList _ _ _ (⟨_,.load _ _,_,_,_,_⟩::_) _ _);(first|refine lL I rfl rfl rfl ?_|refine lI I rfl rfl rfl ?_|refine lW I rfl rfl rfl ?_);clear I;intro J I;try simp only[Act.put,List.setIfInBounds_toArray,List.set_cons_zero,List.set_cons_succ])|((with_reducible show wpList _ _ _ (⟨_,.store _ _ _,_,_,_,_⟩::_) _ _);(first|refine lT I rfl rfl rfl rfl rfl ?_|refine lTs I rfl rfl rfl rfl rfl ?_|refine lTb I rfl rfl rfl rfl rfl ?_|refine lTp I rfl rfl rfl rfl rfl ?_|refine lS I rfl rfl rfl rfl rfl ?_|refine lSp I rfl rfl rfl rfl rfl ?_);clear I;intro J I;try simp only[Act.put,List.setIfInBounds_toArray,List.set_cons_zero,List.set_cons_succ]));exact Λ
instance V8:Ent 50:=Ent.of func50 Θ rfl
theorem ir(p:ϊ)(n c:Nat)(hn:n=0∨n=300):FnC 179 #[.agg (zR p n c)] (.bool true):=⟨fun w=>by
 have I:=Loc.nil w;haveI f1:=dS 0 Ξ Ξ;rcases hn with rfl|rfl
 all_goals
  go_enter func179,ntmps179;go_wp2_with (first|((with_reducible show wpList _ _ _ (⟨_,.load _ _,_,_,_,some _⟩::_) _ _);refine bU rfl rfl rfl ?_)|((with_reducible show wpList _ _ _ (⟨_,.call _,_,_,_,some _⟩::_) _ _);refine bU rfl rfl rfl ?_)|((with_reducible show wpList _ _ _ (⟨some 1,_,_,_,_,_⟩::_) _ _);(first|refine lB I rfl rfl rfl ?_|refine lA I rfl rfl ?_);intro b1;clear I;intro J I;try simp only[Act.put,List.setIfInBounds_toArray,List.set_cons_zero,List.set_cons_succ])|((with_reducible show wpList _ _ _ (⟨_,.load _ _,_,_,_,_⟩::_) _ _);(first|refine lL I rfl rfl rfl ?_|refine lI I rfl rfl rfl ?_|refine lW I rfl rfl rfl ?_);clear I;intro J I;try simp only[Act.put,List.setIfInBounds_toArray,List.set_cons_zero,List.set_cons_succ])|((with_reducible show wpList _ _ _ (⟨_,.store _ _ _,_,_,_,_⟩::_) _ _);(first|refine lT I rfl rfl rfl rfl rfl ?_|refine lTs I rfl rfl rfl rfl rfl ?_|refine lTb I rfl rfl rfl rfl rfl ?_|refine lTp I rfl rfl rfl rfl rfl ?_|refine lS I rfl rfl rfl rfl rfl ?_|refine lSp I rfl rfl rfl rfl rfl ?_);clear I;intro J I;try simp only[Act.put,List.setIfInBounds_toArray,List.set_cons_zero,List.set_cons_succ])|((with_reducible show wpList _ _ _ (⟨_,.call _,_,_,_,_⟩::_) _ _);(first|refine lC2 I rfl rfl rfl rfl ?_|refine lC1 I rfl rfl rfl ?_|refine lC3 I rfl rfl rfl rfl ?_|refine lC4 I rfl rfl rfl rfl ?_|refine lC0 I rfl rfl ?_|refine lC5 I rfl rfl rfl ?_);clear I;intro J I;try simp only[Act.put,List.setIfInBounds_toArray,List.set_cons_zero,List.set_cons_succ]));go_loopw [3] (fun ii wr=>ii= .int .i64 0∧Loc w wr [(b1,_,58)]) (fun _ _=>0);case atStart=>exact⟨rfl,I⟩
  case round =>
   clear I;obtain⟨rfl,I⟩:=hrel;go_wp2_with (first|((with_reducible show wpList _ _ _ (⟨_,.load _ _,_,_,_,some _⟩::_) _ _);refine bU rfl rfl rfl ?_)|((with_reducible show wpList _ _ _ (⟨_,.call _,_,_,_,some _⟩::_) _ _);refine bU rfl rfl rfl ?_)|((with_reducible show wpList _ _ _ (⟨_,.load _ _,_,_,_,_⟩::_) _ _);(first|refine lL I rfl rfl rfl ?_|refine lI I rfl rfl rfl ?_|refine lW I rfl rfl rfl ?_);clear I;intro J I;try simp only[Act.put,List.setIfInBounds_toArray,List.set_cons_zero,List.set_cons_succ])|((with_reducible show wpList _ _ _ (⟨_,.store _ _ _,_,_,_,_⟩::_) _ _);(first|refine lT I rfl rfl rfl rfl rfl ?_|refine lTs I rfl rfl rfl rfl rfl ?_|refine lTb I rfl rfl rfl rfl rfl ?_|refine lTp I rfl rfl rfl rfl rfl ?_|refine lS I rfl rfl rfl rfl rfl ?_|refine lSp I rfl rfl rfl rfl rfl ?_);clear I;intro J I;try simp only[Act.put,List.setIfInBounds_toArray,List.set_cons_zero,List.set_cons_succ]));go_loopw [4] (fun ii wr=>∃k:Nat,k≤2∧ii= .int .i64 k∧Loc w wr [(b1,_,58)]) (fun ii _=>2-(intOf ii).toNat);case atStart=>exact⟨0,Ω,rfl,I⟩
   case round =>
    clear I;obtain⟨k,hk,rfl,I⟩:=hrel;rcases(by omega:k=0∨k=1∨k=2)with rfl|rfl|rfl
    ·skip
     go_wp2_with (first|((with_reducible show wpList _ _ _ (⟨_,.load _ _,_,_,_,some _⟩::_) _ _);refine bU rfl rfl rfl ?_)|((with_reducible show wpList _ _ _ (⟨_,.call _,_,_,_,some _⟩::_) _ _);refine bU rfl rfl rfl ?_)|((with_reducible show wpList _ _ _ (⟨some 5,_,_,_,_,_⟩::_) _ _);(first|refine lB I rfl rfl rfl ?_|refine lA I rfl rfl ?_);intro b5;clear I;intro J I;try simp only[Act.put,List.setIfInBounds_toArray,List.set_cons_zero,List.set_cons_succ])|((with_reducible show wpList _ _ _ (⟨_,.load _ _,_,_,_,_⟩::_) _ _);(first|refine lL I rfl rfl rfl ?_|refine lI I rfl rfl rfl ?_|refine lW I rfl rfl rfl ?_);clear I;intro J I;try simp only[Act.put,List.setIfInBounds_toArray,List.set_cons_zero,List.set_cons_succ])|((with_reducible show wpList _ _ _ (⟨_,.store _ _ _,_,_,_,_⟩::_) _ _);(first|refine lT I rfl rfl rfl rfl rfl ?_|refine lTs I rfl rfl rfl rfl rfl ?_|refine lTb I rfl rfl rfl rfl rfl ?_|refine lTp I rfl rfl rfl rfl rfl ?_|refine lS I rfl rfl rfl rfl rfl ?_|refine lSp I rfl rfl rfl rfl rfl ?_);clear I;intro J I;try simp only[Act.put,List.setIfInBounds_toArray,List.set_cons_zero,List.set_cons_succ]));go_roundw;case rel=>exact⟨1,Ω,rfl,Loc.rem b5 I⟩
     case measure=>simp[intOf]
    ·skip
     go_wp2_with (first|((with_reducible show wpList _ _ _ (⟨_,.load _ _,_,_,_,some _⟩::_) _ _);refine bU rfl rfl rfl ?_)|((with_reducible show wpList _ _ _ (⟨_,.call _,_,_,_,some _⟩::_) _ _);refine bU rfl rfl rfl ?_)|((with_reducible show wpList _ _ _ (⟨some 5,_,_,_,_,_⟩::_) _ _);(first|refine lB I rfl rfl rfl ?_|refine lA I rfl rfl ?_);intro b5;clear I;intro J I;try simp only[Act.put,List.setIfInBounds_toArray,List.set_cons_zero,List.set_cons_succ])|((with_reducible show wpList _ _ _ (⟨_,.load _ _,_,_,_,_⟩::_) _ _);(first|refine lL I rfl rfl rfl ?_|refine lI I rfl rfl rfl ?_|refine lW I rfl rfl rfl ?_);clear I;intro J I;try simp only[Act.put,List.setIfInBounds_toArray,List.set_cons_zero,List.set_cons_succ])|((with_reducible show wpList _ _ _ (⟨_,.store _ _ _,_,_,_,_⟩::_) _ _);(first|refine lT I rfl rfl rfl rfl rfl ?_|refine lTs I rfl rfl rfl rfl rfl ?_|refine lTb I rfl rfl rfl rfl rfl ?_|refine lTp I rfl rfl rfl rfl rfl ?_|refine lS I rfl rfl rfl rfl rfl ?_|refine lSp I rfl rfl rfl rfl rfl ?_);clear I;intro J I;try simp only[Act.put,List.setIfInBounds_toArray,List.set_cons_zero,List.set_cons_succ]));go_roundw;case rel=>exact⟨2,Ω,rfl,Loc.rem b5 I⟩
     case measure=>simp[intOf]
    ·skip
     go_wp2_with (first|((with_reducible show wpList _ _ _ (⟨_,.load _ _,_,_,_,some _⟩::_) _ _);refine bU rfl rfl rfl ?_)|((with_reducible show wpList _ _ _ (⟨_,.call _,_,_,_,some _⟩::_) _ _);refine bU rfl rfl rfl ?_)|((with_reducible show wpList _ _ _ (⟨_,.load _ _,_,_,_,_⟩::_) _ _);(first|refine lL I rfl rfl rfl ?_|refine lI I rfl rfl rfl ?_|refine lW I rfl rfl rfl ?_);clear I;intro J I;try simp only[Act.put,List.setIfInBounds_toArray,List.set_cons_zero,List.set_cons_succ])|((with_reducible show wpList _ _ _ (⟨_,.store _ _ _,_,_,_,_⟩::_) _ _);(first|refine lT I rfl rfl rfl rfl rfl ?_|refine lTs I rfl rfl rfl rfl rfl ?_|refine lTb I rfl rfl rfl rfl rfl ?_|refine lTp I rfl rfl rfl rfl rfl ?_|refine lS I rfl rfl rfl rfl rfl ?_|refine lSp I rfl rfl rfl rfl rfl ?_);clear I;intro J I;try simp only[Act.put,List.setIfInBounds_toArray,List.set_cons_zero,List.set_cons_succ]));go_ret;exact⟨rfl,I.bel⟩⟩
instance V9:Ent 179:=Ent.of func179 Θ rfl
theorem gx(p:ϊ)(n c:Nat)(hn:n=0∨n=300):FnC 105 #[.agg (zR p n c)] (.int .i64 0):=⟨fun w=>by
 have I:=Loc.nil w;haveI f1:=ir p n c hn;go_enter func105,ntmps105;go_wp2_with (first|refine aU ?_|refine gBp 1 fun b1 J I=>?_|refine ab fun J I=>?_|refine Ϯ fun J I=>?_);go_ret;exact⟨rfl,I.bel⟩⟩
instance Wa:Ent 105:=eo func105
theorem dw(id:Int):FnC 104 #[.slice none 0 0,.int .i64 id] (.bool false):=⟨fun w=>by
 have I:=Loc.nil w;go_enter func104,ntmps104;go_wp2_with (refine ϛ fun J I=>?_);go_loopw [5] (fun ii wr=>ii= .int .i64 0∧Loc w wr []) (fun _ _=>0);case atStart=>exact⟨rfl,I⟩
 case round =>
  clear I;obtain⟨rfl,I⟩:=hrel;go_wp2_with (refine ϛ fun J I=>?_);go_ret;exact⟨rfl,I.bel⟩⟩
instance Wb:Ent 104:=eo func104
theorem oW(w:ϑ):Rt 180 #[.agg (zR none 0 0)] w (.agg (zR none 0 0)):=by
 have I:=Loc.nil w;go_enter func180,ntmps180;go_wp2_with (first|refine aU ?_|refine gBp 1 fun b1 J I=>?_|refine gBp 2 fun b2 J I=>?_|refine ab fun J I=>?_);go_loopw [3] (fun ii wr=>∃k:Nat,k≤2∧ii= .int .i64 k∧Loc w wr [(b2,stR ⟨0,[],[],false,0,[],false,0,0⟩ Sq.none,58),(b1,zR none 0 0,58)]) (fun ii _=>2-(intOf ii).toNat);case atStart=>exact⟨0,Ω,rfl,I⟩
 case round =>
  clear I;obtain⟨k,hk,rfl,I⟩:=hrel;rcases(by omega:k=0∨k=1∨k=2)with rfl|rfl|rfl
  ·skip
   go_wp2_with (refine ϛ fun J I=>?_);go_roundw;case rel=>exact⟨1,Ω,rfl,I⟩
   case measure=>simp[intOf]
  ·skip
   go_wp2_with (refine ϛ fun J I=>?_);go_roundw;case rel=>exact⟨2,Ω,rfl,I⟩
   case measure=>simp[intOf]
  ·skip
   go_wp2_with (refine ϛ fun J I=>?_);exact Λ
theorem yM(p:ϊ)(c:Nat)(b:Δ)(hl:b.length=300)(w:ϑ)(hv:BRow w (.slice p 300 c) b):ϓ 180 #[.agg (zR p 300 c)] w fun e Z=>∃g W E,e= .returned (.agg (zR (ϐ g) 300 W))∧OwnR E 300 W (ak b)∧Loc w Z [(g,E,5)]:=by
 have I:=Loc.nil w;haveI hA:Arg w (.slice p 300 c) (ak b):=⟨hv.vrow⟩;clear hv;go_enter func180,ntmps180;go_wp2_with (first|refine aU ?_|refine gBp 1 fun b1 J I=>?_|refine gBp 2 fun b2 J I=>?_|refine ab fun J I=>?_);go_loopw [3] (fun ii wr=>(ii= .int .i64 0∧Loc w wr [(b2,stR ⟨0,[],[],false,0,[],false,0,0⟩ Sq.none,58),(b1,zR p 300 c,58)])∨(∃(k g W:Nat) (E:Ψ),1≤k∧k≤2∧ii= .int .i64 k∧OwnR E 300 W (ak b)∧Loc w wr [(g,E,5),(b2,stR ⟨0,[],[],false,0,[],false,0,0⟩ Sq.none,58),(b1,zR (ϐ g) 300 W,58)])) (fun ii _=>2-(intOf ii).toNat);case atStart=>exact .inl ⟨rfl,I⟩
 case round =>
  clear I;rcases hrel with⟨rfl,I⟩|⟨k,g,W,E,hk1,hk2,rfl,hr,I⟩
  ·skip
   go_wp2_with (first|refine aU ?_|(refine gN 18 ?_;refine aNb ?_;intro g18 Y18 Z18 J W18 I)|refine ab fun J I=>?_);go_roundw;case rel=>exact .inr ⟨1,g18,Y18,Z18,Ω,Ω,rfl,W18,I⟩
   case measure=>simp[intOf]
  ·rcases(by omega:k=1∨k=2)with rfl|rfl
   ·skip
    go_wp2_with (refine ϛ fun J I=>?_);go_roundw;case rel=>exact .inr ⟨2,g,W,E,Ω,Ω,rfl,hr,I⟩
    case measure=>simp[intOf]
   ·skip
    go_wp2_with (refine ϛ fun J I=>?_);exact Ϣ (aj rfl I rfl) rfl ⟨g,W,E,rfl,hr,Loc.rem b1 (Loc.rem b2 I)⟩
instance Wc:Ent 180:=eo func180
instance Wd(p:ϊ)(n c:Nat)(p':ϊ)(n' c':Nat):Splice (zR p n c) 2 (slR p' n' c' false 0) (zR p' n' c'):=cq #[.int .i64 0,.slice none 0 0] #[.slice p n c,.bool false,.int .i64 0] (slR p' n' c' false 0) #[.slice none 0 0,.bool false,.int .i64 0,.int .i64 (-1)] 2 rfl rfl
theorem AQ(p:ϊ)(c:Nat)(b:Δ)(hl:b.length=300)(w:ϑ)(hv:BRow w (.slice p 300 c) b):ϓ 107 #[.agg (zR none 0 0),.slice p 300 c] w fun e Z=>∃g W E,e= .returned (.agg (zR (ϐ g) 300 W))∧OwnR E 300 W (ak b)∧Loc w Z [(g,E,5)]:=by
 have I:=Loc.nil w;haveI hA:Arg w (.slice p 300 c) (ak b):=⟨hv.vrow⟩;haveI f1:=ir none 0 0 (.inl rfl);haveI f2:=gx none 0 0 (.inl rfl);haveI f3:FnC 180 #[.agg (zR none 0 0)] (.agg (zR none 0 0)):=⟨oW⟩;clear hv;go_enter func107,ntmps107;go_wp2_with (first|refine aU ?_|refine gBp 2 fun b2 J I=>?_|refine gBp 4 fun b4 J I=>?_|(refine gN 19 ?_;refine aNb ?_;intro g19 Y19 Z19 J W19 I)|(refine gN 20 ?_;refine ϙ (sf _ _ _) fun J I=>?_)|refine ab fun J I=>?_|refine Ϯ fun J I=>?_);exact Ϣ (aj rfl I rfl) rfl ⟨g19,Y19,Z19,rfl,W19,Loc.rem b2 (Loc.rem b4 I)⟩
instance We:Ent 107:=eo func107
abbrev rR(pr:ϊ)(cr:Nat)(p:ϊ)(n c:Nat):Ψ:= #[.int .i64 0,.slice pr 1 cr,.slice p n c,.bool false,.int .i64 0,.slice none 0 0,.bool false,.int .i64 0,.int .i64 (-1)]
theorem te(id:Int)(h0:0≤id)(h1:id≤2147483647)(w:ϑ)  : ϓ 120 #[.agg (zR none 0 0),.int .i64 id] w fun e Z=>∃g W E,e= .returned (.tuple #[.agg (rR (ϐ g) W none 0 0),.int .i64 0])∧OwnR E 1 W [.int .i64 id]∧Loc w Z [(g,E,3)]:=by
 have I:=Loc.nil w;haveI f1:=ir none 0 0 (.inl rfl);haveI f2:=dS id h0 h1;haveI f4:=dw id;haveI f3:FnC 180 #[.agg (zR none 0 0)] (.agg (zR none 0 0)):=⟨oW⟩;clear h0 h1;go_enter func120,ntmps120;go_wp2_with (first|refine aU ?_|refine gBp 2 fun b2 J I=>?_|refine gBp 4 fun b4 J I=>?_|(go_at_call 104;go_loud (refine((dw id).calls _).mono ?_);rintro e J⟨rfl,V⟩;replace I:=I.keep V;refine p4 ?_)|(refine gN 32 ?_;refine aL fun b32 J I=>?_)|(refine gN 33 ?_;refine tD I rfl rfl rfl rfl Ξ Ξ fun g33 Y33 Z33 J W33 I=>?_;refine p4 ?_)|refine ab fun J I=>?_|refine Ϯ fun J I=>?_);go_loopw [7] (fun ii wr=>ii= .int .i64 0∧Loc w wr _) (fun _ _=>0);case atStart=>exact⟨rfl,I⟩
 case round =>
  clear I;obtain⟨rfl,I⟩:=hrel;go_wp2_with (refine ϛ fun J I=>?_);refine mX (S:=(fun _=>True)) 14 (trivial) ?_;intro H;replace I:=I.drew;refine uG 0 ?_;refine uG 1 ?_;refine uG 2 ?_;refine uS 3 ?_;refine uS 4 ?_;refine uS 7 ?_;refine uS 8 ?_;refine uS 5 ?_;refine uS 9 ?_;refine uL 6 ?_;refine uS 10 ?_;refine uL 11 ?_;refine uS 12 ?_;refine uG 13 ?_;refine wD ?_;clear H;go_wp2_with (refine ϛ fun J I=>?_);exact Ϣ (ao rfl I rfl rfl) rfl ⟨g33,Y33,Z33,rfl,W33,Loc.rem b2 (Loc.rem b4 (Loc.rem b32 I))⟩
theorem tf(id:Int)(h0:0≤id)(h1:id≤2147483647)(w:ϑ)(p:ϊ)(c:Nat)(b:Δ)(hl:b.length=300)(hv:∀J,Υ w J→BRow J (.slice p 300 c) b):ϓ 120 #[.agg (zR p 300 c),.int .i64 id] w fun e Z=>∃g W E g2 Y2 Z2,e= .returned (.tuple #[.agg (rR (ϐ g) W (ϐ g2) 300 Y2),.int .i64 0])∧OwnR E 1 W [.int .i64 id]∧OwnR Z2 300 Y2 (ak b)∧Loc w Z [(g,E,3),(g2,Z2,5)]:=by
 have I:=Loc.nil w;haveI f1:=ir p 300 c (.inr rfl);haveI f2:=dS id h0 h1;haveI f4:=dw id;have HC:=Hd (fun J V=>yM p c b hl J (hv J V));clear h0 h1;go_enter func120,ntmps120;go_wp2_with (first|refine aU ?_|(refine gN 18 ?_;refine lKk (HC.out _ I.bel) ?_;rintro e J⟨g18,Y18,Z18,rfl,W18,hN⟩;refine Ϩ (I.join hN) fun I=>?_)|refine gBp 2 fun b2 J I=>?_|refine gBp 4 fun b4 J I=>?_|(go_at_call 104;go_loud (refine((dw id).calls _).mono ?_);rintro e J⟨rfl,V⟩;replace I:=I.keep V;refine p4 ?_)|(refine gN 32 ?_;refine aL fun b32 J I=>?_)|(refine gN 33 ?_;refine tD I rfl rfl rfl rfl Ξ Ξ fun g33 Y33 Z33 J W33 I=>?_;refine p4 ?_)|refine ab fun J I=>?_|refine Ϯ fun J I=>?_);go_loopw [7] (fun ii wr=>ii= .int .i64 0∧Loc w wr _) (fun _ _=>0);case atStart=>exact⟨rfl,I⟩
 case round =>
  clear I;obtain⟨rfl,I⟩:=hrel;go_wp2_with (refine ϛ fun J I=>?_);refine mX (S:=(fun _=>True)) 14 (trivial) ?_;intro H;replace I:=I.drew;refine uG 0 ?_;refine uG 1 ?_;refine uG 2 ?_;refine uS 3 ?_;refine uS 4 ?_;refine uS 7 ?_;refine uS 8 ?_;refine uS 5 ?_;refine uS 9 ?_;refine uL 6 ?_;refine uS 10 ?_;refine uL 11 ?_;refine uS 12 ?_;refine uG 13 ?_;refine wD ?_;clear H;go_wp2_with (refine ϛ fun J I=>?_);exact Ϣ (ao rfl I rfl rfl) rfl ⟨g33,Y33,Z33,g18,Y18,Z18,rfl,W33,W18,Loc.rem b2 (Loc.rem b4 (Loc.rem b32 I))⟩
instance Wf:Ent 120:=eo func120
theorem AR{b:Δ}(hl:b.length=300)(p:ϊ)(c:Nat):zR p 300 c=stR (Sta.new.fed b) (qB p c):=by
 rw[← hl];rfl
theorem AS(id:Int)(h0:0≤id)(h1:id≤2147483647)(w:ϑ):ϓ 120 #[.agg (stR Sta.new Sq.none),.int .i64 id] w fun e Z=>∃S q',e= .returned (.tuple #[.agg (stR (Sta.new.add id) q'),.int .i64 0])∧(∀D M,SeeS D (S++M) (Sta.new.add id) q')∧Loc w Z S :=
 (te id h0 h1 w).mono fun e Z h=>by
  obtain⟨g,W,E,h1,h2,h3⟩:=h;have hq:HoldQ [(g,E,3)] [] [] (Sta.new.add id) ⟨some ⟨g,0,none⟩,W,none,0,none,0⟩:=⟨Hold.own h2,Hold.nil _,Hold.nil _,fun h=>(by cases h),fun _=>rfl,fun _=>rfl⟩;exact⟨[(g,E,3)],⟨some ⟨g,0,none⟩,W,none,0,none,0⟩,h1,fun D M=>hq.sees D M,h3⟩
theorem AT(id:Int)(h0:0≤id)(h1:id≤2147483647){b:Δ}(hb:b.length=300)(p:ϊ)(c:Nat)(w:ϑ)(hv:BRow w (.slice p 300 c) b):ϓ 120 #[.agg (stR (Sta.new.fed b) (qB p c)),.int .i64 id] w fun e Z=>∃S q',e= .returned (.tuple #[.agg (stR ((Sta.new.fed b).add id) q'),.int .i64 0])∧(∀D M,SeeS D (S++M) ((Sta.new.fed b).add id) q')∧Loc w Z S:=by
 rw[← AR hb];refine(tf id h0 h1 w p c b hb fun J V=>hv.below V).mono fun e Z h=>?_;obtain⟨g,W,E,g2,Y2,Z2,h1,h2,h4,h3⟩:=h;have e1:rR (ϐ g) W (ϐ g2) 300 Y2=stR ((Sta.new.fed b).add id) ⟨some ⟨g,0,none⟩,W,some ⟨g2,0,none⟩,Y2,none,0⟩:=by rw[← hb];rfl
 rw[e1]at h1;have h5:Hold [(g2,Z2,5)] (.slice (ϐ g2) b.length Y2) 5 (ak b):=by rw[hb];exact Hold.own h4
 have hq:HoldQ [(g,E,3)] [(g2,Z2,5)] [] ((Sta.new.fed b).add id) ⟨some ⟨g,0,none⟩,W,some ⟨g2,0,none⟩,Y2,none,0⟩:=⟨Hold.own h2,h5,Hold.nil _,fun h=>(by cases h),fun h=>(by rw[show b=[]from h]at hb;cases hb),fun _=>rfl⟩;exact⟨[(g2,Z2,5),(g,E,3)],_,h1,fun D M=>hq.sees D M,h3.perm (List.Perm.swap _ _ _)⟩
theorem uk(off:Nat):∀(vs old pre post:List Value) (j:Nat),pre.length=off+j→old.length=vs.length →
 ((vs.zipIdx j).foldl (fun(cs:Ψ) (x:Value×Nat)=>cs.setIfInBounds (off+x.2) x.1) (pre++(old++post)).toArray)=(pre++(vs++post)).toArray
 | [],[],pre,post,j,_,_=>rfl
 | v::vs,o::old,pre,post,j,h1,h2=>by
  rw[List.zipIdx_cons,ZC];have e:(pre++(o::old++post)).toArray.setIfInBounds (off+j) v=((pre++[v])++(old++post)).toArray:=by
   rw[List.setIfInBounds_toArray,← h1];congr 1;simp
  dsimp only;rw[e,uk off vs old (pre++[v]) post (j+1) (by simp[h1];omega) (by simpa using h2)];simp
theorem kG{place:Nat→Option (Nat×Nat)}{i n:Nat}{v:ό}{s old pre post:Ψ}{rest:List (Nat×ό)}(hp:place i=some (pre.size,n))(hv:v.cells=s)(hs:s.size=n)(ho:old.size=n) :
 Instr.fill place (pre++old++post) ((i,v)::rest)=Instr.fill place (pre++s++post) rest:=by
 have e:(s.zipIdx.foldl (fun(cs:Ψ) (x:Value×Nat)=>cs.setIfInBounds (pre.size+x.2) x.1) (pre++old++post))=pre++s++post:=by
  have h:=uk pre.size s.toList old.toList pre.toList post.toList 0 Ϡ (by simp[hs,ho]);rw[← Array.foldl_toList,Array.toList_zipIdx];have ex:∀m:Ψ,(pre.toList++(m.toList++post.toList)).toArray=pre++m++post:=fun m=>Array.toList_inj.1 Ϡ;rw[ex,ex]at h;exact h
 rw[Instr.fill,hp];dsimp only;rw[hv];rw[Χ (by simp[hs,ho])];exact XH (fun z=>Instr.fill place z rest) e
class Sz(a:Ψ)(n:outParam Nat):Prop where
 size:a.size=n
instance szB(n:Nat)(f:Φ):Sz (aa n f) n:=⟨ai n f⟩
def moR(fr fs:Φ)(s:Sta)(q:Sq)(left:Int)(P:Ψ)(bt:Int)(R:Ψ)(wr:ByteArray)(L:Ψ)(u:ό):Ψ :=
 aa 32 fr++aa 32 fs++stR s q ++ #[.int .i64 left]++P ++ #[.int .i64 bt]++R ++ #[.string wr]++L ++ #[u]
theorem vW{r r' pre post:Ψ}{v v':ό}{k:Nat}(h:r=pre ++ #[v]++post)(h':r'=pre ++ #[v']++post)(hk:k=pre.size):Put r k v' r':=⟨by
 subst h h' hk;rw[Xb,Yk (Xn _),Xb];simp,by subst h hk;simp;omega⟩
section
variable (fr fs:Φ) (s:Sta) (q:Sq) (left:Int) (P:Ψ) (bt:Int) (R:Ψ) (wr:ByteArray) (L:Ψ) (u:ό)
instance Lq:Cell (moR fr fs s q left P bt R wr L u) (64+0) (.int .i64 s.fl):=fq (pre:=aa 32 fr++aa 32 fs) (mid:=stR s q) (post:= #[.int .i64 left]++P ++ #[.int .i64 bt]++R ++ #[.string wr]++L ++ #[u]) (j:=0) (by simp only[moR,Xb]) ϔ ⟨rfl⟩
instance Ju:Cell (moR fr fs s q left P bt R wr L u) (64+1) (.slice q.pr s.rv.length q.cr):=fq (pre:=aa 32 fr++aa 32 fs) (mid:=stR s q) (post:= #[.int .i64 left]++P ++ #[.int .i64 bt]++R ++ #[.string wr]++L ++ #[u]) (j:=1) (by simp only[moR,Xb]) ϔ ⟨rfl⟩
instance NP:Cell (moR fr fs s q left P bt R wr L u) (64+2) (.slice q.p0 s.m0.length q.c0):=fq (pre:=aa 32 fr++aa 32 fs) (mid:=stR s q) (post:= #[.int .i64 left]++P ++ #[.int .i64 bt]++R ++ #[.string wr]++L ++ #[u]) (j:=2) (by simp only[moR,Xb]) ϔ ⟨rfl⟩
instance Qy:Cell (moR fr fs s q left P bt R wr L u) (64+3) (.bool s.d0):=fq (pre:=aa 32 fr++aa 32 fs) (mid:=stR s q) (post:= #[.int .i64 left]++P ++ #[.int .i64 bt]++R ++ #[.string wr]++L ++ #[u]) (j:=3) (by simp only[moR,Xb]) ϔ ⟨rfl⟩
instance Qz:Cell (moR fr fs s q left P bt R wr L u) 73 (.int .i64 left):=fq (pre:=aa 32 fr++aa 32 fs++stR s q) (mid:= #[.int .i64 left]) (post:=P ++ #[.int .i64 bt]++R ++ #[.string wr]++L ++ #[u]) (j:=0) (by simp only[moR,Xb]) ϔ ⟨rfl⟩
instance Oo(k:Int):Put (moR fr fs s q left P bt R wr L u) 73 (.int .i64 k) (moR fr fs s q k P bt R wr L u):=vW (pre:=aa 32 fr++aa 32 fs++stR s q) (v:= .int .i64 left) (post:=P ++ #[.int .i64 bt]++R ++ #[.string wr]++L ++ #[u]) (by simp only[moR,Xb]) (by simp only[moR,Xb]) ϔ
instance QA:Part (moR fr fs s q left P bt R wr L u) 64 0 24 (aa 32 fr):=bQ (pre:= #[]) (post:=aa 32 fs++stR s q ++ #[.int .i64 left]++P ++ #[.int .i64 bt]++R ++ #[.string wr]++L ++ #[u]) (by simp only[moR,Xb,Za]) rfl
instance Wg:Part (moR fr fs s q left P bt R wr L u) 64 32 24 (aa 32 fs):=bQ (pre:=aa 32 fr) (post:=stR s q ++ #[.int .i64 left]++P ++ #[.int .i64 bt]++R ++ #[.string wr]++L ++ #[u]) (by simp only[moR,Xb]) ϔ
instance Wh:Part (moR fr fs s q left P bt R wr L u) 64 64 58 (stR s q):=bQ (pre:=aa 32 fr++aa 32 fs) (post:= #[.int .i64 left]++P ++ #[.int .i64 bt]++R ++ #[.string wr]++L ++ #[u]) (by simp only[moR,Xb]) ϔ
instance Lr(s':Sta)(q':Sq):Splice (moR fr fs s q left P bt R wr L u) 64 (stR s' q') (moR fr fs s' q' left P bt R wr L u):=by
 have:=cq (aa 32 fr++aa 32 fs) (stR s q) (stR s' q') (#[.int .i64 left]++P ++ #[.int .i64 bt]++R ++ #[.string wr]++L ++ #[u]) 64 ϔ rfl;simpa only[moR,Xb] using this
section
variable [hP:Sz P 5120]
instance WY:Cell (moR fr fs s q left P bt R wr L u) 5194 (.int .i64 bt):=fq (pre:=aa 32 fr++aa 32 fs++stR s q ++ #[.int .i64 left]++P) (mid:= #[.int .i64 bt]) (post:=R ++ #[.string wr]++L ++ #[u]) (j:=0) (by simp only[moR,Xb]) (by simp[ai,hP.size]) ⟨rfl⟩
section
variable [hR:Sz R 32]
instance WZ:Cell (moR fr fs s q left P bt R wr L u) 5227 (.string wr):=fq (pre:=aa 32 fr++aa 32 fs++stR s q ++ #[.int .i64 left]++P ++ #[.int .i64 bt]++R) (mid:= #[.string wr]) (post:=L ++ #[u]) (j:=0) (by simp only[moR,Xb]) (by simp[ai,hP.size,hR.size]) ⟨rfl⟩
instance Wi(x:ByteArray):Put (moR fr fs s q left P bt R wr L u) 5227 (.string x) (moR fr fs s q left P bt R x L u):=vW (pre:=aa 32 fr++aa 32 fs++stR s q ++ #[.int .i64 left]++P ++ #[.int .i64 bt]++R) (v:= .string wr) (post:=L ++ #[u]) (by simp only[moR,Xb]) (by simp only[moR,Xb]) (by simp[ai,hP.size,hR.size])
instance QB(f:Φ):Part (moR fr fs s q left P bt R wr (aa 32 f) u) 64 5228 24 (aa 32 f):=bQ (pre:=aa 32 fr++aa 32 fs++stR s q ++ #[.int .i64 left]++P ++ #[.int .i64 bt]++R ++ #[.string wr]) (post:= #[u]) (by simp only[moR,Xb]) (by simp[ai,hP.size,hR.size])
section
variable [I:Sz L 32]
instance Oq(f:Φ):Splice (moR fr fs s q left P bt R wr L u) 5228 (aa 32 f) (moR fr fs s q left P bt R wr (aa 32 f) u):=by
 have:=cq (aa 32 fr++aa 32 fs++stR s q ++ #[.int .i64 left]++P ++ #[.int .i64 bt]++R ++ #[.string wr]) L (aa 32 f) #[u] 5228 (by simp[ai,hP.size,hR.size]) (by simp[ai,I.size]);simpa only[moR,Xb] using this
instance Wj:Cell (moR fr fs s q left P bt R wr L u) 5260 u:=fq (pre:=aa 32 fr++aa 32 fs++stR s q ++ #[.int .i64 left]++P ++ #[.int .i64 bt]++R ++ #[.string wr]++L) (mid:= #[u]) (post:= #[]) (j:=0) (by simp only[moR,Xb,Array.append_empty]) (by simp[ai,hP.size,hR.size,I.size]) ⟨rfl⟩
instance QC(x:ό):Put (moR fr fs s q left P bt R wr L u) 5260 x (moR fr fs s q left P bt R wr L x):=vW (pre:=aa 32 fr++aa 32 fs++stR s q ++ #[.int .i64 left]++P ++ #[.int .i64 bt]++R ++ #[.string wr]++L) (v:=u) (post:= #[]) (by simp only[moR,Xb,Array.append_empty]) (by simp only[moR,Xb,Array.append_empty]) (by simp[ai,hP.size,hR.size,I.size])
end
end
end
end
noncomputable def moZ:Ψ:=(match prog.info? 64 with|some i=>i.zero.getD undef|none=>undef).cells
theorem Hg:moZ.size=5261:=Θ
theorem Ls:moZ[5227]?=some (.string ⟨#[]⟩):=Θ
def vX:Array (Nat×Nat):= #[(0,32),(32,32),(64,9),(73,1),(74,5120),(5194,1),(5195,32),(5227,1),(5228,32),(5260,1)]
theorem Lt(parts:Array (Nat×ό))(w:ϑ):(Instr.build 64 parts).run prog w=(match Instr.fill (fun i=>vX[i]?) moZ parts.toList with
 | some cells=>(pure (.agg cells):Sem Value)
 | none=>stuck "build: no such field, or a part of the wrong size").run prog w:=by
 have hz:∀w,(zeroValue 64).run prog w= .ok (match prog.info? 64 with|some i=>i.zero.getD undef|none=>undef) w:=fun w=>by kernel_rfl
 have hc:(match prog.info? 64 with|some i=>i.zero.getD undef|none=>undef).cells=moZ:=rfl;obtain⟨Vzq,hV⟩:∃Vzq,Vzq=(match prog.info? 64 with|some i=>i.zero.getD undef|none=>undef):=⟨_,rfl⟩;rw[← hV]at hz hc;obtain⟨fs,hu,hm⟩:∃fs:Array Field,(∀w,(underlying 64).run prog w= .ok (.struct fs) w)∧∀w,(fs.mapM (fun(f:Field)=>(do pure (f.offset,← sizeOf f.type):Sem (Nat×Nat)))).run prog w= .ok vX w:=⟨(match prog.underlying 64 with|some (.struct fs)=>fs|_=> #[]),fun w=>by kernel_rfl,fun w=>by kernel_rfl⟩;clear hV;unfold Instr.build;simp only[Sem.run_bind,hz,hu,hm,hc,Result.andThen_ok];cases Instr.fill (fun i=>vX[i]?) moZ parts.toList <;> rfl
theorem Hh(fr fs:Φ)(left:Int):∃P R L u,Sz P 5120∧Sz R 32∧Sz L 32∧∀w,(Instr.build 64 #[(0,.agg (aa 32 fr)),(1,.agg (aa 32 fs)),(2,.agg (stR Sta.new Sq.none)),(3,.int .i64 left),(5,.int .i64 (-1))]).run prog w= .ok (.agg (moR fr fs Sta.new Sq.none left P (-1) R ⟨#[]⟩ L u)) w:=by
 have hz:=Hg;have hw:=Ls;have hr:=Lt;generalize moZ=Zzq at *
 obtain⟨hi,hwe⟩:=Array.getElem?_eq_some_iff.1 hw;have e1:Zzq.extract 5227 5228= #[.string ⟨#[]⟩]:=by
  apply Array.ext
  ·simp;omega
  ·intro i h1 h2
   obtain rfl:i=0:=by simp at h2;omega
   simpa using hwe
 have e2:Zzq.extract 5260 5261= #[Zzq[5260]'Ω]:=by
  apply Array.ext
  ·simp;omega
  ·intro i h1 h2
   obtain rfl:i=0:=by simp at h2;omega
   simp
 have eZ:Zzq=Zzq.extract 0 32++Zzq.extract 32 64++Zzq.extract 64 73++Zzq.extract 73 74++Zzq.extract 74 5194++Zzq.extract 5194 5195++Zzq.extract 5195 5227++Zzq.extract 5227 5228++Zzq.extract 5228 5260++Zzq.extract 5260 5261:=by
  simp only[Array.extract_append_extract];simp;rw[← hz];simp
 have sz:∀a b,b≤5261→(Zzq.extract a b).size=b-a:=fun a b h=>by simp;omega
 refine⟨Zzq.extract 74 5194,Zzq.extract 5195 5227,Zzq.extract 5228 5260,Zzq[5260]'Ω,⟨sz _ _ Ξ⟩,⟨sz _ _ Ξ⟩,⟨sz _ _ Ξ⟩,fun w=>?_⟩;rw[hr];have hf:Instr.fill (fun i=>vX[i]?) Zzq [(0,.agg (aa 32 fr)),(1,.agg (aa 32 fs)),(2,.agg (stR Sta.new Sq.none)),(3,.int .i64 left),(5,.int .i64 (-1))]=some (moR fr fs Sta.new Sq.none left (Zzq.extract 74 5194) (-1) (Zzq.extract 5195 5227) ⟨#[]⟩ (Zzq.extract 5228 5260) (Zzq[5260]'Ω)):=by
  conv=>lhs;rw[eZ]
  rw[e1,e2];generalize hA:Zzq.extract 0 32=A0;generalize hB:Zzq.extract 32 64=A1;generalize hC:Zzq.extract 64 73=A2;generalize hD:Zzq.extract 73 74=A3;generalize hE:Zzq.extract 5194 5195=A5;have s0:A0.size=32:=by rw[← hA];exact sz _ _ Ξ
  have s1:A1.size=32:=by rw[← hB];exact sz _ _ Ξ
  have s2:A2.size=9:=by rw[← hC];exact sz _ _ Ξ
  have s3:A3.size=1:=by rw[← hD];exact sz _ _ Ξ
  have s5:A5.size=1:=by rw[← hE];exact sz _ _ Ξ
  have sP:=sz 74 5194 Ξ;generalize Zzq.extract 74 5194=P at *
  generalize Zzq.extract 5195 5227=R at *
  generalize Zzq.extract 5228 5260=L at *
  generalize Zzq[5260]=u at *
  simp only[Xb];have f0:=kG (place:=fun i=>vX[i]?) (i:=0) (n:=32) (v:= .agg (aa 32 fr)) (s:=aa 32 fr) (old:=A0) (pre:= #[]) (post:=A1++(A2++(A3++(P++(A5++(R++(#[.string ⟨#[]⟩]++(L ++ #[u])))))))) (rest:=[(1,.agg (aa 32 fs)),(2,.agg (stR Sta.new Sq.none)),(3,.int .i64 left),(5,.int .i64 (-1))]) rfl rfl (ai _ _) s0;have f1:=kG (place:=fun i=>vX[i]?) (i:=1) (n:=32) (v:= .agg (aa 32 fs)) (s:=aa 32 fs) (old:=A1) (pre:=aa 32 fr) (post:=A2++(A3++(P++(A5++(R++(#[.string ⟨#[]⟩]++(L ++ #[u]))))))) (rest:=[(2,.agg (stR Sta.new Sq.none)),(3,.int .i64 left),(5,.int .i64 (-1))]) (by rw[ai];rfl) rfl (ai _ _) s1;have f2:=kG (place:=fun i=>vX[i]?) (i:=2) (n:=9) (v:= .agg (stR Sta.new Sq.none)) (s:=stR Sta.new Sq.none) (old:=A2) (pre:=aa 32 fr++aa 32 fs) (post:=A3++(P++(A5++(R++(#[.string ⟨#[]⟩]++(L ++ #[u])))))) (rest:=[(3,.int .i64 left),(5,.int .i64 (-1))]) (by simp only[YK,ai];rfl) rfl rfl s2;have f3:=kG (place:=fun i=>vX[i]?) (i:=3) (n:=1) (v:= .int .i64 left) (s:= #[.int .i64 left]) (old:=A3) (pre:=aa 32 fr++aa 32 fs++stR Sta.new Sq.none) (post:=P++(A5++(R++(#[.string ⟨#[]⟩]++(L ++ #[u]))))) (rest:=[(5,.int .i64 (-1))]) (by simp only[YK,ai];rfl) rfl rfl s3;have f5:=kG (place:=fun i=>vX[i]?) (i:=5) (n:=1) (v:= .int .i64 (-1)) (s:= #[.int .i64 (-1)]) (old:=A5) (pre:=aa 32 fr++aa 32 fs++stR Sta.new Sq.none ++ #[.int .i64 left]++P) (post:=R++(#[.string ⟨#[]⟩]++(L ++ #[u]))) (rest:=[]) (by simp only[YK,ai,sP];rfl) rfl rfl s5;simp only[Xb,Za]at f0 f1 f2 f3 f5;rw[f0,f1,f2,f3,f5];simp only[moR,Xb];rfl
 rw[show(#[(0,.agg (aa 32 fr)),(1,.agg (aa 32 fs)),(2,.agg (stR Sta.new Sq.none)),(3,.int .i64 left),(5,.int .i64 (-1))]:Array (Nat×ό)).toList=[(0,.agg (aa 32 fr)),(1,.agg (aa 32 fs)),(2,.agg (stR Sta.new Sq.none)),(3,.int .i64 left),(5,.int .i64 (-1))]from rfl,hf];rfl
theorem Lu(fr fs:Φ)(s:Sta)(q:Sq)(left:Int)(P:Ψ)(bt:Int)(R:Ψ)(wr:ByteArray)(L:Ψ)(u:ό){j k:Nat}(hj:j<P.size)(hk:k=74+j)(v:ό):Put (moR fr fs s q left P bt R wr L u) k v (moR fr fs s q left (P.setIfInBounds j v) bt R wr L u):=⟨by
 subst hk;have hs:(aa 32 fr++aa 32 fs++stR s q++(#[.int .i64 left]:Ψ)).size=74:=by simp[ai]
 have e:∀P',moR fr fs s q left P' bt R wr L u=(aa 32 fr++aa 32 fs++stR s q ++ #[.int .i64 left])++(P'++(#[.int .i64 bt]++R ++ #[.string wr]++L ++ #[u])):=fun P'=>by simp only[moR,Xb]
 rw[e,e,Yk Ω,hs,YP,Xm hj],by
 subst hk;simp[moR,ai];omega⟩
def Ers(P:Ψ)(n:Nat):Prop:=P.size=5120∧∀t,t<n→P[t]?=some (.int .u8 255)
theorem Ers.put{P:Ψ}{n:Nat}(h:Ers P n)(hn:n<5120):Ers (P.setIfInBounds n (Value.int .u8 255)) (n+1):=⟨by simp[h.1],fun t ht=>by
 rw[Array.getElem?_setIfInBounds];by_cases e:n=t
 ·subst e;rw[Ρ rfl,Ρ (by rw[h.1];exact hn)]
 ·rw[Χ e];exact h.2 t Ω⟩
theorem vY(fr fs:Φ)(w:ϑ):ϓ 16 #[.agg (aa 32 fr),.agg (aa 32 fs),.int .i64 100] w fun e Z=>∃b P R L u,e= .returned (.pointer (ϐ b))∧Ers P 5120∧Sz R 32∧Sz L 32∧Loc w Z [(b,moR fr fs Sta.new Sq.none 100 P (-1) R ⟨#[]⟩ L u,64)]:=by
 have I:=Loc.nil w;obtain⟨P0,R,L,u,hP0,hR,hL0,hB⟩:=Hh fr fs 100;go_enter func16,ntmps16;go_wp2_with (first|refine aU ?_|refine gBp 3 fun b3 J I=>?_|refine gBp 4 fun b4 J I=>?_|refine ab fun J I=>?_);refine Ϭ 7 I fun H I=>?_;refine uZ 0 ?_;refine uZ 1 ?_;refine uG 3 ?_;refine rd1 2 fun K T=>?_;refine xu rfl (by simp only[List.map_toArray,List.map_nil]) ((pg _).mono ?_);rintro e J⟨rfl,V⟩;refine⟨_,rfl,?_⟩;replace I:=I.keep V;refine kO T (I) fun H=>?_;refine uT 4 (hi:=rfl) (zU ϕ rfl hB rfl) ?_;refine rd1 5 fun K T=>?_;refine eB I rfl rfl fun b20 J I=>?_;refine kO T (I.pop) fun H=>?_;refine uG 6 ?_;refine wD ?_;clear H;have hE:Ers P0 0:=⟨hP0.size,fun t ht=>absurd ht (Nat.not_lt_zero _)⟩;clear hB;go_wp2_with (refine ϛ fun J I=>?_);go_loopw [8] (fun ss wr=>∃(s:Nat) (P:Ψ),s≤2∧ss= .int .i64 s∧Ers P (s*2560)∧Loc w wr [(b20,moR fr fs Sta.new Sq.none 100 P (-1) R ⟨#[]⟩ L u,64),(b4,aa 32 fs,24),(b3,aa 32 fr,24)]) (fun ss _=>2-(intOf ss).toNat);case atStart=>exact⟨0,P0,Ω,rfl,by simpa using hE,I⟩
 case round =>
  clear I hE hP0;obtain⟨s,P,hs,rfl,hE,I⟩:=hrel;by_cases ha:s<2
  ·have s0:(0:Int)≤(s:Int):=Ω
   have s1:(s:Int)<2:=Ω;go_wp2_with (refine ϛ fun J I=>?_);go_loopw [9] (fun ii wr=>∃(i:Nat) (P:Ψ),i≤32∧ii= .int .i64 i∧Ers P (s*2560+i*80)∧Loc w wr [(b20,moR fr fs Sta.new Sq.none 100 P (-1) R ⟨#[]⟩ L u,64),(b4,aa 32 fs,24),(b3,aa 32 fr,24)]) (fun ii _=>32-(intOf ii).toNat);case atStart=>exact⟨0,P,Ω,rfl,by simpa using hE,I⟩
   case round =>
    clear I hE;obtain⟨i,P,hi,rfl,hE,I⟩:=hrel;by_cases hlt2:i<32
    ·have i0:(0:Int)≤(i:Int):=Ω
     have i1:(i:Int)<32:=Ω;go_wp2_with (refine ϛ fun J I=>?_);go_loopw [10] (fun kk wr=>∃(k:Nat) (P:Ψ),k≤80∧kk= .int .i64 k∧Ers P (s*2560+i*80+k)∧Loc w wr [(b20,moR fr fs Sta.new Sq.none 100 P (-1) R ⟨#[]⟩ L u,64),(b4,aa 32 fs,24),(b3,aa 32 fr,24)]) (fun kk _=>80-(intOf kk).toNat);case atStart=>exact⟨0,P,Ω,rfl,by simpa using hE,I⟩
     case round =>
      clear I hE;obtain⟨k,P,hk,rfl,hE,I⟩:=hrel;by_cases hlt3:k<80
      ·have k0:(0:Int)≤(k:Int):=Ω
       have k1:(k:Int)<80:=Ω;haveI pt:=Lu fr fs Sta.new Sq.none 100 P (-1) R ⟨#[]⟩ L u (j:=s*2560+i*80+k) (k:=74+s*2560+i*80+k) (by rw[hE.1];omega) Ω (.int .u8 255);have HE:=Hd (hE.put Ω);clear hE;go_wp2_with (refine ϛ fun J I=>?_);go_roundw;case rel=>exact⟨k+1,_,Ω,by go_num,HE.out,I⟩
       case measure=>exact ϝ
      ·obtain rfl:k=80:=Ω
       rw[show((80:Nat):Int)=80 from rfl];go_wp2_with (refine ϛ fun J I=>?_);go_roundw;case rel=>exact⟨i+1,P,Ω,by go_num,by rw[show s*2560+(i+1)*80=s*2560+i*80+80 from by omega];exact hE,I⟩
       case measure=>exact ϝ
    ·obtain rfl:i=32:=Ω
     rw[show((32:Nat):Int)=32 from rfl];go_wp2_with (refine ϛ fun J I=>?_);go_roundw;case rel=>exact⟨s+1,P,Ω,by go_num,by rw[show(s+1)*2560=s*2560+32*80 from by omega];exact hE,I⟩
     case measure=>exact ϝ
  ·obtain rfl:s=2:=Ω
   rw[show((2:Nat):Int)=2 from rfl];go_wp2_with (refine ϛ fun J I=>?_);go_ret;exact⟨b20,P,R,L,u,rfl,hE,hR,hL0,Loc.rem b3 (Loc.rem b4 I)⟩
instance Wk:Ent 16:=eo func16
theorem yN:∀(n:Nat) (x y:Δ),x.length=n→y.length=n→fU x=fU y→x=y
 | 0,x,y,hx,hy,_=>by rw[List.length_eq_zero_iff.1 hx,List.length_eq_zero_iff.1 hy]
 | n+1,x,y,hx,hy,h=>by
  have nx:x≠[]:=fun e=>by simp[e]at hx
  have ny:y≠[]:=fun e=>by simp[e]at hy
  have ex:=Zk nx;have ey:=Zk ny;rw[← ex,← ey,kM,kM]at h;have b1:=(x.getLast nx).isLt;have b2:=(y.getLast ny).isLt;rw[← ex,← ey,yN n _ _ (by simp[hx]) (by simp[hy]) (by omega:fU x.dropLast=fU y.dropLast),Yi (by omega:(x.getLast nx).toNat=(y.getLast ny).toNat)]
theorem jD{x:Δ}(h:x.length=8):aM (fV x)=x:=by
 refine yN 8 _ _ (aw _) h ?_;have h1:=rf (fV x);have h2:=vw x;rw[h]at h2;have h3:fV x=IntKind.i64.wrap (fU x:Int):=by unfold fV wrap64;rw[XV];try omega
 rw[h3,XV]at h1;rw[h3,XV];have h4:(256:Nat)^8=18446744073709551616:=Ξ;omega
theorem ei(l:Δ)(k n:Nat):(l.drop k).take n++l.drop (k+n)=l.drop k:=by
 rw[← YQ];exact List.take_append_drop n (l.drop k)
theorem Ci(l:Δ)(k:Nat)(h:k+8≤l.length):((l.drop k).take 8).length=8:=by
 rw[Xr,Xz];omega
theorem DZ{l:Δ}(hl:l.length=300)(hb:gU l=true):(av l).bytes=l:=by
 have hm:=XC ((Xs _ _).mp hb).1;unfold Man.bytes Man.body av;dsimp only;rw[jD (Ci l 4 Ω),jD (Ci l 12 Ω),jD (Ci l 132 Ω),← bN l 20 32 Ω,← bN l 140 32 Ω,← bN l 172 64 Ω,← bN l 236 64 Ω,← hm];have c0:=ei l 0 4;have c1:=ei l 4 8;have c2:=ei l 12 8;have c3:=ei l 20 32;have c4:=ei l 52 80;have c5:=ei l 132 8;have c6:=ei l 140 32;have c7:=ei l 172 64;have c8:(l.drop 236).take 64=l.drop 236:=Xq (by rw[Xz];omega);simp only[Nat.reduceAdd,List.drop_zero]at c0 c1 c2 c3 c4 c5 c6 c7;simp only[Xc];rw[c8,c7,c6,c5,c4,c3,c2,c1,c0]
def spI(l:Δ):Int:=fV ((l.drop 4).take 8)
def spF(l:Δ):Nat→Γ:=fun i=>l.getD (12+i) 0
def spB(l:Δ):Bool:=decide (l.take 4=[80,67,83,84])&&fH (spI l)
theorem si{l:Δ}(hl:l.length=76)(hb:spB l=true):ef (spI l) (spF l)=l:=by
 have hm:=XC ((Xs _ _).mp hb).1;unfold ef spI;rw[jD (Ci l 4 Ω),← show(l.drop 12).take 64=ae 64 (spF l)from bN l 12 64 Ω,← hm];have c0:=ei l 0 4;have c1:=ei l 4 8;have c8:(l.drop 12).take 64=l.drop 12:=Xq (by rw[Xz];omega);simp only[Nat.reduceAdd,List.drop_zero]at c0 c1;rw[Xc,c8,c1,c0]
theorem yO(l:Δ)(χ:l.length=76)(hb:spB l=false)(v:ό)(w:ϑ)(hv:BRow w v l) :
 Rt 174 #[v] w (.tuple #[.agg (bR 0 fun _=>0),.int .i64 4]):=by
 have I:=Loc.nil w;haveI hA:Arg w v (ak l):=⟨hv.vrow⟩;have HN:=Hd (fun J (h:BRow J v l)=>fT v l J h Ω Ω);rw[χ]at HN;have hS0:bn [80,67,83,84]=⟨#[80,67,83,84]⟩:=rfl;unfold spB at hb;obtain⟨id,E4⟩:∃id,spI l=id:=⟨_,rfl⟩;rw[E4]at hb;unfold spI at E4;obtain⟨nb,hM⟩:∃nb,fH id=nb:=⟨_,rfl⟩;rw[hM]at hb;obtain⟨sm,hsm⟩:∃sm,sm=bn (l.take 4):=⟨_,rfl⟩;have HSM:=Hd hsm.symm;have HE4:=Hd E4;have h3:=Gq hS0 hb.symm;rw[← hsm]at h3;rcases h3 with⟨rfl,rfl,h⟩|⟨rfl,rfl,_⟩|⟨hS,_⟩
 ·cases h
 all_goals
  try rw[show(⟨#[80,67,83,84]⟩:ByteArray).toList=[80,67,83,84]from by simp]at hS
  clear hv hS0 hsm hb E4 χ;go_enter func174,ntmps174;go_wp2_with (first|refine aU ?_|refine gBp 2 fun b2 J I=>?_|(refine gN 9 ?_;refine lKk (HN.out _ (See.bytes I)) ?_;rintro e J⟨b9,g9,Y9,Z9,rfl,W9,hN⟩;refine⟨_,rfl,?_⟩;have hs1:=W9.segB;have hs2:Seg Z9 4 72 (ak (l.drop 4)):=hs1.drop 4 Ω;have hs3:Seg Z9 12 64 (ak ((l.drop 4).drop 8)):=hs2.drop 8 Ω;have hc9:=W9.le;refine Ϧ (I.join hN) fun I=>?_)|(refine gN 11 ?_;refine lKk (ri (F:=fun x=>[(b9,x,274),(g9,Z9,5),(b2,bR 0 fun _=>0,98)]) (l:=l) hs1 4 Ω Ω hc9 Ω I) ?_;rintro e J⟨g11,Y11,Z11,rfl,W11,Y⟩;refine Ϥ Y fun I=>?_)|(refine gN 12 ?_;refine sJ I rfl rfl rfl ?_;rw[HSM.out];clear I;intro J I)|(refine gN 14 ?_;refine lKk (rj (F:=fun x=>[(g11,Z11,5),(b9,x,274),(g9,Z9,5),(b2,bR 0 fun _=>0,98)]) (l:=l.drop 4) hs2 Ω Ω Ω I) ?_;rintro e J⟨rfl,Y⟩;rw[HE4.out];refine Ϥ Y fun I=>?_)|(refine gN 16 ?_;refine lKk (rh (F:=fun x=>[(g11,Z11,5),(b9,x,274),(g9,Z9,5),(b2,bR 0 fun _=>0,98)]) (l:=(l.drop 4).drop 8) hs3 64 Ω Ω Ω Ω I) ?_;rintro e J⟨g16,Y16,Z16,p16,rfl,W16,_,Y⟩;refine Ϥ Y fun I=>?_)|(refine gN 18 ?_;refine lO (m7 (F:=fun x=>[(g16,Z16,5),(g11,Z11,5),(b9,x,274),(g9,Z9,5),(b2,bR 0 fun _=>0,98)]) I) fun J I=>?_)|(refine gN 29 ?_;refine ϙ oC fun J I=>?_)|refine ab fun J I=>?_|refine Ϯ fun J I=>?_)
 ·exact Ϣ (ao rfl I rfl rfl) rfl ⟨rfl,I.bel⟩
 ·exact Ϣ (ao rfl I rfl rfl) rfl ⟨rfl,I.bel⟩
instance Wl(id:Int)(f:Φ):Spl (bR id fun _=>0) 1 (ak (ae 64 f)) (bR id f):=by
 have:=vR (n:=64) (pre:= #[.int .i64 id]) (post:= #[]) (fun _=>0) f (k:=1) rfl;simpa only[bR,Array.append_empty] using this
theorem yP(id:Int)(w:ϑ):(Instr.build 98 #[(0,.int .i64 id)]).run prog w= .ok (.agg (bR id fun _=>0)) w:=Θ
theorem jG(l:Δ)(χ:l.length=76)(A:ϊ)(c:Nat)(w:ϑ)(hv:BRow w (.slice A 76 c) l)(hc:76≤c) :
 ϓ 118 #[.slice A 76 c] w fun e Z=>cond (spB l) (e= .returned (.tuple #[.agg (bR (spI l) (spF l)),.int .i64 0])∧Υ w Z) (e= .returned (.tuple #[.agg (bR 0 fun _=>0),.int .i64 4])∧Υ w Z):=by
 have I:=Loc.nil w;have E8:=Hd (show(l.drop 12).take 64=ae 64 (spF l)from bN l 12 64 Ω);have hS0:bn [80,67,83,84]=⟨#[80,67,83,84]⟩:=rfl;obtain⟨B,hb⟩:∃B,B=spB l:=⟨_,rfl⟩;rw[← hb];unfold spB at hb;obtain⟨id,E4⟩:∃id,spI l=id:=⟨_,rfl⟩;rw[E4]at hb ⊢;unfold spI at E4;haveI fM:FnC 79 #[.int .i64 id] (.bool (fH id)):=⟨fun J=>(n8 id J).mono fun e Z h=>⟨h.1,by rw[← h.2];exact XE _ _⟩⟩;obtain⟨nb,hM⟩:∃nb,fH id=nb:=⟨_,rfl⟩;rw[hM]at hb fM;obtain⟨sm,hsm⟩:∃sm,sm=bn (l.take 4):=⟨_,rfl⟩;have HSM:=Hd (show bn ((l.drop 0).take 4)=sm from hsm.symm);have HE4:=Hd E4;have H0:=Hd (fun(G:Ψ→Mem) {bc:Nat} J (q:∀x,At (G x) bc x 132) (q2:∀x y,Ups (G x) bc y (G y)) h=> @iq w J G bc q q2 A 76 c _ hv 0 4 Ω Ω χ hc Ω h);have H1:=Hd (fun(G:Ψ→Mem) {bc:Nat} J (q:∀x,At (G x) bc x 132) (q2:∀x y,Ups (G x) bc y (G y)) h=> @pP w J G bc q q2 A 76 c _ hv 4 Ω χ hc Ω h);have H2:=Hd (fun(G:Ψ→Mem) {bc:Nat} J (q:∀x,At (G x) bc x 132) (q2:∀x y,Ups (G x) bc y (G y)) h=> @iq w J G bc q q2 A 76 c _ hv 12 64 Ω Ω χ hc Ω h);have HE:=Hd (fun(G:Ψ→Mem) {bc:Nat} J (q:∀x,At (G x) bc x 132) (q2:∀x y,Ups (G x) bc y (G y)) h=> @yz w J G bc q q2 A 76 c Ω h);simp only[Nat.reduceAdd]at H0 H1 H2;have h64:(ak (ae 64 (spF l))).length=64:=by rw[ap,ag]
 generalize spF l=f at *
 have h3:=Gq hS0 hb;rw[← hsm]at h3;rcases h3 with⟨rfl,rfl,rfl⟩|⟨rfl,rfl,rfl⟩|⟨hS,rfl⟩
 all_goals
  try rw[show(⟨#[80,67,83,84]⟩:ByteArray).toList=[80,67,83,84]from by simp]at hS
  clear hv χ hc hS0 hsm hb E4 hM;go_enter func118,ntmps118;go_wp2_with (first|refine aU ?_|refine gBp 2 fun b2 J I=>?_|refine gBp 6 fun b6 J I=>?_|(refine gN 8 ?_;refine ϙ (sa _ _ _) fun J I=>?_)|refine gBp 9 fun b9 J I=>?_|(refine gN 11 ?_;refine lKk (H0.out (fun x=>[(b9,x,132),(b2,bR 0 fun _=>0,98)]) _ (fun _=>Ϙ) (fun _ _=>Ϙ) I) ?_;rintro e J⟨g11,Y11,Z11,rfl,W11,Y⟩;refine Ϥ Y fun I=>?_)|(refine gN 13 ?_;refine lKk (H1.out (fun x=>[(g11,Z11,5),(b9,x,132),(b2,bR 0 fun _=>0,98)]) _ (fun _=>Ϙ) (fun _ _=>Ϙ) I) ?_;rintro e J⟨rfl,Y⟩;rw[HE4.out];refine Ϥ Y fun I=>?_)|(refine gN 14 ?_;refine ϙ (yP _) fun J I=>?_)|refine ab fun J I=>?_);refine mX (S:=(fun _=>True)) 5 (trivial) ?_;intro H;replace I:=I.drew;refine uG 0 ?_;refine uG 2 ?_;refine uG 1 ?_;refine rd1 3 fun K T=>?_;refine eK (H2.out (fun x=>[(b6,bR id fun _=>0,98),(g11,Z11,5),(b9,x,132),(b2,bR 0 fun _=>0,98)]) _ (fun _=>Ϙ) (fun _ _=>Ϙ) I) ?_;rintro e J⟨g18,Y18,Z18,rfl,W18,Y⟩;refine⟨_,rfl,?_⟩;rw[E8.out]at W18;refine Ϫ Y fun I=>?_;refine kO T (trivial) fun H=>?_;refine rd1 4 fun K T=>?_;refine eCp fun J I=>?_;refine kO T (trivial) fun H=>?_;refine wD ?_;clear H;go_wp2_with (first|refine aU ?_|(refine gN 21 ?_;refine sJ I rfl rfl rfl ?_;rw[HSM.out];clear I;intro J I;refine p4 ?_)|(refine gN 25 ?_;refine lO (HE.out (fun x=>[(g18,Z18,5),(b6,bR id f,98),(g11,Z11,5),(b9,x,132),(b2,bR 0 fun _=>0,98)]) _ (fun _=>Ϙ) (fun _ _=>Ϙ) I) fun J I=>?_)|(refine gN 34 ?_;refine ϙ oC fun J I=>?_)|refine ab fun J I=>?_|refine Ϯ fun J I=>?_)
 ·exact Ϣ (ao rfl I rfl rfl) rfl ⟨rfl,I.bel⟩
 ·exact Ϣ (ao rfl I rfl rfl) rfl ⟨rfl,I.bel⟩
 ·exact Ϣ (ao rfl I rfl rfl) rfl ⟨rfl,I.bel⟩
instance Wm:Ent 118:=eo func118
theorem jd(k:Φ)(id:Int)(f:Φ)(w:ϑ)[hG:Glob w][hI:GlobI w](h0:0≤id)(h1:id≤2147483647) :
 Rt 119 #[.agg (aa 32 k),.agg (bR id f)] w (.bool (dQ k id f)):=by
 have I:=Loc.nil w;have HM:=Hd (fun J=>(dS id h0 h1).calls J);have HT:=Hd (fun J=>jx id ⟨h0,h1⟩ J);have χ:(cK id).length=12:=by unfold cK;simp[aw]
 have HV:=Hd (fun J (V:Υ w J) (u:ό) (hu:BRow J u (cK id))=> @R3.refVerify_any k f u (cK id) J (hG.below V) (hI.below V) hu Ω);have HC:=Hd (show dA (leN k) (leN f) (leN fun i=>f (32+i)) (cK id)=dQ k id f from rfl);rw[HC.out]at HV;simp only[Fresh,χ]at HT;clear HC h0 h1 χ;generalize dQ k id f=C,cK id=Tzq at *
 go_enter func119,ntmps119;go_wp2_with (first|refine aU ?_|refine gBp 2 fun b2 J I=>?_|refine gBp 3 fun b3 J I=>?_|refine ab fun J I=>?_);refine Ϭ 13 I fun H I=>?_;refine uG 0 ?_;refine uZ 1 ?_;refine rd1 2 fun K T=>?_;refine eVv (HM.out _) I fun J I=>?_;refine kO T (I) fun H=>?_;refine uG 3 ?_;refine uL 4 ?_;refine uS 5 ?_;refine uS 7 ?_;refine uL 6 ?_;refine uL 8 ?_;refine rd1 9 fun K T=>?_;refine eK (HT.out _) ?_;rintro e J⟨g14,Y14,Z14,rfl,W14,hg14,hc14,hb14⟩;refine⟨_,rfl,?_⟩;have Y:=I.fresh hb14 hg14 hc14;clear hb14 hg14 hc14;clear I;have I:=Y;clear Y;refine kO T (I.pop) fun H=>?_;refine rd1 10 fun K T=>?_;refine eVv (HV.out _ I.bel (.slice (ϐ g14) 12 Y14) (See.bytes I)) I fun J I=>?_;refine kO T (I.pop) fun H=>?_;refine uG 11 ?_;refine uG 12 ?_;refine wD ?_;clear H;go_wp2_with (refine ϛ fun J I=>?_);go_ret;exact⟨rfl,I.bel⟩
instance Wn:Ent 119:=eo func119
section
open R3
section
variable {D w:ϑ} {F:Ψ→Mem} {bc:Nat} [hA:∀x,At (F x) bc x 132] [hU:∀x y,Ups (F x) bc y (F y)]
theorem sj(n:Nat)(h0:0<n)(bad:Bool)(I:Loc D w (F (ccR (.slice none 0 0) 0 bad))) :
 ϓ 64 #[.pointer (ϐ bc),.int .i64 n] w fun e Z=>e= .returned (.slice none 0 0)∧Loc D Z (F (ccR (.slice none 0 0) 0 true)):=by
 have q1:¬(n:Int)<0:=Ω;have q2:(0:Int)<n:=Ω;replace I:Loc D w (F #[.slice none 0 0,.int .i64 0,.bool bad]):=I;cases bad
 all_goals
  go_enter func64,ntmps64;go_wp2_with (refine ϛ fun J I=>?_);refine Ϭ 22 I fun H I=>?_;refine uG 0 ?_;refine uG 1 ?_;refine uG 2 ?_;refine uZ 3 ?_;refine uG 4 ?_;refine uS 5 ?_;refine uS 6 ?_;refine uG 7 ?_;refine uG 8 ?_;refine uS 9 ?_;refine uS 10 ?_;refine uS 15 ?_;refine uS 11 ?_;refine uS 16 ?_;refine uS 12 ?_;refine uS 17 ?_;refine uL 13 ?_;refine uL 18 ?_;refine uS 14 ?_;refine uS 19 ?_;refine uS 20 ?_;refine uG 21 ?_;refine wD ?_;clear H
  try simp only[show IntKind.i64.wrap 0=0 from by decide,Xw q2,Bool.or_true]
  go_wp2_with (refine ϛ fun J I=>?_);go_ret;exact⟨rfl,I⟩
theorem Hi(bad:Bool)(I:Loc D w (F (ccR (.slice none 0 0) 0 bad))) :
 ϓ 65 #[.pointer (ϐ bc)] w fun e Z=>e= .returned (.int .i64 0)∧Loc D Z (F (ccR (.slice none 0 0) 0 true)):=by
 have HC:=Hd (sj (F:=F) (bc:=bc) 8 Ξ bad I);clear I;generalize ccR (.slice none 0 0) 0 true=cc at *
 go_enter func65,ntmps65;go_wp2_with (go_at_call 64;go_loud (refine HC.out.mono ?_);rintro e J⟨rfl,I⟩);clear HC;go_loopw [4,5] (fun u kk wr=>kk= .int .i64 0∧u= .int .i64 0∧Loc D wr (F cc)) (fun _ kk _=>0);case atStart=>exact⟨rfl,rfl,I⟩
 case round =>
  clear I;obtain⟨rfl,rfl,I⟩:=hrel;go_wp2_with (refine ϛ fun J I=>?_);go_ret;exact⟨rfl,I⟩
theorem Hj(bad:Bool)(I:Loc D w (F (ccR (.slice none 0 0) 0 bad))) :
 ϓ 66 #[.pointer (ϐ bc)] w fun e Z=>e= .returned (.agg (aa 32 fun _=>0))∧Loc D Z (F (ccR (.slice none 0 0) 0 true)):=by
 have HC:=Hd (fun(G:Ψ→Mem) J (q:∀x,At (G x) bc x 132) (q2:∀x y,Ups (G x) bc y (G y)) h=> @sj D J G bc q q2 32 Ξ bad h);generalize ccR (.slice none 0 0) 0 true=c2,ccR (.slice none 0 0) 0 bad=c1 at *
 go_enter func66,ntmps66;go_wp2_with (first|refine aU ?_|refine gBp 2 fun b2 J I=>?_|refine gBp 3 fun b3 J I=>?_|refine ab fun J I=>?_);refine mX (S:=(fun _=>True)) 4 (trivial) ?_;intro H;replace I:=I.drew;refine uG 0 ?_;refine uG 1 ?_;refine rd1 2 fun K T=>?_;refine eK (HC.out (fun x=>(b3,aa 32 (fun _=>0),24)::(b2,aa 32 (fun _=>0),24)::F x) _ (fun _=>Ϙ) (fun _ _=>Ϙ) I) ?_;rintro e J⟨rfl,Y⟩;refine⟨_,rfl,?_⟩;refine Ϫ Y fun I=>?_;refine kO T (trivial) fun H=>?_;refine rd1 3 fun K T=>?_;refine rz I rfl rfl rfl fun J I=>?_;refine kO T (trivial) fun H=>?_;refine wD ?_;clear H;go_wp2_with (refine ϛ fun J I=>?_);exact Ϣ (aj rfl I rfl) rfl ⟨rfl,Loc.rem b2 (Loc.rem b3 I)⟩
end
theorem vZ(w:ϑ):Rt 67 #[.agg mfZ] w (.tuple #[.slice none 0 0,.int .i64 1]):=by
 have I:=Loc.nil w;haveI f1:=dS 0 Ξ Ξ;have d1:decide ((0:Int)<1)=true:=Ξ;go_enter func67,ntmps67;go_wp2_with (first|refine aU ?_|refine gBp 1 fun b1 J I=>?_|refine ab fun J I=>?_|refine Ϯ fun J I=>?_);go_ret2;exact⟨rfl,I.bel⟩
theorem tg(w:ϑ):Rt 26 #[.slice none 0 0] w (.tuple #[.agg mfZ,.int .i64 4]):=by
 have I:=Loc.nil w;have H0:=Hd (fun(n:Nat) (h0:0<n) (bad:Bool) (G:Ψ→Mem) {bc:Nat} J (q:∀x,At (G x) bc x 132) (q2:∀x y,Ups (G x) bc y (G y)) h=> @sj w J G bc q q2 n h0 bad h);have H1:=Hd (fun(bad:Bool) (G:Ψ→Mem) {bc:Nat} J (q:∀x,At (G x) bc x 132) (q2:∀x y,Ups (G x) bc y (G y)) h=> @Hi w J G bc q q2 bad h);have H2:=Hd (fun(bad:Bool) (G:Ψ→Mem) {bc:Nat} J (q:∀x,At (G x) bc x 132) (q2:∀x y,Ups (G x) bc y (G y)) h=> @Hj w J G bc q q2 bad h);have hS:bn []=⟨#[]⟩:=rfl;go_enter func26,ntmps26;go_wp2_with (first|refine aU ?_|refine gBp 2 fun b2 J I=>?_|refine gBp 6 fun b6 J I=>?_|(refine gN 10 ?_;refine ϙ (sa _ _ _) fun J I=>?_)|refine gBp 11 fun b11 J I=>?_|(refine gN 13 ?_;refine lO (H0.out 4 Ξ false (fun x=>[(b11,x,132),(b2,mfZ,79)]) _ (fun _=>Ϙ) (fun _ _=>Ϙ) I) fun J I=>?_)|(refine gN 15 ?_;refine lO (H1.out true (fun x=>[(b6,mfZ,79),(b11,x,132),(b2,mfZ,79)]) _ (fun _=>Ϙ) (fun _ _=>Ϙ) I) fun J I=>?_)|(refine gN 18 ?_;refine lO (H1.out true (fun x=>[(b6,mfZ,79),(b11,x,132),(b2,mfZ,79)]) _ (fun _=>Ϙ) (fun _ _=>Ϙ) I) fun J I=>?_)|(refine gN 21 ?_;refine lO (H2.out true (fun x=>[(b6,mfZ,79),(b11,x,132),(b2,mfZ,79)]) _ (fun _=>Ϙ) (fun _ _=>Ϙ) I) fun J I=>?_)|(refine gN 24 ?_;refine lO (H0.out 80 Ξ true (fun x=>[(b6,mfZ,79),(b11,x,132),(b2,mfZ,79)]) _ (fun _=>Ϙ) (fun _ _=>Ϙ) I) fun J I=>?_)|(refine gN 27 ?_;refine lO (H1.out true (fun x=>[(b6,mfZ,79),(b11,x,132),(b2,mfZ,79)]) _ (fun _=>Ϙ) (fun _ _=>Ϙ) I) fun J I=>?_)|(refine gN 31 ?_;refine lO (H2.out true (fun x=>[(b6,mfZ,79),(b11,x,132),(b2,mfZ,79)]) _ (fun _=>Ϙ) (fun _ _=>Ϙ) I) fun J I=>?_)|refine ab fun J I=>?_|refine Ϯ fun J I=>?_);refine mX (S:=(fun _=>True)) 6 (trivial) ?_;intro H;replace I:=I.drew;refine uG 0 ?_;refine uG 3 ?_;refine uG 1 ?_;refine uG 2 ?_;refine rd1 4 fun K T=>?_;refine eK (H0.out 64 Ξ true (fun x=>[(b6,mfZ,79),(b11,x,132),(b2,mfZ,79)]) _ (fun _=>Ϙ) (fun _ _=>Ϙ) I) ?_;rintro e J⟨rfl,Y⟩;refine⟨_,rfl,?_⟩;refine Ϫ Y fun I=>?_;refine kO T (trivial) fun H=>?_;refine rd1 5 fun K T=>?_;refine rz I rfl rfl rfl fun J I=>?_;refine kO T (trivial) fun H=>?_;refine wD ?_;clear H;go_wp2_with (refine ϛ fun J I=>?_);refine mX (S:=(fun _=>True)) 5 (trivial) ?_;intro H;replace I:=I.drew;refine uG 0 ?_;refine uG 2 ?_;refine uG 1 ?_;refine rd1 3 fun K T=>?_;refine eK (H0.out 64 Ξ true (fun x=>[(b6,mfZ,79),(b11,x,132),(b2,mfZ,79)]) _ (fun _=>Ϙ) (fun _ _=>Ϙ) I) ?_;rintro e J⟨rfl,Y⟩;refine⟨_,rfl,?_⟩;refine Ϫ Y fun I=>?_;refine kO T (trivial) fun H=>?_;refine rd1 4 fun K T=>?_;refine rz I rfl rfl rfl fun J I=>?_;refine kO T (trivial) fun H=>?_;refine wD ?_;clear H;go_wp2_with (first|refine aU ?_|(refine gN 47 ?_;refine lV (vZ _) I fun J I=>?_)|(refine gN 51 ?_;refine sJ (l:=[]) I rfl rfl rfl ?_;rw[hS];clear I;intro J I;refine p4 ?_)|(refine gN 62 ?_;refine ϙ i4 fun J I=>?_)|refine ab fun J I=>?_);exact Ϣ (ao rfl I rfl rfl) rfl ⟨rfl,I.bel⟩
instance Wo:Ent 26:=eo func26
section
variable {ops:Array Oper} {rest:List Oper} {o:Oper} {a:Act} {D w:ϑ} {M M':Mem} {Q:ώ}
theorem ot(I:Loc D w M)(hg:o.guard=none){d s:Operand}{t e:ϋ}(ho:o.op= .call { callee:= .builtin .copy,args:= #[d,s],argTypes:= #[t,t] })[he:Elt t e]{g off n c:Nat}(hd:a.eval d= .slice (some ⟨g,off,none⟩) n c){E:Ψ}{u:ϋ}[hm:At M g E u]{p:ϊ}{k cc:Nat}(hs:a.eval s= .slice p k cc){ys:List Value}(hv:VRow w (.slice p n cc) ys)(hk:n≤k)(h0:0<n){cur':Ψ}[hp:Spl E off ys cur'][hu:Ups M g cur' M'](h:∀Z,Loc D Z M'→wpList prog ops Q rest (a.put o.dst (.int .i64 n)) Z):wpList prog ops Q (o::rest) a w:=by
 obtain⟨h1,ad,cc',e1,hnn,hpp⟩:=hv;cases e1
 obtain⟨b,o2,rfl,hb,hcell⟩:=hpp h0;obtain⟨i,z,hi,hz,hs1,hbb,hzs⟩:=he.info;refine wpList_copy_own hg d s t t ho e he.und (by rw[hi];simp[hs1]) g off ys.length c ⟨b,o2,none⟩ k cc hd hs E u (I.get hm.mem) ys (Nat.min_eq_right hk).symm (fun j v hj=>?_) hp.fit h1 ?_
 ·have hjl:j<ys.length:=by
   rcases XI j ys.length with h|h
   ·exact h
   ·rw[List.getElem?_eq_none h]at hj;cases hj
  rw[zaa,hcell j hjl,← hj,List.getElem?_eq_getElem hjl]
 ·rw[hp.spl]
  exact h _ (I.setRow hu.upd)
end
theorem th(σ:Φ)(pa:ϊ)(ca:Nat)(l:Δ)(w:ϑ)(hka:KAt w)(hv:BRow w (.slice pa 80 ca) l)(hl:l.length=80)(hc:80≤ca) :
 ϓ 178 #[.agg (aa 32 σ),.slice pa 80 ca] w fun r Z=>∃k,r= .returned (.tuple #[.agg (aa 32 (unK σ l)),.int .i64 k])∧decide (k=0)=unB σ l∧Υ w Z:=by
 have I:=Loc.nil w;have h48:(l.drop 32).length=32+16:=by rw[Xz];omega
 haveI f1:FnC 36 #[.agg (aa 32 σ)] (.agg (aa 32 (ah (a7 σ bO)))):=Ϙ;have h2:=fun J=>lq σ (unE l) J;have HK:=Hd (fun J (V:Υ w J)=>jF (unE l) (ah (a7 σ (unE l))) J (hka.below V));have B1:=oh (k:=32) (by rw[← hl]at hv;exact hv) Ω Ω (sc hl);have B2:=hv.cutLo (i:=32) Ω Ω;have HB:=Hd (fun J (V:Υ w J)=>(B1.below V).vrow);obtain⟨b0,off0,rfl⟩:=hv.some Ω;have hne:¬ca=32:=Ω;have hcut:eR (some ⟨b0,off0,none⟩) ca 32=some ⟨b0,off0+32,none⟩:=by unfold eR;rw[Χ hne];rfl
 haveI sp:Spl (aa 32 fun _=>0) 0 (ak (ae 32 (unE l))) (aa 32 (unE l)):=k6 _ _ _ Ω fun i hi=>by rw[Ρ ⟨Ω,Ω⟩];rfl
 haveI sp2:Spl (aa 32 fun _=>0) 0 (ak (ae 32 (unF σ l))) (aa 32 (unF σ l)):=k6 _ _ _ Ω fun i hi=>by rw[Ρ ⟨Ω,Ω⟩];rfl
 have h32:(ak (ae 32 (unF σ l))).length=32:=by rw[ap,ag]
 by_cases hz:a7 σ (unE l)=0
 ·have hB:unB σ l=false:=by unfold unB;rw[XB (by simpa using hz)];rfl
  have hKK:unK σ l=fun _=>0:=by unfold unK;rw[hB];rfl
  rw[hB,hKK];simp only[Ρ hz]at h2;haveI f2:FnC 83 #[.agg (aa 32 σ),.agg (aa 32 (unE l))] (.tuple #[.agg (aa 32 (ah (a7 σ (unE l)))),.int .i64 21]):=⟨h2⟩;clear h2 HK B1 B2 hv hl hz h48 hcut hne hB hKK sp2 h32;generalize ah (a7 σ (unE l))=Zzq at *
  generalize unE l=Ezq at *
  go_enter func178,ntmps178;go_wp2_with (first|refine aU ?_|refine gBp 2 fun b2 J I=>?_|refine gBp 4 fun b4 J I=>?_|refine gBp 6 fun b6 J I=>?_|(refine gN 19 ?_;refine ot I rfl rfl rfl rfl (HB.out _ I.bel) Ξ Ξ fun J I=>?_;refine p4 ?_)|refine gBp 7 fun b7 J I=>?_|refine ab fun J I=>?_|refine Ϯ fun J I=>?_);exact Ϣ (ao rfl I rfl rfl) rfl ⟨21,rfl,rfl,I.bel⟩
 ·simp only[Χ hz]at h2
  haveI f2:FnC 83 #[.agg (aa 32 σ),.agg (aa 32 (unE l))] (.tuple #[.agg (aa 32 (ah (a7 σ (unE l)))),.int .i64 0]):=⟨h2⟩;have hun:unB σ l=unT σ l:=by unfold unB;rw[Xw hz,Bool.true_and]
  cases ht:unT σ l
  ·have hB:unB σ l=false:=hun.trans ht
   have hKK:unK σ l=fun _=>0:=by unfold unK;rw[hB];rfl
   rw[hB,hKK];have ho:=fun J (V:Υ w J) (ub:ό) (hub:BRow J ub (ae 32 (ah (a7 σ bO))))=>se (wkF (unE l) (ah (a7 σ (unE l)))) (fun _=>0) (eR (some ⟨b0,off0,none⟩) ca 32) (ca-32) 32 ub (l.drop 32) (ae 32 (ah (a7 σ bO))) J h48 Ξ (by rw[h48];exact B2.below V) Ω hub (by rw[ag];decide) Ω (by rw[ag];omega) (ZN ht);rw[h48,hcut]at ho;have HO:=Hd ho;clear ho h2 ht hz hun h48 B1 B2 hv hcut hB hKK sp2 h32;generalize wkF (unE l) (ah (a7 σ (unE l)))=Wzq,ah (a7 σ (unE l))=Zzq,ah (a7 σ bO)=N9 at *
   generalize unE l=Ezq at *
   haveI s1:Seg (aa 32 N9) 0 32 (ak (ae 32 N9)):=fD 32 N9;clear hl;go_enter func178,ntmps178;go_wp2_with (first|refine aU ?_|refine gBp 2 fun b2 J I=>?_|refine gBp 4 fun b4 J I=>?_|refine gBp 6 fun b6 J I=>?_|(refine gN 19 ?_;refine ot I rfl rfl rfl rfl (HB.out _ I.bel) Ξ Ξ fun J I=>?_;refine p4 ?_)|refine gBp 7 fun b7 J I=>?_|refine gBp 9 fun b9 J I=>?_|refine ab fun J I=>?_|refine Ϯ fun J I=>?_);refine Ϭ 13 I fun H I=>?_;refine uZ 0 ?_;refine uZ 1 ?_;refine uT 3 (hi:=rfl) (zU ϕ rfl fp rfl) ?_;refine uG 4 ?_;refine uG 6 ?_;refine uG 5 ?_;refine rd1 2 fun K T=>?_;refine eVv (HK.out _ I.bel) I fun J I=>?_;refine kO T (I) fun H=>?_;refine rd1 7 fun K T=>?_;refine eVv (HO.out _ I.bel (.slice (ϐ b9) 32 32) (See.bytes I)) I fun J I=>?_;refine kO T (I) fun H=>?_;refine uG 8 ?_;refine uG 9 ?_;refine uG 10 ?_;refine uG 11 ?_;refine uG 12 ?_;refine wD ?_;clear H;go_wp2_with (refine ϛ fun J I=>?_);exact Ϣ (ao rfl I rfl rfl) rfl ⟨10,rfl,rfl,I.bel⟩
  ·have hB:unB σ l=true:=hun.trans ht
   have hKK:unK σ l=unF σ l:=by unfold unK;rw[hB];rfl
   rw[hB,hKK];have ho:=fun J (V:Υ w J) (ub:ό) (hub:BRow J ub (ae 32 (ah (a7 σ bO))))=>sd (wkF (unE l) (ah (a7 σ (unE l)))) (fun _=>0) (eR (some ⟨b0,off0,none⟩) ca 32) (ca-32) 32 ub (l.drop 32) (ae 32 (ah (a7 σ bO))) J h48 Ξ (by rw[h48];exact B2.below V) Ω hub (by rw[ag];decide) Ω (by rw[ag];omega) (XC ht);rw[h48,hcut,show dv (wkF (unE l) (ah (a7 σ (unE l)))) (BitVec.ofInt 32 1) (fun _=>0) ((l.drop 32).take 32)=ae 32 (unF σ l)from yE hl]at ho;have HO:=Hd ho;clear ho h2 ht hz hun h48 B1 B2 hv hcut hB hKK;generalize wkF (unE l) (ah (a7 σ (unE l)))=Wzq,ah (a7 σ (unE l))=Zzq,ah (a7 σ bO)=N9,unF σ l=U at *
   generalize unE l=Ezq at *
   haveI s1:Seg (aa 32 N9) 0 32 (ak (ae 32 N9)):=fD 32 N9;clear hl;go_enter func178,ntmps178;go_wp2_with (first|refine aU ?_|refine gBp 2 fun b2 J I=>?_|refine gBp 4 fun b4 J I=>?_|refine gBp 6 fun b6 J I=>?_|(refine gN 19 ?_;refine ot I rfl rfl rfl rfl (HB.out _ I.bel) Ξ Ξ fun J I=>?_;refine p4 ?_)|refine gBp 7 fun b7 J I=>?_|refine gBp 9 fun b9 J I=>?_|refine ab fun J I=>?_|refine Ϯ fun J I=>?_);refine Ϭ 13 I fun H I=>?_;refine uZ 0 ?_;refine uZ 1 ?_;refine uT 3 (hi:=rfl) (zU ϕ rfl fp rfl) ?_;refine uG 4 ?_;refine uG 6 ?_;refine uG 5 ?_;refine rd1 2 fun K T=>?_;refine eVv (HK.out _ I.bel) I fun J I=>?_;refine kO T (I) fun H=>?_;refine rd1 7 fun K T=>?_;refine eK (HO.out _ I.bel (.slice (ϐ b9) 32 32) (See.bytes I)) ?_;rintro e J⟨g40,Y40,Z40,rfl,W40,hN⟩;refine⟨_,rfl,?_⟩;refine Ϧ (I.join hN) fun I=>?_;refine kO T (I.pop) fun H=>?_;refine uG 8 ?_;refine uG 9 ?_;refine uG 10 ?_;refine uG 11 ?_;refine uG 12 ?_;refine wD ?_;clear H;go_wp2_with (first|refine aU ?_|refine gBp 12 fun b12 J I=>?_|(refine gN 48 ?_;(refine qq I rfl rfl rfl rfl ϖ ϖ fun J Y=>?_);clear I;have I:=Y;clear Y;refine p4 ?_)|refine ab fun J I=>?_);exact Ϣ (ao rfl I rfl rfl) rfl ⟨0,rfl,rfl,I.bel⟩
instance Wp:Ent 178:=eo func178
end
section
open R3
abbrev tMo:TypeId:=64
section
variable {D w:ϑ} {G:Ψ→Mem} {mo:Nat} [hA:∀x,At (G x) mo x 64] [hU:∀x y,Ups (G x) mo y (G y)] {fr fs:Φ} {s:Sta} {q:Sq} {left:Int} {P:Ψ} {R:Ψ} {wr:ByteArray} {L:Ψ} {u:ό} {ν ζ id:Int} {ρ κ cs sg:Φ} {l:Δ} {p:ϊ} {c:Nat}
theorem ou[hP:Sz P 5120][hR:Sz R 32][hLz:Sz L 32](hG:Glob D)(hv:∀x,See D (G x) (.slice p 80 c) (ak l))(hl:l.length=80)(hc:80≤c)(I:Loc D w (G (moR fr fs s q left P (-1) R ⟨#[]⟩ L u))) :
 ϓ 103 #[aT mo,.agg (mfR ν ζ ρ p 80 c id κ cs sg)] w fun e Z=>e= .returned (.tuple #[.agg (aa 32 (unK fs l)),.bool (unB fs l)])∧Loc D Z (G (moR fr fs s q left P (-1) R (bn l) (aa 32 (unK fs l)) (.bool (unB fs l)))):=by
 have HUW:=Hd (fun J (M:Mem) (h:Loc D J M) (hv:BRow J (.slice p 80 c) l)=>th fs p c l J (h.glob hG).kat hv hl hc);have hq:(bn l).toList.isEmpty=false:=by
  rw[jW];cases l with
  | nil=>cases hl
  | cons a t=>rfl
 obtain⟨sl,hsl⟩:∃sl,bn l=sl:=⟨_,rfl⟩;rw[hsl]at hq ⊢;have HSL:=Hd hsl;clear hsl hl hc;generalize unK fs l=K at *
 generalize unB fs l=b at *
 obtain⟨X0,h0⟩:∃X,X=moR fr fs s q left P (-1) R ⟨#[]⟩ L u:=⟨_,rfl⟩;obtain⟨X1,h1⟩:∃X,X=moR fr fs s q left P (-1) R sl L u:=⟨_,rfl⟩;obtain⟨X2,h2⟩:∃X,X=moR fr fs s q left P (-1) R sl (aa 32 K) u:=⟨_,rfl⟩;obtain⟨X3,h3⟩:∃X,X=moR fr fs s q left P (-1) R sl (aa 32 K) (.bool b):=⟨_,rfl⟩;haveI c0:Cell X0 5227 (.string ⟨#[]⟩):=by rw[h0];infer_instance
 haveI s0:Part X0 64 32 24 (aa 32 fs):=by rw[h0];infer_instance
 haveI p1:Put X0 5227 (.string sl) X1:=by rw[h0,h1];infer_instance
 haveI p2:Splice X1 5228 (aa 32 K) X2:=by rw[h1,h2];infer_instance
 haveI p3:Put X2 5260 (.bool b) X3:=by rw[h2,h3];infer_instance
 haveI l3:Part X3 64 5228 24 (aa 32 K):=by rw[h3];infer_instance
 haveI c3:Cell X3 5260 (.bool b):=by rw[h3];infer_instance
 rw[← h0]at I;rw[← h3];clear h0 h1 h2 h3;go_enter func103,ntmps103;go_wp2_with (first|refine aU ?_|refine gBp 3 fun b3 J I=>?_|refine gBp 4 fun b4 J I=>?_|refine ab fun J I=>?_);refine Ϭ 8 I fun H I=>?_;refine uG 0 ?_;refine uG 4 ?_;refine uG 1 ?_;refine uZ 5 ?_;refine uG 2 ?_
 first|refine tk 6 rfl (tc ϕ rfl rfl (fun J h=>See.bytes h (l:=l))) H ?_
 refine p7 ?_;refine uZ 3 ?_;refine uG 7 ?_;refine wD ?_;clear H;simp only[HSL.out,hq,Bool.not_false];go_wp2_with (refine ϛ fun J I=>?_);refine eQ (R:=?R) (fun hR=>?h1) ?h2;case h1 =>
  refine mX (S:=fun Z=>Loc _ Z _) 13 (I.drew) ?_;intro H;replace I:=I.drew;refine uG 0 ?_;refine uG 4 ?_;refine uG 1 ?_;refine uZ 5 ?_;refine uG 2 ?_;refine uZ 3 ?_;refine rd2 6 10 ?_ ?_
  ·intro K T
   refine eK (HUW.out _ _ I (See.bytes I)) ?_;rintro e J⟨k23,rfl,hk23,hN⟩;refine⟨_,rfl,?_⟩;have Y:=I.keep hN;clear hN;clear I;revert Y;refine aN ?_;intro I;refine kO T (I) ?_;clear T K H;intro H;refine uG 7 ?_;refine uG 8 ?_;refine uG 9 ?_;refine rd1 10 fun K T=>?_;refine eA I rfl ?_;clear I;intro b6 J I;refine kO T (I.pop) ?_;clear T K H;intro H;refine rd1 11 fun K T=>?_;refine cY ?_;clear I;intro J I;refine kO T (I.pop) ?_;clear T K H;intro H;refine uG 12 ?_;refine wD ?_;clear H;have hLp:=I;clear I;revert hLp;revert J;revert b6;revert hk23;revert k23;exact pm hR
  ·intro K T
   refine eA I rfl ?_;clear I;intro b6 J I;refine kO T (I.pop) ?_;clear T K H;intro H;refine rd1 6 fun K T=>?_;refine eK (HUW.out _ _ I (See.bytes I)) ?_;rintro e J⟨k23,rfl,hk23,hN⟩;refine⟨_,rfl,?_⟩;have Y:=I.keep hN;clear hN;clear I;revert Y;refine aN ?_;intro I;refine kO T (I.pop) ?_;clear T K H;intro H;refine uG 7 ?_;refine uG 8 ?_;refine uG 9 ?_;refine rd1 11 fun K T=>?_;refine cY ?_;clear I;intro J I;refine kO T (I.pop) ?_;clear T K H;intro H;refine uG 12 ?_;refine wD ?_;clear H;have hLp:=I;clear I;revert hLp;revert J;revert b6;revert hk23;revert k23;exact pm hR
 intro k23 hk23 b6 J Y;clear I;have I:=Y;clear Y;go_wp2_with (first|refine aU ?_|(refine gN 29 ?_;refine sJ (l:=l) I rfl rfl rfl ?_;rw[HSL.out];clear I;intro J I;refine p4 ?_)|((with_reducible show wpList _ _ _ (⟨none,.store 9 _ _,_,_,_,_⟩::_) _ _);refine lTg (v:= .string sl) I rfl rfl rfl rfl rfl rfl fun J I=>?_;refine p4 ?_)|((with_reducible show wpList _ _ _ (⟨none,.store 4 _ _,_,_,_,_⟩::_) _ _);rw[show(k23==0)=b from hk23];refine lTb I rfl rfl rfl rfl rfl fun J I=>?_;refine p4 ?_)|refine ab fun J I=>?_);refine mX (S:=fun Z=>Loc _ Z _) 10 (Loc.rem b4 (I.drew)) ?_;intro H;replace I:=I.drew;refine uG 0 ?_;refine uG 4 ?_;refine uG 1 ?_;refine uG 5 ?_;refine uG 2 ?_;refine uG 6 ?_;refine uZ 3 ?_;refine uZ 7 ?_;refine rd1 8 fun K T=>?_;refine cY fun J I=>?_;refine kO T (Loc.rem b4 (I)) ?_;clear T K H;intro H;refine uG 9 ?_;refine wD ?_;clear H;go_wp2_with (refine ϛ fun J I=>?_);exact Ϣ (ao rfl I rfl rfl) rfl ⟨rfl,Loc.rem b3 (Loc.rem b4 (Loc.rem b6 I))⟩
theorem sk{K:Φ}{b:Bool}[hP:Sz P 5120][hR:Sz R 32](hv:∀x,See D (G x) (.slice p 80 c) (ak l))(I:Loc D w (G (moR fr fs s q left P (-1) R (bn l) (aa 32 K) (.bool b)))) :
 ϓ 103 #[aT mo,.agg (mfR ν ζ ρ p 80 c id κ cs sg)] w fun e Z=>e= .returned (.tuple #[.agg (aa 32 K),.bool b])∧Loc D Z (G (moR fr fs s q left P (-1) R (bn l) (aa 32 K) (.bool b))):=by
 have hq:((bn l).toList==(bn l).toList)=true:=by rw[iL];exact Xw rfl
 obtain⟨sl,hsl⟩:∃sl,bn l=sl:=⟨_,rfl⟩;rw[hsl]at hq I ⊢;have HSL:=Hd hsl;clear hsl;go_enter func103,ntmps103;go_wp2_with (first|refine aU ?_|refine gBp 3 fun b3 J I=>?_|refine gBp 4 fun b4 J I=>?_|refine ab fun J I=>?_);refine Ϭ 8 I fun H I=>?_;refine uG 0 ?_;refine uG 4 ?_;refine uG 1 ?_;refine uZ 5 ?_;refine uG 2 ?_
 first|refine tk 6 rfl (tc ϕ rfl rfl (fun J h=>See.bytes h (l:=l))) H ?_
 refine p7 ?_;refine uZ 3 ?_;refine uG 7 ?_;refine wD ?_;clear H;simp only[HSL.out,hq,Bool.not_true];go_wp2_with (refine ϛ fun J I=>?_);refine mX (S:=fun Z=>Loc _ Z _) 10 (Loc.rem b4 (I.drew)) ?_;intro H;replace I:=I.drew;refine uG 0 ?_;refine uG 4 ?_;refine uG 1 ?_;refine uG 5 ?_;refine uG 2 ?_;refine uG 6 ?_;refine uZ 3 ?_;refine uZ 7 ?_;refine rd1 8 fun K T=>?_;refine cY fun J I=>?_;refine kO T (Loc.rem b4 (I)) fun H=>?_;refine uG 9 ?_;refine wD ?_;clear H;go_wp2_with (refine ϛ fun J I=>?_);exact Ϣ (ao rfl I rfl rfl) rfl ⟨rfl,Loc.rem b3 (Loc.rem b4 I)⟩
theorem yQ(h0:1≤left)(h1:left≤100)(I:Loc D w (G (moR fr fs s q left P (-1) R wr L u))) :
 ϓ 106 #[aT mo] w fun e Z=>e= .returned (.bool true)∧Loc D Z (G (moR fr fs s q (left-1) P (-1) R wr L u)):=by
 have q1:¬left=0:=Ω;go_enter func106,ntmps106;go_wp2_with (refine ϛ fun J I=>?_);go_ret;exact⟨rfl,I⟩
theorem D0(I:Loc D w (G (moR fr fs Sta.new Sq.none left P (-1) R wr L u))) :
 ϓ 108 #[aT mo,.int .i64 0] w fun e Z=>e= .returned (.tuple #[.agg mfZ,.bool false])∧Loc D Z (G (moR fr fs Sta.new Sq.none left P (-1) R wr L u)):=by
 haveI hm:Cell (moR fr fs Sta.new Sq.none left P (-1) R wr L u) 66 (.slice none 0 0):=NP _ _ _ _ _ _ _ _ _ _ _;generalize moR fr fs Sta.new Sq.none left P (-1) R wr L u=X at *
 go_enter func108,ntmps108;go_wp2_with (first|refine aU ?_|refine gBp 4 fun b4 J I=>?_|refine gBp 6 fun b6 J I=>?_|(refine gN 17 ?_;refine lV (tg _) I fun J I=>?_)|refine ab fun J I=>?_);exact Ϣ (ao rfl I rfl rfl) rfl ⟨rfl,Loc.rem b4 (Loc.rem b6 I)⟩
theorem Hk{b:Δ}{p0:ϊ}{c0:Nat}(hl:b.length=300)(hb:gU b=true)(hc:300≤c0)(hv:∀x,See D (G x) (.slice p0 300 c0) (ak b))(I:Loc D w (G (moR fr fs s q left P (-1) R wr L u)))(hm:Cell (moR fr fs s q left P (-1) R wr L u) 66 (.slice p0 300 c0)) :
 ϓ 108 #[aT mo,.int .i64 0] w fun e Z=>∃g W E,e= .returned (.tuple #[.agg (mfR (av b).ν (av b).ζ (av b).ρ (ϐ g) 80 W (av b).id (av b).κ (av b).cs (av b).sg),.bool true])∧OwnR E 80 W (ak (av b).wr)∧Loc D Z ((g,E,5)::G (moR fr fs s q left P (-1) R wr L u)):=by
 have hrd:=(fun J h=>(eh b hl p0 c0 J h hc).mono fun e Z h=>(by rw[hb]at h;exact h:∃g W E,e= .returned (.tuple #[.agg ((av b).row (ϐ g) 80 W),.int .i64 0])∧OwnR E 80 W (ak (av b).wr)∧Loc J Z [(g,E,5)]));have hrow:∀p n c,(av b).row p n c=mfR (av b).ν (av b).ζ (av b).ρ p n c (av b).id (av b).κ (av b).cs (av b).sg:=fun _ _ _=>rfl;simp only[hrow]at hrd;have HRD:=Hd hrd;clear hrd hrow hl hb hc;generalize av b=mm at *
 obtain⟨ν,ζ,ρ,wr2,id,κ,cs,sg⟩:=mm;dsimp only at *
 generalize moR fr fs s q left P (-1) R wr L u=X at *
 go_enter func108,ntmps108;go_wp2_with (first|refine aU ?_|refine gBp 4 fun b4 J I=>?_|refine gBp 6 fun b6 J I=>?_|(refine gN 17 ?_;refine lKk (HRD.out _ (See.bytes I)) ?_;rintro e J⟨g17,Y17,Z17,rfl,W17,hN⟩;refine Ϩ (I.join hN) fun I=>?_)|refine ab fun J I=>?_);exact Ϣ (ao rfl I rfl rfl) rfl ⟨g17,Y17,Z17,rfl,W17,Loc.rem b4 (Loc.rem b6 I)⟩
end
instance Wq:Ent 103:=eo func103
instance Wr:Ent 106:=eo func106
instance Ws:Ent 108:=eo func108
theorem NQ{fr fs:Φ}{s:Sta}{q:Sq}{left bt:Int}{P R L:Ψ}{wr:ByteArray}{u:ό}(hE:Ers P 5120):Seg (moR fr fs s q left P bt R wr L u) 74 80 (ak (ae 80 fun _=>255)) where
 len:=by rw[ap,ag]
 one:=bY _
 seg:=fun i hi=>by
  rw[ap,ag]at hi;have hs:(aa 32 fr++aa 32 fs++stR s q++(#[.int .i64 left]:Ψ)).size=74:=by simp[ai]
  have e:moR fr fs s q left P bt R wr L u=(aa 32 fr++aa 32 fs++stR s q ++ #[.int .i64 left])++(P++(#[.int .i64 bt]++R ++ #[.string wr]++L ++ #[u])):=by simp only[moR,Xb]
  rw[e,Array.getElem?_append_right Ω,hs,YP,Array.getElem?_append_left (by rw[hE.1];omega),hE.2 i Ω];simp[ak,ae,F6];rfl
section
variable {D w:ϑ} {G:Ψ→Mem} {mo:Nat} [hA:∀x,At (G x) mo x 64] [hU:∀x y,Ups (G x) mo y (G y)] {fr fs:Φ} {s:Sta} {q:Sq} {left:Int} {P:Ψ} {R:Ψ} {wr:ByteArray} {L:Ψ} {u:ό} {ν ζ id:Int} {ρ κ cs sg:Φ} {l:Δ} {p:ϊ} {c:Nat}
theorem Hl{K:Φ}[hR:Sz R 32](hE:Ers P 5120)(v0:0≤ν)(v1:ν≤2147483647)(hv:∀x,See D (G x) (.slice p 80 c) (ak l))(I:Loc D w (G (moR fr fs s q left P (-1) R (bn l) (aa 32 K) (.bool true)))) :
 ϓ 110 #[aT mo,.int .i64 0,.agg (mfR ν ζ ρ p 80 c id κ cs sg),.int .i64 0] w fun e Z=>∃v,e= .returned (.tuple #[v,.bool (opB K ν 0 (ae 80 fun _=>255))])∧Loc D Z (G (moR fr fs s q left P (-1) R (bn l) (aa 32 K) (.bool true))):=by
 haveI hP:Sz P 5120:=⟨hE.1⟩;haveI hsg:=NQ (fr:=fr) (fs:=fs) (s:=s) (q:=q) (left:=left) (bt:= -1) (R:=R) (wr:=bn l) (L:=aa 32 K) (u:= .bool true) hE;have HK:=Hd (fun(M:Ψ→Mem) J (q1:∀x,At (M x) mo x 64) (q2:∀x y,Ups (M x) mo y (M y)) (h3:∀x,See D (M x) (.slice p 80 c) (ak l)) h=> @sk D J M mo q1 q2 fr fs s q left P R ν ζ id ρ κ cs sg l p c K true hP hR h3 h);have him:=(fun J hv=>jb K ν 0 v0 v1 Ξ Ξ (some ⟨mo,74,none⟩) 80 (ae 80 fun _=>255) (ag _ _) Ξ J hv);generalize opB K ν 0 (ae 80 fun _=>255)=o at *
 generalize(ae 80 fun _=>(255:Γ))=raw at *
 cases o
 all_goals
  simp only[X8,ZP,ZV]at him;have HIM:=Hd him;clear him v0 v1;go_enter func110,ntmps110;go_wp2_with (first|refine aU ?_|refine gBp 6 fun b6 J I=>?_|refine gBp 10 fun b10 J I=>?_|(refine gN 17 ?_;refine lO (HK.out (fun x=>(b6,mfR ν ζ ρ p 80 c id κ cs sg,79)::G x) _ (fun _=>Ϙ) (fun _ _=>Ϙ) (fun x=>by haveI:=hv x;infer_instance) I) fun J I=>?_)|refine ab fun J I=>?_);refine Ϭ 18 I fun H I=>?_;refine uZ 0 ?_;refine uG 1 ?_;refine uG 3 ?_;refine uG 4 ?_;refine uG 5 ?_;refine uG 6 ?_;refine uZ 2 ?_;refine uG 7 ?_;refine uG 8 ?_;refine uG 9 ?_;refine uG 10 ?_;refine uG 11 ?_;refine rd1 12 fun K T=>?_;refine eK (HIM.out _ (See.bytes I (v:= .slice (some ⟨mo,74,none⟩) 80 80))) ?_;rintro e J⟨p35,n35,c35,rfl,hN⟩;refine⟨_,rfl,?_⟩;have Y:=I.keep hN;clear hN;refine Ϫ Y fun I=>?_;refine kO T (I) fun H=>?_;refine uG 13 ?_;refine uG 14 ?_;refine uG 15 ?_;refine uG 16 ?_;refine uG 17 ?_;refine wD ?_;clear H;go_wp2_with (refine ϛ fun J I=>?_);go_ret2;exact⟨_,rfl,Loc.rem b6 (Loc.rem b10 I)⟩
end
instance Wt:Ent 110:=eo func110
end
section
variable {D w:ϑ} {F:ύ} {bf bb bo bk kp a0 a1 cc:Nat} {fr fs:Φ} {p:ϊ} {c:Nat} {l:Δ}
noncomputable def sn(fs:Φ)(s:Sta)(l:Δ):Int:=if s.m0=[]then 15 else if opB (unK fs (av s.m0).wr) (av s.m0).ν 0 l then 0 else 10
theorem yR(hF:CoM F bf bb bo bk kp a0 a1 cc)(d:Dv)(ok:d.Ok)(hS:∀x y z u c,SeeS D (F x y z u c) d.s d.q)(hf:d.s.m0=[]∨Fed d.s fs)(hd:d.s.d0=false)(hac:d.s.ac= -1)(hl:l.length=80)(hc:80≤c)(hv:∀x y z u e,See D (F x y z u e) (.slice p 80 c) (ak l))(I:Loc D w (d.at F bf bb bo kp fr fs)) :
 ϓ 97 #[aT cc,.int .i64 0,.slice p 80 c] w fun e Z=>e= .returned (.int .i64 (sn fs d.s l))∧∃d',d.Wrote d'∧Loc D Z (d'.at F bf bb bo kp fr fs):=by
 have hG:=hF.g;have HSM:=Hd (Dv.same ok);by_cases hm:d.s.m0=[]
 ·have HFI:=Hd (fun J (h:Loc D J (d.at F bf bb bo kp fr fs))=>yK (w:=J) hF d ok hS hm hac h)
  unfold sn;rw[Ρ hm];clear hS hf hd hac ok hl hc hv hm;obtain⟨er,pr,y,f,n,m,pp,kn,kc,φ,s,q,bt,rg⟩:=d;dsimp only[Dv.at]at *
  go_enter func97,ntmps97;go_wp2_with (first|refine aU ?_|refine gBp 7 fun b7 J I=>?_|(refine gN 15 ?_;refine lO (HFI.out _ I) fun J I=>?_)|refine ab fun J I=>?_)
  all_goals(go_ret;exact⟨rfl,_,HSM.out,Loc.rem b7 I⟩)
 ·have hf':Fed d.s fs:=hf.resolve_left hm
  have hok:=mz hf'.l hf'.b;have HFI:=Hd (fun J (h:Loc D J (d.at F bf bb bo kp fr fs))=>AO (w:=J) hF d ok hS hf' hd hac h);have him:=(fun J hv=>oV (unK fs (av d.s.m0).wr) (av d.s.m0).ν 0 hok.v0 hok.v1 Ξ Ξ p c l hl hc J hv);have hop:=(fun(b g:Nat) (r E:Ψ) (J:ϑ) (p:ϊ) (n c:Nat) (h:Loc D J ((b,r,241)::(g,E,5)::d.at F bf bb bo kp fr fs))=>AP (F:=fun x y z u c=>(b,r,241)::(g,E,5)::F x y z u c) (bf:=bf) (bb:=bb) (bo:=bo) (bk:=bk) (kp:=kp) (a0:=a0) (a1:=a1) (cc:=cc) (fr:=fr) (fs:=fs) (cG _ (cG _ hF)) d ok (ν:=(av d.s.m0).ν) (ζ:=(av d.s.m0).ζ) (id:=(av d.s.m0).id) (ρ:=(av d.s.m0).ρ) (κ:=(av d.s.m0).κ) (cs:=(av d.s.m0).cs) (sg:=(av d.s.m0).sg) (K:=unK fs (av d.s.m0).wr) (p:=p) (n:=n) (c:=c) hok.v0 hok.v1 h);have HWR:=Hd (fun(b g:Nat) (r E:Ψ) (J:ϑ) (h:Loc D J ((b,r,241)::(g,E,5)::d.at F bf bb bo kp fr fs))=>AN (p:=p) (c:=c) (l:=l) (F:=fun x y z u c=>(b,r,241)::(g,E,5)::F x y z u c) (bf:=bf) (bb:=bb) (bo:=bo) (bk:=bk) (kp:=kp) (a0:=a0) (a1:=a1) (cc:=cc) (fr:=fr) (fs:=fs) (cG _ (cG _ hF)) d ok hl hc (fun x y z u e=>by haveI:=hv x y z u e;infer_instance) h);have q1:¬(av d.s.m0).ζ≤0:=by have:=hok.b0;omega
  unfold sn;rw[Χ hm];have HV:=Hd hv;clear hS hf hf' hd hac ok hl hc hv hm hok;generalize opB (unK fs (av d.s.m0).wr) (av d.s.m0).ν 0 l=o1 at *
  generalize opB (unK fs (av d.s.m0).wr) (av d.s.m0).ν 0 d.raw=o2 at *
  generalize unK fs (av d.s.m0).wr=K at *
  generalize av d.s.m0=mm at *
  obtain⟨ν,ζ,ρ,wr,id,κ,cs,sg⟩:=mm;dsimp only at *
  have HIM:=Hd him;have HOP:=Hd hop;clear him hop;obtain⟨er,pr,y,f,n,m,pp,kn,kc,φ,s,q,bt,rg⟩:=d;dsimp only[Dv.at]at HFI HOP HWR I ⊢;cases o1
  ·simp only[X8,ZP]at HIM ⊢
   go_enter func97,ntmps97;go_wp2_with (first|refine aU ?_|refine gBp 7 fun b7 J I=>?_|(refine gN 15 ?_;refine lKk (HFI.out _ I) ?_;rintro e J⟨g15,Y15,Z15,rfl,Y⟩;refine Ϥ Y fun I=>?_)|(refine gN 39 ?_;refine lKk (HIM.out _ ((HV.out _ _ _ _ _).see _ I.pop.pop).brow) ?_;rintro e J⟨v39,rfl,V⟩;have Y:=I.keep V;refine Ϥ Y fun I=>?_)|refine ab fun J I=>?_)
   all_goals(go_ret;exact⟨rfl,_,HSM.out,Loc.rem b7 (Loc.rem g15 I)⟩)
  ·simp only[ZV]at HIM ⊢
   cases o2
   all_goals
    go_enter func97,ntmps97;go_wp2_with (first|refine aU ?_|refine gBp 7 fun b7 J I=>?_|(refine gN 15 ?_;refine lKk (HFI.out _ I) ?_;rintro e J⟨g15,Y15,Z15,rfl,Y⟩;refine Ϥ Y fun I=>?_)|(refine gN 39 ?_;refine lKk (HIM.out _ ((HV.out _ _ _ _ _).see _ I.pop.pop).brow) ?_;rintro e J⟨v39,rfl,V⟩;have Y:=I.keep V;refine Ϥ Y fun I=>?_)|(refine gN 53 ?_;refine lKk (HOP.out _ _ _ _ _ _ _ _ I) ?_;rintro e J⟨v53,rfl,Y⟩;refine Ϥ Y fun I=>?_)|refine ab fun J I=>?_)
   ·skip
    refine mX (S:=(fun Z=>∃d:Dv,Loc D Z ((b7,hrR ν ζ ρ (ϐ g15) 80 Y15 id κ cs sg K true,241)::(g15,Z15,5)::d.at F bf bb bo kp fr fs))) 10 (by first|exact⟨⟨er,pr,y,f,n,m,pp,kn,kc,φ,s,q,bt,rg⟩,I.drew⟩|exact⟨d65,I.drew⟩) ?_;intro H;replace I:=I.drew;refine uG 0 ?_;refine uG 4 ?_;refine uG 6 ?_;refine uG 7 ?_;refine uG 1 ?_;refine uZ 5 ?_;refine uG 2 ?_;refine uZ 3 ?_;refine rd1 8 fun K T=>?_;refine IW rfl rfl ((HWR.out _ _ _ _ _ I).mono ?_) (by first|rfl|(simp only[List.map_cons,List.map_nil];rfl));rintro e J⟨rfl,d65,hW65,Y⟩;refine⟨_,rfl,?_⟩;refine Ϫ Y fun I=>?_;refine kO T (by first|exact⟨⟨er,pr,y,f,n,m,pp,kn,kc,φ,s,q,bt,rg⟩,I⟩|exact⟨d65,I⟩) fun H=>?_;refine uG 9 ?_;refine wD ?_;clear H;go_wp2_with (refine ϛ fun J I=>?_)
    all_goals(go_ret;exact⟨rfl,d65,hW65,Loc.rem b7 (Loc.rem g15 I)⟩)
   ·all_goals(go_ret;exact⟨rfl,_,HSM.out,Loc.rem b7 (Loc.rem g15 I)⟩)
instance Wu:Ent 97:=eo func97
end
section
variable {D w:ϑ} {M:Mem} {cc:Nat} {p:ϊ} {n c:Nat} {N:Int}
theorem AU(R:Int→Mem→Prop)(hf:∀b J,Loc D J ((b,mvR 2 p n c N,47)::M)→ϓ 97 #[aT cc,.int .i64 N,.slice p n c] J fun e Z=>∃v M',e= .returned (.int .i64 v)∧R v M'∧Loc D Z ((b,mvR 2 p n c N,47)::M'))(I:Loc D w M):ϓ 52 #[aT cc,.agg (mvR 2 p n c N)] w fun e Z=>∃v M',e= .returned (.tuple #[.slice none 0 0,.int .i64 v])∧R v M'∧Loc D Z M':=by
 have HF:=Hd hf;have HM:=Hd (fun J=>K6 p n c N J);clear hf;have ht0:=sV;have ht:=Gr;go_enter func52,ntmps52;go_wp2_with (first|refine aU ?_|refine gBp 3 fun b3 J I=>?_|refine gBp 7 fun b7 J I=>?_|(refine gN 14 ?_;refine lV (HM.out _) I fun J I=>?_)|(refine gN 29 ?_;refine lKk (HF.out _ _ I.pop) ?_;rintro e J⟨v,M',rfl,hRv,Y⟩;refine Ϥ Y fun I=>?_)|refine ab fun J I=>?_)
 all_goals(go_ret2;exact⟨v,M',rfl,hRv,Loc.rem b3 I⟩)
end

section
variable {D w:ϑ} {F:ύ} {bf bb bo bk kp a0 a1 cc:Nat} {fr fs:Φ}
theorem v9(hF:CoM F bf bb bo bk kp a0 a1 cc)(d:Dv)(l:Δ)(hl:l.length=300)(hb:gU l=false){p:ϊ}{c:Nat}(hv:∀x y z u e,See D (F x y z u e) (.slice p 300 c) (ak l))(I:Loc D w (d.at F bf bb bo kp fr fs)) :
 ϓ 96 #[aT cc,.slice p 300 c] w fun e Z=>e= .returned (.int .i64 4)∧Loc D Z (d.at F bf bb bo kp fr fs):=by
 have hG:=hF.g;have hH:=hF.h;have HRD:=Hd (fun J h=>(mt l hl (.slice p 300 c) J h).mono fun e Z h=>(by rw[hb]at h;exact h:e= .returned (.tuple #[.agg mfZ,.int .i64 4])∧Υ J Z));clear hb hl;obtain⟨er,pr,y,f,nn,mm,kpp,kn,kc,φ,s,q,bt,rg⟩:=d;dsimp only[Dv.at]at I ⊢;go_enter func96,ntmps96;go_wp2_with (first|refine aU ?_|refine gBp 5 fun b5 J I=>?_|(refine gN 12 ?_;refine lV (HRD.out _ (See.bytes I)) I fun J I=>?_)|refine ab fun J I=>?_)
 all_goals(go_ret;exact⟨rfl,Loc.rem b5 I⟩)
theorem AV(hF:CoM F bf bb bo bk kp a0 a1 cc)(d:Dv)(ok:d.Ok)(hS:∀x y z u c,SeeS D (F x y z u c) d.s d.q)(m:Man)(hm:m.Ok)(hid:decide (m.id∈d.s.rv)=false)(hfl:d.s.fl≤m.ν)(hgd:m.good fr=true)(hun:unB fs m.wr=false){p:ϊ}{c:Nat}(hv:∀x y z u e,See D (F x y z u e) (.slice p 300 c) (ak m.bytes))(I:Loc D w (d.at F bf bb bo kp fr fs)) :
 ϓ 96 #[aT cc,.slice p 300 c] w fun e Z=>e= .returned (.int .i64 21)∧Loc D Z (d.at F bf bb bo kp fr fs):=by
 have hG:=hF.g;have hH:=hF.h;have HRD:=Hd (fun J h=>mu m hm (.slice p 300 c) J h);have hck:=(fun J p c hv=>kv m hm fr p c J hv);rw[hgd]at hck;have HUW:=Hd (fun J pa ca hc (hv:BRow J (.slice pa 80 ca) m.wr)=>DQ fs pa ca m.wr J hv hm.w hc hun);have HRV:=Hd (fun(b8 b5 g:Nat) (r8 r5 E:Ψ) J (h:Loc D J ((b5,r5,79)::(g,E,5)::d.at F bf bb bo kp fr fs))=>by
  have:=ku (F:=fun x y z u c=>(b5,r5,79)::(g,E,5)::F x y z u c) (bf:=bf) (bb:=bb) (bo:=bo) (bk:=bk) (kp:=kp) (a0:=a0) (a1:=a1) (cc:=cc) (fr:=fr) (fs:=fs) (cG _ (cG _ hF)) d ok m.id (fun x y z u c=>by haveI:=hS x y z u c;infer_instance) h;rw[hid]at this;exact this)
 obtain⟨ml,hml⟩:∃ml,ml=m.bytes:=⟨_,rfl⟩;rw[← hml]at HRD hv;have hrow:∀p c,m.row p 80 c=mfR m.ν m.ζ m.ρ p 80 c m.id m.κ m.cs m.sg:=fun _ _=>rfl;simp only[hrow]at HRD hck;have HCK:=Hd hck;have q1:¬m.ν<d.s.fl:=Ω;clear hrow hml hgd hm hck hS hid hfl ok hun;obtain⟨ν,ζ,ρ,wr,id,κ,cs,sg⟩:=m;dsimp only at *
 obtain⟨er,pr,y,f,nn,mm,kpp,kn,kc,φ,s,q,bt,rg⟩:=d;dsimp only[Dv.at]at HRV I q1 ⊢;go_enter func96,ntmps96;go_wp2_with (first|refine aU ?_|refine gBp 5 fun b5 J I=>?_|(refine gN 12 ?_;refine lKk (HRD.out _ (See.bytes I)) ?_;rintro e J⟨g12,Y12,Z12,rfl,W12,hN⟩;refine Ϩ (I.join hN) fun I=>?_)|refine ab fun J I=>?_);refine Ϭ 7 I fun H I=>?_;refine uG 0 ?_;refine uZ 4 ?_;refine uG 1 ?_;refine uG 2 ?_;refine uZ 3 ?_;refine rd1 5 fun K T=>?_;refine eVv (HCK.out _ _ _ (See.bytes I)) I fun J I=>?_;refine kO T (I) ?_;clear T K H;intro H;refine uG 6 ?_;refine wD ?_;clear H;go_wp2_with (first|refine aU ?_|(refine gN 32 ?_;refine lO (HRV.out 0 _ _ #[] _ _ _ I) fun J I=>?_)|refine ab fun J I=>?_);refine Ϭ 9 I fun H I=>?_;refine uG 0 ?_;refine uG 2 ?_;refine uZ 1 ?_;refine uG 3 ?_;refine uG 4 ?_;refine uG 5 ?_;refine uZ 6 ?_;refine uG 7 ?_;refine uG 8 ?_;refine wD ?_;clear H;go_wp2_with (refine ϛ fun J I=>?_);refine eQ (R:=?R) (fun hR=>?h1) ?h2;case h1 =>
  refine mX (S:=(fun Z=>Loc D Z ((b5,mfR ν ζ ρ (ϐ g12) 80 Y12 id κ cs sg,79)::(g12,Z12,5)::F (flR bb er pr) y (otR bf fr fs nn mm) (bkR bf bo kpp kn kc φ) (coR kp fr fs s q bt rg)))) 13 ϒ ?_;intro H;replace I:=I.drew;refine uG 0 ?_;refine uG 4 ?_;refine uG 1 ?_;refine uZ 5 ?_;refine uG 2 ?_;refine uZ 3 ?_;refine rd2 6 10 ?_ ?_
  ·intro K T
   refine eK (HUW.out _ _ _ W12.le (See.bytes I)) ?_;rintro e J⟨k49,rfl,hk49,hN⟩;refine⟨_,rfl,?_⟩;have Y:=I.keep hN;clear hN;clear I;revert Y;refine aN ?_;intro I;refine kO T ϒ ?_;clear T K H;intro H;refine uG 7 ?_;refine uG 8 ?_;refine uG 9 ?_;refine rd1 10 fun K T=>?_;refine eA I rfl ?_;clear I;intro b8 J I;refine kO T ϒ ?_;clear T K H;intro H;refine rd1 11 fun K T=>?_;refine cY ?_;clear I;intro J I;refine kO T ϒ ?_;clear T K H;intro H;refine uG 12 ?_;refine wD ?_;clear H;have hLp:=I;clear I;revert hLp;revert J;revert b8;revert hk49;revert k49;exact pm hR
  ·intro K T
   refine eA I rfl ?_;clear I;intro b8 J I;refine kO T ϒ ?_;clear T K H;intro H;refine rd1 6 fun K T=>?_;refine eK (HUW.out _ _ _ W12.le (See.bytes I)) ?_;rintro e J⟨k49,rfl,hk49,hN⟩;refine⟨_,rfl,?_⟩;have Y:=I.keep hN;clear hN;clear I;revert Y;refine aN ?_;intro I;refine kO T ϒ ?_;clear T K H;intro H;refine uG 7 ?_;refine uG 8 ?_;refine uG 9 ?_;refine rd1 11 fun K T=>?_;refine cY ?_;clear I;intro J I;refine kO T ϒ ?_;clear T K H;intro H;refine uG 12 ?_;refine wD ?_;clear H;have hLp:=I;clear I;revert hLp;revert J;revert b8;revert hk49;revert k49;exact pm hR
 intro k49 hk49 b8 J Y;clear I;have I:=Y;clear Y;go_wp2_with (refine ϛ fun J I=>?_)
 all_goals(go_ret;exact⟨rfl,Loc.rem g12 (Loc.rem b5 I.pop)⟩)
theorem yS(hF:CoM F bf bb bo bk kp a0 a1 cc)(d:Dv)(l:Δ)(hl:l.length=76)(hno:spB l=true→dQ fr (spI l) (spF l)=false){p:ϊ}{c:Nat}(hv:∀x y z u e,See D (F x y z u e) (.slice p 76 c) (ak l))(I:Loc D w (d.at F bf bb bo kp fr fs)) :
 ϓ 101 #[aT cc,.slice p 76 c] w fun e Z=>e= .returned (.int .i64 (if spB l then 11 else 4))∧Loc D Z (d.at F bf bb bo kp fr fs):=by
 have hG:=hF.g;have hH:=hF.h;cases hb:spB l
 ·have HRS:=Hd (fun J (h:BRow J (.slice p 76 c) l)=>yO l hl hb _ J h)
  clear hno hl hb;obtain⟨er,pr,y,f,nn,m,kpp,kn,kc,φ,s,q,bt,rg⟩:=d;dsimp only[Dv.at]at I ⊢;go_enter func101,ntmps101;go_wp2_with (first|refine aU ?_|refine gBp 5 fun b5 J I=>?_|(refine gN 10 ?_;refine lV (HRS.out _ (See.bytes I)) I fun J I=>?_)|refine ab fun J I=>?_)
  all_goals(go_ret;exact⟨rfl,Loc.rem b5 I⟩)
 ·have hok:=hno hb
  have hmay:=((Xs _ _).mp hb).2;have hi:=XC hmay;have HRS:=Hd (fun J (h:BRow J (.slice p 76 c) l)=>m8 (spI l) (spF l) (.slice p 76 c) J hi.1 hi.2 (by rw[si hl hb];exact h));have HCK:=Hd (fun J=>by have:=lh fr (spI l) (spF l) J hmay;rw[hok]at this;exact this);clear hno hl hb hok hmay hi;generalize spI l=id at *
  generalize spF l=fg at *
  obtain⟨er,pr,y,f,nn,m,kpp,kn,kc,φ,s,q,bt,rg⟩:=d;dsimp only[Dv.at]at I ⊢;go_enter func101,ntmps101;go_wp2_with (first|refine aU ?_|refine gBp 5 fun b5 J I=>?_|(refine gN 10 ?_;refine lV (HRS.out _ (See.bytes I)) I fun J I=>?_)|refine ab fun J I=>?_);refine Ϭ 8 I fun H I=>?_;refine uG 0 ?_;refine uZ 4 ?_;refine uG 1 ?_;refine uG 2 ?_;refine uZ 3 ?_;refine rd1 5 fun K T=>?_;refine eVv (HCK.out _) I fun J I=>?_;refine kO T (I) fun H=>?_;refine uG 6 ?_;refine uG 7 ?_;refine wD ?_;clear H;go_wp2_with (refine ϛ fun J I=>?_)
  all_goals(go_ret;exact⟨rfl,Loc.rem b5 I⟩)
end
section
variable {D w:ϑ} {F:ύ} {bf bb bo bk kp a0 a1 cc dd:Nat} {fr fs:Φ} {p:ϊ} {n c:Nat} {N:Int}
theorem Hm(hF:CoM F bf bb bo bk kp a0 a1 cc)(hD:∀x y z u c,At (F x y z u c) dd (dvR bf cc) 126)(d:Dv)(v:Int)(h8:¬v=8)(R:Mem→Dv→Prop)(hc:∀b b' J,Loc D J ((b',mvR 1 p n c N,47)::(b,mvR 1 p n c N,47)::d.at F bf bb bo kp fr fs)→ϓ 96 #[aT cc,.slice p n c] J fun e Z=>e= .returned (.int .i64 v)∧∃S d',R S d'∧Loc D Z ((b',mvR 1 p n c N,47)::(b,mvR 1 p n c N,47)::(S++d'.at F bf bb bo kp fr fs)))(I:Loc D w (d.at F bf bb bo kp fr fs)) :
 ϓ 18 #[aT dd,.agg (mvR 1 p n c N)] w fun e Z=>e= .returned (.tuple #[.slice none 0 0,.int .i64 v])∧∃S d',R S d'∧Loc D Z (S++d'.at F bf bb bo kp fr fs):=by
 have hA:=hF.a;refine(BW (bb:=bb) (er:=d.er) (pr:=d.pr) (hA _ _ _ _ _) (hD _ _ _ _ _) (fun o v' M'=>o= .slice none 0 0∧v'=v∧∃S d',R S d'∧M'=S++d'.at F bf bb bo kp fr fs) ?_ (fun b J h1=>?_) I).mono ?_
 ·rintro o v' M'⟨h1,rfl,S,d',_,rfl⟩
  exact⟨h8,XR _ (hD _ _ _ _ _).mem⟩
 ·refine(tP (fun v' M'=>v'=v∧∃S d',R S d'∧M'=(b,mvR 1 p n c N,47)::(S++d'.at F bf bb bo kp fr fs)) (fun b' w2 h2=>(hc b b' w2 h2).mono ?_) h1).mono ?_
  ·rintro e Z⟨e1,S,d',h3,h4⟩
   exact⟨v,_,e1,⟨rfl,S,d',h3,rfl⟩,h4⟩
  ·rintro e Z⟨v',M',e1,⟨rfl,S,d',h3,rfl⟩,h4⟩
   exact⟨none,0,0,v',_,e1,⟨rfl,rfl,S,d',h3,rfl⟩,h4⟩
 ·rintro e Z⟨po,no,co,v',M',e1,⟨h1,rfl,S,d',h3,rfl⟩,h4⟩
  rw[h1]at e1;exact⟨e1,S,d',h3,h4⟩
theorem AW(hF:CoM F bf bb bo bk kp a0 a1 cc)(hD:∀x y z u c,At (F x y z u c) dd (dvR bf cc) 126)(d:Dv)(v:Int)(h8:¬v=8)(R:Mem→Dv→Prop)(hc:∀b b' J,Loc D J ((b',mvR 6 p n c N,47)::(b,mvR 6 p n c N,47)::d.at F bf bb bo kp fr fs)→ϓ 101 #[aT cc,.slice p n c] J fun e Z=>e= .returned (.int .i64 v)∧∃S d',R S d'∧Loc D Z ((b',mvR 6 p n c N,47)::(b,mvR 6 p n c N,47)::(S++d'.at F bf bb bo kp fr fs)))(I:Loc D w (d.at F bf bb bo kp fr fs)) :
 ϓ 18 #[aT dd,.agg (mvR 6 p n c N)] w fun e Z=>e= .returned (.tuple #[.slice none 0 0,.int .i64 v])∧∃S d',R S d'∧Loc D Z (S++d'.at F bf bb bo kp fr fs):=by
 have hA:=hF.a;refine(BW (bb:=bb) (er:=d.er) (pr:=d.pr) (hA _ _ _ _ _) (hD _ _ _ _ _) (fun o v' M'=>o= .slice none 0 0∧v'=v∧∃S d',R S d'∧M'=S++d'.at F bf bb bo kp fr fs) ?_ (fun b J h1=>?_) I).mono ?_
 ·rintro o v' M'⟨h1,rfl,S,d',_,rfl⟩
  exact⟨h8,XR _ (hD _ _ _ _ _).mem⟩
 ·refine(xS (fun v' M'=>v'=v∧∃S d',R S d'∧M'=(b,mvR 6 p n c N,47)::(S++d'.at F bf bb bo kp fr fs)) (fun b' w2 h2=>(hc b b' w2 h2).mono ?_) h1).mono ?_
  ·rintro e Z⟨e1,S,d',h3,h4⟩
   exact⟨v,_,e1,⟨rfl,S,d',h3,rfl⟩,h4⟩
  ·rintro e Z⟨v',M',e1,⟨rfl,S,d',h3,rfl⟩,h4⟩
   exact⟨none,0,0,v',_,e1,⟨rfl,rfl,S,d',h3,rfl⟩,h4⟩
 ·rintro e Z⟨po,no,co,v',M',e1,⟨h1,rfl,S,d',h3,rfl⟩,h4⟩
  rw[h1]at e1;exact⟨e1,S,d',h3,h4⟩
theorem D1(hF:CoM F bf bb bo bk kp a0 a1 cc)(hD:∀x y z u c,At (F x y z u c) dd (dvR bf cc) 126)(d:Dv)(v:Int)(h8:¬v=8)(R:Mem→Dv→Prop)(hc:∀b b' J,Loc D J ((b',mvR 2 p n c N,47)::(b,mvR 2 p n c N,47)::d.at F bf bb bo kp fr fs)→ϓ 97 #[aT cc,.int .i64 N,.slice p n c] J fun e Z=>e= .returned (.int .i64 v)∧∃S d',R S d'∧Loc D Z ((b',mvR 2 p n c N,47)::(b,mvR 2 p n c N,47)::(S++d'.at F bf bb bo kp fr fs)))(I:Loc D w (d.at F bf bb bo kp fr fs)) :
 ϓ 18 #[aT dd,.agg (mvR 2 p n c N)] w fun e Z=>e= .returned (.tuple #[.slice none 0 0,.int .i64 v])∧∃S d',R S d'∧Loc D Z (S++d'.at F bf bb bo kp fr fs):=by
 have hA:=hF.a;refine(BW (bb:=bb) (er:=d.er) (pr:=d.pr) (hA _ _ _ _ _) (hD _ _ _ _ _) (fun o v' M'=>o= .slice none 0 0∧v'=v∧∃S d',R S d'∧M'=S++d'.at F bf bb bo kp fr fs) ?_ (fun b J h1=>?_) I).mono ?_
 ·rintro o v' M'⟨h1,rfl,S,d',_,rfl⟩
  exact⟨h8,XR _ (hD _ _ _ _ _).mem⟩
 ·refine(AU (fun v' M'=>v'=v∧∃S d',R S d'∧M'=(b,mvR 2 p n c N,47)::(S++d'.at F bf bb bo kp fr fs)) (fun b' w2 h2=>(hc b b' w2 h2).mono ?_) h1).mono ?_
  ·rintro e Z⟨e1,S,d',h3,h4⟩
   exact⟨v,_,e1,⟨rfl,S,d',h3,rfl⟩,h4⟩
  ·rintro e Z⟨v',M',e1,⟨rfl,S,d',h3,rfl⟩,h4⟩
   exact⟨none,0,0,v',_,e1,⟨rfl,rfl,S,d',h3,rfl⟩,h4⟩
 ·rintro e Z⟨po,no,co,v',M',e1,⟨h1,rfl,S,d',h3,rfl⟩,h4⟩
  rw[h1]at e1;exact⟨e1,S,d',h3,h4⟩
end
structure DS(j:Int)(s:Sta)(S:Mem)(d:Dv):Prop where
 ok:d.Ok
 n:d.n≤j
 m:d.m=100
 bt:d.bt= -1
 s:d.s=s
 hold:∃Sr S0 S1,S=S1++(S0++Sr)∧HoldQ Sr S0 S1 d.s d.q
theorem DS.sees{j:Int}{s:Sta}{S:Mem}{d:Dv}(h:DS j s S d)(D:ϑ)(M:Mem):SeeS D (S++M) d.s d.q:=by
 obtain⟨Sr,S0,S1,rfl,hq⟩:=h.hold;have:=hq.sees D M;simpa only[Xc] using this
noncomputable def dJ(fr fs:Φ)(l:Δ):Int:=if gU l then(if(av l).good fr then(if unB fs (av l).wr then 0 else 21)else 11)else 4
noncomputable def eI(fr fs:Φ)(l:Δ):Sta:=if dJ fr fs l=0 then Sta.new.fed l else Sta.new
theorem ul{fr fs:Φ}{l:Δ}(h:dJ fr fs l=0):gU l=true∧(av l).good fr=true∧unB fs (av l).wr=true:=by
 unfold dJ at h;cases h1:gU l <;> cases h2:(av l).good fr <;> cases h3:unB fs (av l).wr <;> simp[h1,h2,h3]at h ⊢
noncomputable def jL(fr:Φ)(l:Δ):Int:=if spB l then(if dQ fr (spI l) (spF l)then 0 else 11)else 4
noncomputable def yT(fr:Φ)(l:Δ)(s:Sta):Sta:=if jL fr l=0 then s.add (spI l)else s
section
variable {D w:ϑ} {F:ύ} {bf bb bo bk kp a0 a1 cc dd:Nat} {fr fs:Φ} {p:ϊ} {c:Nat} {N:Int}
theorem Cj(S1 S0 Sr M:Mem)(a b:Nat×Ψ×ϋ):List.Perm (S1++(S0++(Sr++(a::b::M)))) (a::b::((S1++(S0++Sr))++M)):=by
 have:=Jq S1 S0 Sr M a b;simpa only[Xc] using this
theorem Hn(hF:CoM F bf bb bo bk kp a0 a1 cc)(hD:∀x y z u c,At (F x y z u c) dd (dvR bf cc) 126)(d:Dv)(hd:DS 1 Sta.new [] d)(l:Δ)(hl:l.length=300)(hv:∀x y z u e,See D (F x y z u e) (.slice p 300 c) (ak l))(I:Loc D w (d.at F bf bb bo kp fr fs)) :
 ϓ 18 #[aT dd,.agg (mvR 1 p 300 c N)] w fun e Z=>e= .returned (.tuple #[.slice none 0 0,.int .i64 (dJ fr fs l)])∧∃S d',DS 2 (eI fr fs l) S d'∧Loc D Z (S++d'.at F bf bb bo kp fr fs):=by
 have hsee:∀x y z u c,SeeS D (F x y z u c) d.s d.q:=fun x y z u c=>hd.sees D (F x y z u c);have hsm:¬dJ fr fs l=0→∃S d',DS 2 (eI fr fs l) S d'∧S=[]∧d'=d:=fun h=>⟨[],d,⟨hd.ok,by have:=hd.n;omega,hd.m,hd.bt,by unfold eI;rw[Χ h];exact hd.s,hd.hold⟩,rfl,rfl⟩;refine Hm hF hD d (dJ fr fs l) (by unfold dJ;split <;> (try split) <;> (try split) <;> decide) (DS 2 (eI fr fs l)) (fun b b' J h1=>?_) I;have hF2:=cG (b',mvR 1 p 300 c N,47) (cG (b,mvR 1 p 300 c N,47) hF);have hv2:∀x y z u e,See D ((b',mvR 1 p 300 c N,47)::(b,mvR 1 p 300 c N,47)::F x y z u e) (.slice p 300 c) (ak l):=fun x y z u e=>by haveI:=hv x y z u e;infer_instance
 have hs2:∀x y z u e,SeeS D ((b',mvR 1 p 300 c N,47)::(b,mvR 1 p 300 c N,47)::F x y z u e) d.s d.q:=fun x y z u e=>by haveI:=hsee x y z u e;infer_instance
 cases hb:gU l
 ·have hc:dJ fr fs l=4:=by unfold dJ;rw[hb];rfl
  obtain⟨S,d',h2,rfl,rfl⟩:=hsm (by rw[hc];decide);rw[hc];exact(v9 (F:=fun x y z u e=>(b',mvR 1 p 300 c N,47)::(b,mvR 1 p 300 c N,47)::F x y z u e) hF2 d' l hl hb hv2 h1).mono fun e Z h=>⟨h.1,[],d',h2,h.2⟩
 ·have hm:=mz hl hb
  have hby:=DZ hl hb;rw[← hby]at hv2;cases hg:(av l).good fr
  ·have hc:dJ fr fs l=11:=by unfold dJ;rw[hb,hg];rfl
   obtain⟨S,d',h2,rfl,rfl⟩:=hsm (by rw[hc];decide);rw[hc];exact(AL (F:=fun x y z u e=>(b',mvR 1 p 300 c N,47)::(b,mvR 1 p 300 c N,47)::F x y z u e) hF2 d' (av l) hm hg hv2 h1).mono fun e Z h=>⟨h.1,[],d',h2,h.2⟩
  ·have hid:decide ((av l).id∈d.s.rv)=false:=by rw[hd.s];rfl
   have hfl:d.s.fl≤(av l).ν:=by rw[hd.s];exact hm.v0
   have hac:d.s.ac= -1:=by rw[hd.s];rfl
   cases hu:unB fs (av l).wr
   ·have hc:dJ fr fs l=21:=by unfold dJ;rw[hb,hg,hu];rfl
    obtain⟨S,d',h2,rfl,rfl⟩:=hsm (by rw[hc];decide);rw[hc];exact(AV (F:=fun x y z u e=>(b',mvR 1 p 300 c N,47)::(b,mvR 1 p 300 c N,47)::F x y z u e) hF2 d' hd.ok hs2 (av l) hm hid hfl hg hu hv2 h1).mono fun e Z h=>⟨h.1,[],d',h2,h.2⟩
   ·have hc:dJ fr fs l=0:=by unfold dJ;rw[hb,hg,hu];rfl
    have hst:eI fr fs l=Sta.new.fed l:=by unfold eI;rw[Ρ hc]
    rw[hc,hst];refine(yH (F:=fun x y z u e=>(b',mvR 1 p 300 c N,47)::(b,mvR 1 p 300 c N,47)::F x y z u e) hF2 d hd.ok (by have:=hd.n;have:=hd.m;omega) hs2 (av l) hm hid hfl hac hd.bt hg _ (yF hm.w hu) hv2 h1).mono ?_;rintro e Z⟨e1,d',Sr,S0,S1,h3,h4,h5,h6⟩;refine⟨e1,S1++(S0++Sr),d',⟨h3.ok,by have:=h3.n;have:=hd.n;omega,by rw[h3.m];exact hd.m,by rw[h3.bt];exact hd.bt,by rw[h4,hd.s,hby],Sr,S0,S1,rfl,h5⟩,h6.perm (Cj _ _ _ _ _ _)⟩
theorem D2(hF:CoM F bf bb bo bk kp a0 a1 cc)(hD:∀x y z u c,At (F x y z u c) dd (dvR bf cc) 126)(d:Dv){s:Sta}{S:Mem}(hd:DS 2 s S d)(hf:s.m0=[]∨Fed s fs)(hdd:s.d0=false)(hac:s.ac= -1)(l:Δ)(hl:l.length=80)(hc:80≤c)(hv:∀x y z u e,See D (F x y z u e) (.slice p 80 c) (ak l))(I:Loc D w (S++d.at F bf bb bo kp fr fs)) :
 ϓ 18 #[aT dd,.agg (mvR 2 p 80 c 0)] w fun e Z=>e= .returned (.tuple #[.slice none 0 0,.int .i64 (sn fs s l)])∧∃d',DS 2 s S d'∧Loc D Z (S++d'.at F bf bb bo kp fr fs):=by
 have hs:=hd.s;refine(D1 (F:=fun x y z u e=>S++F x y z u e) (et S hF) (fun x y z u e=>by haveI:=hD x y z u e;infer_instance) d (sn fs s l) (by unfold sn;split <;> (try split) <;> decide) (fun S' d'=>S'=[]∧DS 2 s S d') (fun b b' J h1=>?_) I).mono ?_
 ·refine(yR (F:=fun x y z u e=>(b',mvR 2 p 80 c 0,47)::(b,mvR 2 p 80 c 0,47)::(S++F x y z u e)) (cG _ (cG _ (et S hF))) d hd.ok (fun x y z u e=>by haveI:=hd.sees D (F x y z u e);infer_instance) (by rw[hs];exact hf) (by rw[hs];exact hdd) (by rw[hs];exact hac) hl hc (fun x y z u e=>by haveI:=hv x y z u e;infer_instance) h1).mono ?_
  rintro e Z⟨e1,d',h3,h4⟩;rw[hs]at e1;exact⟨e1,[],d',⟨rfl,h3.ok,by rw[h3.n];exact hd.n,by rw[h3.m];exact hd.m,by rw[h3.bt];exact hd.bt,by rw[h3.s];exact hs,by rw[h3.s,h3.q];exact hd.hold⟩,h4⟩
 ·rintro e Z⟨e1,S',d',⟨rfl,h3⟩,h4⟩
  exact⟨e1,d',h3,h4⟩
theorem Ho(hF:CoM F bf bb bo bk kp a0 a1 cc)(hD:∀x y z u c,At (F x y z u c) dd (dvR bf cc) 126)(d:Dv){s:Sta}{S:Mem}(hd:DS 2 s S d)(hrv:s.rv=[])(l:Δ)(hl:l.length=76)(hv:∀x y z u e,See D (F x y z u e) (.slice p 76 c) (ak l))(I:Loc D w (S++d.at F bf bb bo kp fr fs)) :
 ϓ 18 #[aT dd,.agg (mvR 6 p 76 c N)] w fun e Z=>e= .returned (.tuple #[.slice none 0 0,.int .i64 (jL fr l)])∧∃(S':Mem) (d':Dv),d'.Ok∧d'.s=yT fr l s∧(∀M,SeeS D (S'++(S++M)) d'.s d'.q)∧Loc D Z (S'++(S++d'.at F bf bb bo kp fr fs)):=by
 have hs:=hd.s;refine(AW (F:=fun x y z u e=>S++F x y z u e) (et S hF) (fun x y z u e=>by haveI:=hD x y z u e;infer_instance) d (jL fr l) (by unfold jL;split <;> (try split) <;> decide) (fun S' d'=>d'.Ok∧d'.s=yT fr l s∧∀M,SeeS D (S'++(S++M)) d'.s d'.q) (fun b b' J h1=>?_) I).mono ?_
 ·have hF2:=cG (b',mvR 6 p 76 c N,47) (cG (b,mvR 6 p 76 c N,47) (et S hF))
  have hv2:∀x y z u e,See D ((b',mvR 6 p 76 c N,47)::(b,mvR 6 p 76 c N,47)::(S++F x y z u e)) (.slice p 76 c) (ak l):=fun x y z u e=>by haveI:=hv x y z u e;infer_instance
  by_cases hz:jL fr l=0
  ·have hb:spB l=true:=by unfold jL at hz;cases h:spB l <;> simp[h]at hz ⊢
   have hok:dQ fr (spI l) (spF l)=true:=by unfold jL at hz;cases h:dQ fr (spI l) (spF l) <;> simp[h,hb]at hz ⊢
   have hi:=XC ((Xs _ _).mp hb).2;have hby:=si hl hb;rw[← hby]at hv2;rw[hz];refine(vC (F:=fun x y z u e=>(b',mvR 6 p 76 c N,47)::(b,mvR 6 p 76 c N,47)::(S++F x y z u e)) hF2 d hd.ok (by have:=hd.n;have:=hd.m;omega) (fun x y z u e=>by haveI:=hd.sees D (F x y z u e);infer_instance) (spI l) (spF l) hi (fun i h=>by rw[hs,hrv]at h;exact absurd h (Nat.not_lt_zero _)) (by rw[hs,hrv];decide) hok hv2 h1).mono ?_;rintro e Z⟨e1,d',Sr,S0,S1,h3,h4,h5,h6⟩;refine⟨e1,S1++(S0++Sr),d',⟨h3.ok,by unfold yT;rw[Ρ hz,h4,hs],fun M=>?_⟩,h6.perm (Cj _ _ _ _ _ _)⟩;have:=h5.sees D (S++M);simpa only[Xc] using this
  ·have hc:jL fr l=if spB l then 11 else 4:=by
    unfold jL at hz ⊢;cases h1:spB l <;> cases h2:dQ fr (spI l) (spF l) <;> simp[h1,h2]at hz ⊢
   rw[hc];refine(yS (F:=fun x y z u e=>(b',mvR 6 p 76 c N,47)::(b,mvR 6 p 76 c N,47)::(S++F x y z u e)) hF2 d l hl (fun hb=>by unfold jL at hz;cases h2:dQ fr (spI l) (spF l);rfl;simp[hb,h2]at hz) hv2 h1).mono ?_;rintro e Z⟨e1,h2⟩;exact⟨e1,[],d,⟨hd.ok,by unfold yT;rw[Χ hz,hs],fun M=>hd.sees D M⟩,h2⟩
 ·rintro e Z⟨e1,S',d',⟨h1,h2,h3⟩,h4⟩
  exact⟨e1,S',d',h1,h2,h3,h4⟩
end
section
open R3
structure MoSt(fs:Φ)(b:Δ)(code:Int)(S:Mem)(q:Sq)(wr:ByteArray)(L:Ψ)(u:ό)(left:Int):Prop where
 fed:code=0→∃g W E,S=[(g,E,5)]∧q=qB (ϐ g) W∧OwnR E 300 W (ak b)∧wr=bn (av b).wr∧L=aa 32 (unK fs (av b).wr)∧u= .bool true
 new:¬code=0→S=[]∧q=Sq.none
 sz:Sz L 32
 left:99≤left∧left≤100
section
variable {D w:ϑ} {G:Ψ→Mem} {mo:Nat} [hA:∀x,At (G x) mo x 64] [hU:∀x y,Ups (G x) mo y (G y)] {fr fs:Φ} {P:Ψ} {R:Ψ} {L:Ψ} {u:ό} {b:Δ} {p:ϊ} {c:Nat}
theorem wa(hl:b.length=300)(hb:gU b=false)(hc:300≤c)(hv:∀x,See D (G x) (.slice p 300 c) (ak b))(X:Ψ)(I:Loc D w (G X)) :
 ϓ 54 #[aT mo,.slice p 300 c] w fun e Z=>e= .returned (.int .i64 4)∧Loc D Z (G X):=by
 have HRD:=Hd (fun J h=>(eh b hl p c J h hc).mono fun e Z h=>(by rw[hb]at h;exact h:e= .returned (.tuple #[.agg mfZ,.int .i64 4])∧Υ J Z));clear hb hl hc;go_enter func54,ntmps54;go_wp2_with (first|refine aU ?_|refine gBp 5 fun b5 J I=>?_|(refine gN 12 ?_;refine lV (HRD.out _ (See.bytes I)) I fun J I=>?_)|refine ab fun J I=>?_)
 all_goals(go_ret;exact⟨rfl,Loc.rem b5 I⟩)
theorem AX[hP:Sz P 5120][hR:Sz R 32][hLz:Sz L 32](hG:Glob D)(hI:GlobI D)(hl:b.length=300)(hb:gU b=true)(hc:300≤c)(hgd:(av b).good fr=false)(hv:∀x,See D (G x) (.slice p 300 c) (ak b))(I:Loc D w (G (moR fr fs Sta.new Sq.none 100 P (-1) R ⟨#[]⟩ L u))) :
 ϓ 54 #[aT mo,.slice p 300 c] w fun e Z=>e= .returned (.int .i64 11)∧Loc D Z (G (moR fr fs Sta.new Sq.none 100 P (-1) R (bn (av b).wr) (aa 32 (unK fs (av b).wr)) (.bool (unB fs (av b).wr)))):=by
 have hok:=mz hl hb;have hrd:=(fun J h=>(eh b hl p c J h hc).mono fun e Z h=>(by rw[hb]at h;exact h:∃g W E,e= .returned (.tuple #[.agg ((av b).row (ϐ g) 80 W),.int .i64 0])∧OwnR E 80 W (ak (av b).wr)∧Loc J Z [(g,E,5)]));have hck:=(fun p c J (M:Mem) (h:Loc D J M) hv=> @jC (av b) hok fr p c J (h.glob hG) (hI.below h.bel) hv);rw[hgd]at hck;have hky:=(fun(M:Ψ→Mem) J (ν ζ id:Int) (ρ κ cs sg:Φ) (p:ϊ) (c:Nat) (q1:∀x,At (M x) mo x 64) (q2:∀x y,Ups (M x) mo y (M y)) (h3:∀x,See D (M x) (.slice p 80 c) (ak (av b).wr)) (hc:80≤c) h=> @ou D J M mo q1 q2 fr fs Sta.new Sq.none 100 P R L u ν ζ id ρ κ cs sg (av b).wr p c hP hR hLz hG h3 hok.w hc h);have hrow:∀p n c,(av b).row p n c=mfR (av b).ν (av b).ζ (av b).ρ p n c (av b).id (av b).κ (av b).cs (av b).sg:=fun _ _ _=>rfl;simp only[hrow,X8,ZP,ZV]at hrd hck;have HRD:=Hd hrd;have HCK:=Hd hck;have HKY:=Hd hky;have q1:¬(av b).ν<0:=by have:=hok.v0;omega
 haveI f3:=dw (av b).id;haveI m1:∀wr L u,Cell (moR fr fs Sta.new Sq.none 100 P (-1) R wr L u) 64 (.int .i64 0):=fun wr L u=>Lq _ _ _ _ _ _ _ _ _ _ _;haveI m2:∀wr L u,Cell (moR fr fs Sta.new Sq.none 100 P (-1) R wr L u) 65 (.slice none 0 0):=fun wr L u=>Ju _ _ _ _ _ _ _ _ _ _ _;clear hrd hck hky hrow hgd hb hl hc hok;generalize bn (av b).wr=sl at *
 generalize unK fs (av b).wr=K at *
 try generalize unB fs (av b).wr=bo at *
 generalize av b=mm at *
 obtain⟨ν,ζ,ρ,wr2,id,κ,cs,sg⟩:=mm;dsimp only at *
 go_enter func54,ntmps54;go_wp2_with (first|refine aU ?_|refine gBp 5 fun b5 J I=>?_|(refine gN 12 ?_;refine lKk (HRD.out _ (See.bytes I)) ?_;rintro e J⟨g12,Y12,Z12,rfl,W12,hN⟩;refine Ϩ (I.join hN) fun I=>?_)|refine ab fun J I=>?_);refine Ϭ 7 I fun H I=>?_;refine uG 0 ?_;refine uZ 4 ?_;refine uG 1 ?_;refine uG 2 ?_;refine uZ 3 ?_;refine rd1 5 fun K T=>?_;refine eVv (HCK.out _ _ _ _ I (See.bytes I)) I fun J I=>?_;refine kO T (I) fun H=>?_;refine uG 6 ?_;refine wD ?_;clear H;go_wp2_with (first|refine aU ?_|refine gBp 8 fun b8 J I=>?_|(refine gN 26 ?_;refine lO (HKY.out (fun x=>(b5,mfR ν ζ ρ (ϐ g12) 80 Y12 id κ cs sg,79)::(g12,Z12,5)::G x) _ _ _ _ _ _ _ _ _ _ (fun _=>Ϙ) (fun _ _=>Ϙ) (fun _=>Ϙ) W12.le I) fun J I=>?_)|refine ab fun J I=>?_)
 all_goals(go_ret;exact⟨rfl,Loc.rem g12 (Loc.rem b5 (Loc.rem b8 I))⟩)
theorem AY[hP:Sz P 5120][hR:Sz R 32][hLz:Sz L 32](hG:Glob D)(hI:GlobI D)(hl:b.length=300)(hb:gU b=true)(hc:300≤c)(hgd:(av b).good fr=true)(hun:unB fs (av b).wr=false)(hv:∀x,See D (G x) (.slice p 300 c) (ak b))(I:Loc D w (G (moR fr fs Sta.new Sq.none 100 P (-1) R ⟨#[]⟩ L u))) :
 ϓ 54 #[aT mo,.slice p 300 c] w fun e Z=>e= .returned (.int .i64 21)∧Loc D Z (G (moR fr fs Sta.new Sq.none 100 P (-1) R (bn (av b).wr) (aa 32 (unK fs (av b).wr)) (.bool (unB fs (av b).wr)))):=by
 have hok:=mz hl hb;have hrd:=(fun J h=>(eh b hl p c J h hc).mono fun e Z h=>(by rw[hb]at h;exact h:∃g W E,e= .returned (.tuple #[.agg ((av b).row (ϐ g) 80 W),.int .i64 0])∧OwnR E 80 W (ak (av b).wr)∧Loc J Z [(g,E,5)]));have hck:=(fun p c J (M:Mem) (h:Loc D J M) hv=> @jC (av b) hok fr p c J (h.glob hG) (hI.below h.bel) hv);rw[hgd]at hck;have hky:=(fun(M:Ψ→Mem) J (ν ζ id:Int) (ρ κ cs sg:Φ) (p:ϊ) (c:Nat) (q1:∀x,At (M x) mo x 64) (q2:∀x y,Ups (M x) mo y (M y)) (h3:∀x,See D (M x) (.slice p 80 c) (ak (av b).wr)) (hc:80≤c) h=> @ou D J M mo q1 q2 fr fs Sta.new Sq.none 100 P R L u ν ζ id ρ κ cs sg (av b).wr p c hP hR hLz hG h3 hok.w hc h);have hrow:∀p n c,(av b).row p n c=mfR (av b).ν (av b).ζ (av b).ρ p n c (av b).id (av b).κ (av b).cs (av b).sg:=fun _ _ _=>rfl;simp only[hrow,X8,ZP,ZV]at hrd hck;simp only[hun]at hky ⊢;have HRD:=Hd hrd;have HCK:=Hd hck;have HKY:=Hd hky;have q1:¬(av b).ν<0:=by have:=hok.v0;omega
 haveI f3:=dw (av b).id;haveI m1:∀wr L u,Cell (moR fr fs Sta.new Sq.none 100 P (-1) R wr L u) 64 (.int .i64 0):=fun wr L u=>Lq _ _ _ _ _ _ _ _ _ _ _;haveI m2:∀wr L u,Cell (moR fr fs Sta.new Sq.none 100 P (-1) R wr L u) 65 (.slice none 0 0):=fun wr L u=>Ju _ _ _ _ _ _ _ _ _ _ _;clear hrd hck hky hrow hgd hb hl hc hok;generalize bn (av b).wr=sl at *
 generalize unK fs (av b).wr=K at *
 try generalize unB fs (av b).wr=bo at *
 generalize av b=mm at *
 obtain⟨ν,ζ,ρ,wr2,id,κ,cs,sg⟩:=mm;dsimp only at *
 go_enter func54,ntmps54;go_wp2_with (first|refine aU ?_|refine gBp 5 fun b5 J I=>?_|(refine gN 12 ?_;refine lKk (HRD.out _ (See.bytes I)) ?_;rintro e J⟨g12,Y12,Z12,rfl,W12,hN⟩;refine Ϩ (I.join hN) fun I=>?_)|refine ab fun J I=>?_);refine Ϭ 7 I fun H I=>?_;refine uG 0 ?_;refine uZ 4 ?_;refine uG 1 ?_;refine uG 2 ?_;refine uZ 3 ?_;refine rd1 5 fun K T=>?_;refine eVv (HCK.out _ _ _ _ I (See.bytes I)) I fun J I=>?_;refine kO T (I) fun H=>?_;refine uG 6 ?_;refine wD ?_;clear H;go_wp2_with (first|refine aU ?_|refine gBp 8 fun b8 J I=>?_|(refine gN 26 ?_;refine lO (HKY.out (fun x=>(b5,mfR ν ζ ρ (ϐ g12) 80 Y12 id κ cs sg,79)::(g12,Z12,5)::G x) _ _ _ _ _ _ _ _ _ _ (fun _=>Ϙ) (fun _ _=>Ϙ) (fun _=>Ϙ) W12.le I) fun J I=>?_)|refine ab fun J I=>?_);refine Ϭ 10 I fun H I=>?_;refine uG 0 ?_;refine uG 5 ?_;refine uG 1 ?_;refine uG 6 ?_;refine uG 2 ?_;refine uZ 7 ?_;refine uG 3 ?_;refine uZ 4 ?_;refine rd1 8 fun K T=>?_;refine eVv ((dw id).calls _) I fun J I=>?_;refine kO T (I) fun H=>?_;refine uG 9 ?_;refine wD ?_;clear H;go_wp2_with (refine ϛ fun J I=>?_);refine Ϭ 9 I fun H I=>?_;refine uG 0 ?_;refine uG 2 ?_;refine uZ 1 ?_;refine uG 3 ?_;refine uG 4 ?_;refine uG 5 ?_;refine uZ 6 ?_;refine uG 7 ?_;refine uG 8 ?_;refine wD ?_;clear H;go_wp2_with (refine ϛ fun J I=>?_)
 all_goals(go_ret;exact⟨rfl,Loc.rem g12 (Loc.rem b5 (Loc.rem b8 I))⟩)
theorem D3[hP:Sz P 5120][hR:Sz R 32][hLz:Sz L 32](hG:Glob D)(hI:GlobI D)(hl:b.length=300)(hb:gU b=true)(hc:300≤c)(hgd:(av b).good fr=true)(hun:unB fs (av b).wr=true)(hv:∀x,See D (G x) (.slice p 300 c) (ak b))(I:Loc D w (G (moR fr fs Sta.new Sq.none 100 P (-1) R ⟨#[]⟩ L u))) :
 ϓ 54 #[aT mo,.slice p 300 c] w fun e Z=>e= .returned (.int .i64 0)∧∃g W E,OwnR E 300 W (ak b)∧Loc D Z ((g,E,5)::G (moR fr fs (Sta.new.fed b) (qB (ϐ g) W) 99 P (-1) R (bn (av b).wr) (aa 32 (unK fs (av b).wr)) (.bool true))):=by
 have hok:=mz hl hb;have hrd:=(fun J h=>(eh b hl p c J h hc).mono fun e Z h=>(by rw[hb]at h;exact h:∃g W E,e= .returned (.tuple #[.agg ((av b).row (ϐ g) 80 W),.int .i64 0])∧OwnR E 80 W (ak (av b).wr)∧Loc J Z [(g,E,5)]));have hck:=(fun p c J (M:Mem) (h:Loc D J M) hv=> @jC (av b) hok fr p c J (h.glob hG) (hI.below h.bel) hv);rw[hgd]at hck;have hky:=(fun(M:Ψ→Mem) J (ν ζ id:Int) (ρ κ cs sg:Φ) (p:ϊ) (c:Nat) (q1:∀x,At (M x) mo x 64) (q2:∀x y,Ups (M x) mo y (M y)) (h3:∀x,See D (M x) (.slice p 80 c) (ak (av b).wr)) (hc:80≤c) h=> @ou D J M mo q1 q2 fr fs Sta.new Sq.none 100 P R L u ν ζ id ρ κ cs sg (av b).wr p c hP hR hLz hG h3 hok.w hc h);have hrow:∀p n c,(av b).row p n c=mfR (av b).ν (av b).ζ (av b).ρ p n c (av b).id (av b).κ (av b).cs (av b).sg:=fun _ _ _=>rfl;simp only[hrow,X8,ZP,ZV]at hrd hck;simp only[hun]at hky;have HPT:=Hd (fun J (h:BRow J (.slice p 300 c) b)=>(AQ p c b hl J h).mono fun e Z h=>(by
  obtain⟨g,W,E,h1,h2,h3⟩:=h;rw[AR hl]at h1;exact⟨g,W,E,h1,h2,h3⟩:∃g W E,e= .returned (.agg (stR (Sta.new.fed b) (qB (ϐ g) W)))∧OwnR E 300 W (ak b)∧Loc J Z [(g,E,5)]))
 have HCH:=Hd (fun(M:Ψ→Mem) J wr L u (q1:∀x,At (M x) mo x 64) (q2:∀x y,Ups (M x) mo y (M y)) h=> @yQ D J M mo q1 q2 fr fs Sta.new Sq.none 100 P R wr L u Ξ Ξ h);have HRD:=Hd hrd;have HCK:=Hd hck;have HKY:=Hd hky;have q1:¬(av b).ν<0:=by have:=hok.v0;omega
 haveI f3:=dw (av b).id;haveI f4:FnC 105 #[.agg (stR Sta.new Sq.none)] (.int .i64 0):=gx none 0 0 (.inl rfl);haveI m1:∀wr L u,Cell (moR fr fs Sta.new Sq.none 100 P (-1) R wr L u) 64 (.int .i64 0):=fun wr L u=>Lq _ _ _ _ _ _ _ _ _ _ _;haveI m2:∀wr L u,Cell (moR fr fs Sta.new Sq.none 100 P (-1) R wr L u) 65 (.slice none 0 0):=fun wr L u=>Ju _ _ _ _ _ _ _ _ _ _ _;haveI m5:∀g W left wr L u,Splice (moR fr fs Sta.new Sq.none left P (-1) R wr L u) 64 (stR (Sta.new.fed b) (qB (ϐ g) W)) (moR fr fs (Sta.new.fed b) (qB (ϐ g) W) left P (-1) R wr L u):=fun g W left wr L u=>Lr fr fs Sta.new Sq.none left P (-1) R wr L u _ _;clear hrd hck hky hrow hgd hun hb hl hc hok;generalize Sta.new.fed b=s2 at *
 generalize bn (av b).wr=sl at *
 generalize unK fs (av b).wr=K at *
 generalize av b=mm at *
 obtain⟨ν,ζ,ρ,wr2,id,κ,cs,sg⟩:=mm;dsimp only at *
 go_enter func54,ntmps54;go_wp2_with (first|refine aU ?_|refine gBp 5 fun b5 J I=>?_|(refine gN 12 ?_;refine lKk (HRD.out _ (See.bytes I)) ?_;rintro e J⟨g12,Y12,Z12,rfl,W12,hN⟩;refine Ϩ (I.join hN) fun I=>?_)|refine ab fun J I=>?_);refine Ϭ 7 I fun H I=>?_;refine uG 0 ?_;refine uZ 4 ?_;refine uG 1 ?_;refine uG 2 ?_;refine uZ 3 ?_;refine rd1 5 fun _ T=>?_;refine eVv (HCK.out _ _ _ _ I (See.bytes I)) I fun J I=>?_;refine kO T (I) fun H=>?_;refine uG 6 ?_;refine wD ?_;clear H;go_wp2_with (first|refine aU ?_|refine gBp 8 fun b8 J I=>?_|(refine gN 26 ?_;refine lO (HKY.out (fun x=>(b5,mfR ν ζ ρ (ϐ g12) 80 Y12 id κ cs sg,79)::(g12,Z12,5)::G x) _ _ _ _ _ _ _ _ _ _ (fun _=>Ϙ) (fun _ _=>Ϙ) (fun _=>Ϙ) W12.le I) fun J I=>?_)|refine ab fun J I=>?_);refine Ϭ 10 I fun H I=>?_;refine uG 0 ?_;refine uG 5 ?_;refine uG 1 ?_;refine uG 6 ?_;refine uG 2 ?_;refine uZ 7 ?_;refine uG 3 ?_;refine uZ 4 ?_;refine rd1 8 fun _ T=>?_;refine eVv ((dw id).calls _) I fun J I=>?_;refine kO T (I) fun H=>?_;refine uG 9 ?_;refine wD ?_;clear H;go_wp2_with (refine ϛ fun J I=>?_);refine Ϭ 9 I fun H I=>?_;refine uG 0 ?_;refine uG 2 ?_;refine uZ 1 ?_;refine uG 3 ?_;refine uG 4 ?_;refine uG 5 ?_;refine uZ 6 ?_;refine uG 7 ?_;refine uG 8 ?_;refine wD ?_;clear H;go_wp2_with (refine ϛ fun J I=>?_);refine Ϭ 11 I fun H I=>?_;refine uG 0 ?_;refine uG 4 ?_;refine uG 1 ?_;refine uG 5 ?_;refine uG 2 ?_;refine uG 6 ?_;refine uZ 3 ?_;refine uZ 7 ?_;refine rd1 8 fun _ T=>?_;refine eCl fun J I=>?_;refine kO T (I) fun H=>?_;refine uG 9 ?_;refine uG 10 ?_;refine wD ?_;clear H;go_wp2_with (first|refine aU ?_|(refine gN 67 ?_;refine lO (HCH.out (fun x=>(b8,aa 32 K,24)::(b5,mfR ν ζ ρ (ϐ g12) 80 Y12 id κ cs sg,79)::(g12,Z12,5)::G x) _ _ _ _ (fun _=>Ϙ) (fun _ _=>Ϙ) I) fun J I=>?_)|(refine gN 75 ?_;refine lKk (HPT.out _ (See.bytes I)) ?_;rintro e J⟨g75,Y75,Z75,rfl,W75,hN⟩;refine Ϩ (I.join hN) fun I=>?_)|refine ab fun J I=>?_)
 all_goals(go_ret;exact⟨rfl,g75,Y75,Z75,W75,Loc.rem g12 (Loc.rem b5 (Loc.rem b8 I))⟩)
end
instance Wv:Ent 54:=eo func54
end
section
open R3
theorem Lv(fr fs:Φ)(s:Sta)(q:Sq)(left:Int)(P:Ψ)(bt:Int)(R:Ψ)(wr:ByteArray)(L:Ψ)(u:ό)[hP:Sz P 5120]{b:Δ}(hl:b.length=80):Spl (moR fr fs s q left P bt R wr L u) 74 (ak b) (moR fr fs s q left (ak b++P.toList.drop 80).toArray bt R wr L u) where
 fit:=by
  rw[ap,hl];simp[moR,ai,hP.size];omega
 spl:=by
  have hs:(aa 32 fr++aa 32 fs++stR s q++(#[.int .i64 left]:Ψ)).toList.length=74:=by simp[ai]
  have hp:P.toList.length=5120:=by simp[hP.size]
  have e:∀P',moR fr fs s q left P' bt R wr L u=(aa 32 fr++aa 32 fs++stR s q ++ #[.int .i64 left])++(P'++(#[.int .i64 bt]++R ++ #[.string wr]++L ++ #[u])):=fun P'=>by simp only[moR,Xb]
  rw[e,e];generalize aa 32 fr++aa 32 fs++stR s q ++ #[.int .i64 left]=A at *
  generalize #[.int .i64 bt]++R ++ #[.string wr]++L ++ #[u]=C at *
  apply Array.toList_inj.1;rw[ap,hl];simp only[YJ];rw[← hs,Ze,← YQ,List.drop_left,List.drop_append_of_le_length Ω];simp
section
variable {D w:ϑ} {G:Ψ→Mem} {mo:Nat} [hA:∀x,At (G x) mo x 64] [hU:∀x y,Ups (G x) mo y (G y)] {fr fs:Φ} {s:Sta} {q:Sq} {left:Int} {P:Ψ} {R:Ψ} {wr:ByteArray} {L:Ψ} {u:ό} {b l:Δ} {p p0:ϊ} {c c0:Nat}
theorem wd(I:Loc D w (G (moR fr fs Sta.new Sq.none left P (-1) R wr L u))) :
 ϓ 55 #[aT mo,.int .i64 0,.slice p 80 c] w fun e Z=>e= .returned (.int .i64 15)∧Loc D Z (G (moR fr fs Sta.new Sq.none left P (-1) R wr L u)):=by
 haveI f4:FnC 105 #[.agg (stR Sta.new Sq.none)] (.int .i64 0):=gx none 0 0 (.inl rfl);have HMF:=Hd (fun J h=>D0 (D:=D) (w:=J) (G:=G) (mo:=mo) (fr:=fr) (fs:=fs) (left:=left) (P:=P) (R:=R) (wr:=wr) (L:=L) (u:=u) h);go_enter func55,ntmps55;go_wp2_with (first|refine aU ?_|refine gBp 8 fun b8 J I=>?_|(refine gN 24 ?_;refine lO (HMF.out _ I) fun J I=>?_)|refine ab fun J I=>?_|refine Ϯ fun J I=>?_)
 all_goals(go_ret;exact⟨rfl,Loc.rem b8 I⟩)
theorem yU[hR:Sz R 32](hE:Ers P 5120)(hb3:b.length=300)(hmb:gU b=true)(hc0:300≤c0)(hv0:∀x,See D (G x) (.slice p0 300 c0) (ak b))(hl:l.length=80)(hc:80≤c)(hv:∀x,See D (G x) (.slice p 80 c) (ak l))(I:Loc D w (G (moR fr fs (Sta.new.fed b) (qB p0 c0) left P (-1) R (bn (av b).wr) (aa 32 (unK fs (av b).wr)) (.bool true)))) :
 ϓ 55 #[aT mo,.int .i64 0,.slice p 80 c] w fun e Z=>e= .returned (.int .i64 (if opB (unK fs (av b).wr) (av b).ν 0 l then 0 else 10))∧∃P',Loc D Z (G (moR fr fs (Sta.new.fed b) (qB p0 c0) left P' (-1) R (bn (av b).wr) (aa 32 (unK fs (av b).wr)) (.bool true))):=by
 haveI hP:Sz P 5120:=⟨hE.1⟩;have hok:=mz hb3 hmb;haveI f4:FnC 105 #[.agg (stR (Sta.new.fed b) (qB p0 c0))] (.int .i64 0):=by rw[← AR hb3];exact gx p0 300 c0 (.inr rfl)
 have hm2:Cell (moR fr fs (Sta.new.fed b) (qB p0 c0) left P (-1) R (bn (av b).wr) (aa 32 (unK fs (av b).wr)) (.bool true)) 66 (.slice p0 300 c0):=by
  have h:=NP fr fs (Sta.new.fed b) (qB p0 c0) left P (-1) R (bn (av b).wr) (aa 32 (unK fs (av b).wr)) (.bool true);rwa[show(Sta.new.fed b).m0.length=300 from hb3]at h
 haveI m3:Cell (moR fr fs (Sta.new.fed b) (qB p0 c0) left P (-1) R (bn (av b).wr) (aa 32 (unK fs (av b).wr)) (.bool true)) 67 (.bool false):=Qy _ _ _ _ _ _ _ _ _ _ _;have HMF:=Hd (fun J h=>Hk (D:=D) (w:=J) (G:=G) (mo:=mo) (b:=b) hb3 hmb hc0 hv0 h hm2);have HKY:=Hd (fun(M:Ψ→Mem) J (ν ζ id:Int) (ρ κ cs sg:Φ) (p:ϊ) (c:Nat) (q1:∀x,At (M x) mo x 64) (q2:∀x y,Ups (M x) mo y (M y)) (h3:∀x,See D (M x) (.slice p 80 c) (ak (av b).wr)) h=> @sk D J M mo q1 q2 fr fs (Sta.new.fed b) (qB p0 c0) left P R ν ζ id ρ κ cs sg (av b).wr p c (unK fs (av b).wr) true hP hR h3 h);have HOP:=Hd (fun(M:Ψ→Mem) J (ζ id:Int) (ρ κ cs sg:Φ) (p:ϊ) (c:Nat) (q1:∀x,At (M x) mo x 64) (q2:∀x y,Ups (M x) mo y (M y)) (h3:∀x,See D (M x) (.slice p 80 c) (ak (av b).wr)) h=> @Hl D J M mo q1 q2 fr fs (Sta.new.fed b) (qB p0 c0) left P R (av b).ν ζ id ρ κ cs sg (av b).wr p c (unK fs (av b).wr) hR hE hok.v0 hok.v1 h3 h);have him:=(fun J (M:Mem) (h:Loc D J M) (hv:BRow J (.slice p 80 c) l)=>jb (unK fs (av b).wr) (av b).ν 0 hok.v0 hok.v1 Ξ Ξ p c l hl hc J hv);haveI hsp:=Lv fr fs (Sta.new.fed b) (qB p0 c0) left P (-1) R (bn (av b).wr) (aa 32 (unK fs (av b).wr)) (.bool true) hl;have h80:(ak l).length=80:=by rw[ap,hl]
 have q1:¬(av b).ζ≤0:=by have:=hok.b0;omega
 clear hok hb3 hmb hc0 hl hc hm2 hE;generalize(ak l++P.toList.drop 80).toArray=P2 at *
 generalize opB (unK fs (av b).wr) (av b).ν 0 l=o1 at *
 generalize opB (unK fs (av b).wr) (av b).ν 0 (ae 80 fun _=>255)=o2 at *
 generalize bn (av b).wr=sl at *
 generalize unK fs (av b).wr=K at *
 generalize av b=mm at *
 obtain⟨ν,ζ,ρ,wr2,id,κ,cs,sg⟩:=mm;dsimp only at *
 cases o1
 ·simp only[X8,ZP]at him ⊢
  have HIM:=Hd him;clear him;go_enter func55,ntmps55;go_wp2_with (first|refine aU ?_|refine gBp 8 fun b8 J I=>?_|refine gBp 10 fun b10 J I=>?_|(refine gN 24 ?_;refine lKk (HMF.out _ I) ?_;rintro e J⟨g24,Y24,Z24,rfl,W24,Y⟩;refine Ϥ Y fun I=>?_)|(refine gN 50 ?_;refine lO (HKY.out (fun x=>(b8,mfR ν ζ ρ (ϐ g24) 80 Y24 id κ cs sg,79)::(g24,Z24,5)::G x) _ _ _ _ _ _ _ _ _ _ (fun _=>Ϙ) (fun _ _=>Ϙ) (fun _=>Ϙ) I) fun J I=>?_)|(refine gN 59 ?_;refine lKk (HIM.out _ _ I (See.bytes I)) ?_;rintro e J⟨p59,n59,c59,rfl,V⟩;have Y:=I.keep V;refine Ϥ Y fun I=>?_)|refine ab fun J I=>?_|refine Ϯ fun J I=>?_)
  all_goals(go_ret;exact⟨rfl,P,Loc.rem g24 (Loc.rem b8 (Loc.rem b10 I))⟩)
 ·simp only[ZV]at him ⊢
  have HIM:=Hd him;clear him;cases o2
  all_goals
   go_enter func55,ntmps55;go_wp2_with (first|refine aU ?_|refine gBp 8 fun b8 J I=>?_|refine gBp 10 fun b10 J I=>?_|(refine gN 24 ?_;refine lKk (HMF.out _ I) ?_;rintro e J⟨g24,Y24,Z24,rfl,W24,Y⟩;refine Ϥ Y fun I=>?_)|(refine gN 50 ?_;refine lO (HKY.out (fun x=>(b8,mfR ν ζ ρ (ϐ g24) 80 Y24 id κ cs sg,79)::(g24,Z24,5)::G x) _ _ _ _ _ _ _ _ _ _ (fun _=>Ϙ) (fun _ _=>Ϙ) (fun _=>Ϙ) I) fun J I=>?_)|(refine gN 59 ?_;refine lKk (HIM.out _ _ I (See.bytes I)) ?_;rintro e J⟨p59,n59,c59,rfl,V⟩;have Y:=I.keep V;refine Ϥ Y fun I=>?_)|(refine gN 73 ?_;refine lKk (HOP.out (fun x=>(b10,aa 32 K,24)::(b8,mfR ν ζ ρ (ϐ g24) 80 Y24 id κ cs sg,79)::(g24,Z24,5)::G x) _ _ _ _ _ _ _ _ _ (fun _=>Ϙ) (fun _ _=>Ϙ) (fun _=>Ϙ) I) ?_;rintro e J⟨v73,rfl,Y⟩;refine Ϥ Y fun I=>?_)|(refine gN 87 ?_;(refine qq I rfl rfl rfl rfl ϖ ϖ fun J Y=>?_);clear I;have I:=Y;clear Y;refine p4 ?_)|refine ab fun J I=>?_|refine Ϯ fun J I=>?_)
  ·all_goals(go_ret;exact⟨rfl,P2,Loc.rem g24 (Loc.rem b8 (Loc.rem b10 I))⟩)
  ·all_goals(go_ret;exact⟨rfl,P,Loc.rem g24 (Loc.rem b8 (Loc.rem b10 I))⟩)
end
instance Ww:Ent 55:=eo func55
end
end Go.Proofs.YtoifhhljfaoejaaGreatDoor
