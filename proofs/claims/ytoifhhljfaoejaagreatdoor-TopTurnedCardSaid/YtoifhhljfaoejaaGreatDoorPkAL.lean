/- Lemmas of the law; no condition beyond those written. -/
import Derived.Test.YtoifhhljfaoejaaGreatDoorPkAK
import Derived.LaidMore
import Derived.Lib.LaidTab
import Derived.Stop.Joined
import Derived.SevenTiedAt
import Derived.ChangeOld
import Derived.Lay
set_option maxRecDepth 100000
set_option maxHeartbeats 8000000
set_option linter.unusedVariables false
set_option linter.unusedSimpArgs false
set_option linter.unusedSectionVars false
namespace Go.Proofs.YtoifhhljfaoejaaGreatDoor
open Go.Proofs.Tryz Go Go.RowKit Go.Shelf
section
open R3
theorem pmm{C G:Prop}(hc:C)(h:C→G:=by
 intro hc;first|exact hc|(intros;apply hc <;> first|assumption|exact Loc.perm (by assumption) Zq)):G:=h hc
section
variable {D w:ϑ} {G:Ψ→Mem} {mo:Nat} [hA:∀x,At (G x) mo x 64] [hU:∀x y,Ups (G x) mo y (G y)] {fr fs:Φ} {s:Sta} {q:Sq} {left:Int} {P:Ψ} {R:Ψ} {wr:ByteArray} {L:Ψ} {u:ό} {l:Δ} {p:ϊ} {c:Nat}
theorem D4(hG:Glob D)(hI:GlobI D)(hl:l.length=76)(hno:spB l=true→dQ fr (spI l) (spF l)=false)(hc:76≤c)(hv:∀x,See D (G x) (.slice p 76 c) (ak l))(I:Loc D w (G (moR fr fs s q left P (-1) R wr L u))) :
 ϓ 59 #[aT mo,.slice p 76 c] w fun e Z=>e= .returned (.int .i64 (if spB l then 11 else 4))∧Loc D Z (G (moR fr fs s q left P (-1) R wr L u)):=by
 have hrs:=(fun J h=>jG l hl p c J h hc);cases hb:spB l
 ·rw[hb]at hrs
  have HRS:=Hd (fun J h=>(hrs J h:Rt 118 #[.slice p 76 c] J (.tuple #[.agg (bR 0 fun _=>0),.int .i64 4])));clear hno hl hb hrs hc;generalize moR fr fs s q left P (-1) R wr L u=X at *
  go_enter func59,ntmps59;go_wp2_with (first|refine aU ?_|refine gBp 5 fun b5 J I=>?_|(refine gN 12 ?_;refine lV (HRS.out _ (See.bytes I)) I fun J I=>?_)|refine ab fun J I=>?_)
  all_goals(go_ret;exact⟨rfl,Loc.rem b5 I⟩)
 ·have hok:=hno hb
  have hi:=XC ((Xs _ _).mp hb).2;rw[hb]at hrs;have HRS:=Hd (fun J h=>(hrs J h:Rt 118 #[.slice p 76 c] J (.tuple #[.agg (bR (spI l) (spF l)),.int .i64 0])));have hck:=(fun J (M:Mem) (h:Loc D J M)=> @jd fr (spI l) (spF l) J (h.glob hG) (hI.below h.bel) hi.1 hi.2);rw[hok]at hck;have HCK:=Hd hck;clear hno hl hb hrs hc hok hi hck;generalize spI l=id at *
  generalize spF l=f at *
  go_enter func59,ntmps59;go_wp2_with (first|refine aU ?_|refine gBp 5 fun b5 J I=>?_|(refine gN 12 ?_;refine lV (HRS.out _ (See.bytes I)) I fun J I=>?_)|refine ab fun J I=>?_);refine Ϭ 7 I fun H I=>?_;refine uG 0 ?_;refine uZ 4 ?_;refine uG 1 ?_;refine uG 2 ?_;refine uZ 3 ?_;refine rd1 5 fun K T=>?_;refine eVv (HCK.out _ _ I) I fun J I=>?_;refine kO T (I) fun H=>?_;refine uG 6 ?_;refine wD ?_;clear H;go_wp2_with (refine ϛ fun J I=>?_)
  all_goals(go_ret;exact⟨rfl,Loc.rem b5 I⟩)
theorem D5(hG:Glob D)(hI:GlobI D)(hl:l.length=76)(hb:spB l=true)(hok:dQ fr (spI l) (spF l)=true)(hc:76≤c)(hv:∀x,See D (G x) (.slice p 76 c) (ak l))(hl0:1≤left)(hl1:left≤100)(hS:∀x,SeeS D (G x) s q)(hm:∀k P R wr L u,Cell (moR fr fs s q k P (-1) R wr L u) 65 (.slice none 0 0))(hrev:∀J,ReadS J s q→ϓ 120 #[.agg (stR s q),.int .i64 (spI l)] J fun e Z=>∃S q',e= .returned (.tuple #[.agg (stR (s.add (spI l)) q'),.int .i64 0])∧(∀D M,SeeS D (S++M) (s.add (spI l)) q')∧Loc J Z S)(I:Loc D w (G (moR fr fs s q left P (-1) R wr L u))) :
 ϓ 59 #[aT mo,.slice p 76 c] w fun e Z=>e= .returned (.int .i64 0)∧∃S q',(∀D M,SeeS D (S++M) (s.add (spI l)) q')∧Loc D Z (S++G (moR fr fs (s.add (spI l)) q' (left-1) P (-1) R wr L u)):=by
 have hrs:=(fun J h=>jG l hl p c J h hc);have hi:=XC ((Xs _ _).mp hb).2;rw[hb]at hrs;have HRS:=Hd (fun J h=>(hrs J h:Rt 118 #[.slice p 76 c] J (.tuple #[.agg (bR (spI l) (spF l)),.int .i64 0])));have hck:=(fun J (M:Mem) (h:Loc D J M)=> @jd fr (spI l) (spF l) J (h.glob hG) (hI.below h.bel) hi.1 hi.2);rw[hok]at hck;have HCK:=Hd hck;have HRV:=Hd (fun J (h:Loc D J (G (moR fr fs s q left P (-1) R wr L u)))=>hrev J ((hS _).read h));have HCH:=Hd (fun(M:Ψ→Mem) J (q1:∀x,At (M x) mo x 64) (q2:∀x y,Ups (M x) mo y (M y)) h=> @yQ D J M mo q1 q2 fr fs s q left P R wr L u hl0 hl1 h);haveI m4:=hm left P R wr L u;haveI f3:=dw (spI l);clear hl hb hrs hc hok hi hck hS hrev hm;generalize s.add (spI l)=s2 at *
 generalize spI l=id at *
 generalize spF l=f at *
 go_enter func59,ntmps59;go_wp2_with (first|refine aU ?_|refine gBp 5 fun b5 J I=>?_|(refine gN 12 ?_;refine lV (HRS.out _ (See.bytes I)) I fun J I=>?_)|refine ab fun J I=>?_);refine Ϭ 7 I fun H I=>?_;refine uG 0 ?_;refine uZ 4 ?_;refine uG 1 ?_;refine uG 2 ?_;refine uZ 3 ?_;refine rd1 5 fun K T=>?_;refine eVv (HCK.out _ _ I) I fun J I=>?_;refine kO T (I) ?_;clear T K H;intro H;refine uG 6 ?_;refine wD ?_;clear H;go_wp2_with (refine ϛ fun J I=>?_);refine Ϭ 8 I fun H I=>?_;refine uG 0 ?_;refine uG 5 ?_;refine uG 1 ?_;refine uZ 6 ?_;refine uG 2 ?_;refine uG 3 ?_;refine uZ 4 ?_;refine rd1 7 fun K T=>?_;refine eVv ((dw id).calls _) I fun J I=>?_;refine kO T (I) ?_;clear T K H;intro H;refine wD ?_;clear H;go_wp2_with (refine ϛ fun J I=>?_);refine eQ (R:=?R) (fun hR=>?h1) ?h2;case h1 =>
  refine mX (S:=(fun Z=>Loc D Z ((b5,bR id f,98)::G (moR fr fs s q left P (-1) R wr L u)))) 13 ϒ ?_;intro H;replace I:=I.drew;refine uG 0 ?_;refine uG 4 ?_;refine uG 1 ?_;refine uZ 5 ?_;refine uG 2 ?_;refine uZ 3 ?_;refine rd2 6 10 ?_ ?_
  ·intro K T
   refine eK (HRV.out _ ϒ) ?_;rintro e J⟨S40,q40,rfl,hq40,hN⟩;refine⟨_,rfl,?_⟩;have Y:=I.join hN;clear hN I;revert Y;refine aJ ?_;intro I;refine kO T ϒ ?_;clear T K H;intro H;refine uG 7 ?_;refine uG 8 ?_;refine uG 9 ?_;refine rd1 10 fun K T=>?_;refine eA I rfl ?_;clear I;intro b8 J I;refine kO T ϒ ?_;clear T K H;intro H;refine rd1 11 fun K T=>?_;refine cY ?_;clear I;intro J I;refine kO T ϒ ?_;clear T K H;intro H;refine uG 12 ?_;refine wD ?_;clear H;have hLp:=I;clear I;revert hLp;revert J;revert b8;revert hq40;revert q40;revert S40;exact pmm hR
  ·intro K T
   refine eA I rfl ?_;clear I;intro b8 J I;refine kO T ϒ ?_;clear T K H;intro H;refine rd1 6 fun K T=>?_;refine eK (HRV.out _ ϒ) ?_;rintro e J⟨S40,q40,rfl,hq40,hN⟩;refine⟨_,rfl,?_⟩;have Y:=I.join hN;clear hN I;revert Y;refine aJ ?_;intro I;refine kO T ϒ ?_;clear T K H;intro H;refine uG 7 ?_;refine uG 8 ?_;refine uG 9 ?_;refine rd1 11 fun K T=>?_;refine cY ?_;clear I;intro J I;refine kO T ϒ ?_;clear T K H;intro H;refine uG 12 ?_;refine wD ?_;clear H;have hLp:=I;clear I;revert hLp;revert J;revert b8;revert hq40;revert q40;revert S40;exact pmm hR
 intro S40 q40 hq40 b8 J Y;clear I;have I:=Y;clear Y;go_wp2_with (first|refine aU ?_|(refine gN 47 ?_;refine lO (HCH.out (fun x=>(b8,stR s2 q40,58)::(S40++((b5,bR id f,98)::G x))) _ (fun _=>Ϙ) (fun _ _=>Ϙ) I) fun J I=>?_)|refine ab fun J I=>?_)
 all_goals(go_ret;exact⟨rfl,S40,q40,hq40,(Loc.rem b8 I).sub ((Zh _).append (YT _ _))⟩)
end
instance Wx:Ent 59:=eo func59
section
variable {D w:ϑ} {M:Mem} {mo:Nat} {p:ϊ} {n c:Nat} {N:Int}
theorem D6(R:Int→Mem→Prop)(hf:∀b J,Loc D J ((b,mvR 1 p n c N,47)::M)→ϓ 54 #[aT mo,.slice p n c] J fun e Z=>∃v M',e= .returned (.int .i64 v)∧R v M'∧Loc D Z ((b,mvR 1 p n c N,47)::M'))(I:Loc D w M):ϓ 19 #[aT mo,.agg (mvR 1 p n c N)] w fun e Z=>∃v M',e= .returned (.tuple #[.slice none 0 0,.int .i64 v])∧R v M'∧Loc D Z M':=by
 have HF:=Hd hf;clear hf;go_enter func19,ntmps19;go_wp2_with (first|refine aU ?_|refine gBp 3 fun b3 J I=>?_|(refine gN 13 ?_;refine lKk (HF.out _ _ I) ?_;rintro e J⟨v,M',rfl,hRv,Y⟩;refine Ϥ Y fun I=>?_)|refine ab fun J I=>?_)
 all_goals(go_ret2;exact⟨v,M',rfl,hRv,Loc.rem b3 I⟩)
theorem AZ(R:Int→Mem→Prop)(hf:∀b J,Loc D J ((b,mvR 2 p n c N,47)::M)→ϓ 55 #[aT mo,.int .i64 N,.slice p n c] J fun e Z=>∃v M',e= .returned (.int .i64 v)∧R v M'∧Loc D Z ((b,mvR 2 p n c N,47)::M'))(I:Loc D w M):ϓ 19 #[aT mo,.agg (mvR 2 p n c N)] w fun e Z=>∃v M',e= .returned (.tuple #[.slice none 0 0,.int .i64 v])∧R v M'∧Loc D Z M':=by
 have HF:=Hd hf;clear hf;go_enter func19,ntmps19;go_wp2_with (first|refine aU ?_|refine gBp 3 fun b3 J I=>?_|(refine gN 21 ?_;refine lKk (HF.out _ _ I) ?_;rintro e J⟨v,M',rfl,hRv,Y⟩;refine Ϥ Y fun I=>?_)|refine ab fun J I=>?_)
 all_goals(go_ret2;exact⟨v,M',rfl,hRv,Loc.rem b3 I⟩)
theorem yV(R:Int→Mem→Prop)(hf:∀b J,Loc D J ((b,mvR 6 p n c N,47)::M)→ϓ 59 #[aT mo,.slice p n c] J fun e Z=>∃v M',e= .returned (.int .i64 v)∧R v M'∧Loc D Z ((b,mvR 6 p n c N,47)::M'))(I:Loc D w M):ϓ 19 #[aT mo,.agg (mvR 6 p n c N)] w fun e Z=>∃v M',e= .returned (.tuple #[.slice none 0 0,.int .i64 v])∧R v M'∧Loc D Z M':=by
 have HF:=Hd hf;clear hf;go_enter func19,ntmps19;go_wp2_with (first|refine aU ?_|refine gBp 3 fun b3 J I=>?_|(refine gN 39 ?_;refine lKk (HF.out _ _ I) ?_;rintro e J⟨v,M',rfl,hRv,Y⟩;refine Ϥ Y fun I=>?_)|refine ab fun J I=>?_)
 all_goals(go_ret2;exact⟨v,M',rfl,hRv,Loc.rem b3 I⟩)
end
instance Wy:Ent 19:=eo func19
end
theorem so(A B M:Mem):List.Perm (A++(B++M)) (B++(A++M)):=by
 rw[← Xc,← Xc];exact List.Perm.append_right M List.perm_append_comm
theorem NR(A S M:Mem)(e b:Nat×Ψ×ϋ):List.Perm (e::b::(A++(S++M))) (b::(A++(S++(e::M)))) :=
 (List.Perm.swap _ _ _).trans (List.Perm.cons _ ((List.perm_middle.symm).trans (YZ A List.perm_middle.symm)))
theorem gy{fr fs:Φ}{l:Δ}(h:dJ fr fs l=0):eI fr fs l=Sta.new.fed l:=by unfold eI;rw[Ρ h]
theorem gz{fr fs:Φ}{l:Δ}(h:¬dJ fr fs l=0):eI fr fs l=Sta.new:=by unfold eI;rw[Χ h]
theorem Ck(fr fs:Φ)(l:Δ)(hl:l.length=300):((eI fr fs l).m0=[]∨Fed (eI fr fs l) fs)∧(eI fr fs l).d0=false∧(eI fr fs l).ac= -1∧(eI fr fs l).rv=[]:=by
 by_cases h:dJ fr fs l=0
 ·rw[gy h]
  obtain⟨h1,h2,h3⟩:=ul h;exact⟨.inr ⟨hl,h1,h3⟩,rfl,rfl,rfl⟩
 ·rw[gz h]
  exact⟨.inl rfl,rfl,rfl,rfl⟩
section
variable (w:ϑ) (F0:ύ) (bf bb bo bk kp a0 a1 cc dd mo:Nat) (fr fs:Φ)
abbrev yX(Sd Sm Ezq:Mem)(d:Dv)(X:Ψ):Mem:=Sd++(Sm++(Ezq++((mo,X,tMo)::d.at F0 bf bb bo kp fr fs)))
def Stg:Nat→Mem→Prop
 | 0,N=>∃Ezq d P R L u,List.Perm N (yX F0 bf bb bo kp mo fr fs [] [] Ezq d (moR fr fs Sta.new Sq.none 100 P (-1) R ⟨#[]⟩ L u))∧DS 1 Sta.new [] d∧Ers P 5120∧Sz R 32∧Sz L 32
 | 1,N=>∃l Sd Sm Ezq d q left P R wr L u,List.Perm N (yX F0 bf bb bo kp mo fr fs Sd Sm Ezq d (moR fr fs (eI fr fs l) q left P (-1) R wr L u))∧l.length=300∧DS 2 (eI fr fs l) Sd d∧MoSt fs l (dJ fr fs l) Sm q wr L u left∧Ers P 5120∧Sz R 32
 | 2,N=>∃l Sd Sm Ezq d q left P R wr L u,List.Perm N (yX F0 bf bb bo kp mo fr fs Sd Sm Ezq d (moR fr fs (eI fr fs l) q left P (-1) R wr L u))∧l.length=300∧DS 2 (eI fr fs l) Sd d∧MoSt fs l (dJ fr fs l) Sm q wr L u left
 | _,N=>∃Sd Sm Ezq d s q left P R wr L u,List.Perm N (yX F0 bf bb bo kp mo fr fs Sd Sm Ezq d (moR fr fs s q left P (-1) R wr L u))∧d.Ok∧d.s=s∧(s.rv=[]∨∃id,s.rv=[id])∧(∀M,SeeS w (Sd++M) d.s d.q)∧(∀M,SeeS w (Sm++M) s q)
theorem Stg.cons{k:Nat}{N:Mem}(e:Nat×Ψ×ϋ)(h:Stg w F0 bf bb bo kp mo fr fs k N):Stg w F0 bf bb bo kp mo fr fs k (e::N):=by
 have hp:∀{Sd Sm Ezq:Mem} {d:Dv} {X:Ψ},List.Perm N (yX F0 bf bb bo kp mo fr fs Sd Sm Ezq d X)→List.Perm (e::N) (yX F0 bf bb bo kp mo fr fs Sd Sm (e::Ezq) d X):=fun h =>
  (List.Perm.cons e h).trans ((List.perm_middle.symm).trans (YZ _ List.perm_middle.symm))
 match k with
 | 0=>obtain⟨Ezq,d,P,R,L,u,h1,h2⟩:=h;exact⟨e::Ezq,d,P,R,L,u,hp h1,h2⟩
 | 1=>obtain⟨l,Sd,Sm,Ezq,d,q,left,P,R,wr,L,u,h1,h2⟩:=h;exact⟨l,Sd,Sm,e::Ezq,d,q,left,P,R,wr,L,u,hp h1,h2⟩
 | 2=>obtain⟨l,Sd,Sm,Ezq,d,q,left,P,R,wr,L,u,h1,h2⟩:=h;exact⟨l,Sd,Sm,e::Ezq,d,q,left,P,R,wr,L,u,hp h1,h2⟩
 | (n+3)=>obtain⟨Sd,Sm,Ezq,d,s,q,left,P,R,wr,L,u,h1,h2⟩:=h;exact⟨Sd,Sm,e::Ezq,d,s,q,left,P,R,wr,L,u,hp h1,h2⟩
def Hp(A:Mem)(mv:Ψ)(k:Nat)(J:ϑ):Prop :=
 ϓ 18 #[aT dd,.agg mv] J fun e Z=>∃v N',e= .returned (.tuple #[.slice none 0 0,.int .i64 v])∧Loc w Z (A++N') ∧
  ∀w2,Loc w w2 (A++N')→ϓ 19 #[aT mo,.agg mv] w2 fun e w3=>e= .returned (.tuple #[.slice none 0 0,.int .i64 v])∧∃N2,Stg w F0 bf bb bo kp mo fr fs (k+1) N2∧Loc w w3 (A++N2)
end
section
variable {w J:ϑ} {F0:ύ} {bf bb bo bk kp a0 a1 cc dd mo:Nat} {fr fs:Φ} {A N:Mem} {p:ϊ} {c:Nat} {l:Δ}
theorem D7(hF:CoM F0 bf bb bo bk kp a0 a1 cc)(hD:∀x y z u c,At (F0 x y z u c) dd (dvR bf cc) 126)(hG:Glob w)(hI:GlobI w)(hN:Stg w F0 bf bb bo kp mo fr fs 0 N)(hl:l.length=300)(hc:300≤c)(hv:∀Ezq x a1 a2 a3 a4 a5,See w (A++(Ezq++((mo,x,tMo)::F0 a1 a2 a3 a4 a5))) (.slice p 300 c) (ak l))(I:Loc w J (A++N)):Hp w F0 bf bb bo kp dd mo fr fs A (mvR 1 p 300 c 0) 0 J:=by
 obtain⟨Ezq,d,P,R,L,u,hp,hd,hE,hR,hZ⟩:=hN;haveI hP:Sz P 5120:=⟨hE.1⟩;have h1:=I.perm (YZ A hp);refine(Hn (F:=fun x y z v c=>A++(Ezq++((mo,moR fr fs Sta.new Sq.none 100 P (-1) R ⟨#[]⟩ L u,tMo)::F0 x y z v c))) (et A (et Ezq (cG _ hF))) (fun x y z u c=>by haveI:=hD x y z u c;infer_instance) d hd l hl (fun x y z u e=>hv _ _ _ _ _ _ _) h1).mono ?_;rintro e Z⟨e1,S,d',h2,h3⟩;refine⟨dJ fr fs l,S++(Ezq++((mo,moR fr fs Sta.new Sq.none 100 P (-1) R ⟨#[]⟩ L u,tMo)::d'.at F0 bf bb bo kp fr fs)),e1,h3.perm (so _ _ _),fun w2 h4=>?_⟩;refine(D6 (D:=w) (fun v M'=>v=dJ fr fs l∧∃N2,Stg w F0 bf bb bo kp mo fr fs 1 N2∧M'=A++N2) (fun b w5 h5=>?_) h4).mono ?_
 ·have hv2:∀x,See w ((b,mvR 1 p 300 c 0,47)::(A++(S++(Ezq++((mo,x,tMo)::d'.at F0 bf bb bo kp fr fs))))) (.slice p 300 c) (ak l):=fun x=>by
   have h:=hv (S++Ezq) x (flR bb d'.er d'.pr) d'.y (otR bf fr fs d'.n d'.m) (bkR bf bo d'.p d'.kn d'.kc d'.φ) (coR kp fr fs d'.s d'.q d'.bt d'.rg);rw[Xc]at h;haveI:=h
   infer_instance
  have hno:¬dJ fr fs l=0→∀wr L' u',Sz L' 32→Stg w F0 bf bb bo kp mo fr fs 1 (S++(Ezq++((mo,moR fr fs Sta.new Sq.none 100 P (-1) R wr L' u',tMo)::d'.at F0 bf bb bo kp fr fs))):=fun hz wr L' u' hZ' =>
   ⟨l,S,[],Ezq,d',Sq.none,100,P,R,wr,L',u',by first|(rw[gz hz];done)|(rw[gz hz];exact Zu _),hl,h2,⟨fun h=>absurd h hz,fun _=>⟨rfl,rfl⟩,hZ',Ξ,Ξ⟩,hE,hR⟩
  cases hb:gU l
  ·have hcd:dJ fr fs l=4:=by unfold dJ;rw[hb];rfl
   refine(wa (G:=fun x=>(b,mvR 1 p 300 c 0,47)::(A++(S++(Ezq++((mo,x,tMo)::d'.at F0 bf bb bo kp fr fs))))) hl hb hc hv2 _ h5).mono ?_;rintro e Z⟨e2,h6⟩;exact⟨4,_,e2,⟨hcd.symm,_,hno (by rw[hcd];decide) _ _ _ hZ,rfl⟩,h6⟩
  ·cases hg:(av l).good fr
   ·have hcd:dJ fr fs l=11:=by unfold dJ;rw[hb,hg];rfl
    refine(AX (G:=fun x=>(b,mvR 1 p 300 c 0,47)::(A++(S++(Ezq++((mo,x,tMo)::d'.at F0 bf bb bo kp fr fs))))) hG hI hl hb hc hg hv2 h5).mono ?_;rintro e Z⟨e2,h6⟩;exact⟨11,_,e2,⟨hcd.symm,_,hno (by rw[hcd];decide) _ _ _ ⟨ai _ _⟩,rfl⟩,h6⟩
   ·cases hu:unB fs (av l).wr
    ·have hcd:dJ fr fs l=21:=by unfold dJ;rw[hb,hg,hu];rfl
     refine(AY (G:=fun x=>(b,mvR 1 p 300 c 0,47)::(A++(S++(Ezq++((mo,x,tMo)::d'.at F0 bf bb bo kp fr fs))))) hG hI hl hb hc hg hu hv2 h5).mono ?_;rintro e Z⟨e2,h6⟩;exact⟨21,_,e2,⟨hcd.symm,_,hno (by rw[hcd];decide) _ _ _ ⟨ai _ _⟩,rfl⟩,h6⟩
    ·have hcd:dJ fr fs l=0:=by unfold dJ;rw[hb,hg,hu];rfl
     refine(D3 (G:=fun x=>(b,mvR 1 p 300 c 0,47)::(A++(S++(Ezq++((mo,x,tMo)::d'.at F0 bf bb bo kp fr fs))))) hG hI hl hb hc hg hu hv2 h5).mono ?_;rintro e Z⟨e2,g,W,E,hr,h6⟩;refine⟨0,_,e2,⟨hcd.symm,S++([(g,E,5)]++(Ezq++((mo,_,tMo)::d'.at F0 bf bb bo kp fr fs))),?_,rfl⟩,h6.perm (NR _ _ _ _ _)⟩;exact⟨l,S,[(g,E,5)],Ezq,d',qB (ϐ g) W,99,P,R,_,_,_,by first|(rw[gy hcd];done)|(rw[gy hcd];exact Zu _),hl,h2,⟨fun _=>⟨g,W,E,rfl,rfl,hr,rfl,rfl,rfl⟩,fun h=>absurd hcd h,⟨ai _ _⟩,Ξ,Ξ⟩,hE,hR⟩
 ·rintro e Z⟨v,M',e2,⟨rfl,N2,h6,rfl⟩,h7⟩
  exact⟨e2,N2,h6,h7⟩
theorem A4(hF:CoM F0 bf bb bo bk kp a0 a1 cc)(hD:∀x y z u c,At (F0 x y z u c) dd (dvR bf cc) 126)(hN:Stg w F0 bf bb bo kp mo fr fs 1 N)(hl:l.length=80)(hc:80≤c)(hv:∀Ezq x a1 a2 a3 a4 a5,See w (A++(Ezq++((mo,x,tMo)::F0 a1 a2 a3 a4 a5))) (.slice p 80 c) (ak l))(I:Loc w J (A++N)):Hp w F0 bf bb bo kp dd mo fr fs A (mvR 2 p 80 c 0) 1 J:=by
 obtain⟨l0,Sd,Sm,Ezq,d,q,left,P,R,wr,L,u,hp,hl0,hd,hM,hE,hR⟩:=hN;have h1:=(I.perm (YZ A hp)).perm (so A Sd _);obtain⟨hf,hd0,hac,hrv⟩:=Ck fr fs l0 hl0;obtain⟨X,hX⟩:∃X,X=moR fr fs (eI fr fs l0) q left P (-1) R wr L u:=⟨_,rfl⟩;rw[← hX]at h1;refine(D2 (F:=fun x y z u c=>A++(Sm++(Ezq++((mo,X,tMo)::F0 x y z u c)))) (et A (et Sm (et Ezq (cG _ hF)))) (fun x y z u c=>by haveI:=hD x y z u c;infer_instance) d hd hf hd0 hac l hl hc (fun x y z u e=>by have h:=hv (Sm++Ezq) X x y z u e;rw[Xc]at h;exact h) h1).mono ?_;rintro e Z⟨e1,d',h2,h3⟩;subst hX;refine⟨sn fs (eI fr fs l0) l,Sd++(Sm++(Ezq++((mo,_,tMo)::d'.at F0 bf bb bo kp fr fs))),e1,h3.perm (so _ _ _),fun w2 h4=>?_⟩;refine(AZ (D:=w) (N:=0) (fun v M'=>v=sn fs (eI fr fs l0) l∧∃N2,Stg w F0 bf bb bo kp mo fr fs 2 N2∧M'=A++N2) (fun b w5 h5=>?_) h4).mono ?_
 ·by_cases hz:dJ fr fs l0=0
  ·obtain⟨g,W,E,rfl,rfl,hr,rfl,rfl,rfl⟩:=hM.fed hz
   obtain⟨hmb,hgd,hun⟩:=ul hz;have hv2:∀x,See w ((b,mvR 2 p 80 c 0,47)::(A++(Sd++([(g,E,5)]++(Ezq++((mo,x,tMo)::d'.at F0 bf bb bo kp fr fs)))))) (.slice p 80 c) (ak l):=fun x=>by
    have h:=hv (Sd++([(g,E,5)]++Ezq)) x (flR bb d'.er d'.pr) d'.y (otR bf fr fs d'.n d'.m) (bkR bf bo d'.p d'.kn d'.kc d'.φ) (coR kp fr fs d'.s d'.q d'.bt d'.rg);rw[Xc,Xc]at h;haveI:=h
    infer_instance
   have hcd:sn fs (eI fr fs l0) l=if opB (unK fs (av l0).wr) (av l0).ν 0 l then 0 else 10:=by
    rw[gy hz];unfold sn;have hne:¬(Sta.new.fed l0).m0=[]:=by
     intro h;have:l0=[]:=h;rw[this]at hl0;cases hl0
    rw[Χ hne];rfl
   rw[hcd];have hno:∀P',Stg w F0 bf bb bo kp mo fr fs 2 (Sd++([(g,E,5)]++(Ezq++((mo,moR fr fs (Sta.new.fed l0) (qB (ϐ g) W) left P' (-1) R (bn (av l0).wr) (aa 32 (unK fs (av l0).wr)) (.bool true),tMo)::d'.at F0 bf bb bo kp fr fs)))):=fun P' =>
    ⟨l0,Sd,[(g,E,5)],Ezq,d',qB (ϐ g) W,left,P',R,_,_,_,by first|(rw[gy hz];done)|(rw[gy hz];exact Zu _),hl0,h2,hM⟩
   rw[gy hz]at h5;refine(yU (G:=fun x=>(b,mvR 2 p 80 c 0,47)::(A++(Sd++([(g,E,5)]++(Ezq++((mo,x,tMo)::d'.at F0 bf bb bo kp fr fs)))))) (p0:=some ⟨g,0,none⟩) (c0:=W) hE hl0 hmb hr.le (fun x=>by show See w (_::(A++(Sd++((g,E,5)::(Ezq++((mo,x,tMo)::d'.at F0 bf bb bo kp fr fs)))))) _ _;infer_instance) hl hc hv2 h5).mono ?_;rintro e Z⟨e2,P',h6⟩;exact⟨_,_,e2,⟨rfl,_,hno P',rfl⟩,h6⟩
  ·obtain⟨rfl,rfl⟩:=hM.new hz
   have hcd:sn fs (eI fr fs l0) l=15:=by rw[gz hz];rfl
   rw[hcd];have hno:Stg w F0 bf bb bo kp mo fr fs 2 (Sd++([]++(Ezq++((mo,moR fr fs Sta.new Sq.none left P (-1) R wr L u,tMo)::d'.at F0 bf bb bo kp fr fs)))) :=
    ⟨l0,Sd,[],Ezq,d',Sq.none,left,P,R,wr,L,u,by first|(rw[gz hz];done)|(rw[gz hz];exact Zu _),hl0,h2,hM⟩
   rw[gz hz]at h5;refine(wd (G:=fun x=>(b,mvR 2 p 80 c 0,47)::(A++(Sd++([]++(Ezq++((mo,x,tMo)::d'.at F0 bf bb bo kp fr fs)))))) h5).mono ?_;rintro e Z⟨e2,h6⟩;exact⟨15,_,e2,⟨rfl,_,hno,rfl⟩,h6⟩
 ·rintro e Z⟨v,M',e2,⟨rfl,N2,h6,rfl⟩,h7⟩
  exact⟨e2,N2,h6,h7⟩
theorem Lw(D:ϑ){S M:Mem}{b:Δ}{q:Sq}{g W:Nat}{E:Ψ}(hS:S=[(g,E,5)])(hq:q=qB (ϐ g) W)(hl:b.length=300)(hr:OwnR E 300 W (ak b)):SeeS D (S++M) (Sta.new.fed b) q:=by
 subst hS hq;have hr':OwnR E b.length W (ak b):=by rw[hl];exact hr
 have hq:HoldQ [] [(g,E,5)] [] (Sta.new.fed b) (qB (ϐ g) W):=⟨Hold.nil _,Hold.own hr',Hold.nil _,fun _=>rfl,fun h=>(by have e:b=[]:=h;rw[e]at hl;cases hl),fun _=>rfl⟩;exact hq.sees D M
theorem D8(hF:CoM F0 bf bb bo bk kp a0 a1 cc)(hD:∀x y z u c,At (F0 x y z u c) dd (dvR bf cc) 126)(hG:Glob w)(hI:GlobI w)(hN:Stg w F0 bf bb bo kp mo fr fs 2 N)(hl:l.length=76)(hc:76≤c)(hv:∀Ezq x a1 a2 a3 a4 a5,See w (A++(Ezq++((mo,x,tMo)::F0 a1 a2 a3 a4 a5))) (.slice p 76 c) (ak l))(I:Loc w J (A++N)):Hp w F0 bf bb bo kp dd mo fr fs A (mvR 6 p 76 c 0) 2 J:=by
 obtain⟨l0,Sd,Sm,Ezq,d,q,left,P,R,wr,L,u,hp,hl0,hd,hM⟩:=hN;have h1:=(I.perm (YZ A hp)).perm (so A Sd _);obtain⟨hf,hd0,hac,hrv⟩:=Ck fr fs l0 hl0;have hq1:q.pr=none:=by
  by_cases hz:dJ fr fs l0=0
  ·obtain⟨g,W,E,_,rfl,_⟩:=hM.fed hz;rfl
  ·obtain⟨_,rfl⟩:=hM.new hz;rfl
 have hq2:q.cr=0:=by
  by_cases hz:dJ fr fs l0=0
  ·obtain⟨g,W,E,_,rfl,_⟩:=hM.fed hz;rfl
  ·obtain⟨_,rfl⟩:=hM.new hz;rfl
 have hsm:∀M,SeeS w (Sm++M) (eI fr fs l0) q:=fun M=>by
  by_cases hz:dJ fr fs l0=0
  ·obtain⟨g,W,E,h2,h3,hr,_⟩:=hM.fed hz
   rw[gy hz];exact Lw w h2 h3 hl0 hr
  ·obtain⟨rfl,rfl⟩:=hM.new hz
   rw[gz hz];exact ru _ _
 have hrev:∀id,0≤id∧id≤2147483647→∀w5,ReadS w5 (eI fr fs l0) q→ϓ 120 #[.agg (stR (eI fr fs l0) q),.int .i64 id] w5 fun e Z=>∃S q',e= .returned (.tuple #[.agg (stR ((eI fr fs l0).add id) q'),.int .i64 0])∧(∀D M,SeeS D (S++M) ((eI fr fs l0).add id) q')∧Loc w5 Z S:=fun id hi w5 hrd=>by
  by_cases hz:dJ fr fs l0=0
  ·obtain⟨g,W,E,h2,rfl,hr,_⟩:=hM.fed hz
   rw[gy hz]at hrd ⊢;refine AT id hi.1 hi.2 hl0 _ _ w5 ?_;have h:=hrd.a;rwa[show(Sta.new.fed l0).m0.length=300 from hl0]at h
  ·obtain⟨rfl,rfl⟩:=hM.new hz
   rw[gz hz];exact AS id hi.1 hi.2 w5
 have hle:=hM.left;generalize eI fr fs l0=s at *
 clear hM hf hd0 hac hl0 hp;obtain⟨X,hX⟩:∃X,X=moR fr fs s q left P (-1) R wr L u:=⟨_,rfl⟩;rw[← hX]at h1;refine(Ho (F:=fun x y z u c=>A++(Sm++(Ezq++((mo,X,tMo)::F0 x y z u c)))) (N:=0) (et A (et Sm (et Ezq (cG _ hF)))) (fun x y z u c=>by haveI:=hD x y z u c;infer_instance) d hd hrv l hl (fun x y z u e=>by have h:=hv (Sm++Ezq) X x y z u e;rw[Xc]at h;exact h) h1).mono ?_;rintro e Z⟨e1,S',d',o1,o2,o3,h3⟩;subst hX;rw[← Xc]at h3;refine⟨jL fr l,(S'++Sd)++(Sm++(Ezq++((mo,_,tMo)::d'.at F0 bf bb bo kp fr fs))),e1,h3.perm (so _ _ _),fun w2 h4=>?_⟩;have hv2:∀b x,See w ((b,mvR 6 p 76 c 0,47)::(A++((S'++Sd)++(Sm++(Ezq++((mo,x,tMo)::d'.at F0 bf bb bo kp fr fs)))))) (.slice p 76 c) (ak l):=fun b x=>by
  have h:=hv ((S'++Sd)++(Sm++Ezq)) x (flR bb d'.er d'.pr) d'.y (otR bf fr fs d'.n d'.m) (bkR bf bo d'.p d'.kn d'.kc d'.φ) (coR kp fr fs d'.s d'.q d'.bt d'.rg);rw[Xc (S'++Sd),Xc Sm]at h;haveI:=h
  infer_instance
 have o4:∀M,SeeS w ((S'++Sd)++M) d'.s d'.q:=fun M=>by rw[Xc];exact o3 M
 refine(yV (D:=w) (N:=0) (fun v M'=>v=jL fr l∧∃N2,Stg w F0 bf bb bo kp mo fr fs 3 N2∧M'=A++N2) (fun b w5 h5=>?_) h4).mono ?_
 ·by_cases hz:jL fr l=0
  ·have hb:spB l=true:=by unfold jL at hz;cases h:spB l <;> simp[h]at hz ⊢
   have hok:dQ fr (spI l) (spF l)=true:=by unfold jL at hz;cases h:dQ fr (spI l) (spF l) <;> simp[h,hb]at hz ⊢
   have hi:=XC ((Xs _ _).mp hb).2;have hss:yT fr l s=s.add (spI l):=by unfold yT;rw[Ρ hz]
   rw[hz];refine(D5 (G:=fun x=>(b,mvR 6 p 76 c 0,47)::(A++((S'++Sd)++(Sm++(Ezq++((mo,x,tMo)::d'.at F0 bf bb bo kp fr fs)))))) hG hI hl hb hok hc (hv2 b) (by have:=hle.1;omega) hle.2 (fun x=>by haveI:=hsm (Ezq++((mo,x,tMo)::d'.at F0 bf bb bo kp fr fs));infer_instance) (fun k P R wr L u=>by have h:=Ju fr fs s q k P (-1) R wr L u;rw[hrv,hq1,hq2]at h;exact h) (fun w6 h6=>hrev (spI l) hi w6 h6) h5).mono ?_;rintro e Z⟨e2,S,q',h6,h7⟩;refine⟨0,A++((S'++Sd)++(S++((Sm++Ezq)++((mo,_,tMo)::d'.at F0 bf bb bo kp fr fs)))),e2,⟨rfl,_,⟨S'++Sd,S,Sm++Ezq,d',s.add (spI l),q',left-1,P,R,wr,L,u,Zu _,o1,by rw[o2,hss],.inr ⟨spI l,by show s.rv++[spI l]=_;rw[hrv];rfl⟩,o4,fun M=>h6 w M⟩,rfl⟩,h7.perm ?_⟩;rw[Xc Sm];refine(Zq (a:=(b,mvR 6 p 76 c 0,47)) (l₁:=S)).trans (List.Perm.cons _ ?_);exact(so S A _).trans (YZ A (so S _ _))
  ·have hcd:jL fr l=if spB l then 11 else 4:=by
    unfold jL at hz ⊢;cases h1:spB l <;> cases h2:dQ fr (spI l) (spF l) <;> simp[h1,h2]at hz ⊢
   have hss:yT fr l s=s:=by unfold yT;rw[Χ hz]
   rw[hcd];refine(D4 (G:=fun x=>(b,mvR 6 p 76 c 0,47)::(A++((S'++Sd)++(Sm++(Ezq++((mo,x,tMo)::d'.at F0 bf bb bo kp fr fs)))))) hG hI hl (fun hb=>by unfold jL at hz;cases h2:dQ fr (spI l) (spF l);rfl;simp[hb,h2]at hz) hc (hv2 b) h5).mono ?_;rintro e Z⟨e2,h6⟩;exact⟨_,_,e2,⟨rfl,_,⟨S'++Sd,Sm,Ezq,d',s,q,left,P,R,wr,L,u,Zu _,o1,by rw[o2,hss],.inl hrv,o4,hsm⟩,rfl⟩,h6⟩
 ·rintro e Z⟨v,M',e2,⟨rfl,N2,h6,rfl⟩,h7⟩
  exact⟨e2,N2,h6,h7⟩
end
theorem ti(s:Sta)(q q':Sq)(w:ϑ)(h:ReadS w s q)(h':ReadS w s q')(hn:s.rv=[]∨∃id,s.rv=[id]):Rt 20 #[.agg (stR s q),.agg (stR s q')] w (.bool true):=by
 have I:=Loc.nil w;have HA0:=Hd (fun J (hb:Υ w J)=>h.a.below hb);have HA1:=Hd (fun J (hb:Υ w J)=>h.b.below hb);have HB0:=Hd (fun J (hb:Υ w J)=>h'.a.below hb);have HB1:=Hd (fun J (hb:Υ w J)=>h'.b.below hb);have e0:((bn s.m0).toList==(bn s.m0).toList)=true:=by rw[iL];exact Xw rfl
 have e1:((bn s.m1).toList==(bn s.m1).toList)=true:=by rw[iL];exact Xw rfl
 have hr:=h.r;have hr':=h'.r;clear h h';obtain⟨fl,rv,m0,d0,t0,m1,d1,t1,ac⟩:=s;obtain⟨pr,cr,p0,c0,p1,c1⟩:=q;obtain⟨pr',cr',p0',c0',p1',c1'⟩:=q';dsimp only at *
 have hx:∃(n:Nat) (f:∀i,i<n→∃b o b' o' x,pr=some ⟨b,o,none⟩∧pr'=some ⟨b',o',none⟩∧Was w b (o+i) (.int .i64 x)∧Was w b' (o'+i) (.int .i64 x)),rv.length=n∧n≤1:=by
  rcases hn with rfl|⟨id,rfl⟩
  ·exact⟨0,fun i hi=>absurd hi (Nat.not_lt_zero _),rfl,Ξ⟩
  ·obtain⟨_,al,cl,ea,_,hcl⟩:=hr
   obtain⟨_,al',cl',ea',_,hcl'⟩:=hr';cases ea
   cases ea'
   obtain⟨b,o,rfl,hb,hc⟩:=hcl (by simp[cj]);obtain⟨b',o',rfl,hb',hc'⟩:=hcl' (by simp[cj]);exact⟨1,fun i hi=>by
    obtain rfl:i=0:=Ω;exact⟨b,o,b',o',id,rfl,rfl,⟨by rw[hc 0 (by simp[cj])];rfl,hb⟩,⟨by rw[hc' 0 (by simp[cj])];rfl,hb'⟩⟩,rfl,Ξ⟩
 obtain⟨n,hf,hrn,hn1⟩:=hx;simp only[stR,hrn];have HF:=Hd hf;clear hr hr' hn hrn hf;have n1:(n:Int)≤1:=Ω;go_enter func20,ntmps20;go_wp2_with (first|refine aU ?_|refine gBp 2 fun b2 J I=>?_|refine gBp 3 fun b3 J I=>?_|refine ab fun J I=>?_);go_loopw [5] (fun ii wr=>∃k:Nat,k≤n∧ii= .int .i64 k∧Loc w wr [(b3,_,58),(b2,_,58)]) (fun ii _=>n-(intOf ii).toNat);case atStart=>exact⟨0,Ω,rfl,I⟩
 case round =>
  clear I;obtain⟨k,hk,rfl,I⟩:=hrel;by_cases he:k<n
  ·obtain⟨b,o,b',o',x,rfl,rfl,g1,g2⟩:=HF.out k he
   have hk0:(0:Int)≤(k:Int):=Ω;have hk1:(k:Int)<n:=Ω;go_wp2_with (refine ϛ fun J I=>?_);refine Ϭ 11 I fun H I=>?_;refine uG 0 ?_;refine uG 2 ?_;refine uG 5 ?_;refine uG 7 ?_;refine uZ 1 ?_;refine uZ 6 ?_;refine uG 3 ?_;refine uG 8 ?_;refine uZ 4 ?_;refine uZ 9 ?_;refine uG 10 ?_;refine wD ?_;clear H;go_wp2_with (refine ϛ fun J I=>?_);go_roundw;case rel=>exact⟨k+1,Ω,by go_num,I⟩
   case measure=>exact ϝ
  ·obtain rfl:k=n:=Ω
   clear HF;go_wp2_with (refine ϛ fun J I=>?_);go_loopw [6] (fun ii wr=>∃k:Nat,k≤2∧ii= .int .i64 k∧Loc w wr [(b3,_,58),(b2,_,58)]) (fun ii _=>2-(intOf ii).toNat);case atStart=>exact⟨0,Ω,rfl,I⟩
   case round =>
    clear I;obtain⟨j,hj,rfl,I⟩:=hrel;rcases(by omega:j=0∨j=1∨j=2)with rfl|rfl|rfl
    ·skip
     go_wp2_with (refine ϛ fun J I=>?_);refine Ϭ 39 I fun H I=>?_;refine uG 0 ?_;refine uG 1 ?_;refine uG 6 ?_;refine uG 7 ?_;refine uG 2 ?_;refine uG 8 ?_;refine uG 3 ?_;refine uG 9 ?_;refine uZ 4 ?_;refine uZ 10 ?_
     first|refine tk 5 rfl (tc ϕ rfl rfl (fun J h=>HA0.out _ h.bel)) H ?_
     refine p7 ?_
     first|refine tk 11 rfl (tc ϕ rfl rfl (fun J h=>HB0.out _ h.bel)) H ?_
     refine p7 ?_;refine uG 12 ?_;refine uG 13 ?_;refine uS 14 ?_;refine uS 15 ?_;refine uS 19 ?_;refine uS 20 ?_;refine uS 16 ?_;refine uS 21 ?_;refine uS 17 ?_;refine uS 22 ?_;refine uL 18 ?_;refine uL 23 ?_;refine uS 24 ?_;refine uG 25 ?_;refine uG 26 ?_;refine uS 27 ?_;refine uS 28 ?_;refine uS 32 ?_;refine uS 33 ?_;refine uS 29 ?_;refine uS 34 ?_;refine uS 30 ?_;refine uS 35 ?_;refine uL 31 ?_;refine uL 36 ?_;refine uS 37 ?_;refine uG 38 ?_;refine wD ?_;clear H;go_wp2_with (refine ϛ fun J I=>?_);go_roundw;case rel=>exact⟨1,Ω,rfl,I⟩
     case measure=>simp[intOf]
    ·skip
     go_wp2_with (refine ϛ fun J I=>?_);refine Ϭ 39 I fun H I=>?_;refine uG 0 ?_;refine uG 1 ?_;refine uG 6 ?_;refine uG 7 ?_;refine uG 2 ?_;refine uG 8 ?_;refine uG 3 ?_;refine uG 9 ?_;refine uZ 4 ?_;refine uZ 10 ?_
     first|refine tk 5 rfl (tc ϕ rfl rfl (fun J h=>HA1.out _ h.bel)) H ?_
     refine p7 ?_
     first|refine tk 11 rfl (tc ϕ rfl rfl (fun J h=>HB1.out _ h.bel)) H ?_
     refine p7 ?_;refine uG 12 ?_;refine uG 13 ?_;refine uS 14 ?_;refine uS 15 ?_;refine uS 19 ?_;refine uS 20 ?_;refine uS 16 ?_;refine uS 21 ?_;refine uS 17 ?_;refine uS 22 ?_;refine uL 18 ?_;refine uL 23 ?_;refine uS 24 ?_;refine uG 25 ?_;refine uG 26 ?_;refine uS 27 ?_;refine uS 28 ?_;refine uS 32 ?_;refine uS 33 ?_;refine uS 29 ?_;refine uS 34 ?_;refine uS 30 ?_;refine uS 35 ?_;refine uL 31 ?_;refine uL 36 ?_;refine uS 37 ?_;refine uG 38 ?_;refine wD ?_;clear H;go_wp2_with (refine ϛ fun J I=>?_);go_roundw;case rel=>exact⟨2,Ω,rfl,I⟩
     case measure=>simp[intOf]
    ·skip
     go_wp2_with (refine ϛ fun J I=>?_);go_ret;exact⟨rfl,I.bel⟩
instance Wz:Ent 20:=eo func20
theorem Jv(x:Γ)(g:Nat)(w:ϑ)(hv:BRow w (.slice (ϐ g) 1 1) [x]):ϓ 25 #[.slice (ϐ g) 1 1] w fun e Z=>DT (AJ [x]) w e Z:=by
 have I:=Loc.nil w;haveI hA:Arg w (.slice (ϐ g) 1 1) (ak [x]):=⟨hv.vrow⟩;have ho:=F2 (yD [x]);have hx:ak [x]=ak (ae 1 fun _=>x):=rfl;haveI sp:Spl (aa 64 fun _=>0) 0 (ak [x]) (aa 64 (yD [x])):=by
  rw[hx];exact k6 _ _ _ Ω fun k hk=>by
   unfold yD;rcases k with _|k
   ·rfl
   ·rw[Χ Ω]
    rfl
 have HPB:=Hd (show AJ [x]=ae 64 (yD [x])from rfl);rw[HPB.out];have HLEN:=Hd (ag 64 (yD [x]));clear hv hx;generalize ae 64 (yD [x])=L,aa 64 (yD [x])=R64 at *
 go_enter func25,ntmps25;go_wp2_with (refine ϛ fun J I=>?_);go_loopw [4,5,6] (fun o kk x wr=>(kk= .int .i64 0∧o= .slice none 0 0∧Loc w wr [])∨(kk= .int .i64 64∧∃go co uo gb ub,o= .slice (ϐ go) 1 co∧OwnR uo 1 co [.slice (ϐ gb) 64 64]∧OwnR ub 64 64 (ak L)∧Loc w wr [(go,uo,29),(gb,ub,5)])) (fun _ kk _ _=>64-(intOf kk).toNat);case atStart=>exact .inl ⟨rfl,rfl,I⟩
 case round =>
  clear I;rcases hrel with⟨rfl,rfl,I⟩|⟨rfl,go,co,uo,gb,ub,rfl,h1,h2,I⟩
  ·skip
   go_wp2_with (first|refine aU ?_|(refine gN 20 ?_;refine mn (n:=64) I rfl rfl rfl rfl Ξ fun g20 J I=>?_;refine p4 ?_)|(refine gN 25 ?_;refine qq (cur':=R64) I rfl rfl rfl rfl (by simp[ak]) (by simp[ak]) fun J I=>?_;refine p4 ?_)|(refine gN 28 ?_;refine aL fun b28 J I=>?_)|(refine gN 29 ?_;refine tD I rfl rfl rfl rfl Ξ Ξ fun g29 Y29 Z29 J W29 I=>?_;refine p4 ?_)|refine ab fun J I=>?_);go_roundw;case rel=>exact .inr ⟨rfl,g29,Y29,Z29,g20,_,rfl,W29,ho,Loc.rem b28 I⟩
   case measure=>simp only[intOf];decide
  ·skip
   go_wp2_with (refine ϛ fun J I=>?_);go_ret2;exact⟨go,co,uo,gb,64,ub,rfl,by rw[HLEN.out];exact h1,by rw[HLEN.out];exact h2,I⟩
theorem OwnR.putB{E:Ψ}{n W:Nat}{l:Δ}(h:OwnR E n W (ak l)){i:Nat}(hi:i<n)(x:Γ):OwnR (E.setIfInBounds i (.int .u8 (B8 x))) n W (ak (l.set i x)) where
 len:=by rw[ap,List.length_set,← ap];exact h.len
 one:=fun u hu=>by
  unfold ak at hu;obtain⟨y,_,rfl⟩:=List.mem_map.1 hu;rfl
 size:=by rw[Array.size_setIfInBounds];exact h.size
 le:=h.le
 max:=h.max
 take:=by
  rw[Array.toList_setIfInBounds,List.take_set,h.take];unfold ak;rw[List.map_set]
theorem Lx{E:Ψ}{n W:Nat}{xs:List Value}(h:OwnR E n W xs){i:Nat}(hi:i<n)(v:ό):Put E i v (E.setIfInBounds i v):=⟨rfl,by rw[h.size];have:=h.le;omega⟩
abbrev Jw(k1 k2 k3:Int)(p1 p2 p3:ϊ)(n1 n2 n3 c1 c2 c3:Nat):Ψ:= #[.int .i64 k1,.slice p1 n1 c1,.int .i64 0,.int .i64 k2,.slice p2 n2 c2,.int .i64 0,.int .i64 k3,.slice p3 n3 c3,.int .i64 0]
section
variable {ops:Array Oper} {rest:List Oper} {o:Oper} {a:Act} {D w:ϑ} {M:Mem} {Q:ώ}
theorem NS(I:Loc D w M)(hg:o.guard=none){x y z':Operand}(ho:o.op= .buildSlice 48 3 #[(0,x),(1,y),(2,z')]){k1 k2 k3:Int}{p1 p2 p3:ϊ}{n1 n2 n3 c1 c2 c3:Nat}(hx:a.eval x= .agg (mvR k1 p1 n1 c1 0))(hy:a.eval y= .agg (mvR k2 p2 n2 c2 0))(hz':a.eval z'= .agg (mvR k3 p3 n3 c3 0))(h:∀b Z,Loc D Z ((b,Jw k1 k2 k3 p1 p2 p3 n1 n2 n3 c1 c2 c3,47)::M)→wpList prog ops Q rest (a.put o.dst (.slice (ϐ b) 3 3)) Z):wpList prog ops Q (o::rest) a w :=
 Xt hg fun K T=>by
  have h1:(prog.info? 47).map (fun i=>(i.size,i.zero))=some (3,some (.agg (mvR 0 none 0 0 0))):=Θ;obtain⟨i,hi,h2⟩:=Option.map_eq_some_iff.1 h1;obtain⟨hs,hz⟩:=Prod.mk.inj h2;refine Yl 48 47 3 #[(0,x),(1,y),(2,z')] ho (Jw k1 k2 k3 p1 p2 p3 n1 n2 n3 c1 c2 c3) i (.agg (mvR 0 none 0 0 0)) underlying48 hi hz (by rw[hs];decide) (by rw[hs];decide) ?_ (T _ _ (h _ _ (I.alloc (Jw k1 k2 k3 p1 p2 p3 n1 n2 n3 c1 c2 c3) 47)));rw[hs];have e:(Array.map (fun(y:Nat×Operand)=>(y.1,a.eval y.2)) #[(0,x),(1,y),(2,z')]).toList=[(0,Value.agg (mvR k1 p1 n1 c1 0)),(1,Value.agg (mvR k2 p2 n2 c2 0)),(2,Value.agg (mvR k3 p3 n3 c3 0))]:=by simp[hx,hy,hz']
  rw[e];have e1:Array.range (3*3)= #[0,1,2,3,4,5,6,7,8]:=Ξ;simp[Instr.fill,Value.cells,e1]
end
theorem Glob.toK{w:ϑ}(h:Glob w):KAt w:=⟨by have:=h.lt;omega,h.k256⟩
theorem Hq(κ:Φ)(ν:Int)(v0:0≤ν)(v1:ν≤2147483647)(A:ϊ)(n c:Nat)(l:Δ)(hl:l.length=64)(w:ϑ)(hC:∀J,Υ w J→ϓ 25 #[.slice A n c] J fun e Z=>DT l J e Z) :
 ϓ 33 #[.agg (aa 32 κ),.int .i64 ν,.slice A n c] w fun e Z=>DT (es κ ν 0 l) w e Z:=by
 have I:=Loc.nil w;unfold DT at hC ⊢;rw[iH hl];simp only[hl]at hC;have HC:=Hd hC;have HSB:=Hd (fun J p c hv=>tb κ ν 0 v0 v1 Ω Ω p c l hl J hv);clear hC v0 v1 hl;generalize es κ ν 0 l=Tzq at *
 go_enter func33,ntmps33;go_wp2_with (first|refine aU ?_|refine gBp 3 fun b3 J I=>?_|(refine gN 16 ?_;refine lKk (HC.out _ I.bel) ?_;rintro e J⟨go,co,uo,gb,cb,ub,rfl,ho,hb,hN⟩;refine Ϩ (I.join hN) fun I=>?_)|refine ab fun J I=>?_);haveI gc:Cell uo 0 (.slice (ϐ gb) 64 cb):=⟨ho.cell (i:=0) Ϡ⟩;go_loopw [10,11,12,13] (fun o kk x y wr=>(kk= .int .i64 0∧o= .slice none 0 0∧Loc w wr [(go,uo,29),(gb,ub,5),(b3,aa 32 κ,24)])∨(kk= .int .i64 1∧∃g1 c1 u1 g2 c2 u2,o= .slice (ϐ g1) 1 c1∧OwnR u1 1 c1 [.slice (ϐ g2) 80 c2]∧OwnR u2 80 c2 (ak Tzq)∧Loc w wr [(g1,u1,29),(g2,u2,5),(go,uo,29),(gb,ub,5),(b3,aa 32 κ,24)])) (fun _ kk _ _ _=>1-(intOf kk).toNat);case atStart=>exact .inl ⟨rfl,rfl,I⟩
 case round =>
  clear I;rcases hrel with⟨rfl,rfl,I⟩|⟨rfl,g1,c1,u1,g2,c2,u2,rfl,h1,h2,I⟩
  ·skip
   go_wp2_with (refine ϛ fun J I=>?_);refine Ϭ 13 I fun H I=>?_;refine uZ 0 ?_;refine uG 1 ?_;refine uG 2 ?_;refine uG 3 ?_;refine uG 4 ?_;refine uG 5 ?_;refine uZ 6 ?_;refine rd1 7 fun K T=>?_;refine eK (HSB.out _ _ _ (See.bytes (v:= .slice (ϐ gb) 64 cb) I)) ?_;rintro e J⟨g36,Y36,Z36,rfl,W36,hN⟩;refine⟨_,rfl,?_⟩;refine Ϧ (I.join hN) fun I=>?_;refine kO T (I.pop) fun H=>?_;refine uG 8 ?_;refine uG 9 ?_;refine uG 10 ?_;refine uG 11 ?_;refine uG 12 ?_;refine wD ?_;clear H;go_wp2_with (first|refine aU ?_|(refine gN 44 ?_;refine aL fun b44 J I=>?_)|(refine gN 45 ?_;refine tD I rfl rfl rfl rfl Ξ Ξ fun g45 Y45 Z45 J W45 I=>?_;refine p4 ?_)|refine ab fun J I=>?_);go_roundw;case rel=>exact .inr ⟨rfl,g45,Y45,Z45,g36,Y36,Z36,rfl,W45,W36,Loc.rem b44 I⟩
   case measure=>simp only[intOf];decide
  ·skip
   go_wp2_with (refine ϛ fun J I=>?_);go_ret2;exact⟨g1,c1,u1,g2,c2,u2,rfl,h1,h2,I.sub (((Yd _).cons_cons _).cons_cons _)⟩
instance WA:Ent 33:=eo func33
theorem QD:OwnR #[.int .u8 0] 1 1 (ak [0]):=⟨rfl,bY _,rfl,Xn _,Ξ,rfl⟩
theorem yY(g co:Nat)(p:ϊ)(n c:Nat)(l:Δ)(hn:n≤1000000)(h0:0<n)(w:ϑ)(hk:KAt w)(hg:Was w g 0 (.slice p n c))(hv:BRow w (.slice p n c) l) :
 Rt 38 #[.slice (ϐ g) 1 co] w (.agg (aa 32 (sha (0::l)))):=by
 have I:=Loc.nil w;have hnl:n=l.length:=by
  obtain⟨_,_,e,_⟩:=hv;injection e
 haveI hA:Arg w (.slice p n c) (ak l):=⟨hv.vrow⟩;have HS:=Hd (fun J (V:Υ w J) u (h:BRow J u ([0]++l))=>(show Rt 29 #[u] J (.agg (aa 32 (sha (0::l))))from dB u _ J h Ϟ (hk.below V)));haveI:=QD;clear hk hv hnl;generalize sha (0::l)=Tzq at *
 go_enter func38,ntmps38;go_wp2_with (first|refine aU ?_|refine gBp 2 fun b2 J I=>?_|(refine gN 13 ?_;refine aL fun b13 J I=>?_)|(refine gN 17 ?_;refine aA ?_;intro g17 Y17 Z17 J W17 I)|(go_at_call 29;go_loud (refine(HS.out _ I.bel (.slice (ϐ g17) (1+n) Y17) (See.bytes I)).mono ?_);rintro e J⟨rfl,V⟩;replace I:=I.keep V;refine p4 ?_)|refine ab fun J I=>?_);exact Λ
instance WB:Ent 38:=eo func38
theorem Hr(ν ζ:Int)(rt:Φ)(p:ϊ)(n c:Nat)(id:Int)(κ cs:Φ)(w:ϑ):(Instr.build 79 #[(0,.int .i64 ν),(1,.int .i64 ζ),(2,.agg (aa 32 rt)),(3,.slice p n c),(4,.agg (ctR id κ cs))]).run prog w= .ok (.agg (mfR ν ζ rt p n c id κ cs fun _=>0)) w:=Θ
def Cl(m:Man)(l:Δ)(w:ϑ)(e:Ending)(Z:ϑ):Prop :=
 ∃g W E go co uo gb cb ub,e= .returned (.tuple #[.slice (ϐ g) 300 W,.slice (ϐ go) 1 co,.int .i64 0])∧OwnR E 300 W (ak m.bytes)∧OwnR uo 1 co [.slice (ϐ gb) 80 cb]∧OwnR ub 80 cb (ak l)∧Loc w Z [(g,E,5),(go,uo,29),(gb,ub,5)]
theorem ph(a b c d:Φ)(id ν:Int)(i0:0≤id)(i1:id≤2147483647)(v0:0≤ν)(v1:ν≤2147483647)(A:ϊ)(n cc:Nat)(l:Δ)(hl:l.length=64)(w:ϑ)[hG:Glob w][hI:GlobI w](hC:∀J,Υ w J→ϓ 25 #[.slice A n cc] J fun e Z=>DT l J e Z) :
 ϓ 11 #[.agg (cp a b c d),.int .i64 id,.int .i64 ν,.slice A n cc] w fun e Z =>
  Cl (G7 a b c d id ν 1 (sha (0::es (cX d ν) ν 0 l))) (es (cX d ν) ν 0 l) w e Z:=by
 have I:=Loc.nil w;have hbl:=iH (κ:=cX d ν) (ν:=ν) (i:=0) hl;have HK:=Hd (fun J (V:Υ w J)=>DR a b c d ν Ω J (hG.below V).toK);have hmk:=(fun J (V:Υ w J)=>Hq (cX d ν) ν v0 v1 A n cc l hl J fun w2 hb2=>hC w2 (V.trans (hb2.mono V.size)));unfold DT at hmk;simp only[hbl]at hmk;have HM:=Hd hmk;clear hmk hC;have HSC:=Hd (fun J (V:Υ w J)=> @vQ a id (ah (gZ (ae 32 b))) J (hG.below V) (hI.below V) i0 i1 (DP _));have HSH:=Hd (fun J (V:Υ w J) u (h:BRow J u (ae 32 (cX d ν)))=>dB u (ae 32 (cX d ν)) J h (by rw[ag];decide) (hG.below V).toK);have HW:=Hd (fun J (V:Υ w J)=>yu (ah (a7 c bO)) (sha (ae 32 (cX d ν))) (cX d ν) (Jp _ _).2 J (hG.below V).toK);have HRT:=Hd (fun J (V:Υ w J) g co p c hg hv=>yY g co p 80 c (es (cX d ν) ν 0 l) Ξ Ξ J (hG.below V).toK hg hv);have HPB:=Hd (fun J (V:Υ w J)=> @mh b J (hG.below V));haveI f1:FnC 36 #[.agg (aa 32 c)] (.agg (aa 32 (ah (a7 c bO)))):=Ϙ;obtain⟨rt,hrt⟩:∃rt,rt=sha (0::es (cX d ν) ν 0 l):=⟨_,rfl⟩;rw[← hrt]at HRT ⊢;have hU:=Jr a b c d rt i0 i1 v0 v1 (by omega:(1:Int)≤1) Ω;have hT:=Ch a b c d rt i0 i1 v0 v1 (by omega:(1:Int)≤1) Ω;have HSM:=Hd (fun J (V:Υ w J) p c' (hv:BRow J (.slice p 80 c') (nF (ah (a7 c bO)) (sha (ae 32 (cX d ν))) (cX d ν)))=>(show ϓ 37 #[.agg (aa 32 b),.agg (mfR ν 1 rt p 80 c' id (ah (gZ (ae 32 b))) (ia (ae 32 a) (dG id (ah (gZ (ae 32 b))))) fun _=>0)] J fun e Z=>∃g W E,e= .returned (.tuple #[.agg (mfR ν 1 rt (ϐ g) 80 W id (ah (gZ (ae 32 b))) (ia (ae 32 a) (dG id (ah (gZ (ae 32 b))))) (ia (ae 32 b) (DO a b c d id ν 1 rt).body)),.int .i64 0])∧OwnR E 80 W (ak (nF (ah (a7 c bO)) (sha (ae 32 (cX d ν))) (cX d ν)))∧Loc J Z [(g,E,5)]from @AI b _ hU p c' J (hG.below V) hv));have HPK:=Hd (fun J p c' (hv:BRow J (.slice p 80 c') (nF (ah (a7 c bO)) (sha (ae 32 (cX d ν))) (cX d ν)))=>(show ϓ 27 #[.agg (mfR ν 1 rt p 80 c' id (ah (gZ (ae 32 b))) (ia (ae 32 a) (dG id (ah (gZ (ae 32 b))))) (ia (ae 32 b) (DO a b c d id ν 1 rt).body))] J fun e Z=>∃g W E,e= .returned (.tuple #[.slice (ϐ g) 300 W,.int .i64 0])∧OwnR E 300 W (ak (G7 a b c d id ν 1 rt).bytes)∧Loc J Z [(g,E,5)]from ya _ hT p c' J hv));clear hU hT hrt i0 i1 v0 v1 hl hbl;unfold Cl;generalize(G7 a b c d id ν 1 rt).bytes=MB at *
 generalize ia (ae 32 b) (DO a b c d id ν 1 rt).body=SG at *
 generalize ia (ae 32 a) (dG id (ah (gZ (ae 32 b))))=CS at *
 generalize ah (gZ (ae 32 b))=PB at *
 generalize nF (ah (a7 c bO)) (sha (ae 32 (cX d ν))) (cX d ν)=WR at *
 generalize sha (ae 32 (cX d ν))=SK at *
 generalize ah (a7 c bO)=LC at *
 generalize es (cX d ν) ν 0 l=BL at *
 generalize cX d ν=KY at *
 have hbm:=(fun p c' J=>Hr ν 1 rt p 80 c' id PB CS J);haveI hrr:=JT id PB CS;obtain⟨MR,hMR⟩:∃MR:ϊ→Nat→Ψ,∀p c',mfR ν 1 rt p 80 c' id PB CS SG=MR p c':=⟨_,fun _ _=>rfl⟩;haveI hrM:∀p c',Row1 (MR p c') 196:=fun p c'=>by rw[← hMR];infer_instance
 obtain⟨MU,hMU⟩:∃MU:ϊ→Nat→Ψ,∀p c',mfR ν 1 rt p 80 c' id PB CS (fun _=>0)=MU p c':=⟨_,fun _ _=>rfl⟩;haveI hrU:∀p c',Row1 (MU p c') 196:=fun p c'=>by rw[← hMU];infer_instance
 simp only[hMU]at hbm;have hsm:=HSM.out;have hpk:=HPK.out;simp only[hMR,hMU]at hsm hpk;clear HSM HPK hMR hMU;have HSM:=Hd hsm;have HPK:=Hd hpk;have HBM:=Hd hbm;clear hsm hpk hbm;generalize ctR id PB CS=CR at *
 go_enter func11,ntmps11;go_wp2_with (first|refine aU ?_|refine gBp 4 fun b4 J I=>?_|refine gBp 11 fun b11 J I=>?_|(go_at_call 32;go_loud (refine(HK.out _ I.bel).mono ?_);rintro e J⟨rfl,V⟩;replace I:=I.keep V;refine p4 ?_)|(refine gN 25 ?_;refine lKk (HM.out _ I.bel) ?_;rintro e J⟨go,co,uo,gb,cb,ub,rfl,ho,hb,hN⟩;refine Ϩ (I.join hN) fun I=>?_)|refine ab fun J I=>?_);haveI gc:Cell uo 0 (.slice (ϐ gb) 80 cb):=⟨ho.cell (i:=0) Ϡ⟩;refine eQ (R:=?R) (fun hR=>?h1) ?h2;case h1 =>
  refine mX (S:=(fun Z=>Loc w Z [(go,uo,29),(gb,ub,5),(b11,aa 32 KY,24),(b4,cp a b c d,26)])) 13 ϒ ?_;intro H;replace I:=I.drew;refine uG 0 ?_;refine uG 2 ?_;refine uG 3 ?_;refine uZ 1 ?_;refine uZ 4 ?_;refine rd2 5 10 ?_ ?_
  ·intro K T
   refine eVv (HPB.out _ I.bel) I ?_;clear I;intro J I;refine kO T ϒ ?_;clear T K H;intro H;refine rd2 6 10 ?_ ?_
   ·intro K T
    refine eVv (HSC.out _ I.bel) I ?_;clear I;intro J I;refine kO T ϒ ?_;clear T K H;intro H;refine uG 7 ?_;refine uG 8 ?_;refine uG 9 ?_;refine rd1 10 fun K T=>?_;refine eA I rfl ?_;clear I;intro b14 J I;refine kO T ϒ ?_;clear T K H;intro H;refine rd1 11 fun K T=>?_;refine cY ?_;clear I;intro J I;refine kO T ϒ ?_;clear T K H;intro H;refine uG 12 ?_;refine wD ?_;clear H;have hLp:=I;clear I;revert hLp;revert J;revert b14;exact pm hR
   ·intro K T
    refine eA I rfl ?_;clear I;intro b14 J I;refine kO T ϒ ?_;clear T K H;intro H;refine rd1 6 fun K T=>?_;refine eVv (HSC.out _ I.bel) I ?_;clear I;intro J I;refine kO T ϒ ?_;clear T K H;intro H;refine uG 7 ?_;refine uG 8 ?_;refine uG 9 ?_;refine rd1 11 fun K T=>?_;refine cY ?_;clear I;intro J I;refine kO T ϒ ?_;clear T K H;intro H;refine uG 12 ?_;refine wD ?_;clear H;have hLp:=I;clear I;revert hLp;revert J;revert b14;exact pm hR
  ·intro K T
   refine eA I rfl ?_;clear I;intro b14 J I;refine kO T ϒ ?_;clear T K H;intro H;refine rd1 5 fun K T=>?_;refine eVv (HPB.out _ I.bel) I ?_;clear I;intro J I;refine kO T ϒ ?_;clear T K H;intro H;refine rd1 6 fun K T=>?_;refine eVv (HSC.out _ I.bel) I ?_;clear I;intro J I;refine kO T ϒ ?_;clear T K H;intro H;refine uG 7 ?_;refine uG 8 ?_;refine uG 9 ?_;refine rd1 11 fun K T=>?_;refine cY ?_;clear I;intro J I;refine kO T ϒ ?_;clear T K H;intro H;refine uG 12 ?_;refine wD ?_;clear H;have hLp:=I;clear I;revert hLp;revert J;revert b14;exact pm hR
 intro b14 J Y;clear I;have I:=Y;clear Y;go_wp2_with (refine ϛ fun J I=>?_);refine Ϭ 12 I fun H I=>?_;refine uG 0 ?_;refine uG 3 ?_;refine uZ 5 ?_;refine uZ 1 ?_;refine rd1 2 fun K T=>?_;refine eCl fun J I=>?_;refine kO T (I) ?_;clear T K H;intro H;refine rd1 4 fun K T=>?_;refine eVv (HSH.out _ I.bel (.slice (ϐ b11) 32 32) (See.bytes I)) I fun J I=>?_;refine kO T (I) ?_;clear T K H;intro H;refine rd1 6 fun K T=>?_;refine eK (HW.out _ I.bel) ?_;rintro e J⟨g51,Y51,Z51,rfl,W51,hN⟩;refine⟨_,rfl,?_⟩;refine Ϧ (I.join hN) fun I=>?_;refine kO T (I.pop) ?_;clear T K H;intro H;refine uG 7 ?_;refine uG 8 ?_;refine uG 9 ?_;refine uG 10 ?_;refine uG 11 ?_;refine wD ?_;clear H;go_wp2_with (refine ϛ fun J I=>?_);refine eQ (R:=?R_2) (fun hR=>?h1_2) ?h2_2;case h1_2 =>
  refine mX (S:=(fun Z=>Loc w Z [(g51,Z51,5),(b14,CR,77),(go,uo,29),(gb,ub,5),(b11,aa 32 KY,24),(b4,cp a b c d,26)])) 17 ϒ ?_;intro H;replace I:=I.drew;refine uG 0 ?_;refine uG 2 ?_;refine uG 3 ?_;refine uG 5 ?_;refine uG 7 ?_;refine uZ 8 ?_;refine uZ 1 ?_;refine uG 4 ?_;refine rd2 6 14 ?_ ?_
  ·intro K T
   refine eVv (HRT.out _ I.bel go co _ _ (jt I (At.mem (b:=go)) (ho.cell (i:=0) Ϡ)) (See.bytes I)) I ?_;clear I;intro J I;refine kO T ϒ ?_;clear T K H;intro H;refine uT 9 (hi:=rfl) (zU ϕ rfl (HBM.out _ _) rfl) ?_;refine rd2 10 14 ?_ ?_
   ·intro K T
    refine eK (HSM.out _ I.bel _ _ (See.bytes I)) ?_;rintro e J⟨g68,Y68,Z68,rfl,W68,hN⟩;refine⟨_,rfl,?_⟩;have Y:=I.join hN;clear hN I;revert Y;refine aJ ?_;intro I;refine kO T ϒ ?_;clear T K H;intro H;refine uG 11 ?_;refine uG 12 ?_;refine uG 13 ?_;refine rd1 14 fun K T=>?_;refine eA I rfl ?_;clear I;intro b16 J I;refine kO T ϒ ?_;clear T K H;intro H;refine rd1 15 fun K T=>?_;refine cY ?_;clear I;intro J I;refine kO T ϒ ?_;clear T K H;intro H;refine uG 16 ?_;refine wD ?_;clear H;have hLp:=I;clear I;revert hLp;revert J;revert b16;revert W68;revert Z68;revert Y68;revert g68;exact pm hR
   ·intro K T
    refine eA I rfl ?_;clear I;intro b16 J I;refine kO T ϒ ?_;clear T K H;intro H;refine rd1 10 fun K T=>?_;refine eK (HSM.out _ I.bel _ _ (See.bytes I)) ?_;rintro e J⟨g68,Y68,Z68,rfl,W68,hN⟩;refine⟨_,rfl,?_⟩;have Y:=I.join hN;clear hN I;revert Y;refine aJ ?_;intro I;refine kO T ϒ ?_;clear T K H;intro H;refine uG 11 ?_;refine uG 12 ?_;refine uG 13 ?_;refine rd1 15 fun K T=>?_;refine cY ?_;clear I;intro J I;refine kO T ϒ ?_;clear T K H;intro H;refine uG 16 ?_;refine wD ?_;clear H;have hLp:=I;clear I;revert hLp;revert J;revert b16;revert W68;revert Z68;revert Y68;revert g68;exact pm hR
  ·intro K T
   refine eA I rfl ?_;clear I;intro b16 J I;refine kO T ϒ ?_;clear T K H;intro H;refine rd1 6 fun K T=>?_;refine eVv (HRT.out _ I.bel go co _ _ (jt I (At.mem (b:=go)) (ho.cell (i:=0) Ϡ)) (See.bytes I)) I ?_;clear I;intro J I;refine kO T ϒ ?_;clear T K H;intro H;refine uT 9 (hi:=rfl) (zU ϕ rfl (HBM.out _ _) rfl) ?_;refine rd1 10 fun K T=>?_;refine eK (HSM.out _ I.bel _ _ (See.bytes I)) ?_;rintro e J⟨g68,Y68,Z68,rfl,W68,hN⟩;refine⟨_,rfl,?_⟩;have Y:=I.join hN;clear hN I;revert Y;refine aJ ?_;intro I;refine kO T ϒ ?_;clear T K H;intro H;refine uG 11 ?_;refine uG 12 ?_;refine uG 13 ?_;refine rd1 15 fun K T=>?_;refine cY ?_;clear I;intro J I;refine kO T ϒ ?_;clear T K H;intro H;refine uG 16 ?_;refine wD ?_;clear H;have hLp:=I;clear I;revert hLp;revert J;revert b16;revert W68;revert Z68;revert Y68;revert g68;exact pm hR
 intro g68 Y68 Z68 W68 b16 J Y;clear I;have I:=Y;clear Y;go_wp2_with (first|refine aU ?_|(refine gN 76 ?_;refine lKk (HPK.out _ _ _ (See.bytes I)) ?_;rintro e J⟨g76,Y76,Z76,rfl,W76,hN⟩;refine Ϩ (I.join hN) fun I=>?_)|refine ab fun J I=>?_)
 go_ret3
 exact⟨g76,Y76,Z76,go,co,uo,gb,cb,ub,rfl,W76,ho,hb,I.sub (.cons_cons _ (.cons _ (.cons _ (.cons _ (.cons _ (.cons_cons _ (.cons_cons _ (Yd _))))))))⟩
instance WC:Ent 11:=eo func11
theorem eLd{D w:ϑ}{M:Mem}{o:Oper}{a:Act}{K:Act→ϑ→Prop}{Q:ώ}(I:Loc D w M){t:ϋ}{x:Operand}(ho:o.op= .load t x){b k:Nat}(hx:a.eval x= .pointer (some ⟨b,k,none⟩)){r:Ψ}{u:ϋ}{v:ό}[ht:ScTy t][hm:At M b r u][hc:Cell r k v](h:K (a.put o.dst v) w):Oper.wp prog o a w K Q:=by
 unfold Oper.wp execOp;have:=cO (t:=t) (w:=w) (b:=b) (k:=k) (v:=v) (by rw[Ya w b k _ _ _ (I.get hm.mem)];exact hc.cell);simp only[ho,hx,Instr.loadAt,Instr.sureAddr,Sem.run_bind,Sem.run_pure,Result.andThen_ok,this];exact h
theorem Stg.see{w:ϑ}{F0:ύ}{bf bb bo kp mo:Nat}{fr fs:Φ}{k:Nat}{N:Mem}{v:ό}{l:List Value}(h:Stg w F0 bf bb bo kp mo fr fs k N)(hv:∀Ezq x a1 a2 a3 a4 a5,See w (Ezq++((mo,x,tMo)::F0 a1 a2 a3 a4 a5)) v l):See w N v l:=by
 have hp:∀{Sd Sm Ezq:Mem} {d:Dv} {X:Ψ},List.Perm N (yX F0 bf bb bo kp mo fr fs Sd Sm Ezq d X)→See w N v l:=fun{Sd Sm Ezq d X} hp=>by
  have h:=hv (Sd++(Sm++Ezq)) X (flR bb d.er d.pr) d.y (otR bf fr fs d.n d.m) (bkR bf bo d.p d.kn d.kc d.φ) (coR kp fr fs d.s d.q d.bt d.rg);rw[Xc,Xc]at h;exact⟨fun J I=>h.see J (I.perm hp)⟩
 match k with
 | 0=>obtain⟨Ezq,d,P,R,L,u,h1,h2⟩:=h;exact hp h1
 | 1=>obtain⟨l,Sd,Sm,Ezq,d,q,left,P,R,wr,L,u,h1,h2⟩:=h;exact hp h1
 | 2=>obtain⟨l,Sd,Sm,Ezq,d,q,left,P,R,wr,L,u,h1,h2⟩:=h;exact hp h1
 | (n+3)=>obtain⟨Sd,Sm,Ezq,d,s,q,left,P,R,wr,L,u,h1,h2⟩:=h;exact hp h1
def MvX(kd:Nat→Int)(pt:Nat→ϊ)(nl ca:Nat→Nat)(k:Nat)(X:Ψ):Prop :=
 X.size=9∧∀j,k≤j→j<3→X[j*3]?=some (.int .i64 (kd j))∧X[j*3+1]?=some (.slice (pt j) (nl j) (ca j))∧X[j*3+2]?=some (.int .i64 0)
theorem MvX.part{kd:Nat→Int}{pt:Nat→ϊ}{nl ca:Nat→Nat}{k:Nat}{X:Ψ}(h:MvX kd pt nl ca k X)(hk:k<3):Part X 47 (k*3) 47 (mvR (kd k) (pt k) (nl k) (ca k) 0):=⟨fun j v hj=>by
 obtain⟨h1,h2,h3⟩:=h.2 k (Xn _) hk;rcases j with _|_|_|j
 ·cases hj;exact h1
 ·cases hj;exact h2
 ·cases hj;exact h3
 ·simp at hj⟩
theorem MvX.put{kd:Nat→Int}{pt:Nat→ϊ}{nl ca:Nat→Nat}{k:Nat}{X:Ψ}(h:MvX kd pt nl ca k X)(hk:k<3)(p:ϊ)(n c:Nat):Part (X.setIfInBounds (k*3+1) (.slice p n c)) 47 (k*3) 47 (mvR (kd k) p n c 0):=⟨fun j v hj=>by
 obtain⟨h1,h2,h3⟩:=h.2 k (Xn _) hk;have hs:=h.1;rcases j with _|_|_|j
 ·cases hj
  rw[Array.getElem?_setIfInBounds_ne Ω];exact h1
 ·cases hj
  rw[Array.getElem?_setIfInBounds_self_of_lt Ω]
 ·cases hj
  rw[Array.getElem?_setIfInBounds_ne Ω];exact h3
 ·simp at hj⟩
theorem MvX.next{kd:Nat→Int}{pt:Nat→ϊ}{nl ca:Nat→Nat}{k:Nat}{X:Ψ}(h:MvX kd pt nl ca k X):MvX kd pt nl ca (k+1) X:=⟨h.1,fun j h1 h2=>h.2 j Ω h2⟩
theorem MvX.set{kd:Nat→Int}{pt:Nat→ϊ}{nl ca:Nat→Nat}{k:Nat}{X:Ψ}(h:MvX kd pt nl ca k X)(v:ό):MvX kd pt nl ca (k+1) (X.setIfInBounds (k*3+1) v):=⟨by rw[Array.size_setIfInBounds];exact h.1,fun j h1 h2=>by
 obtain⟨g1,g2,g3⟩:=h.2 j Ω h2;rw[Array.getElem?_setIfInBounds_ne Ω,Array.getElem?_setIfInBounds_ne Ω,Array.getElem?_setIfInBounds_ne Ω];exact⟨g1,g2,g3⟩⟩
noncomputable def mT(ς:Int):Man:=G7 (kOf ς fI) (kOf ς fb) (kOf ς fd) (kOf ς i5) 1 1 1 (sha (0::es (cX (kOf ς i5) 1) 1 0 (AJ [120])))
theorem NT(ς:Int):(mT ς).Ok:=Ch _ _ _ _ _ Ξ Ξ Ξ Ξ Ξ Ξ
theorem Jx(ς:Int)(g:Nat)(w J:ϑ)(hG:Glob w)(hI:GlobI w)(hb:Υ w J)(hv:BRow J (.slice (ϐ g) 1 1) [120]):ϓ 11 #[.agg (cp (kOf ς fI) (kOf ς fb) (kOf ς fd) (kOf ς i5)),.int .i64 1,.int .i64 1,.slice (ϐ g) 1 1] J fun e Z=>Cl (mT ς) (es (cX (kOf ς i5) 1) 1 0 (AJ [120])) J e Z :=
 haveI:=hG.below hb;haveI:=hI.below hb
 ph _ _ _ _ 1 1 Ξ Ξ Ξ Ξ _ 1 1 (AJ [120]) (oT _) J fun w2 hb2=>Jv 120 g w2 (hv.below hb2)
theorem yZ{m:Man}(h:m.Ok):m.bytes.length=300:=by simp[Man.bytes,Man.body,h.w,aw,ag]
theorem D9(ς which:Int)(at_:Nat)(y:Γ)(hs: -9223372036854775808≤ς∧ς≤9223372036854775807)(hw: -9223372036854775808≤which∧which≤9223372036854775807)(ha1:(at_:Int)≤9223372036854775807)(hy:¬B8 y=0)(w:ϑ)(hG:Glob w)(hI:GlobI w) :
 Rt 3 #[.int .i64 ς,.int .i64 which,.int .i64 (at_:Int),.int .u8 (B8 y)] w (.bool true):=by
 have I:=Loc.nil w;have HS:=Hd (fun J (h:KAt J)=>Do ς hs J h);have HMK:=Hd (fun g J (V:Υ w J) hv=>Jx ς g w J hG hI V hv);have HLM:=Hd (yZ (NT ς));have HLB:=Hd (iH (κ:=cX (kOf ς i5) 1) (ν:=1) (i:=0) (oT [120]));have HRK:=Hd (fun J (h:Glob J)=>(show Rt 10 #[.agg (cp (kOf ς fI) (kOf ς fb) (kOf ς fd) (kOf ς i5))] J (.agg (aa 32 (ah (gZ (ae 32 (kOf ς fI))))))from xZ _ _ _ _ J h));have HST:=Hd (fun J (hg:Glob J)=>Aq (kOf ς fI) (kOf ς fb) (kOf ς fd) (kOf ς i5) 3 (by unfold eX;decide) J hg);have HLS:=Hd (show(ef 3 (ia (ae 32 (kOf ς fI)) (cK 3))).length=76 by simp[ef,aw,ag]);generalize ef 3 (ia (ae 32 (kOf ς fI)) (cK 3))=SB,es (cX (kOf ς i5) 1) 1 0 (AJ [120])=BL at *
 unfold Cl at HMK;generalize(mT ς).bytes=MB,ah (gZ (ae 32 (kOf ς fI)))=rk at *
 generalize kOf ς fI=k0,kOf ς fb=k1,kOf ς fd=k2,kOf ς i5=k3 at *
 have HG:=Hd hG;have HI:=Hd hI;have HNM:=Hd (fun J=>vY rk k2 J);have ha0:(0:Int)≤(at_:Int):=Ω;have hn0:¬((at_:Int)<0):=Ω;clear hG hI hs;go_enter func3,ntmps3;go_wp2_with (first|refine aU ?_|refine gBp 10 fun b10 J I=>?_|refine gBp 11 fun b11 J I=>?_|(refine gN 29 ?_;refine lV (oq _) I fun J I=>?_)|(refine gN 42 ?_;refine lV (HS.out _ (I.glob HG.out).kat) I fun J I=>?_)|(refine gN 44 ?_;refine lV (HRK.out _ (I.glob HG.out)) I fun J I=>?_)|((with_reducible show wpList _ _ _ (⟨some 47,_,_,_,_,_⟩::⟨some 48,_,_,_,_,_⟩::_) _ _);go_loud (refine JR 120 I rfl rfl rfl rfl rfl (fun _=>rfl) ?_);clear I;intro b48 w48 hb48 I;refine p4 ?_)|(refine gN 49 ?_;refine lKk (HMK.out b48 _ I.bel hb48) ?_;rintro e J⟨g49,Y49,Z49,go,co,uo,gb,cb,ub,rfl,W49,ho1,hbb,hN⟩;refine⟨_,rfl,?_⟩;haveI gc:Cell uo 0 (.slice (ϐ gb) 80 cb):=⟨ho1.cell (i:=0) Ϡ⟩;refine Ϧ (I.join hN) fun I=>?_)|(refine gN 55 ?_;refine lKk (HST.out _ (I.glob HG.out)) ?_;rintro e J⟨g55,Y55,Z55,rfl,W55,hN⟩;refine Ϩ (I.join hN) fun I=>?_)|(refine gN 58 ?_;refine lKk (m9 _) ?_;rintro e J⟨bf,bb,Z0,rfl,hFil,hN⟩;refine Ϩ (I.join hN) fun I=>?_)|(refine gN 63 ?_;refine lKk (rm bf rk k2 100 Ξ _) ?_;rintro e J⟨bo,rfl,hN⟩;refine Ϩ (I.join hN) fun I=>?_)|(refine gN 67 ?_;refine lKk (BX (F:=foF [(g55,Z55,5),(g49,Z49,5),(go,uo,29),(gb,ub,5),(b11,aa 32 rk,24),(b10,cp k0 k1 k2 k3,26)] bf bb bo) (bf:=bf) (bb:=bb) (bo:=bo) Ϙ Ξ Ξ Ξ Ξ hFil.fl I) ?_;rintro e J⟨bk,kp,a0,a1,cc,dd,d0,rfl,hFr,Y⟩;have HFR:=Hd hFr;clear hFr;refine Ϥ Y fun I=>?_)|(refine gN 73 ?_;refine lKk (HNM.out _) ?_;rintro e J⟨mo,P0,R0,L0,u0,rfl,hE,hR,hZ,hN⟩;refine Ϩ (I.join hN) fun I=>?_)|(refine gN 75 ?_;refine lV (jc _ _) I fun J I=>?_)|(refine gN 78 ?_;refine ϙ (kV 1 (ϐ g49) 300 Y49) fun J I=>?_)|(refine gN 82 ?_;refine ϙ (kV 2 (ϐ gb) 80 cb) fun J I=>?_)|(refine gN 84 ?_;refine ϙ (kV 6 (ϐ g55) 76 Y55) fun J I=>?_)|(refine gN 85 ?_;go_loud (refine NS I rfl rfl rfl rfl rfl ?_);clear I;intro b85 w85 I;refine p4 ?_)|refine ab fun J I=>?_);obtain⟨F0,hF0⟩:∃F0,F0=vF (foF [(g55,Z55,5),(g49,Z49,5),(go,uo,29),(gb,ub,5),(b11,aa 32 rk,24),(b10,cp k0 k1 k2 k3,26)] bf bb bo) bf bo bk kp a0 a1 cc dd:=⟨_,rfl⟩;have hCF:CoM F0 bf bb bo bk kp a0 a1 cc:=by rw[hF0];exact Lo _ bf bb bo bk kp a0 a1 cc dd
 have hDF:∀x y z u c,At (F0 x y z u c) dd (dvR bf cc) 126:=by rw[hF0];exact fun x y z u c=>Ϙ
 have hX0:∃(kd:Nat→Int) (pt:Nat→ϊ) (nl ca:Nat→Nat) (lk:Nat→Δ),MvX kd pt nl ca 0 (Jw 1 2 6 (ϐ g49) (ϐ gb) (ϐ g55) 300 80 76 Y49 cb Y55)∧(∀k,k<3→(lk k).length=nl k∧0<nl k∧nl k≤300∧nl k≤ca k∧(∀Ezq x a1 a2 a3 a4 a5,See w (Ezq++((mo,x,tMo)::F0 a1 a2 a3 a4 a5)) (.slice (pt k) (nl k) (ca k)) (ak (lk k)))) ∧
  ∀k,k<3→∀(A N:Mem) J p c l,Stg w F0 bf bb bo kp mo rk k2 k N→l.length=nl k→nl k≤c→(∀Ezq x a1 a2 a3 a4 a5,See w (A++(Ezq++((mo,x,tMo)::F0 a1 a2 a3 a4 a5))) (.slice p (nl k) c) (ak l))→Loc w J (A++N)→Hp w F0 bf bb bo kp dd mo rk k2 A (mvR (kd k) p (nl k) c 0) k J:=by
  refine⟨fun k=>if k=0 then 1 else if k=1 then 2 else 6,fun k=>if k=0 then some ⟨g49,0,none⟩else if k=1 then some ⟨gb,0,none⟩else some ⟨g55,0,none⟩,fun k=>if k=0 then 300 else if k=1 then 80 else 76,fun k=>if k=0 then Y49 else if k=1 then cb else Y55,fun k=>if k=0 then MB else if k=1 then BL else SB,⟨rfl,fun j _ hj=>?_⟩,fun k hk=>?_,fun k hk A N J p c l h1 h2 h3 h4 h5=>?_⟩
  ·rcases(by omega:j=0∨j=1∨j=2)with rfl|rfl|rfl <;> exact⟨rfl,rfl,rfl⟩
  ·rcases(by omega:k=0∨k=1∨k=2)with rfl|rfl|rfl
   ·exact⟨HLM.out,Ξ,Ξ,W49.le,fun Ezq x a1 a2 a3 a4 a5=>by rw[hF0];show See w _ (.slice (ϐ g49) 300 Y49) (ak MB);infer_instance⟩
   ·exact⟨HLB.out,Ξ,Ξ,hbb.le,fun Ezq x a1 a2 a3 a4 a5=>by rw[hF0];show See w _ (.slice (ϐ gb) 80 cb) (ak BL);infer_instance⟩
   ·exact⟨HLS.out,Ξ,Ξ,W55.le,fun Ezq x a1 a2 a3 a4 a5=>by rw[hF0];show See w _ (.slice (ϐ g55) 76 Y55) (ak SB);infer_instance⟩
  ·rcases(by omega:k=0∨k=1∨k=2)with rfl|rfl|rfl
   ·exact D7 hCF hDF HG.out HI.out h1 h2 h3 h4 h5
   ·exact A4 hCF hDF h1 h2 h3 h4 h5
   ·exact D8 hCF hDF HG.out HI.out h1 h2 h3 h4 h5
 obtain⟨kd,pt,nl,ca,lk,hMX,hFC,hDO⟩:=hX0;have hS0:Stg w F0 bf bb bo kp mo rk k2 0 ((mo,moR rk k2 Sta.new Sq.none 100 P0 (-1) R0 ⟨#[]⟩ L0 u0,tMo)::d0.at F0 bf bb bo kp rk k2):=⟨[],d0,P0,R0,L0,u0,Zu _,⟨HFR.out.ok,by rw[HFR.out.n];decide,HFR.out.m,HFR.out.bt,HFR.out.s,[],[],[],rfl,by rw[HFR.out.s,HFR.out.q];exact NO⟩,hE,hR,hZ⟩;rw[← hF0]at I;have HDO:=Hd hDO;have HFC:=Hd hFC;have HDF:=Hd (⟨hCF,hDF⟩:_∧_);clear hDO hFC hF0 hCF hDF HFR hE hR hZ W49 ho1 hbb gc W55 hFil HS HMK HLM HLB HRK HST HLS HNM HG HI;go_loopw [23] (fun ii wr=>∃(k:Nat) (X:Ψ) (N:Mem),k≤3∧ii= .int .i64 k∧MvX kd pt nl ca k X∧Stg w F0 bf bb bo kp mo rk k2 k N∧Loc w wr ((b85,X,47)::N)) (fun ii _=>3-(intOf ii).toNat);case atStart=>exact⟨0,_,_,Ω,rfl,hMX,hS0,I⟩
 case round =>
  clear I hMX hS0;obtain⟨k,X,N,hk,rfl,hMX,hSt,I⟩:=hrel;by_cases he:k<3
  ·have q0:(0:Int)≤(k:Int):=Ω
   have q1:(k:Int)<3:=Ω;have HST:=Hd hSt;have HMX:=Hd hMX;have hfc:=HFC.out k he;have HN0:=Hd hfc.2.1;have HDK:=Hd (fun(A N:Mem) J p c l h1 h2 h3 h4 h5=>(by have:=HDO.out k he A N J p c l h1 h2 h3 h4 h5;unfold Hp at this;exact this:ϓ 18 #[aT dd,.agg (mvR (kd k) p (nl k) c 0)] J fun e Z=>∃v N',e= .returned (.tuple #[.slice none 0 0,.int .i64 v])∧Loc w Z (A++N')∧∀w2,Loc w w2 (A++N')→ϓ 19 #[aT mo,.agg (mvR (kd k) p (nl k) c 0)] w2 fun e w3=>e= .returned (.tuple #[.slice none 0 0,.int .i64 v])∧∃N2,Stg w F0 bf bb bo kp mo rk k2 (k+1) N2∧Loc w w3 (A++N2)));have HFK:=Hd hfc;clear hfc HDO HFC hk hSt hMX;by_cases hwh:(k:Int)=which
   ·subst hwh
    haveI hsee:See w N (.slice (pt k) (nl k) (ca k)) (ak (lk k)):=HST.out.see HFK.out.2.2.2.2;haveI hc1:Cell X (k*3+1) (.slice (pt k) (nl k) (ca k)):=⟨(HMX.out.2 k (Xn _) he).2.1⟩;haveI hp1:∀p n c,Part (X.setIfInBounds (k*3+1) (.slice p n c)) 47 (k*3) 47 (mvR (kd k) p n c 0):=fun p n c=>HMX.out.put he p n c;haveI hu1:∀v,Put X (k*3+1) v (X.setIfInBounds (k*3+1) v):=fun v=>⟨rfl,by rw[HMX.out.1];omega⟩;have hn0:=HN0.out;have hq1:(at_:Int).tmod (nl k:Int)<(nl k:Int):=Int.tmod_lt_of_pos _ Ω;have hq2:0≤(at_:Int).tmod (nl k:Int):=Int.tmod_nonneg _ ha0;have hqlt:((at_:Int).tmod (nl k:Int)).toNat<nl k:=Ω;have HQ:=Hd hqlt;have hsz:=HFK.out.2.2.1;have hz1:(nl k=0)=False:=eq_false Ω;have HX8:=Hd (fun x=>je x y);go_wp2_with (first|refine aU ?_|(refine gN 100 ?_;(refine lP I rfl rfl rfl rfl HN0.out ϖ fun g100 Y100 Z100 J W100 Y=>?_);clear I;have I:=Y;clear Y;refine p4 ?_)|refine ab fun J I=>?_);have hlk:((at_:Int).tmod (nl k:Int)).toNat<(lk k).length:=by rw[HFK.out.1];exact HQ.out
    haveI hc2:=W100.cellB hlk;haveI hu2:∀v,Put Z100 ((at_:Int).tmod (nl k:Int)).toNat v (Z100.setIfInBounds ((at_:Int).tmod (nl k:Int)).toNat v):=fun v=>Lx W100 HQ.out v;have HX9:=Hd (HX8.out ((lk k)[((at_:Int).tmod (nl k:Int)).toNat]));have HR9:=Hd (fun v=>W100.putB HQ.out v);refine mX (S:=(fun _=>True)) 16 (trivial) ?_;intro H;replace I:=I.drew;refine uG 0 ?_;refine uG 1 ?_;refine uG 2 ?_;refine uG 5 ?_;refine uG 6 ?_;refine uG 7 ?_;refine uG 12 ?_;refine uG 3 ?_;refine uG 8 ?_;refine uG 4 ?_;refine uG 9 ?_;refine uG 10 ?_;refine rd1 11 fun K T=>?_;refine eLd I rfl rfl ?_;have Y:=I;clear I;have I:=Y;clear Y;refine kO T (trivial) fun H=>?_;refine uG 13 ?_;refine uG 14 ?_;refine rd1 15 fun K T=>?_;refine cY fun J I=>?_;refine kO T (trivial) fun H=>?_;refine wD ?_;clear H;rw[HX9.out]at I;haveI hr2:=HR9.out ((lk k)[((at_:Int).tmod (nl k:Int)).toNat]^^^y);generalize Z100.setIfInBounds ((at_:Int).tmod (nl k:Int)).toNat (.int .u8 (B8 ((lk k)[((at_:Int).tmod (nl k:Int)).toNat]^^^y)))=Z2 at *
    have HLN:=Hd (show((lk k).set ((at_:Int).tmod (nl k:Int)).toNat ((lk k)[((at_:Int).tmod (nl k:Int)).toNat]^^^y)).length=nl k by rw[List.length_set];exact HFK.out.1);generalize(lk k).set ((at_:Int).tmod (nl k:Int)).toNat ((lk k)[((at_:Int).tmod (nl k:Int)).toNat]^^^y)=l2 at *
    have HMX2:=Hd (HMX.out.set (.slice (ϐ g100) (nl k) Y100));haveI hp2:=hp1 (ϐ g100) (nl k) Y100;haveI hu3:=hu1 (.slice (ϐ g100) (nl k) Y100);obtain⟨X2,hX2⟩:∃X2,X2=X.setIfInBounds (k*3+1) (.slice (ϐ g100) (nl k) Y100):=⟨_,rfl⟩;rw[← hX2]at hp2 hu3 HMX2;have hd1:∀J,Loc w J ((g100,Z2,5)::(b85,X2,47)::N)→ϓ 18 #[aT dd,.agg (mvR (kd k) (ϐ g100) (nl k) Y100 0)] J fun e Z=>∃v N',e= .returned (.tuple #[.slice none 0 0,.int .i64 v])∧Loc w Z ((g100,Z2,5)::(b85,X2,47)::N')∧∀w2,Loc w w2 ((g100,Z2,5)::(b85,X2,47)::N')→ϓ 19 #[aT mo,.agg (mvR (kd k) (ϐ g100) (nl k) Y100 0)] w2 fun e w3=>e= .returned (.tuple #[.slice none 0 0,.int .i64 v])∧∃N2,Stg w F0 bf bb bo kp mo rk k2 (k+1) N2∧Loc w w3 ((g100,Z2,5)::(b85,X2,47)::N2):=fun J h=>HDK.out [(g100,Z2,5),(b85,X2,47)] N J _ _ l2 HST.out HLN.out W100.le (fun Ezq x a1 a2 a3 a4 a5=>by show See w ((g100,Z2,5)::_) _ _;infer_instance) h;have HD1:=Hd hd1;clear hd1 hu1 hp1 hu2 hc2 hc1 hX2;go_wp2_with (first|refine aU ?_|(refine gN 127 ?_;refine lKk (HD1.out _ I) ?_;rintro e J⟨v,N1,rfl,Y,HMO⟩;refine Ϥ Y fun I=>?_)|(refine gN 136 ?_;refine lKk (HMO _ I) ?_;rintro e J⟨rfl,N2,hS2,Y⟩;refine Ϥ Y fun I=>?_)|(refine gN 140 ?_;refine lV (jc _ _) I fun J I=>?_)|refine ab fun J I=>?_);go_roundw;case rel=>exact⟨k+1,X2,(g100,Z2,5)::N2,Ω,by go_num,HMX2.out,(by apply Stg.cons;exact hS2),I.perm (List.Perm.swap _ _ _)⟩
    case measure=>simp only[intOf];omega
   ·haveI hp1:=HMX.out.part he
    have hd1:∀J,Loc w J ((b85,X,47)::N)→ϓ 18 #[aT dd,.agg (mvR (kd k) (pt k) (nl k) (ca k) 0)] J fun e Z=>∃v N',e= .returned (.tuple #[.slice none 0 0,.int .i64 v])∧Loc w Z ((b85,X,47)::N')∧∀w2,Loc w w2 ((b85,X,47)::N')→ϓ 19 #[aT mo,.agg (mvR (kd k) (pt k) (nl k) (ca k) 0)] w2 fun e w3=>e= .returned (.tuple #[.slice none 0 0,.int .i64 v])∧∃N2,Stg w F0 bf bb bo kp mo rk k2 (k+1) N2∧Loc w w3 ((b85,X,47)::N2):=fun J h=>HDK.out [(b85,X,47)] N J (pt k) (ca k) (lk k) HST.out HFK.out.1 HFK.out.2.2.2.1 (fun Ezq x a1 a2 a3 a4 a5=>by haveI:=HFK.out.2.2.2.2 Ezq x a1 a2 a3 a4 a5;show See w ((b85,X,47)::(Ezq++((mo,x,tMo)::F0 a1 a2 a3 a4 a5))) _ _;infer_instance) h;have HD1:=Hd hd1;clear hd1;go_wp2_with (first|refine aU ?_|(refine gN 127 ?_;refine lKk (HD1.out _ I) ?_;rintro e J⟨v,N1,rfl,Y,HMO⟩;refine Ϥ Y fun I=>?_)|(refine gN 136 ?_;refine lKk (HMO _ I) ?_;rintro e J⟨rfl,N2,hS2,Y⟩;refine Ϥ Y fun I=>?_)|(refine gN 140 ?_;refine lV (jc _ _) I fun J I=>?_)|refine ab fun J I=>?_);go_roundw;case rel=>exact⟨k+1,X,N2,Ω,by go_num,HMX.out.next,hS2,I⟩
    case measure=>simp only[intOf];omega
  ·obtain rfl:k=3:=Ω
   obtain⟨Sd,Sm,Ezq,d,s,q,left,P,R,wr,L,u,hp,ok,rfl,hrv,hsd,hsm⟩:=hSt;replace I:=I.perm (List.Perm.cons _ hp);unfold yX at I;have hsq:SeeS w ((b85,X,47)::(Sd++(Sm++(Ezq++((mo,moR rk k2 d.s q left P (-1) R wr L u,tMo)::d.at F0 bf bb bo kp rk k2))))) d.s q:=by
    haveI:=hsm (Ezq++((mo,moR rk k2 d.s q left P (-1) R wr L u,tMo)::d.at F0 bf bb bo kp rk k2))
    infer_instance
   have hds:=fun J h=>xT (D:=w) (w:=J) (dd:=dd) (bf:=bf) (bb:=bb) (bo:=bo) (bk:=bk) (kp:=kp) (a0:=a0) (a1:=a1) (cc:=cc) (fr:=rk) (fs:=k2) (F:=fun x y z v c=>(b85,X,47)::(Sd++(Sm++(Ezq++((mo,moR rk k2 d.s q left P (-1) R wr L u,tMo)::F0 x y z v c))))) (cG _ (et Sd (et Sm (et Ezq (cG _ HDF.out.1))))) (fun x y z v c=>by haveI:=HDF.out.2 x y z v c;infer_instance) d ok (fun x y z v c=>by haveI:=hsd (Sm++(Ezq++((mo,moR rk k2 d.s q left P (-1) R wr L u,tMo)::F0 x y z v c)));infer_instance) h;obtain⟨M0,hM0⟩:∃M0,M0=(b85,X,47)::(Sd++(Sm++(Ezq++((mo,moR rk k2 d.s q left P (-1) R wr L u,tMo)::d.at F0 bf bb bo kp rk k2)))):=⟨_,rfl⟩;haveI hat:At M0 mo (moR rk k2 d.s q left P (-1) R wr L u) tMo:=by rw[hM0];infer_instance
   rw[← hM0]at I hsq;have HDS:=Hd (fun J (h:Loc w J M0)=>(by rw[hM0]at h ⊢; exact hds J h:ϓ 21 #[aT dd] J fun e Z=>∃q' Sr S0 S1,e= .returned (.agg (stR d.s q'))∧HoldQ Sr S0 S1 d.s q'∧Loc w Z (S1++(S0++(Sr++M0)))));have HSS:=Hd (fun(q':Sq) (Sr S0 S1:Mem) (hQ:HoldQ Sr S0 S1 d.s q') J (h:Loc w J (S1++(S0++(Sr++M0))))=>ti d.s q' q J ((hQ.sees w M0).read h) (hsq.read h.right.right.right) hrv);clear hds hM0 hsq hp ok hrv hsd hsm HDO HFC HDF;go_wp2_with (refine ϛ fun J I=>?_);refine mX (S:=(fun Z=>Loc w Z M0)) 8 ϒ ?_;intro H;replace I:=I.drew;refine uG 0 ?_;refine uG 2 ?_;refine uG 3 ?_;refine uG 4 ?_;refine uZ 5 ?_;refine rd1 1 fun K T=>?_;refine eK (HDS.out _ I) ?_;rintro e J⟨q',Sr',S0',S1',rfl,hQ',Y⟩;refine⟨_,rfl,?_⟩;refine Ϫ Y fun I=>?_;refine kO T ϒ fun H=>?_;refine rd1 6 fun K T=>?_;refine eVv (HSS.out _ _ _ _ hQ' _ I) I fun J I=>?_;refine kO T ϒ fun H=>?_;refine uG 7 ?_;refine wD ?_;clear H;go_wp2_with (refine ϛ fun J I=>?_);go_ret;exact⟨rfl,I.bel⟩
theorem A6(ς which at_:Int)(z:Int)(h:at_<0∨z=0)(w:ϑ):Rt 3 #[.int .i64 ς,.int .i64 which,.int .i64 at_,.int .u8 z] w (.bool true):=by
 have I:=Loc.nil w;by_cases h1:at_<0
 ·clear h
  go_enter func3,ntmps3;go_wp2_with (first|refine aU ?_|(refine gN 29 ?_;refine lV (oq _) I fun J I=>?_)|refine ab fun J I=>?_)
  all_goals(go_ret;exact⟨rfl,I.bel⟩)
 ·obtain rfl:z=0:=h.resolve_left h1
  clear h;go_enter func3,ntmps3;go_wp2_with (first|refine aU ?_|(refine gN 29 ?_;refine lV (oq _) I fun J I=>?_)|refine ab fun J I=>?_)
  all_goals(go_ret;exact⟨rfl,I.bel⟩)
theorem sq{w:ϑ}(ς:Int)(hs: -9223372036854775808≤ς∧ς≤9223372036854775807)(which:Int)(hw: -9223372036854775808≤which∧which≤9223372036854775807)(at_:Int)(ha: -9223372036854775808≤at_∧at_≤9223372036854775807)(y:Γ)(hk:Glob w∧GlobI w):Rt 3 #[.int .i64 ς,.int .i64 which,.int .i64 at_,.int .u8 (B8 y)] w (.bool true):=by
 by_cases h:at_<0∨B8 y=0
 ·exact A6 ς which at_ (B8 y) h w
 ·obtain⟨n,rfl⟩:=YG (show 0≤at_ by omega)
  exact D9 ς which n y hs hw ha.2 (fun h2=>h (.inr h2)) w hk.1 hk.2
section
open Go.ChangeShapes Go.WideShapes Go.ChangeAt
theorem own:ownKnob prog.godebug=none:=Θ
theorem pQ:laidOutB prog=true:=Θ
theorem gN0:prog.globalNamed "portcullis/portcullisref1.k256" = some 0:=Θ
theorem gT0:(prog.globals[0]?).map (·.type)=some 139:=Θ
theorem gN1:prog.globalNamed "portcullis/portcullisref3.baseX" = some 1:=Θ
theorem gT1:(prog.globals[1]?).map (·.type)=some 147:=Θ
theorem gN2:prog.globalNamed "portcullis/portcullisref3.baseY" = some 2:=Θ
theorem gT2:(prog.globals[2]?).map (·.type)=some 147:=Θ
theorem gN4:prog.globalNamed "portcullis/portcullisref3.d" = some 4:=Θ
theorem gT4:(prog.globals[4]?).map (·.type)=some 147:=Θ
theorem gN5:prog.globalNamed "portcullis/portcullisref3.order" = some 5:=Θ
theorem gT5:(prog.globals[5]?).map (·.type)=some 259:=Θ
theorem gN6:prog.globalNamed "portcullis/portcullisref1.k512" = some 6:=Θ
theorem gT6:(prog.globals[6]?).map (·.type)=some 262:=Θ
theorem gN7:prog.globalNamed "portcullis/portcullisref3.rootOfMinusOne" = some 7:=Θ
theorem gT7:(prog.globals[7]?).map (·.type)=some 147:=Θ
theorem gG{P:Program}{x:String×DataW Unit}{l:List (String×DataW Unit)}{Wzq:ϑ}(h:laidMet P (x::l) Wzq):laidMet P l Wzq:=by
 obtain⟨ps,⟨g,t,cs,fuel,p,q,h1,h2,h3,h4,h5,rfl⟩,hnd,hall⟩:=h;exact⟨q,h5,(List.nodup_append.1 hnd).2.1,fun b off hm=>hall b off (XR _ hm)⟩
theorem d0:(Rows.laid_portcullis_portcullisref1_k256:DataW Unit)=Lib.tabData .u32 ((List.range 64).map fun i=>U (di i)):=Θ
theorem d1:(Rows.laid_portcullis_portcullisref3_baseX:DataW Unit)=Lib.tabData .i64 ((List.range 16).map fun i=>((R3.dg pB.x.val i:Nat):Int)):=Θ
theorem d2:(Rows.laid_portcullis_portcullisref3_baseY:DataW Unit)=Lib.tabData .i64 ((List.range 16).map fun i=>((R3.dg pB.y.val i:Nat):Int)):=Θ
theorem d4:(Rows.laid_portcullis_portcullisref3_d:DataW Unit)=Lib.tabData .i64 ((List.range 16).map fun i=>((R3.dg dF.val i:Nat):Int)):=Θ
theorem d5:(Rows.laid_portcullis_portcullisref3_order:DataW Unit)=Lib.tabData .i64 ((List.range 32).map fun i=>(((ah Qo i).toNat:Nat):Int)):=Θ
theorem d6:(Rows.laid_portcullis_portcullisref1_k512:DataW Unit)=Lib.tabData .u64 ((List.range 80).map fun i=>Q (Shb.K512 i)):=Θ
theorem d7:(Rows.laid_portcullis_portcullisref3_rootOfMinusOne:DataW Unit)=Lib.tabData .i64 ((List.range 16).map fun i=>((R3.dg iF.val i:Nat):Int)):=Θ
theorem gY{Wzq:ϑ}{name:String}{k:IntKind}{n g:Nat}{f:Nat→Int}(h:Lib.TabIs prog Wzq name k ((List.range n).map f))(hg:prog.globalNamed name=some g):∀i,i<n→Wzq.cell? ⟨g,i,none⟩=some (.int k (f i)):=fun i hi=>by
 rw[h.cell hg i (by simpa using hi),List.getD_eq_getElem?_getD];simp[hi]
theorem hd0{Wzq:ϑ}{name:String}{f:Nat→Int}{l:List (String×DataW Unit)}(hn:prog.globalNamed name=some 0)(h:laidMet prog ((name,Lib.tabData .u32 ((List.range 64).map f))::l) Wzq):∀i,i<64→Wzq.cell? ⟨0,i,none⟩=some (.int .u32 (f i)) :=
 gY (Zi hn gT0 underlying139 underlying136 Θ Θ h) hn
theorem hd1{Wzq:ϑ}{name:String}{f:Nat→Int}{l:List (String×DataW Unit)}(hn:prog.globalNamed name=some 1)(h:laidMet prog ((name,Lib.tabData .i64 ((List.range 16).map f))::l) Wzq):∀i,i<16→Wzq.cell? ⟨1,i,none⟩=some (.int .i64 (f i)) :=
 gY (Zi hn gT1 underlying147 underlying3 Θ Θ h) hn
theorem hd2{Wzq:ϑ}{name:String}{f:Nat→Int}{l:List (String×DataW Unit)}(hn:prog.globalNamed name=some 2)(h:laidMet prog ((name,Lib.tabData .i64 ((List.range 16).map f))::l) Wzq):∀i,i<16→Wzq.cell? ⟨2,i,none⟩=some (.int .i64 (f i)) :=
 gY (Zi hn gT2 underlying147 underlying3 Θ Θ h) hn
theorem hd4{Wzq:ϑ}{name:String}{f:Nat→Int}{l:List (String×DataW Unit)}(hn:prog.globalNamed name=some 4)(h:laidMet prog ((name,Lib.tabData .i64 ((List.range 16).map f))::l) Wzq):∀i,i<16→Wzq.cell? ⟨4,i,none⟩=some (.int .i64 (f i)) :=
 gY (Zi hn gT4 underlying147 underlying3 Θ Θ h) hn
theorem hd5{Wzq:ϑ}{name:String}{f:Nat→Int}{l:List (String×DataW Unit)}(hn:prog.globalNamed name=some 5)(h:laidMet prog ((name,Lib.tabData .i64 ((List.range 32).map f))::l) Wzq):∀i,i<32→Wzq.cell? ⟨5,i,none⟩=some (.int .i64 (f i)) :=
 gY (Zi hn gT5 underlying259 underlying3 Θ Θ h) hn
theorem hd6{Wzq:ϑ}{name:String}{f:Nat→Int}{l:List (String×DataW Unit)}(hn:prog.globalNamed name=some 6)(h:laidMet prog ((name,Lib.tabData .u64 ((List.range 80).map f))::l) Wzq):∀i,i<80→Wzq.cell? ⟨6,i,none⟩=some (.int .u64 (f i)) :=
 gY (Zi hn gT6 underlying262 underlying227 Θ Θ h) hn
theorem hd7{Wzq:ϑ}{name:String}{f:Nat→Int}{l:List (String×DataW Unit)}(hn:prog.globalNamed name=some 7)(h:laidMet prog ((name,Lib.tabData .i64 ((List.range 16).map f))::l) Wzq):∀i,i<16→Wzq.cell? ⟨7,i,none⟩=some (.int .i64 (f i)) :=
 gY (Zi hn gT7 underlying147 underlying3 Θ Θ h) hn
abbrev um:List (String×DataW Unit):=[("portcullis/portcullisref1.k256", Rows.laid_portcullis_portcullisref1_k256),("portcullis/portcullisref1.k512", Rows.laid_portcullis_portcullisref1_k512),("portcullis/portcullisref3.rootOfMinusOne", Rows.laid_portcullis_portcullisref3_rootOfMinusOne),("portcullis/portcullisref3.order", Rows.laid_portcullis_portcullisref3_order),("portcullis/portcullisref3.d", Rows.laid_portcullis_portcullisref3_d),("portcullis/portcullisref3.baseX", Rows.laid_portcullis_portcullisref3_baseX),("portcullis/portcullisref3.baseY", Rows.laid_portcullis_portcullisref3_baseY)]
theorem Ea(os:Os)(args:Ψ):laidMetH prog um ((World.laidAll prog os um).forCall (fun _ _=>0) ⟨#[],args,[]⟩).memory:=by
 rw[MakeChecks.laidMetH_plain _ _ _ Θ];exact laidMet_laidAll _ Θ Θ
theorem y8(os:Os):(World.laidAll prog os um).Shaped prog:=World.shaped_of_ZipB Θ Θ
theorem tj{Wzq:ϑ}(h:laidMetH prog um Wzq):Glob Wzq∧GlobI Wzq:=by
 rw[MakeChecks.laidMetH_plain _ _ _ Θ]at h;unfold um at h;rw[d0,d1,d2,d4,d5,d6,d7]at h;have h1:=gG h;have h2:=gG h1;have h3:=gG h2;have h4:=gG h3;have h5:=gG h4;have h6:=gG h5;have c:=hd6 gN6 h1;have d:=hd7 gN7 h2;exact⟨⟨BN (c 0 Ξ),hd0 gN0 h,hd1 gN1 h5,hd2 gN2 h6,hd4 gN4 h4,hd5 gN5 h3,c⟩,⟨BN (d 0 Ξ),d⟩⟩
theorem su{Hzq:Type}{enc:TypeId×ό→Hzq}{P:Program}{w:ϑ}{base:Nat}{spare:Nat→Bool}{held:Bool}{r:Go.Reach}{b0:Nat}{t:ϋ}{v:ό}{d:DataW Hzq}{ps:List MemPlace}(ht:P.underlying t=some (.int .i64))(hval:Value.okWide P w r b0 t v)(hd:DataW.Trod enc P w base spare held t v d ps):∃x,v= .int .i64 x∧ -9223372036854775808≤x∧x≤9223372036854775807:=by
 obtain⟨x,h1,_,_,h2⟩:=open_int ht hval hd;exact⟨x,h1,C2 h2⟩
theorem Jy{Hzq:Type}{enc:TypeId×ό→Hzq}{P:Program}{w:ϑ}{base:Nat}{spare:Nat→Bool}{held:Bool}{r:Go.Reach}{b0:Nat}{t:ϋ}{v:ό}{d:DataW Hzq}{ps:List MemPlace}(ht:P.underlying t=some (.int .u8))(hval:Value.okWide P w r b0 t v)(hd:DataW.Trod enc P w base spare held t v d ps):∃x:Γ,v= .int .u8 (B8 x):=by
 obtain⟨x,h1,_,_,h2⟩:=open_int ht hval hd;obtain⟨y,rfl⟩:=FT h2;exact⟨y,h1⟩
end
end Go.Proofs.YtoifhhljfaoejaaGreatDoor
