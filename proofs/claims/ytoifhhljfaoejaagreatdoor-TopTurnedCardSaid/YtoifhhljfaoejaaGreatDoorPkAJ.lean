/- Lemmas of the law; no condition beyond those written. -/
import Derived.Test.YtoifhhljfaoejaaGreatDoorPkAI
set_option maxRecDepth 100000
set_option maxHeartbeats 8000000
set_option linter.unusedVariables false
set_option linter.unusedSimpArgs false
set_option linter.unusedSectionVars false
namespace Go.Proofs.YtoifhhljfaoejaaGreatDoor
open Go.Proofs.Tryz Go Go.RowKit Go.Shelf
namespace R3
instance Vq(o:Option Pe):Row1 (bi o) 64:=by cases o <;> unfold bi <;> infer_instance
theorem refMay_any(f:Φ)(w:ϑ)[hG:Glob w][hI:GlobI w]:Rt 80 #[.agg (aa 32 f)] w (.bool (bK (leN f)).isSome):=by
 have I:=Loc.nil w;have HR:=Hd (fun J (V:Υ w J)=> @ip f J (hG.below V) (hI.below V));generalize bK (leN f)=R at *
 go_enter func80,ntmps80;go_wp2_with (first|refine aV ?_|refine gBp 1 fun b1 J I=>?_|refine gBp 3 fun b3 J I=>?_|(refine gN 7 ?_;refine lKk (HR.out _ I.bel) ?_;rintro e J⟨o7,rfl,ho7,hb7⟩;have Y:=I.keep hb7;refine Ϥ Y fun I=>?_)|refine aP fun J I=>?_);go_ret;exact⟨by rw[← ho7];cases o7 <;> rfl,I.bel⟩
theorem yx(f:Φ)(i:Nat):∀k,leK f (i+k)=leK f i+2^(8*i)*leK (fun j=>f (i+j)) k
 | 0=>by show leK f i=leK f i+_*0;omega
 | k+1=>by
  show leK f (i+k)+(f (i+k)).toNat*2^(8*(i+k))=leK f i+2^(8*i)*(leK (fun j=>f (i+j)) k+(f (i+k)).toNat*2^(8*k));rw[yx f i k,YD 8,Xk];grind
theorem NM(f g:Φ){i:Nat}(hi:i<32)(h:∀j,i<j→j<32→f j=g j)(hne:(f i).toNat≠(g i).toNat):(leN f<leN g)=((f i).toNat<(g i).toNat):=by
 have e:∀f:Nat→Γ,leN f=leK f (i+1)+2^(8*(i+1))*leK (fun j=>f (i+1+j)) (31-i):=fun f=>by
  have:=yx f (i+1) (31-i);rw[show i+1+(31-i)=32 from by omega]at this;exact this
 have hr:leK (fun j=>f (i+1+j)) (31-i)=leK (fun j=>g (i+1+j)) (31-i):=by
  have κ:∀k,k≤31-i→leK (fun j=>f (i+1+j)) k=leK (fun j=>g (i+1+j)) k:=fun k=>by
   induction k with
   | zero=>intro _;rfl
   | succ k ih =>
    intro hk;show leK _ k+(f (i+1+k)).toNat*_=leK _ k+(g (i+1+k)).toNat*_;rw[ih Ω,h (i+1+k) Ω Ω]
  exact κ _ (Xn _)
 rw[e f,e g,hr];have h1:=dt f i;have h2:=dt g i;show(leK f i+(f i).toNat*2^(8*i)+_<leK g i+(g i).toNat*2^(8*i)+_)=_;generalize 2^(8*(i+1))*leK (fun j=>g (i+1+j)) (31-i)=R;generalize leK f i=x,leK g i=y,2^(8*i)=Ezq,(f i).toNat=a,(g i).toNat=b at *
 apply propext;constructor
 ·intro h7
  rcases Nat.lt_or_gt_of_ne hne with h|h
  ·exact h
  ·exfalso
   have:(b+1)*Ezq≤a*Ezq:=YI _ h;rw[ZL]at this;omega
 ·intro h7
  have:(a+1)*Ezq≤b*Ezq:=YI _ h7;rw[ZL]at this;omega
theorem yy(f:Φ)(w:ϑ)[hG:Glob w]:Rt 123 #[.agg (aa 32 f)] w (.bool (decide (leN f<Qo))):=by
 have I:=Loc.nil w;have HO:=Hd (fun(i:Nat) (hi:i<32)=>show Was w 5 i (.int .i64 (B8 (ah Qo i)))from⟨hG.ord i hi,by have:=hG.lt;omega⟩);have hq:leN (ah Qo)=Qo:=bT zZ;have HA:=Hd (fun(i:Nat) (hi:i<32) (h:∀j,i<j→j<32→f j=ah Qo j) (hne:(f i).toNat≠(ah Qo i).toNat)=>show decide (leN f<Qo)=decide ((f i).toNat<(ah Qo i).toNat)from by
  have:=NM f (ah Qo) hi h hne;rw[hq]at this;exact decide_eq_decide.2 (Iff.of_eq this))
 have HE:=Hd (fun(h:∀j,j<32→f j=ah Qo j)=>show decide (leN f<Qo)=false from by
  have:leN f=leN (ah Qo):=by
   have κ:∀k,k≤32→leK f k=leK (ah Qo) k:=fun k=>by
    induction k with
    | zero=>intro _;rfl
    | succ k ih=>intro hk;show leK f k+(f k).toNat*_=leK _ k+(ah Qo k).toNat*_;rw[ih Ω,h k Ω]
   exact κ 32 (Xn _)
  rw[this,hq];exact XB (Nat.lt_irrefl _))
 clear hq;obtain⟨out,hout⟩:∃out,out=decide (leN f<Qo):=⟨_,rfl⟩;rw[← hout]at HA HE ⊢;clear hout;generalize ah Qo=q at *
 go_enter func123,ntmps123;go_wp2_with (first|refine gBp 1 fun b1 J I=>?_|refine aQq fun _ J I=>?_);go_loopw [3] (fun kk wr=>∃k:Nat,k≤32∧kk= .int .i64 ((k:Int)-1)∧(∀j,k≤j→j<32→f j=q j)∧Loc w wr [(b1,aa 32 f,24)]) (fun kk _=>(intOf kk+1).toNat);case atStart=>exact⟨32,Ω,rfl,fun j h1 h2=>absurd h1 Ω,I⟩
 case round =>
  clear I;obtain⟨k,hk,rfl,hall,I⟩:=hrel;have HALL:=Hd hall;clear hall;by_cases hpos:0<k
  ·obtain⟨i,rfl⟩:∃i,k=i+1:=⟨k-1,Ω⟩
   rw[show(((i+1:Nat):Int)-1)=(i:Int)from by omega];have hi0:(0:Int)≤(i:Int):=Ω;have hi1:(i:Int)<32:=Ω;haveI gf:Cell (aa 32 f) i (.int .u8 (B8 (f i))):=aO _ Ω;haveI gq:Was w 5 i (.int .i64 (B8 (q i))):=HO.out i Ω;obtain⟨b0,b1'⟩:=bP (f i);have wv:IntKind.i64.wrap (B8 (f i))=B8 (f i):=W3 _ Ω;by_cases hne:f i=q i
   ·have he:B8 (f i)=B8 (q i):=by rw[hne]
    have HALL2:=Hd (show ∀j,i≤j→j<32→f j=q j from fun j h1 h2=>by
     rcases Nat.eq_or_lt_of_le h1 with h|h
     ·rw[← h];exact hne
     ·exact HALL.out j h h2)
    rw[he]at gf wv b0 b1';generalize B8 (q i)=y at *
    clear he hne HALL HA HE HO;go_wp2_with (refine aQq fun _ J I=>?_);refine wf [(0,true),(1,true),(2,false),(3,true),(4,true),(5,true),(6,false),(7,true)] [] [] I ?_
    repeat(first|((with_reducible show bC _ _ _ (_::_) _ _);refine sW rfl rfl rfl ?_;refine p4 ?_)|refine rS ?_)
    refine aK ?_;refine fC fun J I=>?_;go_wp2_with (refine aQq fun _ J I=>?_);go_roundw;case rel=>exact⟨i,Ω,by first|rfl|go_num,HALL2.out,I⟩
    case measure=>simp[intOf]
   ·have hn:(f i).toNat≠(q i).toNat:=fun e=>hne (Yi e)
    have ha:=HA.out i Ω (fun j h1 h2=>HALL.out j h1 h2) hn;have hneI:¬B8 (f i)=B8 (q i):=fun e=>hn (by unfold B8 at e;omega);have h7:decide (B8 (f i)<B8 (q i))=out:=by
     rw[ha];apply decide_eq_decide.2;unfold B8;omega
    clear ha hn hne HALL HA HE HO;generalize B8 (q i)=y,B8 (f i)=x at *
    go_wp2_with (refine aQq fun _ J I=>?_);refine wf [(0,true),(1,true),(2,false),(3,true),(4,true),(5,true),(6,false),(7,true)] [] [] I ?_
    repeat(first|((with_reducible show bC _ _ _ (_::_) _ _);refine sW rfl rfl rfl ?_;refine p4 ?_)|refine rS ?_)
    refine aK ?_;refine fC fun J I=>?_;go_wp2_with (refine aQq fun _ J I=>?_);refine wf [(0,true),(1,true),(2,false),(3,true),(4,true),(5,true),(6,false),(7,true),(8,true)] [] [] I ?_
    repeat(first|((with_reducible show bC _ _ _ (_::_) _ _);refine sW rfl rfl rfl ?_;refine p4 ?_)|refine rS ?_)
    refine aK ?_;refine fC fun J I=>?_;go_wp2_with (refine aQq fun _ J I=>?_);go_ret;exact⟨by rw[← h7];rfl,I.bel⟩
  ·obtain rfl:k=0:=Ω
   have ho:=HE.out (fun j h=>HALL.out j Ω h);rw[show(((0:Nat):Int)-1)= -1 from rfl];clear HALL HA HE HO;subst ho;go_wp2_with (refine aQq fun _ J I=>?_);go_ret;exact⟨rfl,I.bel⟩
end R3
namespace R3
theorem uh(f:Φ)(h:bK (leN f)=none)(w:ϑ)(hG:Glob w)(hI:GlobI w):Rt 122 #[.agg (aa 32 f)] w (.tuple #[.agg CT,.bool false]) :=
 (ip f w).mono fun e Z ⟨o,h1,h2,h3⟩=>by
  rw[h]at h2;cases o with
  | none=>exact⟨h1,h3⟩
  | some p=>cases h2
theorem ui(f:Φ){a:Ex}(h:bK (leN f)=some a)(w:ϑ)(hG:Glob w)(hI:GlobI w):ϓ 122 #[.agg (aa 32 f)] w fun r Z=>∃p:Pe,r= .returned (.tuple #[.agg (rowPe p),.bool true])∧p.ex=a∧Υ w Z :=
 (ip f w).mono fun e Z ⟨o,h1,h2,h3⟩=>by
  rw[h]at h2;cases o with
  | none=>cases h2
  | some p=>exact⟨p,h1,by simpa using h2,h3⟩
theorem refVerify_any(fk fs:Φ)(vb:ό)(m:Δ)(w:ϑ)[hG:Glob w][hI:GlobI w](hb:BRow w vb m)(hm:m.length≤1000000) :
 Rt 70 #[.agg (aa 32 fk),.agg (aa 64 fs),vb] w (.bool (dA (leN fk) (leN fs) (leN fun i=>fs (32+i)) m)):=by
 have I:=Loc.nil w;haveI hA1:Arg w vb (ak m):=⟨hb.vrow⟩;obtain⟨pb,cb,rfl⟩:=hb.shape;obtain⟨fs2,hfs2⟩:∃fs2:Nat→Γ,fs2=fun i=>fs (32+i):=⟨_,rfl⟩;haveI sg1:Seg (aa 64 fs) 0 32 (ak (ae 32 fs)):=by
  have:=segB (n:=64) fs 0 32 Ω;simpa using this
 haveI sg2:Seg (aa 64 fs) 32 32 (ak (ae 32 fs2)):=by rw[hfs2];exact segB (n:=64) fs 32 32 Ω
 rw[← hfs2];clear hfs2;obtain⟨c1,c2,c3,c4⟩:=mY (leN fk) (leN fs) (leN fs2) m;have h32:(ak (ae 32 fs)).length=32:=by rw[ap,ag]
 have h32b:(ak (ae 32 fs2)).length=32:=by rw[ap,ag]
 haveI sp1:Spl (aa 32 fun _=>0) 0 (ak (ae 32 fs)) (aa 32 fs):=k6 _ _ _ Ω fun i hi=>by rw[Ρ ⟨Ω,Ω⟩];rfl
 haveI sp2:Spl (aa 32 fun _=>0) 0 (ak (ae 32 fs2)) (aa 32 fs2):=k6 _ _ _ Ω fun i hi=>by rw[Ρ ⟨Ω,Ω⟩];rfl
 haveI s3:Seg (aa 32 fs) 0 32 (ak (ae 32 fs)):=fD 32 fs;haveI s4:Seg (aa 32 fk) 0 32 (ak (ae 32 fk)):=fD 32 fk;have HL:=Hd (fun J (V:Υ w J)=> @yy fs2 J (hG.below V));cases hA:bK (leN fk)with
 | none =>
  rw[c2 hA];have HK:=Hd (fun J (V:Υ w J)=>uh fk hA J (hG.below V) (hI.below V));have HR:=Hd (fun J (V:Υ w J)=> @ip fs J (hG.below V) (hI.below V));clear c1 c2 c3 c4 hA;go_enter func70,ntmps70;go_wp2_with (first|refine aU ?_|refine gBp 3 fun b3 J I=>?_|refine gBp 4 fun b4 J I=>?_|refine gBp 7 fun b7 J I=>?_|refine gBp 8 fun b8 J I=>?_|refine ab fun J I=>?_);refine mX (S:=fun Z=>Loc _ Z _) 3 (Loc.rem b7 (I.drew)) ?_;intro H;replace I:=I.drew;refine uG 0 ?_;refine uG 1 ?_;refine rd1 2 fun K T=>?_;refine eCp fun J I=>?_;refine kO T (Loc.rem b7 (I)) ?_;clear T K H;intro H;refine wD ?_;clear H;go_wp2_with (refine ϛ fun J I=>?_);refine mX (S:=fun Z=>Loc _ Z _) 3 (Loc.rem b8 (I.drew)) ?_;intro H;replace I:=I.drew;refine uG 0 ?_;refine uG 1 ?_;refine rd1 2 fun K T=>?_;refine eCp fun J I=>?_;refine kO T (Loc.rem b8 (I)) ?_;clear T K H;intro H;refine wD ?_;clear H;go_wp2_with (first|refine aU ?_|refine gBp 9 fun b9 J I=>?_|refine gBp 11 fun b11 J I=>?_|(go_at_call 122;go_loud (refine(HK.out _ I.bel).mono ?_);rintro e J⟨rfl,V⟩;replace I:=I.keep V;refine p4 ?_)|(refine gN 27 ?_;refine lKk (HR.out _ I.bel) ?_;rintro e J⟨o27,rfl,ho27,hb27⟩;have Y:=I.keep hb27;refine Ϥ Y fun I=>?_)|refine ab fun J I=>?_);go_ret;exact⟨rfl,I.bel⟩
 | some a =>
  have HK:=Hd (fun J (V:Υ w J)=>ui fk hA J (hG.below V) (hI.below V));cases hR:bK (leN fs)with
  | none =>
   rw[c1 hR];have HR:=Hd (fun J (V:Υ w J)=>uh fs hR J (hG.below V) (hI.below V));clear c1 c2 c3 c4 hA hR;go_enter func70,ntmps70;go_wp2_with (first|refine aU ?_|refine gBp 3 fun b3 J I=>?_|refine gBp 4 fun b4 J I=>?_|refine gBp 7 fun b7 J I=>?_|refine gBp 8 fun b8 J I=>?_|refine ab fun J I=>?_);refine mX (S:=fun Z=>Loc _ Z _) 3 (Loc.rem b7 (I.drew)) ?_;intro H;replace I:=I.drew;refine uG 0 ?_;refine uG 1 ?_;refine rd1 2 fun K T=>?_;refine eCp fun J I=>?_;refine kO T (Loc.rem b7 (I)) ?_;clear T K H;intro H;refine wD ?_;clear H;go_wp2_with (refine ϛ fun J I=>?_);refine mX (S:=fun Z=>Loc _ Z _) 3 (Loc.rem b8 (I.drew)) ?_;intro H;replace I:=I.drew;refine uG 0 ?_;refine uG 1 ?_;refine rd1 2 fun K T=>?_;refine eCp fun J I=>?_;refine kO T (Loc.rem b8 (I)) ?_;clear T K H;intro H;refine wD ?_;clear H;go_wp2_with (first|refine aU ?_|refine gBp 9 fun b9 J I=>?_|refine gBp 11 fun b11 J I=>?_|(refine gN 22 ?_;refine lKk (HK.out _ I.bel) ?_;rintro e J⟨o22,rfl,ho22,hb22⟩;have Y:=I.keep hb22;refine Ϥ Y fun I=>?_)|(refine gN 27 ?_;refine lKk (HR.out _ I.bel) ?_;rintro e J⟨rfl,hb27⟩;have Y:=I.keep hb27;refine Ϥ Y fun I=>?_)|refine ab fun J I=>?_);go_ret;exact⟨rfl,I.bel⟩
  | some r =>
   have HR:=Hd (fun J (V:Υ w J)=>ui fs hR J (hG.below V) (hI.below V));by_cases hs:leN fs2<Qo
   ·rw[c4 r a hR hA hs]
    rw[Xw hs]at HL;have hk:mQ [ae 32 fs,ae 32 fk,m].flatten=kj (leN fk) (leN fs) m:=by
     unfold kj;rw[jr,jr];simp
    have hw:=(fun J (V:Υ w J) (u:ό) (hu:BRows J u [ae 32 fs,ae 32 fk,m])=> @qQ u _ J (hG.below V) hu ⟨_,_,rfl,by rw[ag];omega⟩ Ϡ (by simp[ag];omega));rw[hk]at hw;have HW:=Hd hw;have hKl:=BB (leN fk) (leN fs) m;have HM:=Hd (fun(p:Pe)=>show FnG 76 #[.agg (rowPe p),.agg (aa 32 (ah (kj (leN fk) (leN fs) m)))] (.agg (rowPe (p.many (kj (leN fk) (leN fs) m))))from⟨fun J h1=>by
     have:= @xk p (ah (kj (leN fk) (leN fs) m)) J h1;rwa[bT hKl]at this⟩)
    haveI gb:FnG 77 #[] (.agg (rowPe Pe.B)):=Ϙ;haveI gm:FnG 76 #[.agg (rowPe Pe.B),.agg (aa 32 fs2)] (.agg (rowPe (Pe.B.many (leN fs2)))):=Ϙ;have hbx:(Pe.B.many (leN fs2)).ex=cE exB (leN fs2):=by rw[Pe.many_ex,Pe.B_ex]
    rw[← hbx];clear hw hk hKl c1 c2 c3 c4 hA hR hs hbx;generalize Pe.B.many (leN fs2)=SB,kj (leN fk) (leN fs) m=KK at *
    go_enter func70,ntmps70;go_wp2_with (first|refine aU ?_|refine gBp 3 fun b3 J I=>?_|refine gBp 4 fun b4 J I=>?_|refine gBp 7 fun b7 J I=>?_|refine gBp 8 fun b8 J I=>?_|refine ab fun J I=>?_);refine mX (S:=fun Z=>Loc _ Z _) 3 (Loc.rem b7 (I.drew)) ?_;intro H;replace I:=I.drew;refine uG 0 ?_;refine uG 1 ?_;refine rd1 2 fun K T=>?_;refine eCp fun J I=>?_;refine kO T (Loc.rem b7 (I)) ?_;clear T K H;intro H;refine wD ?_;clear H;go_wp2_with (refine ϛ fun J I=>?_);refine mX (S:=fun Z=>Loc _ Z _) 3 (Loc.rem b8 (I.drew)) ?_;intro H;replace I:=I.drew;refine uG 0 ?_;refine uG 1 ?_;refine rd1 2 fun K T=>?_;refine eCp fun J I=>?_;refine kO T (Loc.rem b8 (I)) ?_;clear T K H;intro H;refine wD ?_;clear H;go_wp2_with (first|refine aU ?_|refine gBp 9 fun b9 J I=>?_|refine gBp 11 fun b11 J I=>?_|(refine gN 22 ?_;refine lKk (HK.out _ I.bel) ?_;rintro e J⟨p22,rfl,hp22,hb22⟩;have Y:=I.keep hb22;refine Ϥ Y fun I=>?_)|(refine gN 27 ?_;refine lKk (HR.out _ I.bel) ?_;rintro e J⟨p27,rfl,hp27,hb27⟩;have Y:=I.keep hb27;refine Ϥ Y fun I=>?_)|(go_at_call 123;go_loud (refine(HL.out _ I.bel).mono ?_);rintro e J⟨rfl,V⟩;replace I:=I.keep V;refine p4 ?_)|refine ab fun J I=>?_);refine eQ (R:=?R) (fun hR=>?h1) ?h2;case h1 =>
     refine mX (S:=(fun _=>True)) 7 (trivial) ?_;intro H;replace I:=I.drew;refine uG 0 ?_;refine uG 1 ?_;refine uG 2 ?_;refine rd2 3 5 ?_ ?_
     ·intro K T
      refine eBS ?_;clear I;intro b44 J I;refine kO T (trivial) ?_;clear T K H;intro H;refine rd2 4 5 ?_ ?_
      ·intro K T
       refine eK (HW.out _ I.bel _ (dP (I.at_ b44) (See.bytes I) (See.bytes I) (See.bytes I))) ?_;rintro e J⟨rfl,hN⟩;refine⟨_,rfl,?_⟩;have Y:=I.keep hN;clear hN;clear I;revert Y;refine aN ?_;intro I;refine kO T (trivial) ?_;clear T K H;intro H;refine rd1 5 fun K T=>?_;refine eA I rfl ?_;clear I;intro b13 J I;refine kO T (trivial) ?_;clear T K H;intro H;refine rd1 6 fun K T=>?_;refine cY ?_;clear I;intro J I;refine kO T (trivial) ?_;clear T K H;intro H;refine wD ?_;clear H;have hLp:=I;clear I;revert hLp;revert J;revert b13;revert b44;exact pm hR
      ·intro K T
       refine eA I rfl ?_;clear I;intro b13 J I;refine kO T (trivial) ?_;clear T K H;intro H;refine rd1 4 fun K T=>?_;refine eK (HW.out _ I.bel _ (dP (I.at_ b44) (See.bytes I) (See.bytes I) (See.bytes I))) ?_;rintro e J⟨rfl,hN⟩;refine⟨_,rfl,?_⟩;have Y:=I.keep hN;clear hN;clear I;revert Y;refine aN ?_;intro I;refine kO T (trivial) ?_;clear T K H;intro H;refine rd1 6 fun K T=>?_;refine cY ?_;clear I;intro J I;refine kO T (trivial) ?_;clear T K H;intro H;refine wD ?_;clear H;have hLp:=I;clear I;revert hLp;revert J;revert b13;revert b44;exact pm hR
     ·intro K T
      refine eA I rfl ?_;clear I;intro b13 J I;refine kO T (trivial) ?_;clear T K H;intro H;refine rd1 3 fun K T=>?_;refine eBS ?_;clear I;intro b44 J I;refine kO T (trivial) ?_;clear T K H;intro H;refine rd1 4 fun K T=>?_;refine eK (HW.out _ I.bel _ (dP (I.at_ b44) (See.bytes I) (See.bytes I) (See.bytes I))) ?_;rintro e J⟨rfl,hN⟩;refine⟨_,rfl,?_⟩;have Y:=I.keep hN;clear hN;clear I;revert Y;refine aN ?_;intro I;refine kO T (trivial) ?_;clear T K H;intro H;refine rd1 6 fun K T=>?_;refine cY ?_;clear I;intro J I;refine kO T (trivial) ?_;clear T K H;intro H;refine wD ?_;clear H;have hLp:=I;clear I;revert hLp;revert J;revert b13;revert b44;exact pm hR
    intro b44 b13 J Y;clear I;have I:=Y;clear Y;go_wp2_with (refine ϛ fun J I=>?_);haveI gk:=HM.out p22;have hfin:(p27.add (p22.many KK)).ex=dm r (cE a KK):=by rw[Pe.add_ex,Pe.many_ex,hp22,hp27]
    have eq1:=jp (cd SB.ex) (cd (p27.add (p22.many KK)).ex) (jq _) (jq _);have HFIN:=Hd hfin;clear hfin HM HW HK HR HL;generalize p22.many KK=PK at *
    haveI ga:FnG 125 #[.agg (rowPe p27),.agg (rowPe PK)] (.agg (rowPe (p27.add PK))):=Ϙ;generalize p27.add PK=QQ at *
    refine wf [(0,false),(1,false),(2,false),(3,false),(4,false),(5,false),(6,false),(7,false),(8,false),(9,false),(10,true),(11,true)] [] [] I ?_
    repeat(first|((with_reducible show bC _ _ _ (_::_) _ _);refine sQ rfl rfl rfl rfl ?_;refine p4 ?_)|refine rS ?_)
    refine aK ?_;refine fC fun J I=>?_;go_wp2_with (refine ϛ fun J I=>?_);go_ret;exact⟨by rw[HFIN.out];rfl,I.bel⟩
   ·rw[c3 hs]
    rw[XB hs]at HL;clear c1 c2 c3 c4 hA hR hs;go_enter func70,ntmps70;go_wp2_with (first|refine aU ?_|refine gBp 3 fun b3 J I=>?_|refine gBp 4 fun b4 J I=>?_|refine gBp 7 fun b7 J I=>?_|refine gBp 8 fun b8 J I=>?_|refine ab fun J I=>?_);refine mX (S:=fun Z=>Loc _ Z _) 3 (Loc.rem b7 (I.drew)) ?_;intro H;replace I:=I.drew;refine uG 0 ?_;refine uG 1 ?_;refine rd1 2 fun K T=>?_;refine eCp fun J I=>?_;refine kO T (Loc.rem b7 (I)) ?_;clear T K H;intro H;refine wD ?_;clear H;go_wp2_with (refine ϛ fun J I=>?_);refine mX (S:=fun Z=>Loc _ Z _) 3 (Loc.rem b8 (I.drew)) ?_;intro H;replace I:=I.drew;refine uG 0 ?_;refine uG 1 ?_;refine rd1 2 fun K T=>?_;refine eCp fun J I=>?_;refine kO T (Loc.rem b8 (I)) ?_;clear T K H;intro H;refine wD ?_;clear H;go_wp2_with (first|refine aU ?_|refine gBp 9 fun b9 J I=>?_|refine gBp 11 fun b11 J I=>?_|(refine gN 22 ?_;refine lKk (HK.out _ I.bel) ?_;rintro e J⟨o22,rfl,ho22,hb22⟩;have Y:=I.keep hb22;refine Ϥ Y fun I=>?_)|(refine gN 27 ?_;refine lKk (HR.out _ I.bel) ?_;rintro e J⟨o27,rfl,ho27,hb27⟩;have Y:=I.keep hb27;refine Ϥ Y fun I=>?_)|(go_at_call 123;go_loud (refine(HL.out _ I.bel).mono ?_);rintro e J⟨rfl,V⟩;replace I:=I.keep V;refine p4 ?_)|refine ab fun J I=>?_);go_ret;exact⟨rfl,I.bel⟩
instance Vr:Ent 70:=eo func70
end R3
section
variable {ops:Array Oper} {rest:List Oper} {o:Oper} {a:Act} {D w:ϑ} {M M':Mem} {Q:ώ} {K:Act→ϑ→Prop}
theorem AG(x1 x2 x3 x4:Γ){b:Nat}(I:Loc D w M){u:Operand}(ho:o.op= .convert 29 29 u)(hu:a.eval u= .slice (ϐ b) 4 4){r:Ψ}{t:ϋ}[hm:At M b r t][hr:Rem M b M'](ht:t=5)(hx:r=(ak [x1,x2,x3,x4]).toArray)(hn:∀r' t',(b,r',t') ∉ M')(h:∀Z,BRow Z (.slice (ϐ b) 4 4) [x1,x2,x3,x4]→Loc D Z M'→K (a.put o.dst (.slice (ϐ b) 4 4)) Z):o.wp prog a w K Q:=by
 subst ht hx;obtain⟨Z,hrun,h1,h2,h3,h4,h5,h6⟩:=lr (I.get hm.mem) 4 4;have hge:=I.ge hm.mem;have hL':=I.sub hr.sub;unfold Oper.wp execOp;simp only[ho,hu,Sem.run_bind,hrun,Result.andThen_ok,Sem.run_pure];refine h Z (pE (c:=4) [x1,x2,x3,x4] h1) ⟨⟨?_,?_,?_,?_,?_⟩,fun c r t hc=>?_,hL'.nd⟩
 ·rw[h4,I.bel.os]
 ·rw[h5,I.bel.tape]
 ·rw[h6,I.bel.output]
 ·rw[h3];exact I.bel.size
 ·intro k hk
  rw[h2 k Ω,I.bel.block k hk]
 ·have hne:c≠b:=fun e=>by subst e;exact hn r t hc
  exact⟨hL'.ge hc,(h2 c hne).trans (hL'.get hc)⟩
theorem AH(I:Loc D w M){t e:ϋ}{x:Operand}(ho:o.op= .buildSlice t 1 #[(0,x)])[he:Elt t e]{d:IntKind}{n:Int}(hx:a.eval x= .int d n)(h:∀b Z,Υ w Z→Loc D Z ((b, #[.int d n],e)::M)→K (a.put o.dst (.slice (ϐ b) 1 1)) Z):o.wp prog a w K Q:=by
 obtain⟨i,z,hi,hz,hs1,hb,hzs⟩:=he.info;refine Yl t e 1 #[(0,x)] ho #[.int d n] i z he.und hi hz (by rw[hs1];decide) (by rw[hs1];decide) ?_ (h _ _ (jo (XE _ _) _) (I.alloc #[.int d n] e));rw[hs1];have e:(Array.map (fun(y:Nat×Operand)=>(y.1,a.eval y.2)) #[(0,x)]).toList=[(0,.int d n)]:=by simp[hx]
 rw[e];have e1:Array.range 1= #[0]:=rfl;simp[Instr.fill,Value.cells,e1]
end
theorem nI(id:Int)(κ:Φ)(w:ϑ)(h0:0≤id)(h1:id≤2147483647) :
 ϓ 82 #[.int .i64 id,.agg (aa 32 κ)] w fun e Z=>∃g W E,e= .returned (.slice (ϐ g) 44 W)∧OwnR E 44 W (ak (dG id κ))∧Loc w Z [(g,E,5)]:=by
 have I:=Loc.nil w;have hp:=(fun J (u1 u2:ό) (h2:BRow J u1 [80,67,67,84]) (h3:VRow J u2 (cj [id]))=>gT u1 [80,67,67,84] u2 [id] J h2 (fun h=>by cases h) Ξ h3 Ϡ Ϡ (fun x hx=>by
  obtain rfl:=List.mem_singleton.1 hx;omega))
 obtain⟨l1,hl1⟩:∃l1,l1=[80,67,67,84]++aW [id]:=⟨_,rfl⟩;have hn1:l1.length=12:=by rw[hl1];simp[bp]
 have hct:dG id κ=l1++ae 32 κ:=by rw[hl1];unfold dG aW;simp
 rw[← hl1]at hp;rw[hct];simp only[Fresh,hn1,eU]at hp;have HP:=Hd hp;haveI s4:Seg (aa 32 κ) 0 32 (ak (ae 32 κ)):=fD 32 κ;clear hl1 hct hp hn1 h0 h1;go_enter func82,ntmps82;go_wp2_with (first|refine aU ?_|refine gBp 3 fun b3 J I=>?_|refine ab fun J I=>?_);refine eQ (R:=?R) (fun hR=>?h1) ?h2;case h1 =>
  refine mX (S:=(fun _=>True)) 8 (trivial) ?_;intro H;replace I:=I.drew;refine uG 2 ?_;refine uG 5 ?_;refine rd2 0 3 ?_ ?_
  ·intro K T
   first|refine Cf I rfl rfl rfl rfl rfl fun b5 J Y=>?_
   clear I;have I:=Y;clear Y;refine kO T (trivial) ?_;clear T K H;intro H;refine rd2 1 3 ?_ ?_
   ·intro K T
    refine AG 80 67 67 84 I rfl rfl rfl rfl (by intro r' t' hc;simp only[Ym,Yc,or_false,Prod.mk.injEq]at hc;have hnd:=I.nd;simp only[List.map_cons,List.map_nil,Yx,Ym,Yc,or_false]at hnd;revert hc hnd;clear I;intro hc hnd;grind) fun J hb6 Y=>?_;clear I;have I:=Y;clear Y;refine kO T (trivial) ?_;clear T K H;intro H;refine rd1 3 fun K T=>?_;refine AH I rfl rfl fun b8 J hN Y=>?_
    try replace hb6:=BRow.below hb6 hN
    clear hN;clear I;have I:=Y;clear Y;refine kO T (trivial) ?_;clear T K H;intro H;refine rd1 4 fun K T=>?_;refine eK (HP.out _ _ _ hb6 (See.see (v:= .slice (ϐ b8) 1 1) _ I)) ?_;rintro e J⟨g9,Y9,Z9,rfl,W9,hN⟩;refine⟨_,rfl,?_⟩;have Y:=I.fresh hN.2.2 hN.1 hN.2.1;clear hN hb6;clear I;revert Y;refine aN ?_;intro I;refine kO T (trivial) ?_;clear T K H;intro H;refine rd1 6 fun K T=>?_;refine qP I rfl rfl rfl (by clear hR;omega) ?_;clear I;intro g11 Y11 Z11 J W11 I
    (try dsimp only at I)
    refine kO T (trivial) ?_;clear T K H;intro H;refine uG 7 ?_;refine wD ?_;clear H;have hLp:=I;clear I;revert hLp;revert J;revert W11;revert Z11;revert Y11;revert g11;revert W9;revert Z9;revert Y9;revert g9;revert b8;revert b5;exact pm hR
   ·intro K T
    refine AH I rfl rfl fun b8 J hN Y=>?_
    try replace hb6:=BRow.below hb6 hN
    clear hN;clear I;have I:=Y;clear Y;refine kO T (trivial) ?_;clear T K H;intro H;refine rd1 1 fun K T=>?_;refine AG 80 67 67 84 I rfl rfl rfl rfl (by intro r' t' hc;simp only[Ym,Yc,or_false,Prod.mk.injEq]at hc;have hnd:=I.nd;simp only[List.map_cons,List.map_nil,Yx,Ym,Yc,or_false]at hnd;revert hc hnd;clear I;intro hc hnd;grind) fun J hb6 Y=>?_;clear I;have I:=Y;clear Y;refine kO T (trivial) ?_;clear T K H;intro H;refine rd1 4 fun K T=>?_;refine eK (HP.out _ _ _ hb6 (See.see (v:= .slice (ϐ b8) 1 1) _ I)) ?_;rintro e J⟨g9,Y9,Z9,rfl,W9,hN⟩;refine⟨_,rfl,?_⟩;have Y:=I.fresh hN.2.2 hN.1 hN.2.1;clear hN hb6;clear I;revert Y;refine aN ?_;intro I;refine kO T (trivial) ?_;clear T K H;intro H;refine rd1 6 fun K T=>?_;refine qP I rfl rfl rfl (by clear hR;omega) ?_;clear I;intro g11 Y11 Z11 J W11 I
    (try dsimp only at I)
    refine kO T (trivial) ?_;clear T K H;intro H;refine uG 7 ?_;refine wD ?_;clear H;have hLp:=I;clear I;revert hLp;revert J;revert W11;revert Z11;revert Y11;revert g11;revert W9;revert Z9;revert Y9;revert g9;revert b8;revert b5;exact pm hR
  ·intro K T
   refine AH I rfl rfl fun b8 J hN Y=>?_
   try replace hb6:=BRow.below hb6 hN
   clear hN;clear I;have I:=Y;clear Y;refine kO T (trivial) ?_;clear T K H;intro H;refine rd1 0 fun K T=>?_
   first|refine Cf I rfl rfl rfl rfl rfl fun b5 J Y=>?_
   clear I;have I:=Y;clear Y;refine kO T (trivial) ?_;clear T K H;intro H;refine rd1 1 fun K T=>?_;refine AG 80 67 67 84 I rfl rfl rfl rfl (by intro r' t' hc;simp only[Ym,Yc,or_false,Prod.mk.injEq]at hc;have hnd:=I.nd;simp only[List.map_cons,List.map_nil,Yx,Ym,Yc,or_false]at hnd;revert hc hnd;clear I;intro hc hnd;grind) fun J hb6 Y=>?_;clear I;have I:=Y;clear Y;refine kO T (trivial) ?_;clear T K H;intro H;refine rd1 4 fun K T=>?_;refine eK (HP.out _ _ _ hb6 (See.see (v:= .slice (ϐ b8) 1 1) _ I)) ?_;rintro e J⟨g9,Y9,Z9,rfl,W9,hN⟩;refine⟨_,rfl,?_⟩;have Y:=I.fresh hN.2.2 hN.1 hN.2.1;clear hN hb6;clear I;revert Y;refine aN ?_;intro I;refine kO T (trivial) ?_;clear T K H;intro H;refine rd1 6 fun K T=>?_;refine qP I rfl rfl rfl (by clear hR;omega) ?_;clear I;intro g11 Y11 Z11 J W11 I
   (try dsimp only at I)
   refine kO T (trivial) ?_;clear T K H;intro H;refine uG 7 ?_;refine wD ?_;clear H;have hLp:=I;clear I;revert hLp;revert J;revert W11;revert Z11;revert Y11;revert g11;revert W9;revert Z9;revert Y9;revert g9;revert b8;revert b5;exact pm hR
 intro b5 b8 g9 Y9 Z9 W9 g11 Y11 Z11 W11 J Y;clear I;have I:=Y;clear Y;go_wp2_with (refine ϛ fun J I=>?_);go_ret;exact⟨g11,Y11,Z11,rfl,W11,I.sub ((Yd _).cons_cons _)⟩
instance Vs:Ent 82:=eo func82
instance Vt(id:Int)(κ cs:Φ):Part (ctR id κ cs) 77 1 24 (aa 32 κ):=bQ (pre:= #[.int .i64 id]) (post:=aa 64 cs) rfl rfl
theorem og(k:Φ)(id:Int)(κ cs:Φ)(w:ϑ)[hG:Glob w][hI:GlobI w](h0:0≤id)(h1:id≤2147483647) :
 Rt 69 #[.agg (aa 32 k),.agg (ctR id κ cs)] w (.bool (gV k id κ cs)):=by
 have I:=Loc.nil w;have HM:=Hd (fun J=>(dS id h0 h1).calls J);have HT:=Hd (fun J=>nI id κ J h0 h1);have χ:(dG id κ).length=44:=by unfold dG;simp[aw,ag]
 have HV:=Hd (fun J (V:Υ w J) (u:ό) (hu:BRow J u (dG id κ))=> @R3.refVerify_any k cs u (dG id κ) J (hG.below V) (hI.below V) hu Ω);have HC:=Hd (show dA (leN k) (leN cs) (leN fun i=>cs (32+i)) (dG id κ)=gV k id κ cs from rfl);rw[HC.out]at HV;clear HC h0 h1 χ;generalize gV k id κ cs=C,dG id κ=Tzq at *
 go_enter func69,ntmps69;go_wp2_with (first|refine aU ?_|refine gBp 2 fun b2 J I=>?_|refine gBp 3 fun b3 J I=>?_|refine ab fun J I=>?_);refine Ϭ 15 I fun H I=>?_;refine uG 0 ?_;refine uZ 1 ?_;refine rd1 2 fun K T=>?_;refine eVv (HM.out _) I fun J I=>?_;refine kO T (I) fun H=>?_;refine uG 3 ?_;refine uL 4 ?_;refine uS 5 ?_;refine uS 7 ?_;refine uS 9 ?_;refine uL 6 ?_;refine uL 8 ?_;refine uL 10 ?_;refine rd1 11 fun K T=>?_;refine eK (HT.out _) ?_;rintro e J⟨g16,Y16,Z16,rfl,W16,hN⟩;refine⟨_,rfl,?_⟩;refine Ϧ (I.join hN) fun I=>?_;refine kO T (I.pop) fun H=>?_;refine rd1 12 fun K T=>?_;refine eVv (HV.out _ I.bel (.slice (ϐ g16) 44 Y16) (See.bytes I)) I fun J I=>?_;refine kO T (I.pop) fun H=>?_;refine uG 13 ?_;refine uG 14 ?_;refine wD ?_;clear H;go_wp2_with (refine ϛ fun J I=>?_);go_ret;exact⟨rfl,I.bel⟩
theorem jC(m:Man)(hm:m.Ok)(k:Φ)(p:ϊ)(c:Nat)(w:ϑ)[hG:Glob w][hI:GlobI w](hv:BRow w (.slice p 80 c) m.wr) :
 Rt 28 #[.agg (aa 32 k),.agg (m.row p 80 c)] w (.int .i64 (if m.good k then 0 else 11)):=by
 have I:=Loc.nil w;have HB:=Hd (fun J (V:Υ w J)=>io m hm p c J (hv.below V));have hbl:=Man.body_length hm;have HC:=Hd (fun J (V:Υ w J)=> @og k m.id m.κ m.cs J (hG.below V) (hI.below V) hm.i0 hm.i1);have HS:=Hd (fun J (V:Υ w J) (u:ό) (hu:BRow J u m.body)=> @R3.refVerify_any m.κ m.sg u m.body J (hG.below V) (hI.below V) hu Ω);have HSO:=Hd (show dA (leN m.κ) (leN m.sg) (leN fun i=>m.sg (32+i)) m.body=mw m.κ m.sg m.body from rfl);rw[HSO.out]at HS;have HG:=Hd (show m.good k=(gV k m.id m.κ m.cs&&mw m.κ m.sg m.body)from rfl);rw[HG.out];clear HSO HG hv hbl hm;generalize gV k m.id m.κ m.cs=C,mw m.κ m.sg m.body=S at *
 have HROW:=Hd (show m.row p 80 c=mfR m.ν m.ζ m.ρ p 80 c m.id m.κ m.cs m.sg from rfl);rw[HROW.out]at HB ⊢;clear HROW;obtain⟨b,hb⟩:∃b,b=m.body:=⟨_,rfl⟩;rw[← hb]at HB HS;clear hb;obtain⟨ν,ζ,ρ,wr,id,κ,cs,sg⟩:=m;dsimp only at *
 cases C
 ·rw[show(if(false&&S)=true then(0:Int)else 11)=11 from by simp]
  go_enter func28,ntmps28;go_wp2_with (first|refine aU ?_|refine gBp 2 fun b2 J I=>?_|refine gBp 3 fun b3 J I=>?_|(refine gN 11 ?_;refine lKk (HB.out _ I.bel) ?_;rintro e J⟨g9,Y9,Z9,rfl,W9,hN⟩;refine Ϩ (I.join hN) fun I=>?_)|(go_at_call 69;go_loud (refine(HC.out _ I.bel).mono ?_);rintro e J⟨rfl,V⟩;replace I:=I.keep V;refine p4 ?_)|refine ab fun J I=>?_);go_ret;exact⟨rfl,I.bel⟩
 ·cases S
  ·rw[show(if(true&&false)=true then(0:Int)else 11)=11 from by simp]
   go_enter func28,ntmps28;go_wp2_with (first|refine aU ?_|refine gBp 2 fun b2 J I=>?_|refine gBp 3 fun b3 J I=>?_|(refine gN 11 ?_;refine lKk (HB.out _ I.bel) ?_;rintro e J⟨g9,Y9,Z9,rfl,W9,hN⟩;refine Ϩ (I.join hN) fun I=>?_)|(go_at_call 69;go_loud (refine(HC.out _ I.bel).mono ?_);rintro e J⟨rfl,V⟩;replace I:=I.keep V;refine p4 ?_)|(go_at_call 70;go_loud (refine(HS.out _ I.bel (.slice (ϐ g9) 236 Y9) (See.bytes I)).mono ?_);rintro e J⟨rfl,V⟩;replace I:=I.keep V;refine p4 ?_)|refine ab fun J I=>?_);go_ret;exact⟨rfl,I.bel⟩
  ·rw[show(if(true&&true)=true then(0:Int)else 11)=0 from by simp]
   go_enter func28,ntmps28;go_wp2_with (first|refine aU ?_|refine gBp 2 fun b2 J I=>?_|refine gBp 3 fun b3 J I=>?_|(refine gN 11 ?_;refine lKk (HB.out _ I.bel) ?_;rintro e J⟨g9,Y9,Z9,rfl,W9,hN⟩;refine Ϩ (I.join hN) fun I=>?_)|(go_at_call 69;go_loud (refine(HC.out _ I.bel).mono ?_);rintro e J⟨rfl,V⟩;replace I:=I.keep V;refine p4 ?_)|(go_at_call 70;go_loud (refine(HS.out _ I.bel (.slice (ϐ g9) 236 Y9) (See.bytes I)).mono ?_);rintro e J⟨rfl,V⟩;replace I:=I.keep V;refine p4 ?_)|refine ab fun J I=>?_);go_ret;exact⟨rfl,I.bel⟩
instance Vu:Ent 28:=eo func28
theorem G3(id:Int)(κ f:Φ)(w:ϑ):(Instr.build 77 #[(0,.int .i64 id),(1,.agg (aa 32 κ)),(2,.agg (aa 64 f))]).run prog w= .ok (.agg (ctR id κ f)) w:=Θ
instance ctZ:RowZ 77 (ctR 0 (fun _=>0) fun _=>0):=⟨Θ⟩
theorem vQ(k:Φ)(id:Int)(κ:Φ)(w:ϑ)[hG:Glob w][hI:GlobI w](h0:0≤id)(h1:id≤2147483647)(hk:(bK (leN κ)).isSome=true) :
 Rt 34 #[.agg (aa 32 k),.int .i64 id,.agg (aa 32 κ)] w (.tuple #[.agg (ctR id κ (ia (ae 32 k) (dG id κ))),.int .i64 0]):=by
 have I:=Loc.nil w;have HM:=Hd (fun J=>(dS id h0 h1).calls J);have hmy:=(fun J (V:Υ w J)=> @R3.refMay_any κ J (hG.below V) (hI.below V));rw[hk]at hmy;have HY:=Hd hmy;have HT:=Hd (fun J=>nI id κ J h0 h1);have χ:(dG id κ).length=44:=by unfold dG;simp[aw,ag]
 have HS:=Hd (fun J (V:Υ w J) (u:ό) (hu:BRow J u (dG id κ))=> @qT k u (dG id κ) J (hG.below V) hu Ω);clear h0 h1 χ hk hmy;generalize ia (ae 32 k) (dG id κ)=F at *
 generalize dG id κ=Tzq at *
 have hbu:=fun J=>G3 id κ F J;haveI hrr:=JT id κ F;generalize ctR id κ F=RR at *
 go_enter func34,ntmps34;go_wp2_with (first|refine aU ?_|refine gBp 3 fun b3 J I=>?_|refine gBp 5 fun b5 J I=>?_|refine gBp 6 fun b6 J I=>?_|(go_at_call 79;go_loud (refine(HM.out _).mono ?_);rintro e J⟨rfl,V⟩;replace I:=I.keep V;refine p4 ?_)|(go_at_call 80;go_loud (refine(HY.out _ I.bel).mono ?_);rintro e J⟨rfl,V⟩;replace I:=I.keep V;refine p4 ?_)|refine ab fun J I=>?_);refine mX (S:=fun Z=>Loc _ Z _) 10 (Loc.rem b6 (I.drew)) ?_;intro H;replace I:=I.drew;refine uG 0 ?_;refine uZ 1 ?_;refine uZ 2 ?_;refine uG 3 ?_;refine uZ 4 ?_;refine rd1 5 fun K T=>?_;refine eK (HT.out _) ?_;rintro e J⟨g23,Y23,Z23,rfl,W23,hN⟩;refine⟨_,rfl,?_⟩;refine Ϧ (I.join hN) fun I=>?_;refine kO T (Loc.rem b6 (I.pop)) fun H=>?_;refine rd1 6 fun K T=>?_;refine eVv (HS.out _ I.bel (.slice (ϐ g23) 44 Y23) (See.bytes I)) I fun J I=>?_;refine kO T (Loc.rem b6 (I.pop)) fun H=>?_;refine uT 7 (hi:=rfl) (zU ϕ rfl hbu rfl) ?_;refine rd1 8 fun K T=>?_;refine cY fun J I=>?_;refine kO T (Loc.rem b6 (I.pop)) fun H=>?_;refine uG 9 ?_;refine wD ?_;clear H;go_wp2_with (refine ϛ fun J I=>?_);exact Ϣ (ao rfl I rfl rfl) rfl ⟨rfl,I.bel⟩
instance Vv:Ent 34:=eo func34
theorem AI(k:Φ)(m:Man)(hm:m.Ok)(p:ϊ)(c:Nat)(w:ϑ)[hG:Glob w](hv:BRow w (.slice p 80 c) m.wr) :
 ϓ 37 #[.agg (aa 32 k),.agg (m.row p 80 c)] w fun e Z=>∃g W E,e= .returned (.tuple #[.agg (Man.row { m with sg:=ia (ae 32 k) m.body } (ϐ g) 80 W),.int .i64 0])∧OwnR E 80 W (ak m.wr)∧Loc w Z [(g,E,5)]:=by
 have I:=Loc.nil w;haveI hA:Arg w (.slice p 80 c) (ak m.wr):=⟨hv.vrow⟩;have HB:=Hd (fun J (V:Υ w J)=>io m hm p c J (hv.below V));have hbl:=Man.body_length hm;have HS:=Hd (fun J (V:Υ w J) (u:ό) (hu:BRow J u m.body)=> @qT k u m.body J (hG.below V) hu Ω);have hROW:m.row p 80 c=mfR m.ν m.ζ m.ρ p 80 c m.id m.κ m.cs m.sg:=rfl;have HROW2:=Hd (fun F p n c=>show Man.row { m with sg:=F } p n c=mfR m.ν m.ζ m.ρ p n c m.id m.κ m.cs F from rfl);simp only[HROW2.out];rw[hROW]at HB
 try rw[hROW]
 generalize ia (ae 32 k) m.body=F at *
 obtain⟨b,hb⟩:∃b,b=m.body:=⟨_,rfl⟩;rw[← hb]at HB HS;clear hb hbl hv hm hROW HROW2;obtain⟨ν,ζ,ρ,wr,id,κ,cs,sg⟩:=m;dsimp only at *
 go_enter func37,ntmps37;go_wp2_with (first|refine aU ?_|refine gBp 2 fun b2 J I=>?_|refine gBp 3 fun b3 J I=>?_|refine gBp 4 fun b4 J I=>?_|(refine gN 10 ?_;refine lKk (HB.out _ I.bel) ?_;rintro e J⟨g10,Y10,Z10,rfl,W10,hN⟩;refine Ϩ (I.join hN) fun I=>?_)|(refine gN 19 ?_;refine aNb ?_;intro g19 Y19 Z19 J W19 I)|(go_at_call 81;go_loud (refine(HS.out _ I.bel (.slice (ϐ g10) 236 Y10) (See.bytes I)).mono ?_);rintro e J⟨rfl,V⟩;replace I:=I.keep V;refine p4 ?_)|refine ab fun J I=>?_);exact Ϣ (ao rfl I rfl rfl) rfl ⟨g19,Y19,Z19,rfl,W19,I.sub ((Yd _).cons_cons _)⟩
instance Vw:Ent 37:=eo func37
def ccR(v:ό)(i:Nat)(bad:Bool):Ψ:= #[v,.int .i64 i,.bool bad]
section
variable {D w:ϑ} {F:Ψ→Mem} {bc:Nat} [hA:∀x,At (F x) bc x 132] [hU:∀x y,Ups (F x) bc y (F y)]
theorem iq{A:ϊ}{m c:Nat}{l:Δ}(hv:BRow D (.slice A m c) l)(i n:Nat)(h0:0<n)(hin:i+n≤l.length)(hm:l.length=m)(hc:m≤c)(h1:m≤1000000)(I:Loc D w (F (ccR (.slice A m c) i false))) :
 ϓ 64 #[.pointer (ϐ bc),.int .i64 n] w fun e Z=>∃g' cap' cur',e= .returned (.slice (ϐ g') n cap')∧OwnR cur' n cap' (ak ((l.drop i).take n)) ∧
  Loc D Z ((g',cur',5)::F (ccR (.slice A m c) (i+n:Nat) false)):=by
 have B:=hv.cut (i:=i) (k:=i+n) Ω hin Ω;rw[show i+n-i=n from by omega]at B;have q13:¬c=i:=Ω;have hcut:eR A c i=Option.map (fun x=>x.add i) A:=by unfold eR;rw[Χ Ω];simp
 rw[hcut]at B;haveI hA2:Arg D (.slice (Option.map (fun x=>x.add i) A) n (c-i)) (ak ((l.drop i).take n)):=⟨B.vrow⟩;have χ:((l.drop i).take n).length=n:=by rw[Xr,Xz];omega
 have HLEN:=Hd χ;have HCAST:=Hd (show((i+n:Nat):Int)=(i:Int)+n from Ω);have W2:IntKind.i64.wrap ((i:Int)+n)=(i:Int)+n:=by rw[XV];omega
 have t1:((i:Int)+n).toNat=i+n:=Ω;have q10:(i:Int)+n≤c:=Ω;have q11:(0:Int)≤(i:Int)+n:=Ω;have q12:i≤i+n:=Ω;have N0:=Hd h0;have q1:¬(m:Int)-i<n:=Ω;have q2:¬(n:Int)<0:=Ω;have W1:IntKind.i64.wrap ((m:Int)-i)=(m:Int)-i:=by rw[XV];omega
 have q3:(0:Int)≤i:=Ω;have q4:(i:Int)+n≤1000000:=Ω;have q5:(n:Int)≤1000000:=Ω;have q6:(m:Int)≤1000000:=Ω;have q7:(0:Int)≤n:=Ω;have q8:(i:Int)≤m:=Ω;have q9:(0:Int)≤m:=Ω;have hcc:ccR (.slice A m c) (i+n:Nat) false= #[.slice A m c,.int .i64 ((i:Int)+n),.bool false]:=by unfold ccR;rw[HCAST.out]
 rw[hcc];replace I:Loc D w (F #[.slice A m c,.int .i64 i,.bool false]):=I;clear hv B χ hcc hin hm hc h1 h0 hcut;generalize(l.drop i).take n=lt at *
 go_enter func64,ntmps64;go_wp2_with (refine ϛ fun J I=>?_);refine Ϭ 22 I fun H I=>?_;refine uG 0 ?_;refine uG 1 ?_;refine uG 2 ?_;refine uZ 3 ?_;refine uG 4 ?_;refine uS 5 ?_;refine uS 6 ?_;refine uG 7 ?_;refine uG 8 ?_;refine uS 9 ?_;refine uS 10 ?_;refine uS 15 ?_;refine uS 11 ?_;refine uS 16 ?_;refine uS 12 ?_;refine uS 17 ?_;refine uL 13 ?_;refine uL 18 ?_;refine uS 14 ?_;refine uS 19 ?_;refine uS 20 ?_;refine uG 21 ?_;refine wD ?_;clear H;go_wp2_with (refine ϛ fun J I=>?_);refine mX (S:=(fun Z=>Loc D Z (F #[Value.slice A m c,Value.int IntKind.i64 i,Value.bool false]))) 17 (I.drew) ?_;intro H;replace I:=I.drew;refine uG 0 ?_;refine uG 4 ?_;refine uG 8 ?_;refine uG 12 ?_;refine uG 1 ?_;refine uG 5 ?_;refine uG 9 ?_;refine uG 2 ?_;refine uG 6 ?_;refine uG 10 ?_;refine uZ 3 ?_;refine uZ 7 ?_;refine uZ 11 ?_;refine uG 13 ?_;refine uG 14 ?_;refine rd1 15 fun K T=>?_;refine FP I rfl rfl rfl (by have:=HLEN.out;have:=N0.out;first|omega|(rw[ap];omega)) ϖ ?_;intro g46 Y46 Z46 J W46 I;refine kO T (I.pop) fun H=>?_;refine uG 16 ?_;refine wD ?_;clear H;go_wp2_with (refine ϛ fun J I=>?_);go_ret;exact⟨g46,Y46,Z46,rfl,W46,I⟩
end
instance Vx:Ent 64:=eo func64
theorem G4(u:Nat)(x:Γ)(h:u<2^56):bits .or .i64 (IntKind.i64.wrap ((u:Int)*256)) (B8 x)=IntKind.i64.wrap ((u*256+x.toNat:Nat):Int):=by
 have hx:=x.isLt;have e3:u*256|||x.toNat=u*256+x.toNat:=by
  have:=Yt (i:=8) (b:=x.toNat) Ω u;rw[Y3]at this;exact this.symm
 show IntKind.i64.wrap ((BitVec.ofInt 64 (IntKind.i64.wrap ((u:Int)*256))|||BitVec.ofInt 64 (B8 x)).toNat:Nat)=_;have e1:(BitVec.ofInt 64 (IntKind.i64.wrap ((u:Int)*256))).toNat=u*256:=by
  rw[X9,XV];omega
 have e2:(BitVec.ofInt 64 (B8 x)).toNat=x.toNat:=by
  rw[X9];unfold B8;omega
 rw[ZU,e1,e2,e3]
section
variable {D w:ϑ} {F:Ψ→Mem} {bc:Nat} [hA:∀x,At (F x) bc x 132] [hU:∀x y,Ups (F x) bc y (F y)]
theorem yz{A:ϊ}{m c:Nat}(hm:m≤1000000)(I:Loc D w (F (ccR (.slice A m c) m false))) :
 ϓ 68 #[.pointer (ϐ bc)] w fun e Z=>e= .returned (.bool true)∧Loc D Z (F (ccR (.slice A m c) m false)):=by
 replace I:Loc D w (F #[.slice A m c,.int .i64 m,.bool false]):=I;go_enter func68,ntmps68;go_wp2_with (refine ϛ fun J I=>?_);refine Ϭ 18 I fun H I=>?_;refine uG 0 ?_;refine uG 1 ?_;refine uG 2 ?_;refine uZ 3 ?_;refine uG 4 ?_;refine uG 5 ?_;refine uS 6 ?_;refine uS 10 ?_;refine uS 7 ?_;refine uS 11 ?_;refine uS 8 ?_;refine uS 12 ?_;refine uL 9 ?_;refine uL 13 ?_;refine uS 14 ?_;refine uS 15 ?_;refine uG 16 ?_;refine uG 17 ?_;refine wD ?_;clear H;go_wp2_with (refine ϛ fun J I=>?_);go_ret;exact⟨rfl,I⟩
theorem pP{A:ϊ}{m c:Nat}{l:Δ}(hv:BRow D (.slice A m c) l)(i:Nat)(hin:i+8≤l.length)(hm:l.length=m)(hc:m≤c)(h1:m≤1000000)(I:Loc D w (F (ccR (.slice A m c) i false))) :
 ϓ 65 #[.pointer (ϐ bc)] w fun e Z=>e= .returned (.int .i64 (fV ((l.drop i).take 8)))∧Loc D Z (F (ccR (.slice A m c) (i+8:Nat) false)):=by
 have HC:=Hd (iq (F:=F) (bc:=bc) hv i 8 Ω hin hm hc h1 I);have χ:((l.drop i).take 8).length=8:=by rw[Xr,Xz];omega
 have HLEN:=Hd χ;clear hv I hin hm hc h1 χ;generalize(l.drop i).take 8=lt at *
 generalize ccR (.slice A m c) (i+8:Nat) false=cc at *
 go_enter func65,ntmps65;go_wp2_with (go_at_call 64;go_loud (refine HC.out.mono ?_);rintro e J⟨g7,Y7,Z7,rfl,W7,I⟩);clear HC;have hs:=zD Z7 8 Y7 (ak lt);have h7:=HLEN.out;have H8:=Hd (show lt.take 8=lt from Xq Ω);have HB:∀k,(hk:k<lt.length)→fU (lt.take (k+1))=fU (lt.take k)*256+lt[k].toNat:=fun k hk=>by rw[Xo hk,kM]
 have HBB:=Hd HB;have HV:=Hd (fun k (hk:k<8)=>show fU (lt.take k)<2^56 from by
  have h:=vw (lt.take k);have h2:256^(lt.take k).length≤256^7:=Xx Ω (by rw[Xr];omega);omega)
 have HIV:=Hd (show fV lt=IntKind.i64.wrap (fU lt:Int)from by unfold fV wrap64;rw[XV];try omega);clear HB h7;go_loopw [4,5] (fun u kk wr=>∃k:Nat,k≤8∧kk= .int .i64 k∧u= .int .i64 (IntKind.i64.wrap (fU (lt.take k):Int))∧Loc D wr ((g7,Z7,5)::F cc)) (fun _ kk _=>8-(intOf kk).toNat);case atStart=>exact⟨0,Ω,rfl,rfl,I⟩
 case round =>
  clear I;obtain⟨k,hk,rfl,rfl,I⟩:=hrel;by_cases h7:k<8
  ·have hk0:(0:Int)≤(k:Int):=Ω
   have hk1:(k:Int)<8:=Ω;have hlt':k<lt.length:=by rw[HLEN.out];exact h7
   have hb:=HBB.out k hlt';haveI g1:Cell Z7 k (.int .u8 (B8 lt[k])):=W7.cellB hlt';have hu:fU (lt.take k)<2^56:=HV.out k h7;have ho:=G4 (fU (lt.take k)) lt[k] hu;rw[← hb]at ho;have HO:=Hd ho;have hw:IntKind.i64.wrap (B8 lt[k])=B8 lt[k]:=by have:=bP lt[k];rw[XV];omega
   generalize lt[k]=bb at *
   clear hb ho hlt';generalize fU (lt.take k)=u at *
   have hwu:IntKind.i64.wrap (u:Int)=u:=by rw[XV];omega
   rw[hwu];obtain⟨Wzq,hws⟩:∃Wzq,IntKind.i64.wrap ((u:Int)*256)=Wzq:=⟨_,rfl⟩;rw[hws]at HO;clear hu hwu;go_wp2_with (refine ϛ fun J I=>?_);go_roundw;case rel=>exact⟨k+1,Ω,by go_num,by rw[← HO.out],I⟩
   case measure=>exact ϝ
  ·obtain rfl:k=8:=Ω
   rw[H8.out];go_wp2_with (refine ϛ fun J I=>?_);go_ret;rw[HIV.out];exact⟨rfl,Loc.rem g7 I⟩
end
instance Vy:Ent 65:=eo func65
instance Vz:Ent 68:=eo func68
section
variable {D w:ϑ} {F:Ψ→Mem} {bc:Nat} [hA:∀x,At (F x) bc x 132] [hU:∀x y,Ups (F x) bc y (F y)]
theorem Cg{A:ϊ}{m c:Nat}{l:Δ}{f:Φ}(hv:BRow D (.slice A m c) l)(i:Nat)(hin:i+32≤l.length)(hm:l.length=m)(hc:m≤c)(h1:m≤1000000)(hT:(l.drop i).take 32=ae 32 f)(I:Loc D w (F (ccR (.slice A m c) i false))) :
 ϓ 66 #[.pointer (ϐ bc)] w fun e Z=>e= .returned (.agg (aa 32 f))∧Loc D Z (F (ccR (.slice A m c) (i+32:Nat) false)):=by
 have h32:(ak (ae 32 f)).length=32:=by rw[ap,ag]
 haveI sp:Spl (aa 32 fun _=>0) 0 (ak (ae 32 f)) (aa 32 f):=k6 _ _ _ Ω fun i hi=>by rw[Ρ ⟨Ω,Ω⟩];rfl
 have HC:=Hd (fun(G:Ψ→Mem) J (q:∀x,At (G x) bc x 132) (q2:∀x y,Ups (G x) bc y (G y)) h=> @iq D J G bc q q2 A m c l hv i 32 Ω hin hm hc h1 h);rw[hT]at HC;clear hT hv hin hm hc h1;generalize ccR (.slice A m c) (i+32:Nat) false=c2,ccR (.slice A m c) i false=c1 at *
 go_enter func66,ntmps66;go_wp2_with (first|refine aU ?_|refine gBp 2 fun b2 J I=>?_|refine gBp 3 fun b3 J I=>?_|refine ab fun J I=>?_);refine mX (S:=(fun _=>True)) 4 (trivial) ?_;intro H;replace I:=I.drew;refine uG 0 ?_;refine uG 1 ?_;refine rd1 2 fun K T=>?_;refine eK (HC.out (fun x=>(b3,aa 32 (fun _=>0),24)::(b2,aa 32 (fun _=>0),24)::F x) _ (fun _=>Ϙ) (fun _ _=>Ϙ) I) ?_;rintro e J⟨g6,Y6,Z6,rfl,W6,Y⟩;refine⟨_,rfl,?_⟩;refine Ϫ Y fun I=>?_;refine kO T (trivial) fun H=>?_;refine rd1 3 fun K T=>?_;refine eCp fun J I=>?_;refine kO T (trivial) fun H=>?_;refine wD ?_;clear H;go_wp2_with (refine ϛ fun J I=>?_);exact Ϣ (aj rfl I rfl) rfl ⟨rfl,Loc.rem b2 (Loc.rem b3 I.pop)⟩
end
instance VA:Ent 66:=eo func66
theorem vR{pre post:Ψ}{n k:Nat}(f g:Φ)(hk:pre.size=k):Spl (pre++aa n f++post) k (ak (ae n g)) (pre++aa n g++post) where
 fit:=by rw[ap,ag];simp[ai];omega
 spl:=by
  subst hk;rw[ap,ag];have e:ak (ae n g)=(aa n g).toList:=by unfold ak ae aa row;simp[List.map_map,Function.comp_def]
  apply Array.toList_inj.1;rw[e];have h1:(aa n f).toList.length=n:=by simp[ai]
  have h2:List.drop (pre.size+n) (pre.toList++((aa n f).toList++post.toList))=post.toList:=by rw[show pre.size=pre.toList.length from by simp,← YQ,List.drop_left,List.drop_left' h1]
  simp only[YJ,Xc];rw[h2,show pre.size=pre.toList.length from by simp,Ze]
instance VB(ν ζ:Int)(ρ:Φ)(p:ϊ)(n c:Nat)(id:Int)(κ cs sg x:Φ):Spl (mfR ν ζ ρ p n c id κ cs sg) 68 (ak (ae 64 x)) (mfR ν ζ ρ p n c id κ x sg):=by
 have:=vR (n:=64) (pre:= #[.int .i64 ν,.int .i64 ζ]++aa 32 ρ ++ #[.slice p n c,.int .i64 id]++aa 32 κ) (post:=aa 64 sg) cs x (k:=68) ϔ;simpa only[mfR,Xb] using this
instance VC(ν ζ:Int)(ρ:Φ)(p:ϊ)(n c:Nat)(id:Int)(κ cs sg x:Φ):Spl (mfR ν ζ ρ p n c id κ cs sg) 132 (ak (ae 64 x)) (mfR ν ζ ρ p n c id κ cs x):=by
 have:=vR (n:=64) (pre:= #[.int .i64 ν,.int .i64 ζ]++aa 32 ρ ++ #[.slice p n c,.int .i64 id]++aa 32 κ++aa 64 cs) (post:= #[]) sg x (k:=132) ϔ;simpa only[mfR,Xb,Array.append_empty] using this
instance Qs(ν ζ:Int)(ρ:Φ)(p:ϊ)(n c:Nat)(id:Int)(κ cs sg:Φ)(x:Int):Put (mfR ν ζ ρ p n c id κ cs sg) 0 (.int .i64 x) (mfR x ζ ρ p n c id κ cs sg):=⟨by
 unfold mfR;rw[Xm ϔ,Xm ϔ,Xm ϔ,Xm ϔ,Xm Ϡ];rfl,by rw[fW];decide⟩
theorem sa(p:ϊ)(n c:Nat)(w:ϑ):(Instr.build 132 #[(0,.slice p n c)]).run prog w= .ok (.agg (ccR (.slice p n c) 0 false)) w:=Θ
theorem yA{ν ζ id:Int}{ρ κ cs sg:Φ}{wr:Δ}(hw:wr.length=80)(p:ϊ)(c:Nat)(w:ϑ)(hv:BRow w (.slice p 80 c) wr) :
 ϓ 67 #[.agg (mfR ν ζ ρ p 80 c id κ cs sg)] w fun e Z=>∃p n c M,e= .returned (.tuple #[.slice p n c,.int .i64 (if jw ν ζ id then 0 else 1)])∧Loc w Z M:=by
 cases hb:jw ν ζ id
 ·exact(x9 hb w).mono fun e Z h=>⟨_,_,_,[],h.1,(Loc.nil w).keep h.2⟩
 ·obtain⟨v0,v1,b0,b1,i0,i1⟩:=XC hb
  exact(io ⟨ν,ζ,ρ,wr,id,κ,cs,sg⟩ ⟨v0,v1,b0,b1,hw,i0,i1⟩ p c w hv).mono fun e Z h=>by
   obtain⟨g,W,E,h1,h2,h3⟩:=h;exact⟨_,_,_,_,h1,h3⟩
theorem NN{l k:Δ}{x:ByteArray}(hk:bn k=x){nb b:Bool}(h:b=(decide (l=k)&&nb)):(bn l=x∧nb=true∧b=true)∨(bn l=x∧nb=false∧b=false)∨(((bn l).toList==x.toList)=false∧nb=true∧b=false)∨(((bn l).toList==x.toList)=false∧nb=false∧b=false):=by
 subst h hk;by_cases hm:l=k
 ·subst hm;cases nb <;> simp
 ·have:=BV (l:=l) (k:=k) rfl hm
  cases nb <;> simp[hm,this]
theorem eh(l:Δ)(χ:l.length=300)(A:ϊ)(c:Nat)(w:ϑ)(hv:BRow w (.slice A 300 c) l)(hc:300≤c) :
 ϓ 26 #[.slice A 300 c] w fun e Z=>cond (gU l) (∃g W E,e= .returned (.tuple #[.agg ((av l).row (ϐ g) 80 W),.int .i64 0])∧OwnR E 80 W (ak (av l).wr)∧Loc w Z [(g,E,5)]) (e= .returned (.tuple #[.agg mfZ,.int .i64 4])∧Υ w Z):=by
 have I:=Loc.nil w;have E3:=bN l 20 32 Ω;have E6:=bN l 140 32 Ω;have E7:=Hd (bN l 172 64 Ω);have E8:=Hd (bN l 236 64 Ω);have hS0:bn [80,67,77,49]=⟨#[80,67,77,49]⟩:=rfl;obtain⟨B,hb⟩:∃B,B=gU l:=⟨_,rfl⟩;rw[← hb];unfold gU at hb;have hrow:∀p n c,(av l).row p n c=mfR (av l).ν (av l).ζ (av l).ρ p n c (av l).id (av l).κ (av l).cs (av l).sg:=fun _ _ _=>rfl;simp only[hrow];clear hrow;unfold av at hb ⊢;dsimp only at hb ⊢;have hwl:((l.drop 52).take 80).length=80:=by rw[Xr,Xz];omega
 obtain⟨ν,E1⟩:∃x,x=fV ((l.drop 4).take 8):=⟨_,rfl⟩;obtain⟨ζ,E2⟩:∃x,x=fV ((l.drop 12).take 8):=⟨_,rfl⟩;obtain⟨id,E5⟩:∃x,x=fV ((l.drop 132).take 8):=⟨_,rfl⟩;obtain⟨wr,E4⟩:∃x,x=(l.drop 52).take 80:=⟨_,rfl⟩;rw[← E1,← E2,← E5]at hb ⊢;rw[← E4]at hwl ⊢;generalize(fun i=>l.getD (20+i) 0)=ρ,(fun i=>l.getD (140+i) 0)=κ,(fun i=>l.getD (172+i) 0)=cs,(fun i=>l.getD (236+i) 0)=sg at *
 have H0:=Hd (fun(G:Ψ→Mem) {bc:Nat} J (q:∀x,At (G x) bc x 132) (q2:∀x y,Ups (G x) bc y (G y)) h=> @iq w J G bc q q2 A 300 c _ hv 0 4 Ω Ω χ hc Ω h);have H1:=Hd (fun(G:Ψ→Mem) {bc:Nat} J (q:∀x,At (G x) bc x 132) (q2:∀x y,Ups (G x) bc y (G y)) h=> @pP w J G bc q q2 A 300 c _ hv 4 Ω χ hc Ω h);have H2:=Hd (fun(G:Ψ→Mem) {bc:Nat} J (q:∀x,At (G x) bc x 132) (q2:∀x y,Ups (G x) bc y (G y)) h=> @pP w J G bc q q2 A 300 c _ hv 12 Ω χ hc Ω h);have H3:=Hd (fun(G:Ψ→Mem) {bc:Nat} J (q:∀x,At (G x) bc x 132) (q2:∀x y,Ups (G x) bc y (G y)) h=> @Cg w J G bc q q2 A 300 c _ _ hv 20 Ω χ hc Ω E3 h);have H4:=Hd (fun(G:Ψ→Mem) {bc:Nat} J (q:∀x,At (G x) bc x 132) (q2:∀x y,Ups (G x) bc y (G y)) h=> @iq w J G bc q q2 A 300 c _ hv 52 80 Ω Ω χ hc Ω h);have H5:=Hd (fun(G:Ψ→Mem) {bc:Nat} J (q:∀x,At (G x) bc x 132) (q2:∀x y,Ups (G x) bc y (G y)) h=> @pP w J G bc q q2 A 300 c _ hv 132 Ω χ hc Ω h);have H6:=Hd (fun(G:Ψ→Mem) {bc:Nat} J (q:∀x,At (G x) bc x 132) (q2:∀x y,Ups (G x) bc y (G y)) h=> @Cg w J G bc q q2 A 300 c _ _ hv 140 Ω χ hc Ω E6 h);have H7:=Hd (fun(G:Ψ→Mem) {bc:Nat} J (q:∀x,At (G x) bc x 132) (q2:∀x y,Ups (G x) bc y (G y)) h=> @iq w J G bc q q2 A 300 c _ hv 172 64 Ω Ω χ hc Ω h);have H8:=Hd (fun(G:Ψ→Mem) {bc:Nat} J (q:∀x,At (G x) bc x 132) (q2:∀x y,Ups (G x) bc y (G y)) h=> @iq w J G bc q q2 A 300 c _ hv 236 64 Ω Ω χ hc Ω h);have HE:=Hd (fun(G:Ψ→Mem) {bc:Nat} J (q:∀x,At (G x) bc x 132) (q2:∀x y,Ups (G x) bc y (G y)) h=> @yz w J G bc q q2 A 300 c Ω h);simp only[Nat.reduceAdd]at H0 H1 H2 H3 H4 H5 H6 H7 H8;have hb0:=(fun p c J hv=>yA (ν:=ν) (ζ:=ζ) (id:=id) (ρ:=ρ) (κ:=κ) (cs:=cs) (sg:=sg) hwl p c J hv);generalize jw ν ζ id=nb at *
 have h64a:(ak (ae 64 cs)).length=64:=by rw[ap,ag]
 have h64b:(ak (ae 64 sg)).length=64:=by rw[ap,ag]
 obtain⟨sm,hsm⟩:∃sm,sm=bn (l.take 4):=⟨_,rfl⟩;have HSM:=Hd (show bn ((l.drop 0).take 4)=sm from hsm.symm);have h3:=NN hS0 hb;rw[← hsm]at h3;rcases h3 with⟨rfl,rfl,rfl⟩|⟨rfl,rfl,rfl⟩|⟨hS,rfl,rfl⟩|⟨hS,rfl,rfl⟩
 all_goals
  try rw[show(⟨#[80,67,77,49]⟩:ByteArray).toList=[80,67,77,49]from by simp]at hS
  replace E1:=Hd E1.symm;replace E2:=Hd E2.symm;replace E4:=Hd E4.symm;replace E5:=Hd E5.symm;have HB:=Hd hb0;clear hb0;simp only[X8,ZP,ZV]at HB;clear hv χ hc E3 E6 hwl hS0 hsm hb;go_enter func26,ntmps26;go_wp2_with (first|refine aU ?_|refine gBp 2 fun b2 J I=>?_|refine gBp 6 fun b6 J I=>?_|(refine gN 10 ?_;refine ϙ (sa _ _ _) fun J I=>?_)|refine gBp 11 fun b11 J I=>?_|(refine gN 13 ?_;refine lKk (H0.out (fun x=>[(b11,x,132),(b2,mfZ,79)]) _ (fun _=>Ϙ) (fun _ _=>Ϙ) I) ?_;rintro e J⟨g13,Y13,Z13,rfl,W13,Y⟩;refine Ϥ Y fun I=>?_)|(refine gN 15 ?_;refine lKk (H1.out (fun x=>[(b6,mfR 0 0 (fun _=>0) none 0 0 0 (fun _=>0) (fun _=>0) (fun _=>0),79),(g13,Z13,5),(b11,x,132),(b2,mfZ,79)]) _ (fun _=>Ϙ) (fun _ _=>Ϙ) I) ?_;rintro e J⟨rfl,Y⟩;rw[E1.out];refine Ϥ Y fun I=>?_)|(refine gN 18 ?_;refine lKk (H2.out (fun x=>[(b6,mfR ν 0 (fun _=>0) none 0 0 0 (fun _=>0) (fun _=>0) (fun _=>0),79),(g13,Z13,5),(b11,x,132),(b2,mfZ,79)]) _ (fun _=>Ϙ) (fun _ _=>Ϙ) I) ?_;rintro e J⟨rfl,Y⟩;rw[E2.out];refine Ϥ Y fun I=>?_)|(refine gN 21 ?_;refine lO (H3.out (fun x=>[(b6,mfR ν ζ (fun _=>0) none 0 0 0 (fun _=>0) (fun _=>0) (fun _=>0),79),(g13,Z13,5),(b11,x,132),(b2,mfZ,79)]) _ (fun _=>Ϙ) (fun _ _=>Ϙ) I) fun J I=>?_)|(refine gN 24 ?_;refine lKk (H4.out (fun x=>[(b6,mfR ν ζ ρ none 0 0 0 (fun _=>0) (fun _=>0) (fun _=>0),79),(g13,Z13,5),(b11,x,132),(b2,mfZ,79)]) _ (fun _=>Ϙ) (fun _ _=>Ϙ) I) ?_;rintro e J⟨g24,Y24,Z24,rfl,W24,Y⟩;rw[E4.out]at W24;refine Ϥ Y fun I=>?_)|(refine gN 27 ?_;refine lKk (H5.out (fun x=>[(g24,Z24,5),(b6,mfR ν ζ ρ (ϐ g24) 80 Y24 0 (fun _=>0) (fun _=>0) (fun _=>0),79),(g13,Z13,5),(b11,x,132),(b2,mfZ,79)]) _ (fun _=>Ϙ) (fun _ _=>Ϙ) I) ?_;rintro e J⟨rfl,Y⟩;rw[E5.out];refine Ϥ Y fun I=>?_)|(refine gN 31 ?_;refine lO (H6.out (fun x=>[(g24,Z24,5),(b6,mfR ν ζ ρ (ϐ g24) 80 Y24 id (fun _=>0) (fun _=>0) (fun _=>0),79),(g13,Z13,5),(b11,x,132),(b2,mfZ,79)]) _ (fun _=>Ϙ) (fun _ _=>Ϙ) I) fun J I=>?_)|refine ab fun J I=>?_|refine Ϯ fun J I=>?_);refine mX (S:=(fun _=>True)) 6 (trivial) ?_;intro H;replace I:=I.drew;refine uG 0 ?_;refine uG 3 ?_;refine uG 1 ?_;refine uG 2 ?_;refine rd1 4 fun K T=>?_;refine eK (H7.out (fun x=>[(g24,Z24,5),(b6,mfR ν ζ ρ (ϐ g24) 80 Y24 id κ (fun _=>0) (fun _=>0),79),(g13,Z13,5),(b11,x,132),(b2,mfZ,79)]) _ (fun _=>Ϙ) (fun _ _=>Ϙ) I) ?_;rintro e J⟨g38,Y38,Z38,rfl,W38,Y⟩;refine⟨_,rfl,?_⟩;rw[E7.out]at W38;refine Ϫ Y fun I=>?_;refine kO T (trivial) fun H=>?_;refine rd1 5 fun K T=>?_;refine eCp fun J I=>?_;refine kO T (trivial) fun H=>?_;refine wD ?_;clear H;go_wp2_with (refine ϛ fun J I=>?_);refine mX (S:=(fun _=>True)) 5 (trivial) ?_;intro H;replace I:=I.drew;refine uG 0 ?_;refine uG 2 ?_;refine uG 1 ?_;refine rd1 3 fun K T=>?_;refine eK (H8.out (fun x=>[(g38,Z38,5),(g24,Z24,5),(b6,mfR ν ζ ρ (ϐ g24) 80 Y24 id κ cs (fun _=>0),79),(g13,Z13,5),(b11,x,132),(b2,mfZ,79)]) _ (fun _=>Ϙ) (fun _ _=>Ϙ) I) ?_;rintro e J⟨g43,Y43,Z43,rfl,W43,Y⟩;refine⟨_,rfl,?_⟩;rw[E8.out]at W43;refine Ϫ Y fun I=>?_;refine kO T (trivial) fun H=>?_;refine rd1 4 fun K T=>?_;refine eCp fun J I=>?_;refine kO T (trivial) fun H=>?_;refine wD ?_;clear H;go_wp2_with (first|refine aU ?_|(refine gN 47 ?_;refine lKk (HB.out _ _ _ (See.bytes (l:=wr) I)) ?_;rintro e J⟨p47,n47,c47,M47,rfl,hN⟩;refine Ϩ (I.join hN) fun I=>?_)|(refine gN 51 ?_;refine sJ I rfl rfl rfl ?_;rw[HSM.out];clear I;intro J I;refine p4 ?_)|(refine gN 55 ?_;refine lO (HE.out (fun x=>M47++[(g43,Z43,5),(g38,Z38,5),(g24,Z24,5),(b6,mfR ν ζ ρ (ϐ g24) 80 Y24 id κ cs sg,79),(g13,Z13,5),(b11,x,132),(b2,mfZ,79)]) _ (fun _=>Ϙ) (fun _ _=>Ϙ) I) fun J I=>?_)|(refine gN 62 ?_;refine ϙ i4 fun J I=>?_)|refine ab fun J I=>?_|refine Ϯ fun J I=>?_);skip
 ·exact Ϣ (ao rfl I rfl rfl) rfl ⟨g24,Y24,Z24,rfl,W24,Loc.sub (Loc.right I) Ϡ⟩
 ·exact Ϣ (ao rfl I rfl rfl) rfl ⟨rfl,I.bel⟩
 ·exact Ϣ (ao rfl I rfl rfl) rfl ⟨rfl,I.bel⟩
 ·exact Ϣ (ao rfl I rfl rfl) rfl ⟨rfl,I.bel⟩
section
open R3
theorem yB(pa pb:ϊ)(ca cb:Nat)(salt κ:Δ)(w:ϑ)(hv:BRow w (.slice pa salt.length ca) salt)(hvb:BRow w (.slice pb κ.length cb) κ)(hs:0<salt.length∧salt.length≤64)(hk:κ.length≤999999000) :
 Rt 256 #[.slice pa salt.length ca,.slice pb κ.length cb] w (.agg (aa 32 (ib salt κ))):=by
 have I:=Loc.nil w;have HM:=Hd (fun J (V:Υ w J) (u:ό) (hu:BRows J u [κ])=>vt (.slice pa salt.length ca) u salt [κ] J (hv.below V) hu hs Ϡ (by simpa using hk));rw[show[κ].flatten=κ from by simp]at HM;have HB:=Hd (fun J (V:Υ w J)=>hvb.below V);clear hv hvb hs hk;generalize ib salt κ=Tzq at *
 go_enter func256,ntmps256;go_wp2_with (first|refine aU ?_|refine gBp 4 fun b4 J I=>?_|(refine gN 7 ?_;refine aL fun b7 J I=>?_)|(go_at_call 242;go_loud (refine(HM.out _ I.bel _ (iV (I.get (.head _)) (HB.out _ I.bel))).mono ?_);rintro e J⟨rfl,V⟩;replace I:=I.keep V;refine p4 ?_)|refine ab fun J I=>?_);exact Λ
instance VD:Ent 256:=eo func256
theorem oS(e z:Φ)(w:ϑ):Rt 215 #[.agg (aa 32 e),.agg (aa 32 z)] w (.agg (aa 32 (wkF e z))):=by
 have I:=Loc.nil w;have hx:=fun J (pa pb:ϊ) (ca cb:Nat) (hu:BRow J (.slice pa 32 ca) (ae 32 e)) (hub:BRow J (.slice pb 32 cb) (ae 32 z))=>yB pa pb ca cb (ae 32 e) (ae 32 z) J (by rw[ag];exact hu) (by rw[ag];exact hub) (by rw[ag];omega) (by rw[ag];omega);simp only[ag]at hx;have HX:=Hd hx;have HK:=Hd (fun J=>BQ (ib (ae 32 e) (ae 32 z)) [119,114,97,112] J Ξ);have HW:=Hd (show m6 (ib (ae 32 e) (ae 32 z)) [119,114,97,112]=wkF e z from rfl);rw[HW.out]at HK;clear hx HW;generalize wkF e z=Tzq,ib (ae 32 e) (ae 32 z)=Yzq at *
 haveI s1:Seg (aa 32 e) 0 32 (ak (ae 32 e)):=fD 32 e;haveI s2:Seg (aa 32 z) 0 32 (ak (ae 32 z)):=fD 32 z;go_enter func215,ntmps215;go_wp2_with (first|refine aU ?_|refine gBp 2 fun b2 J I=>?_|refine gBp 3 fun b3 J I=>?_|refine gBp 4 fun b4 J I=>?_|refine ab fun J I=>?_);refine mX (S:=fun Z=>Loc _ Z _) 5 (Loc.rem b4 (I.drew)) ?_;intro H;replace I:=I.drew;refine uG 0 ?_;refine uG 1 ?_;refine rd1 2 fun K T=>?_;refine eVv (HX.out _ _ _ _ _ (See.bytes I (v:= .slice (ϐ b2) 32 32)) (See.bytes I (v:= .slice (ϐ b3) 32 32))) I fun J I=>?_;refine kO T (Loc.rem b4 (I)) fun H=>?_;refine rd1 3 fun K T=>?_;refine eVv (HK.out _) I fun J I=>?_;refine kO T (Loc.rem b4 (I)) fun H=>?_;refine rd1 4 fun K T=>?_;refine cY fun J I=>?_;refine kO T (Loc.rem b4 (I)) fun H=>?_;refine wD ?_;clear H;go_wp2_with (refine ϛ fun J I=>?_);exact Λ
instance VE:Ent 215:=eo func215
instance VF:Ent 212:=eo func212
theorem oh{w:ϑ}{a:ϊ}{c:Nat}{l:Δ}{f:Φ}{n k:Nat}(h:BRow w (.slice a n c) l)(hk:k≤l.length)(hc:l.length≤c)(e:l.take k=ae k f):BRow w (.slice a k c) (ae k f):=by
 have:=h.cutHi hk hc;rwa[e]at this
theorem DM(σ e x:Φ)(pa:ϊ)(ca:Nat)(l:Δ)(w:ϑ)(hv:BRow w (.slice pa l.length ca) l)(hl:l.length=80)(hc:80≤ca)(he:l.take 32=ae 32 e)(hz:a7 σ e≠0)(htag:ae 16 (f8 (wkF e (ah (a7 σ e))) (fun _=>0) ((l.drop 32).take 32) (ae 32 (ah (a7 σ bO))))=(l.drop 32).drop 32)(hx:dv (wkF e (ah (a7 σ e))) (BitVec.ofInt 32 1) (fun _=>0) ((l.drop 32).take 32)=ae 32 x) :
 Rt 159 #[.agg (aa 32 σ),.slice pa 80 ca] w (.tuple #[.agg (aa 32 x),.int .i64 0]):=by
 have I:=Loc.nil w;have h48:(l.drop 32).length=32+16:=by rw[Xz];omega
 haveI f1:FnC 213 #[.agg (aa 32 σ)] (.agg (aa 32 (ah (a7 σ bO)))):=Ϙ;have h2:=fun J=>ll σ e J;rw[Χ hz]at h2;haveI f2:FnC 212 #[.agg (aa 32 σ),.agg (aa 32 e)] (.tuple #[.agg (aa 32 (ah (a7 σ e))),.int .i64 0]):=⟨h2⟩;have HK:=Hd (fun J=>oS e (ah (a7 σ e)) J);have B1:=oh (k:=32) hv Ω Ω he;have B2:=hv.cutLo (i:=32) Ω Ω;rw[hl]at B2;have hs1:=fun J=>ko (A:=pa) (n:=80) (c:=ca) (k:=32) Ω J;have hs2:=fun J=>km (A:=pa) (n:=80) (c:=ca) (i:=32) Ω J;have ho:=fun J (V:Υ w J) (ub:ό) (hub:BRow J ub (ae 32 (ah (a7 σ bO))))=>oO (wkF e (ah (a7 σ e))) (fun _=>0) (eR pa ca 32) (ca-32) 32 ub (l.drop 32) (ae 32 (ah (a7 σ bO))) J h48 (by rw[h48];exact B2.below V) Ω hub Ω (by rw[ag];omega) htag;rw[hx,h48]at ho;have HO:=Hd ho;have HB:=Hd (fun J (V:Υ w J)=>B1.below V);obtain⟨b0,off0,rfl⟩:=hv.some Ω;clear ho h2 htag hx hz he h48 B1 B2 hv;have hne:¬ca=32:=Ω;have hcut:eR (some ⟨b0,off0,none⟩) ca 32=some ⟨b0,off0+32,none⟩:=by unfold eR;rw[Χ hne];rfl
 rw[hcut]at HO;clear hcut hs1 hs2;generalize wkF e (ah (a7 σ e))=Wzq,ah (a7 σ e)=Zzq,ah (a7 σ bO)=N9 at *
 haveI s1:Seg (aa 32 N9) 0 32 (ak (ae 32 N9)):=fD 32 N9;have harr:=kL;clear hl;go_enter func159,ntmps159;go_wp2_with (first|refine aU ?_|refine gBp 2 fun b2 J I=>?_|refine gBp 4 fun b4 J I=>?_|refine gBp 6 fun b6 J I=>?_|refine gBp 7 fun b7 J I=>?_|refine gBp 9 fun b9 J I=>?_|((refine gN 18 ?_;refine du rfl _ rfl b0 off0 32 ca e rfl (HB.out _ I.bel) ?_;refine p4 ?_))|refine ab fun J I=>?_|refine Ϯ fun J I=>?_);refine Ϭ 13 I fun H I=>?_;refine uZ 0 ?_;refine uZ 1 ?_;refine uT 3 (hi:=rfl) (zU ϕ rfl fp rfl) ?_;refine uG 4 ?_;refine uG 6 ?_;refine uG 5 ?_;refine rd1 2 fun K T=>?_;refine eVv (HK.out _) I fun J I=>?_;refine kO T (I) fun H=>?_;refine rd1 7 fun K T=>?_;refine eK (HO.out _ I.bel (.slice (ϐ b9) 32 32) (See.bytes I)) ?_;rintro e J⟨v39,rfl,W39,hb39⟩;refine⟨_,rfl,?_⟩;have Y:=I.keep hb39;refine Ϫ Y fun I=>?_;refine kO T (I) fun H=>?_;refine uG 8 ?_;refine uG 9 ?_;refine uG 10 ?_;refine uG 11 ?_;refine uG 12 ?_;refine wD ?_;clear H;obtain⟨p9,c9,rfl⟩:=W39.shape;rw[ag]at *
 obtain⟨b39,o39,rfl⟩:=W39.some (by rw[ag];omega);go_wp2_with (first|refine aU ?_|((refine gN 48 ?_;refine du rfl _ rfl b39 o39 32 c9 x rfl W39 ?_;refine p4 ?_))|refine ab fun J I=>?_);exact Ϣ (ao rfl I rfl rfl) rfl ⟨rfl,I.bel⟩
instance VG:Ent 159:=eo func159
end
section
open R3
theorem uj(n:Nat):¬Qo∣bJ n:=by
 refine GG ?_ (jz n) ?_
 ·unfold bJ
  have:=Xg 254;omega
 ·unfold bJ
  rw[show(2:Nat)^254=8*2^251 from by decide +kernel];omega
theorem G5:leN (dy bO)=9:=Ϛ
theorem Jn:fe 9=9:=Ϛ
theorem Jo:P<2^255:=Ϛ
theorem DN(k:Φ):a7 k bO=(db (bJ (leN k)) 9).val:=by
 rw[pK,G5,Jn]
theorem G6(a:F):fe (leN (dy (ah a.val)))=a:=by
 have h:=a.isLt;have hp:=Jo;have h6:a.val<2^256:=jX a;rw[(nV _).1,bT h6,Xd (Yo h hp),fG]
theorem yC(m k:Φ):a7 m (ah (a7 k bO))=(db (bJ (leN m)) (db (bJ (leN k)) 9)).val:=by
 rw[DN k,pK];generalize db (bJ (leN k)) 9=a;rw[G6]
theorem Jp(m k:Φ):a7 m (ah (a7 k bO))=a7 k (ah (a7 m bO))∧a7 m (ah (a7 k bO))≠0:=by
 obtain⟨h1,h2⟩:=Lh (jz (leN m)) (jz (leN k)) (uj _) (uj _);rw[yC,yC];generalize db (bJ (leN m)) (db (bJ (leN k)) 9)=a at *
 generalize db (bJ (leN k)) (db (bJ (leN m)) 9)=b at *
 refine⟨by rw[h1],fun e=>h2 ?_⟩;exact ZM e
end
theorem vS{bf cc dd:Nat}{p:ϊ}{n c:Nat}{N:Int}{l:Δ}(w:ϑ)(h0:Was w dd 0 (aT bf))(h1:Was w dd 1 (aT cc))(h2:Was w dd 2 (.bool false))(h3:Was w bf 3 (.bool false))(hv:BRow w (.slice p n c) l)(hl0:0<l.length)(hl4:l.length<4) :
 Rt 18 #[aT dd,.agg (mvR 1 p n c N)] w (.tuple #[.slice none 0 0,.int .i64 4]):=by
 have I:=Loc.nil w;haveI hA:Arg w (.slice p n c) (ak l):=⟨hv.vrow⟩;have HDEAD:=Hd (fun(b:Nat) J (h:Loc w J [(b,mvR 1 p n c N,47)])=>(show ϓ 51 #[aT bf] J fun e Z=>e= .returned (.bool false)∧Loc w Z [(b,mvR 1 p n c N,47)]from by
  have I:=h;go_enter func51,ntmps51;go_wp2_with (refine ϛ fun J I=>?_)
  all_goals(go_ret;exact⟨rfl,I⟩)))
 have HC:=Hd (fun(b:Nat) J (h:Loc w J [(b,mvR 1 p n c N,47)])=>tP (cc:=cc) (N:=N) (p:=p) (n:=n) (c:=c) (fun v M'=>v=4∧M'=[(b,mvR 1 p n c N,47)]) (fun b' w2 h2=>(An (cc:=cc) (.slice p n c) l (fun w3 h3=>See.bytes h3) hl0 hl4 h2).mono fun e Z ⟨e1,e2⟩=>⟨4,_,e1,⟨rfl,rfl⟩,e2⟩) h);clear hv;go_enter func18,ntmps18;go_wp2_with (first|refine aU ?_|refine gBp 3 fun b3 J I=>?_|(refine gN 17 ?_;refine lO (HDEAD.out _ _ I) fun J I=>?_)|refine ab fun J I=>?_);refine mX (S:=fun Z=>Loc w Z [(b3,mvR 1 p n c N,47)]) 11 (I.drew) ?_;intro H;replace I:=I.drew;refine uG 0 ?_;refine uZ 4 ?_;refine uG 1 ?_;refine uG 2 ?_;refine uZ 3 ?_;refine rd1 5 fun K T=>?_;refine eK (HC.out _ _ I) ?_;rintro e J⟨_,_,rfl,⟨rfl,rfl⟩,Y⟩;refine⟨_,rfl,?_⟩;refine Ϫ Y fun I=>?_;refine kO T (I) fun H=>?_;refine uG 6 ?_;refine uG 7 ?_;refine uG 8 ?_;refine uG 9 ?_;refine uG 10 ?_;refine wD ?_;clear H;go_wp2_with (refine ϛ fun J I=>?_)
 all_goals(go_ret2;exact⟨rfl,I.bel⟩)
section
variable {D w:ϑ} {F:ύ} {bf bb bo bk kp a0 a1 cc dd:Nat} {fr fs:Φ} {p:ϊ} {n c:Nat} {N:Int}
theorem vT(hF:CoM F bf bb bo bk kp a0 a1 cc)(hD:∀x y z u c,At (F x y z u c) dd (dvR bf cc) 126)(d:Dv)(hS:∀x y z u c,SeeS D (F x y z u c) d.s d.q)(hg:Good d.s)(hm0:d.s.m0=[])(hm1:d.s.m1=[])(hac:d.s.ac= -1)(hd:d.s.d0=false)(hbt:d.bt= -1)(I:Loc D w (d.at F bf bb bo kp fr fs)) :
 ϓ 18 #[aT dd,.agg (mvR 4 p n c N)] w fun e Z=>e= .returned (.tuple #[.slice none 0 0,.int .i64 18])∧Loc D Z (d.at F bf bb bo kp fr fs):=by
 have hA:=hF.a;have hU:=hF.u;have hB:=hF.b;have hV:=hF.v;have hO:=hF.o;have hPP:=hF.p;have hQ:=hF.q;have hRR:=hF.r;have hG:=hF.g;have hH:=hF.h;have hKK:=hF.k;have hll:=hF.l;have hmm:=hF.m;refine(BW (bb:=bb) (er:=d.er) (pr:=d.pr) (hA _ _ _ _ _) (hD _ _ _ _ _) (fun o v M'=>o= .slice none 0 0∧v=18∧M'=d.at F bf bb bo kp fr fs) (fun o v M' ⟨h1,h2,h3⟩=>⟨by rw[h2];decide,by rw[h3];exact(hD _ _ _ _ _).mem⟩) (fun b J h1=>?_) I).mono ?_
 ·refine(Dk (fun v M'=>v=18∧M'=(b,mvR 4 p n c N,47)::d.at F bf bb bo kp fr fs) (fun b' w2 h2=>?_) h1).mono ?_
  ·refine(Di (F:=fun x y z u e=>(b',mvR 4 p n c N,47)::(b,mvR 4 p n c N,47)::F x y z u e) (bf:=bf) (bb:=bb) (bo:=bo) (bk:=bk) (kp:=kp) (a0:=a0) (a1:=a1) (cc:=cc) (fr:=fr) (fs:=fs) Ϙ d (fun x y z u e=>Ϙ) hg hm0 hm1 hac hd hbt h2).mono ?_
   rintro e Z⟨e1,e2⟩;exact⟨18,_,e1,⟨rfl,rfl⟩,e2⟩
  ·rintro e Z⟨v,M',e1,⟨rfl,rfl⟩,e2⟩
   exact⟨none,0,0,18,_,e1,⟨rfl,rfl,rfl⟩,e2⟩
 ·rintro e Z⟨po,no,co,v,M',e1,⟨h1,rfl,rfl⟩,e2⟩
  rw[h1]at e1;exact⟨e1,e2⟩
theorem Jq(S1 S0 Sr M:Mem)(a b:Nat×Ψ×ϋ):List.Perm (S1++(S0++(Sr++(a::b::M)))) (a::b::(S1++(S0++(Sr++M)))) :=
 (ry S1 S0 Sr (b::M) a).trans (List.Perm.cons a (ry S1 S0 Sr M b))
end
def cX(d:Φ)(v:Int):Nat→Γ:=sha (ae 32 d++aM v)
def yD(b:Δ):Nat→Γ:=fun i=>b.getD i 0
def AJ(b:Δ):Δ:=ae 64 (yD b)
def cJ(i:Int):Nat→Γ:=fun k=>if k<4 then 0 else p8 i (k-4)
def es(κ:Φ)(ν i:Int)(p:Δ):Δ:=nD κ (cJ i) p (aM ν)
noncomputable def DO(ρ signer device κ:Φ)(id ν ζ:Int)(rt:Φ):Man :=
 ⟨ν,ζ,rt,nF (ah (a7 device bO)) (sha (ae 32 (cX κ ν))) (cX κ ν),id,ah (gZ (ae 32 signer)),ia (ae 32 ρ) (dG id (ah (gZ (ae 32 signer)))),fun _=>0⟩
noncomputable def G7(ρ signer device κ:Φ)(id ν ζ:Int)(rt:Φ):Man :=
 { DO ρ signer device κ id ν ζ rt with sg:=ia (ae 32 signer) (DO ρ signer device κ id ν ζ rt).body }
theorem oT(b:Δ):(AJ b).length=64:=ag _ _
theorem iH{κ:Φ}{ν i:Int}{p:Δ}(h:p.length=64):(es κ ν i p).length=80:=by
 unfold es;rw[nG,h]
theorem Jr(ρ signer device κ:Φ){id ν ζ:Int}(rt:Φ)(i0:0≤id)(i1:id≤2147483647)(v0:0≤ν)(v1:ν≤2147483647)(b0:1≤ζ)(b1:ζ≤32):(DO ρ signer device κ id ν ζ rt).Ok :=
 ⟨v0,v1,b0,b1,nH _ _ _,i0,i1⟩
theorem Ch(ρ signer device κ:Φ){id ν ζ:Int}(rt:Φ)(i0:0≤id)(i1:id≤2147483647)(v0:0≤ν)(v1:ν≤2147483647)(b0:1≤ζ)(b1:ζ≤32):(G7 ρ signer device κ id ν ζ rt).Ok :=
 ⟨v0,v1,b0,b1,nH _ _ _,i0,i1⟩
theorem DP(l:Δ):(bK (leN (ah (gZ l)))).isSome=true:=by
 rw[bT (n:=gZ l) (KG _)];have h:bK (gZ l)=some (oX (de (oZ l) pB)):=EE (fY sB (oZ l));rw[h];rfl
structure Fits(device:Φ)(wr:Δ)(x:Φ):Prop where
 l:wr.length=80
 fit:∃e,wr.take 32=ae 32 e∧a7 device e≠0 ∧
  ae 16 (f8 (wkF e (ah (a7 device e))) (fun _=>0) ((wr.drop 32).take 32) (ae 32 (ah (a7 device bO))))=(wr.drop 32).drop 32 ∧
  dv (wkF e (ah (a7 device e))) (BitVec.ofInt 32 1) (fun _=>0) ((wr.drop 32).take 32)=ae 32 x
theorem oU{σ x:Φ}{l:Δ}(hf:Fits σ l x)(pa:ϊ)(ca:Nat)(hc:80≤ca)(w:ϑ)(hv:BRow w (.slice pa 80 ca) l) :
 Rt 159 #[.agg (aa 32 σ),.slice pa 80 ca] w (.tuple #[.agg (aa 32 x),.int .i64 0]):=by
 obtain⟨hl,e,h1,h2,h3,h4⟩:=hf;exact DM σ e x pa ca l w (by rw[hl];exact hv) hl hc h1 h2 h3 h4
section
open R3
def unE(l:Δ):Nat→Γ:=fun i=>l.getD (0+i) 0
noncomputable def unW(σ:Φ)(l:Δ):Nat→Γ:=wkF (unE l) (ah (a7 σ (unE l)))
noncomputable def unT(σ:Φ)(l:Δ):Bool:=decide (ae 16 (f8 (unW σ l) (fun _=>0) ((l.drop 32).take 32) (ae 32 (ah (a7 σ bO))))=(l.drop 32).drop 32)
noncomputable def unB(σ:Φ)(l:Δ):Bool:=decide (a7 σ (unE l)≠0)&&unT σ l
noncomputable def unF(σ:Φ)(l:Δ):Nat→Γ:=fun i=>(dv (unW σ l) (BitVec.ofInt 32 1) (fun _=>0) ((l.drop 32).take 32)).getD (0+i) 0
noncomputable def unK(σ:Φ)(l:Δ):Nat→Γ:=if unB σ l then unF σ l else fun _=>0
theorem sc{l:Δ}(h:l.length=80):l.take 32=ae 32 (unE l):=bN l 0 32 Ω
theorem yE{σ:Φ}{l:Δ}(h:l.length=80):dv (unW σ l) (BitVec.ofInt 32 1) (fun _=>0) ((l.drop 32).take 32)=ae 32 (unF σ l):=by
 have hl:(dv (unW σ l) (BitVec.ofInt 32 1) (fun _=>0) ((l.drop 32).take 32)).length=32:=by rw[dc,Xr,Xz];omega
 have e:=bN (dv (unW σ l) (BitVec.ofInt 32 1) (fun _=>0) ((l.drop 32).take 32)) 0 32 Ω;rw[List.drop_zero,Xq Ω]at e;exact e
theorem yF{σ:Φ}{l:Δ}(h:l.length=80)(hb:unB σ l=true):Fits σ l (unK σ l):=by
 obtain⟨h1,h2⟩:=(Xs _ _).mp hb;unfold unK;rw[Ρ hb];exact⟨h,unE l,sc h,XC h1,XC h2,yE h⟩
theorem DQ(σ:Φ)(pa:ϊ)(ca:Nat)(l:Δ)(w:ϑ)(hv:BRow w (.slice pa 80 ca) l)(hl:l.length=80)(hc:80≤ca)(hb:unB σ l=false) :
 ϓ 159 #[.agg (aa 32 σ),.slice pa 80 ca] w fun r Z=>∃k,r= .returned (.tuple #[.agg (aa 32 fun _=>0),.int .i64 k])∧¬k=0∧Υ w Z:=by
 have I:=Loc.nil w;have h48:(l.drop 32).length=32+16:=by rw[Xz];omega
 haveI f1:FnC 213 #[.agg (aa 32 σ)] (.agg (aa 32 (ah (a7 σ bO)))):=Ϙ;have h2:=fun J=>ll σ (unE l) J;have HK:=Hd (fun J=>oS (unE l) (ah (a7 σ (unE l))) J);have B1:=oh (k:=32) (by rw[← hl]at hv;exact hv) Ω Ω (sc hl);have B2:=hv.cutLo (i:=32) Ω Ω;have HB:=Hd (fun J (V:Υ w J)=>B1.below V);obtain⟨b0,off0,rfl⟩:=hv.some Ω;have hne:¬ca=32:=Ω;have hcut:eR (some ⟨b0,off0,none⟩) ca 32=some ⟨b0,off0+32,none⟩:=by unfold eR;rw[Χ hne];rfl
 by_cases hz:a7 σ (unE l)=0
 ·rw[Ρ hz]at h2
  haveI f2:FnC 212 #[.agg (aa 32 σ),.agg (aa 32 (unE l))] (.tuple #[.agg (aa 32 (ah (a7 σ (unE l)))),.int .i64 21]):=⟨h2⟩;clear h2 HK B1 B2 hv hl hb hz h48 hcut hne;generalize ah (a7 σ (unE l))=Zzq at *
  generalize unE l=Ezq at *
  have harr:=kL;go_enter func159,ntmps159;go_wp2_with (first|refine aU ?_|refine gBp 2 fun b2 J I=>?_|refine gBp 4 fun b4 J I=>?_|refine gBp 6 fun b6 J I=>?_|refine gBp 7 fun b7 J I=>?_|refine gBp 9 fun b9 J I=>?_|((refine gN 18 ?_;refine du rfl _ rfl b0 off0 32 ca Ezq rfl (HB.out _ I.bel) ?_;refine p4 ?_))|refine ab fun J I=>?_|refine Ϯ fun J I=>?_);exact Ϣ (ao rfl I rfl rfl) rfl ⟨21,rfl,Ξ,I.bel⟩
 ·have ht:unT σ l=false:=by unfold unB at hb;rwa[Xw hz,Bool.true_and]at hb
  rw[Χ hz]at h2;haveI f2:FnC 212 #[.agg (aa 32 σ),.agg (aa 32 (unE l))] (.tuple #[.agg (aa 32 (ah (a7 σ (unE l)))),.int .i64 0]):=⟨h2⟩;have ho:=fun J (V:Υ w J) (ub:ό) (hub:BRow J ub (ae 32 (ah (a7 σ bO))))=>oP (wkF (unE l) (ah (a7 σ (unE l)))) (fun _=>0) (eR (some ⟨b0,off0,none⟩) ca 32) (ca-32) 32 ub (l.drop 32) (ae 32 (ah (a7 σ bO))) J h48 (by rw[h48];exact B2.below V) Ω hub Ω (by rw[ag];omega) (ZN ht);rw[h48,hcut]at ho;have HO:=Hd ho;clear ho h2 ht hz hb h48 B1 B2 hv hcut;generalize wkF (unE l) (ah (a7 σ (unE l)))=Wzq,ah (a7 σ (unE l))=Zzq,ah (a7 σ bO)=N9 at *
  generalize unE l=Ezq at *
  haveI s1:Seg (aa 32 N9) 0 32 (ak (ae 32 N9)):=fD 32 N9;have harr:=kL;clear hl;go_enter func159,ntmps159;go_wp2_with (first|refine aU ?_|refine gBp 2 fun b2 J I=>?_|refine gBp 4 fun b4 J I=>?_|refine gBp 6 fun b6 J I=>?_|refine gBp 7 fun b7 J I=>?_|refine gBp 9 fun b9 J I=>?_|((refine gN 18 ?_;refine du rfl _ rfl b0 off0 32 ca Ezq rfl (HB.out _ I.bel) ?_;refine p4 ?_))|refine ab fun J I=>?_|refine Ϯ fun J I=>?_);refine Ϭ 13 I fun H I=>?_;refine uZ 0 ?_;refine uZ 1 ?_;refine uT 3 (hi:=rfl) (zU ϕ rfl fp rfl) ?_;refine uG 4 ?_;refine uG 6 ?_;refine uG 5 ?_;refine rd1 2 fun K T=>?_;refine eVv (HK.out _) I fun J I=>?_;refine kO T (I) fun H=>?_;refine rd1 7 fun K T=>?_;refine eVv (HO.out _ I.bel (.slice (ϐ b9) 32 32) (See.bytes I)) I fun J I=>?_;refine kO T (I) fun H=>?_;refine uG 8 ?_;refine uG 9 ?_;refine uG 10 ?_;refine uG 11 ?_;refine uG 12 ?_;refine wD ?_;clear H;go_wp2_with (refine ϛ fun J I=>?_);exact Ϣ (ao rfl I rfl rfl) rfl ⟨10,rfl,Ξ,I.bel⟩
end
def SeeL(S:Mem)(vs:List Value)(ls:List Δ):Prop :=
 vs.length=ls.length∧∀(j:Nat) (h1:j<vs.length) (h2:j<ls.length) (D w:ϑ),Loc D w S→BRow w vs[j] ls[j]
theorem SeeL.nil:SeeL [] [] []:=⟨rfl,fun j h=>absurd h Ϡ⟩
theorem SeeL.snoc{S:Mem}{vs:List Value}{ls:List Δ}(h:SeeL S vs ls){g n W:Nat}{E:Ψ}{l:Δ}(hr:OwnR E n W (ak l)):SeeL ((g,E,5)::S) (vs++[.slice (ϐ g) n W]) (ls++[l]):=by
 obtain⟨h0,h⟩:=h;refine⟨by simp[h0],fun j h1 h2 D w I=>?_⟩;simp only[Xa,XZ,ZB]at h1;rcases XI j vs.length with hj|hj
 ·rw[YB hj,YB (h0 ▸ hj)]
  exact h j hj (h0 ▸ hj) D w I.pop
 ·obtain rfl:j=vs.length:=Ω
  have e:(vs++[Value.slice (ϐ g) n W])[vs.length]'Ϡ= .slice (ϐ g) n W:=Ϡ;have e2:(ls++[l])[vs.length]'h2=l:=by simp[h0]
  rw[e,e2];haveI:=hr;exact See.bytes (l:=l) I
theorem SeeL.one{g n W:Nat}{E:Ψ}{l:Δ}(hr:OwnR E n W (ak l)):SeeL [(g,E,5)] [.slice (ϐ g) n W] [l]:=SeeL.nil.snoc hr
theorem SeeL.at{D w:ϑ}{S:Mem}{vs:List Value}{ls:List Δ}(h:SeeL S vs ls)(I:Loc D w S){j:Nat}(hj:j<ls.length):∃p c,vs[j]'(h.1 ▸ hj)= .slice p ls[j].length c∧BRow w (.slice p ls[j].length c) ls[j]:=by
 have hb:=h.2 j (h.1 ▸ hj) hj D w I;have hb2:=hb;obtain⟨p,c,e,_⟩:=hb2;rw[e]at hb;exact⟨p,c,e,hb⟩
theorem kU(n:Int)(h: -9223372036854775808≤n∧n≤9223372036854775807)(w:ϑ):ϓ 30 #[.int .i64 n] w fun e Z=>∃g W E,e= .returned (.slice (ϐ g) 8 W)∧OwnR E 8 W (ak (aM n))∧w.heap.size≤g∧Z.heap[g]?=some (.cells E 5 (0,0))∧Υ w Z :=
 (qX n w h).mono fun e Z h=>by
  have h':=h;unfold Fresh at h';rw[aw]at h';exact h'
instance Qt(a b c d:Φ):Seg (cp a b c d) 96 32 (ak (ae 32 d)):=kQ (pre:=aa 32 a++aa 32 b++aa 32 c) (post:= #[]) (by simp only[cp,Array.append_empty]) ϔ
theorem DR(a b c d:Φ)(v:Int)(hv: -9223372036854775808≤v∧v≤9223372036854775807)(w:ϑ)(hk:KAt w) :
 Rt 32 #[.agg (cp a b c d),.int .i64 v] w (.agg (aa 32 (cX d v))):=by
 have I:=Loc.nil w;have HONE:=Hd (fun J=>kU v hv J);have HS:=Hd (fun J (V:Υ w J) u (h:BRow J u (ae 32 d++aM v))=>(show Rt 29 #[u] J (.agg (aa 32 (cX d v)))from dB u _ J h (by rw[Xa,aw,ag];decide) (hk.below V)));clear hv hk;generalize cX d v=Tzq,aM v=ps at *
 go_enter func32,ntmps32;go_wp2_with (first|refine aU ?_|refine gBp 2 fun b2 J I=>?_|refine gBp 4 fun b4 J I=>?_|(refine gN 7 ?_;refine aNb ?_;intro g7 Y7 Z7 J W7 I)|(go_at_call 30;go_loud (refine(HONE.out _).mono ?_);rintro e J⟨g9,Y9,Z9,rfl,W9,hg9,hc9,hb9⟩;have Y:=I.fresh hb9 hg9 hc9;clear hb9 hg9 hc9;clear I;have I:=Y;clear Y;refine p4 ?_)|(refine gN 10 ?_;refine aA ?_;intro g10 Y10 Z10 J W10 I)|(go_at_call 29;go_loud (refine(HS.out _ I.bel (.slice (ϐ g10) (32+8) Y10) (See.bytes I)).mono ?_);rintro e J⟨rfl,V⟩;replace I:=I.keep V;refine p4 ?_)|refine ab fun J I=>?_);exact Λ
instance VH:RowZ 161 (aa 12 fun _=>0):=⟨Θ⟩
theorem nJ(i:Int)(hi: -9223372036854775808≤i∧i≤9223372036854775807)(w:ϑ) :
 Rt 133 #[.int .i64 i] w (.agg (aa 12 (cJ i))):=by
 have I:=Loc.nil w;have HONE:=Hd (fun J=>kU i hi J);haveI sp:Spl (aa 12 fun _=>0) 4 (ak (aM i)) (aa 12 (cJ i)):=k6 _ _ _ Ω fun k hk=>by
  unfold cJ;by_cases h:k<4
  ·rw[Χ Ω,Ρ h]
  ·rw[Ρ ⟨Ω,Ω⟩,Χ h]
 have h8:(ak (aM i)).length=8:=by rw[ap,aw]
 clear hi;generalize cJ i=Tzq,aM i=ps at *
 go_enter func133,ntmps133;go_wp2_with (first|refine aU ?_|refine gBp 2 fun b2 J I=>?_|refine gBp 3 fun b3 J I=>?_|refine ab fun J I=>?_);refine mX (S:=(fun _=>True)) 4 (trivial) ?_;intro H;replace I:=I.drew;refine uG 0 ?_;refine uG 1 ?_;refine rd1 2 fun K T=>?_;refine eK (HONE.out _) ?_;rintro e J⟨g6,Y6,Z6,rfl,W6,hg6,hc6,hb6⟩;refine⟨_,rfl,?_⟩;have Y:=I.fresh hb6 hg6 hc6;clear hb6 hg6 hc6;clear I;have I:=Y;clear Y;refine kO T (trivial) fun H=>?_;refine rd1 3 fun K T=>?_;refine eCp fun J I=>?_;refine kO T (trivial) fun H=>?_;refine wD ?_;clear H;go_wp2_with (refine ϛ fun J I=>?_);exact Λ
instance VI:Ent 133:=eo func133
theorem tb(κ:Φ)(ν i:Int)(v0:0≤ν)(v1:ν≤2147483647)(i0:0≤i)(i1:i≤31)(p:ϊ)(c:Nat)(l:Δ)(hl:l.length=64)(w:ϑ)(hv:BRow w (.slice p 64 c) l) :
 ϓ 78 #[.agg (aa 32 κ),.int .i64 ν,.int .i64 i,.slice p 64 c] w fun e Z=>∃g W E,e= .returned (.tuple #[.slice (ϐ g) 80 W,.int .i64 0])∧OwnR E 80 W (ak (es κ ν i l))∧Loc w Z [(g,E,5)]:=by
 have I:=Loc.nil w;haveI hA:Arg w (.slice p 64 c) (ak l):=⟨hv.vrow⟩;have HONE:=Hd (fun J=>kU ν Ω J);have HNO:=Hd (fun J=>nJ i Ω J);haveI f1:FnC 79 #[.int .i64 ν] (.bool true):=dS ν v0 v1;have hse:=(fun J (u ub:ό) (hu:BRow J u l) (hub:BRow J ub (aM ν))=>oQ κ (cJ i) u ub l (aM ν) J hu hub Ω (by rw[aw];decide) Ω (by rw[aw];decide));simp only[hl,Nat.reduceAdd]at hse;have hbt:nD κ (cJ i) l (aM ν)=es κ ν i l:=rfl;rw[hbt]at hse;have HSE:=Hd hse;clear hse hbt v0 v1 hl hv;have q1:¬i<0:=Ω;have q2:¬31<i:=Ω;clear i0 i1;generalize es κ ν i l=Tzq,cJ i=nf,aM ν=ps at *
 go_enter func78,ntmps78;go_wp2_with (first|refine aU ?_|refine gBp 4 fun b4 J I=>?_|refine ab fun J I=>?_|refine Ϯ fun J I=>?_);refine mX (S:=(fun Z=>Loc w Z [(b4,aa 32 κ,24)])) 9 (ϒ) ?_;intro H;replace I:=I.drew;refine uZ 0 ?_;refine uG 1 ?_;refine uG 3 ?_;refine uG 4 ?_;refine rd1 2 fun K T=>?_;refine eVv (HNO.out _) I fun J I=>?_;refine kO T (ϒ) fun H=>?_;refine rd1 5 fun K T=>?_;refine eK (HONE.out _) ?_;rintro e J⟨g31,Y31,Z31,rfl,W31,hg31,hc31,hb31⟩;refine⟨_,rfl,?_⟩;have Y:=I.fresh hb31 hg31 hc31;clear hb31 hg31 hc31;clear I;have I:=Y;clear Y;refine kO T (ϒ) fun H=>?_;refine rd1 6 fun K T=>?_;refine eK (HSE.out _ (.slice p 64 c) (.slice (ϐ g31) 8 Y31) (See.bytes I) (See.bytes I)) ?_;rintro e J⟨g32,Y32,Z32,rfl,W32,hN⟩;refine⟨_,rfl,?_⟩;refine Ϧ (I.join hN) fun I=>?_;refine kO T (ϒ) fun H=>?_;refine uG 7 ?_;refine uG 8 ?_;refine wD ?_;clear H;go_wp2_with (refine ϛ fun J I=>?_);go_ret2;exact⟨g32,Y32,Z32,rfl,W32,I.sub ((Yd _).cons_cons _)⟩
instance VJ:Ent 78:=eo func78
def DT(l:Δ)(w:ϑ)(e:Ending)(Z:ϑ):Prop :=
 ∃go co uo gb cb ub,e= .returned (.tuple #[.slice (ϐ go) 1 co,.int .i64 0])∧OwnR uo 1 co [.slice (ϐ gb) l.length cb]∧OwnR ub l.length cb (ak l)∧Loc w Z [(go,uo,29),(gb,ub,5)]
instance Qu(p:ϊ)(n c:Nat):Seg #[.slice p n c] 0 1 [.slice p n c]:=⟨rfl,fun u hu=>by
 obtain rfl:=List.mem_singleton.1 hu;rfl,fun i hi=>by
 obtain rfl:i=0:=by simp at hi;exact hi
 rfl⟩
instance VK:Ent 25:=eo func25
section
open R3
theorem tc{ops:Array Oper}{o:Oper}{a:Act}{S:ϑ→Prop}(hw:Region.wanted o (yielded ops a.tmps)=true){x:Operand}(ho:o.op= .convert 29 9 x){p:ϊ}{n c:Nat}(hx:a.eval x= .slice p n c){l:Δ}(hy:∀w,S w→BRow w (.slice p n c) l) :
 YieldsIf prog ops S o (.string (bn l)) a:= .inl ⟨hw,fun w hS=>by
 have hrun:=qh (P:=prog) (hy w hS) underlying29 underlying5 underlying9;unfold execOp;simp only[ho,hx,Sem.run_bind,hrun,Result.andThen_ok,Sem.run_pure]⟩
theorem sd(κ η:Φ)(pb:ϊ)(cb n:Nat)(vs:ό)(l beside:Δ)(w:ϑ)(hn:l.length=n+16)(n0:0<n)(hb:BRow w (.slice pb l.length cb) l)(hcap:l.length≤cb)(hs:BRow w vs beside)(s0:0<beside.length)(h1:l.length≤100000)(h2:beside.length≤100000)(heq:ae 16 (f8 κ η (l.take n) beside)=l.drop n) :
 ϓ 181 #[.agg (aa 32 κ),.agg (aa 12 η),.slice pb l.length cb,vs] w fun e Z=>∃g W E,e= .returned (.tuple #[.slice (ϐ g) n W,.bool true])∧OwnR E n W (ak (dv κ (BitVec.ofInt 32 1) η (l.take n)))∧Loc w Z [(g,E,5)]:=by
 have I:=Loc.nil w;have htk:(l.take n).length=n:=by rw[Xr];omega
 have hd:(l.drop n).length=16:=by rw[Xz];omega
 have B1:=hb.cutHi (k:=n) Ω hcap;have B2:=hb.cutLo (i:=n) Ω hcap;rw[show l.length-n=16 from by omega]at B2;obtain⟨ps,cs,rfl⟩:=hs.shape;have HT:=Hd (fun J (V:Υ w J)=>my κ η (.slice pb n cb) (.slice ps beside.length cs) (l.take n) beside J (B1.below V) (hs.below V) Ω s0 Ω h2);have hu:=(fun J (V:Υ w J)=>kE κ η 1 (.slice pb n cb) (l.take n) J (B1.below V) Ω Ω);simp only[dc,htk]at hu;have HU:=Hd hu;have HB2:=Hd (fun J (V:Υ w J)=>B2.below V);have s1:=fun J=>ko (A:=pb) (n:=l.length) (c:=cb) (k:=n) Ω J;have s2:=fun J=>km (A:=pb) (n:=l.length) (c:=cb) (i:=n) Ω J;rw[show l.length-n=16 from by omega]at s2;have e1:(l.length:Int)-16=(n:Int):=Ω;generalize eR pb cb n=pc at *
 have q0:(0:Int)≤n:=Ω;have q2:(n:Int)≤100000:=Ω;have hwn:IntKind.i64.wrap (n:Int)=n:=W3 _ Ω;have HQ:((bn (ae 16 (f8 κ η (l.take n) beside))).toList==(bn (l.drop n)).toList)=true:=by rw[iL];exact Xw heq
 clear hb hs B1 B2 heq hn hcap h1 h2 htk hd hu;generalize dv κ (BitVec.ofInt 32 1) η (l.take n)=U,f8 κ η (l.take n) beside=Tzq,l.length=L,l.drop n=Dzq at *
 go_enter func181,ntmps181;go_wp2_with (first|refine aU ?_|refine gBp 4 fun b4 J I=>?_|refine gBp 5 fun b5 J I=>?_|refine gBp 11 fun b11 J I=>?_|(go_at_call 137;go_loud (refine(HT.out _ I.bel).mono ?_);rintro e J⟨rfl,V⟩;replace I:=I.keep V;refine p4 ?_)|refine ab fun J I=>?_);refine Ϭ 9 I fun H I=>?_;refine uG 0 ?_;refine uG 2 ?_;refine uG 3 ?_
 first|refine tk 1 rfl (tc ϕ rfl rfl (fun J h=>See.bytes h (v:= .slice (ϐ b11) 16 16))) H ?_
 refine p7 ?_;refine uG 4 ?_;refine uG 5 ?_;refine uG 6 ?_
 first|refine tk 7 rfl (tc ϕ rfl rfl (fun J h=>HB2.out _ h.bel)) H ?_
 refine p7 ?_;refine uG 8 ?_;refine wD ?_;clear H;go_wp2_with (first|refine aU ?_|(refine gN 37 ?_;refine lKk (HU.out _ I.bel) ?_;rintro e J⟨g37,Y37,Z37,rfl,W37,hN⟩;refine Ϩ (I.join hN) fun I=>?_)|refine ab fun J I=>?_);go_ret2;exact⟨g37,Y37,Z37,rfl,W37,I.sub ((Yd _).cons_cons _)⟩
theorem se(κ η:Φ)(pb:ϊ)(cb n:Nat)(vs:ό)(l beside:Δ)(w:ϑ)(hn:l.length=n+16)(n0:0<n)(hb:BRow w (.slice pb l.length cb) l)(hcap:l.length≤cb)(hs:BRow w vs beside)(s0:0<beside.length)(h1:l.length≤100000)(h2:beside.length≤100000)(heq:ae 16 (f8 κ η (l.take n) beside)≠l.drop n) :
 Rt 181 #[.agg (aa 32 κ),.agg (aa 12 η),.slice pb l.length cb,vs] w (.tuple #[.slice none 0 0,.bool false]):=by
 have I:=Loc.nil w;have htk:(l.take n).length=n:=by rw[Xr];omega
 have hd:(l.drop n).length=16:=by rw[Xz];omega
 have B1:=hb.cutHi (k:=n) Ω hcap;have B2:=hb.cutLo (i:=n) Ω hcap;rw[show l.length-n=16 from by omega]at B2;obtain⟨ps,cs,rfl⟩:=hs.shape;have HT:=Hd (fun J (V:Υ w J)=>my κ η (.slice pb n cb) (.slice ps beside.length cs) (l.take n) beside J (B1.below V) (hs.below V) Ω s0 Ω h2);have hu:=(fun J (V:Υ w J)=>kE κ η 1 (.slice pb n cb) (l.take n) J (B1.below V) Ω Ω);simp only[dc,htk]at hu;have HU:=Hd hu;have HB2:=Hd (fun J (V:Υ w J)=>B2.below V);have s1:=fun J=>ko (A:=pb) (n:=l.length) (c:=cb) (k:=n) Ω J;have s2:=fun J=>km (A:=pb) (n:=l.length) (c:=cb) (i:=n) Ω J;rw[show l.length-n=16 from by omega]at s2;have e1:(l.length:Int)-16=(n:Int):=Ω;generalize eR pb cb n=pc at *
 have q0:(0:Int)≤n:=Ω;have q2:(n:Int)≤100000:=Ω;have hwn:IntKind.i64.wrap (n:Int)=n:=W3 _ Ω;have HQ:((bn (ae 16 (f8 κ η (l.take n) beside))).toList==(bn (l.drop n)).toList)=false:=by rw[iL];exact XB heq
 clear hb hs B1 B2 heq hn hcap h1 h2 htk hd hu;generalize dv κ (BitVec.ofInt 32 1) η (l.take n)=U,f8 κ η (l.take n) beside=Tzq,l.length=L,l.drop n=Dzq at *
 go_enter func181,ntmps181;go_wp2_with (first|refine aU ?_|refine gBp 4 fun b4 J I=>?_|refine gBp 5 fun b5 J I=>?_|refine gBp 11 fun b11 J I=>?_|(go_at_call 137;go_loud (refine(HT.out _ I.bel).mono ?_);rintro e J⟨rfl,V⟩;replace I:=I.keep V;refine p4 ?_)|refine ab fun J I=>?_);refine Ϭ 9 I fun H I=>?_;refine uG 0 ?_;refine uG 2 ?_;refine uG 3 ?_
 first|refine tk 1 rfl (tc ϕ rfl rfl (fun J h=>See.bytes h (v:= .slice (ϐ b11) 16 16))) H ?_
 refine p7 ?_;refine uG 4 ?_;refine uG 5 ?_;refine uG 6 ?_
 first|refine tk 7 rfl (tc ϕ rfl rfl (fun J h=>HB2.out _ h.bel)) H ?_
 refine p7 ?_;refine uG 8 ?_;refine wD ?_;clear H;go_wp2_with (refine ϛ fun J I=>?_);go_ret2;exact⟨rfl,I.bel⟩
instance VL:Ent 181:=eo func181
noncomputable def opB(κ:Φ)(ν i:Int)(l:Δ):Bool:=decide (ae 16 (f8 κ (cJ i) (l.take 64) (aM ν))=l.drop 64)
theorem jb(κ:Φ)(ν i:Int)(v0:0≤ν)(v1:ν≤2147483647)(i0:0≤i)(i1:i≤31)(p:ϊ)(c:Nat)(l:Δ)(hl:l.length=80)(hc:80≤c)(w:ϑ)(hv:BRow w (.slice p 80 c) l) :
 ϓ 109 #[.agg (aa 32 κ),.int .i64 ν,.int .i64 i,.slice p 80 c] w fun e Z=>∃p n c,e= .returned (.tuple #[.slice p n c,.int .i64 (if opB κ ν i l then 0 else 10)])∧Υ w Z:=by
 have I:=Loc.nil w;haveI hA:Arg w (.slice p 80 c) (ak l):=⟨hv.vrow⟩;have HONE:=Hd (fun J=>kU ν Ω J);have HNO:=Hd (fun J=>nJ i Ω J);haveI f1:FnC 79 #[.int .i64 ν] (.bool true):=dS ν v0 v1;have q1:¬i<0:=Ω;have q2:¬31<i:=Ω;cases hb:opB κ ν i l
 ·have ho:=(fun J (u1 ub:ό) (hu:BRow J (.slice p 80 c) l) (hub:BRow J ub (aM ν))=>se κ (cJ i) p c 64 ub l (aM ν) J Ω Ξ (by rw[hl];exact hu) Ω hub (by rw[aw];decide) Ω (by rw[aw];decide) (ZN hb))
  rw[hl]at ho;have HO:=Hd ho;clear ho v0 v1 hl hv hb i0 i1 hc;generalize cJ i=nf,aM ν=ps at *
  go_enter func109,ntmps109;go_wp2_with (first|refine aU ?_|refine gBp 4 fun b4 J I=>?_|refine ab fun J I=>?_|refine Ϯ fun J I=>?_);refine mX (S:=(fun Z=>Loc w Z [(b4,aa 32 κ,24)])) 12 (ϒ) ?_;intro H;replace I:=I.drew;refine uZ 0 ?_;refine uG 1 ?_;refine uG 3 ?_;refine uG 4 ?_;refine rd1 2 fun K T=>?_;refine eVv (HNO.out _) I fun J I=>?_;refine kO T (ϒ) fun H=>?_;refine rd1 5 fun K T=>?_;refine eK (HONE.out _) ?_;rintro e J⟨g34,Y34,Z34,rfl,W34,hg34,hc34,hb34⟩;refine⟨_,rfl,?_⟩;have Y:=I.fresh hb34 hg34 hc34;clear hb34 hg34 hc34;clear I;have I:=Y;clear Y;refine kO T (ϒ) fun H=>?_;refine rd1 6 fun K T=>?_;refine eVv (HO.out _ (.slice p 80 c) (.slice (ϐ g34) 8 Y34) (See.bytes I) (See.bytes I)) I fun J I=>?_;refine kO T (ϒ) fun H=>?_;refine uG 7 ?_;refine uG 8 ?_;refine uG 9 ?_;refine uG 10 ?_;refine uG 11 ?_;refine wD ?_;clear H;go_wp2_with (refine ϛ fun J I=>?_);go_ret2;exact⟨⟨_,_,_,rfl⟩,I.bel⟩
 ·have ho:=(fun J (u1 ub:ό) (hu:BRow J (.slice p 80 c) l) (hub:BRow J ub (aM ν))=>sd κ (cJ i) p c 64 ub l (aM ν) J Ω Ξ (by rw[hl];exact hu) Ω hub (by rw[aw];decide) Ω (by rw[aw];decide) (XC hb))
  rw[hl]at ho;have HO:=Hd ho;clear ho v0 v1 hl hv hb i0 i1 hc;generalize dv κ (BitVec.ofInt 32 1) (cJ i) (l.take 64)=U at *
  generalize cJ i=nf,aM ν=ps at *
  go_enter func109,ntmps109;go_wp2_with (first|refine aU ?_|refine gBp 4 fun b4 J I=>?_|refine ab fun J I=>?_|refine Ϯ fun J I=>?_);refine mX (S:=(fun Z=>Loc w Z [(b4,aa 32 κ,24)])) 12 (ϒ) ?_;intro H;replace I:=I.drew;refine uZ 0 ?_;refine uG 1 ?_;refine uG 3 ?_;refine uG 4 ?_;refine rd1 2 fun K T=>?_;refine eVv (HNO.out _) I fun J I=>?_;refine kO T (ϒ) fun H=>?_;refine rd1 5 fun K T=>?_;refine eK (HONE.out _) ?_;rintro e J⟨g34,Y34,Z34,rfl,W34,hg34,hc34,hb34⟩;refine⟨_,rfl,?_⟩;have Y:=I.fresh hb34 hg34 hc34;clear hb34 hg34 hc34;clear I;have I:=Y;clear Y;refine kO T (ϒ) fun H=>?_;refine rd1 6 fun K T=>?_;refine eK (HO.out _ (.slice p 80 c) (.slice (ϐ g34) 8 Y34) (See.bytes I) (See.bytes I)) ?_;rintro e J⟨g35,Y35,Z35,rfl,W35,hN⟩;refine⟨_,rfl,?_⟩;refine Ϧ (I.join hN) fun I=>?_;refine kO T (ϒ) fun H=>?_;refine uG 7 ?_;refine uG 8 ?_;refine uG 9 ?_;refine uG 10 ?_;refine uG 11 ?_;refine wD ?_;clear H;go_wp2_with (refine ϛ fun J I=>?_);go_ret2;exact⟨⟨_,_,_,rfl⟩,I.bel⟩
instance VM:Ent 109:=eo func109
end
theorem yG(n:Int)(vl:ό)(w:ϑ)(hl:VRow w vl (cj [n])) :
 ϓ 202 #[.slice none 0 0,vl] w fun e Z=>∃g W E,e= .returned (.slice (ϐ g) 8 W)∧OwnR E 8 W (ak (aM n))∧w.heap.size≤g∧Z.heap[g]?=some (.cells E 5 (0,0))∧Υ w Z:=by
 have I:=Loc.nil w;obtain⟨_,al,cl,rfl,_,hcl⟩:=hl;obtain⟨bl,ol,e,hbl,hcell⟩:=hcl (by simp[cj]);have g1:Was w bl (ol+0) (.int .i64 n):=⟨by rw[hcell 0 (by simp[cj])];rfl,hbl⟩;subst e;rw[cA];clear hcell hcl hbl;go_enter func202,ntmps202;go_wp2_with (first|refine aU ?_|((go_at_call 94;go_loud (refine(iW _).mono ?_);rintro e J⟨rfl,rfl⟩;refine p4 ?_))|refine ab fun J I=>?_);go_loopw [5,14] (fun v kk wr=>(kk= .int .i64 0∧v= .slice none 0 0∧Loc w wr [])∨(kk= .int .i64 1∧∃g W E,v= .slice (ϐ g) 8 W∧OwnR E 8 W (ak (aM n))∧Loc w wr [(g,E,5)])) (fun _ kk _=>1-(intOf kk).toNat);case atStart=>exact .inl ⟨rfl,rfl,I⟩
 case round =>
  clear I;rcases hrel with⟨rfl,rfl,I⟩|⟨rfl,g,W,E,rfl,hr,I⟩
  ·have HP8:=Hd (fun j (h:j<8)=>Nm n h)
   have HPT:=Hd (fun j (h:j<8)=>qY n h);have HPF:=Hd (show(aM n).take 8=aM n from Xq (by rw[aw];exact Xn _));go_wp2_with (refine ϛ fun J I=>?_);generalize IntKind.u64.wrap n=u at *
   go_loopw [5,9] (fun v kk wr=>∃j:Nat,j≤8∧kk= .int .i64 (7-(j:Int))∧((j=0∧v= .slice none 0 0∧Loc w wr [])∨(0<j∧∃g W E,v= .slice (ϐ g) j W∧OwnR E j W (ak ((aM n).take j))∧Loc w wr [(g,E,5)]))) (fun _ kk _=>((intOf kk)+1).toNat);case atStart=>exact⟨0,Ω,rfl,.inl ⟨rfl,rfl,I⟩⟩
   case round =>
    clear I;obtain⟨j,hj,rfl,hrel⟩:=hrel;by_cases hj8:j<8
    ·have e8:=HP8.out j hj8
     rw[X7]at e8;have HT2:=Hd (HPT.out j hj8);have k0:(0:Int)≤7-(j:Int):=Ω;have k1:7-(j:Int)≤7:=Ω;have k2:¬8*(7-(j:Int))<0:=Ω;have k3:8*(7-(j:Int))<64:=Ω;have e9:(8*(7-(j:Int))).toNat=8*(7-j):=Ω;rcases hrel with⟨rfl,rfl,I⟩|⟨hpos,g,W,E,rfl,hr,I⟩
     ·generalize p8 n 0=bb,hk':7-((0:Nat):Int)=kk at *
      have HK:=Hd hk';clear hk';generalize 8*(7-0)=sh at *
      go_wp2_with (first|refine aU ?_|((refine gN 30 ?_);rw[e8];(refine wP I rfl rfl rfl fun b30 J Y=>?_);clear I;have I:=Y;clear Y;refine p4 ?_)|(refine gN 31 ?_;refine aNb ?_;intro g31 Y31 Z31 J W31 I)|refine ab fun J I=>?_);go_roundw;case rel=>exact⟨1,Ω,by rw[show kk-1=7-((1:Nat):Int)from by have:=HK.out;omega],.inr ⟨Ω,g31,Y31,Z31,rfl,by rw[HT2.out];exact W31,Loc.rem b30 I⟩⟩
      case measure=>have:=HK.out;simp[intOf];omega
     ·generalize p8 n j=bb at *
      generalize hq:(aM n).take j=pj at *
      have hpl:pj.length=j:=by rw[← hq,Xr,aw];omega
      clear hq;generalize hk':7-(j:Int)=kk at *
      have HK:=Hd hk';clear hk';generalize 8*(7-j)=sh at *
      go_wp2_with (first|refine aU ?_|((refine gN 30 ?_);rw[e8];(refine wP I rfl rfl rfl fun b30 J Y=>?_);clear I;have I:=Y;clear Y;refine p4 ?_)|(refine gN 31 ?_;refine aA ?_;intro g31 Y31 Z31 J W31 I)|refine ab fun J I=>?_);go_roundw;case rel=>exact⟨j+1,Ω,by rw[show kk-1=7-((j+1:Nat):Int)from by have:=HK.out;omega],.inr ⟨Ω,g31,Y31,Z31,rfl,by rw[HT2.out];exact W31,Loc.rem b30 I⟩⟩
      case measure=>have:=HK.out;simp[intOf];omega
    ·obtain rfl:j=8:=Ω
     rw[show(7:Int)-((8:Nat):Int)= -1 from rfl];rcases hrel with⟨h,_⟩|⟨_,g,W,E,rfl,hr,I⟩
     ·omega
     ·rw[HPF.out]at hr
      go_wp2_with (refine ϛ fun J I=>?_);go_roundw;case rel=>exact .inr ⟨by go_num,g,W,E,rfl,hr,I⟩
      case measure=>simp[intOf]
  ·skip
   go_wp2_with (refine ϛ fun J I=>?_);go_ret;exact⟨g,W,E,rfl,hr,I.ge (.head _),I.get (.head _),I.bel⟩
theorem G8(g c:Nat)(w:ϑ):(Instr.arrayAt 161 (.slice (ϐ g) 12 c)).run prog w= .ok (.pointer (ϐ g)) w:=Θ
theorem Ln(i:Int):noL 4++aM i=ae 12 (cJ i):=by
 unfold noL aM ae cJ;simp[List.range_succ]
theorem AK(ν i:Int)(v0:0≤ν)(v1:ν≤2147483647)(i0:0≤i)(i1:i≤31):FnC 219 #[.int .i64 ν,.int .i64 i] (.bool true):=⟨fun w=>by
 have I:=Loc.nil w;have q1:i<32:=Ω;go_enter func219,ntmps219;go_wp2_with (refine ϛ fun J I=>?_);go_ret;exact⟨rfl,I.bel⟩⟩
instance VN:Ent 219:=eo func219
theorem vU(i:Int)(w:ϑ):Rt 220 #[.int .i64 i] w (.agg (aa 12 (cJ i))):=by
 have I:=Loc.nil w;have hp:=(fun J (v1 v2:ό) (h2:BRow J v1 (noL 4)) (h3:VRow J v2 (cj [i]))=>cB v1 (noL 4) v2 [i] J h2 (by rw[fJ];decide) (by rw[fJ];decide) h3 Ϡ);rw[show noL 4++aW [i]=ae 12 (cJ i)from by rw[← Ln];unfold aW;simp,eU]at hp;simp only[Fresh,ag]at hp;have HP:=Hd hp;clear hp;generalize cJ i=F at *
 have hAt:=G8;go_enter func220,ntmps220;go_wp2_with (first|refine aU ?_|refine gBp 2 fun b2 J I=>?_|(refine gN 3 ?_;refine mn (n:=4) I rfl rfl rfl rfl Ξ fun g3 J I=>?_;refine p4 ?_)|(refine gN 5 ?_;refine aL fun b5 J I=>?_)|(go_at_call 202;go_loud (refine(HP.out _ _ _ (See.bytes I (l:=noL 4)) (See.see _ I)).mono ?_);rintro e J⟨g6,Y6,Z6,rfl,W6,hg6,hc6,hb6⟩;have Y:=I.fresh hb6 hg6 hc6;clear hb6 hg6 hc6;clear I;have I:=Y;clear Y;refine p4 ?_)|(refine gN 8 ?_;have hpt:Part Z6 5 0 161 (aa 12 F):=JP W6;refine lL I rfl rfl rfl fun J I=>?_;refine p4 ?_)|refine ab fun J I=>?_);exact Λ
instance VO:Ent 220:=eo func220
theorem oV(κ:Φ)(ν i:Int)(v0:0≤ν)(v1:ν≤2147483647)(i0:0≤i)(i1:i≤31)(p:ϊ)(c:Nat)(l:Δ)(hl:l.length=80)(hc:80≤c)(w:ϑ)(hv:BRow w (.slice p 80 c) l) :
 ϓ 164 #[.agg (aa 32 κ),.int .i64 ν,.int .i64 i,.slice p 80 c] w fun e Z=>∃v,e= .returned (.tuple #[v,.int .i64 (if opB κ ν i l then 0 else 10)])∧Υ w Z:=by
 have I:=Loc.nil w;haveI hA:Arg w (.slice p 80 c) (ak l):=⟨hv.vrow⟩;have HONE:=Hd (fun J v (h:VRow J v [.int .i64 ν])=>yG ν v J (by rw[eU];exact h));have HNO:=Hd (fun J=>vU i J);haveI f1:=AK ν i v0 v1 i0 i1;have Tfalse:opB κ ν i l=false→ϓ 164 #[.agg (aa 32 κ),.int .i64 ν,.int .i64 i,.slice p 80 c] w fun e Z=>∃v,e= .returned (.tuple #[v,.int .i64 (if false then 0 else 10)])∧Υ w Z:=fun hb=>by
  have ho:=(fun J (u1 ub:ό) (hu:BRow J (.slice p 80 c) l) (hub:BRow J ub (aM ν))=>oP κ (cJ i) p c 64 ub l (aM ν) J Ω (by rw[hl];exact hu) Ω hub Ω (by rw[aw];decide) (ZN hb));rw[hl]at ho;have HO:=Hd ho;clear ho v0 v1 hl hv hb i0 i1 hc;generalize dv κ (BitVec.ofInt 32 1) (cJ i) (l.take 64)=U at *
  generalize cJ i=nf,aM ν=ps at *
  go_enter func164,ntmps164;go_wp2_with (first|refine aU ?_|refine gBp 4 fun b4 J I=>?_|refine ab fun J I=>?_|refine Ϯ fun J I=>?_);refine eQ (R:=?R) (fun hR=>?h1) ?h2;case h1 =>
   refine mX (S:=(fun Z=>Loc w Z [(b4,aa 32 κ,24)])) 12 (ϒ) ?_;intro H;replace I:=I.drew;refine uZ 0 ?_;refine uG 1 ?_;refine uG 3 ?_;refine uG 4 ?_;refine rd2 2 5 ?_ ?_
   ·intro K T
    refine eVv (HNO.out _) I ?_;clear I;intro J I;refine kO T (ϒ) ?_;clear T K H;intro H;refine rd1 5 fun K T=>?_;refine eBS ?_;clear I;intro b24 J I;refine kO T (ϒ) ?_;clear T K H;intro H;refine rd1 6 fun K T=>?_;refine eK (HONE.out _ _ (See.see (v:= .slice (ϐ b24) 1 1) _ I)) ?_;rintro e J⟨g25,Y25,Z25,rfl,W25,hg25,hc25,hb25⟩;refine⟨_,rfl,?_⟩;have Y:=I.fresh hb25 hg25 hc25;clear hb25 hg25 hc25;clear I;have I:=Y;clear Y;refine kO T (ϒ) ?_;clear T K H;intro H;refine rd1 7 fun K T=>?_;refine eVv (HO.out _ (.slice p 80 c) (.slice (ϐ g25) 8 Y25) (See.bytes I) (See.bytes I)) I ?_;clear I;intro J I;refine kO T (ϒ) ?_;clear T K H;intro H;refine uG 8 ?_;refine uG 9 ?_;refine uG 10 ?_;refine uG 11 ?_;refine wD ?_;clear H;have hLp:=I;clear I;revert hLp;revert J;revert W25;revert Z25;revert Y25;revert g25;revert b24;exact pm hR
   ·intro K T
    refine eBS ?_;clear I;intro b24 J I;refine kO T (ϒ) ?_;clear T K H;intro H;refine rd1 2 fun K T=>?_;refine eVv (HNO.out _) I ?_;clear I;intro J I;refine kO T (ϒ) ?_;clear T K H;intro H;refine rd1 6 fun K T=>?_;refine eK (HONE.out _ _ (See.see (v:= .slice (ϐ b24) 1 1) _ I)) ?_;rintro e J⟨g25,Y25,Z25,rfl,W25,hg25,hc25,hb25⟩;refine⟨_,rfl,?_⟩;have Y:=I.fresh hb25 hg25 hc25;clear hb25 hg25 hc25;clear I;have I:=Y;clear Y;refine kO T (ϒ) ?_;clear T K H;intro H;refine rd1 7 fun K T=>?_;refine eVv (HO.out _ (.slice p 80 c) (.slice (ϐ g25) 8 Y25) (See.bytes I) (See.bytes I)) I ?_;clear I;intro J I;refine kO T (ϒ) ?_;clear T K H;intro H;refine uG 8 ?_;refine uG 9 ?_;refine uG 10 ?_;refine uG 11 ?_;refine wD ?_;clear H;have hLp:=I;clear I;revert hLp;revert J;revert W25;revert Z25;revert Y25;revert g25;revert b24;exact pm hR
  intro b24 g25 Y25 Z25 W25 J Y;clear I;have I:=Y;clear Y;go_wp2_with (refine ϛ fun J I=>?_);go_ret2;exact⟨⟨_,rfl⟩,I.bel⟩
 have Ttrue:opB κ ν i l=true→ϓ 164 #[.agg (aa 32 κ),.int .i64 ν,.int .i64 i,.slice p 80 c] w fun e Z=>∃v,e= .returned (.tuple #[v,.int .i64 (if true then 0 else 10)])∧Υ w Z:=fun hb=>by
  have ho:=(fun J (u1 ub:ό) (hu:BRow J (.slice p 80 c) l) (hub:BRow J ub (aM ν))=>oO κ (cJ i) p c 64 ub l (aM ν) J Ω (by rw[hl];exact hu) Ω hub Ω (by rw[aw];decide) (XC hb));rw[hl]at ho;have HO:=Hd ho;clear ho v0 v1 hl hv hb i0 i1 hc;generalize dv κ (BitVec.ofInt 32 1) (cJ i) (l.take 64)=U at *
  generalize cJ i=nf,aM ν=ps at *
  go_enter func164,ntmps164;go_wp2_with (first|refine aU ?_|refine gBp 4 fun b4 J I=>?_|refine ab fun J I=>?_|refine Ϯ fun J I=>?_);refine eQ (R:=?R_2) (fun hR=>?h1_2) ?h2_2;case h1_2 =>
   refine mX (S:=(fun Z=>Loc w Z [(b4,aa 32 κ,24)])) 12 (ϒ) ?_;intro H;replace I:=I.drew;refine uZ 0 ?_;refine uG 1 ?_;refine uG 3 ?_;refine uG 4 ?_;refine rd2 2 5 ?_ ?_
   ·intro K T
    refine eVv (HNO.out _) I ?_;clear I;intro J I;refine kO T (ϒ) ?_;clear T K H;intro H;refine rd1 5 fun K T=>?_;refine eBS ?_;clear I;intro b24 J I;refine kO T (ϒ) ?_;clear T K H;intro H;refine rd1 6 fun K T=>?_;refine eK (HONE.out _ _ (See.see (v:= .slice (ϐ b24) 1 1) _ I)) ?_;rintro e J⟨g25,Y25,Z25,rfl,W25,hg25,hc25,hb25⟩;refine⟨_,rfl,?_⟩;have Y:=I.fresh hb25 hg25 hc25;clear hb25 hg25 hc25;clear I;have I:=Y;clear Y;refine kO T (ϒ) ?_;clear T K H;intro H;refine rd1 7 fun K T=>?_;refine eK (HO.out _ (.slice p 80 c) (.slice (ϐ g25) 8 Y25) (See.bytes I) (See.bytes I)) ?_;rintro e J⟨v26,rfl,-, hN⟩;refine⟨_,rfl,?_⟩;have Y:=I.keep hN;clear hN;clear I;revert Y;refine aN ?_;intro I;refine kO T (ϒ) ?_;clear T K H;intro H;refine uG 8 ?_;refine uG 9 ?_;refine uG 10 ?_;refine uG 11 ?_;refine wD ?_;clear H;have hLp:=I;clear I;revert hLp;revert J;revert v26;revert W25;revert Z25;revert Y25;revert g25;revert b24;exact pm hR
   ·intro K T
    refine eBS ?_;clear I;intro b24 J I;refine kO T (ϒ) ?_;clear T K H;intro H;refine rd1 2 fun K T=>?_;refine eVv (HNO.out _) I ?_;clear I;intro J I;refine kO T (ϒ) ?_;clear T K H;intro H;refine rd1 6 fun K T=>?_;refine eK (HONE.out _ _ (See.see (v:= .slice (ϐ b24) 1 1) _ I)) ?_;rintro e J⟨g25,Y25,Z25,rfl,W25,hg25,hc25,hb25⟩;refine⟨_,rfl,?_⟩;have Y:=I.fresh hb25 hg25 hc25;clear hb25 hg25 hc25;clear I;have I:=Y;clear Y;refine kO T (ϒ) ?_;clear T K H;intro H;refine rd1 7 fun K T=>?_;refine eK (HO.out _ (.slice p 80 c) (.slice (ϐ g25) 8 Y25) (See.bytes I) (See.bytes I)) ?_;rintro e J⟨v26,rfl,-, hN⟩;refine⟨_,rfl,?_⟩;have Y:=I.keep hN;clear hN;clear I;revert Y;refine aN ?_;intro I;refine kO T (ϒ) ?_;clear T K H;intro H;refine uG 8 ?_;refine uG 9 ?_;refine uG 10 ?_;refine uG 11 ?_;refine wD ?_;clear H;have hLp:=I;clear I;revert hLp;revert J;revert v26;revert W25;revert Z25;revert Y25;revert g25;revert b24;exact pm hR
  intro b24 g25 Y25 Z25 W25 v26 J Y;clear I;have I:=Y;clear Y;go_wp2_with (refine ϛ fun J I=>?_);go_ret2;exact⟨⟨_,rfl⟩,I.bel⟩
 cases hb:opB κ ν i l
 ·exact Tfalse hb
 ·exact Ttrue hb
instance VP:Ent 164:=eo func164
theorem jc(n:Int)(w:ϑ):Rt 17 #[.int .i64 n] w (.int .i64 n):=by
 go_enter func17,ntmps17;go_wp2_with (refine ϛ fun J I=>?_)
 all_goals(go_ret;exact⟨rfl,XE _ _⟩)
instance VQ:Ent 17:=eo func17
def DU(x:Γ):Nat→Γ:=fun i=>if i=0 then x else 0
theorem DV(w:ϑ):(Instr.build 24 #[(0,.int .u8 1)]).run prog w= .ok (.agg (aa 32 (DU 1))) w:=Θ
theorem G9(w:ϑ):(Instr.build 24 #[(0,.int .u8 2)]).run prog w= .ok (.agg (aa 32 (DU 2))) w:=Θ
theorem Ha(k:Int)(w:ϑ):(Instr.build 47 #[(0,.int .i64 k)]).run prog w= .ok (.agg (mvR k none 0 0 0)) w:=Θ
theorem kV(k:Int)(p:ϊ)(n c:Nat)(w:ϑ):(Instr.build 47 #[(0,.int .i64 k),(1,.slice p n c)]).run prog w= .ok (.agg (mvR k p n c 0)) w:=Θ
theorem kW{w Z:ϑ}{b k:Nat}{v:ό}(h:Was w b k v)(hb:Υ w Z):Was Z b k v:=⟨(hb.cell (p:=⟨b,k,none⟩) h.lt).trans h.cell,Xl h.lt hb.size⟩
abbrev foF(M:Mem)(bf bb bo:Nat):Ψ→Ψ→Ψ→Mem:=fun x y z=>(bo,z,108)::(bf,x,106)::(bb,y,5)::M
instance Lo(M:Mem)(bf bb bo bk kp a0 a1 cc dd:Nat):CoM (vF (foF M bf bb bo) bf bo bk kp a0 a1 cc dd) bf bb bo bk kp a0 a1 cc:=by
 unfold vF foF;constructor
 all_goals intros
 all_goals try dsimp only
 all_goals infer_instance
theorem Lp{D w:ϑ}{M:Mem}{bf bb bo bk kp a0 a1 cc dd:Nat}{fr fs:Φ}(d:Dv)(I:Loc D w (d.at (vF (foF M bf bb bo) bf bo bk kp a0 a1 cc dd) bf bb bo kp fr fs)):Was w dd 0 (aT bf)∧Was w dd 1 (aT cc)∧Was w dd 2 (.bool false)∧Was w bf 3 (.bool false):=by
 have hm:(bf,flR bb d.er d.pr,106)∈d.at (vF (foF M bf bb bo) bf bo bk kp a0 a1 cc dd) bf bb bo kp fr fs:=At.mem;exact⟨jt I (.head _) rfl,jt I (.head _) rfl,jt I (.head _) rfl,jt I hm rfl⟩
theorem oq(w:ϑ):Rt 8 #[] w (.bool true):=by
 have I:=Loc.nil w;have h3:((3:Nat):Int)=3:=rfl;go_enter func8,ntmps8;go_wp2_with (first|refine aU ?_|(refine gN 10 ?_;refine lKk (m9 _) ?_;rintro e J⟨bf,bb,Z0,rfl,hFil,hN⟩;refine Ϩ (I.join hN) fun I=>?_)|(refine gN 12 ?_;refine ϙ DV fun J I=>?_)|(refine gN 13 ?_;refine ϙ G9 fun J I=>?_)|(refine gN 14 ?_;refine lKk (rm bf (DU 1) (DU 2) 3 Ξ _) ?_;rintro e J⟨bo,rfl,hN⟩;refine Ϩ (I.join hN) fun I=>?_)|(refine gN 18 ?_;refine lKk (BX (F:=foF [] bf bb bo) (bf:=bf) (bb:=bb) (bo:=bo) Ϙ Ξ Ξ Ξ Ξ hFil.fl I) ?_;rintro e J⟨bk,kp,a0,a1,cc,dd,d,rfl,hFr,Y⟩;have HFR:=Hd hFr;clear hFr;refine Ϥ Y fun I=>?_)|(refine gN 22 ?_;refine lV (jc _ _) I fun J I=>?_)|(refine gN 30 ?_;refine ϙ (Ha 4) fun J I=>?_)|(refine gN 31 ?_;refine lO (vT (F:=vF (foF [] bf bb bo) bf bo bk kp a0 a1 cc dd) (bf:=bf) (bb:=bb) (bo:=bo) (bk:=bk) (kp:=kp) (a0:=a0) (a1:=a1) (cc:=cc) Ϙ (fun x y z u c=>Ϙ) d (fun x y z u c=>by rw[HFR.out.s,HFR.out.q];exact ru _ _) (by rw[HFR.out.s];exact xJ) (by rw[HFR.out.s];rfl) (by rw[HFR.out.s];rfl) (by rw[HFR.out.s];rfl) (by rw[HFR.out.s];rfl) HFR.out.bt I) fun J I=>?_)|((with_reducible show wpList _ _ _ (⟨some 36,_,_,_,_,_⟩::⟨some 37,_,_,_,_,_⟩::_) _ _);go_loud (refine JR 120 I rfl rfl rfl rfl rfl (fun _=>rfl) ?_);clear I;intro b36 w37 hb36 hL0;have hA36:Arg w37 (.slice (ϐ b36) 1 1) (ak [120]):=⟨hb36.vrow⟩;obtain⟨g0,g1,g2,g3⟩:=Lp d hL0;have I:=Loc.nil w37)|(refine gN 38 ?_;refine ϙ (kV 1 (ϐ b36) 1 1) fun J I=>?_)|(refine gN 39 ?_;refine lKk (vS (bf:=bf) (cc:=cc) (dd:=dd) (l:=[120]) _ (kW g0 I.bel) (kW g1 I.bel) (kW g2 I.bel) (kW g3 I.bel) (See.bytes I) Ξ Ξ) ?_;rintro e J⟨rfl,V⟩;refine⟨_,rfl,?_⟩;have Y:=hL0.join (I.keep V);clear I hL0 hA36 hb36 g0 g1 g2 g3;simp only[List.nil_append]at Y;have I:=Y;clear Y;refine p4 ?_)|(refine gN 43 ?_;refine lKk (xT (F:=vF (foF [] bf bb bo) bf bo bk kp a0 a1 cc dd) (bf:=bf) (bb:=bb) (bo:=bo) (bk:=bk) (kp:=kp) (a0:=a0) (a1:=a1) (cc:=cc) Ϙ (fun x y z u c=>Ϙ) d HFR.out.ok (fun x y z u c=>by rw[HFR.out.s,HFR.out.q];exact ru _ _) I) ?_;rintro e J⟨q',Sr,S0,S1,rfl,hQ,Y⟩;refine Ϥ Y fun I=>?_)|refine gBp 9 fun b9 J I=>?_|(refine gN 45 ?_;refine lV (jc _ _) I fun J I=>?_)|(refine gN 49 ?_;refine lV (jc _ _) I fun J I=>?_)|(refine gN 54 ?_;refine lKk (eW (F:=fun x y z=>(b9,stR d.s q',58)::(S1++(S0++(Sr++vF (foF [] bf bb bo) bf bo bk kp a0 a1 cc dd x y z (bkR bf bo d.p d.kn d.kc d.φ) (coR kp (DU 1) (DU 2) d.s d.q d.bt d.rg))))) (bf:=bf) (bb:=bb) I) ?_;rintro e J⟨rfl,Y⟩;rw[HFR.out.n];have hac:d.s.ac= -1:=(by rw[HFR.out.s];rfl);refine Ϥ Y fun I=>?_)|refine ab fun J I=>?_)
 all_goals(go_ret;exact⟨rfl,I.bel⟩)
instance VR:Ent 8:=eo func8
theorem Js{o:Oper}{ev:Operand→ό}{f:FuncId}{x:Operand}{xs:Array Operand}{ts:Array TypeId}{cs:Ψ}(ho:o.op= .call { callee:= .value x,args:=xs,argTypes:=ts })(hf:ev x= .func (.func f) #[] cs)[he:Ent f](w:ϑ) :
 (execOp ev o).run prog w= .ok (.enter f (xs.map ev++cs)) w:=by
 unfold execOp;simp only[ho,resolve,hf,Deferred.ofValue,Sem.run_bind,Sem.run_pure,Result.andThen_ok,invoke,Za];exact he.enter (xs.map ev++cs) w
section
variable {ops:Array Oper} {rest:List Oper} {o:Oper} {a:Act} {D w:ϑ} {M M':Mem} {Q:ώ}
theorem Qv(hg:o.guard=none){f:FuncId}{x:Operand}{xs:Array Operand}{ts:Array TypeId}(ho:o.op= .call { callee:= .value x,args:=xs,argTypes:=ts }){cs:Ψ}(hv:a.eval x= .func (.func f) #[] cs)[he:Ent f]{l:List Value}(hc:ϓ f l.toArray w fun e Z=>∃v,e= .returned v∧wpList prog ops Q rest (a.put o.dst v) Z)(hx:xs.toList.map a.eval++cs.toList=l):wpList prog ops Q (o::rest) a w :=
 Xt hg fun K T=>by
  unfold Oper.wp;have e:xs.map a.eval++cs=l.toArray:=by rw[← ZK,YJ,ZJ];exact hx
  rw[Js ho hv w,e,Zz];refine hc.mono fun e Z hh=>?_;obtain⟨v,rfl,h⟩:=hh;exact T _ _ h
theorem lBs(I:Loc D w M)(hg:o.guard=none){t:ϋ}{x:Operand}(ho:o.op= .box t x){p:ϊ}{n c:Nat}(hx:a.eval x= .slice p n c)(h:∀b Z,Loc D Z ((b, #[.slice p n c],t)::M)→wpList prog ops Q rest (a.put o.dst (.pointer (ϐ b))) Z):wpList prog ops Q (o::rest) a w :=
 Go.Great.wpList_boxTo hg t x ho o.dst rfl _ rfl #[.slice p n c] (by rw[hx];rfl) (h _ _ (I.alloc #[.slice p n c] t))
end
theorem sf(p:ϊ)(n c:Nat)(w:ϑ):(Instr.build 55 #[(0,.slice p n c)]).run prog w= .ok (.agg (slR p n c false 0)) w:=Θ
instance Om(a b x y z c d e f x' y' z':ό):Splice #[a,b,x,y,z,c,d,e,f] 2 #[x',y',z'] #[a,b,x',y',z',c,d,e,f]:=cq #[a,b] #[x,y,z] #[x',y',z'] #[c,d,e,f] 2 rfl rfl
def Sta.fed(s:Sta)(l:Δ):Sta:=⟨s.fl,s.rv,l,false,0,s.m1,s.d1,s.t1,s.ac⟩
section
variable {D w:ϑ} {F:Ψ→Mem} {bs bc:Nat} [hA:∀x,At (F x) bs x 58] [hU:∀x y,Ups (F x) bs y (F y)] {s:Sta} {q:Sq} {p:ϊ} {c:Nat} {l:Δ}
theorem DW(hg:Was D bc 0 (.slice p 300 c))(hv:BRow D (.slice p 300 c) l)(hl:l.length=300)(I:Loc D w (F (stR s q))) :
 ϓ 218 #[.pointer (ϐ bs),.pointer (some ⟨bs,2,none⟩),.pointer (ϐ bc)] w fun e Z=>∃g W E,e= .returned (.tuple #[])∧OwnR E 300 W (ak l)∧Loc D Z ((g,E,5)::F (stR (s.fed l) ⟨q.pr,q.cr,some ⟨g,0,none⟩,W,q.p1,q.c1⟩)):=by
 haveI hA0:Arg D (.slice p 300 c) (ak l):=⟨hv.vrow⟩;have hcl:=(fun J (h:BRow J (.slice p 300 c) l)=>eD _ l J h Ω Ω);unfold Fresh at hcl;simp only[hl]at hcl;have HC:=Hd hcl;have HL:=Hd hl;obtain⟨fl,rv,m0,d0,t0,m1,d1,t1,ac⟩:=s;obtain⟨pr,cr,p0,c0,p1,c1⟩:=q;unfold Sta.fed;dsimp only at *
 clear hv hcl hl;dsimp only[stR];rw[HL.out];go_enter func218,ntmps218;go_wp2_with (first|refine aU ?_|(go_at_call 94;go_loud (refine(HC.out _ (See.bytes I)).mono ?_);rintro e J⟨g7,Y7,Z7,rfl,W7,hg7,hc7,hb7⟩;have Y:=I.fresh hb7 hg7 hc7;clear hb7 hg7 hc7;clear I;have I:=Y;clear Y;refine p4 ?_)|(refine gN 8 ?_;refine ϙ (sf _ _ _) fun J I=>?_)|refine ab fun J I=>?_);exact⟨rfl,_,results_none rfl _ _ _,rfl,g7,Y7,Z7,W7,I⟩
end
instance VS:Ent 218:=eo func218
theorem td(s:Sta)(q:Sq)(w:ϑ)(hr:ReadS w s q)(hg:Good s)(hac:s.ac= -1){bc:Nat}{p:ϊ}{c:Nat}{l:Δ}(hw:Was w bc 0 (.slice p 300 c))(hv:BRow w (.slice p 300 c) l)(hl:l.length=300) :
 ϓ 217 #[.agg (stR s q),.func (.func 218) #[] #[.pointer (ϐ bc)]] w fun e Z=>∃q' Sr S0 S1,e= .returned (.agg (stR (s.fed l) q'))∧HoldQ Sr S0 S1 (s.fed l) q'∧Loc w Z (S1++(S0++Sr)):=by
 have I:=Loc.nil w;have hlen0:s.m0.length≤300:=by rcases hg.s0 with⟨h,_⟩|⟨h,_⟩ <;> omega
 have hlen1:s.m1.length≤300:=by rcases hg.s1 with⟨h,_⟩|⟨h,_⟩ <;> omega
 have hlen2:=hg.n;have HM:=Hd (fun J (V:Υ w J)=>ng s q J ⟨hr.r.below V,by have:=hr.a.vrow.below V;exact this.brow,by have:=hr.b.vrow.below V;exact this.brow,hr.zr,hr.za,hr.zb⟩ hg);have HC:=Hd (fun J (V:Υ w J)=>rq s q J ⟨hr.r.below V,by have:=hr.a.vrow.below V;exact this.brow,by have:=hr.b.vrow.below V;exact this.brow,hr.zr,hr.za,hr.zb⟩ Ω Ω Ω);have HT:=Hd (fun J=>kw s q (by rw[hac];decide) J);have HF:=Hd (fun(G:Ψ→Mem) {b:Nat} J (h1:∀x,At (G x) b x 58) (h2:∀x y,Ups (G x) b y (G y)) q' (h:Loc w J (G (stR s q')))=> @DW w J G b bc h1 h2 s q' p c l hw hv hl h);have HL:=Hd hl;have HFD:=Hd (fun q'=>show stR (s.fed l) q'= #[.int .i64 s.fl,.slice q'.pr s.rv.length q'.cr,.slice q'.p0 l.length q'.c0,.bool false,.int .i64 0,.slice q'.p1 s.m1.length q'.c1,.bool s.d1,.int .i64 s.t1,.int .i64 s.ac]from rfl);clear hr hg hac hlen0 hlen1 hlen2 hw hv hl;go_enter func217,ntmps217;go_wp2_with (first|refine aU ?_|refine gBp 2 fun b2 J I=>?_|refine gBp 4 fun b4 J I=>?_|refine gBp 5 fun b5 J I=>?_|(go_at_call 201;go_loud (refine(HM.out _ I.bel).mono ?_);rintro e J⟨rfl,V⟩;replace I:=I.keep V;refine p4 ?_)|(refine gN 11 ?_;refine lKk (HC.out _ I.bel) ?_;rintro e J⟨⟨pr',cr',p0',c0',p1',c1'⟩,Sr,S0,S1,rfl,hQ,hN⟩;refine Ϩ (I.join hN) fun I=>?_)|(go_at_call 216;go_loud (refine(HT.out _).mono ?_);rintro e J⟨rfl,V⟩;replace I:=I.keep V;refine p4 ?_)|(refine gN 17 ?_;go_loud (refine Qv rfl rfl rfl ((HF.out (fun x=>(b5,x,58)::(S1++(S0++(Sr++[(b4,xN,58),(b2,stR s q,58)])))) _ (fun _=>Ϙ) (fun _ _=>Ϙ) _ I).mono ?_) rfl);rintro e J⟨g17,Y17,Z17,rfl,W17,I⟩;refine⟨_,rfl,?_⟩;refine p4 ?_)|refine ab fun J I=>?_);have hH0:=Hold.own (g:=g17) (e:=5) W17;have Y:=Loc.rem b5 I;have hL2:Loc w J ((g17,Z17,5)::(S1++Sr)):=Y.sub (List.Sublist.cons_cons _ ((Zh S1).append ((ZH Sr _).trans (List.sublist_append_right S0 _))));refine Ϣ (aj rfl I rfl) rfl ⟨⟨pr',cr',some ⟨g17,0,none⟩,Y17,p1',c1'⟩,rfl,Sr,[(g17,Z17,5)],S1,⟨hQ.r,?_,hQ.b,hQ.zr,fun h=>?_,hQ.zb⟩,hL2.perm List.perm_middle.symm⟩
 ·show Hold _ (.slice (ϐ g17) l.length Y17) _ _
  rw[HL.out];exact hH0
 ·exact absurd (show l=[]from h) (fun e=>by have:=HL.out;rw[e]at this;cases this)
instance VT:Ent 217:=eo func217
theorem Jt(s:Sta)(q:Sq)(w:ϑ)(hr:ReadS w s q)(hg:Good s)(hac:s.ac= -1){p:ϊ}{c:Nat}{l:Δ}(hv:BRow w (.slice p 300 c) l)(hl:l.length=300) :
 ϓ 162 #[.agg (stR s q),.slice p 300 c] w fun e Z=>∃q' Sr S0 S1,e= .returned (.agg (stR (s.fed l) q'))∧HoldQ Sr S0 S1 (s.fed l) q'∧Loc w Z (S1++(S0++Sr)):=by
 have I:=Loc.nil w;have HC:=Hd (fun J (V:Υ w J) bc (hw:Was J bc 0 (.slice p 300 c))=>td s q J ⟨hr.r.below V,by have:=hr.a.vrow.below V;exact this.brow,by have:=hr.b.vrow.below V;exact this.brow,hr.zr,hr.za,hr.zb⟩ hg hac hw (hv.below V) hl);clear hr hg hac hv hl;generalize s.fed l=s2 at *
 go_enter func162,ntmps162;go_wp2_with (first|refine aU ?_|refine gBp 2 fun b2 J I=>?_|((refine gN 3 ?_);refine lBs I rfl rfl rfl fun b3 J I=>?_;refine p4 ?_)|refine gBp 4 fun b4 J I=>?_|(refine gN 11 ?_;refine lKk (HC.out _ I.bel b3 (jt I (.tail _ (.head _)) rfl)) ?_;rintro e J⟨q',Sr,S0,S1,rfl,hQ,hN⟩;refine Ϩ (I.join hN) fun I=>?_)|refine ab fun J I=>?_);exact Ϣ (aj rfl I rfl) rfl ⟨q',Sr,S0,S1,rfl,hQ,I.sub (No _ _ _ _)⟩
instance VU:Ent 162:=eo func162
theorem Hb{s:Sta}(h:Good s){l:Δ}(hl:l.length=300)(hac:s.ac= -1):Good (s.fed l) where
 fl:=h.fl
 n:=h.n
 ids:=h.ids
 up:=h.up
 ac:= .inl hac
 s0:= .inr ⟨hl,by show(0:Int)≤0;omega,by show(0:Int)≤3;omega⟩
 s1:=h.s1
theorem kF(s:Sta)(q:Sq)(w:ϑ)(hr:ReadS w s q)(hg:Good s)(hac:s.ac= -1):Rt 160 #[.agg (stR s q)] w (.int .i64 0):=by
 have I:=Loc.nil w;have HM:=Hd (fun J (V:Υ w J)=>ng s q J ⟨hr.r.below V,by have:=hr.a.vrow.below V;exact this.brow,by have:=hr.b.vrow.below V;exact this.brow,hr.zr,hr.za,hr.zb⟩ hg);have HT:=Hd (fun J=>kw s q (by rw[hac];decide) J);clear hr hg hac;go_enter func160,ntmps160;go_wp2_with (first|refine aU ?_|refine gBp 1 fun b1 J I=>?_|(go_at_call 201;go_loud (refine(HM.out _ I.bel).mono ?_);rintro e J⟨rfl,V⟩;replace I:=I.keep V;refine p4 ?_)|(go_at_call 216;go_loud (refine(HT.out _).mono ?_);rintro e J⟨rfl,V⟩;replace I:=I.keep V;refine p4 ?_)|refine ab fun J I=>?_)
 all_goals(go_ret;exact⟨rfl,I.bel⟩)
instance VV:Ent 160:=eo func160
section
variable {D w:ϑ} {F:ύ} {bf bb bo bk kp a0 a1 cc:Nat} {fr fs:Φ}
theorem AL(hF:CoM F bf bb bo bk kp a0 a1 cc)(d:Dv)(m:Man)(hm:m.Ok)(hgd:m.good fr=false){p:ϊ}{c:Nat}(hv:∀x y z u e,See D (F x y z u e) (.slice p 300 c) (ak m.bytes))(I:Loc D w (d.at F bf bb bo kp fr fs)) :
 ϓ 96 #[aT cc,.slice p 300 c] w fun e Z=>e= .returned (.int .i64 11)∧Loc D Z (d.at F bf bb bo kp fr fs):=by
 have hG:=hF.g;have hH:=hF.h;have hA:=hF.a;have hU:=hF.u;have hB:=hF.b;have hV:=hF.v;have hO:=hF.o;have hPP:=hF.p;have hQ:=hF.q;have hRR:=hF.r;have hKK:=hF.k;have hll:=hF.l;have hmm:=hF.m;have HRD:=Hd (fun J h=>mu m hm (.slice p 300 c) J h);have hck:=(fun J p c hv=>kv m hm fr p c J hv);rw[hgd]at hck;obtain⟨ml,hml⟩:∃ml,ml=m.bytes:=⟨_,rfl⟩;rw[← hml]at HRD hv;have hrow:∀p c,m.row p 80 c=mfR m.ν m.ζ m.ρ p 80 c m.id m.κ m.cs m.sg:=fun _ _=>rfl;simp only[hrow]at HRD hck;have HCK:=Hd hck;clear hrow hml hgd hm hck;obtain⟨ν,ζ,ρ,wr,id,κ,cs,sg⟩:=m;dsimp only at *
 obtain⟨er,pr,y,f,nn,mm,kpp,kn,kc,φ,s,q,bt,rg⟩:=d;dsimp only[Dv.at]at I ⊢;go_enter func96,ntmps96;go_wp2_with (first|refine aU ?_|refine gBp 5 fun b5 J I=>?_|(refine gN 12 ?_;refine lKk (HRD.out _ (See.bytes I)) ?_;rintro e J⟨g12,Y12,Z12,rfl,W12,hN⟩;refine Ϩ (I.join hN) fun I=>?_)|refine ab fun J I=>?_);refine Ϭ 7 I fun H I=>?_;refine uG 0 ?_;refine uZ 4 ?_;refine uG 1 ?_;refine uG 2 ?_;refine uZ 3 ?_;refine rd1 5 fun K T=>?_;refine eVv (HCK.out _ _ _ (See.bytes I)) I fun J I=>?_;refine kO T (I) fun H=>?_;refine uG 6 ?_;refine wD ?_;clear H;go_wp2_with (refine ϛ fun J I=>?_)
 all_goals(go_ret;exact⟨rfl,Loc.rem g12 (Loc.rem b5 I)⟩)
theorem yH(hF:CoM F bf bb bo bk kp a0 a1 cc)(d:Dv)(ok:d.Ok)(h7:d.n<d.m)(hS:∀x y z u c,SeeS D (F x y z u c) d.s d.q)(m:Man)(hm:m.Ok)(hid:decide (m.id∈d.s.rv)=false)(hfl:d.s.fl≤m.ν)(hac:d.s.ac= -1)(hbt:d.bt= -1)(hgd:m.good fr=true)(X:Φ)(hfit:Fits fs m.wr X){p:ϊ}{c:Nat}(hv:∀x y z u e,See D (F x y z u e) (.slice p 300 c) (ak m.bytes))(I:Loc D w (d.at F bf bb bo kp fr fs)) :
 ϓ 96 #[aT cc,.slice p 300 c] w fun e Z =>
  e= .returned (.int .i64 0)∧∃d' Sr S0 S1,d.Next d'∧d'.s=d.s.fed m.bytes∧HoldQ Sr S0 S1 d'.s d'.q∧Loc D Z (S1++(S0++(Sr++d'.at F bf bb bo kp fr fs))):=by
 have hG:=hF.g;have hH:=hF.h;have hA:=hF.a;have hU:=hF.u;have hB:=hF.b;have hV:=hF.v;have hO:=hF.o;have hPP:=hF.p;have hQ:=hF.q;have hRR:=hF.r;have hKK:=hF.k;have hll:=hF.l;have hmm:=hF.m;have χ:=Man.bytes_length hm;have HRD:=Hd (fun J h=>mu m hm (.slice p 300 c) J h);have hck:=(fun J p c hv=>kv m hm fr p c J hv);rw[hgd]at hck;have HUW:=Hd (fun J pa ca hc (hv:BRow J (.slice pa 80 ca) m.wr)=>oU hfit pa ca hc J hv);have HTG:=Hd (fun J (h:Loc D J (d.at F bf bb bo kp fr fs))=>kF d.s d.q J ((hS _ _ _ _ _).read h) ok.good hac);have HPT:=Hd (fun J (h:Loc D J (d.at F bf bb bo kp fr fs)) (hv:BRow J (.slice p 300 c) m.bytes)=>Jt d.s d.q J ((hS _ _ _ _ _).read h) ok.good hac hv χ);have hga:=Hb ok.good χ hac;have HRV:=Hd (fun(b8 b5 g:Nat) (r8 r5 E:Ψ) J (h:Loc D J ((b5,r5,79)::(g,E,5)::d.at F bf bb bo kp fr fs))=>by
  have:=ku (F:=fun x y z u c=>(b5,r5,79)::(g,E,5)::F x y z u c) (bf:=bf) (bb:=bb) (bo:=bo) (bk:=bk) (kp:=kp) (a0:=a0) (a1:=a1) (cc:=cc) (fr:=fr) (fs:=fs) Ϙ d ok m.id (fun x y z u c=>Ϙ) h;rw[hid]at this;exact this)
 have HCH:=Hd (fun(b8 b5 g:Nat) (r8 r5 E:Ψ) (q':Sq) (Sr S0 S1:Mem) (hQ:HoldQ Sr S0 S1 (d.s.fed m.bytes) q') J (h:Loc D J (S1++(S0++(Sr++((b8,r8,24)::(b5,r5,79)::(g,E,5)::d.at F bf bb bo kp fr fs))))) =>
  rx (F:=fun x y z u c=>S1++(S0++(Sr++((b8,r8,24)::(b5,r5,79)::(g,E,5)::F x y z u c)))) (bf:=bf) (bb:=bb) (bo:=bo) (bk:=bk) (kp:=kp) (a0:=a0) (a1:=a1) (cc:=cc) (fr:=fr) (fs:=fs) Ϙ d ok h7 (d.s.fed m.bytes) q' hga (fun x y z u c=>hQ.sees D ((b8,r8,24)::(b5,r5,79)::(g,E,5)::F x y z u c)) h)
 generalize d.s.fed m.bytes=s2 at *
 obtain⟨ml,hml⟩:∃ml,ml=m.bytes:=⟨_,rfl⟩;rw[← hml]at HRD hv HPT;have hrow:∀p c,m.row p 80 c=mfR m.ν m.ζ m.ρ p 80 c m.id m.κ m.cs m.sg:=fun _ _=>rfl;simp only[hrow]at HRD hck;have HCK:=Hd hck;have q1:¬m.ν<d.s.fl:=Ω;clear hrow hml hgd hm hck hS hid hfl hac hfit h7 hga χ ok;obtain⟨ν,ζ,ρ,wr,id,κ,cs,sg⟩:=m;dsimp only at *
 have HD:=Hd (fun d' (h:d.Next d')=>h);obtain⟨er,pr,y,f,nn,mm,kpp,kn,kc,φ,s,q,bt,rg⟩:=d;dsimp only[Dv.at]at HRV HPT HTG HCH I hbt q1 ⊢;subst hbt;go_enter func96,ntmps96;go_wp2_with (first|refine aU ?_|refine gBp 5 fun b5 J I=>?_|(refine gN 12 ?_;refine lKk (HRD.out _ (See.bytes I)) ?_;rintro e J⟨g12,Y12,Z12,rfl,W12,hN⟩;refine Ϩ (I.join hN) fun I=>?_)|refine ab fun J I=>?_);refine Ϭ 7 I fun H I=>?_;refine uG 0 ?_;refine uZ 4 ?_;refine uG 1 ?_;refine uG 2 ?_;refine uZ 3 ?_;refine rd1 5 fun K T=>?_;refine eVv (HCK.out _ _ _ (See.bytes I)) I fun J I=>?_;refine kO T (I) ?_;clear T K H;intro H;refine uG 6 ?_;refine wD ?_;clear H;go_wp2_with (first|refine aU ?_|(refine gN 32 ?_;refine lO (HRV.out 0 _ _ #[] _ _ _ I) fun J I=>?_)|refine ab fun J I=>?_);refine Ϭ 9 I fun H I=>?_;refine uG 0 ?_;refine uG 2 ?_;refine uZ 1 ?_;refine uG 3 ?_;refine uG 4 ?_;refine uG 5 ?_;refine uZ 6 ?_;refine uG 7 ?_;refine uG 8 ?_;refine wD ?_;clear H;go_wp2_with (refine ϛ fun J I=>?_);refine eQ (R:=?R) (fun hR=>?h1) ?h2;case h1 =>
  refine mX (S:=(fun Z=>Loc D Z ((b5,mfR ν ζ ρ (ϐ g12) 80 Y12 id κ cs sg,79)::(g12,Z12,5)::F (flR bb er pr) y (otR bf fr fs nn mm) (bkR bf bo kpp kn kc φ) (coR kp fr fs s q (-1) rg)))) 13 ϒ ?_;intro H;replace I:=I.drew;refine uG 0 ?_;refine uG 4 ?_;refine uG 1 ?_;refine uZ 5 ?_;refine uG 2 ?_;refine uZ 3 ?_;refine rd2 6 10 ?_ ?_
  ·intro K T
   refine eVv (HUW.out _ _ _ W12.le (See.bytes I)) I ?_;clear I;intro J I;refine kO T ϒ ?_;clear T K H;intro H;refine uG 7 ?_;refine uG 8 ?_;refine uG 9 ?_;refine rd1 10 fun K T=>?_;refine eA I rfl ?_;clear I;intro b8 J I;refine kO T ϒ ?_;clear T K H;intro H;refine rd1 11 fun K T=>?_;refine cY ?_;clear I;intro J I;refine kO T ϒ ?_;clear T K H;intro H;refine uG 12 ?_;refine wD ?_;clear H;have hLp:=I;clear I;revert hLp;revert J;revert b8;exact pm hR
  ·intro K T
   refine eA I rfl ?_;clear I;intro b8 J I;refine kO T ϒ ?_;clear T K H;intro H;refine rd1 6 fun K T=>?_;refine eVv (HUW.out _ _ _ W12.le (See.bytes I)) I ?_;clear I;intro J I;refine kO T ϒ ?_;clear T K H;intro H;refine uG 7 ?_;refine uG 8 ?_;refine uG 9 ?_;refine rd1 11 fun K T=>?_;refine cY ?_;clear I;intro J I;refine kO T ϒ ?_;clear T K H;intro H;refine uG 12 ?_;refine wD ?_;clear H;have hLp:=I;clear I;revert hLp;revert J;revert b8;exact pm hR
 intro b8 J Y;clear I;have I:=Y;clear Y;go_wp2_with (refine ϛ fun J I=>?_);refine Ϭ 10 I fun H I=>?_;refine uG 0 ?_;refine uG 4 ?_;refine uG 1 ?_;refine uG 5 ?_;refine uG 2 ?_;refine uG 6 ?_;refine uZ 3 ?_;refine uZ 7 ?_;refine rd1 8 fun K T=>?_;refine eVv (HTG.out _ ϒ) I fun J I=>?_;refine kO T (I) ?_;clear T K H;intro H;refine uG 9 ?_;refine wD ?_;clear H;go_wp2_with (first|refine aU ?_|(refine gN 70 ?_;refine lKk (HPT.out _ I.pop.pop.pop (See.bytes I)) ?_;rintro e J⟨q',Sr,S0,S1,rfl,hQ,hN⟩;refine Ϩ (I.join hN) fun I=>?_)|(refine gN 71 ?_;refine lKk (HCH.out b8 b5 g12 _ _ _ q' Sr S0 S1 hQ _ I) ?_;rintro e J⟨rfl,d2,hNx,hs2,hq2,Y⟩;refine Ϥ Y fun I=>?_)|refine ab fun J I=>?_);have hQ2:HoldQ Sr S0 S1 d2.s d2.q:=by rw[hs2,hq2];exact hQ
 have Y:=Loc.rem g12 (Loc.rem b5 (Loc.rem b8 I))
 all_goals(go_ret;exact⟨rfl,d2,Sr,S0,S1,hNx,hs2,hQ2,Y⟩)
end
structure Dv.Wrote(d d':Dv):Prop where
 ok:d'.Ok
 n:d'.n=d.n
 m:d'.m=d.m
 s:d'.s=d.s
 q:d'.q=d.q
 bt:d'.bt=d.bt
theorem Dv.same{d:Dv}(ok:d.Ok):d.Wrote d:=⟨ok,rfl,rfl,rfl,rfl,rfl⟩
def Dv.raw(d:Dv):Δ:=ae 80 fun i=>d.f (16384+i)
theorem yJ:FnC 346 #[.int .i64 0] (.bool true):=⟨fun w=>by
 have I:=Loc.nil w;go_enter func346,ntmps346;go_wp2_with (refine ϛ fun J I=>?_);go_ret;exact⟨rfl,I.bel⟩⟩
instance VW:Ent 346:=eo func346
section
variable {D w:ϑ} {F:ύ} {bf bb bo bk kp a0 a1 cc:Nat} {fr fs:Φ}
theorem AM(hF:CoM F bf bb bo bk kp a0 a1 cc)(d:Dv)(ok:d.Ok)(I:Loc D w (d.at F bf bb bo kp fr fs)) :
 ϓ 344 #[aT a0,.int .i64 0] w fun e Z=>∃g W E,e= .returned (.tuple #[.slice (ϐ g) 80 W,.bool true])∧OwnR E 80 W (ak d.raw)∧Loc D Z ((g,E,5)::d.at F bf bb bo kp fr fs):=by
 have hA:=hF.a;have hU:=hF.u;have hB:=hF.b;have hV:=hF.v;have hO:=hF.o;have hPP:=hF.p;have hQ:=hF.q;have hRR:=hF.r;have hG:=hF.g;have hH:=hF.h;have hKK:=hF.k;have hll:=hF.l;have hmm:=hF.m;have HR:=Hd (fun J (h:Loc D J (d.at F bf bb bo kp fr fs))=>tL (F:=fun x y=>F x y (otR bf fr fs d.n d.m) (bkR bf bo d.p d.kn d.kc d.φ) (coR kp fr fs d.s d.q d.bt d.rg)) (bf:=bf) (bb:=bb) 16384 80 Ξ Ξ ok.fl h);haveI:=yJ;unfold Dv.raw;clear ok;obtain⟨er,pr,y,f,n,m,p,kn,kc,φ,s,q,bt,rg⟩:=d;dsimp only[Dv.at]at *
 generalize(ae 80 fun i=>f (16384+i))=R at *
 go_enter func344,ntmps344;go_wp2_with (first|refine aU ?_|refine ab fun J I=>?_|refine Ϯ fun J I=>?_);refine mX (S:=(fun Z=>Loc D Z (F (flR bb er pr) y (otR bf fr fs n m) (bkR bf bo p kn kc φ) (coR kp fr fs s q bt rg)))) 16 ϒ ?_;intro H;replace I:=I.drew;refine uG 0 ?_;refine uG 4 ?_;refine uG 8 ?_;refine uG 1 ?_;refine uG 5 ?_;refine uG 2 ?_;refine uG 6 ?_;refine uZ 3 ?_;refine uZ 7 ?_;refine uG 9 ?_;refine uG 10 ?_;refine rd1 11 fun K T=>?_;refine eK (HR.out _ I) ?_;rintro e J⟨g20,Y20,Z20,rfl,W20,Y⟩;refine⟨_,rfl,?_⟩;refine Ϫ Y fun I=>?_;refine kO T ϒ fun H=>?_;refine uG 12 ?_;refine uG 13 ?_;refine uG 14 ?_;refine uG 15 ?_;refine wD ?_;clear H;go_wp2_with (refine ϛ fun J I=>?_);go_ret2;exact⟨g20,Y20,Z20,rfl,W20,I⟩
instance VX:Ent 344:=eo func344
theorem Hc(hF:CoM F bf bb bo bk kp a0 a1 cc)(d:Dv)(ok:d.Ok)(I:Loc D w (d.at F bf bb bo kp fr fs)) :
 ϓ 341 #[aT kp,.int .i64 0,.int .i64 0] w fun e Z=>∃g W E,e= .returned (.slice (ϐ g) 80 W)∧OwnR E 80 W (ak d.raw)∧Loc D Z ((g,E,5)::d.at F bf bb bo kp fr fs):=by
 have hKK:=hF.k;have HR:=Hd (fun J (h:Loc D J (d.at F bf bb bo kp fr fs))=>AM (w:=J) hF d ok h);generalize d.raw=R at *
 generalize hM:d.at F bf bb bo kp fr fs=M at *
 have hK2:At M kp (kpR bo bk a0 a1) 119:=by rw[← hM];exact hKK _ _ _ _ _
 clear hM;go_enter func341,ntmps341;go_wp2_with (first|refine aU ?_|(refine gN 17 ?_;refine lKk (HR.out _ I) ?_;rintro e J⟨g17,Y17,Z17,rfl,W17,Y⟩;refine Ϥ Y fun I=>?_)|refine ab fun J I=>?_);go_ret;exact⟨g17,Y17,Z17,rfl,W17,I⟩
theorem vV(hF:CoM F bf bb bo bk kp a0 a1 cc)(d:Dv)(ok:d.Ok){p:ϊ}{c:Nat}{l:Δ}(hl:l.length=80)(hc:80≤c)(hv:∀x y z u e,See D (F x y z u e) (.slice p 80 c) (ak l))(I:Loc D w (d.at F bf bb bo kp fr fs)) :
 ϓ 345 #[aT a0,.int .i64 0,.slice p 80 c] w fun e Z=>e= .returned (.int .i64 0)∧∃d',d.Wrote d'∧Loc D Z (d'.at F bf bb bo kp fr fs):=by
 have hA:=hF.a;have hU:=hF.u;have hB:=hF.b;have hV:=hF.v;have hO:=hF.o;have hPP:=hF.p;have hQ:=hF.q;have hRR:=hF.r;have hG:=hF.g;have hH:=hF.h;have hKK:=hF.k;have hll:=hF.l;have hmm:=hF.m;obtain⟨o1,o2,o3,o4,o5,o6,o7,o8⟩:=ok;obtain⟨er,pr,y,f,n,m,pp,kn,kc,φ,s,q,bt,rg⟩:=d;dsimp only[Dv.at]at *
 haveI:=yJ;have HD:=Hd (fun J h=>nc (D:=D) (w:=J) (F:=fun x y=>F x y (otR bf fr fs n m) (bkR bf bo pp kn kc φ) (coR kp fr fs s q bt rg)) (bf:=bf) (bb:=bb) (er:=er) (pr:=pr) (y:=y) h);have HE:=Hd (fun J h=>tJ (D:=D) (w:=J) (F:=fun x y=>F x y (otR bf fr fs n m) (bkR bf bo pp kn kc φ) (coR kp fr fs s q bt rg)) (bf:=bf) (bb:=bb) (er:=er) (pr:=pr) (y:=y) 64 Ξ o1 o3 h);have HP:=Hd (fun J e' y' (h3:Fl (vx f 64 256) y') h=>oD (D:=D) (w:=J) (F:=fun x y=>F x y (otR bf fr fs n m) (bkR bf bo pp kn kc φ) (coR kp fr fs s q bt rg)) (bf:=bf) (bb:=bb) (er:=e') (pr:=pr) (y:=y') 16384 (fun x y=>hv _ _ _ _ _) hl hc Ξ Ξ o2 h3 h);clear hv hl hc;go_enter func345,ntmps345;go_wp2_with (first|refine aU ?_|refine ab fun J I=>?_|refine Ϯ fun J I=>?_);refine mX (S:=(fun Z=>∃d:Dv,Loc D Z (d.at F bf bb bo kp fr fs))) 36 (by first|exact⟨⟨er,pr,y,f,n,m,pp,kn,kc,φ,s,q,bt,rg⟩,I.drew⟩|exact⟨⟨e33,pr,y33,f,n,m,pp,kn,kc,φ,s,q,bt,rg⟩,I.drew⟩|exact⟨⟨e33,p49,y49,f,n,m,pp,kn,kc,φ,s,q,bt,rg⟩,I.drew⟩) ?_;intro H;replace I:=I.drew;refine uG 0 ?_;refine uG 1 ?_;refine uG 2 ?_;refine uZ 3 ?_;refine rd1 4 fun K T=>?_;refine eK (HD.out _ I) ?_;rintro e J⟨rfl,Y⟩;refine⟨_,rfl,?_⟩;refine Ϫ Y fun I=>?_;refine kO T (by first|exact⟨⟨er,pr,y,f,n,m,pp,kn,kc,φ,s,q,bt,rg⟩,I⟩|exact⟨⟨e33,pr,y33,f,n,m,pp,kn,kc,φ,s,q,bt,rg⟩,I⟩|exact⟨⟨e33,p49,y49,f,n,m,pp,kn,kc,φ,s,q,bt,rg⟩,I⟩) fun H=>?_;refine uG 5 ?_;refine uS 6 ?_;refine uS 10 ?_;refine uS 14 ?_;refine uS 7 ?_;refine uS 11 ?_;refine uS 8 ?_;refine uS 12 ?_;refine uL 9 ?_;refine uL 13 ?_;refine uS 15 ?_;refine rd1 16 fun K T=>?_;refine eK (HE.out _ I) ?_;rintro e J⟨rfl,e33,y33,he33,hy33,Y⟩;refine⟨_,rfl,?_⟩;refine Ϫ Y fun I=>?_;refine kO T (by first|exact⟨⟨er,pr,y,f,n,m,pp,kn,kc,φ,s,q,bt,rg⟩,I⟩|exact⟨⟨e33,pr,y33,f,n,m,pp,kn,kc,φ,s,q,bt,rg⟩,I⟩|exact⟨⟨e33,p49,y49,f,n,m,pp,kn,kc,φ,s,q,bt,rg⟩,I⟩) fun H=>?_;refine uS 17 ?_;refine uG 18 ?_;refine uG 19 ?_;refine uS 20 ?_;refine uS 24 ?_;refine uS 28 ?_;refine uS 31 ?_;refine uS 21 ?_;refine uS 25 ?_;refine uS 22 ?_;refine uS 26 ?_;refine uL 23 ?_;refine uL 27 ?_;refine uS 29 ?_;refine uS 30 ?_;refine rd1 32 fun K T=>?_;refine eK (HP.out _ e33 y33 hy33 I) ?_;rintro e J⟨rfl,p49,y49,hp49,hy49,Y⟩;refine⟨_,rfl,?_⟩;refine Ϫ Y fun I=>?_;refine kO T (by first|exact⟨⟨er,pr,y,f,n,m,pp,kn,kc,φ,s,q,bt,rg⟩,I⟩|exact⟨⟨e33,pr,y33,f,n,m,pp,kn,kc,φ,s,q,bt,rg⟩,I⟩|exact⟨⟨e33,p49,y49,f,n,m,pp,kn,kc,φ,s,q,bt,rg⟩,I⟩) fun H=>?_;refine uS 33 ?_;refine uG 34 ?_;refine uG 35 ?_;refine wD ?_;clear H;clear HD HE HP;go_wp2_with (refine ϛ fun J I=>?_)
 all_goals(go_ret;exact⟨rfl,⟨e33,p49,y49,_,n,m,pp,kn,kc,φ,s,q,bt,rg⟩,⟨⟨he33,hp49,hy49,o4,o5,o6,o7,o8⟩,rfl,rfl,rfl,rfl,rfl⟩,I⟩)
instance VY:Ent 345:=eo func345
theorem AN(hF:CoM F bf bb bo bk kp a0 a1 cc)(d:Dv)(ok:d.Ok){p:ϊ}{c:Nat}{l:Δ}(hl:l.length=80)(hc:80≤c)(hv:∀x y z u e,See D (F x y z u e) (.slice p 80 c) (ak l))(I:Loc D w (d.at F bf bb bo kp fr fs)) :
 ϓ 342 #[aT kp,.int .i64 0,.int .i64 0,.slice p 80 c] w fun e Z=>e= .returned (.int .i64 0)∧∃d',d.Wrote d'∧Loc D Z (d'.at F bf bb bo kp fr fs):=by
 have hKK:=hF.k;have HW:=Hd (fun J (h:Loc D J (d.at F bf bb bo kp fr fs))=>vV (w:=J) hF d ok hl hc hv h);clear hv hl hc;generalize hM:d.at F bf bb bo kp fr fs=M at *
 have hK2:At M kp (kpR bo bk a0 a1) 119:=by rw[← hM];exact hKK _ _ _ _ _
 clear hM;go_enter func342,ntmps342;go_wp2_with (first|refine aU ?_|(refine gN 17 ?_;refine lKk (HW.out _ I) ?_;rintro e J⟨rfl,d2,hW,Y⟩;refine Ϥ Y fun I=>?_)|refine ab fun J I=>?_);go_ret;exact⟨rfl,d2,hW,I⟩
end
theorem cG{F:ύ}{bf bb bo bk kp a0 a1 cc:Nat}(e:Nat×Ψ×ϋ)(h:CoM F bf bb bo bk kp a0 a1 cc):CoM (fun x y z u c=>e::F x y z u c) bf bb bo bk kp a0 a1 cc:=by
 have hA:=h.a;have hU:=h.u;have hB:=h.b;have hV:=h.v;have hO:=h.o;have hPP:=h.p;have hQ:=h.q;have hRR:=h.r;have hG:=h.g;have hH:=h.h;have hKK:=h.k;have hll:=h.l;have hmm:=h.m
 infer_instance
theorem et{F:ύ}{bf bb bo bk kp a0 a1 cc:Nat}(S:Mem)(h:CoM F bf bb bo bk kp a0 a1 cc):CoM (fun x y z u c=>S++F x y z u c) bf bb bo bk kp a0 a1 cc:=by
 have hA:=h.a;have hU:=h.u;have hB:=h.b;have hV:=h.v;have hO:=h.o;have hPP:=h.p;have hQ:=h.q;have hRR:=h.r;have hG:=h.g;have hH:=h.h;have hKK:=h.k;have hll:=h.l;have hmm:=h.m
 infer_instance
def rvM(j:Nat):List Int:=(List.range j).map fun(i:Nat)=>(i:Int)*3
def stM(j:Nat):Sta:=⟨0,rvM j,[],false,0,[],false,0,-1⟩
theorem NO:HoldQ [] [] [] Sta.new Sq.none:=⟨Hold.nil _,Hold.nil _,Hold.nil _,fun _=>rfl,fun _=>rfl,fun _=>rfl⟩
theorem Glob.kat{w:ϑ}(h:Glob w):KAt w:=⟨by have:=h.lt;omega,h.k256⟩
end Go.Proofs.YtoifhhljfaoejaaGreatDoor
