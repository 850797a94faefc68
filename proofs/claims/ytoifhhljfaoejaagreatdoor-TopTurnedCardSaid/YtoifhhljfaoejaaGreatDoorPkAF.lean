/- Lemmas of the law; no condition beyond those written. -/
import Derived.Test.YtoifhhljfaoejaaGreatDoorPkAE
set_option maxRecDepth 100000
set_option maxHeartbeats 8000000
set_option linter.unusedVariables false
set_option linter.unusedSimpArgs false
set_option linter.unusedSectionVars false
namespace Go.Proofs.YtoifhhljfaoejaaGreatDoor
open Go.Proofs.Tryz Go Go.RowKit Go.Shelf
abbrev ύ:=Ψ→Ψ→Ψ→Ψ→Ψ→Mem
abbrev ώ:=Exit→Act→ϑ→Prop
theorem K3(F:Ψ→Ψ→Mem)(bf bb:Nat)(e:Nat×Ψ×ϋ)(h:FlM F bf bb):FlM (fun x y=>e::F x y) bf bb :=
 ⟨fun x y=>by haveI:=h.a x y;infer_instance,fun x y x'=>by haveI:=h.u x y x';infer_instance,fun x y=>by haveI:=h.b x y;infer_instance,fun x y y'=>by haveI:=h.v x y y';infer_instance⟩
theorem Fl.seg{f:Φ}{y:Ψ}(h:Fl f y)(a n:Nat)(ha:a+n≤32768):Seg y a n (ak (ae n fun i=>f (a+i))) where
 len:=by rw[ap,ag]
 one:=bY _
 seg:=fun i hi=>by
  rw[ap,ag]at hi;rw[h.cell (a+i) Ω];simp[ak,ae]
section
variable {D w:ϑ} {F:Ψ→Ψ→Mem} {bf bb:Nat} [hF:FlM F bf bb] {er pr:Int} {y:Ψ}
theorem tL{f:Φ}(a n:Nat)(ha:a+n≤32768)(h0:0<n)(hy:Fl f y)(I:Loc D w (F (flR bb er pr) y)) :
 ϓ 238 #[.pointer (ϐ bf),.int .i64 a,.int .i64 n] w fun e Z=>∃g W E,e= .returned (.tuple #[.slice (ϐ g) n W,.bool true])∧OwnR E n W (ak (ae n fun i=>f (a+i)))∧Loc D Z ((g,E,5)::F (flR bb er pr) y):=by
 have hA:=hF.a;have hB:=hF.b;have hs:=hy.seg a n ha;have q0:(0:Int)≤a:=Ω;have q1:(0:Int)≤n:=Ω;have q2:(a:Int)+n≤32768:=Ω;have q3:(a:Int)≤a+n:=Ω;have q4:(a:Int)≤32768:=Ω;have q5:((a:Int)+n-a).toNat=n:=Ω;have HL:=Hd (ag n fun i=>f (a+i));have HC:=Hd (fun J v (h:BRow J v (ae n fun i=>f (a+i)))=>eD v _ J h (by rw[ag];exact h0) (by rw[ag];omega));generalize(ae n fun i=>f (a+i))=l at *
 go_enter func238,ntmps238;go_wp2_with (first|refine aV ?_|(refine gN 16 ?_;refine lO (F5 (F:=F) (bf:=bf) (bb:=bb) a n ha I) fun J I=>?_)|(go_at_call 94;go_loud (refine(HC.out _ _ (See.bytes I (l:=l))).mono ?_);rintro e J⟨g28,Y28,Z28,rfl,W28,hg28,hc28,hb28⟩;have Y:=I.fresh hb28 hg28 hc28;clear hb28 hg28 hc28;clear I;have I:=Y;clear Y;refine p4 ?_)|refine aP fun J I=>?_);go_ret2;rw[HL.out]at W28;exact⟨g28,Y28,Z28,by rw[HL.out];rfl,W28,I⟩
end
instance SO:Ent 238:=eo func238
section
variable {D w:ϑ} {F:Ψ→Ψ→Mem} {bf bb:Nat} [hF:FlM F bf bb] {er pr:Int} {y:Ψ}
theorem Gb(s:Φ)(k:Nat)(hk:k<2)(hy:Fl (fun _=>255) y)(I:Loc D w (F (flR bb er pr) y)) :
 ϓ 196 #[.pointer (ϐ bf),.agg (aa 32 s),.int .i64 k] w fun e Z=>e= .returned (.tuple #[.int .i64 0,.slice none 0 0,.bool false])∧Loc D Z (F (flR bb er pr) y):=by
 have hA:=hF.a;have hB:=hF.b;have q0:¬(k:Int)<0:=Ω;have q1:¬(2:Int)≤k:=Ω;have q2:(k:Int)≤1:=Ω;obtain⟨a,ha⟩:∃a,a=k*32*256:=⟨_,rfl⟩;have ha1:a+4148≤32768:=Ω;have ha2:(k:Int)*32*256=(a:Nat):=Ω;have HR:=Hd (fun J (h:Loc D J (F (flR bb er pr) y))=>tL (F:=F) (bf:=bf) (bb:=bb) a 4148 ha1 Ξ hy h);have HLEN:=Hd (show(ae 4148 fun i=>(255:Γ)).length=4148 from ag _ _);have HT:=Hd (show(ae 4148 fun i=>(255:Γ)).take 4=[255,255,255,255]from Ξ);have HN:=Hd (fun J v (h:BRow J v (ae 4148 fun i=>(255:Γ)))=>by have:=fT v _ J h (by rw[ag];decide) (by rw[ag];decide);rw[ag]at this;exact this);generalize(ae 4148 fun i=>(255:Γ))=l at *
 clear ha;go_enter func196,ntmps196;go_wp2_with (first|refine aV ?_|refine gBp 4 fun b4 J I=>?_|refine aP fun J I=>?_);refine fN 0 rfl ?_;have hF4:=K3 F bf bb (b4,aa 32 s,24) hF;go_wp2_with (first|refine aV ?_|(refine gN 20 ?_;refine lO (nc (F:=fun x y=>(b4,aa 32 s,24)::F x y) (bf:=bf) (bb:=bb) I) fun J I=>?_)|(refine gN 24 ?_;refine lO (iZ (F:=fun x y=>(b4,aa 32 s,24)::F x y) (bf:=bf) (bb:=bb) I) fun J I=>?_)|(refine gN 41 ?_;refine lKk (HR.out _ I.pop) ?_;rintro e J⟨g41,Y41,Z41,rfl,W41,Y⟩;refine Ϥ Y fun I=>?_)|(refine gN 45 ?_;refine lKk (HN.out _ (.slice (ϐ g41) 4148 Y41) (See.bytes I (l:=l))) ?_;rintro e J⟨b45,g45,Y45,Z45,rfl,W45,hN⟩;refine⟨_,rfl,?_⟩;have hs1:=W45.segB;have hc9:=W45.le;refine Ϧ (I.join hN) fun I=>?_)|(refine gN 47 ?_;refine lKk (ri (F:=fun x=>(b45,x,274)::(g45,Z45,5)::(g41,Z41,5)::F (flR bb er pr) y) (l:=l) hs1 4 Ω Ω hc9 Ω I) ?_;rintro e J⟨g47,Y47,Z47,rfl,W47,Y⟩;rw[HT.out]at W47;refine Ϥ Y fun I=>?_)|(refine gN 48 ?_;refine sJ I rfl rfl rfl ?_;rw[show bn [255,255,255,255]=⟨#[255,255,255,255]⟩from rfl];clear I;intro J I)|refine aP fun J I=>?_);go_step3;refine⟨rfl,?_⟩;unfold vp;go_wp2_with (first|refine aV ?_|refine aP fun J I=>?_);simp only[Exit.jump]
 go_ret3
 exact⟨rfl,Loc.rem g47 (Loc.rem b45 (Loc.rem g45 (Loc.rem g41 I)))⟩
end
instance SP:Ent 196:=eo func196
class Hold(S:Mem)(v:outParam Value)(e:outParam TypeId)(ys:outParam (List Value)):Prop where
 hold:(S=[]∧v= .slice none 0 0∧ys=[])∨∃g W E,S=[(g,E,e)]∧v= .slice (ϐ g) ys.length W∧OwnR E ys.length W ys
theorem Hold.nil(e:ϋ):Hold [] (.slice none 0 0) e []:=⟨.inl ⟨rfl,rfl,rfl⟩⟩
theorem Hold.own{g W n:Nat}{E:Ψ}{e:ϋ}{ys:List Value}(h:OwnR E n W ys):Hold [(g,E,e)] (.slice (ϐ g) n W) e ys:=⟨.inr ⟨g,W,E,rfl,by rw[h.len],by rw[h.len];exact h⟩⟩
instance SQ(S M:Mem)(b:Nat)(r:Ψ)(t:ϋ)[h:At M b r t]:At (S++M) b r t:=⟨XR _ h.mem⟩
theorem Upd.app{M M':Mem}{b:Nat}{r:Ψ}(S:Mem)(h:Upd M b r M'):Upd (S++M) b r (S++M'):=by
 induction S with
 | nil=>exact h
 | cons e S ih=>exact .tail e ih
instance PN(S M M':Mem)(b:Nat)(r:Ψ)[h:Ups M b r M']:Ups (S++M) b r (S++M'):=⟨h.upd.app S⟩
instance PO(S M M':Mem)(b:Nat)[h:Rem M b M']:Rem (S++M) b (S++M'):=⟨(Zh S).append h.sub⟩
theorem Loc.sub{D w:ϑ}{M M':Mem}(h:Loc D w M)(hs:M'.Sublist M):Loc D w M':=⟨h.bel,fun b r t hm=>h.ok b r t (hs.mem hm),h.nd.sublist (hs.map _)⟩
theorem Loc.left{D w:ϑ}{S M:Mem}(h:Loc D w (S++M)):Loc D w S:=h.sub (ZH _ _)
theorem Loc.right{D w:ϑ}{S M:Mem}(h:Loc D w (S++M)):Loc D w M:=h.sub (List.sublist_append_right _ _)
instance Oh(D:ϑ)(x:Nat×Ψ×ϋ)(M:Mem)(v:ό)(ys:List Value)[h:See D M v ys]:See D (x::M) v ys:=⟨fun w I=>h.see w I.pop⟩
instance PP(D:ϑ)(S M:Mem)(v:ό)(ys:List Value)[h:See D M v ys]:See D (S++M) v ys:=⟨fun w I=>h.see w I.right⟩
theorem Hold.see{D w:ϑ}{S:Mem}{v:ό}{e:ϋ}{ys:List Value}(h:Hold S v e ys)(I:Loc D w S):VRow w v ys:=by
 rcases h.hold with⟨rfl,rfl,rfl⟩|⟨g,W,E,rfl,rfl,ho⟩
 ·exact(qp D []).see w I
 ·haveI:=ho
  have h:See D [(g,E,e)] (.slice (ϐ g) ys.length W) ys:=Ϙ;exact h.see w I
instance Oi(D:ϑ)(S M:Mem)(v:ό)(e:ϋ)(ys:List Value)[h:Hold S v e ys]:See D (S++M) v ys:=⟨fun w I=>h.see I.left⟩
theorem bU{P:Program}{ops:Array Oper}{Q:ώ}{a:Act}{w:ϑ}{rest:List Oper}{d:Option Tmp}{op:Op}{t:ϋ}{ps:String}{af:Array Edge}{j:Nat}{want:Bool}{k:Tmp}{b:Bool}(ho:(ops[j]?).bind (·.dst)=some k)(ht:a.tmps[k]?=some (.bool b))(hb:b=want)(h:wpList P ops Q (⟨d,op,t,ps,af,none⟩::rest) a w):wpList P ops Q (⟨d,op,t,ps,af,some (j,want)⟩::rest) a w :=
 jY (by
  unfold Region.wanted yielded;simp only[ho,Option.bind_some,ht,hb];cases want <;> rfl) h
class Splice(r:Ψ)(k:Nat)(s:Ψ)(r':outParam Ψ):Prop where
 fit:k+s.size≤r.size
 out:∀j,r'[j]?=if k≤j∧j<k+s.size then s[j-k]? else r[j]?
theorem li{b:Nat}{t:ϋ}:∀(vs:List Value) (o:Nat) (w:ϑ) (r:Ψ),w.heap[b]?=some (.cells r t (0,0))→o+vs.length≤r.size→∃r',(w.setCells b o vs).heap[b]?=some (.cells r' t (0,0))∧∀j,r'[j]?=if o≤j∧j<o+vs.length then vs[j-o]? else r[j]?
 | [],o,w,r,h,_=>⟨r,h,fun j=>by rw[Χ (by rw[ZB];omega)]⟩
 | v::vs,o,w,r,h,hl=>by
  have h1:=heap_setCell_same w b o r t v h;obtain⟨r',h2,h3⟩:=li vs (o+1) _ _ h1 (by simp at hl ⊢; omega);refine⟨r',h2,fun j=>?_⟩;rw[h3 j];simp only[XZ]at hl ⊢;by_cases c1:j=o
  ·subst c1
   rw[Χ Ω,Ρ Ω,Array.getElem?_setIfInBounds_self_of_lt Ω];simp
  ·by_cases c2:o+1≤j∧j<o+1+vs.length
   ·rw[Ρ c2,Ρ Ω,show j-o=(j-(o+1))+1 from by omega]
    simp
   ·rw[Χ c2,Χ Ω,Array.getElem?_setIfInBounds_ne Ω]
theorem kt{D:ϑ}{b:Nat}(hb:D.heap.size≤b):∀(vs:List Value) (o:Nat) (w:ϑ),Υ D w→Below D.heap.size D (w.setCells b o vs)
 | [],_,_,h=>h
 | v::vs,o,w,h=>kt hb vs (o+1) _ (h.setCell hb _)
theorem ne{b c:Nat}(hc:c≠b):∀(vs:List Value) (o:Nat) (w:ϑ),(w.setCells b o vs).heap[c]?=w.heap[c]?
 | [],_,_=>rfl
 | v::vs,o,w=>(ne hc vs (o+1) _).trans (Xh _ _ _ _ hc)
theorem Loc.splice{D w:ϑ}{M M':Mem}(h:Loc D w M){b k:Nat}{r s r':Ψ}{t:ϋ}(hm:(b,r,t)∈M)(hs:Splice r k s r')(hu:Upd M b r' M'):Loc D (w.setCells b k s.toList) M':=by
 refine⟨kt (h.ge hm) _ _ _ h.bel,fun c r1 t' hm'=>?_,by rw[hu.fst];exact h.nd⟩;rcases hu.back h.nd c r1 t' hm' with⟨rfl,rfl,r2,h1⟩|⟨hne,h1⟩
 ·refine⟨h.ge h1,?_⟩
  have e:r2=r∧t'=t:=by
   have a1:=h.get h1;rw[h.get hm]at a1;cases a1
   exact⟨rfl,rfl⟩
  obtain⟨rfl,rfl⟩:=e;obtain⟨q,h2,h3⟩:=li s.toList k w r2 (h.get h1) (by simpa using hs.fit);rw[h2];have:q=r1:=Array.ext_getElem? fun j=>by rw[h3 j,hs.out j];simp
  rw[this]
 ·exact⟨h.ge h1,(ne hne _ _ _).trans (h.get h1)⟩
theorem cq(pre s s' post:Ψ)(k:Nat)(hk:k=pre.size)(hs:s'.size=s.size):Splice (pre++s++post) k s' (pre++s'++post) where
 fit:=Ϟ
 out:=fun j=>by
  subst hk;by_cases h:pre.size≤j∧j<pre.size+s'.size
  ·rw[Ρ h,Array.getElem?_append_left Ϟ,Array.getElem?_append_right Ω]
  ·rw[Χ h]
   by_cases h2:j<pre.size
   ·rw[Array.getElem?_append_left Ϟ,Array.getElem?_append_left Ω,Array.getElem?_append_left Ϟ,Array.getElem?_append_left Ω]
   ·rw[Array.getElem?_append_right Ϟ,Array.getElem?_append_right Ϟ]
    simp[hs]
section
variable {ops:Array Oper} {rest:List Oper} {o:Oper} {a:Act} {D w:ϑ} {M M':Mem} {Q:ώ} {K:Act→ϑ→Prop}
theorem Loc.there{D w:ϑ}{M:Mem}(h:Loc D w M){b k n:Nat}{r:Ψ}{t:ϋ}(hm:(b,r,t)∈M)(hf:k+n≤r.size):w.there b k n:=fun j hj =>
 ⟨by rw[Ya w b (k+j) _ _ _ (h.get hm),Array.getElem?_eq_getElem Ω];rfl,Xi w _ _ _ _ (h.get hm)⟩
theorem lSp(I:Loc D w M)(hg:o.guard=none){t:ϋ}{x y:Operand}(ho:o.op= .store t x y)(hd:o.dst=none){b k:Nat}(hx:a.eval x= .pointer (some ⟨b,k,none⟩)){s:Ψ}(hy:a.eval y= .agg s){n:Nat}[hr:Row1 s n][ht:RowTy t n]{r r':Ψ}{u:ϋ}[hm:At M b r u][hs:Splice r k s r'][hu:Ups M b r' M'](h:∀Z,Loc D Z M'→wpList prog ops Q rest a Z):wpList prog ops Q (o::rest) a w:=by
 refine wpList_store_mid hg t x y ho b k s hx hy (I.there hm.mem hs.fit) (by rw[ht.size,hr.size]) hr.one ?_;rw[hd];exact h _ (I.splice hm.mem hs hu.upd)
theorem eSp(I:Loc D w M){t:ϋ}{x y:Operand}(ho:o.op= .store t x y){b k:Nat}(hx:a.eval x= .pointer (some ⟨b,k,none⟩)){s:Ψ}(hy:a.eval y= .agg s){n:Nat}[hr:Row1 s n][ht:RowTy t n]{r r':Ψ}{u:ϋ}[hm:At M b r u][hs:Splice r k s r'][hu:Ups M b r' M'](h:∀Z,Loc D Z M'→K (a.put o.dst undef) Z):o.wp prog a w K Q :=
 wp_store_mid t x y ho b k s hx hy (I.there hm.mem hs.fit) (by rw[ht.size,hr.size]) hr.one (h _ (I.splice hm.mem hs hu.upd))
end
class BkM(F:Ψ→Ψ→Ψ→Ψ→Mem)(bf bb bo bk:Nat):Prop where
 a:∀x y z u,At (F x y z u) bf x 106
 u:∀x y z u x',Ups (F x y z u) bf x' (F x' y z u)
 b:∀x y z u,At (F x y z u) bb y 5
 v:∀x y z u y',Ups (F x y z u) bb y' (F x y' z u)
 o:∀x y z u,At (F x y z u) bo z 108
 p:∀x y z u z',Ups (F x y z u) bo z' (F x y z' u)
 q:∀x y z u,At (F x y z u) bk u 166
 r:∀x y z u u',Ups (F x y z u) bk u' (F x y z u')
instance bkM(F:Ψ→Ψ→Ψ→Ψ→Mem)(bf bb bo bk:Nat)[h1:∀x y z u,At (F x y z u) bf x 106][h2:∀x y z u x',Ups (F x y z u) bf x' (F x' y z u)][h3:∀x y z u,At (F x y z u) bb y 5][h4:∀x y z u y',Ups (F x y z u) bb y' (F x y' z u)][h5:∀x y z u,At (F x y z u) bo z 108][h6:∀x y z u z',Ups (F x y z u) bo z' (F x y z' u)][h7:∀x y z u,At (F x y z u) bk u 166][h8:∀x y z u u',Ups (F x y z u) bk u' (F x y z u')]:BkM F bf bb bo bk:=⟨h1,h2,h3,h4,h5,h6,h7,h8⟩
abbrev bkR(bf bo:Nat)(p:ϊ)(n c:Nat)(φ:Int):Ψ:= #[.pointer (ϐ bf),.pointer (ϐ bo),.slice p n c,.int .i64 φ,.bool false]
theorem Gc{f:Φ}{s:Nat}(h:s<64)(i:Nat)(hi:16384≤i):vx f s 256 i=f i:=by unfold vx;rw[Χ Ω]
theorem Gd{f:Φ}{a n:Nat}{l:Δ}(h:a+n≤16384)(i:Nat)(hi:16384≤i):sK f a l n i=f i:=by unfold sK;rw[Χ Ω]
section
variable {D w:ϑ} {F:Ψ→Ψ→Ψ→Ψ→Mem} {bf bb bo bk:Nat} [hF:BkM F bf bb bo bk] {er pr:Int} {y:Ψ} {fr fs:Φ} {n m:Int} {f:Φ}
theorem rn{φ:Int}{k:Nat}(hk:k<2)(hkh:1-φ=k){kp:ϊ}{kn kc:Nat}{p:ϊ}{c:Nat}{l:Δ}(hl:l.length≤4096)(hS:∀x y z u,See D (F x y z u) (.slice p l.length c) (ak l))(hn0:0≤n)(hnm:n<m)(hm:m≤1048576)(he:0≤er∧er≤1099511627776)(hp:0≤pr∧pr≤1099511627776)(hy:Fl f y)(R:Ending→ϑ→Prop)(hR:∀J er' pr' f' y',(0≤er'∧er'≤1099511627776)→(0≤pr'∧pr'≤1099511627776)→(∀i,16384≤i→f' i=f i)→Fl f' y'→Loc D J (F (flR bb er' pr') y' (otR bf fr fs (n+1) m) (bkR bf bo kp kn kc φ)) →
  ϓ 94 #[.slice p l.length c] J fun e w2=>∃q d S,e= .returned (.slice q l.length d)∧Loc D w2 (S++F (flR bb er' pr') y' (otR bf fr fs (n+1) m) (bkR bf bo kp kn kc φ)) ∧
   ∀w3,Loc D w3 (S++F (flR bb er' pr') y' (otR bf fr fs (n+1) m) (bkR bf bo q l.length d k))→R (.returned (.int .i64 0)) w3)(I:Loc D w (F (flR bb er pr) y (otR bf fr fs n m) (bkR bf bo kp kn kc φ))) :
 ϓ 148 #[.pointer (ϐ bk),.slice p l.length c] w R:=by
 have hA:=hF.a;have hU:=hF.u;have hB:=hF.b;have hV:=hF.v;have hO:=hF.o;have hPP:=hF.p;have hQ:=hF.q;have hRR:=hF.r;have HR:=Hd hR;have HE:=Hd he;have HP:=Hd hp;have HREC:=Hd (fun J v (h:BRow J v l)=>Af fs (n+1) v l J h Ω hl);have hrl:=xI fs (n+1) l;generalize xH fs (n+1) l=rc at *
 have hrc1:rc.length≤4148:=Ω;have hrc0:0<rc.length:=Ω;clear hrl hR he hp;have hwr:IntKind.i64.wrap (n+1)=n+1:=W3 _ Ω;go_enter func148,ntmps148;go_wp2_with (first|refine aV ?_|refine aP fun J I=>?_);refine Ϭ 18 I fun H I=>?_;refine uG 0 ?_;refine uG 5 ?_;refine uG 11 ?_;refine uG 1 ?_;refine uG 6 ?_;refine uG 2 ?_;refine uG 7 ?_;refine uZ 3 ?_;refine uZ 8 ?_;refine rd1 4 fun K T=>?_;refine eK (iz (F:=fun x y z=>F x y z (bkR bf bo kp kn kc φ)) (bf:=bf) (bb:=bb) I) ?_;rintro e J⟨rfl,Y⟩;refine⟨_,rfl,?_⟩;refine Ϫ Y fun I=>?_;refine kO T (I) fun H=>?_;refine rd1 9 fun K T=>?_;refine eK (eW (F:=fun x y z=>F x y z (bkR bf bo kp kn kc φ)) (bf:=bf) (bb:=bb) I) ?_;rintro e J⟨rfl,Y⟩;refine⟨_,rfl,?_⟩;refine Ϫ Y fun I=>?_;refine kO T (I) fun H=>?_;refine uG 10 ?_;refine rd1 12 fun K T=>?_;refine eK (HREC.out _ (.slice p l.length c) (See.bytes I)) ?_;rintro e J⟨g23,Y23,Z23,rfl,W23,hN⟩;refine⟨_,rfl,?_⟩;refine Ϧ (I.join hN) fun I=>?_;refine kO T (I.pop) fun H=>?_;refine uG 13 ?_;refine uG 14 ?_;refine uG 15 ?_;refine uG 16 ?_;refine uG 17 ?_;refine wD ?_;clear H;obtain⟨a,ha⟩:∃a,a=8192*k:=⟨_,rfl⟩;have ha2:(k:Int)*32*256=(a:Nat):=Ω;have ha3:a≤8192:=Ω;have HA:=Hd ha;clear ha;go_wp2_with (first|refine aV ?_|refine aP fun J I=>?_);have HF0:∀i,16384≤i→f i=f i:=fun _ _=>rfl;go_loopw [9] (fun kk wr=>∃(j x:Nat) (e1:Int) (f1:Φ) (y1:Ψ),x=256*j∧kk= .int .i64 x∧x≤5000∧(0≤e1∧e1≤1099511627776)∧(∀i,16384≤i→f1 i=f i)∧Fl f1 y1∧Loc D wr ((g23,Z23,5)::F (flR bb e1 pr) y1 (otR bf fr fs n m) (bkR bf bo kp kn kc φ))) (fun kk _=>rc.length-(intOf kk).toNat);case atStart=>exact⟨0,0,er,f,y,rfl,rfl,Ω,HE.out,HF0,hy,I⟩
 case round =>
  clear I hy HF0;obtain⟨j,x,e1,f1,y1,hx,rfl,hx5,he1,hf1,hy,I⟩:=hrel;have HX:=Hd hx;by_cases hlt:x<rc.length
  ·have k0:(0:Int)≤x:=Ω
   have k1:(x:Int)<rc.length:=Ω;obtain⟨s,hs⟩:∃s,s=32*k+j:=⟨_,rfl⟩;have hsx:a+x=256*s:=by have:=HA.out;omega
   have hs64:s<64:=by have:=HA.out;omega
   have HS:=Hd hs;have k2:((a:Int)+x)/256=(s:Nat):=Ω;clear hs hx;go_wp2_with (first|refine aV ?_|(refine gN 51 ?_;rw[k2];refine lKk (tJ (F:=fun x y=>(g23,Z23,5)::F x y (otR bf fr fs n m) (bkR bf bo kp kn kc φ)) (bf:=bf) (bb:=bb) s Ω he1 hy I) ?_;rintro e J⟨rfl,e2,y2,he2,hy2,Y⟩;refine Ϥ Y fun I=>?_)|refine aP fun J I=>?_);go_roundw;case rel=>exact⟨j+1,x+256,e2,_,y2,by rw[HX.out];omega,by go_num,Ω,he2,fun i hi=>by rw[Gc hs64 i hi];exact hf1 i hi,hy2,I⟩
   case measure=>simp only[intOf];omega
  ·have k1:¬(x:Int)<rc.length:=Ω
   clear hx;have hcap:=W23.le;go_wp2_with (first|refine aV ?_|(refine gN 59 ?_;refine lKk (oD (F:=fun x y=>(g23,Z23,5)::F x y (otR bf fr fs n m) (bkR bf bo kp kn kc φ)) (bf:=bf) (bb:=bb) (l:=rc) a (fun x y=>Ϙ) rfl hcap hrc0 Ω HP.out hy I) ?_;rintro e J⟨rfl,p2,y2,hp2,hy2,Y⟩;refine Ϥ Y fun I=>?_)|(refine gN 66 ?_;refine lO (F8 (F:=fun x y z=>(g23,Z23,5)::F x y z (bkR bf bo kp kn kc φ)) (bf:=bf) (bb:=bb) hn0 hnm hm I) fun J I=>?_)|((go_at_call 94;go_loud (refine(HR.out _ _ _ _ _ he1 hp2 (fun i hi=>by rw[Gd Ω i hi];exact hf1 i hi) hy2 I.pop).mono ?_);rintro e J⟨q,d,S,rfl,Y,hEnd⟩;clear I;have I:=Y;clear Y;refine p4 ?_))|refine aP fun J I=>?_)
   all_goals(go_ret;exact hEnd _ I)
theorem Da{φ:Int}{k:Nat}(hk:k<2)(hkh:1-φ=k){kp:ϊ}{kn kc:Nat}(hn0:0≤n)(hnm:n<m)(hm:m≤1048576)(he:0≤er∧er≤1099511627776)(hp:0≤pr∧pr≤1099511627776)(hy:Fl f y)(I:Loc D w (F (flR bb er pr) y (otR bf fr fs n m) (bkR bf bo kp kn kc φ))) :
 ϓ 148 #[.pointer (ϐ bk),.slice none 0 0] w fun e Z=>e= .returned (.int .i64 0)∧∃er' pr' f' y',(0≤er'∧er'≤1099511627776)∧(0≤pr'∧pr'≤1099511627776)∧(∀i,16384≤i→f' i=f i)∧Fl f' y' ∧
  Loc D Z (F (flR bb er' pr') y' (otR bf fr fs (n+1) m) (bkR bf bo none 0 0 k)) :=
 rn (l:=[]) hk hkh Ϡ (fun x y z u=>qp D _) hn0 hnm hm he hp hy _ (fun J er' pr' f' y' h1 h2 h3 h4 h5=>(iW J).mono fun e w2 ⟨e1,e2⟩=>⟨none,0,[],e1,by subst e2;exact h5,fun w3 h6=>⟨rfl,er',pr',f',y',h1,h2,h3,h4,h6⟩⟩) I
theorem Ag{φ:Int}{k:Nat}(hk:k<2)(hkh:1-φ=k){kp:ϊ}{kn kc:Nat}{p:ϊ}{c:Nat}{l:Δ}(hl0:0<l.length)(hl:l.length≤4096)(hS:∀x y z u,See D (F x y z u) (.slice p l.length c) (ak l))(hn0:0≤n)(hnm:n<m)(hm:m≤1048576)(he:0≤er∧er≤1099511627776)(hp:0≤pr∧pr≤1099511627776)(hy:Fl f y)(I:Loc D w (F (flR bb er pr) y (otR bf fr fs n m) (bkR bf bo kp kn kc φ))) :
 ϓ 148 #[.pointer (ϐ bk),.slice p l.length c] w fun e Z=>e= .returned (.int .i64 0)∧∃g W E er' pr' f' y',OwnR E l.length W (ak l)∧(0≤er'∧er'≤1099511627776)∧(0≤pr'∧pr'≤1099511627776)∧(∀i,16384≤i→f' i=f i)∧Fl f' y' ∧
  Loc D Z ((g,E,5)::F (flR bb er' pr') y' (otR bf fr fs (n+1) m) (bkR bf bo (ϐ g) l.length W k)) :=
 rn hk hkh hl hS hn0 hnm hm he hp hy _ (fun J er' pr' f' y' h1 h2 h3 h4 h5=>(eD _ l J (See.bytes (h:=hS _ _ _ _) h5) hl0 Ω).mono fun e w2 ⟨g,W,E,e1,hr,hg,hc,hb⟩=>⟨some ⟨g,0,none⟩,W,[(g,E,5)],e1,h5.fresh hb hg hc,fun w3 h6=>⟨rfl,g,W,E,er',pr',f',y',hr,h1,h2,h3,h4,h6⟩⟩) I
instance SR:Ent 148:=eo func148
end
section
variable {D w:ϑ} {F:Ψ→Ψ→Ψ→Ψ→Mem} {bf bb bo bk:Nat} [hF:BkM F bf bb bo bk] {er pr:Int} {y:Ψ} {fr fs:Φ} {n m:Int} {f:Φ}
theorem ro{φ num:Int}{kp:ϊ}{kn kc:Nat}(hy:Fl (fun _=>255) y)(I:Loc D w (F (flR bb er pr) y (otR bf fr fs n m) (bkR bf bo kp kn kc φ))) :
 ϓ 146 #[.pointer (ϐ bk),.int .i64 num] w fun e Z=>e= .returned (.bool false)∧Loc D Z (F (flR bb er pr) y (otR bf fr fs n m) (bkR bf bo kp kn kc φ)):=by
 have hA:=hF.a;have hU:=hF.u;have hB:=hF.b;have hV:=hF.v;have hO:=hF.o;have hPP:=hF.p;have hQ:=hF.q;have hRR:=hF.r;go_enter func146,ntmps146;go_wp2_with (first|refine aV ?_|refine aP fun J I=>?_);go_loopw [9] (fun kk wr=>∃(k:Nat),k≤2∧kk= .int .i64 k∧Loc D wr (F (flR bb er pr) y (otR bf fr fs n m) (bkR bf bo kp kn kc φ))) (fun kk _=>2-(intOf kk).toNat);case atStart=>exact⟨0,Ω,rfl,I⟩
 case round =>
  clear I;obtain⟨k,hk,rfl,I⟩:=hrel;by_cases hlt:k<2
  ·have k1:(k:Int)<2:=Ω
   have k0:(0:Int)≤k:=Ω;go_wp2_with (first|refine aV ?_|refine aP fun J I=>?_);refine Ϭ 18 I fun H I=>?_;refine uG 0 ?_;refine uG 4 ?_;refine uG 9 ?_;refine uG 1 ?_;refine uG 5 ?_;refine uG 2 ?_;refine uG 6 ?_;refine uZ 3 ?_;refine uZ 7 ?_;refine rd1 8 fun K T=>?_;refine eK (iz (F:=fun x y z=>F x y z (bkR bf bo kp kn kc φ)) (bf:=bf) (bb:=bb) I) ?_;rintro e J⟨rfl,Y⟩;refine⟨_,rfl,?_⟩;refine Ϫ Y fun I=>?_;refine kO T (I) fun H=>?_;refine rd1 10 fun K T=>?_;refine eK (Gb (F:=fun x y=>F x y (otR bf fr fs n m) (bkR bf bo kp kn kc φ)) (bf:=bf) (bb:=bb) fs k hlt hy I) ?_;rintro e J⟨rfl,Y⟩;refine⟨_,rfl,?_⟩;refine Ϫ Y fun I=>?_;refine kO T (I) fun H=>?_;refine uG 11 ?_;refine uG 12 ?_;refine uG 13 ?_;refine uG 14 ?_;refine uG 15 ?_;refine uG 16 ?_;refine uG 17 ?_;refine wD ?_;clear H;go_wp2_with (first|refine aV ?_|refine aP fun J I=>?_);go_roundw;case rel=>exact⟨k+1,Ω,by go_num,I⟩
   case measure=>simp only[intOf];omega
  ·obtain rfl:k=2:=Ω
   go_wp2_with (first|refine aV ?_|refine aP fun J I=>?_)
   all_goals(go_ret;exact⟨rfl,I⟩)
end
instance ST:Ent 146:=eo func146
section
variable {D w:ϑ} {F:Ψ→Ψ→Ψ→Ψ→Mem} {bf bb bo bk:Nat} [hF:BkM F bf bb bo bk] {er pr:Int} {y:Ψ} {fr fs:Φ} {n m:Int} {f:Φ}
theorem vy(hm0:0<m)(hm:m≤1048576)(he:0≤er∧er≤1099511627776)(hp:0≤pr∧pr≤1099511627776)(hy:Fl (fun _=>255) y)(I:Loc D w (F (flR bb er pr) y (otR bf fr fs 0 m) (bkR bf bo none 0 0 0))) :
 ϓ 91 #[.pointer (ϐ bk)] w fun e Z=>e= .returned (.int .i64 0)∧∃er' pr' f' y',(0≤er'∧er'≤1099511627776)∧(0≤pr'∧pr'≤1099511627776)∧(∀i,16384≤i→f' i=255)∧Fl f' y' ∧
  Loc D Z (F (flR bb er' pr') y' (otR bf fr fs 1 m) (bkR bf bo none 0 0 0)):=by
 have hA:=hF.a;have hU:=hF.u;have hB:=hF.b;have hV:=hF.v;have hO:=hF.o;have hPP:=hF.p;have hQ:=hF.q;have hRR:=hF.r;have q0:¬(0:Int)=m:=Ω;have q1:((0:Int)==m)=false:=by simp only[Zl];exact q0
 have HW:=Hd (fun J (h:Loc D J (F (flR bb er pr) y (otR bf fr fs 0 m) (bkR bf bo none 0 0 1)))=>Da (F:=F) (bf:=bf) (bb:=bb) (bo:=bo) (bk:=bk) (φ:=1) (k:=0) Ω rfl (n:=0) Ω hm0 hm he hp hy h);go_enter func91,ntmps91;go_wp2_with (first|refine aV ?_|(refine gN 9 ?_;refine lO (eW (F:=fun x y z=>F x y z (bkR bf bo none 0 0 0)) (bf:=bf) (bb:=bb) I) fun J I=>?_)|(refine gN 15 ?_;refine lO (ks (F:=fun x y z=>F x y z (bkR bf bo none 0 0 0)) (bf:=bf) (bb:=bb) I) fun J I=>?_)|(refine gN 24 ?_;refine lO (ro (F:=F) (bf:=bf) (bb:=bb) (bo:=bo) (bk:=bk) hy I) fun J I=>?_)|(refine gN 34 ?_;refine lO (ro (F:=F) (bf:=bf) (bb:=bb) (bo:=bo) (bk:=bk) hy I) fun J I=>?_)|(refine gN 47 ?_;refine lKk (HW.out _ I) ?_;rintro e J⟨rfl,er2,pr2,f2,y2,he2,hp2,hf2,hy2,Y⟩;refine Ϥ Y fun I=>?_)|refine aP fun J I=>?_)
 all_goals(go_ret;exact⟨rfl,er2,pr2,f2,y2,he2,hp2,hf2,hy2,I⟩)
end
instance SU:Ent 91:=eo func91
theorem Ah(bf bo:Nat)(w:ϑ):(Instr.build 166 #[(0,.pointer (ϐ bf)),(1,.pointer (ϐ bo))]).run prog w= .ok (.agg (bkR bf bo none 0 0 0)) w:=Θ
section
variable {D w:ϑ} {F:Ψ→Ψ→Ψ→Mem} {bf bb bo:Nat} [hF:OtM F bf bb bo] {er pr:Int} {y:Ψ} {fr fs:Φ} {m:Int}
theorem vz(hm0:0<m)(hm:m≤1048576)(he:0≤er∧er≤1099511627776)(hp:0≤pr∧pr≤1099511627776)(hy:Fl (fun _=>255) y)(I:Loc D w (F (flR bb er pr) y (otR bf fr fs 0 m))) :
 ϓ 43 #[.pointer (ϐ bf),.pointer (ϐ bo)] w fun e Z=>∃bk er' pr' f' y',e= .returned (.tuple #[.pointer (ϐ bk),.int .i64 0])∧(0≤er'∧er'≤1099511627776)∧(0≤pr'∧pr'≤1099511627776)∧(∀i,16384≤i→f' i=255)∧Fl f' y' ∧
  Loc D Z ((bk,bkR bf bo none 0 0 0,166)::F (flR bb er' pr') y' (otR bf fr fs 1 m)):=by
 have hA:=hF.a;have hU:=hF.u;have hB:=hF.b;have hV:=hF.v;have hO:=hF.o;have hPP:=hF.p;go_enter func43,ntmps43;go_wp2_with (first|refine aV ?_|refine gBp 26 fun b26 J I=>?_|(refine gN 17 ?_;refine lO (iZ (F:=fun x y=>F x y (otR bf fr fs 0 m)) (bf:=bf) (bb:=bb) I) fun J I=>?_)|(refine gN 22 ?_;refine lO (nc (F:=fun x y=>F x y (otR bf fr fs 0 m)) (bf:=bf) (bb:=bb) I) fun J I=>?_)|(refine gN 25 ?_;refine ϙ (Ah _ _) fun J I=>?_)|(refine gN 28 ?_;refine lKk (vy (F:=fun x y z u=>(b26,u,166)::F x y z) (bf:=bf) (bb:=bb) (bo:=bo) (bk:=b26) hm0 hm he hp hy I) ?_;rintro e J⟨rfl,er2,pr2,f2,y2,he2,hp2,hf2,hy2,Y⟩;refine Ϥ Y fun I=>?_)|refine aP fun J I=>?_)
 all_goals(go_ret2;exact⟨b26,er2,pr2,f2,y2,rfl,he2,hp2,hf2,hy2,I⟩)
end
instance SV:Ent 43:=eo func43
section
variable {D w:ϑ} {M:Mem} {bf bo bk:Nat}
theorem Ge(hA:At M bk (bkR bf bo none 0 0 0) 166)(I:Loc D w M) :
 ϓ 45 #[.pointer (ϐ bk)] w fun e Z=>e= .returned (.slice none 0 0)∧Loc D Z M:=by
 go_enter func45,ntmps45;go_wp2_with (first|refine aV ?_|((go_at_call 94;go_loud (refine(iW _).mono ?_);rintro e J⟨rfl,rfl⟩;refine p4 ?_))|refine aP fun J I=>?_)
 all_goals(go_ret;exact⟨rfl,I⟩)
end
instance SW:Ent 45:=eo func45
section
variable {D w:ϑ} {F:Ψ→Ψ→Ψ→Ψ→Mem} {bf bb bo bk:Nat} [hF:BkM F bf bb bo bk] {er pr:Int} {y:Ψ} {fr fs:Φ} {n m:Int} {f:Φ}
theorem Gf{φ:Int}{k:Nat}(hk:k<2)(hkh:1-φ=k){kp:ϊ}{kn kc:Nat}{p:ϊ}{c:Nat}{l:Δ}(hl0:0<l.length)(hl:l.length≤4096)(hS:∀x y z u,See D (F x y z u) (.slice p l.length c) (ak l))(hn0:0≤n)(hnm:n<m)(hm:m≤1048576)(he:0≤er∧er≤1099511627776)(hp:0≤pr∧pr≤1099511627776)(hy:Fl f y)(I:Loc D w (F (flR bb er pr) y (otR bf fr fs n m) (bkR bf bo kp kn kc φ))) :
 ϓ 343 #[.pointer (ϐ bk),.slice p l.length c] w fun e Z=>e= .returned (.int .i64 0)∧∃g W E er' pr' f' y',OwnR E l.length W (ak l)∧(0≤er'∧er'≤1099511627776)∧(0≤pr'∧pr'≤1099511627776)∧(∀i,16384≤i→f' i=f i)∧Fl f' y' ∧
  Loc D Z ((g,E,5)::F (flR bb er' pr') y' (otR bf fr fs (n+1) m) (bkR bf bo (ϐ g) l.length W k)):=by
 have hA:=hF.a;have hU:=hF.u;have hB:=hF.b;have hV:=hF.v;have hO:=hF.o;have hPP:=hF.p;have hQ:=hF.q;have hRR:=hF.r;have HW:=Hd (fun J (h:Loc D J (F (flR bb er pr) y (otR bf fr fs n m) (bkR bf bo kp kn kc φ)))=>Ag (F:=F) (bf:=bf) (bb:=bb) (bo:=bo) (bk:=bk) hk hkh hl0 hl hS hn0 hnm hm he hp hy h);have q0:¬n=m:=Ω;have q1:¬(4096:Int)<l.length:=Ω;go_enter func343,ntmps343;go_wp2_with (first|refine aV ?_|(refine gN 20 ?_;refine lO (nc (F:=fun x y=>F x y (otR bf fr fs n m) (bkR bf bo kp kn kc φ)) (bf:=bf) (bb:=bb) I) fun J I=>?_)|refine aP fun J I=>?_);refine Ϭ 12 I fun H I=>?_;refine uG 0 ?_;refine uG 5 ?_;refine uG 1 ?_;refine uG 6 ?_;refine uG 2 ?_;refine uG 7 ?_;refine uZ 3 ?_;refine uZ 8 ?_;refine rd1 4 fun K T=>?_;refine eK (eW (F:=fun x y z=>F x y z (bkR bf bo kp kn kc φ)) (bf:=bf) (bb:=bb) I) ?_;rintro e J⟨rfl,Y⟩;refine⟨_,rfl,?_⟩;refine Ϫ Y fun I=>?_;refine kO T (I) fun H=>?_;refine rd1 9 fun K T=>?_;refine eK (ks (F:=fun x y z=>F x y z (bkR bf bo kp kn kc φ)) (bf:=bf) (bb:=bb) I) ?_;rintro e J⟨rfl,Y⟩;refine⟨_,rfl,?_⟩;refine Ϫ Y fun I=>?_;refine kO T (I) fun H=>?_;refine uG 10 ?_;refine uG 11 ?_;refine wD ?_;clear H;go_wp2_with (first|refine aV ?_|(refine gN 36 ?_;refine lKk (HW.out _ I) ?_;rintro e J⟨rfl,g,W,E,er2,pr2,f2,y2,hr,he2,hp2,hf2,hy2,Y⟩;refine Ϥ Y fun I=>?_)|refine aP fun J I=>?_)
 all_goals(go_ret;exact⟨rfl,g,W,E,er2,pr2,f2,y2,hr,he2,hp2,hf2,hy2,I⟩)
end
instance SX:Ent 343:=eo func343
structure Sta where
 fl:Int
 rv:List Int
 m0:Δ
 d0:Bool
 t0:Int
 m1:Δ
 d1:Bool
 t1:Int
 ac:Int
structure Sq where
 pr:Option Addr
 cr:Nat
 p0:Option Addr
 c0:Nat
 p1:Option Addr
 c1:Nat
abbrev slR(p:ϊ)(n c:Nat)(d:Bool)(t:Int):Ψ:= #[.slice p n c,.bool d,.int .i64 t]
abbrev stR(s:Sta)(q:Sq):Ψ:= #[.int .i64 s.fl,.slice q.pr s.rv.length q.cr,.slice q.p0 s.m0.length q.c0,.bool s.d0,.int .i64 s.t0,.slice q.p1 s.m1.length q.c1,.bool s.d1,.int .i64 s.t1,.int .i64 s.ac]
def Sta.new:Sta:=⟨0,[],[],false,0,[],false,0,-1⟩
def Sq.none:Sq:=⟨.none,0,.none,0,.none,0⟩
def eX(n:Int):Prop:=0≤n∧n≤2147483647
def Gg(m:Δ)(d:Bool)(t:Int):Prop:=(m.length=0∧d=false∧t=0)∨(m.length=300∧0≤t∧t≤3)
structure Good(s:Sta):Prop where
 fl:eX s.fl
 n:s.rv.length≤32
 ids:∀(i:Nat) (h:i<s.rv.length),eX s.rv[i]
 up:∀(i:Nat) (h:i+1<s.rv.length),s.rv[i]<s.rv[i+1]
 ac:s.ac= -1∨(s.ac=0∧s.m0.length=300∧s.d0=true)∨(s.ac=1∧s.m1.length=300∧s.d1=true)
 s0:Gg s.m0 s.d0 s.t0
 s1:Gg s.m1 s.d1 s.t1
structure ReadS(w:ϑ)(s:Sta)(q:Sq):Prop where
 r:VRow w (.slice q.pr s.rv.length q.cr) (cj s.rv)
 a:BRow w (.slice q.p0 s.m0.length q.c0) s.m0
 b:BRow w (.slice q.p1 s.m1.length q.c1) s.m1
 zr:s.rv=[]→q.pr=none
 za:s.m0=[]→q.p0=none
 zb:s.m1=[]→q.p1=none
theorem xJ:Good Sta.new:=⟨by unfold eX Sta.new;decide,Ξ,fun i h=>absurd h (by simp[Sta.new]),fun i h=>absurd h (by simp[Sta.new]),.inl rfl,.inl ⟨rfl,rfl,rfl⟩,.inl ⟨rfl,rfl,rfl⟩⟩
instance SY:RowTy 58 9:=⟨⟨_,underlying58,rfl⟩,Θ⟩
instance SZ:RowTy 55 3:=⟨⟨_,underlying55,rfl⟩,Θ⟩
instance S4:RowZ 58 (stR ⟨0,[],[],false,0,[],false,0,0⟩ Sq.none):=⟨Θ⟩
instance S5(a b x y z c d e f:ό):Part #[a,b,x,y,z,c,d,e,f] 58 2 55 #[x,y,z]:=bQ (pre:= #[a,b]) (post:= #[c,d,e,f]) rfl rfl
instance S6(a b x y z c d e f:ό):Part #[a,b,x,y,z,c,d,e,f] 58 5 55 #[c,d,e]:=bQ (pre:= #[a,b,x,y,z]) (post:= #[f]) rfl rfl
theorem tN(w:ϑ):(Instr.build 58 #[(3,.int .i64 (-1))]).run prog w= .ok (.agg (stR Sta.new Sq.none)) w:=Θ
theorem vA(w:ϑ):Rt 92 #[] w (.agg (stR Sta.new Sq.none)):=by
 have I:=Loc.nil w;go_enter func92,ntmps92;go_wp2_with (first|refine aV ?_|refine gBp 0 fun b0 J I=>?_|(refine gN 1 ?_;refine ϙ (tN _) fun J I=>?_)|refine aP fun J I=>?_);exact Λ
instance S7:Ent 92:=eo func92
theorem mq(n:Int)(h:eX n)(w:ϑ):ϓ 228 #[.int .i64 n] w fun e Z=>e= .returned (.bool true)∧w=Z:=by
 obtain⟨h0,h1⟩:=h;go_enter func228,ntmps228;go_wp2_with (first|refine aV ?_|refine aP fun J I=>?_)
 all_goals(go_ret;exact⟨rfl,rfl⟩)
theorem xL(p:ϊ)(n c:Nat)(d:Bool)(t:Int)(h:(n=0∧d=false∧t=0)∨(n=300∧0≤t∧t≤3))(w:ϑ):Rt 244 #[.agg (slR p n c d t)] w (.bool true):=by
 have I:=Loc.nil w;rcases h with⟨rfl,rfl,rfl⟩|⟨rfl,h0,h1⟩
 ·go_enter func244,ntmps244
  go_wp2_with (first|refine aV ?_|refine gBp 1 fun b1 J I=>?_|refine aP fun J I=>?_)
  all_goals(go_ret;exact⟨rfl,I.bel⟩)
 ·go_enter func244,ntmps244
  go_wp2_with (first|refine aV ?_|refine gBp 1 fun b1 J I=>?_|refine aP fun J I=>?_)
  all_goals(go_ret;exact⟨rfl,I.bel⟩)
instance S8:Ent 244:=eo func244
theorem kP{w:ϑ}{v:ό}{l:List Int}(h:VRow w v (cj l)):∃a c,v= .slice a l.length c∧∀k,k<l.length→∃bl ol,a=some ⟨bl,ol,none⟩∧∀i (hi:i<l.length),Was w bl (ol+i) (.int .i64 l[i]):=by
 obtain⟨_,a,c,e,_,hc⟩:=h;refine⟨a,c,by rw[e,cA],fun k hk=>?_⟩;obtain⟨bl,ol,ea,hb,hcell⟩:=hc (by rw[cA];omega);exact⟨bl,ol,ea,fun i hi=>⟨by rw[hcell i (by rwa[cA])];simp[cj],hb⟩⟩
theorem ng(s:Sta)(q:Sq)(w:ϑ)(hr:ReadS w s q)(hg:Good s):ϓ 201 #[.agg (stR s q)] w fun e Z=>e= .returned (.bool true)∧Υ w Z:=by
 obtain⟨fl,rv,m0,d0,t0,m1,d1,t1,ac⟩:=s;obtain⟨pr,cr,p0,c0,p1,c1⟩:=q;obtain⟨g1,g2,g3,g4,g5,g6,g7⟩:=hg;obtain⟨r1,-, -, -, -, -⟩:=hr;dsimp only at *
 have I:=Loc.nil w;obtain⟨al,cl,e,hW⟩:=kP r1;injection e with e1 e2 e3;subst e1;have HW:=Lib.hid hW;clear hW e2 e3;have HIDS:=Lib.hid g3;have HUP:=Lib.hid g4;have q1:¬(32:Int)<rv.length:=Ω;have q2:¬ac< -1:=Ω;have q3:¬2≤ac:=Ω;have HN:=Lib.hid (fun J=>mq fl g1 J);have H6:=Lib.hid (fun J=>xL p0 m0.length c0 d0 t0 g6 J);have H7:=Lib.hid (fun J=>xL p1 m1.length c1 d1 t1 g7 J);have H5:=Lib.hid g5;clear g1 g3 g4 g6 g7 g5;go_enter func201,ntmps201;go_wp2_with (first|((with_reducible show wpList _ _ _ (⟨_,.load _ _,_,_,_,some _⟩::_) _ _);refine bU rfl rfl rfl ?_)|((with_reducible show wpList _ _ _ (⟨_,.call _,_,_,_,some _⟩::_) _ _);refine bU rfl rfl rfl ?_)|((with_reducible show wpList _ _ _ (⟨some 1,_,_,_,_,_⟩::_) _ _);(first|refine lB I rfl rfl rfl ?_|refine lA I rfl rfl ?_);intro b1;clear I;intro J I;try simp only[Act.put,List.setIfInBounds_toArray,List.set_cons_zero,List.set_cons_succ])|((go_at_call 228;go_loud (refine(HN.out _).mono ?_);rintro e J⟨rfl,rfl⟩;try simp only[Act.put,List.setIfInBounds_toArray,List.set_cons_zero,List.set_cons_succ]))|((with_reducible show wpList _ _ _ (⟨_,.load _ _,_,_,_,_⟩::_) _ _);(first|refine lL I rfl rfl rfl ?_|refine lI I rfl rfl rfl ?_|refine lW I rfl rfl rfl ?_);clear I;intro J I;try simp only[Act.put,List.setIfInBounds_toArray,List.set_cons_zero,List.set_cons_succ])|((with_reducible show wpList _ _ _ (⟨_,.store _ _ _,_,_,_,_⟩::_) _ _);(first|refine lT I rfl rfl rfl rfl rfl ?_|refine lTs I rfl rfl rfl rfl rfl ?_|refine lTb I rfl rfl rfl rfl rfl ?_|refine lTp I rfl rfl rfl rfl rfl ?_|refine lS I rfl rfl rfl rfl rfl ?_|refine lSp I rfl rfl rfl rfl rfl ?_);clear I;intro J I;try simp only[Act.put,List.setIfInBounds_toArray,List.set_cons_zero,List.set_cons_succ]));go_loopw [28] (fun kk wr=>∃(k:Nat),k≤rv.length∧kk= .int .i64 k∧Loc w wr [(b1,stR ⟨fl,rv,m0,d0,t0,m1,d1,t1,ac⟩ ⟨pr,cr,p0,c0,p1,c1⟩,58)]) (fun kk _=>rv.length-(intOf kk).toNat);case atStart=>exact⟨0,Ω,rfl,I⟩
 case round =>
  clear I;obtain⟨k,hk,rfl,I⟩:=hrel;by_cases hlt:k<rv.length
  ·obtain⟨bl,ol,rfl,hW⟩:=HW.out k hlt
   have k0:(0:Int)≤k:=Ω;have k1:(k:Int)<rv.length:=Ω;have gk:=hW k hlt;have HNk:=Lib.hid (fun J=>mq rv[k] (HIDS.out k hlt) J);rcases X4 k with rfl|hp
   ·clear HIDS HUP hW HW r1
    generalize rv[0]=x at *
    rw[show((0:Nat):Int)=0 from rfl]at *
    go_wp2_with (first|((with_reducible show wpList _ _ _ (⟨_,.load _ _,_,_,_,some _⟩::_) _ _);refine bU rfl rfl rfl ?_)|((with_reducible show wpList _ _ _ (⟨_,.call _,_,_,_,some _⟩::_) _ _);refine bU rfl rfl rfl ?_)|((go_at_call 228;go_loud (refine(HNk.out _).mono ?_);rintro e J⟨rfl,rfl⟩;try simp only[Act.put,List.setIfInBounds_toArray,List.set_cons_zero,List.set_cons_succ]))|((with_reducible show wpList _ _ _ (⟨_,.load _ _,_,_,_,_⟩::_) _ _);(first|refine lL I rfl rfl rfl ?_|refine lI I rfl rfl rfl ?_|refine lW I rfl rfl rfl ?_);clear I;intro J I;try simp only[Act.put,List.setIfInBounds_toArray,List.set_cons_zero,List.set_cons_succ])|((with_reducible show wpList _ _ _ (⟨_,.store _ _ _,_,_,_,_⟩::_) _ _);(first|refine lT I rfl rfl rfl rfl rfl ?_|refine lTs I rfl rfl rfl rfl rfl ?_|refine lTb I rfl rfl rfl rfl rfl ?_|refine lTp I rfl rfl rfl rfl rfl ?_|refine lS I rfl rfl rfl rfl rfl ?_|refine lSp I rfl rfl rfl rfl rfl ?_);clear I;intro J I;try simp only[Act.put,List.setIfInBounds_toArray,List.set_cons_zero,List.set_cons_succ]));go_roundw;case rel=>exact⟨1,Ω,by go_num,I⟩
    case measure=>simp only[intOf];omega
   ·obtain⟨j,hj⟩:∃j,k=j+1:=⟨k-1,Ω⟩
    have hjl:j<rv.length:=Ω;have gj:=hW j hjl;have hup:¬rv[k]≤rv[j]:=by have:=HUP.out j Ω;subst hj;omega
    have k2:((k:Int)-1).toNat=j:=Ω;have k3:(0:Int)≤k-1:=Ω;have k4:(k:Int)-1<rv.length:=Ω;have k5:(0:Int)<k:=Ω;clear HIDS HUP hW HW r1 hj;generalize rv[k]=x at *
    generalize rv[j]=y at *
    go_wp2_with (first|((with_reducible show wpList _ _ _ (⟨_,.load _ _,_,_,_,some _⟩::_) _ _);refine bU rfl rfl rfl ?_)|((with_reducible show wpList _ _ _ (⟨_,.call _,_,_,_,some _⟩::_) _ _);refine bU rfl rfl rfl ?_)|((go_at_call 228;go_loud (refine(HNk.out _).mono ?_);rintro e J⟨rfl,rfl⟩;try simp only[Act.put,List.setIfInBounds_toArray,List.set_cons_zero,List.set_cons_succ]))|((with_reducible show wpList _ _ _ (⟨_,.load _ _,_,_,_,_⟩::_) _ _);(first|refine lL I rfl rfl rfl ?_|refine lI I rfl rfl rfl ?_|refine lW I rfl rfl rfl ?_);clear I;intro J I;try simp only[Act.put,List.setIfInBounds_toArray,List.set_cons_zero,List.set_cons_succ])|((with_reducible show wpList _ _ _ (⟨_,.store _ _ _,_,_,_,_⟩::_) _ _);(first|refine lT I rfl rfl rfl rfl rfl ?_|refine lTs I rfl rfl rfl rfl rfl ?_|refine lTb I rfl rfl rfl rfl rfl ?_|refine lTp I rfl rfl rfl rfl rfl ?_|refine lS I rfl rfl rfl rfl rfl ?_|refine lSp I rfl rfl rfl rfl rfl ?_);clear I;intro J I;try simp only[Act.put,List.setIfInBounds_toArray,List.set_cons_zero,List.set_cons_succ]));go_roundw;case rel=>exact⟨k+1,Ω,by go_num,I⟩
    case measure=>simp only[intOf];omega
  ·obtain rfl:k=rv.length:=Ω
   clear HIDS HUP HW r1;rcases H5.out with rfl|⟨rfl,h1,rfl⟩|⟨rfl,h1,rfl⟩
   ·skip
    go_wp2_with (first|((with_reducible show wpList _ _ _ (⟨_,.load _ _,_,_,_,some _⟩::_) _ _);refine bU rfl rfl rfl ?_)|((with_reducible show wpList _ _ _ (⟨_,.call _,_,_,_,some _⟩::_) _ _);refine bU rfl rfl rfl ?_)|((with_reducible show wpList _ _ _ (⟨some 76,_,_,_,_,_⟩::_) _ _);go_loud (refine mZ rfl rfl ((H6.out _).mono ?_) rfl);rintro e J⟨rfl,V⟩;have Y:=I.keep V;(try dsimp only at Y);(try simp only[Nat.reduceAdd,Nat.reduceSub]at Y);refine⟨_,rfl,?_⟩;clear I;have I:=Y;clear Y;try simp only[Act.put,List.setIfInBounds_toArray,List.set_cons_zero,List.set_cons_succ])|((with_reducible show wpList _ _ _ (⟨some 81,_,_,_,_,_⟩::_) _ _);go_loud (refine mZ rfl rfl ((H7.out _).mono ?_) rfl);rintro e J⟨rfl,V⟩;have Y:=I.keep V;(try dsimp only at Y);(try simp only[Nat.reduceAdd,Nat.reduceSub]at Y);refine⟨_,rfl,?_⟩;clear I;have I:=Y;clear Y;try simp only[Act.put,List.setIfInBounds_toArray,List.set_cons_zero,List.set_cons_succ])|((with_reducible show wpList _ _ _ (⟨_,.load _ _,_,_,_,_⟩::_) _ _);(first|refine lL I rfl rfl rfl ?_|refine lI I rfl rfl rfl ?_|refine lW I rfl rfl rfl ?_);clear I;intro J I;try simp only[Act.put,List.setIfInBounds_toArray,List.set_cons_zero,List.set_cons_succ])|((with_reducible show wpList _ _ _ (⟨_,.store _ _ _,_,_,_,_⟩::_) _ _);(first|refine lT I rfl rfl rfl rfl rfl ?_|refine lTs I rfl rfl rfl rfl rfl ?_|refine lTb I rfl rfl rfl rfl rfl ?_|refine lTp I rfl rfl rfl rfl rfl ?_|refine lS I rfl rfl rfl rfl rfl ?_|refine lSp I rfl rfl rfl rfl rfl ?_);clear I;intro J I;try simp only[Act.put,List.setIfInBounds_toArray,List.set_cons_zero,List.set_cons_succ]))
    all_goals(go_ret;exact⟨rfl,I.bel⟩)
   ·have q9:¬(m0.length:Int)=0:=Ω
    go_wp2_with (first|((with_reducible show wpList _ _ _ (⟨_,.load _ _,_,_,_,some _⟩::_) _ _);refine bU rfl rfl rfl ?_)|((with_reducible show wpList _ _ _ (⟨_,.call _,_,_,_,some _⟩::_) _ _);refine bU rfl rfl rfl ?_)|((with_reducible show wpList _ _ _ (⟨some 76,_,_,_,_,_⟩::_) _ _);go_loud (refine mZ rfl rfl ((H6.out _).mono ?_) rfl);rintro e J⟨rfl,V⟩;have Y:=I.keep V;(try dsimp only at Y);(try simp only[Nat.reduceAdd,Nat.reduceSub]at Y);refine⟨_,rfl,?_⟩;clear I;have I:=Y;clear Y;try simp only[Act.put,List.setIfInBounds_toArray,List.set_cons_zero,List.set_cons_succ])|((with_reducible show wpList _ _ _ (⟨some 81,_,_,_,_,_⟩::_) _ _);go_loud (refine mZ rfl rfl ((H7.out _).mono ?_) rfl);rintro e J⟨rfl,V⟩;have Y:=I.keep V;(try dsimp only at Y);(try simp only[Nat.reduceAdd,Nat.reduceSub]at Y);refine⟨_,rfl,?_⟩;clear I;have I:=Y;clear Y;try simp only[Act.put,List.setIfInBounds_toArray,List.set_cons_zero,List.set_cons_succ])|((with_reducible show wpList _ _ _ (⟨_,.load _ _,_,_,_,_⟩::_) _ _);(first|refine lL I rfl rfl rfl ?_|refine lI I rfl rfl rfl ?_|refine lW I rfl rfl rfl ?_);clear I;intro J I;try simp only[Act.put,List.setIfInBounds_toArray,List.set_cons_zero,List.set_cons_succ])|((with_reducible show wpList _ _ _ (⟨_,.store _ _ _,_,_,_,_⟩::_) _ _);(first|refine lT I rfl rfl rfl rfl rfl ?_|refine lTs I rfl rfl rfl rfl rfl ?_|refine lTb I rfl rfl rfl rfl rfl ?_|refine lTp I rfl rfl rfl rfl rfl ?_|refine lS I rfl rfl rfl rfl rfl ?_|refine lSp I rfl rfl rfl rfl rfl ?_);clear I;intro J I;try simp only[Act.put,List.setIfInBounds_toArray,List.set_cons_zero,List.set_cons_succ]))
    all_goals(go_ret;exact⟨rfl,I.bel⟩)
   ·have q9:¬(m1.length:Int)=0:=Ω
    go_wp2_with (first|((with_reducible show wpList _ _ _ (⟨_,.load _ _,_,_,_,some _⟩::_) _ _);refine bU rfl rfl rfl ?_)|((with_reducible show wpList _ _ _ (⟨_,.call _,_,_,_,some _⟩::_) _ _);refine bU rfl rfl rfl ?_)|((with_reducible show wpList _ _ _ (⟨some 76,_,_,_,_,_⟩::_) _ _);go_loud (refine mZ rfl rfl ((H6.out _).mono ?_) rfl);rintro e J⟨rfl,V⟩;have Y:=I.keep V;(try dsimp only at Y);(try simp only[Nat.reduceAdd,Nat.reduceSub]at Y);refine⟨_,rfl,?_⟩;clear I;have I:=Y;clear Y;try simp only[Act.put,List.setIfInBounds_toArray,List.set_cons_zero,List.set_cons_succ])|((with_reducible show wpList _ _ _ (⟨some 81,_,_,_,_,_⟩::_) _ _);go_loud (refine mZ rfl rfl ((H7.out _).mono ?_) rfl);rintro e J⟨rfl,V⟩;have Y:=I.keep V;(try dsimp only at Y);(try simp only[Nat.reduceAdd,Nat.reduceSub]at Y);refine⟨_,rfl,?_⟩;clear I;have I:=Y;clear Y;try simp only[Act.put,List.setIfInBounds_toArray,List.set_cons_zero,List.set_cons_succ])|((with_reducible show wpList _ _ _ (⟨_,.load _ _,_,_,_,_⟩::_) _ _);(first|refine lL I rfl rfl rfl ?_|refine lI I rfl rfl rfl ?_|refine lW I rfl rfl rfl ?_);clear I;intro J I;try simp only[Act.put,List.setIfInBounds_toArray,List.set_cons_zero,List.set_cons_succ])|((with_reducible show wpList _ _ _ (⟨_,.store _ _ _,_,_,_,_⟩::_) _ _);(first|refine lT I rfl rfl rfl rfl rfl ?_|refine lTs I rfl rfl rfl rfl rfl ?_|refine lTb I rfl rfl rfl rfl rfl ?_|refine lTp I rfl rfl rfl rfl rfl ?_|refine lS I rfl rfl rfl rfl rfl ?_|refine lSp I rfl rfl rfl rfl rfl ?_);clear I;intro J I;try simp only[Act.put,List.setIfInBounds_toArray,List.set_cons_zero,List.set_cons_succ]))
    all_goals(go_ret;exact⟨rfl,I.bel⟩)
instance S9:Ent 201:=Ent.of func201 Θ rfl
theorem rp(p:ϊ)(c:Nat)(l:Δ)(w:ϑ)(hv:BRow w (.slice p l.length c) l)(hz:l=[]→p=none)(h1:l.length≤1000000) :
 ϓ 94 #[.slice p l.length c] w fun e Z=>∃p' c' S,e= .returned (.slice p' l.length c')∧Hold S (.slice p' l.length c') 5 (ak l)∧(l=[]→p'=none)∧Loc w Z S:=by
 rcases List.eq_nil_or_concat l with rfl|⟨l',x,rfl⟩
 ·obtain rfl:=hz rfl
  obtain⟨a,c',e,hn,_⟩:=hv;injection e with e1 e2 e3;obtain rfl:=e3.trans (hn e1.symm);exact(iW w).mono fun e Z ⟨e1,e2⟩=>⟨none,0,[],e1,Hold.nil _,fun _=>rfl,by rw[e2];exact Loc.nil Z⟩
 ·refine(eD _ _ w hv Ϡ h1).mono fun e Z ⟨g,W,E,e1,hr,hg,hc,hb⟩=>⟨some ⟨g,0,none⟩,W,[(g,E,5)],e1,?_,fun h=>absurd h Ϡ,(Loc.nil w).fresh hb hg hc⟩
  exact Hold.own hr
theorem Gh(w:ϑ):(binOp .eql 53 (.slice none 0 0) (.slice none 0 0)).run prog w= .ok (.bool true) w:=Θ
theorem Db(a:Addr)(n c:Nat)(w:ϑ):(binOp .eql 53 (.slice (some a) n c) (.slice none 0 0)).run prog w= .ok (.bool false) w:=Θ
theorem Ai(p:ϊ)(c:Nat)(l:List Int)(w:ϑ)(hv:VRow w (.slice p l.length c) (cj l))(hz:l=[]→p=none)(h1:l.length≤1000000) :
 ϓ 182 #[.slice p l.length c] w fun e Z=>∃p' c' S,e= .returned (.slice p' l.length c')∧Hold S (.slice p' l.length c') 3 (cj l)∧(l=[]→p'=none)∧Loc w Z S:=by
 have I:=Loc.nil w;haveI hA:Arg w (.slice p l.length c) (cj l):=⟨hv⟩;have hn:=Gh;have hs:=Db;have hR:=kP hv;obtain⟨al,cl,e,hW⟩:=hR;injection e with e1 e2 e3;subst e1;clear e2 e3;rcases X4 l.length with h0|h0
 ·obtain rfl:=XG h0
  obtain rfl:=hz rfl;obtain⟨_,a,c',e,hn',_⟩:=hv;injection e with e1 e2 e3;obtain rfl:=e3.trans (hn' e1.symm);clear hA hs e1 e2 e3 hz hn' hW;change Calls _ _ #[.slice none 0 0] _ _;go_enter func182,ntmps182;go_wp2_with (first|refine aU ?_|refine ab fun J I=>?_)
  all_goals(go_ret;exact⟨none,0,[],rfl,Hold.nil _,fun _=>rfl,I⟩)
 ·obtain⟨bl,ol,rfl,hW⟩:=hW 0 h0
  clear hW;haveI:=FZ;go_enter func182,ntmps182;go_wp2_with (first|refine aU ?_|((refine gN 5 ?_);(refine Nl I rfl rfl fun b5 J Y=>?_);clear I;have I:=Y;clear Y)|(refine gN 7 ?_;(refine Is I rfl rfl rfl rfl ϖ fun g7 Y7 Z7 J W7 Y=>?_);(try dsimp only at Y);clear I;have I:=Y;clear Y;refine p4 ?_)|refine ab fun J I=>?_);rw[XA,List.nil_append]at W7;simp only[XA];go_ret;exact⟨some ⟨g7,0,none⟩,Y7,[(g7,Z7,3)],rfl,Hold.own W7,fun h=>absurd h (by intro h;rw[h]at h0;exact absurd h0 Ϡ),I⟩
instance Ta:Ent 182:=eo func182
theorem Dc(p:ϊ)(c:Nat)(l:List Int)(x:Int)(w:ϑ)(hv:VRow w (.slice p l.length c) (cj l))(h1:l.length≤1000000) :
 ϓ 252 #[.slice p l.length c,.int .i64 x] w fun e Z=>∃r:Int,e= .returned (.int .i64 r)∧(0≤r↔x∈l)∧Υ w Z:=by
 have I:=Loc.nil w;obtain⟨al,cl,e,hW⟩:=kP hv;injection e with e1 e2 e3;subst e1;have HW:=Hd hW;clear hW e2 e3 hv;go_enter func252,ntmps252;go_wp2_with (first|refine aU ?_|refine ab fun J I=>?_);go_loopw [8] (fun kk wr=>∃(k:Nat),k≤l.length∧kk= .int .i64 k∧Loc w wr []∧∀i (h:i<l.length),i<k→l[i]≠x) (fun kk _=>l.length-(intOf kk).toNat);case atStart=>exact⟨0,Ω,rfl,I,fun i h hi=>absurd hi Ω⟩
 case round =>
  clear I;obtain⟨k,hk,rfl,I,hne⟩:=hrel;by_cases hlt:k<l.length
  ·obtain⟨bl,ol,rfl,hW⟩:=HW.out k hlt
   have k0:(0:Int)≤k:=Ω;have k1:(k:Int)<l.length:=Ω;have gk:=hW k hlt;have HNE:=Hd hne;clear hW HW hne;by_cases he:x=l[k]
   ·have hmem:x∈l:=by rw[he];exact List.getElem_mem hlt
    have HM:=Hd hmem;clear hmem HNE;rw[← he]at gk;clear he;go_wp2_with (first|refine aU ?_|refine ab fun J I=>?_)
    all_goals(go_ret;exact⟨k,rfl,⟨fun _=>HM.out,fun _=>k0⟩,I.bel⟩)
   ·have HE:=Hd he
    generalize hq:l[k]=y at *
    have HQ:=Hd hq;clear hq;have h3:(x==y)=false:=by simpa using he
    go_wp2_with (first|refine aU ?_|refine ab fun J I=>?_);go_roundw;case rel=>exact⟨k+1,Ω,by go_num,I,fun i h hi=>by
     rcases XI i k with h4|h4
     ·exact HNE.out i h h4
     ·obtain rfl:i=k:=Ω
      rw[HQ.out];exact fun h=>HE.out h.symm⟩
    case measure=>simp only[intOf];omega
  ·obtain rfl:k=l.length:=Ω
   have hnm:x ∉ l:=fun h=>by
    obtain⟨i,hi,e⟩:=List.getElem_of_mem h;exact hne i hi hi e
   have HM:=Hd hnm;clear hnm hne HW;go_wp2_with (first|refine aU ?_|refine ab fun J I=>?_)
   all_goals(go_ret;exact⟨-1,rfl,⟨fun h=>absurd h Ξ,fun h=>absurd h HM.out⟩,I.bel⟩)
theorem vB(p:ϊ)(c:Nat)(l:List Int)(x:Int)(w:ϑ)(hv:VRow w (.slice p l.length c) (cj l))(h1:l.length≤1000000) :
 Rt 211 #[.slice p l.length c,.int .i64 x] w (.bool (decide (x∈l))):=by
 have HI:=Hd (Dc p c l x w hv h1);clear hv;go_enter func211,ntmps211;go_wp2_with (go_at_call 252;go_loud (refine HI.out.mono ?_);rintro e J⟨r,rfl,hr,hb⟩)
 all_goals(go_ret;exact⟨rfl,hb⟩)
instance Tb:Ent 211:=eo func211
structure HoldQ(Sr S0 S1:Mem)(s:Sta)(q:Sq):Prop where
 r:Hold Sr (.slice q.pr s.rv.length q.cr) 3 (cj s.rv)
 a:Hold S0 (.slice q.p0 s.m0.length q.c0) 5 (ak s.m0)
 b:Hold S1 (.slice q.p1 s.m1.length q.c1) 5 (ak s.m1)
 zr:s.rv=[]→q.pr=none
 za:s.m0=[]→q.p0=none
 zb:s.m1=[]→q.p1=none
theorem IU{D w:ϑ}{M:Mem}{s:Sta}{q:Sq}(I:Loc D w M)[h1:See D M (.slice q.pr s.rv.length q.cr) (cj s.rv)][h2:See D M (.slice q.p0 s.m0.length q.c0) (ak s.m0)][h3:See D M (.slice q.p1 s.m1.length q.c1) (ak s.m1)](zr:s.rv=[]→q.pr=none)(za:s.m0=[]→q.p0=none)(zb:s.m1=[]→q.p1=none):ReadS w s q:=⟨h1.see w I,See.bytes I,See.bytes I,zr,za,zb⟩
theorem No(S1 S0 Sr X:Mem):List.Sublist (S1++(S0++Sr)) (S1++(S0++(Sr++X))):=(Zh _).append ((Zh _).append (ZH _ _))
theorem rq(s:Sta)(q:Sq)(w:ϑ)(hr:ReadS w s q)(hn:s.rv.length≤1000)(hna:s.m0.length≤1000)(hnb:s.m1.length≤1000) :
 ϓ 121 #[.agg (stR s q)] w fun e Z=>∃q' Sr S0 S1,e= .returned (.agg (stR s q'))∧HoldQ Sr S0 S1 s q'∧Loc w Z (S1++(S0++Sr)):=by
 obtain⟨fl,rv,m0,d0,t0,m1,d1,t1,ac⟩:=s;obtain⟨pr,cr,p0,c0,p1,c1⟩:=q;obtain⟨r1,r2,r3,zr,za,zb⟩:=hr;dsimp only at *
 have I:=Loc.nil w;haveI hA1:Arg w (.slice pr rv.length cr) (cj rv):=⟨r1⟩;haveI hA2:Arg w (.slice p0 m0.length c0) (ak m0):=⟨r2.vrow⟩;haveI hA3:Arg w (.slice p1 m1.length c1) (ak m1):=⟨r3.vrow⟩;have H1:=Hd (fun J (h:VRow J (.slice pr rv.length cr) (cj rv))=>Ai pr cr rv J h zr Ω);have H2:=Hd (fun J (h:BRow J (.slice p0 m0.length c0) m0)=>rp p0 c0 m0 J h za Ω);have H3:=Hd (fun J (h:BRow J (.slice p1 m1.length c1) m1)=>rp p1 c1 m1 J h zb Ω);clear r1 r2 r3 zr za zb;go_enter func121,ntmps121;go_wp2_with (first|refine aU ?_|refine gBp 1 fun b1 J I=>?_|refine gBp 2 fun b2 J I=>?_|(refine gN 6 ?_;refine lKk (H1.out _ (See.see _ I)) ?_;rintro e J⟨pr',cr',Sr,rfl,hHr,hzr,hN⟩;refine Ϩ (I.join hN) fun I=>?_)|refine ab fun J I=>?_);go_loopw [8] (fun kk wr=>(kk= .int .i64 0∧Loc w wr (Sr++[(b2,stR ⟨0,[],[],false,0,[],false,0,0⟩ Sq.none,58),(b1,stR ⟨fl,rv,m0,d0,t0,m1,d1,t1,ac⟩ ⟨pr',cr',p0,c0,p1,c1⟩,58)])) ∨
  (kk= .int .i64 1∧∃p0' c0' S0,Hold S0 (.slice p0' m0.length c0') 5 (ak m0)∧(m0=[]→p0'=none)∧Loc w wr (S0++(Sr++[(b2,stR ⟨0,[],[],false,0,[],false,0,0⟩ Sq.none,58),(b1,stR ⟨fl,rv,m0,d0,t0,m1,d1,t1,ac⟩ ⟨pr',cr',p0',c0',p1,c1⟩,58)]))) ∨
  (kk= .int .i64 2∧∃p0' c0' S0 p1' c1' S1,Hold S0 (.slice p0' m0.length c0') 5 (ak m0)∧(m0=[]→p0'=none)∧Hold S1 (.slice p1' m1.length c1') 5 (ak m1)∧(m1=[]→p1'=none)∧Loc w wr (S1++(S0++(Sr++[(b2,stR ⟨0,[],[],false,0,[],false,0,0⟩ Sq.none,58),(b1,stR ⟨fl,rv,m0,d0,t0,m1,d1,t1,ac⟩ ⟨pr',cr',p0',c0',p1',c1'⟩,58)]))))) (fun kk _=>2-(intOf kk).toNat)
 case atStart=>exact .inl ⟨rfl,I⟩
 case round =>
  clear I;rcases hrel with⟨rfl,I⟩|⟨rfl,p0',c0',S0,hH0,hz0,I⟩|⟨rfl,p0',c0',S0,p1',c1',S1,hH0,hz0,hH1,hz1,I⟩
  ·skip
   go_wp2_with (first|refine aU ?_|(refine gN 17 ?_;refine lKk (H2.out _ (See.bytes I)) ?_;rintro e J⟨p0',c0',S0,rfl,hH0,hz0,hN⟩;refine Ϩ (I.join hN) fun I=>?_)|refine ab fun J I=>?_);go_roundw;case rel=>exact .inr (.inl ⟨rfl,p0',c0',S0,hH0,hz0,I⟩)
   case measure=>simp only[intOf];decide
  ·skip
   go_wp2_with (first|refine aU ?_|(refine gN 17 ?_;refine lKk (H3.out _ (See.bytes I)) ?_;rintro e J⟨p1',c1',S1,rfl,hH1,hz1,hN⟩;refine Ϩ (I.join hN) fun I=>?_)|refine ab fun J I=>?_);go_roundw;case rel=>exact .inr (.inr ⟨rfl,p0',c0',S0,p1',c1',S1,hH0,hz0,hH1,hz1,I⟩)
   case measure=>simp only[intOf];decide
  ·skip
   go_wp2_with (first|refine aU ?_|refine ab fun J I=>?_);exact Ϣ (aj rfl I rfl) rfl ⟨⟨pr',cr',p0',c0',p1',c1'⟩,Sr,S0,S1,rfl,⟨hHr,hH0,hH1,hzr,hz0,hz1⟩,I.sub (No _ _ _ _)⟩
instance Tc:Ent 121:=eo func121
theorem lj(vb:ό)(b:Δ)(px p:ϊ)(cx c:Nat)(l:Δ)(w:ϑ)(hb:BRow w vb b)(hb0:0<b.length)(V:b.length≤10000)(hx:VRow w (.slice px 1 cx) [.slice p l.length c])(hl:BRow w (.slice p l.length c) l)(hl1:l.length≤10000) :
 ϓ 203 #[vb,.slice px 1 cx] w fun e Z=>Fresh w (b++(aM l.length++l)) e Z:=by
 have I:=Loc.nil w;have HC:=Hd (eD vb b w hb hb0 Ω);haveI hA1:Arg w (.slice p l.length c) (ak l):=⟨hl.vrow⟩;obtain⟨_,al,cl,e,_,hcl⟩:=hx;injection e with e1 e2 e3;obtain⟨bl,ol,e4,hbl,hcell⟩:=hcl Ϡ;subst e1;subst e4;have hW:Was w bl ol (.slice p l.length c):=⟨by simpa using hcell 0 Ϡ,hbl⟩;clear e2 e3 hcl hcell hb hl;have HP:=Hd (fun J (v1 v2:ό) (h2:BRow J v1 b) (h3:VRow J v2 (cj [(l.length:Int)]))=>cB v1 b v2 [(l.length:Int)] J h2 hb0 Ω h3 Ϡ);rw[show aW [(l.length:Int)]=aM l.length from by unfold aW;simp,eU]at HP;have HLEN:=Hd (show(b++aM l.length).length=b.length+8 from by rw[Xa,aw]);have hq:(b++aM l.length).length≤20000:=by rw[Xa,aw];omega
 have HAP:=Hd (show b++(aM l.length++l)=(b++aM l.length)++l from(Xc _ _ _).symm);have HAL:=Hd (show(b++(aM l.length++l)).length=(b++aM l.length).length+l.length from by rw[← Xc,Xa]);generalize b++(aM l.length++l)=out,b++aM l.length=b8 at *
 go_enter func203,ntmps203;go_wp2_with (first|refine aU ?_|(go_at_call 94;go_loud (refine(HC.out).mono ?_);rintro e J⟨g9,Y9,Z9,rfl,W9,hg9,hc9,hb9⟩;have Y:=I.fresh hb9 hg9 hc9;clear hb9 hg9 hc9;clear I;have I:=Y;clear Y;refine p4 ?_)|refine ab fun J I=>?_);go_loopw [5,12] (fun v kk wr=>(kk= .int .i64 0∧v= .slice (ϐ g9) b.length Y9∧Loc w wr [(g9,Z9,5)])∨(kk= .int .i64 1∧∃g W E,v= .slice (ϐ g) (b8.length+l.length) W∧OwnR E (b8.length+l.length) W (ak (b8++l))∧Loc w wr [(g,E,5)])) (fun _ kk _=>1-(intOf kk).toNat);case atStart=>exact .inl ⟨rfl,rfl,I⟩
 case round =>
  clear I;rcases hrel with⟨rfl,rfl,I⟩|⟨rfl,g,W,E,rfl,hr,I⟩
  ·skip
   go_wp2_with (first|refine aU ?_|(refine gN 19 ?_;refine aL fun b19 J I=>?_)|(go_at_call 202;go_loud (refine(HP.out _ _ _ (See.bytes I) (See.see _ I)).mono ?_);rintro e J⟨g20,Y20,Z20,rfl,W20,hg20,hc20,hb20⟩;have Y:=I.fresh hb20 hg20 hc20;clear hb20 hg20 hc20;clear I;have I:=Y;clear Y;refine p4 ?_)|(refine gN 22 ?_;refine aA ?_;intro g22 Y22 Z22 J W22 I)|refine ab fun J I=>?_);go_roundw;case rel=>exact .inr ⟨rfl,g22,Y22,Z22,rfl,W22,Loc.rem b19 (Loc.rem g9 I)⟩
   case measure=>simp only[intOf];decide
  ·rw[← HAL.out,← HAP.out]at hr
   rw[← HAL.out];go_wp2_with (first|refine aU ?_|refine ab fun J I=>?_)
   all_goals(go_ret;exact I.back rfl)
instance Td:Ent 203:=eo func203
def sM(b:Bool):Int:=if b then 1 else 0
theorem xM(b:Bool)(w:ϑ):Rt 204 #[.bool b] w (.int .i64 (sM b)):=by
 cases b <;> go_enter func204,ntmps204
 all_goals go_wp2_with fail
 all_goals(go_ret;exact⟨rfl,XE _ _⟩)
instance Te:Ent 204:=eo func204
theorem jt{D w:ϑ}{M:Mem}(I:Loc D w M){b:Nat}{r:Ψ}{t:ϋ}(hm:(b,r,t)∈M){k:Nat}{v:ό}(hc:r[k]?=some v):Was w b k v :=
 ⟨by rw[Ya w b k _ _ _ (I.get hm)];exact hc,I.lt hm⟩
def nh(x:Δ)(m:Δ)(d:Bool)(t:Int):Δ:=(x++(aM m.length++m))++aW [sM d,t]
def Aj(s:Sta):Δ:=(([80,67,83,49]++aW [s.fl,(s.rv.length:Int)])++aW s.rv)++aW [s.ac]
def stB(s:Sta):Δ:=nh (nh (Aj s) s.m0 s.d0 s.t0) s.m1 s.d1 s.t1
theorem ju(x m:Δ)(d:Bool)(t:Int):(nh x m d t).length=x.length+m.length+24:=by
 unfold nh;rw[Xa,Xa,Xa,aw,bp];simp;omega
theorem oE(s:Sta):(Aj s).length=28+8*s.rv.length:=by
 unfold Aj;simp only[Xa,bp,XZ,ZB];omega
theorem rr(s:Sta):(stB s).length=76+8*s.rv.length+s.m0.length+s.m1.length:=by
 unfold stB;rw[ju,ju,oE];omega
instance Tf:RowTy 56 6:=⟨⟨_,underlying56,rfl⟩,Θ⟩
instance Tg(a b x y z c d e f:ό):Part #[a,b,x,y,z,c,d,e,f] 58 2 56 #[x,y,z,c,d,e]:=bQ (pre:= #[a,b]) (post:= #[f]) rfl rfl
instance Th:RowZ 55 (slR none 0 0 false 0):=⟨Θ⟩
theorem PQ(x y z c d e:ό)(w:ϑ):(Instr.index 56 (.agg #[x,y,z,c,d,e]) (.int .i64 0)).run prog w= .ok (.agg #[x,y,z]) w:=Θ
theorem PR(x y z c d e:ό)(w:ϑ):(Instr.index 56 (.agg #[x,y,z,c,d,e]) (.int .i64 1)).run prog w= .ok (.agg #[c,d,e]) w:=Θ
theorem JS(p:ϊ)(n c:Nat):Seg #[.slice p n c] 0 1 [.slice p n c]:=⟨rfl,fun u hu=>by simp at hu;subst hu;rfl,fun i hi=>by simp at hi;subst hi;rfl⟩
theorem Gi(s:Sta)(q:Sq)(w:ϑ)(hr:ReadS w s q)(hg:Good s):ϓ 154 #[.agg (stR s q)] w fun e Z=>∃g W E,e= .returned (.tuple #[.slice (ϐ g) (stB s).length W,.int .i64 0])∧OwnR E (stB s).length W (ak (stB s))∧Loc w Z [(g,E,5)]:=by
 have I:=Loc.nil w;have HM:=Hd (fun J (h:ReadS J s q)=>ng s q J h hg);have HRD:=Hd (fun J (h:Υ w J)=>(⟨hr.r.below h,by have:=hr.a.vrow.below h;exact this.brow,by have:=hr.b.vrow.below h;exact this.brow,hr.zr,hr.za,hr.zb⟩:ReadS J s q));have hlen0:s.m0.length≤300:=by rcases hg.s0 with⟨h,_⟩|⟨h,_⟩ <;> omega
 have hlen1:s.m1.length≤300:=by rcases hg.s1 with⟨h,_⟩|⟨h,_⟩ <;> omega
 have hlen2:=hg.n;have hB0:=oE s;have hB:=rr s;have hx5':=ju (Aj s) s.m0 s.d0 s.t0;have h0:Aj s=(([80,67,83,49]++aW [s.fl,(s.rv.length:Int)])++aW s.rv)++aW [s.ac]:=rfl;have h7:stB s=nh (nh (Aj s) s.m0 s.d0 s.t0) s.m1 s.d1 s.t1:=rfl;generalize stB s=x7,Aj s=x3 at *
 obtain⟨fl,rv,m0,d0,t0,m1,d1,t1,ac⟩:=s;obtain⟨pr,cr,p0,c0,p1,c1⟩:=q;obtain⟨r1,r2,r3,zr,za,zb⟩:=hr;dsimp only at *
 haveI hA1:Arg w (.slice pr rv.length cr) (cj rv):=⟨r1⟩;haveI hA2:Arg w (.slice p0 m0.length c0) (ak m0):=⟨r2.vrow⟩;haveI hA3:Arg w (.slice p1 m1.length c1) (ak m1):=⟨r3.vrow⟩;obtain⟨x1,hx1⟩:∃x,x=[80,67,83,49]++aW [fl,(rv.length:Int)]:=⟨_,rfl⟩;obtain⟨x2,hx2⟩:∃x,x=x1++aW rv:=⟨_,rfl⟩;obtain⟨x4,hx4⟩:∃x,x=x3++(aM m0.length++m0):=⟨_,rfl⟩;obtain⟨x5,hx5⟩:∃x,x=x4++aW [sM d0,t0]:=⟨_,rfl⟩;obtain⟨x6,hx6⟩:∃x,x=x5++(aM m1.length++m1):=⟨_,rfl⟩;have e5:nh x3 m0 d0 t0=x5:=by unfold nh;rw[hx5,hx4]
 rw[e5]at hx5' h7;have e7:x7=x6++aW [sM d1,t1]:=by rw[h7];unfold nh;rw[hx6]
 rw[← hx1,← hx2]at h0;have l1:x1.length=20:=by rw[hx1,Xa,bp];rfl
 have l2:x2.length=20+8*rv.length:=by rw[hx2,Xa,bp,l1]
 have l4:x4.length=x3.length+8+m0.length:=by rw[hx4,Xa,Xa,aw];omega
 have l6:x6.length=x5.length+8+m1.length:=by rw[hx6,Xa,Xa,aw];omega
 have P1:=Hd (fun J (v1 v2:ό) (h2:BRow J v1 [80,67,83,49]) (h3:VRow J v2 (cj [fl,(rv.length:Int)]))=>(show Calls _ _ _ _ (fun e Z=>Fresh J x1 e Z)from by rw[hx1];exact cB v1 _ v2 _ J h2 Ξ Ξ h3 Ϡ));have P2:=Hd (fun J (v1 v2:ό) (h2:BRow J v1 x1) (h3:VRow J v2 (cj rv))=>(show Calls _ _ _ _ (fun e Z=>Fresh J x2 e Z)from by rw[hx2];exact cB v1 _ v2 _ J h2 Ω Ω h3 Ω));have P3:=Hd (fun J (v1 v2:ό) (h2:BRow J v1 x2) (h3:VRow J v2 (cj [ac]))=>(show Calls _ _ _ _ (fun e Z=>Fresh J x3 e Z)from by rw[h0];exact cB v1 _ v2 _ J h2 Ω Ω h3 Ϡ));have P4:=Hd (fun J (v1:ό) px cx (h2:BRow J v1 x3) (h3:VRow J (.slice px 1 cx) [.slice p0 m0.length c0]) (h4:BRow J (.slice p0 m0.length c0) m0)=>(show Calls _ _ _ _ (fun e Z=>Fresh J x4 e Z)from by rw[hx4];exact lj v1 _ px p0 cx c0 m0 J h2 Ω Ω h3 h4 Ω));have P5:=Hd (fun J (v1 v2:ό) (h2:BRow J v1 x4) (h3:VRow J v2 (cj [sM d0,t0]))=>(show Calls _ _ _ _ (fun e Z=>Fresh J x5 e Z)from by rw[hx5];exact cB v1 _ v2 _ J h2 Ω Ω h3 Ϡ));have P6:=Hd (fun J (v1:ό) px cx (h2:BRow J v1 x5) (h3:VRow J (.slice px 1 cx) [.slice p1 m1.length c1]) (h4:BRow J (.slice p1 m1.length c1) m1)=>(show Calls _ _ _ _ (fun e Z=>Fresh J x6 e Z)from by rw[hx6];exact lj v1 _ px p1 cx c1 m1 J h2 Ω Ω h3 h4 Ω));have P7:=Hd (fun J (v1 v2:ό) (h2:BRow J v1 x6) (h3:VRow J v2 (cj [sM d1,t1]))=>(show Calls _ _ _ _ (fun e Z=>Fresh J x7 e Z)from by rw[e7];exact cB v1 _ v2 _ J h2 Ω Ω h3 Ϡ));haveI s0:Seg #[.int .u8 80,.int .u8 67,.int .u8 83,.int .u8 49] 0 4 (ak [80,67,83,49]):=JQ 80 67 83 49;haveI s1:=tK fl (rv.length:Int);haveI s2:=tK (sM d0) t0;haveI s3:=tK (sM d1) t1;haveI s4:=JS p0 m0.length c0;haveI s5:=JS p1 m1.length c1;haveI s6:Seg #[.int .i64 ac] 0 1 (cj [ac]):=BO _ _;clear r1 r2 r3 zr za zb hg hx1 hx2 hx4 hx5 hx6 e5 e7 h0 h7 hB0 hB hx5' l1 l2 l4 l6;have HB0:=Hd (fun J=>xM d0 J);have HB1:=Hd (fun J=>xM d1 J);generalize sM d0=bd0,sM d1=bd1 at *
 have hi0:=PQ;have hi1:=PR;go_enter func154,ntmps154;go_wp2_with (first|refine aU ?_|refine gBp 1 fun b1 J I=>?_|(refine gN 8 ?_;refine lV (HM.out _ (HRD.out _ I.bel)) I fun J I=>?_)|((with_reducible show wpList _ _ _ (⟨some 10,_,_,_,_,_⟩::⟨some 11,_,_,_,_,_⟩::_) _ _);go_loud (refine xG 80 67 83 49 I rfl rfl rfl rfl rfl rfl rfl rfl (fun _=>rfl) ?_);clear I;intro b10 w11 hb10 hL0;have hA10:Arg w11 (.slice (ϐ b10) 4 4) (ak [80,67,83,49]):=⟨hb10.vrow⟩;have g0:Was w11 b1 0 (.int .i64 fl):=jt hL0 (.head _) rfl;have g1:Was w11 b1 1 (.slice pr rv.length cr):=jt hL0 (.head _) rfl;have I:=Loc.nil w11)|(refine gN 17 ?_;refine BP I rfl rfl rfl rfl ?_;intro b17;clear I;intro J I)|((go_at_call 202;go_loud (refine(P1.out _ _ _ (See.bytes I) (See.see _ I)).mono ?_);rintro e J⟨g18,Y18,Z18,rfl,W18,hg18,hc18,hb18⟩;have Y:=hL0.join (I.fresh hb18 hg18 hc18);clear hb18 hg18 hc18;clear I hA10 hb10 g0 g1;simp only[List.cons_append,List.nil_append]at Y;have I:=Loc.rem b17 Y;clear Y hL0;refine p4 ?_))|refine ab fun J I=>?_);refine eQ (R:=?R) (fun hR=>?h1) ?h2;case h1 =>
  refine mX (S:=fun Z=>Loc _ Z _) 9 (I.drew) ?_;intro H;replace I:=I.drew;refine uG 0 ?_;refine uG 1 ?_;refine uG 4 ?_;refine uZ 2 ?_;refine uZ 5 ?_;refine rd2 3 6 ?_ ?_
  ·intro K T
   refine eK (P2.out _ (.slice (ϐ g18) x1.length Y18) (.slice pr rv.length cr) (See.bytes I) (See.see _ I)) ?_;rintro e J⟨g22,Y22,Z22,rfl,W22,hg22,hc22,hb22⟩;refine⟨_,rfl,?_⟩;have Y:=I.fresh hb22 hg22 hc22;clear hb22 hg22 hc22;clear I;have I:=Y;clear Y;refine kO T (I.pop) ?_;clear T K H;intro H;refine rd1 6 fun K T=>?_;refine eBS ?_;clear I;intro b25 J I;refine kO T (I.pop.pop) ?_;clear T K H;intro H;refine rd1 7 fun K T=>?_;refine eK (P3.out _ (.slice (ϐ g22) x2.length Y22) (.slice (ϐ b25) 1 1) (See.bytes I) (See.see _ I)) ?_;rintro e J⟨g26,Y26,Z26,rfl,W26,hg26,hc26,hb26⟩;refine⟨_,rfl,?_⟩;have Y:=I.fresh hb26 hg26 hc26;clear hb26 hg26 hc26;clear I;have I:=Y;clear Y;refine kO T (I.pop.pop.pop) ?_;clear T K H;intro H;refine uG 8 ?_;refine wD ?_;clear H;have hLp:=I;clear I;revert hLp;revert J;revert W26;revert Z26;revert Y26;revert g26;revert b25;revert W22;revert Z22;revert Y22;revert g22;exact pm hR
  ·intro K T
   refine eBS ?_;clear I;intro b25 J I;refine kO T (I.pop) ?_;clear T K H;intro H;refine rd1 3 fun K T=>?_;refine eK (P2.out _ (.slice (ϐ g18) x1.length Y18) (.slice pr rv.length cr) (See.bytes I) (See.see _ I)) ?_;rintro e J⟨g22,Y22,Z22,rfl,W22,hg22,hc22,hb22⟩;refine⟨_,rfl,?_⟩;have Y:=I.fresh hb22 hg22 hc22;clear hb22 hg22 hc22;clear I;have I:=Y;clear Y;refine kO T (I.pop.pop) ?_;clear T K H;intro H;refine rd1 7 fun K T=>?_;refine eK (P3.out _ (.slice (ϐ g22) x2.length Y22) (.slice (ϐ b25) 1 1) (See.bytes I) (See.see _ I)) ?_;rintro e J⟨g26,Y26,Z26,rfl,W26,hg26,hc26,hb26⟩;refine⟨_,rfl,?_⟩;have Y:=I.fresh hb26 hg26 hc26;clear hb26 hg26 hc26;clear I;have I:=Y;clear Y;refine kO T (I.pop.pop.pop) ?_;clear T K H;intro H;refine uG 8 ?_;refine wD ?_;clear H;have hLp:=I;clear I;revert hLp;revert J;revert W26;revert Z26;revert Y26;revert g26;revert b25;revert W22;revert Z22;revert Y22;revert g22;exact pm hR
 intro g22 Y22 Z22 W22 b25 g26 Y26 Z26 W26 J Y;clear I;have I:=Y;clear Y;have Y:=Loc.rem b25 (Loc.rem g22 (Loc.rem g18 I));clear I;have I:=Y;clear Y;go_wp2_with (first|refine aU ?_|refine ab fun J I=>?_);go_loopw [4,29] (fun v kk wr=>(kk= .int .i64 0∧v= .slice (ϐ g26) x3.length Y26∧Loc w wr [(g26,Z26,5),(b1,stR ⟨fl,rv,m0,d0,t0,m1,d1,t1,ac⟩ ⟨pr,cr,p0,c0,p1,c1⟩,58)]) ∨
  (kk= .int .i64 1∧∃g W E,v= .slice (ϐ g) x5.length W∧OwnR E x5.length W (ak x5)∧Loc w wr [(g,E,5),(b1,stR ⟨fl,rv,m0,d0,t0,m1,d1,t1,ac⟩ ⟨pr,cr,p0,c0,p1,c1⟩,58)]) ∨
  (kk= .int .i64 2∧∃g W E,v= .slice (ϐ g) x7.length W∧OwnR E x7.length W (ak x7)∧Loc w wr [(g,E,5),(b1,stR ⟨fl,rv,m0,d0,t0,m1,d1,t1,ac⟩ ⟨pr,cr,p0,c0,p1,c1⟩,58)])) (fun _ kk _=>2-(intOf kk).toNat)
 case atStart=>exact .inl ⟨rfl,rfl,I⟩
 case round =>
  clear I;rcases hrel with⟨rfl,rfl,I⟩|⟨rfl,g,W,E,rfl,hr,I⟩|⟨rfl,g,W,E,rfl,hr,I⟩
  ·skip
   go_wp2_with (first|refine aU ?_|refine gBp 6 fun b6 J I=>?_|refine ab fun J I=>?_);refine Ϭ 13 I fun H I=>?_;refine uG 0 ?_;refine uG 1 ?_;refine uG 5 ?_;refine uG 8 ?_;refine uZ 2 ?_;refine uZ 6 ?_;refine uZ 9 ?_;refine rd1 3 fun K T=>?_;refine eBS fun b35 J I=>?_;refine kO T (I.pop) ?_;clear T K H;intro H;refine rd1 4 fun K T=>?_;refine eK (P4.out _ (.slice (ϐ g26) x3.length Y26) (ϐ b35) 1 (See.bytes I) (See.see _ I) (See.bytes I)) ?_;rintro e J⟨g36,Y36,Z36,rfl,W36,hg36,hc36,hb36⟩;refine⟨_,rfl,?_⟩;have Y:=I.fresh hb36 hg36 hc36;clear hb36 hg36 hc36;clear I;have I:=Y;clear Y;refine kO T (I.pop.pop) ?_;clear T K H;intro H;refine rd1 7 fun K T=>?_;refine eVv (HB0.out _) I fun J I=>?_;refine kO T (I.pop.pop) ?_;clear T K H;intro H;refine rd1 10 fun K T=>?_;refine eBS fun b42 J I=>?_;refine kO T (I.pop.pop.pop) ?_;clear T K H;intro H;refine rd1 11 fun K T=>?_;refine eK (P5.out _ (.slice (ϐ g36) x4.length Y36) (.slice (ϐ b42) 2 2) (See.bytes I) (See.see _ I)) ?_;rintro e J⟨g43,Y43,Z43,rfl,W43,hg43,hc43,hb43⟩;refine⟨_,rfl,?_⟩;have Y:=I.fresh hb43 hg43 hc43;clear hb43 hg43 hc43;clear I;have I:=Y;clear Y;refine kO T (I.pop.pop.pop.pop) ?_;clear T K H;intro H;refine uG 12 ?_;refine wD ?_;clear H;go_wp2_with (first|refine aU ?_|refine ab fun J I=>?_);go_roundw;case rel=>exact .inr (.inl ⟨rfl,g43,Y43,Z43,rfl,W43,Loc.rem b42 (Loc.rem g36 (Loc.rem b35 (Loc.rem b6 (Loc.rem g26 I))))⟩)
   case measure=>simp only[intOf];decide
  ·skip
   go_wp2_with (first|refine aU ?_|refine gBp 6 fun b6 J I=>?_|refine ab fun J I=>?_);refine Ϭ 13 I fun H I=>?_;refine uG 0 ?_;refine uG 1 ?_;refine uG 5 ?_;refine uG 8 ?_;refine uZ 2 ?_;refine uZ 6 ?_;refine uZ 9 ?_;refine rd1 3 fun K T=>?_;refine eBS fun b35 J I=>?_;refine kO T (I.pop) ?_;clear T K H;intro H;refine rd1 4 fun K T=>?_;refine eK (P6.out _ (.slice (ϐ g) x5.length W) (ϐ b35) 1 (See.bytes I) (See.see _ I) (See.bytes I)) ?_;rintro e J⟨g36,Y36,Z36,rfl,W36,hg36,hc36,hb36⟩;refine⟨_,rfl,?_⟩;have Y:=I.fresh hb36 hg36 hc36;clear hb36 hg36 hc36;clear I;have I:=Y;clear Y;refine kO T (I.pop.pop) ?_;clear T K H;intro H;refine rd1 7 fun K T=>?_;refine eVv (HB1.out _) I fun J I=>?_;refine kO T (I.pop.pop) ?_;clear T K H;intro H;refine rd1 10 fun K T=>?_;refine eBS fun b42 J I=>?_;refine kO T (I.pop.pop.pop) ?_;clear T K H;intro H;refine rd1 11 fun K T=>?_;refine eK (P7.out _ (.slice (ϐ g36) x6.length Y36) (.slice (ϐ b42) 2 2) (See.bytes I) (See.see _ I)) ?_;rintro e J⟨g43,Y43,Z43,rfl,W43,hg43,hc43,hb43⟩;refine⟨_,rfl,?_⟩;have Y:=I.fresh hb43 hg43 hc43;clear hb43 hg43 hc43;clear I;have I:=Y;clear Y;refine kO T (I.pop.pop.pop.pop) ?_;clear T K H;intro H;refine uG 12 ?_;refine wD ?_;clear H;go_wp2_with (first|refine aU ?_|refine ab fun J I=>?_);go_roundw;case rel=>exact .inr (.inr ⟨rfl,g43,Y43,Z43,rfl,W43,Loc.rem b42 (Loc.rem g36 (Loc.rem b35 (Loc.rem b6 (Loc.rem g I))))⟩)
   case measure=>simp only[intOf];decide
  ·skip
   go_wp2_with (first|refine aU ?_|refine ab fun J I=>?_);go_ret2;exact⟨g,W,E,rfl,hr,Loc.rem b1 I⟩
instance Ti:Ent 154:=eo func154
theorem Dd(n:Int)(w:ϑ):ϓ 294 #[.int .i64 n] w fun e Z=>e= .returned (.bool false)∧w=Z:=by
 have h:(n==n)=true:=Ϡ;go_enter func294,ntmps294;go_wp2_with (first|refine aU ?_|refine ab fun J I=>?_)
 all_goals(go_ret;exact⟨rfl,rfl⟩)
theorem IV(a b:Int)(h:a<b)(w:ϑ):ϓ 262 #[.int .i64 a,.int .i64 b] w fun e Z=>e= .returned (.bool true)∧w=Z:=by
 go_enter func262,ntmps262;go_wp2_with (first|refine aU ?_|((go_at_call 294;go_loud (refine(Dd _ _).mono ?_);rintro e J⟨rfl,rfl⟩;refine p4 ?_))|refine ab fun J I=>?_)
 all_goals(go_ret;exact⟨rfl,rfl⟩)
theorem sO(p:ϊ)(c:Nat)(l:List Int)(x:Int)(w:ϑ)(hv:VRow w (.slice p l.length c) (cj l))(h1:l.length≤1000000)(hx:∀i (h:i<l.length),l[i]<x) :
 Rt 229 #[.slice p l.length c,.int .i64 x] w (.tuple #[.int .i64 l.length,.bool false]):=by
 have I:=Loc.nil w;obtain⟨al,cl,e,hW⟩:=kP hv;injection e with e1 e2 e3;subst e1;have HW:=Hd hW;have HX:=Hd hx;clear hW e2 e3 hv hx;go_enter func229,ntmps229;go_wp2_with (first|refine aU ?_|refine ab fun J I=>?_);go_loopw [7,8] (fun i j wr=>∃(k:Nat),k≤l.length∧i= .int .i64 k∧j= .int .i64 l.length∧Loc w wr []) (fun i _ _=>l.length-(intOf i).toNat);case atStart=>exact⟨0,Ω,rfl,rfl,I⟩
 case round =>
  clear I;obtain⟨k,hk,rfl,rfl,I⟩:=hrel;by_cases hlt:k<l.length
  ·obtain⟨h,hh⟩:∃h,h=(k+l.length)/2:=⟨_,rfl⟩
   have hhl:h<l.length:=Ω;have hkh:k≤h:=Ω;have hh2:((k:Int)+l.length)/2=(h:Nat):=Ω;obtain⟨bl,ol,rfl,hW⟩:=HW.out k hlt;have k0:(0:Int)≤k:=Ω;have k1:(k:Int)<l.length:=Ω;have k2:(0:Int)≤h:=Ω;have k3:(h:Int)<l.length:=Ω;have hu:IntKind.u64.wrap ((k:Int)+l.length)=(k:Int)+l.length:=by rw[XM];omega
   have gk:=hW h hhl;have HL:=Hd (fun J=>IV l[h] x (HX.out h hhl) J);clear HX hW HW hh;generalize l[h]=y at *
   go_wp2_with (first|refine aU ?_|((go_at_call 262;go_loud (refine(HL.out _).mono ?_);rintro e J⟨rfl,rfl⟩;refine p4 ?_))|refine ab fun J I=>?_);go_roundw;case rel=>exact⟨h+1,Ω,by go_num,rfl,I⟩
   case measure=>simp only[intOf];omega
  ·obtain rfl:k=l.length:=Ω
   clear HW HX;go_wp2_with (first|refine aU ?_|refine ab fun J I=>?_)
   all_goals(go_ret2;exact⟨rfl,I.bel⟩)
instance Tj:Ent 229:=eo func229
section
variable {D w:ϑ} {M:Mem}
theorem Ak{S:Mem}{p px:ϊ}{c cx:Nat}{l:List Int}{x:Int}(hH:Hold S (.slice p l.length c) 3 (cj l))(hx:See D (S++M) (.slice px 1 cx) (cj [x]))(h1:l.length≤1000000)(I:Loc D w (S++M)) :
 ϓ 230 #[.slice p l.length c,.int .i64 l.length,.slice px 1 cx] w fun e Z=>∃g W E,e= .returned (.slice (ϐ g) (l.length+1) W)∧OwnR E (l.length+1) W (cj (l++[x]))∧Loc D Z ((g,E,3)::M):=by
 have hn0:(0:Int)≤l.length:=Ω;have hle:l.length+1≤1000001:=Ω;have HE:=Hd (show cj (l++[x])=cj l++cj [x]from by simp[cj]);have HLL:=Hd (show(l++[x]).length=l.length+1 from Ϡ);rcases hH.hold with⟨rfl,hv,hl⟩|⟨g,W,E,rfl,hv,ho⟩
 ·injection hv with e1 e2 e3
  subst e1;subst e3;obtain rfl:l=[]:=XG e2;clear hH hl e2;change Calls _ _ #[.slice none 0 0,.int .i64 0,.slice px 1 cx] _ _;simp only[List.nil_append]at *
  go_enter func230,ntmps230;go_wp2_with (first|refine aU ?_|(refine gN 25 ?_;go_loud (refine tD I rfl rfl rfl rfl Ξ Ξ ?_);intro g25 Y25 Z25 J W25 Y;clear I;have I:=Y;clear Y;refine p4 ?_)|refine ab fun J I=>?_)
  all_goals(go_ret;first|exact⟨g25,Y25,Z25,rfl,W25,I⟩|exact⟨g25,Y25,rfl,Z25,W25,I⟩)
 ·injection hv with e1 e2 e3
  subst e1;subst e3;rw[cA]at ho;clear hH e2;simp only[List.cons_append,List.nil_append]at *
  go_enter func230,ntmps230;go_wp2_with (first|refine aU ?_|(refine gN 25 ?_;(refine Is I rfl rfl rfl rfl ϖ fun g25 Y25 Z25 J W25 Y=>?_);(try dsimp only at Y);clear I;have I:=Y;clear Y;refine p4 ?_)|refine ab fun J I=>?_)
  all_goals(go_ret;exact⟨g25,Y25,rfl,Z25,by rw[HE.out];exact W25,I⟩)
end
instance Tk:Ent 230:=eo func230
abbrev xN:Ψ:=stR ⟨0,[],[],false,0,[],false,0,0⟩ Sq.none
theorem xO(w:ϑ):(Instr.build 58 #[]).run prog w= .ok (.agg xN) w:=Θ
def Sta.add(s:Sta)(id:Int):Sta:=⟨s.fl,s.rv++[id],s.m0,s.d0,s.t0,s.m1,s.d1,s.t1,s.ac⟩
theorem Np{D w:ϑ}{a b:Nat×Ψ×ϋ}{S1 S0 Sr B:Mem}(h:Loc D w (a::b::(S1++(S0++(Sr++B))))):Loc D w (Sr++(a::b::(S1++(S0++B)))) :=
 h.perm (by
  have:=List.perm_append_comm_assoc (a::b::(S1++S0)) Sr B;simpa[Xc] using this)
theorem Nq{D w:ϑ}{e:Nat×Ψ×ϋ}{S1 S0 B:Mem}(h:Loc D w (e::(S1++(S0++B)))):Loc D w (S1++(S0++[e])):=by
 have h1:Loc D w (e::(S1++S0)):=h.sub (List.Sublist.cons_cons e ((Zh _).append (ZH _ _)));refine h1.perm ?_;have:=(List.perm_append_comm (l₁:=[e]) (l₂:=S1++S0));simpa[Xc] using this
theorem Al(s:Sta)(q:Sq)(id:Int)(w:ϑ)(hr:ReadS w s q)(hg:Good s)(hid:eX id)(hx:∀i (h:i<s.rv.length),s.rv[i]<id) :
 ϓ 176 #[.agg (stR s q),.int .i64 id] w fun e Z =>
  (s.rv.length<32→∃q' Sr S0 S1,e= .returned (.tuple #[.agg (stR (s.add id) q'),.int .i64 0])∧HoldQ Sr S0 S1 (s.add id) q'∧Loc w Z (S1++(S0++Sr))) ∧
  (¬s.rv.length<32→e= .returned (.tuple #[.agg xN,.int .i64 3])∧Υ w Z):=by
 have I:=Loc.nil w;have HM:=Hd (fun J (h:ReadS J s q)=>ng s q J h hg);have HRD:=Hd (fun J (h:Υ w J)=>(⟨hr.r.below h,by have:=hr.a.vrow.below h;exact this.brow,by have:=hr.b.vrow.below h;exact this.brow,hr.zr,hr.za,hr.zb⟩:ReadS J s q));have hlen0:s.m0.length≤300:=by rcases hg.s0 with⟨h,_⟩|⟨h,_⟩ <;> omega
 have hlen1:s.m1.length≤300:=by rcases hg.s1 with⟨h,_⟩|⟨h,_⟩ <;> omega
 have hlen2:=hg.n;have HC:=Hd (fun J (h:ReadS J s q)=>rq s q J h Ω Ω Ω);have HN:=Hd (fun J=>mq id hid J);have HB:=Hd (fun J p c (h:VRow J (.slice p s.rv.length c) (cj s.rv))=>sO p c s.rv id J h Ω hx);clear hr hg hid hx;obtain⟨fl,rv,m0,d0,t0,m1,d1,t1,ac⟩:=s;obtain⟨pr,cr,p0,c0,p1,c1⟩:=q;unfold Sta.add;dsimp only at *
 by_cases hlt:rv.length<32
 ·have q1:¬(32:Int)≤rv.length:=Ω
  go_enter func176,ntmps176;go_wp2_with (first|refine aU ?_|refine gBp 2 fun b2 J I=>?_|refine gBp 4 fun b4 J I=>?_|refine gBp 6 fun b6 J I=>?_|(refine gN 10 ?_;refine lV (HM.out _ (HRD.out _ I.bel)) I fun J I=>?_)|((go_at_call 228;go_loud (refine(HN.out _).mono ?_);rintro e J⟨rfl,rfl⟩;refine p4 ?_))|(refine gN 19 ?_;refine lKk (HC.out _ (HRD.out _ I.bel)) ?_;rintro e J⟨⟨pr',cr',p0',c0',p1',c1'⟩,Sr,S0,S1,rfl,hQ,hN⟩;refine⟨_,rfl,?_⟩;have hHr:=hQ.r;have hHa:=hQ.a;have hHb:=hQ.b;refine Ϧ (I.join hN) fun I=>?_)|(refine gN 24 ?_;refine lV (HB.out _ pr' cr' (See.see _ I)) I fun J I=>?_)|(refine gN 40 ?_;refine wP I rfl rfl rfl ?_;intro b40;clear I;intro J I;haveI s40:Seg #[.int .i64 id] 0 1 (cj [id]):=BO _ _)|(refine gN 41 ?_;refine lKk (Ak (S:=Sr) (l:=rv) (x:=id) hHr (Ϙ) Ω (Np I)) ?_;rintro e J⟨g41,Y41,Z41,rfl,W41,Y⟩;refine Ϥ Y fun I=>?_)|refine ab fun J I=>?_);have Y:=Loc.rem b40 (Loc.rem b6 I);refine Ϣ (ao rfl I rfl rfl) rfl ?_;exact⟨⟨some ⟨g41,0,none⟩,Y41,p0',c0',p1',c1'⟩,by simp only[stR,Xa,XZ,ZB,XA];rfl,[(g41,Z41,3)],S0,S1,⟨by have h:=Hold.own (g:=g41) (e:=3) W41;rwa[show rv.length+1=(rv++[id]).length from by simp]at h,hHa,hHb,fun h=>absurd h Ϡ,hQ.za,hQ.zb⟩,Nq Y⟩
 ·have q1:(32:Int)≤rv.length:=Ω
  go_enter func176,ntmps176;go_wp2_with (first|refine aU ?_|refine gBp 2 fun b2 J I=>?_|refine gBp 4 fun b4 J I=>?_|refine gBp 6 fun b6 J I=>?_|(refine gN 10 ?_;refine lV (HM.out _ (HRD.out _ I.bel)) I fun J I=>?_)|((go_at_call 228;go_loud (refine(HN.out _).mono ?_);rintro e J⟨rfl,rfl⟩;refine p4 ?_))|(refine gN 19 ?_;refine lKk (HC.out _ (HRD.out _ I.bel)) ?_;rintro e J⟨⟨pr',cr',p0',c0',p1',c1'⟩,Sr,S0,S1,rfl,hQ,hN⟩;refine⟨_,rfl,?_⟩;have hHr:=hQ.r;have hHa:=hQ.a;have hHb:=hQ.b;refine Ϧ (I.join hN) fun I=>?_)|(refine gN 24 ?_;refine lV (HB.out _ pr' cr' (See.see _ I)) I fun J I=>?_)|(refine gN 35 ?_;refine ϙ (xO _) fun J I=>?_)|refine ab fun J I=>?_);exact Ϣ (ao rfl I rfl rfl) rfl ⟨rfl,I.bel⟩
instance Tl:Ent 176:=eo func176
abbrev aT(b:Nat):Value:= .pointer (ϐ b)
abbrev kpR(bo bk a0 a1:Nat):Ψ:= #[aT bo,aT bk,aT a0,aT a1]
abbrev arR(bf:Nat)(k:Int):Ψ:= #[aT bf,.int .i64 k]
def coR(kp:Nat)(fr fs:Φ)(s:Sta)(q:Sq)(bt:Int)(rg:Φ):Ψ:= #[.iface 115 (aT kp)]++aa 32 fr++aa 32 fs++stR s q ++ #[.int .i64 bt]++aa 32 rg
section
variable (kp:Nat) (fr fs:Φ) (s:Sta) (q:Sq) (bt:Int) (rg:Φ)
theorem Gj:(coR kp fr fs s q bt rg).size=107:=by simp[coR,ai]
theorem ni{k:Nat}(h:k<9):(coR kp fr fs s q bt rg)[65+k]?=(stR s q)[k]?:=by
 unfold coR;rw[Array.getElem?_append_left (by simp[ai];omega),Array.getElem?_append_left (by simp[ai];omega),Array.getElem?_append_right ϔ];simp[ai]
instance Tm:Cell (coR kp fr fs s q bt rg) 0 (.iface 115 (aT kp)):=⟨by
 unfold coR;rw[Array.getElem?_append_left ϔ,Array.getElem?_append_left ϔ,Array.getElem?_append_left ϔ,Array.getElem?_append_left ϔ,Array.getElem?_append_left Ϡ];rfl⟩
instance Tn:Cell (coR kp fr fs s q bt rg) 65 (.int .i64 s.fl):=⟨(ni kp fr fs s q bt rg (k:=0) Ξ).trans rfl⟩
instance To:Cell (coR kp fr fs s q bt rg) 66 (.slice q.pr s.rv.length q.cr):=⟨(ni kp fr fs s q bt rg (k:=1) Ξ).trans rfl⟩
instance Tp:Cell (coR kp fr fs s q bt rg) 67 (.slice q.p0 s.m0.length q.c0):=⟨(ni kp fr fs s q bt rg (k:=2) Ξ).trans rfl⟩
instance Tq:Cell (coR kp fr fs s q bt rg) 68 (.bool s.d0):=⟨(ni kp fr fs s q bt rg (k:=3) Ξ).trans rfl⟩
instance Tr:Cell (coR kp fr fs s q bt rg) 70 (.slice q.p1 s.m1.length q.c1):=⟨(ni kp fr fs s q bt rg (k:=5) Ξ).trans rfl⟩
instance PS:Cell (coR kp fr fs s q bt rg) 74 (.int .i64 bt):=⟨by
 unfold coR;rw[Array.getElem?_append_left ϔ,Array.getElem?_append_right ϔ];simp[ai]⟩
instance PT(k:Int):Put (coR kp fr fs s q bt rg) 74 (.int .i64 k) (coR kp fr fs s q k rg):=⟨by
 unfold coR;rw[Xm ϔ,Yk ϔ];simp[ai],by rw[Gj];decide⟩
instance PU:Part (coR kp fr fs s q bt rg) 176 1 24 (aa 32 fr):=bQ (pre:= #[.iface 115 (aT kp)]) (post:=aa 32 fs++stR s q ++ #[.int .i64 bt]++aa 32 rg) (by simp only[coR,Xb]) rfl
instance PV:Part (coR kp fr fs s q bt rg) 176 33 24 (aa 32 fs):=bQ (pre:= #[.iface 115 (aT kp)]++aa 32 fr) (post:=stR s q ++ #[.int .i64 bt]++aa 32 rg) (by simp only[coR,Xb]) ϔ
instance PW:Part (coR kp fr fs s q bt rg) 176 65 58 (stR s q):=bQ (pre:= #[.iface 115 (aT kp)]++aa 32 fr++aa 32 fs) (post:= #[.int .i64 bt]++aa 32 rg) (by simp only[coR,Xb]) ϔ
instance PX(s':Sta)(q':Sq):Splice (coR kp fr fs s q bt rg) 65 (stR s' q') (coR kp fr fs s' q' bt rg):=by
 have:=cq (#[.iface 115 (aT kp)]++aa 32 fr++aa 32 fs) (stR s q) (stR s' q') (#[.int .i64 bt]++aa 32 rg) 65 ϔ rfl;simpa only[coR,Xb] using this
end
instance PY:ScTy 109:=⟨fun w=>by kernel_rfl,Θ⟩
instance PZ:ScTy 122:=⟨fun w=>by kernel_rfl,Θ⟩
instance P8:ScTy 116:=⟨fun w=>by kernel_rfl,Θ⟩
instance P9:ScTy 172:=⟨fun w=>by kernel_rfl,Θ⟩
class SeeS(D:ϑ)(M:Mem)(s:Sta)(q:Sq):Prop where
 r:See D M (.slice q.pr s.rv.length q.cr) (cj s.rv)
 a:See D M (.slice q.p0 s.m0.length q.c0) (ak s.m0)
 b:See D M (.slice q.p1 s.m1.length q.c1) (ak s.m1)
 zr:s.rv=[]→q.pr=none
 za:s.m0=[]→q.p0=none
 zb:s.m1=[]→q.p1=none
theorem SeeS.read{D w:ϑ}{M:Mem}{s:Sta}{q:Sq}(h:SeeS D M s q)(I:Loc D w M):ReadS w s q:=by
 have:=h.r;have:=h.a;have:=h.b;exact IU I h.zr h.za h.zb
instance Nr(D:ϑ)(x:Nat×Ψ×ϋ)(M:Mem)(s:Sta)(q:Sq)[h:SeeS D M s q]:SeeS D (x::M) s q:=⟨by have:=h.r;infer_instance,by have:=h.a;infer_instance,by have:=h.b;infer_instance,h.zr,h.za,h.zb⟩
instance Oj(D:ϑ)(S M:Mem)(s:Sta)(q:Sq)[h:SeeS D M s q]:SeeS D (S++M) s q:=⟨by have:=h.r;infer_instance,by have:=h.a;infer_instance,by have:=h.b;infer_instance,h.zr,h.za,h.zb⟩
theorem HoldQ.sees{Sr S0 S1:Mem}{s:Sta}{q:Sq}(h:HoldQ Sr S0 S1 s q)(D:ϑ)(M:Mem):SeeS D (S1++(S0++(Sr++M))) s q:=by
 have:=h.r;have:=h.a;have:=h.b;exact⟨Ϙ,Ϙ,Ϙ,h.zr,h.za,h.zb⟩
theorem ru(D:ϑ)(M:Mem):SeeS D M Sta.new Sq.none:=⟨qp _ _,qp _ _,qp _ _,fun _=>rfl,fun _=>rfl,fun _=>rfl⟩
class CoM(F:ύ)(bf bb bo bk kp a0 a1 cc:Nat):Prop where
 a:∀x y z u c,At (F x y z u c) bf x 106
 u:∀x y z u c x',Ups (F x y z u c) bf x' (F x' y z u c)
 b:∀x y z u c,At (F x y z u c) bb y 5
 v:∀x y z u c y',Ups (F x y z u c) bb y' (F x y' z u c)
 o:∀x y z u c,At (F x y z u c) bo z 108
 p:∀x y z u c z',Ups (F x y z u c) bo z' (F x y z' u c)
 q:∀x y z u c,At (F x y z u c) bk u 166
 r:∀x y z u c u',Ups (F x y z u c) bk u' (F x y z u' c)
 g:∀x y z u c,At (F x y z u c) cc c 176
 h:∀x y z u c c',Ups (F x y z u c) cc c' (F x y z u c')
 k:∀x y z u c,At (F x y z u c) kp (kpR bo bk a0 a1) 119
 l:∀x y z u c,At (F x y z u c) a0 (arR bf 64) 170
 m:∀x y z u c,At (F x y z u c) a1 (arR bf 96) 170
instance coM(F:ύ)(bf bb bo bk kp a0 a1 cc:Nat)[h1:∀x y z u c,At (F x y z u c) bf x 106][h2:∀x y z u c x',Ups (F x y z u c) bf x' (F x' y z u c)][h3:∀x y z u c,At (F x y z u c) bb y 5][h4:∀x y z u c y',Ups (F x y z u c) bb y' (F x y' z u c)][h5:∀x y z u c,At (F x y z u c) bo z 108][h6:∀x y z u c z',Ups (F x y z u c) bo z' (F x y z' u c)][h7:∀x y z u c,At (F x y z u c) bk u 166][h8:∀x y z u c u',Ups (F x y z u c) bk u' (F x y z u' c)][h9:∀x y z u c,At (F x y z u c) cc c 176][ha:∀x y z u c c',Ups (F x y z u c) cc c' (F x y z u c')][hb:∀x y z u c,At (F x y z u c) kp (kpR bo bk a0 a1) 119][hc:∀x y z u c,At (F x y z u c) a0 (arR bf 64) 170][hd:∀x y z u c,At (F x y z u c) a1 (arR bf 96) 170]:CoM F bf bb bo bk kp a0 a1 cc:=⟨h1,h2,h3,h4,h5,h6,h7,h8,h9,ha,hb,hc,hd⟩
structure Dv where
 er:Int
 pr:Int
 y:Ψ
 f:Nat→Γ
 n:Int
 m:Int
 p:Option Addr
 kn:Nat
 kc:Nat
 φ:Int
 s:Sta
 q:Sq
 bt:Int
 rg:Nat→Γ
structure Dv.Ok(d:Dv):Prop where
 er:0≤d.er∧d.er≤1099511627776
 pr:0≤d.pr∧d.pr≤1099511627776
 fl:Fl d.f d.y
 n:0≤d.n
 le:d.n≤d.m
 m:d.m≤1048576
 φ:d.φ=0∨d.φ=1
 good:Good d.s
abbrev Dv.at(d:Dv)(F:ύ)(bf bb bo kp:Nat)(fr fs:Φ):Mem :=
 F (flR bb d.er d.pr) d.y (otR bf fr fs d.n d.m) (bkR bf bo d.p d.kn d.kc d.φ) (coR kp fr fs d.s d.q d.bt d.rg)
structure Dv.Next(d d':Dv):Prop where
 ok:d'.Ok
 n:d'.n=d.n+1
 m:d'.m=d.m
 f:∀i,16384≤i→d'.f i=d.f i
 bt:d'.bt=d.bt
 rg:d'.rg=d.rg
section
variable {D w:ϑ} {F:ύ} {bf bb bo bk kp a0 a1 cc:Nat} {fr fs:Φ}
theorem Gk(hF:CoM F bf bb bo bk kp a0 a1 cc)(d:Dv)(ok:d.Ok)(I:Loc D w (d.at F bf bb bo kp fr fs)) :
 ϓ 340 #[aT kp] w fun e Z=>e= .returned (.int .i64 (d.m-d.n))∧Loc D Z (d.at F bf bb bo kp fr fs):=by
 have hA:=hF.a;have hU:=hF.u;have hB:=hF.b;have hV:=hF.v;have hO:=hF.o;have hPP:=hF.p;have hKK:=hF.k;obtain⟨_,_,_,h1,h2,h3,_,_⟩:=ok;obtain⟨er,pr,y,f,n,m,p,kn,kc,φ,s,q,bt,rg⟩:=d;dsimp only[Dv.at]at *
 have hw:IntKind.i64.wrap (m-n)=m-n:=W3 _ Ω;go_enter func340,ntmps340;go_wp2_with (first|refine aU ?_|refine ab fun J I=>?_);refine Ϭ 12 I fun H I=>?_;refine uG 0 ?_;refine uG 5 ?_;refine uG 1 ?_;refine uG 6 ?_;refine uG 2 ?_;refine uG 7 ?_;refine uZ 3 ?_;refine uZ 8 ?_;refine rd1 4 fun K T=>?_;refine eK (ks (F:=fun x y z=>F x y z (bkR bf bo p kn kc φ) (coR kp fr fs s q bt rg)) (bf:=bf) (bb:=bb) I) ?_;rintro e J⟨rfl,Y⟩;refine⟨_,rfl,?_⟩;refine Ϫ Y fun I=>?_;refine kO T (I) fun H=>?_;refine rd1 9 fun K T=>?_;refine eK (eW (F:=fun x y z=>F x y z (bkR bf bo p kn kc φ) (coR kp fr fs s q bt rg)) (bf:=bf) (bb:=bb) I) ?_;rintro e J⟨rfl,Y⟩;refine⟨_,rfl,?_⟩;refine Ϫ Y fun I=>?_;refine kO T (I) fun H=>?_;refine uG 10 ?_;refine uG 11 ?_;refine wD ?_;clear H;go_wp2_with fail
 all_goals(go_ret;exact⟨rfl,I⟩)
theorem Gl(hF:CoM F bf bb bo bk kp a0 a1 cc)(d:Dv)(ok:d.Ok)(hlt:d.n<d.m)(s':Sta)(q':Sq)(hg:Good s')(hS:∀x y z u c,SeeS D (F x y z u c) s' q')(I:Loc D w (d.at F bf bb bo kp fr fs)) :
 ϓ 339 #[aT kp,.agg (stR s' q')] w fun e Z=>e= .returned (.int .i64 0)∧∃d',d.Next d'∧d'.s=d.s∧d'.q=d.q∧Loc D Z (d'.at F bf bb bo kp fr fs):=by
 have hA:=hF.a;have hU:=hF.u;have hB:=hF.b;have hV:=hF.v;have hO:=hF.o;have hPP:=hF.p;have hQ:=hF.q;have hRR:=hF.r;have hKK:=hF.k;obtain⟨he,hp,hy,h1,h2,h3,hh,hgd⟩:=ok;obtain⟨er,pr,y,f,n,m,p,kn,kc,φ,s,q,bt,rg⟩:=d;dsimp only[Dv.at]at *
 have HPK:=Hd (fun J (h:Loc D J (F (flR bb er pr) y (otR bf fr fs n m) (bkR bf bo p kn kc φ) (coR kp fr fs s q bt rg)))=>Gi s' q' J ((hS _ _ _ _ _).read h) hg);have χ:=rr s';have hlen0:s'.m0.length≤300:=by rcases hg.s0 with⟨h,_⟩|⟨h,_⟩ <;> omega
 have hlen1:s'.m1.length≤300:=by rcases hg.s1 with⟨h,_⟩|⟨h,_⟩ <;> omega
 have hlen2:=hg.n;have hb0:0<(stB s').length:=Ω;have V:(stB s').length≤4096:=Ω;clear χ hlen0 hlen1 hlen2;generalize stB s'=l at *
 obtain⟨k,hk2,hkh⟩:∃k:Nat,k<2∧1-φ=k:=by rcases hh with rfl|rfl;exact⟨1,Ω,rfl⟩;exact⟨0,Ω,rfl⟩
 have HKH:=Hd hkh;have HK:φ=1-k:=Ω;have hks:(k:Int)=0∨(k:Int)=1:=Ω;have HKS:=Hd hks;clear hkh HK hks hh;go_enter func339,ntmps339;go_wp2_with (first|refine aU ?_|refine gBp 3 fun b3 J I=>?_|(refine gN 9 ?_;refine lKk (HPK.out _ I.pop) ?_;rintro e J⟨g9,Y9,Z9,rfl,W9,hN⟩;refine Ϩ (I.join hN) fun I=>?_)|(refine gN 20 ?_;refine lKk (Gf (F:=fun x y z u=>(g9,Z9,5)::(b3,stR s' q',58)::F x y z u (coR kp fr fs s q bt rg)) (bf:=bf) (bb:=bb) (bo:=bo) (bk:=bk) (l:=l) hk2 HKH.out hb0 V (fun x y z u=>Ϙ) h1 hlt h3 he hp hy I) ?_;rintro e J⟨rfl,g,W,E,er2,pr2,f2,y2,hr,he2,hp2,hf2,hy2,Y⟩;refine Ϥ Y fun I=>?_)|refine ab fun J I=>?_)
 all_goals(go_ret;exact⟨rfl,⟨er2,pr2,y2,f2,n+1,m,some ⟨g,0,none⟩,l.length,W,k,s,q,bt,rg⟩,⟨⟨he2,hp2,hy2,by dsimp only;omega,by dsimp only;omega,h3,HKS.out,hgd⟩,rfl,rfl,hf2,rfl,rfl⟩,rfl,rfl,Loc.rem b3 (Loc.rem g9 (Loc.rem g I))⟩)
end
class Inv(name:String)(t:ϋ)(l:List Value)(f:outParam FuncId):Prop where
 run:∀v w,(invoke (.fn (.method name) #[]) (.iface t v::l).toArray).run prog w= .ok (.enter f (v::l).toArray) w
instance Ts:Inv "Left" 115 [] 340:=⟨fun v w=>by kernel_rfl⟩
instance Tt(a:ό):Inv "Keep" 115 [a] 339:=⟨fun v w=>by kernel_rfl⟩
instance Tu(a b:ό):Inv "Raw" 115 [a,b] 341:=⟨fun v w=>by kernel_rfl⟩
instance Tv(a b c:ό):Inv "Write" 115 [a,b,c] 342:=⟨fun v w=>by kernel_rfl⟩
section
variable {ops:Array Oper} {rest:List Oper} {o:Oper} {a:Act} {D w:ϑ} {M M':Mem} {Q:ώ} {K:Act→ϑ→Prop}
theorem IW{x:Operand}{name:String}{xs:Array Operand}{ts:Array TypeId}(ho:o.op= .call { callee:= .invoke x name,args:=xs,argTypes:=ts }){t:ϋ}{v:ό}(hx:a.eval x= .iface t v){l:List Value}{f:FuncId}[hi:Inv name t l f](hc:ϓ f (v::l).toArray w fun e Z=>∃v,e= .returned v∧K (a.put o.dst v) Z)(hxs:xs.toList.map a.eval=l):o.wp prog a w K Q:=by
 have e: #[a.eval x]++xs.map a.eval=(.iface t v::l).toArray:=by rw[← ZK,YJ,ZJ,hxs,hx];rfl
 unfold Oper.wp execOp;simp only[ho,resolve,Sem.run_bind,Sem.run_pure,Result.andThen_ok,e,hi.run,Zz];refine hc.mono fun e Z hh=>?_;obtain⟨v,rfl,h⟩:=hh;exact h
theorem Qa(hg:o.guard=none){x:Operand}{name:String}{xs:Array Operand}{ts:Array TypeId}(ho:o.op= .call { callee:= .invoke x name,args:=xs,argTypes:=ts }){t:ϋ}{v:ό}(hx:a.eval x= .iface t v){l:List Value}{f:FuncId}[hi:Inv name t l f](hc:ϓ f (v::l).toArray w fun e Z=>∃v,e= .returned v∧wpList prog ops Q rest (a.put o.dst v) Z)(hxs:xs.toList.map a.eval=l):wpList prog ops Q (o::rest) a w :=
 Xt hg fun _ T=>IW ho hx (hc.mono fun e Z ⟨v,h1,h2⟩=>⟨v,h1,T _ _ h2⟩) hxs
end
class HeldC(S:ϑ→Prop)(b k:Nat)(v:outParam Value):Prop where
 cell:∀w,S w→w.cell? ⟨b,k,none⟩=some v
instance Tw(D:ϑ)(M:Dv→Mem)(b k:Nat)(r:Dv→Ψ)(u:ϋ)(v:ό)[h:∀d,At (M d) b (r d) u][hc:∀d,Cell (r d) k v]:HeldC (fun w=>∃d,Loc D w (M d)) b k v:=⟨fun w ⟨d,hS⟩=>by rw[Ya w b k _ _ _ (hS.get (h d).mem)];exact(hc d).cell⟩
instance Tx(D:ϑ)(M:Dv→Mem)(b:Nat)(r:Ψ)(u:ϋ)[h:∀x,At (M x) b r u]:Held (fun w=>∃x,Loc D w (M x)) b r u:=⟨fun w ⟨x,hS⟩=>hS.get (h x).mem⟩
theorem zC{ops:Array Oper}{o:Oper}{a:Act}{S:ϑ→Prop}(hw:Region.wanted o (yielded ops a.tmps)=true){t:ϋ}{x:Operand}(ho:o.op= .load t x){b k:Nat}(hx:a.eval x= .pointer (some ⟨b,k,none⟩)){v:ό}[ht:ScTy t][hm:HeldC S b k v] :
 YieldsIf prog ops S o v a:= .inl ⟨hw,fun w hS=>by
 unfold execOp;have:=cO (t:=t) (w:=w) (b:=b) (k:=k) (v:=v) (hm.cell w hS);simp only[ho,hx,Instr.loadAt,Instr.sureAddr,Sem.run_bind,Sem.run_pure,Result.andThen_ok,this]⟩
section
variable {D w:ϑ} {F:ύ} {bf bb bo bk kp a0 a1 cc:Nat} {fr fs:Φ}
theorem xP(hF:CoM F bf bb bo bk kp a0 a1 cc)(d:Dv)(ok:d.Ok)(hS:∀x y z u c,SeeS D (F x y z u c) d.s d.q)(I:Loc D w (d.at F bf bb bo kp fr fs)) :
 ϓ 63 #[aT cc] w fun e Z=>∃q' Sr S0 S1,e= .returned (.agg (stR d.s q'))∧HoldQ Sr S0 S1 d.s q'∧Loc D Z (S1++(S0++(Sr++d.at F bf bb bo kp fr fs))):=by
 have hG:=hF.g;have hg:=ok.good;have hlen0:d.s.m0.length≤300:=by rcases hg.s0 with⟨h,_⟩|⟨h,_⟩ <;> omega
 have hlen1:d.s.m1.length≤300:=by rcases hg.s1 with⟨h,_⟩|⟨h,_⟩ <;> omega
 have hlen2:=hg.n;have HC:=Hd (fun J (h:Loc D J (d.at F bf bb bo kp fr fs))=>rq d.s d.q J ((hS _ _ _ _ _).read h) Ω Ω Ω);clear hg ok hlen0 hlen1 hlen2;obtain⟨er,pr,y,f,n,m,p,kn,kc,φ,s,q,bt,rg⟩:=d;obtain⟨fl,rv,m0,d0,t0,m1,d1,t1,ac⟩:=s;dsimp only[Dv.at]at *
 go_enter func63,ntmps63;go_wp2_with (first|refine aU ?_|refine gBp 2 fun b2 J I=>?_|(refine gN 7 ?_;refine lKk (HC.out _ I.pop) ?_;rintro e J⟨⟨pr',cr',p0',c0',p1',c1'⟩,Sr,S0,S1,rfl,hQ,hN⟩;refine Ϩ (I.join hN) fun I=>?_)|refine ab fun J I=>?_);exact Ϣ (aj rfl I rfl) rfl ⟨⟨pr',cr',p0',c0',p1',c1'⟩,Sr,S0,S1,rfl,hQ,Loc.rem b2 I⟩
theorem ku(hF:CoM F bf bb bo bk kp a0 a1 cc)(d:Dv)(ok:d.Ok)(id:Int)(hS:∀x y z u c,SeeS D (F x y z u c) d.s d.q)(I:Loc D w (d.at F bf bb bo kp fr fs)) :
 ϓ 158 #[aT cc,.int .i64 id] w fun e Z=>e= .returned (.bool (decide (id∈d.s.rv)))∧Loc D Z (d.at F bf bb bo kp fr fs):=by
 have hG:=hF.g;have hlen2:=ok.good.n;have HC:=Hd (fun J (h:Loc D J (d.at F bf bb bo kp fr fs))=>vB d.q.pr d.q.cr d.s.rv id J ((hS _ _ _ _ _).read h).r Ω);clear ok hlen2 hS;obtain⟨er,pr,y,f,n,m,p,kn,kc,φ,s,q,bt,rg⟩:=d;obtain⟨fl,rv,m0,d0,t0,m1,d1,t1,ac⟩:=s;obtain⟨pr',cr',p0',c0',p1',c1'⟩:=q;dsimp only[Dv.at]at *
 go_enter func158,ntmps158;go_wp2_with (first|refine aU ?_|(refine gN 11 ?_;refine lV (HC.out _ I) I fun J I=>?_)|refine ab fun J I=>?_)
 all_goals(go_ret;exact⟨rfl,I⟩)
theorem rx(hF:CoM F bf bb bo bk kp a0 a1 cc)(d:Dv)(ok:d.Ok)(hlt:d.n<d.m)(s':Sta)(q':Sq)(hg:Good s')(hS:∀x y z u c,SeeS D (F x y z u c) s' q')(I:Loc D w (d.at F bf bb bo kp fr fs)) :
 ϓ 161 #[aT cc,.agg (stR s' q')] w fun e Z=>e= .returned (.int .i64 0)∧∃d',d.Next d'∧d'.s=s'∧d'.q=q'∧Loc D Z (d'.at F bf bb bo kp fr fs):=by
 have hG:=hF.g;have hH:=hF.h;have hA:=hF.a;have hU:=hF.u;have hB:=hF.b;have hV:=hF.v;have hO:=hF.o;have hPP:=hF.p;have hQ:=hF.q;have hRR:=hF.r;have hKK:=hF.k;have hll:=hF.l;have hmm:=hF.m;have HL:=Hd (fun(b:Nat) J (h:Loc D J ((b,stR s' q',58)::d.at F bf bb bo kp fr fs))=>Gk (F:=fun x y z u c=>(b,stR s' q',58)::F x y z u c) (bf:=bf) (bb:=bb) (bo:=bo) (bk:=bk) (kp:=kp) (a0:=a0) (a1:=a1) (cc:=cc) (fr:=fr) (fs:=fs) Ϙ d ok h);have HK:=Hd (fun(b:Nat) J (h:Loc D J ((b,stR s' q',58)::d.at F bf bb bo kp fr fs))=>Gl (F:=fun x y z u c=>(b,stR s' q',58)::F x y z u c) (bf:=bf) (bb:=bb) (bo:=bo) (bk:=bk) (kp:=kp) (a0:=a0) (a1:=a1) (cc:=cc) (fr:=fr) (fs:=fs) Ϙ d ok hlt s' q' hg (fun x y z u c=>Ϙ) h);have q1:¬d.m-d.n<1:=Ω;clear hS;obtain⟨er,pr,y,f,n,m,p,kn,kc,φ,s,q,bt,rg⟩:=d;dsimp only[Dv.at]at HL HK I q1;go_enter func161,ntmps161;go_wp2_with (first|refine aU ?_|(refine gBp 3 ?_;clear I;intro b3 J I)|(refine gN 10 ?_;go_loud (refine Qa rfl rfl rfl ((HL.out _ _ I).mono ?_) rfl);rintro e J⟨rfl,Y⟩;clear I;revert Y;refine aE ?_;intro I)|(refine ab ?_;clear I;intro J I));refine mX (S:=fun Z=>∃d:Dv,Loc D Z ((b3,stR s' q',58)::d.at F bf bb bo kp fr fs)) 7 (⟨⟨er,pr,y,f,n,m,p,kn,kc,φ,s,q,bt,rg⟩,I.drew⟩) ?_;intro H;replace I:=I.drew;refine uG 0 ?_;refine uZ 4 ?_;refine uG 1 ?_;refine uG 2 ?_;refine uZ 3 ?_;refine rd1 5 fun K T=>?_;refine IW rfl rfl ((HK.out _ _ I).mono ?_) (by first|rfl|(simp only[List.map_cons,List.map_nil];rfl));rintro e J⟨rfl,d2,hNx,hs2,hq2,Y⟩;refine⟨_,rfl,?_⟩;clear I;revert Y;refine aN ?_;intro I;refine kO T (⟨d2,I⟩) ?_;clear T K H;intro H;refine uG 6 ?_;refine wD ?_;clear H;obtain⟨er2,pr2,y2,f2,n2,m2,p2,kn2,kc2,half2,s2,q2,bt2,rg2⟩:=d2;dsimp only at hs2 hq2 I;subst hs2;subst hq2;obtain⟨ok2,hn2,hm2,hf2,hb2,hr2⟩:=hNx;obtain⟨o1,o2,o3,o4,o5,o6,o7,o8⟩:=ok2;clear HL HK;go_wp2_with (first|refine aU ?_|(refine ab ?_;clear I;intro J I))
 all_goals(go_ret;exact⟨rfl,⟨er2,pr2,y2,f2,n2,m2,p2,kn2,kc2,half2,s',q',bt2,rg2⟩,⟨⟨o1,o2,o3,o4,o5,o6,o7,hg⟩,hn2,hm2,hf2,hb2,hr2⟩,rfl,rfl,Loc.rem b3 I⟩)
end
instance Ty:Ent 63:=eo func63
instance Tz:Ent 158:=eo func158
instance TA:Ent 161:=eo func161
theorem ry(S1 S0 Sr M:Mem)(e:Nat×Ψ×ϋ):List.Perm (S1++(S0++(Sr++(e::M)))) (e::(S1++(S0++(Sr++M)))):=by
 have:=(Zq (a:=e) (l₁:=S1++S0++Sr) (l₂:=M));simpa[Xc] using this
theorem Gm{s:Sta}(h:Good s){id:Int}(hid:eX id)(hx:∀i (h:i<s.rv.length),s.rv[i]<id)(hn:s.rv.length<32):Good (s.add id) where
 fl:=h.fl
 n:=by show(s.rv++[id]).length≤32;simp;omega
 ids:=fun i hi=>by
  change i<(s.rv++[id]).length at hi;show eX (s.rv++[id])[i];rw[List.getElem_append];split
  ·exact h.ids i _
  ·simp;exact hid
 up:=fun i hi=>by
  change i+1<(s.rv++[id]).length at hi;show(s.rv++[id])[i]<(s.rv++[id])[i+1];simp at hi;rw[YB Ω];rcases XI (i+1) s.rv.length with h1|h1
  ·rw[YB h1];exact h.up i h1
  ·rw[Zy h1]
   simp;exact hx i Ω
 ac:=h.ac
 s0:=h.s0
 s1:=h.s1
theorem Gn{l:List Int}{x:Int}(hx:∀i (h:i<l.length),l[i]<x):decide (x∈l)=false:=by
 rw[decide_eq_false_iff_not];intro h;obtain⟨i,hi,e⟩:=List.getElem_of_mem h;have:=hx i hi;omega
section
variable {D w:ϑ} {F:ύ} {bf bb bo bk kp a0 a1 cc:Nat} {fr fs:Φ}
theorem vC(hF:CoM F bf bb bo bk kp a0 a1 cc)(d:Dv)(ok:d.Ok)(hlt:d.n<d.m)(hS:∀x y z u c,SeeS D (F x y z u c) d.s d.q)(id:Int)(fg:Φ)(hid:eX id)(hx:∀i (h:i<d.s.rv.length),d.s.rv[i]<id)(h32:d.s.rv.length<32)(hok:dQ fr id fg=true){p:ϊ}{n c:Nat}(hv:∀x y z u e,See D (F x y z u e) (.slice p n c) (ak (ef id fg)))(I:Loc D w (d.at F bf bb bo kp fr fs)) :
 ϓ 101 #[aT cc,.slice p n c] w fun e Z =>
  e= .returned (.int .i64 0)∧∃d' Sr S0 S1,d.Next d'∧d'.s=d.s.add id∧HoldQ Sr S0 S1 d'.s d'.q∧Loc D Z (S1++(S0++(Sr++d'.at F bf bb bo kp fr fs))):=by
 have hG:=hF.g;have hH:=hF.h;have hA:=hF.a;have hU:=hF.u;have hB:=hF.b;have hV:=hF.v;have hO:=hF.o;have hPP:=hF.p;have hQ:=hF.q;have hRR:=hF.r;have hKK:=hF.k;have hll:=hF.l;have hmm:=hF.m;have hmay:fH id=true:=by unfold fH;rw[Xw];exact hid
 have HRS:=Hd (fun J (h:BRow J (.slice p n c) (ef id fg))=>m8 id fg _ J hid.1 hid.2 h);have HCK:=Hd (fun J=>by have:=lh fr id fg J hmay;rw[hok]at this;exact this);have HRV:=Hd (fun(b:Nat) (r:Ψ) J (h:Loc D J ((b,r,98)::d.at F bf bb bo kp fr fs))=>by
  have:=ku (F:=fun x y z u c=>(b,r,98)::F x y z u c) (bf:=bf) (bb:=bb) (bo:=bo) (bk:=bk) (kp:=kp) (a0:=a0) (a1:=a1) (cc:=cc) (fr:=fr) (fs:=fs) Ϙ d ok id (fun x y z u c=>Ϙ) h;rw[Gn hx]at this;exact this)
 have HNW:=Hd (fun J (h:Loc D J (d.at F bf bb bo kp fr fs))=>Al d.s d.q id J ((hS _ _ _ _ _).read h) ok.good hid hx);have hga:=Gm ok.good hid hx h32;have HCH:=Hd (fun(b7 b5:Nat) (r7 r5:Ψ) (q':Sq) (Sr S0 S1:Mem) (hQ:HoldQ Sr S0 S1 (d.s.add id) q') J (h:Loc D J ((b7,r7,58)::(S1++(S0++(Sr++((b5,r5,98)::d.at F bf bb bo kp fr fs)))))) =>
  rx (F:=fun x y z u c=>(b7,r7,58)::(S1++(S0++(Sr++((b5,r5,98)::F x y z u c))))) (bf:=bf) (bb:=bb) (bo:=bo) (bk:=bk) (kp:=kp) (a0:=a0) (a1:=a1) (cc:=cc) (fr:=fr) (fs:=fs) Ϙ d ok hlt (d.s.add id) q' hga (fun x y z u c=>by haveI:=hQ.sees D ((b5,r5,98)::F x y z u c);infer_instance) h)
 have HD:=Hd (fun d' (h:d.Next d')=>h);clear hS hga hmay hok hx ok hid;generalize d.s.add id=s2 at *
 obtain⟨er,pr,y,f,nn,m,kpp,kn,kc,φ,s,q,bt,rg⟩:=d;dsimp only[Dv.at]at HRV HNW HCH I h32;have HNX:=Hd (fun J h=>(HNW.out J h).mono fun e Z hh=>hh.1 h32);clear HNW;go_enter func101,ntmps101;go_wp2_with (first|refine aU ?_|refine gBp 5 fun b5 J I=>?_|(refine gN 10 ?_;refine lV (HRS.out _ (See.bytes I)) I fun J I=>?_)|refine ab fun J I=>?_);refine Ϭ 8 I fun H I=>?_;refine uG 0 ?_;refine uZ 4 ?_;refine uG 1 ?_;refine uG 2 ?_;refine uZ 3 ?_;refine rd1 5 fun K T=>?_;refine eVv (HCK.out _) I fun J I=>?_;refine kO T (I) fun H=>?_;refine uG 6 ?_;refine uG 7 ?_;refine wD ?_;clear H;go_wp2_with (first|refine aU ?_|(refine gN 28 ?_;refine lO (HRV.out _ _ _ I) fun J I=>?_)|refine ab fun J I=>?_);refine eQ (R:=?R) (fun hR=>?h1) ?h2;case h1 =>
  refine mX (S:=fun Z=>Loc D Z ((b5,bR id fg,98)::F (flR bb er pr) y (otR bf fr fs nn m) (bkR bf bo kpp kn kc φ) (coR kp fr fs s q bt rg))) 13 ϒ ?_;intro H;replace I:=I.drew;refine uG 0 ?_;refine uG 4 ?_;refine uG 1 ?_;refine uZ 5 ?_;refine uG 2 ?_;refine uZ 3 ?_;refine rd2 6 10 ?_ ?_
  ·intro K T
   refine eK (HNX.out _ ϒ) ?_;rintro e J⟨q',Sr,S0,S1,rfl,hQ,hN⟩;refine⟨_,rfl,?_⟩;have Y:=I.join hN;clear hN I;revert Y;refine aJ ?_;intro I;refine kO T ϒ ?_;clear T K H;intro H;refine uG 7 ?_;refine uG 8 ?_;refine uG 9 ?_;refine rd1 10 fun K T=>?_;refine eA I rfl ?_;clear I;intro b7 J I;refine kO T ϒ ?_;clear T K H;intro H;refine rd1 11 fun K T=>?_;refine cY ?_;clear I;intro J I;refine kO T ϒ ?_;clear T K H;intro H;refine uG 12 ?_;refine wD ?_;clear H
   first|(have hLp:=I;clear I;revert hLp;revert J;revert b7;revert hQ;revert S1;revert S0;revert Sr;revert q';exact hR)|(have hLp:=I.perm (List.Perm.swap _ _ _);clear I;revert hLp;revert J;revert b7;revert hQ;revert S1;revert S0;revert Sr;revert q';exact hR)|(have hLp:=I.perm (List.Perm.cons _ (List.Perm.swap _ _ _));clear I;revert hLp;revert J;revert b7;revert hQ;revert S1;revert S0;revert Sr;revert q';exact hR)|(have hLp:=I.perm (ry _ _ _ _ _);clear I;revert hLp;revert J;revert b7;revert hQ;revert S1;revert S0;revert Sr;revert q';exact hR)|(have hLp:=I.perm Zq;clear I;revert hLp;revert J;revert b7;revert hQ;revert S1;revert S0;revert Sr;revert q';exact hR)
  ·intro K T
   refine eA I rfl ?_;clear I;intro b7 J I;refine kO T ϒ ?_;clear T K H;intro H;refine rd1 6 fun K T=>?_;refine eK (HNX.out _ ϒ) ?_;rintro e J⟨q',Sr,S0,S1,rfl,hQ,hN⟩;refine⟨_,rfl,?_⟩;have Y:=I.join hN;clear hN I;revert Y;refine aJ ?_;intro I;refine kO T ϒ ?_;clear T K H;intro H;refine uG 7 ?_;refine uG 8 ?_;refine uG 9 ?_;refine rd1 11 fun K T=>?_;refine cY ?_;clear I;intro J I;refine kO T ϒ ?_;clear T K H;intro H;refine uG 12 ?_;refine wD ?_;clear H
   first|(have hLp:=I;clear I;revert hLp;revert J;revert b7;revert hQ;revert S1;revert S0;revert Sr;revert q';exact hR)|(have hLp:=I.perm (List.Perm.swap _ _ _);clear I;revert hLp;revert J;revert b7;revert hQ;revert S1;revert S0;revert Sr;revert q';exact hR)|(have hLp:=I.perm (List.Perm.cons _ (List.Perm.swap _ _ _));clear I;revert hLp;revert J;revert b7;revert hQ;revert S1;revert S0;revert Sr;revert q';exact hR)|(have hLp:=I.perm (ry _ _ _ _ _);clear I;revert hLp;revert J;revert b7;revert hQ;revert S1;revert S0;revert Sr;revert q';exact hR)|(have hLp:=I.perm Zq;clear I;revert hLp;revert J;revert b7;revert hQ;revert S1;revert S0;revert Sr;revert q';exact hR)
 intro q' Sr S0 S1 hQ b7 J Y;clear I;have I:=Y;clear Y;go_wp2_with (first|refine aU ?_|(refine gN 44 ?_;refine lKk (HCH.out b7 b5 _ _ q' Sr S0 S1 hQ _ I) ?_;rintro e J⟨rfl,d2,hNx,hs2,hq2,Y⟩;refine Ϥ Y fun I=>?_)|refine ab fun J I=>?_);have hQ2:HoldQ Sr S0 S1 d2.s d2.q:=by rw[hs2,hq2];exact hQ
 have Y:=Loc.rem b5 (Loc.rem b7 I)
 all_goals(go_ret;first|exact⟨rfl,d2,Sr,S0,S1,hNx,hs2,hQ2,Y⟩|exact⟨rfl,d2,hNx,hs2,Sr,S0,S1,hQ2,Y⟩)
end
instance TB:Ent 101:=eo func101
section
variable {ops:Array Oper} {rest:List Oper} {o:Oper} {a:Act} {D w:ϑ} {M M':Mem} {Q:ώ} {K:Act→ϑ→Prop}
theorem rz(I:Loc D w M){d s:Operand}{t e:ϋ}(ho:o.op= .call { callee:= .builtin .copy,args:= #[d,s],argTypes:= #[t,t] })[he:Elt t e]{p:ϊ}{n c:Nat}(hd:a.eval d= .slice p n c)(hs:a.eval s= .slice none 0 0)(h:∀Z,Loc D Z M→K (a.put o.dst (.int .i64 0)) Z):o.wp prog a w K Q:=by
 obtain⟨i,z,hi,hz,hs1,hbb,hzs⟩:=he.info;have hrun:=run_copy_none (P:=prog) w t t o.type e p none n c 0 0 he.und (by rw[hi];simp[hs1]) (Nat.zero_min _);unfold Oper.wp execOp;simp only[ho,resolve,invoke,builtin,Sem.run_bind,Sem.run_pure,Result.andThen_ok,List.map_toArray,List.map_cons,List.map_nil,hd,hs,hrun];exact h w I
end
def mfR(ν ζ:Int)(ρ:Φ)(p:ϊ)(n c:Nat)(id:Int)(κ cs sg:Φ):Ψ:= #[.int .i64 ν,.int .i64 ζ]++aa 32 ρ ++ #[.slice p n c,.int .i64 id]++aa 32 κ++aa 64 cs++aa 64 sg
abbrev mfZ:Ψ:=mfR 0 0 (fun _=>0) none 0 0 0 (fun _=>0) (fun _=>0) (fun _=>0)
section
variable (ν ζ:Int) (ρ:Φ) (p:ϊ) (n c:Nat) (id:Int) (κ cs sg:Φ)
theorem fW:(mfR ν ζ ρ p n c id κ cs sg).size=196:=by simp[mfR,ai]
instance TC:Row1 (mfR ν ζ ρ p n c id κ cs sg) 196:=⟨fW _ _ _ _ _ _ _ _ _ _,by
 unfold mfR;simp only[Zt,bS];simp[Value.oneCell']⟩
theorem BT{k:Nat}(h:k<2):(mfR ν ζ ρ p n c id κ cs sg)[k]?=(#[Value.int .i64 ν,.int .i64 ζ]:Ψ)[k]?:=by
 unfold mfR;rw[Array.getElem?_append_left (by simp[ai];omega),Array.getElem?_append_left (by simp[ai];omega),Array.getElem?_append_left (by simp[ai];omega),Array.getElem?_append_left (by simp[ai];omega),Array.getElem?_append_left Ϟ]
theorem BU{k:Nat}(h:k<2):(mfR ν ζ ρ p n c id κ cs sg)[34+k]?=(#[Value.slice p n c,.int .i64 id]:Ψ)[k]?:=by
 unfold mfR;rw[Array.getElem?_append_left (by simp[ai];omega),Array.getElem?_append_left (by simp[ai];omega),Array.getElem?_append_left (by simp[ai];omega),Array.getElem?_append_right ϔ];simp[ai]
instance TD:Cell (mfR ν ζ ρ p n c id κ cs sg) 0 (.int .i64 ν):=⟨(BT _ _ _ _ _ _ _ _ _ _ (k:=0) Ξ).trans rfl⟩
instance TE:Cell (mfR ν ζ ρ p n c id κ cs sg) 1 (.int .i64 ζ):=⟨(BT _ _ _ _ _ _ _ _ _ _ (k:=1) Ξ).trans rfl⟩
instance TF:Cell (mfR ν ζ ρ p n c id κ cs sg) 34 (.slice p n c):=⟨(BU _ _ _ _ _ _ _ _ _ _ (k:=0) Ξ).trans rfl⟩
instance TG:Cell (mfR ν ζ ρ p n c id κ cs sg) 35 (.int .i64 id):=⟨(BU _ _ _ _ _ _ _ _ _ _ (k:=1) Ξ).trans rfl⟩
instance TH(x:Int):Put (mfR ν ζ ρ p n c id κ cs sg) 1 (.int .i64 x) (mfR ν x ρ p n c id κ cs sg):=⟨by
 unfold mfR;rw[Xm ϔ,Xm ϔ,Xm ϔ,Xm ϔ,Xm Ϡ];rfl,by rw[fW];decide⟩
instance TI(q:ϊ)(m d:Nat):Put (mfR ν ζ ρ p n c id κ cs sg) 34 (.slice q m d) (mfR ν ζ ρ q m d id κ cs sg):=⟨by
 unfold mfR;rw[Xm ϔ,Xm ϔ,Xm ϔ,Yk ϔ];simp[ai],by rw[fW];decide⟩
instance TJ(x:Int):Put (mfR ν ζ ρ p n c id κ cs sg) 35 (.int .i64 x) (mfR ν ζ ρ p n c x κ cs sg):=⟨by
 unfold mfR;rw[Xm ϔ,Xm ϔ,Xm ϔ,Yk ϔ];simp[ai],by rw[fW];decide⟩
instance TK(x:Φ):Splice (mfR ν ζ ρ p n c id κ cs sg) 2 (aa 32 x) (mfR ν ζ x p n c id κ cs sg):=by
 have:=cq #[.int .i64 ν,.int .i64 ζ] (aa 32 ρ) (aa 32 x) (#[.slice p n c,.int .i64 id]++aa 32 κ++aa 64 cs++aa 64 sg) 2 rfl ϔ;simpa only[mfR,Xb] using this
instance Qb(x:Φ):Splice (mfR ν ζ ρ p n c id κ cs sg) 36 (aa 32 x) (mfR ν ζ ρ p n c id x cs sg):=by
 have:=cq (#[.int .i64 ν,.int .i64 ζ]++aa 32 ρ ++ #[.slice p n c,.int .i64 id]) (aa 32 κ) (aa 32 x) (aa 64 cs++aa 64 sg) 36 ϔ ϔ;simpa only[mfR,Xb] using this
instance Qc(x:Φ):Splice (mfR ν ζ ρ p n c id κ cs sg) 68 (aa 64 x) (mfR ν ζ ρ p n c id κ x sg):=by
 have:=cq (#[.int .i64 ν,.int .i64 ζ]++aa 32 ρ ++ #[.slice p n c,.int .i64 id]++aa 32 κ) (aa 64 cs) (aa 64 x) (aa 64 sg) 68 ϔ ϔ;simpa only[mfR,Xb] using this
instance Qd(x:Φ):Splice (mfR ν ζ ρ p n c id κ cs sg) 132 (aa 64 x) (mfR ν ζ ρ p n c id κ cs x):=by
 have:=cq (#[.int .i64 ν,.int .i64 ζ]++aa 32 ρ ++ #[.slice p n c,.int .i64 id]++aa 32 κ++aa 64 cs) (aa 64 sg) (aa 64 x) #[] 132 ϔ ϔ;simpa only[mfR,Xb,Array.append_empty] using this
end
instance Qe:RowTy 79 196:=⟨⟨_,underlying79,rfl⟩,Θ⟩
instance Qf:RowZ 79 mfZ:=⟨Θ⟩
theorem i4(w:ϑ):(Instr.build 79 #[]).run prog w= .ok (.agg mfZ) w:=Θ
theorem nZ(x:Int)(w:ϑ):(Instr.build 79 #[(0,.int .i64 x)]).run prog w= .ok (.agg (mfR x 0 (fun _=>0) none 0 0 0 (fun _=>0) (fun _=>0) (fun _=>0))) w:=Θ
section
variable {D w:ϑ} {F:Ψ→Mem} {bc:Nat} {p:ϊ} {m W:Nat}
theorem nj(hA:∀x,At (F x) bc x 274)(hU:∀x y,Ups (F x) bc y (F y))(I:Loc D w (F #[.slice p m W,.bool true])) :
 ϓ 205 #[.pointer (ϐ bc)] w fun e Z=>e= .returned (.agg (aa 32 fun _=>0))∧Loc D Z (F #[.slice p m W,.bool true]):=by
 go_enter func205,ntmps205;go_wp2_with (first|refine aU ?_|(refine gBp 2 ?_;clear I;intro b2 J I)|(refine gBp 3 ?_;clear I;intro b3 J I)|(refine ab ?_;clear I;intro J I));refine mX (S:=fun Z=>Loc _ Z _) 4 (I.drew) ?_;intro H;replace I:=I.drew;refine uG 0 ?_;refine uG 1 ?_;refine rd1 2 fun K T=>?_;refine eK (ed (F:=fun x=>(b3,aa 32 (fun _=>0),24)::(b2,aa 32 (fun _=>0),24)::F x) (bc:=bc) (n:=32) I) ?_;rintro e J⟨rfl,Y⟩;refine⟨_,rfl,?_⟩;clear I;revert Y;refine aN ?_;intro I;refine kO T (I) ?_;clear T K H;intro H;refine rd1 3 fun K T=>?_;refine rz I rfl rfl rfl ?_;clear I;intro J I;refine kO T (I) ?_;clear T K H;intro H;refine wD ?_;clear H;go_wp2_with (first|refine aU ?_|(refine ab ?_;clear I;intro J I));exact Ϣ (aj rfl I rfl) rfl ⟨rfl,Loc.rem b2 (Loc.rem b3 I)⟩
instance Qg:Ent 205:=eo func205
theorem eY(hA:∀x,At (F x) bc x 274)(hU:∀x y,Ups (F x) bc y (F y))(I:Loc D w (F #[.slice p m W,.bool true])) :
 ϓ 206 #[.pointer (ϐ bc)] w fun e Z=>e= .returned (.agg (aa 64 fun _=>0))∧Loc D Z (F #[.slice p m W,.bool true]):=by
 go_enter func206,ntmps206;go_wp2_with (first|refine aU ?_|(refine gBp 2 ?_;clear I;intro b2 J I)|(refine gBp 3 ?_;clear I;intro b3 J I)|(refine ab ?_;clear I;intro J I));refine mX (S:=fun Z=>Loc _ Z _) 4 (I.drew) ?_;intro H;replace I:=I.drew;refine uG 0 ?_;refine uG 1 ?_;refine rd1 2 fun K T=>?_;refine eK (ed (F:=fun x=>(b3,aa 64 (fun _=>0),75)::(b2,aa 64 (fun _=>0),75)::F x) (bc:=bc) (n:=64) I) ?_;rintro e J⟨rfl,Y⟩;refine⟨_,rfl,?_⟩;clear I;revert Y;refine aN ?_;intro I;refine kO T (I) ?_;clear T K H;intro H;refine rd1 3 fun K T=>?_;refine rz I rfl rfl rfl ?_;clear I;intro J I;refine kO T (I) ?_;clear T K H;intro H;refine wD ?_;clear H;go_wp2_with (first|refine aU ?_|(refine ab ?_;clear I;intro J I));exact Ϣ (aj rfl I rfl) rfl ⟨rfl,Loc.rem b2 (Loc.rem b3 I)⟩
instance Qh:Ent 206:=eo func206
end
theorem K4:zeroCells79=mfZ:=Θ
theorem mr(w:ϑ):Rt 156 #[.slice none 0 0] w (.tuple #[.agg mfZ,.int .i64 4]):=by
 have I:=Loc.nil w;have hzc:=K4;go_enter func156,ntmps156;go_wp2_with (first|refine aU ?_|(refine gBp 2 ?_;clear I;intro b2 J I)|(refine gBp 6 ?_;clear I;intro b6 J I)|(refine gN 8 ?_;refine lKk (xB _) ?_;rintro e J⟨b8,rfl,hN⟩;have Y:=I.join hN;clear hN I;revert Y;refine aH ?_;intro I)|(refine gN 10 ?_;refine lO (BR (F:=fun x=>[(b8,x,274),(b2,mfZ,79)]) (bc:=b8) (n:=4) Ω I) ?_;clear I;intro J I)|(refine gN 11 ?_;refine sJ (l:=[]) I rfl rfl rfl ?_;clear I;intro J I)|(refine gN 13 ?_;refine lO (iY (F:=fun x=>[(b8,x,274),(b2,mfZ,79)]) (bc:=b8) _ _ (fun J h=>ed (F:=fun x=>[(b8,x,274),(b2,mfZ,79)]) (bc:=b8) (n:=8) h) I) ?_;clear I;intro J I)|(refine gN 14 ?_;refine lU I rfl rfl (nZ _) rfl ?_;clear I;intro J I;refine p4 ?_)|(refine gN 16 ?_;refine lO (iY (F:=fun x=>(b6,mfZ,79)::[(b8,x,274),(b2,mfZ,79)]) (bc:=b8) _ _ (fun J h=>ed (F:=fun x=>(b6,mfZ,79)::[(b8,x,274),(b2,mfZ,79)]) (bc:=b8) (n:=8) h) I) ?_;clear I;intro J I)|(refine gN 19 ?_;refine lO (nj (F:=fun x=>(b6,mfZ,79)::[(b8,x,274),(b2,mfZ,79)]) (bc:=b8) (fun x=>Ϙ) (fun x y=>Ϙ) I) ?_;clear I;intro J I)|(refine gN 22 ?_;refine lO (ed (F:=fun x=>(b6,mfZ,79)::[(b8,x,274),(b2,mfZ,79)]) (bc:=b8) (n:=80) I) ?_;clear I;intro J I)|(refine gN 25 ?_;refine lO (iY (F:=fun x=>(b6,mfZ,79)::[(b8,x,274),(b2,mfZ,79)]) (bc:=b8) _ _ (fun J h=>ed (F:=fun x=>(b6,mfZ,79)::[(b8,x,274),(b2,mfZ,79)]) (bc:=b8) (n:=8) h) I) ?_;clear I;intro J I)|(refine gN 29 ?_;refine lO (nj (F:=fun x=>(b6,mfZ,79)::[(b8,x,274),(b2,mfZ,79)]) (bc:=b8) (fun x=>Ϙ) (fun x y=>Ϙ) I) ?_;clear I;intro J I)|(refine gN 33 ?_;refine lO (eY (F:=fun x=>(b6,mfZ,79)::[(b8,x,274),(b2,mfZ,79)]) (bc:=b8) (fun x=>Ϙ) (fun x y=>Ϙ) I) ?_;clear I;intro J I)|(refine gN 37 ?_;refine lO (eY (F:=fun x=>(b6,mfZ,79)::[(b8,x,274),(b2,mfZ,79)]) (bc:=b8) (fun x=>Ϙ) (fun x y=>Ϙ) I) ?_;clear I;intro J I)|(refine gN 40 ?_;refine lO (m7 (F:=fun x=>(b6,mfZ,79)::[(b8,x,274),(b2,mfZ,79)]) (bc:=b8) I) ?_;clear I;intro J I)|(refine gN 51 ?_;refine lU I rfl rfl (i4 _) rfl ?_;clear I;intro J I;refine p4 ?_)|(refine ab ?_;clear I;intro J I));exact Ϣ (ao rfl I rfl rfl) rfl ⟨rfl,I.bel⟩
theorem vD(v:ό)(l:Δ)(w:ϑ)(hv:BRow w v l)(h0:0<l.length)(h4:l.length<4):Rt 156 #[v] w (.tuple #[.agg mfZ,.int .i64 4]):=by
 have I:=Loc.nil w;haveI hA:Arg w v (ak l):=⟨hv.vrow⟩;have HN:=Hd (fun J (h:BRow J v l)=>fT v l J h h0 Ω);clear hv;have hzc:=K4;go_enter func156,ntmps156;go_wp2_with (first|refine aU ?_|(refine gBp 2 ?_;clear I;intro b2 J I)|(refine gBp 6 ?_;clear I;intro b6 J I)|(refine gN 8 ?_;refine lKk (HN.out _ (See.bytes I)) ?_;rintro e J⟨b8,g8,Y8,Z8,rfl,W8,hN⟩;have Y:=I.join hN;clear hN I;revert Y;refine aH ?_;intro I)|(refine gN 10 ?_;refine lO (BR (F:=fun x=>[(b8,x,274),(g8,Z8,5),(b2,mfZ,79)]) (bc:=b8) (n:=4) Ω I) ?_;clear I;intro J I)|(refine gN 11 ?_;refine sJ (l:=[]) I rfl rfl rfl ?_;clear I;intro J I)|(refine gN 13 ?_;refine lO (iY (F:=fun x=>[(b8,x,274),(g8,Z8,5),(b2,mfZ,79)]) (bc:=b8) _ _ (fun J h=>ed (F:=fun x=>[(b8,x,274),(g8,Z8,5),(b2,mfZ,79)]) (bc:=b8) (n:=8) h) I) ?_;clear I;intro J I)|(refine gN 14 ?_;refine lU I rfl rfl (nZ _) rfl ?_;clear I;intro J I;refine p4 ?_)|(refine gN 16 ?_;refine lO (iY (F:=fun x=>(b6,mfZ,79)::[(b8,x,274),(g8,Z8,5),(b2,mfZ,79)]) (bc:=b8) _ _ (fun J h=>ed (F:=fun x=>(b6,mfZ,79)::[(b8,x,274),(g8,Z8,5),(b2,mfZ,79)]) (bc:=b8) (n:=8) h) I) ?_;clear I;intro J I)|(refine gN 19 ?_;refine lO (nj (F:=fun x=>(b6,mfZ,79)::[(b8,x,274),(g8,Z8,5),(b2,mfZ,79)]) (bc:=b8) (fun x=>Ϙ) (fun x y=>Ϙ) I) ?_;clear I;intro J I)|(refine gN 22 ?_;refine lO (ed (F:=fun x=>(b6,mfZ,79)::[(b8,x,274),(g8,Z8,5),(b2,mfZ,79)]) (bc:=b8) (n:=80) I) ?_;clear I;intro J I)|(refine gN 25 ?_;refine lO (iY (F:=fun x=>(b6,mfZ,79)::[(b8,x,274),(g8,Z8,5),(b2,mfZ,79)]) (bc:=b8) _ _ (fun J h=>ed (F:=fun x=>(b6,mfZ,79)::[(b8,x,274),(g8,Z8,5),(b2,mfZ,79)]) (bc:=b8) (n:=8) h) I) ?_;clear I;intro J I)|(refine gN 29 ?_;refine lO (nj (F:=fun x=>(b6,mfZ,79)::[(b8,x,274),(g8,Z8,5),(b2,mfZ,79)]) (bc:=b8) (fun x=>Ϙ) (fun x y=>Ϙ) I) ?_;clear I;intro J I)|(refine gN 33 ?_;refine lO (eY (F:=fun x=>(b6,mfZ,79)::[(b8,x,274),(g8,Z8,5),(b2,mfZ,79)]) (bc:=b8) (fun x=>Ϙ) (fun x y=>Ϙ) I) ?_;clear I;intro J I)|(refine gN 37 ?_;refine lO (eY (F:=fun x=>(b6,mfZ,79)::[(b8,x,274),(g8,Z8,5),(b2,mfZ,79)]) (bc:=b8) (fun x=>Ϙ) (fun x y=>Ϙ) I) ?_;clear I;intro J I)|(refine gN 40 ?_;refine lO (m7 (F:=fun x=>(b6,mfZ,79)::[(b8,x,274),(g8,Z8,5),(b2,mfZ,79)]) (bc:=b8) I) ?_;clear I;intro J I)|(refine gN 51 ?_;refine lU I rfl rfl (i4 _) rfl ?_;clear I;intro J I;refine p4 ?_)|(refine ab ?_;clear I;intro J I));exact Ϣ (ao rfl I rfl rfl) rfl ⟨rfl,I.bel⟩
instance Qi:Ent 156:=eo func156
structure Man where
 ν:Int
 ζ:Int
 ρ:Nat→Γ
 wr:Δ
 id:Int
 κ:Nat→Γ
 cs:Nat→Γ
 sg:Nat→Γ
structure Man.Ok(m:Man):Prop where
 v0:0≤m.ν
 v1:m.ν≤2147483647
 b0:1≤m.ζ
 b1:m.ζ≤32
 w:m.wr.length=80
 i0:0≤m.id
 i1:m.id≤2147483647
def Man.row(m:Man)(p:ϊ)(n c:Nat):Ψ:=mfR m.ν m.ζ m.ρ p n c m.id m.κ m.cs m.sg
def Man.body(m:Man):Δ:=[80,67,77,49]++(aM m.ν++(aM m.ζ++(ae 32 m.ρ++(m.wr++(aM m.id++(ae 32 m.κ++ae 64 m.cs))))))
def Man.bytes(m:Man):Δ:=m.body++ae 64 m.sg
theorem Man.body_length{m:Man}(h:m.Ok):m.body.length=236:=by
 unfold Man.body;simp[aw,ag,h.w]
theorem Man.bytes_length{m:Man}(h:m.Ok):m.bytes.length=300:=by
 unfold Man.bytes;rw[Xa,Man.body_length h,ag]
theorem jv{a b:Δ}{n:Nat}(h:a.length=n):(a++b).take n=a∧(a++b).drop n=b:=by
 rw[← h];exact⟨Ze,List.drop_left⟩
structure Man.Parts(m:Man)(l:Δ):Prop where
 p0:l.take 4=[80,67,77,49]
 p1:(l.drop 4).take 8=aM m.ν
 p2:(l.drop 12).take 8=aM m.ζ
 p3:(l.drop 20).take 32=ae 32 m.ρ
 p4:(l.drop 52).take 80=m.wr
 p5:(l.drop 132).take 8=aM m.id
 p6:(l.drop 140).take 32=ae 32 m.κ
 p7:(l.drop 172).take 64=ae 64 m.cs
 p8:(l.drop 236).take 64=ae 64 m.sg
theorem Man.parts{m:Man}(h:m.Ok):m.Parts m.bytes:=by
 have e:m.bytes=[80,67,77,49]++(aM m.ν++(aM m.ζ++(ae 32 m.ρ++(m.wr++(aM m.id++(ae 32 m.κ++(ae 64 m.cs++(ae 64 m.sg++[])))))))):=by
  unfold Man.bytes Man.body;simp only[Xc,Yf]
 rw[e];have c0:=jv (a:=[80,67,77,49]) (b:=aM m.ν++(aM m.ζ++(ae 32 m.ρ++(m.wr++(aM m.id++(ae 32 m.κ++(ae 64 m.cs++(ae 64 m.sg++[])))))))) (n:=4) rfl;have c1:=jv (b:=aM m.ζ++(ae 32 m.ρ++(m.wr++(aM m.id++(ae 32 m.κ++(ae 64 m.cs++(ae 64 m.sg++[]))))))) (aw m.ν);have c2:=jv (b:=ae 32 m.ρ++(m.wr++(aM m.id++(ae 32 m.κ++(ae 64 m.cs++(ae 64 m.sg++[])))))) (aw m.ζ);have c3:=jv (b:=m.wr++(aM m.id++(ae 32 m.κ++(ae 64 m.cs++(ae 64 m.sg++[]))))) (ag 32 m.ρ);have c4:=jv (b:=aM m.id++(ae 32 m.κ++(ae 64 m.cs++(ae 64 m.sg++[])))) h.w;have c5:=jv (b:=ae 32 m.κ++(ae 64 m.cs++(ae 64 m.sg++[]))) (aw m.id);have c6:=jv (b:=ae 64 m.cs++(ae 64 m.sg++[])) (ag 32 m.κ);have c7:=jv (b:=ae 64 m.sg++[]) (ag 64 m.cs);have c8:=jv (b:=[]) (ag 64 m.sg);generalize ae 64 m.sg++[]=l8 at *
 generalize ae 64 m.cs++l8=l7 at *
 generalize ae 32 m.κ++l7=l6 at *
 generalize aM m.id++l6=l5 at *
 generalize m.wr++l5=l4 at *
 generalize ae 32 m.ρ++l4=l3 at *
 generalize aM m.ζ++l3=l2 at *
 generalize aM m.ν++l2=l1 at *
 generalize[80,67,77,49]++l1=l0 at *
 have d1:l0.drop 4=l1:=c0.2;have d2:l0.drop 12=l2:=by rw[← c1.2,← d1,YQ]
 have d3:l0.drop 20=l3:=by rw[← c2.2,← d2,YQ]
 have d4:l0.drop 52=l4:=by rw[← c3.2,← d3,YQ]
 have d5:l0.drop 132=l5:=by rw[← c4.2,← d4,YQ]
 have d6:l0.drop 140=l6:=by rw[← c5.2,← d5,YQ]
 have d7:l0.drop 172=l7:=by rw[← c6.2,← d6,YQ]
 have d8:l0.drop 236=l8:=by rw[← c7.2,← d7,YQ]
 exact⟨c0.1,by rw[d1];exact c1.1,by rw[d2];exact c2.1,by rw[d3];exact c3.1,by rw[d4];exact c4.1,by rw[d5];exact c5.1,by rw[d6];exact c6.1,by rw[d7];exact c7.1,by rw[d8];exact c8.1⟩
section
variable {D w:ϑ} {F:Ψ→Mem} {bc:Nat} [hA:∀x,At (F x) bc x 274] [hU:∀x y,Ups (F x) bc y (F y)] {g off m W:Nat} {l:Δ} {E:Ψ} [hG:∀x,At (F x) g E 5] {f:Φ}
theorem Gp(hs:Seg E off m (ak l))(hn:32≤m)(hc:m≤W)(hm:m≤1000000)(hT:l.take 32=ae 32 f)(I:Loc D w (F #[.slice (some ⟨g,off,none⟩) m W,.bool false])) :
 ϓ 205 #[.pointer (ϐ bc)] w fun e Z=>∃p,e= .returned (.agg (aa 32 f))∧(32<m→p=some ⟨g,off+32,none⟩)∧Loc D Z (F #[.slice p (m-32) (W-32),.bool false]):=by
 have HT:=Hd hT;have h32:(ak (ae 32 f)).length=32:=by rw[ap,ag]
 haveI sp:Spl (aa 32 fun _=>0) 0 (ak (ae 32 f)) (aa 32 f):=k6 _ _ _ Ω fun i hi=>by rw[Ρ ⟨Ω,Ω⟩];rfl
 clear hT;go_enter func205,ntmps205;go_wp2_with (first|refine aU ?_|(refine gBp 2 ?_;clear I;intro b2 J I)|(refine gBp 3 ?_;clear I;intro b3 J I)|(refine ab ?_;clear I;intro J I));refine mX (S:=(fun _=>True)) 4 (trivial) ?_;intro H;replace I:=I.drew;refine uG 0 ?_;refine uG 1 ?_;refine rd1 2 fun K T=>?_;refine eK (rh (F:=fun x=>(b3,aa 32 (fun _=>0),24)::(b2,aa 32 (fun _=>0),24)::F x) (bc:=bc) (l:=l) hs 32 Ω hn hc hm I) ?_;rintro e J⟨g6,Y6,Z6,p6,rfl,W6,hp6,Y⟩;refine⟨_,rfl,?_⟩;rw[HT.out]at W6;clear I;revert Y;refine aN ?_;intro I;refine kO T (trivial) ?_;clear T K H;intro H;refine rd1 3 fun K T=>?_;refine eCp ?_;clear I;intro J I;refine kO T (trivial) ?_;clear T K H;intro H;refine wD ?_;clear H;go_wp2_with (first|refine aU ?_|(refine ab ?_;clear I;intro J I));exact Ϣ (aj rfl I rfl) rfl ⟨p6,rfl,hp6,Loc.rem b2 (Loc.rem b3 I.pop)⟩
theorem nk(hs:Seg E off m (ak l))(hn:64≤m)(hc:m≤W)(hm:m≤1000000)(hT:l.take 64=ae 64 f)(I:Loc D w (F #[.slice (some ⟨g,off,none⟩) m W,.bool false])) :
 ϓ 206 #[.pointer (ϐ bc)] w fun e Z=>∃p,e= .returned (.agg (aa 64 f))∧(64<m→p=some ⟨g,off+64,none⟩)∧Loc D Z (F #[.slice p (m-64) (W-64),.bool false]):=by
 have HT:=Hd hT;have h32:(ak (ae 64 f)).length=64:=by rw[ap,ag]
 haveI sp:Spl (aa 64 fun _=>0) 0 (ak (ae 64 f)) (aa 64 f):=k6 _ _ _ Ω fun i hi=>by rw[Ρ ⟨Ω,Ω⟩];rfl
 clear hT;go_enter func206,ntmps206;go_wp2_with (first|refine aU ?_|(refine gBp 2 ?_;clear I;intro b2 J I)|(refine gBp 3 ?_;clear I;intro b3 J I)|(refine ab ?_;clear I;intro J I));refine mX (S:=(fun _=>True)) 4 (trivial) ?_;intro H;replace I:=I.drew;refine uG 0 ?_;refine uG 1 ?_;refine rd1 2 fun K T=>?_;refine eK (rh (F:=fun x=>(b3,aa 64 (fun _=>0),75)::(b2,aa 64 (fun _=>0),75)::F x) (bc:=bc) (l:=l) hs 64 Ω hn hc hm I) ?_;rintro e J⟨g6,Y6,Z6,p6,rfl,W6,hp6,Y⟩;refine⟨_,rfl,?_⟩;rw[HT.out]at W6;clear I;revert Y;refine aN ?_;intro I;refine kO T (trivial) ?_;clear T K H;intro H;refine rd1 3 fun K T=>?_;refine eCp ?_;clear I;intro J I;refine kO T (trivial) ?_;clear T K H;intro H;refine wD ?_;clear H;go_wp2_with (first|refine aU ?_|(refine ab ?_;clear I;intro J I));exact Ϣ (aj rfl I rfl) rfl ⟨p6,rfl,hp6,Loc.rem b2 (Loc.rem b3 I.pop)⟩
end
def jw(ν ζ id:Int):Bool:=decide (0≤ν∧ν≤2147483647∧1≤ζ∧ζ≤32∧0≤id∧id≤2147483647)
theorem tO{ν ζ id:Int}{ρ κ cs sg:Φ}{p:ϊ}{c:Nat}(w:ϑ) :
 Rt 207 #[.agg (mfR ν ζ ρ p 80 c id κ cs sg)] w (.bool (jw ν ζ id)):=by
 have I:=Loc.nil w;haveI f1:FnC 226 #[.int .i64 id] (.bool (fH id)):=⟨fun J=>kN id J⟩;rcases(by omega:¬0≤ν∨(0≤ν∧¬ν≤2147483647)∨(0≤ν∧ν≤2147483647∧¬1≤ζ)∨(0≤ν∧ν≤2147483647∧1≤ζ∧¬ζ≤32)∨(0≤ν∧ν≤2147483647∧1≤ζ∧ζ≤32))with h|⟨h,h2⟩|⟨h,h2,h3⟩|⟨h,h2,h3,h4⟩|⟨h,h2,h3,h4⟩
 all_goals
  go_enter func207,ntmps207;go_wp2_with (first|refine aU ?_|refine gBp 1 fun b1 J I=>?_|refine ab fun J I=>?_|refine Ϯ fun J I=>?_);go_ret;exact⟨XH (fun b=>Ending.returned (.bool b)) (by first|exact decide_eq_decide.2 Ω|exact(XB Ω).symm),I.bel⟩
theorem bN(l:Δ)(k n:Nat)(h:k+n≤l.length):(l.drop k).take n=ae n fun i=>l.getD (k+i) 0:=by
 unfold ae;apply Zr
 ·simp;omega
 ·intro i h1 h2
  have h3:k+i<l.length:=by simp at h1;omega
  simp[h3]
def av(l:Δ):Man:=⟨fV ((l.drop 4).take 8),fV ((l.drop 12).take 8),fun i=>l.getD (20+i) 0,(l.drop 52).take 80,fV ((l.drop 132).take 8),fun i=>l.getD (140+i) 0,fun i=>l.getD (172+i) 0,fun i=>l.getD (236+i) 0⟩
def gU(l:Δ):Bool:=decide (l.take 4=[80,67,77,49])&&jw (av l).ν (av l).ζ (av l).id
theorem BV{l k:Δ}{b:ByteArray}(hk:bn k=b)(h:l≠k):((bn l).toList==b.toList)=false:=by
 rw[← hk,iL];exact XB h
theorem Gq{l k:Δ}{x:ByteArray}(hk:bn k=x){nb b:Bool}(h:b=(decide (l=k)&&nb)):(bn l=x∧nb=true∧b=true)∨(bn l=x∧nb=false∧b=false)∨(((bn l).toList==x.toList)=false∧b=false):=by
 subst h hk;by_cases hm:l=k
 ·subst hm;cases nb <;> simp
 ·exact .inr (.inr ⟨BV rfl hm,by rw[XB hm,Bool.false_and]⟩)
theorem De{ν ζ id:Int}(hv0:0≤ν)(hv1:ν≤2147483647)(hb0:1≤ζ)(V:ζ≤32)(hi0:0≤id)(hi1:id≤2147483647):jw ν ζ id=true:=Xw ⟨hv0,hv1,hb0,V,hi0,hi1⟩
theorem pH{n:Nat}{f g:Φ}(h:ae n f=ae n g):aa n f=aa n g:=by
 apply Array.toList_inj.1;have e:∀f,(aa n f).toList=ak (ae n f):=fun f=>by unfold ak ae aa row;simp[List.map_map,Function.comp_def]
 rw[e,e,h]
theorem Df{m:Man}(hm:m.Ok):gU m.bytes=true∧(av m.bytes).wr=m.wr∧∀p n c,(av m.bytes).row p n c=m.row p n c:=by
 obtain⟨p0,p1,p2,p3,p4,p5,p6,p7,p8⟩:=Man.parts hm;have hl:=Man.bytes_length hm;have e1:(av m.bytes).ν=m.ν:=by show fV _=_;rw[p1];exact js _ (by have:=hm.v0;have:=hm.v1;omega)
 have e2:(av m.bytes).ζ=m.ζ:=by show fV _=_;rw[p2];exact js _ (by have:=hm.b0;have:=hm.b1;omega)
 have e5:(av m.bytes).id=m.id:=by show fV _=_;rw[p5];exact js _ (by have:=hm.i0;have:=hm.i1;omega)
 have e3:=pH ((bN m.bytes 20 32 Ω).symm.trans p3);have e6:=pH ((bN m.bytes 140 32 Ω).symm.trans p6);have e7:=pH ((bN m.bytes 172 64 Ω).symm.trans p7);have e8:=pH ((bN m.bytes 236 64 Ω).symm.trans p8);refine⟨?_,p4,fun p n c=>?_⟩
 ·unfold gU
  rw[e1,e2,e5,De hm.v0 hm.v1 hm.b0 hm.b1 hm.i0 hm.i1,Bool.and_true];exact Xw p0
 ·unfold Man.row mfR
  rw[e1,e2,e5];unfold av;dsimp only;rw[e3,e6,e7,e8]
theorem mt(l:Δ)(χ:l.length=300)(v:ό)(w:ϑ)(hv:BRow w v l) :
 ϓ 156 #[v] w fun e Z=>cond (gU l) (∃g W E,e= .returned (.tuple #[.agg ((av l).row (ϐ g) 80 W),.int .i64 0])∧OwnR E 80 W (ak (av l).wr)∧Loc w Z [(g,E,5)]) (e= .returned (.tuple #[.agg mfZ,.int .i64 4])∧Υ w Z):=by
 have I:=Loc.nil w;haveI hA:Arg w v (ak l):=⟨hv.vrow⟩;have HN:=Hd (fun J (h:BRow J v l)=>fT v l J h Ω Ω);rw[χ]at HN;have E3:=Hd (bN l 20 32 Ω);have E6:=Hd (bN l 140 32 Ω);have E7:=Hd (bN l 172 64 Ω);have E8:=Hd (bN l 236 64 Ω);have hS0:bn [80,67,77,49]=⟨#[80,67,77,49]⟩:=rfl;obtain⟨B,hb⟩:∃B,B=gU l:=⟨_,rfl⟩;rw[← hb];unfold gU at hb;have hrow:∀p n c,(av l).row p n c=mfR (av l).ν (av l).ζ (av l).ρ p n c (av l).id (av l).κ (av l).cs (av l).sg:=fun _ _ _=>rfl;simp only[hrow];clear hrow;unfold av at hb ⊢;dsimp only at hb ⊢;obtain⟨ν,E1⟩:∃x,x=fV ((l.drop 4).take 8):=⟨_,rfl⟩;obtain⟨ζ,E2⟩:∃x,x=fV ((l.drop 12).take 8):=⟨_,rfl⟩;obtain⟨id,E5⟩:∃x,x=fV ((l.drop 132).take 8):=⟨_,rfl⟩;obtain⟨wr,E4⟩:∃x,x=(l.drop 52).take 80:=⟨_,rfl⟩;rw[← E1,← E2,← E5]at hb ⊢;rw[← E4];generalize(fun i=>l.getD (20+i) 0)=ρ,(fun i=>l.getD (140+i) 0)=κ,(fun i=>l.getD (172+i) 0)=cs,(fun i=>l.getD (236+i) 0)=sg at *
 have hM:=fun(p:ϊ) (c:Nat) J=>tO (ν:=ν) (ζ:=ζ) (id:=id) (ρ:=ρ) (κ:=κ) (cs:=cs) (sg:=sg) (p:=p) (c:=c) J;generalize jw ν ζ id=nb at *
 have hzc:=K4;obtain⟨sm,hsm⟩:∃sm,sm=bn (l.take 4):=⟨_,rfl⟩;have HSM:=Hd hsm.symm;have HM:=Hd hM;have h3:=Gq hS0 hb;rw[← hsm]at h3;rcases h3 with⟨rfl,rfl,rfl⟩|⟨rfl,rfl,rfl⟩|⟨hS,rfl⟩
 all_goals
  replace E1:=Hd E1.symm;replace E2:=Hd E2.symm;replace E4:=Hd E4.symm;replace E5:=Hd E5.symm
  try rw[show(⟨#[80,67,77,49]⟩:ByteArray).toList=[80,67,77,49]from by simp]at hS
  clear hM hv hS0 hsm hb;go_enter func156,ntmps156;go_wp2_with (first|refine aU ?_|(refine gBp 2 ?_;clear I;intro b2 J I)|(refine gBp 6 ?_;clear I;intro b6 J I)|(refine gN 8 ?_;refine lKk (HN.out _ (See.bytes I)) ?_;rintro e J⟨b8,g8,Y8,Z8,rfl,W8,hN⟩;refine⟨_,rfl,?_⟩;have hs1:=W8.segB;have hc8:=W8.le;have Y:=I.join hN;clear hN I;revert Y;refine aJ ?_;intro I)|(refine gN 10 ?_;refine lKk (ri (F:=fun x=>[(b8,x,274),(g8,Z8,5),(b2,mfZ,79)]) (bc:=b8) (l:=l) hs1 4 Ω Ω hc8 Ω I) ?_;rintro e J⟨g10,Y10,Z10,rfl,W10,Y⟩;clear I;revert Y;refine aE ?_;intro I)|(refine gN 11 ?_;refine sJ I rfl rfl rfl ?_;rw[HSM.out];clear I;intro J I;replace I:=I.pop;refine p4 ?_)|(refine gN 13 ?_;refine lKk (rj (F:=fun x=>[(b8,x,274),(g8,Z8,5),(b2,mfZ,79)]) (bc:=b8) (l:=l.drop 4) (hs1.drop 4 Ω) Ω Ω Ω I) ?_;rintro e J⟨rfl,Y⟩;rw[E1.out];clear I;revert Y;refine aE ?_;intro I)|(refine gN 14 ?_;refine lU I rfl rfl (nZ _) rfl ?_;clear I;intro J I;refine p4 ?_)|(refine gN 16 ?_;refine lKk (rj (F:=fun x=>[(b6,mfR ν 0 (fun _=>0) none 0 0 0 (fun _=>0) (fun _=>0) (fun _=>0),79),(b8,x,274),(g8,Z8,5),(b2,mfZ,79)]) (bc:=b8) (l:=l.drop 12) (hs1.drop 12 Ω) Ω Ω Ω I) ?_;rintro e J⟨rfl,Y⟩;rw[E2.out];clear I;revert Y;refine aE ?_;intro I)|(refine gN 19 ?_;refine lKk (Gp (F:=fun x=>[(b6,mfR ν ζ (fun _=>0) none 0 0 0 (fun _=>0) (fun _=>0) (fun _=>0),79),(b8,x,274),(g8,Z8,5),(b2,mfZ,79)]) (bc:=b8) (l:=l.drop 20) (hs1.drop 20 Ω) Ω Ω Ω E3.out I) ?_;rintro e J⟨p19,rfl,hp19,Y⟩;rw[hp19 Ω]at Y;clear I;revert Y;refine aE ?_;intro I)|(refine gN 22 ?_;refine lKk (ri (F:=fun x=>[(b6,mfR ν ζ ρ none 0 0 0 (fun _=>0) (fun _=>0) (fun _=>0),79),(b8,x,274),(g8,Z8,5),(b2,mfZ,79)]) (bc:=b8) (l:=l.drop 52) (hs1.drop 52 Ω) 80 Ω Ω Ω Ω I) ?_;rintro e J⟨g22,Y22,Z22,rfl,W22,Y⟩;rw[E4.out]at W22;clear I;revert Y;refine aE ?_;intro I)|(refine gN 25 ?_;refine lKk (rj (F:=fun x=>[(g22,Z22,5),(b6,mfR ν ζ ρ (ϐ g22) 80 Y22 0 (fun _=>0) (fun _=>0) (fun _=>0),79),(b8,x,274),(g8,Z8,5),(b2,mfZ,79)]) (bc:=b8) (l:=l.drop 132) (hs1.drop 132 Ω) Ω Ω Ω I) ?_;rintro e J⟨rfl,Y⟩;rw[E5.out];clear I;revert Y;refine aE ?_;intro I)|(refine gN 29 ?_;refine lKk (Gp (F:=fun x=>[(g22,Z22,5),(b6,mfR ν ζ ρ (ϐ g22) 80 Y22 id (fun _=>0) (fun _=>0) (fun _=>0),79),(b8,x,274),(g8,Z8,5),(b2,mfZ,79)]) (bc:=b8) (l:=l.drop 140) (hs1.drop 140 Ω) Ω Ω Ω E6.out I) ?_;rintro e J⟨p29,rfl,hp29,Y⟩;rw[hp29 Ω]at Y;clear I;revert Y;refine aE ?_;intro I)|(refine gN 33 ?_;refine lKk (nk (F:=fun x=>[(g22,Z22,5),(b6,mfR ν ζ ρ (ϐ g22) 80 Y22 id κ (fun _=>0) (fun _=>0),79),(b8,x,274),(g8,Z8,5),(b2,mfZ,79)]) (bc:=b8) (l:=l.drop 172) (hs1.drop 172 Ω) Ω Ω Ω E7.out I) ?_;rintro e J⟨p33,rfl,hp33,Y⟩;rw[hp33 Ω]at Y;clear I;revert Y;refine aE ?_;intro I)|(refine gN 37 ?_;refine lKk (nk (F:=fun x=>[(g22,Z22,5),(b6,mfR ν ζ ρ (ϐ g22) 80 Y22 id κ cs (fun _=>0),79),(b8,x,274),(g8,Z8,5),(b2,mfZ,79)]) (bc:=b8) (l:=l.drop 236) (hs1.drop 236 Ω) Ω Ω Ω E8.out I) ?_;rintro e J⟨p37,rfl,_,Y⟩;clear I;revert Y;refine aE ?_;intro I)|(refine gN 40 ?_;refine lO (m7 (F:=fun x=>[(g22,Z22,5),(b6,mfR ν ζ ρ (ϐ g22) 80 Y22 id κ cs sg,79),(b8,x,274),(g8,Z8,5),(b2,mfZ,79)]) (bc:=b8) I) ?_;clear I;intro J I)|(go_at_call 207;go_loud (refine(HM.out _ _ _).mono ?_);rintro e J⟨rfl,V⟩;have Y:=I.keep V;clear V;clear I;have I:=Y;clear Y;refine p4 ?_)|(refine gN 51 ?_;refine lU I rfl rfl i4 rfl ?_;clear I;intro J I;refine p4 ?_)|(refine ab ?_;clear I;intro J I)|((refine ϗ (.call _) ?_);(first|refine lC2 I rfl rfl rfl rfl ?_|refine lC1 I rfl rfl rfl ?_|refine lC3 I rfl rfl rfl rfl ?_|refine lC4 I rfl rfl rfl rfl ?_|refine lC0 I rfl rfl ?_|refine lC5 I rfl rfl rfl ?_);clear I;intro J I;refine p4 ?_));skip
 ·exact Ϣ (ao rfl I rfl rfl) rfl ⟨g22,Y22,Z22,rfl,W22,I.sub ((Yd _).cons_cons _)⟩
 ·exact Ϣ (ao rfl I rfl rfl) rfl ⟨rfl,I.bel⟩
 ·exact Ϣ (ao rfl I rfl rfl) rfl ⟨rfl,I.bel⟩
theorem mu(m:Man)(hm:m.Ok)(v:ό)(w:ϑ)(hv:BRow w v m.bytes) :
 ϓ 156 #[v] w fun e Z=>∃g W E,e= .returned (.tuple #[.agg (m.row (ϐ g) 80 W),.int .i64 0])∧OwnR E 80 W (ak m.wr)∧Loc w Z [(g,E,5)] :=
 (mt m.bytes (Man.bytes_length hm) v w hv).mono fun e Z h=>by
  obtain⟨t1,t2,t3⟩:=Df hm;rw[t1,t2]at h;simp only[t3]at h;exact h
theorem kQ{r pre post:Ψ}{n k:Nat}{f:Φ}(h:r=pre++aa n f++post)(hk:k=pre.size):Seg r k n (ak (ae n f)) where
 len:=by rw[ap,ag]
 one:=bY _
 seg:=fun i hi=>by
  rw[ap,ag]at hi;subst h hk;rw[Array.getElem?_append_left (by rw[YK,ai];omega),Array.getElem?_append_right Ω,YP];rw[show(ak (ae n f))[i]=Value.int .u8 (B8 (f i))from by simp[ak,ae]];exact bG (fun i=>Value.int .u8 (B8 (f i))) hi
def ctR(id:Int)(κ cs:Φ):Ψ:= #[.int .i64 id]++aa 32 κ++aa 64 cs
section
variable (ν ζ:Int) (ρ:Φ) (p:ϊ) (n c:Nat) (id:Int) (κ cs sg:Φ)
instance Qj:Seg (mfR ν ζ ρ p n c id κ cs sg) 2 32 (ak (ae 32 ρ)):=kQ (pre:= #[.int .i64 ν,.int .i64 ζ]) (post:= #[.slice p n c,.int .i64 id]++aa 32 κ++aa 64 cs++aa 64 sg) (by simp only[mfR,Xb]) rfl
instance TL:Seg (mfR ν ζ ρ p n c id κ cs sg) 36 32 (ak (ae 32 κ)):=kQ (pre:= #[.int .i64 ν,.int .i64 ζ]++aa 32 ρ ++ #[.slice p n c,.int .i64 id]) (post:=aa 64 cs++aa 64 sg) (by simp only[mfR,Xb]) ϔ
instance WO:Seg (mfR ν ζ ρ p n c id κ cs sg) 68 64 (ak (ae 64 cs)):=kQ (pre:= #[.int .i64 ν,.int .i64 ζ]++aa 32 ρ ++ #[.slice p n c,.int .i64 id]++aa 32 κ) (post:=aa 64 sg) (by simp only[mfR,Xb]) ϔ
instance WP:Part (mfR ν ζ ρ p n c id κ cs sg) 79 35 77 (ctR id κ cs):=bQ (pre:= #[.int .i64 ν,.int .i64 ζ]++aa 32 ρ ++ #[.slice p n c]) (post:=aa 64 sg) (by unfold mfR ctR;rw[show #[Value.slice p n c,Value.int .i64 id]= #[Value.slice p n c] ++ #[Value.int .i64 id]from rfl];simp only[Xb]) ϔ
instance TM:Part (mfR ν ζ ρ p n c id κ cs sg) 79 36 24 (aa 32 κ):=bQ (pre:= #[.int .i64 ν,.int .i64 ζ]++aa 32 ρ ++ #[.slice p n c,.int .i64 id]) (post:=aa 64 cs++aa 64 sg) (by simp only[mfR,Xb]) ϔ
instance WQ:Part (mfR ν ζ ρ p n c id κ cs sg) 79 132 75 (aa 64 sg):=bQ (pre:= #[.int .i64 ν,.int .i64 ζ]++aa 32 ρ ++ #[.slice p n c,.int .i64 id]++aa 32 κ++aa 64 cs) (post:= #[]) (by simp only[mfR,Xb,Array.append_empty]) ϔ
instance JT:Row1 (ctR id κ cs) 97:=⟨by simp[ctR,ai],by
 unfold ctR;simp only[Zt,bS];simp[Value.oneCell']⟩
instance WS:Cell (ctR id κ cs) 0 (.int .i64 id):=⟨by unfold ctR;rw[Xb,Array.getElem?_append_left Ϡ];rfl⟩
instance TN:Seg (ctR id κ cs) 1 32 (ak (ae 32 κ)):=kQ (pre:= #[.int .i64 id]) (post:=aa 64 cs) rfl rfl
instance TO:Part (ctR id κ cs) 77 33 75 (aa 64 cs):=bQ (pre:= #[.int .i64 id]++aa 32 κ) (post:= #[]) (by simp[ctR]) ϔ
end
instance TP:RowTy 77 97:=⟨⟨_,underlying77,rfl⟩,Θ⟩
theorem Am(m:Man)(hm:m.Ok)(p:ϊ)(c:Nat)(w:ϑ)(hv:BRow w (.slice p 80 c) m.wr) :
 ϓ 208 #[.agg (m.row p 80 c)] w fun e Z=>∃g W E,e= .returned (.tuple #[.slice (ϐ g) 236 W,.int .i64 0])∧OwnR E 236 W (ak m.body)∧Loc w Z [(g,E,5)]:=by
 have I:=Loc.nil w;haveI hA:Arg w (.slice p 80 c) (ak m.wr):=⟨hv.vrow⟩;obtain⟨ν,ζ,ρ,wr,id,κ,cs,sg⟩:=m;obtain⟨v0,v1,b0,b1,hw,i0,i1⟩:=hm;dsimp only at *
 have hnum:jw ν ζ id=true:=Xw ⟨v0,v1,b0,b1,i0,i1⟩;have HM:=Hd (fun J=>by have:=tO (ν:=ν) (ζ:=ζ) (id:=id) (ρ:=ρ) (κ:=κ) (cs:=cs) (sg:=sg) (p:=p) (c:=c) J;rw[hnum]at this;exact this);have HROW:=Hd (show Man.row ⟨ν,ζ,ρ,wr,id,κ,cs,sg⟩ p 80 c=mfR ν ζ ρ p 80 c id κ cs sg from rfl);have HB:=Hd (show Man.body ⟨ν,ζ,ρ,wr,id,κ,cs,sg⟩=[80,67,77,49]++aW [ν,ζ]++ae 32 ρ++wr++aW [id]++ae 32 κ++ae 64 cs from by
  unfold Man.body aW;simp only[List.map_cons,List.map_nil,XP,Yz,Xc,Yf])
 rw[HROW.out,HB.out];have hp1:=(fun J (u1 u2:ό) (h2:BRow J u1 [80,67,77,49]) (h3:VRow J u2 (cj [ν,ζ]))=>cB u1 [80,67,77,49] u2 [ν,ζ] J h2 Ξ Ξ h3 Ϡ);obtain⟨l1,hl1⟩:∃l1,l1=[80,67,77,49]++aW [ν,ζ]:=⟨_,rfl⟩;have hn1:l1.length=20:=by rw[hl1];simp[bp]
 obtain⟨l2,hl2⟩:∃l2,l2=l1++ae 32 ρ++wr:=⟨_,rfl⟩;have hn2:l2.length=132:=by rw[hl2];simp[hn1,ag,hw]
 have hp2:=(fun J (u1 u2:ό) (h2:BRow J u1 l2) (h3:VRow J u2 (cj [id]))=>cB u1 l2 u2 [id] J h2 Ω Ω h3 Ϡ);obtain⟨l3,hl3⟩:∃l3,l3=l2++aW [id]:=⟨_,rfl⟩;have hn3:l3.length=140:=by rw[hl3];simp[bp,hn2]
 rw[← hl1]at hp1 ⊢;rw[← hl2,← hl3];rw[← hl3]at hp2;simp only[Fresh,hn1]at hp1;simp only[Fresh,hn3,eU]at hp2;have HP1:=Hd hp1;have HP2:=Hd hp2;have HL2:=Hd hl2;haveI s2:=tK ν ζ;clear hl1 hl2 hl3 HB HROW v0 v1 b0 b1 i0 i1 hv hw hp1 hp2 hn1 hn2 hn3;go_enter func208,ntmps208;go_wp2_with (first|refine aU ?_|refine gBp 1 fun b1 J I=>?_|(go_at_call 207;go_loud (refine(HM.out _).mono ?_);rintro e J⟨rfl,V⟩;replace I:=I.keep V;refine p4 ?_)|((with_reducible show wpList _ _ _ (⟨some 8,_,_,_,_,_⟩::⟨some 9,_,_,_,_,_⟩::_) _ _);go_loud (refine xG 80 67 77 49 I rfl rfl rfl rfl rfl rfl rfl rfl (fun _=>rfl) ?_);clear I;intro b8 w9 hb8 hL0;have hA8:Arg w9 (.slice (ϐ b8) 4 4) (ak [80,67,77,49]):=⟨hb8.vrow⟩;have hW0:Was w9 b1 0 (.int .i64 ν):=⟨by rw[Ya w9 b1 0 _ _ _ (hL0.get (.head _))];exact(Ϙ:Cell (mfR ν ζ ρ p 80 c id κ cs sg) 0 (.int .i64 ν)).cell,hL0.lt (.head _)⟩;have hW1:Was w9 b1 1 (.int .i64 ζ):=⟨by rw[Ya w9 b1 1 _ _ _ (hL0.get (.head _))];exact(Ϙ:Cell (mfR ν ζ ρ p 80 c id κ cs sg) 1 (.int .i64 ζ)).cell,hL0.lt (.head _)⟩;have I:=Loc.nil w9;refine p4 ?_)|((refine gN 14 ?_);(first|refine BP I rfl rfl rfl rfl ?_|refine F9 I rfl rfl rfl rfl rfl rfl ?_);intro b14;clear I;intro J I;refine p4 ?_)|((go_at_call 202;go_loud (refine(HP1.out _ _ _ (See.bytes I (l:=[80,67,77,49])) (See.see _ I)).mono ?_);rintro e J⟨g15,Y15,Z15,rfl,W15,hg15,hc15,hb15⟩;have Y:=hL0.join (I.fresh hb15 hg15 hc15);clear hb15 hg15 hc15;clear I hA8 hb8;have I:=Y;clear Y;try simp only[List.cons_append,List.nil_append]at I;refine p4 ?_))|refine ab fun J I=>?_);refine mX (S:=(fun Z=>Loc _ Z [(b1,mfR ν ζ ρ p 80 c id κ cs sg,79)])) 8 (I.drew.pop.pop) ?_;intro H;replace I:=I.drew;refine uG 0 ?_;refine uG 1 ?_;refine uG 4 ?_;refine uG 2 ?_;refine uZ 5 ?_;refine rd1 3 fun K T=>?_;refine eAp ?_;intro g19 Y19 Z19 J W19 I;refine kO T (I.pop.pop) fun H=>?_;refine rd1 6 fun K T=>?_;refine eAp ?_;intro g22 Y22 Z22 J W22 I;refine kO T (I.pop.pop) fun H=>?_;refine uG 7 ?_;refine wD ?_;clear H;go_wp2_with (first|refine aU ?_|refine ab fun J I=>?_);simp only[Nat.reduceAdd]at W22;refine Ϭ 11 I fun H I=>?_;refine uG 0 ?_;refine uG 1 ?_;refine uG 6 ?_;refine uG 2 ?_;refine uG 7 ?_;refine uZ 3 ?_;refine uG 8 ?_;refine rd1 4 fun K T=>?_;refine eBS fun b27 J I=>?_;refine kO T (I.pop) fun H=>?_;refine rd1 5 fun K T=>?_;refine eK (HP2.out _ _ _ (by rw[HL2.out];exact See.bytes I (v:= .slice (ϐ g22) 132 Y22)) (See.see (v:= .slice (ϐ b27) 1 1) _ I)) ?_;rintro e J⟨g28,Y28,Z28,rfl,W28,hg28,hc28,hb28⟩;refine⟨_,rfl,?_⟩;have Y:=I.fresh hb28 hg28 hc28;clear hb28 hg28 hc28;clear I;have I:=Y;clear Y;refine kO T (I.pop.pop) fun H=>?_;refine rd1 9 fun K T=>?_;refine eAp ?_;intro g32 Y32 Z32 J W32 I;refine kO T (I.pop.pop) fun H=>?_;refine uG 10 ?_;refine wD ?_;clear H;go_wp2_with (first|refine aU ?_|(refine gN 37 ?_;refine aA ?_;intro g37 Y37 Z37 J W37 I)|refine ab fun J I=>?_);go_ret2;exact⟨g37,Y37,Z37,rfl,W37,I.sub ((Yd _).cons_cons _)⟩
instance TQ:Ent 208:=eo func208
def dG(id:Int)(κ:Φ):Δ:=[80,67,67,84]++aM id++ae 32 κ
noncomputable def gV(k:Φ)(id:Int)(κ cs:Φ):Bool:=dA (leN k) (leN cs) (leN fun i=>cs (32+i)) (dG id κ)
noncomputable def mw(k sg:Φ)(l:Δ):Bool:=dA (leN k) (leN sg) (leN fun i=>sg (32+i)) l
theorem sS(k:Φ)(id:Int)(κ cs:Φ)(w:ϑ)(h0:0≤id)(h1:id≤2147483647) :
 Rt 209 #[.agg (aa 32 k),.agg (ctR id κ cs)] w (.bool (gV k id κ cs)):=by
 have I:=Loc.nil w;have hm:fH id=true:=by unfold fH;rw[Xw];omega
 have HM:=Hd (fun J=>by have:=kN id J;rw[hm]at this;exact this);have HB:=Hd (fun J=>xC [80,67,67,84] id J Ξ Ξ);have hv:=(fun J (v:ό) (hv:BRows J v [[80,67,67,84]++aM id,ae 32 κ])=>mi k cs v [[80,67,67,84]++aM id,ae 32 κ] J hv Ϡ Ϡ (by simp[aw,ag]));rw[show[[80,67,67,84]++aM id,ae 32 κ].flatten=dG id κ from by simp[dG]]at hv;have HV:=Hd hv;have HC:=Hd (show dA (leN k) (leN cs) (leN fun i=>cs (32+i)) (dG id κ)=gV k id κ cs from rfl);rw[HC.out]at HV;clear hv HC hm h0 h1;generalize gV k id κ cs=C at *
 go_enter func209,ntmps209;go_wp2_with (first|refine aU ?_|refine gBp 2 fun b2 J I=>?_|refine gBp 3 fun b3 J I=>?_|refine ab fun J I=>?_);refine Ϭ 16 I fun H I=>?_;refine uG 0 ?_;refine uZ 1 ?_;refine rd1 2 fun K T=>?_;refine eVv (HM.out _) I fun J I=>?_;refine kO T (I) fun H=>?_;refine uG 3 ?_;refine uL 4 ?_;refine uS 5 ?_;refine uS 7 ?_;refine uS 10 ?_;refine uL 6 ?_;refine uL 8 ?_;refine uS 11 ?_;refine rd1 9 fun K T=>?_;refine eK (HB.out _) ?_;rintro e J⟨g14,Y14,Z14,rfl,W14,hg14,hc14,hb14⟩;refine⟨_,rfl,?_⟩;have Y:=I.fresh hb14 hg14 hc14;clear hb14 hg14 hc14;clear I;have I:=Y;clear Y;refine kO T (I.pop) fun H=>?_;refine rd1 12 fun K T=>?_;refine eBS fun b17 J I=>?_;refine kO T (I.pop.pop) fun H=>?_;refine rd1 13 fun K T=>?_;refine eVv (HV.out _ _ (gD (I.get (.head _)) (See.bytes I) (See.bytes I))) I fun J I=>?_;refine kO T (I.pop.pop) fun H=>?_;refine uG 14 ?_;refine uG 15 ?_;refine wD ?_;clear H;go_wp2_with (first|refine aU ?_|refine ab fun J I=>?_);go_ret;exact⟨rfl,I.bel⟩
end Go.Proofs.YtoifhhljfaoejaaGreatDoor
