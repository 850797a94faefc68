/-
  Lemmas of the law, part 14: the walks of the functions that it calls and the plain facts about them. No condition beyond those written.
-/
import Derived.Deep.MidRow
import Derived.Test.YtoifhhljfaoejaaGreatDoorPkAM
import Derived.Test.YtoifhhljfaoejaaGreatDoorPkAA
set_option maxRecDepth 100000
set_option maxHeartbeats 8000000
set_option linter.unusedVariables false
set_option linter.unusedSimpArgs false
set_option linter.unusedSectionVars false
namespace Go.Proofs.YtoifhhljfaoejaaGreatDoor
open Go.Proofs.Tryz
section
open Go Go.RowKit Go.Shelf
class Hold(S:Mem)(v:outParam Value)(e:outParam TypeId)(ys:outParam (List Value)):Prop where
 hold:(S=[]∧v= .slice none 0 0∧ys=[])∨∃g cap cur,S=[(g,cur,e)]∧v= .slice (some ⟨g,0,none⟩) ys.length cap∧OwnR cur ys.length cap ys
theorem Hold.nil(e:TypeId):Hold [] (.slice none 0 0) e []:=⟨.inl ⟨rfl,rfl,rfl⟩⟩
theorem Hold.own{g cap n:Nat}{cur:Array Value}{e:TypeId}{ys:List Value}(h:OwnR cur n cap ys):Hold [(g,cur,e)] (.slice (some ⟨g,0,none⟩) n cap) e ys:=⟨.inr ⟨g,cap,cur,rfl,by rw[h.len],by rw[h.len];exact h⟩⟩
instance OU(S M:Mem)(b:Nat)(r:Array Value)(t:TypeId)[h:At M b r t]:At (S++M) b r t:=⟨List.mem_append_right _ h.mem⟩
theorem Upd.app{M M':Mem}{b:Nat}{r:Array Value}(S:Mem)(h:Upd M b r M'):Upd (S++M) b r (S++M'):=by
 induction S with
 | nil=>exact h
 | cons e S ih=>exact .tail e ih
instance Mk(S M M':Mem)(b:Nat)(r:Array Value)[h:Ups M b r M']:Ups (S++M) b r (S++M'):=⟨h.upd.app S⟩
instance Ml(S M M':Mem)(b:Nat)[h:Rem M b M']:Rem (S++M) b (S++M'):=⟨(List.Sublist.refl S).append h.sub⟩
theorem Loc.sub{w0 w:World}{M M':Mem}(h:Loc w0 w M)(hs:M'.Sublist M):Loc w0 w M':=⟨h.bel,fun b r t hm=>h.ok b r t (hs.mem hm),h.nd.sublist (hs.map _)⟩
theorem Loc.left{w0 w:World}{S M:Mem}(h:Loc w0 w (S++M)):Loc w0 w S:=h.sub (List.sublist_append_left _ _)
theorem Loc.right{w0 w:World}{S M:Mem}(h:Loc w0 w (S++M)):Loc w0 w M:=h.sub (List.sublist_append_right _ _)
instance KU(w0:World)(x:Nat×Array Value×TypeId)(M:Mem)(v:Value)(ys:List Value)[h:See w0 M v ys]:See w0 (x::M) v ys:=⟨fun w hL=>h.see w hL.pop⟩
instance Mm(w0:World)(S M:Mem)(v:Value)(ys:List Value)[h:See w0 M v ys]:See w0 (S++M) v ys:=⟨fun w hL=>h.see w hL.right⟩
theorem Hold.see{w0 w:World}{S:Mem}{v:Value}{e:TypeId}{ys:List Value}(h:Hold S v e ys)(hL:Loc w0 w S):VRow w v ys:=by
 rcases h.hold with⟨rfl,rfl,rfl⟩|⟨g,cap,cur,rfl,rfl,ho⟩
 ·exact(ov w0 []).see w hL
 ·haveI:=ho
  have h:See w0 [(g,cur,e)] (.slice (some ⟨g,0,none⟩) ys.length cap) ys:=inferInstance;exact h.see w hL
instance KV(w0:World)(S M:Mem)(v:Value)(e:TypeId)(ys:List Value)[h:Hold S v e ys]:See w0 (S++M) v ys:=⟨fun w hL=>h.see hL.left⟩
theorem dk{P:Program}{ops:Array Oper}{Q:Exit→Act→World→Prop}{a:Act}{w:World}{rest:List Oper}{d:Option Tmp}{op:Op}{t:TypeId}{ps:String}{af:Array Edge}{j:Nat}{want:Bool}{k:Tmp}{b:Bool}(ho:(ops[j]?).bind (·.dst)=some k)(ht:a.tmps[k]?=some (.bool b))(hb:b=want)(h:wpList P ops Q (⟨d,op,t,ps,af,none⟩::rest) a w):wpList P ops Q (⟨d,op,t,ps,af,some (j,want)⟩::rest) a w :=
 jh (by
  unfold Region.wanted yielded;simp only[ho,Option.bind_some,ht,hb];cases want <;> rfl) h
class Splice(r:Array Value)(k:Nat)(s:Array Value)(r':outParam (Array Value)):Prop where
 fit:k+s.size≤r.size
 out:∀j,r'[j]?=if k≤j∧j<k+s.size then s[j-k]? else r[j]?
theorem kq{b:Nat}{t:TypeId}:∀(vs:List Value) (o:Nat) (w:World) (r:Array Value),w.heap[b]?=some (.cells r t (0,0))→o+vs.length≤r.size→∃r',(w.setCells b o vs).heap[b]?=some (.cells r' t (0,0))∧∀j,r'[j]?=if o≤j∧j<o+vs.length then vs[j-o]? else r[j]?
 | [],o,w,r,h,_=>⟨r,h,fun j=>by rw[if_neg (by rw[List.length_nil];omega)]⟩
 | v::vs,o,w,r,h,hl=>by
  have h1:=heap_setCell_same w b o r t v h;obtain⟨r',h2,h3⟩:=kq vs (o+1) _ _ h1 (by simp at hl ⊢; omega);refine⟨r',h2,fun j=>?_⟩;rw[h3 j];simp only[List.length_cons]at hl ⊢;by_cases c1:j=o
  ·subst c1
   rw[if_neg (by omega),if_pos (by omega),Array.getElem?_setIfInBounds_self_of_lt (by omega)];simp
  ·by_cases c2:o+1≤j∧j<o+1+vs.length
   ·rw[if_pos c2,if_pos (by omega),show j-o=(j-(o+1))+1 from by omega]
    simp
   ·rw[if_neg c2,if_neg (by omega),Array.getElem?_setIfInBounds_ne (by omega)]
theorem jD{w0:World}{b:Nat}(hb:w0.heap.size≤b):∀(vs:List Value) (o:Nat) (w:World),Below w0.heap.size w0 w→Below w0.heap.size w0 (w.setCells b o vs)
 | [],_,_,h=>h
 | v::vs,o,w,h=>jD hb vs (o+1) _ (h.setCell hb _)
theorem lx{b c:Nat}(hc:c≠b):∀(vs:List Value) (o:Nat) (w:World),(w.setCells b o vs).heap[c]?=w.heap[c]?
 | [],_,_=>rfl
 | v::vs,o,w=>(lx hc vs (o+1) _).trans (heap_setCell_other _ _ _ _ hc)
theorem Loc.splice{w0 w:World}{M M':Mem}(h:Loc w0 w M){b k:Nat}{r s r':Array Value}{t:TypeId}(hm:(b,r,t)∈M)(hs:Splice r k s r')(hu:Upd M b r' M'):Loc w0 (w.setCells b k s.toList) M':=by
 refine⟨jD (h.ge hm) _ _ _ h.bel,fun c r1 t' hm'=>?_,by rw[hu.fst];exact h.nd⟩;rcases hu.back h.nd c r1 t' hm' with⟨rfl,rfl,r2,h1⟩|⟨hne,h1⟩
 ·refine⟨h.ge h1,?_⟩
  have e:r2=r∧t'=t:=by
   have a1:=h.get h1;rw[h.get hm]at a1;cases a1
   exact⟨rfl,rfl⟩
  obtain⟨rfl,rfl⟩:=e;obtain⟨q,h2,h3⟩:=kq s.toList k w r2 (h.get h1) (by simpa using hs.fit);rw[h2];have:q=r1:=Array.ext_getElem? fun j=>by rw[h3 j,hs.out j];simp
  rw[this]
 ·exact⟨h.ge h1,(lx hne _ _ _).trans (h.get h1)⟩
theorem cG(pre s s' post:Array Value)(k:Nat)(hk:k=pre.size)(hs:s'.size=s.size):Splice (pre++s++post) k s' (pre++s'++post) where
 fit:=by simp;omega
 out:=fun j=>by
  subst hk;by_cases h:pre.size≤j∧j<pre.size+s'.size
  ·rw[if_pos h,Array.getElem?_append_left (by simp;omega),Array.getElem?_append_right (by omega)]
  ·rw[if_neg h]
   by_cases h2:j<pre.size
   ·rw[Array.getElem?_append_left (by simp;omega),Array.getElem?_append_left (by omega),Array.getElem?_append_left (by simp;omega),Array.getElem?_append_left (by omega)]
   ·rw[Array.getElem?_append_right (by simp;omega),Array.getElem?_append_right (by simp;omega)]
    simp[hs]
section
variable {ops:Array Oper} {rest:List Oper} {o:Oper} {a:Act} {w0 w:World} {M M':Mem} {Q:Exit→Act→World→Prop} {K:Act→World→Prop}
theorem Loc.there{w0 w:World}{M:Mem}(h:Loc w0 w M){b k n:Nat}{r:Array Value}{t:TypeId}(hm:(b,r,t)∈M)(hf:k+n≤r.size):w.there b k n:=fun j hj =>
 ⟨by rw[cell_of_row w b (k+j) _ _ _ (h.get hm),Array.getElem?_eq_getElem (by omega)];rfl,frozen_of_row w _ _ _ _ (h.get hm)⟩
theorem lSp(hL:Loc w0 w M)(hg:o.guard=none){t:TypeId}{x y:Operand}(ho:o.op= .store t x y)(hd:o.dst=none){b k:Nat}(hx:a.eval x= .pointer (some ⟨b,k,none⟩)){s:Array Value}(hy:a.eval y= .agg s){n:Nat}[hr:Row1 s n][ht:RowTy t n]{r r':Array Value}{u:TypeId}[hm:At M b r u][hs:Splice r k s r'][hu:Ups M b r' M'](h:∀w',Loc w0 w' M'→wpList prog ops Q rest a w'):wpList prog ops Q (o::rest) a w:=by
 refine wpList_store_mid hg t x y ho b k s hx hy (hL.there hm.mem hs.fit) (by rw[ht.size,hr.size]) hr.one ?_;rw[hd];exact h _ (hL.splice hm.mem hs hu.upd)
theorem eSp(hL:Loc w0 w M){t:TypeId}{x y:Operand}(ho:o.op= .store t x y){b k:Nat}(hx:a.eval x= .pointer (some ⟨b,k,none⟩)){s:Array Value}(hy:a.eval y= .agg s){n:Nat}[hr:Row1 s n][ht:RowTy t n]{r r':Array Value}{u:TypeId}[hm:At M b r u][hs:Splice r k s r'][hu:Ups M b r' M'](h:∀w',Loc w0 w' M'→K (a.put o.dst undef) w'):o.wp prog a w K Q :=
 wp_store_mid t x y ho b k s hx hy (hL.there hm.mem hs.fit) (by rw[ht.size,hr.size]) hr.one (h _ (hL.splice hm.mem hs hu.upd))
end
end
section
open Go Go.RowKit Go.Shelf
class BkM(F:Array Value→Array Value→Array Value→Array Value→Mem)(bf bb bo bk:Nat):Prop where
 a:∀x y z u,At (F x y z u) bf x 106
 u:∀x y z u x',Ups (F x y z u) bf x' (F x' y z u)
 b:∀x y z u,At (F x y z u) bb y 5
 v:∀x y z u y',Ups (F x y z u) bb y' (F x y' z u)
 o:∀x y z u,At (F x y z u) bo z 108
 p:∀x y z u z',Ups (F x y z u) bo z' (F x y z' u)
 q:∀x y z u,At (F x y z u) bk u 166
 r:∀x y z u u',Ups (F x y z u) bk u' (F x y z u')
instance bkM(F:Array Value→Array Value→Array Value→Array Value→Mem)(bf bb bo bk:Nat)[h1:∀x y z u,At (F x y z u) bf x 106][h2:∀x y z u x',Ups (F x y z u) bf x' (F x' y z u)][h3:∀x y z u,At (F x y z u) bb y 5][h4:∀x y z u y',Ups (F x y z u) bb y' (F x y' z u)][h5:∀x y z u,At (F x y z u) bo z 108][h6:∀x y z u z',Ups (F x y z u) bo z' (F x y z' u)][h7:∀x y z u,At (F x y z u) bk u 166][h8:∀x y z u u',Ups (F x y z u) bk u' (F x y z u')]:BkM F bf bb bo bk:=⟨h1,h2,h3,h4,h5,h6,h7,h8⟩
abbrev bkR(bf bo:Nat)(p:Option Addr)(n c:Nat)(half:Int):Array Value:= #[.pointer (some ⟨bf,0,none⟩),.pointer (some ⟨bo,0,none⟩),.slice p n c,.int .i64 half,.bool false]
theorem DC{f:Nat→BitVec 8}{s:Nat}(h:s<64)(i:Nat)(hi:16384≤i):u4 f s 256 i=f i:=by unfold u4;rw[if_neg (by omega)]
theorem DD{f:Nat→BitVec 8}{a n:Nat}{l:List (BitVec 8)}(h:a+n≤16384)(i:Nat)(hi:16384≤i):qv f a l n i=f i:=by unfold qv;rw[if_neg (by omega)]
section
variable {w0 w:World} {F:Array Value→Array Value→Array Value→Array Value→Mem} {bf bb bo bk:Nat} [hF:BkM F bf bb bo bk] {er pr:Int} {y:Array Value} {fr fs:Nat→BitVec 8} {n m:Int} {f:Nat→BitVec 8}
theorem pu{half:Int}{k:Nat}(hk:k<2)(hkh:1-half=k){kp:Option Addr}{kn kc:Nat}{p:Option Addr}{c:Nat}{l:List (BitVec 8)}(hl:l.length≤4096)(hS:∀x y z u,See w0 (F x y z u) (.slice p l.length c) (an l))(hn0:0≤n)(hnm:n<m)(hm:m≤1048576)(he:0≤er∧er≤1099511627776)(hp:0≤pr∧pr≤1099511627776)(hy:Fl f y)(R:Ending→World→Prop)(hR:∀w1 er' pr' f' y',(0≤er'∧er'≤1099511627776)→(0≤pr'∧pr'≤1099511627776)→(∀i,16384≤i→f' i=f i)→Fl f' y'→Loc w0 w1 (F (flR bb er' pr') y' (otR bf fr fs (n+1) m) (bkR bf bo kp kn kc half)) →
  Calls prog 94 #[.slice p l.length c] w1 fun e w2=>∃q d S,e= .returned (.slice q l.length d)∧Loc w0 w2 (S++F (flR bb er' pr') y' (otR bf fr fs (n+1) m) (bkR bf bo kp kn kc half)) ∧
   ∀w3,Loc w0 w3 (S++F (flR bb er' pr') y' (otR bf fr fs (n+1) m) (bkR bf bo q l.length d k))→R (.returned (.int .i64 0)) w3)(hL:Loc w0 w (F (flR bb er pr) y (otR bf fr fs n m) (bkR bf bo kp kn kc half))) :
 Calls prog 148 #[.pointer (some ⟨bk,0,none⟩),.slice p l.length c] w R:=by
 have hA:=hF.a;have hU:=hF.u;have hB:=hF.b;have hV:=hF.v;have hO:=hF.o;have hPP:=hF.p;have hQ:=hF.q;have hRR:=hF.r;have HR:=Hd hR;have HE:=Hd he;have HP:=Hd hp;have HREC:=Hd (fun w1 v (h:BRow w1 v l)=>xI fs (n+1) v l w1 h (by omega) hl);have hrl:=va fs (n+1) l;generalize u9 fs (n+1) l=rc at *
 have hrc1:rc.length≤4148:=by omega
 have hrc0:0<rc.length:=by omega
 clear hrl hR he hp;have hwr:IntKind.i64.wrap (n+1)=n+1:=IntWalk.i64_in _ (by omega);go_enter func148,ntmps148;go_wp2_with (first|refine aV ?_|(refine aM ?_;clear hL;intro w1 hL));refine mX (S:=fun w'=>Loc _ w' _) 18 (hL.drew) ?_;intro hHeld;replace hL:=hL.drew;refine uG 0 ?_;refine uG 5 ?_;refine uG 11 ?_;refine uG 1 ?_;refine uG 6 ?_;refine uG 2 ?_;refine uG 7 ?_;refine uZ 3 ?_;refine uZ 8 ?_;refine rd1 4 ?_;intro K hK;refine eK (gK (F:=fun x y z=>F x y z (bkR bf bo kp kn kc half)) (bf:=bf) (bb:=bb) hL) ?_;rintro e w1⟨rfl,hL1⟩;refine⟨_,rfl,?_⟩;clear hL;revert hL1;refine aN ?_;intro hL;refine kO hK (hL) ?_;clear hK K hHeld;intro hHeld;refine rd1 9 ?_;intro K hK;refine eK (et (F:=fun x y z=>F x y z (bkR bf bo kp kn kc half)) (bf:=bf) (bb:=bb) hL) ?_;rintro e w1⟨rfl,hL1⟩;refine⟨_,rfl,?_⟩;clear hL;revert hL1;refine aN ?_;intro hL;refine kO hK (hL) ?_;clear hK K hHeld;intro hHeld;refine uG 10 ?_;refine rd1 12 ?_;intro K hK;refine eK (HREC.out _ (.slice p l.length c) (See.bytes hL)) ?_;rintro e w1⟨g23,cap23,cur23,rfl,hr23,hN⟩;refine⟨_,rfl,?_⟩;have hL1:=hL.join hN;clear hN hL;revert hL1;refine aJ ?_;intro hL;refine kO hK (hL.pop) ?_;clear hK K hHeld;intro hHeld;refine uG 13 ?_;refine uG 14 ?_;refine uG 15 ?_;refine uG 16 ?_;refine uG 17 ?_;refine wD ?_;clear hHeld;obtain⟨a,ha⟩:∃a,a=8192*k:=⟨_,rfl⟩;have ha2:(k:Int)*32*256=(a:Nat):=by omega
 have ha3:a≤8192:=by omega
 have HA:=Hd ha;clear ha;go_wp2_with (first|refine aV ?_|(refine aM ?_;clear hL;intro w1 hL));have HF0:∀i,16384≤i→f i=f i:=fun _ _=>rfl;go_loopw [9] (fun kk wr=>∃(j x:Nat) (e1:Int) (f1:Nat→BitVec 8) (y1:Array Value),x=256*j∧kk= .int .i64 x∧x≤5000∧(0≤e1∧e1≤1099511627776)∧(∀i,16384≤i→f1 i=f i)∧Fl f1 y1∧Loc w0 wr ((g23,cur23,5)::F (flR bb e1 pr) y1 (otR bf fr fs n m) (bkR bf bo kp kn kc half))) (fun kk _=>rc.length-(intOf kk).toNat);case atStart=>exact⟨0,0,er,f,y,rfl,rfl,by omega,HE.out,HF0,hy,hL⟩
 case round =>
  clear hL hy HF0;obtain⟨j,x,e1,f1,y1,hx,rfl,hx5,he1,hf1,hy,hL⟩:=hrel;have HX:=Hd hx;by_cases hlt:x<rc.length
  ·have k0:(0:Int)≤x:=by omega
   have k1:(x:Int)<rc.length:=by omega
   obtain⟨s,hs⟩:∃s,s=32*k+j:=⟨_,rfl⟩;have hsx:a+x=256*s:=by have:=HA.out;omega
   have hs64:s<64:=by have:=HA.out;omega
   have HS:=Hd hs;have k2:((a:Int)+x)/256=(s:Nat):=by omega
   clear hs hx;go_wp2_with (first|refine aV ?_|(refine gN 51 ?_;rw[k2];refine lKk (AO (F:=fun x y=>(g23,cur23,5)::F x y (otR bf fr fs n m) (bkR bf bo kp kn kc half)) (bf:=bf) (bb:=bb) s (by omega) he1 hy hL) ?_;rintro e w1⟨rfl,e2,y2,he2,hy2,hL1⟩;clear hL;revert hL1;refine aE ?_;intro hL)|(refine aM ?_;clear hL;intro w1 hL));go_roundw;case rel=>exact⟨j+1,x+256,e2,_,y2,by rw[HX.out];omega,by go_num,by omega,he2,fun i hi=>by rw[DC hs64 i hi];exact hf1 i hi,hy2,hL⟩
   case measure=>simp only[intOf];omega
  ·have k1:¬(x:Int)<rc.length:=by omega
   clear hx;have hcap:=hr23.le;go_wp2_with (first|refine aV ?_|(refine gN 59 ?_;refine lKk (u5 (F:=fun x y=>(g23,cur23,5)::F x y (otR bf fr fs n m) (bkR bf bo kp kn kc half)) (bf:=bf) (bb:=bb) (l:=rc) a (fun x y=>inferInstance) rfl hcap hrc0 (by omega) HP.out hy hL) ?_;rintro e w1⟨rfl,p2,y2,hp2,hy2,hL1⟩;clear hL;revert hL1;refine aE ?_;intro hL)|(refine gN 66 ?_;refine lO (Dy (F:=fun x y z=>(g23,cur23,5)::F x y z (bkR bf bo kp kn kc half)) (bf:=bf) (bb:=bb) hn0 hnm hm hL) ?_;clear hL;intro w1 hL)|((go_at_call 94;go_loud (refine(HR.out _ _ _ _ _ he1 hp2 (fun i hi=>by rw[DD (by omega) i hi];exact hf1 i hi) hy2 hL.pop).mono ?_);rintro e w1⟨q,d,S,rfl,hL1,hEnd⟩;clear hL;have hL:=hL1;clear hL1;refine p4 ?_))|(refine aM ?_;clear hL;intro w1 hL))
   all_goals(go_ret;exact hEnd _ hL)
theorem AS{half:Int}{k:Nat}(hk:k<2)(hkh:1-half=k){kp:Option Addr}{kn kc:Nat}(hn0:0≤n)(hnm:n<m)(hm:m≤1048576)(he:0≤er∧er≤1099511627776)(hp:0≤pr∧pr≤1099511627776)(hy:Fl f y)(hL:Loc w0 w (F (flR bb er pr) y (otR bf fr fs n m) (bkR bf bo kp kn kc half))) :
 Calls prog 148 #[.pointer (some ⟨bk,0,none⟩),.slice none 0 0] w fun e w'=>e= .returned (.int .i64 0)∧∃er' pr' f' y',(0≤er'∧er'≤1099511627776)∧(0≤pr'∧pr'≤1099511627776)∧(∀i,16384≤i→f' i=f i)∧Fl f' y' ∧
  Loc w0 w' (F (flR bb er' pr') y' (otR bf fr fs (n+1) m) (bkR bf bo none 0 0 k)) :=
 pu (l:=[]) hk hkh (by simp) (fun x y z u=>ov w0 _) hn0 hnm hm he hp hy _ (fun w1 er' pr' f' y' h1 h2 h3 h4 h5=>(jV w1).mono fun e w2 ⟨e1,e2⟩=>⟨none,0,[],e1,by subst e2;exact h5,fun w3 h6=>⟨rfl,er',pr',f',y',h1,h2,h3,h4,h6⟩⟩) hL
theorem xJ{half:Int}{k:Nat}(hk:k<2)(hkh:1-half=k){kp:Option Addr}{kn kc:Nat}{p:Option Addr}{c:Nat}{l:List (BitVec 8)}(hl0:0<l.length)(hl:l.length≤4096)(hS:∀x y z u,See w0 (F x y z u) (.slice p l.length c) (an l))(hn0:0≤n)(hnm:n<m)(hm:m≤1048576)(he:0≤er∧er≤1099511627776)(hp:0≤pr∧pr≤1099511627776)(hy:Fl f y)(hL:Loc w0 w (F (flR bb er pr) y (otR bf fr fs n m) (bkR bf bo kp kn kc half))) :
 Calls prog 148 #[.pointer (some ⟨bk,0,none⟩),.slice p l.length c] w fun e w'=>e= .returned (.int .i64 0)∧∃g cap cur er' pr' f' y',OwnR cur l.length cap (an l)∧(0≤er'∧er'≤1099511627776)∧(0≤pr'∧pr'≤1099511627776)∧(∀i,16384≤i→f' i=f i)∧Fl f' y' ∧
  Loc w0 w' ((g,cur,5)::F (flR bb er' pr') y' (otR bf fr fs (n+1) m) (bkR bf bo (some ⟨g,0,none⟩) l.length cap k)) :=
 pu hk hkh hl hS hn0 hnm hm he hp hy _ (fun w1 er' pr' f' y' h1 h2 h3 h4 h5=>(d9 _ l w1 (See.bytes (h:=hS _ _ _ _) h5) hl0 (by omega)).mono fun e w2 ⟨g,cap,cur,e1,hr,hg,hc,hb⟩=>⟨some ⟨g,0,none⟩,cap,[(g,cur,5)],e1,h5.fresh hb hg hc,fun w3 h6=>⟨rfl,g,cap,cur,er',pr',f',y',hr,h1,h2,h3,h4,h6⟩⟩) hL
instance OV:Ent 148:=eo func148
end
end
section
open Go Go.RowKit Go.Shelf
section
variable {w0 w:World} {F:Array Value→Array Value→Array Value→Array Value→Mem} {bf bb bo bk:Nat} [hF:BkM F bf bb bo bk] {er pr:Int} {y:Array Value} {fr fs:Nat→BitVec 8} {n m:Int} {f:Nat→BitVec 8}
theorem pv{half num:Int}{kp:Option Addr}{kn kc:Nat}(hy:Fl (fun _=>255) y)(hL:Loc w0 w (F (flR bb er pr) y (otR bf fr fs n m) (bkR bf bo kp kn kc half))) :
 Calls prog 146 #[.pointer (some ⟨bk,0,none⟩),.int .i64 num] w fun e w'=>e= .returned (.bool false)∧Loc w0 w' (F (flR bb er pr) y (otR bf fr fs n m) (bkR bf bo kp kn kc half)):=by
 have hA:=hF.a;have hU:=hF.u;have hB:=hF.b;have hV:=hF.v;have hO:=hF.o;have hPP:=hF.p;have hQ:=hF.q;have hRR:=hF.r;go_enter func146,ntmps146;go_wp2_with (first|refine aV ?_|(refine aM ?_;clear hL;intro w1 hL));go_loopw [9] (fun kk wr=>∃(k:Nat),k≤2∧kk= .int .i64 k∧Loc w0 wr (F (flR bb er pr) y (otR bf fr fs n m) (bkR bf bo kp kn kc half))) (fun kk _=>2-(intOf kk).toNat);case atStart=>exact⟨0,by omega,rfl,hL⟩
 case round =>
  clear hL;obtain⟨k,hk,rfl,hL⟩:=hrel;by_cases hlt:k<2
  ·have k1:(k:Int)<2:=by omega
   have k0:(0:Int)≤k:=by omega
   go_wp2_with (first|refine aV ?_|(refine aM ?_;clear hL;intro w1 hL));refine mX (S:=fun w'=>Loc _ w' _) 18 (hL.drew) ?_;intro hHeld;replace hL:=hL.drew;refine uG 0 ?_;refine uG 4 ?_;refine uG 9 ?_;refine uG 1 ?_;refine uG 5 ?_;refine uG 2 ?_;refine uG 6 ?_;refine uZ 3 ?_;refine uZ 7 ?_;refine rd1 8 ?_;intro K hK;refine eK (gK (F:=fun x y z=>F x y z (bkR bf bo kp kn kc half)) (bf:=bf) (bb:=bb) hL) ?_;rintro e w1⟨rfl,hL1⟩;refine⟨_,rfl,?_⟩;clear hL;revert hL1;refine aN ?_;intro hL;refine kO hK (hL) ?_;clear hK K hHeld;intro hHeld;refine rd1 10 ?_;intro K hK;refine eK (DB (F:=fun x y=>F x y (otR bf fr fs n m) (bkR bf bo kp kn kc half)) (bf:=bf) (bb:=bb) fs k hlt hy hL) ?_;rintro e w1⟨rfl,hL1⟩;refine⟨_,rfl,?_⟩;clear hL;revert hL1;refine aN ?_;intro hL;refine kO hK (hL) ?_;clear hK K hHeld;intro hHeld;refine uG 11 ?_;refine uG 12 ?_;refine uG 13 ?_;refine uG 14 ?_;refine uG 15 ?_;refine uG 16 ?_;refine uG 17 ?_;refine wD ?_;clear hHeld;go_wp2_with (first|refine aV ?_|(refine aM ?_;clear hL;intro w1 hL));go_roundw;case rel=>exact⟨k+1,by omega,by go_num,hL⟩
   case measure=>simp only[intOf];omega
  ·obtain rfl:k=2:=by omega
   go_wp2_with (first|refine aV ?_|(refine aM ?_;clear hL;intro w1 hL))
   all_goals(go_ret;exact⟨rfl,hL⟩)
end
instance OW:Ent 146:=eo func146
section
variable {w0 w:World} {F:Array Value→Array Value→Array Value→Array Value→Mem} {bf bb bo bk:Nat} [hF:BkM F bf bb bo bk] {er pr:Int} {y:Array Value} {fr fs:Nat→BitVec 8} {n m:Int} {f:Nat→BitVec 8}
theorem te(hm0:0<m)(hm:m≤1048576)(he:0≤er∧er≤1099511627776)(hp:0≤pr∧pr≤1099511627776)(hy:Fl (fun _=>255) y)(hL:Loc w0 w (F (flR bb er pr) y (otR bf fr fs 0 m) (bkR bf bo none 0 0 0))) :
 Calls prog 91 #[.pointer (some ⟨bk,0,none⟩)] w fun e w'=>e= .returned (.int .i64 0)∧∃er' pr' f' y',(0≤er'∧er'≤1099511627776)∧(0≤pr'∧pr'≤1099511627776)∧(∀i,16384≤i→f' i=255)∧Fl f' y' ∧
  Loc w0 w' (F (flR bb er' pr') y' (otR bf fr fs 1 m) (bkR bf bo none 0 0 0)):=by
 have hA:=hF.a;have hU:=hF.u;have hB:=hF.b;have hV:=hF.v;have hO:=hF.o;have hPP:=hF.p;have hQ:=hF.q;have hRR:=hF.r;have q0:¬(0:Int)=m:=by omega
 have q1:((0:Int)==m)=false:=by simp only[beq_eq_false_iff_ne];exact q0
 have HW:=Hd (fun w1 (h:Loc w0 w1 (F (flR bb er pr) y (otR bf fr fs 0 m) (bkR bf bo none 0 0 1)))=>AS (F:=F) (bf:=bf) (bb:=bb) (bo:=bo) (bk:=bk) (half:=1) (k:=0) (by omega) rfl (n:=0) (by omega) hm0 hm he hp hy h);go_enter func91,ntmps91;go_wp2_with (first|refine aV ?_|(refine gN 9 ?_;refine lO (et (F:=fun x y z=>F x y z (bkR bf bo none 0 0 0)) (bf:=bf) (bb:=bb) hL) ?_;clear hL;intro w1 hL)|(refine gN 15 ?_;refine lO (jC (F:=fun x y z=>F x y z (bkR bf bo none 0 0 0)) (bf:=bf) (bb:=bb) hL) ?_;clear hL;intro w1 hL)|(refine gN 24 ?_;refine lO (pv (F:=F) (bf:=bf) (bb:=bb) (bo:=bo) (bk:=bk) hy hL) ?_;clear hL;intro w1 hL)|(refine gN 34 ?_;refine lO (pv (F:=F) (bf:=bf) (bb:=bb) (bo:=bo) (bk:=bk) hy hL) ?_;clear hL;intro w1 hL)|(refine gN 47 ?_;refine lKk (HW.out _ hL) ?_;rintro e w1⟨rfl,er2,pr2,f2,y2,he2,hp2,hf2,hy2,hL1⟩;clear hL;revert hL1;refine aE ?_;intro hL)|(refine aM ?_;clear hL;intro w1 hL))
 all_goals(go_ret;exact⟨rfl,er2,pr2,f2,y2,he2,hp2,hf2,hy2,hL⟩)
end
instance OX:Ent 91:=eo func91
theorem xL(bf bo:Nat)(w:World):(Instr.build 166 #[(0,.pointer (some ⟨bf,0,none⟩)),(1,.pointer (some ⟨bo,0,none⟩))]).run prog w= .ok (.agg (bkR bf bo none 0 0 0)) w:=by kernel_rfl
section
variable {w0 w:World} {F:Array Value→Array Value→Array Value→Mem} {bf bb bo:Nat} [hF:OtM F bf bb bo] {er pr:Int} {y:Array Value} {fr fs:Nat→BitVec 8} {m:Int}
theorem tf(hm0:0<m)(hm:m≤1048576)(he:0≤er∧er≤1099511627776)(hp:0≤pr∧pr≤1099511627776)(hy:Fl (fun _=>255) y)(hL:Loc w0 w (F (flR bb er pr) y (otR bf fr fs 0 m))) :
 Calls prog 43 #[.pointer (some ⟨bf,0,none⟩),.pointer (some ⟨bo,0,none⟩)] w fun e w'=>∃bk er' pr' f' y',e= .returned (.tuple #[.pointer (some ⟨bk,0,none⟩),.int .i64 0])∧(0≤er'∧er'≤1099511627776)∧(0≤pr'∧pr'≤1099511627776)∧(∀i,16384≤i→f' i=255)∧Fl f' y' ∧
  Loc w0 w' ((bk,bkR bf bo none 0 0 0,166)::F (flR bb er' pr') y' (otR bf fr fs 1 m)):=by
 have hA:=hF.a;have hU:=hF.u;have hB:=hF.b;have hV:=hF.v;have hO:=hF.o;have hPP:=hF.p;go_enter func43,ntmps43;go_wp2_with (first|refine aV ?_|(refine gBp 26 ?_;clear hL;intro b26 w1 hL)|(refine gN 17 ?_;refine lO (ic (F:=fun x y=>F x y (otR bf fr fs 0 m)) (bf:=bf) (bb:=bb) hL) ?_;clear hL;intro w1 hL)|(refine gN 22 ?_;refine lO (pp (F:=fun x y=>F x y (otR bf fr fs 0 m)) (bf:=bf) (bb:=bb) hL) ?_;clear hL;intro w1 hL)|(refine gN 25 ?_;refine lU hL rfl rfl (xL _ _) rfl ?_;clear hL;intro w1 hL;refine p4 ?_)|(refine gN 28 ?_;refine lKk (te (F:=fun x y z u=>(b26,u,166)::F x y z) (bf:=bf) (bb:=bb) (bo:=bo) (bk:=b26) hm0 hm he hp hy hL) ?_;rintro e w1⟨rfl,er2,pr2,f2,y2,he2,hp2,hf2,hy2,hL1⟩;clear hL;revert hL1;refine aE ?_;intro hL)|(refine aM ?_;clear hL;intro w1 hL))
 all_goals(go_ret2;exact⟨b26,er2,pr2,f2,y2,rfl,he2,hp2,hf2,hy2,hL⟩)
end
instance OY:Ent 43:=eo func43
section
variable {w0 w:World} {M:Mem} {bf bo bk:Nat}
theorem DE(hA:At M bk (bkR bf bo none 0 0 0) 166)(hL:Loc w0 w M) :
 Calls prog 45 #[.pointer (some ⟨bk,0,none⟩)] w fun e w'=>e= .returned (.slice none 0 0)∧Loc w0 w' M:=by
 go_enter func45,ntmps45;go_wp2_with (first|refine aV ?_|((go_at_call 94;go_loud (refine(jV _).mono ?_);rintro e w1⟨rfl,rfl⟩;refine p4 ?_))|(refine aM ?_;clear hL;intro w1 hL))
 all_goals(go_ret;exact⟨rfl,hL⟩)
end
instance OZ:Ent 45:=eo func45
section
variable {w0 w:World} {F:Array Value→Array Value→Array Value→Array Value→Mem} {bf bb bo bk:Nat} [hF:BkM F bf bb bo bk] {er pr:Int} {y:Array Value} {fr fs:Nat→BitVec 8} {n m:Int} {f:Nat→BitVec 8}
theorem DF{half:Int}{k:Nat}(hk:k<2)(hkh:1-half=k){kp:Option Addr}{kn kc:Nat}{p:Option Addr}{c:Nat}{l:List (BitVec 8)}(hl0:0<l.length)(hl:l.length≤4096)(hS:∀x y z u,See w0 (F x y z u) (.slice p l.length c) (an l))(hn0:0≤n)(hnm:n<m)(hm:m≤1048576)(he:0≤er∧er≤1099511627776)(hp:0≤pr∧pr≤1099511627776)(hy:Fl f y)(hL:Loc w0 w (F (flR bb er pr) y (otR bf fr fs n m) (bkR bf bo kp kn kc half))) :
 Calls prog 343 #[.pointer (some ⟨bk,0,none⟩),.slice p l.length c] w fun e w'=>e= .returned (.int .i64 0)∧∃g cap cur er' pr' f' y',OwnR cur l.length cap (an l)∧(0≤er'∧er'≤1099511627776)∧(0≤pr'∧pr'≤1099511627776)∧(∀i,16384≤i→f' i=f i)∧Fl f' y' ∧
  Loc w0 w' ((g,cur,5)::F (flR bb er' pr') y' (otR bf fr fs (n+1) m) (bkR bf bo (some ⟨g,0,none⟩) l.length cap k)):=by
 have hA:=hF.a;have hU:=hF.u;have hB:=hF.b;have hV:=hF.v;have hO:=hF.o;have hPP:=hF.p;have hQ:=hF.q;have hRR:=hF.r;have HW:=Hd (fun w1 (h:Loc w0 w1 (F (flR bb er pr) y (otR bf fr fs n m) (bkR bf bo kp kn kc half)))=>xJ (F:=F) (bf:=bf) (bb:=bb) (bo:=bo) (bk:=bk) hk hkh hl0 hl hS hn0 hnm hm he hp hy h);have q0:¬n=m:=by omega
 have q1:¬(4096:Int)<l.length:=by omega
 go_enter func343,ntmps343;go_wp2_with (first|refine aV ?_|(refine gN 20 ?_;refine lO (pp (F:=fun x y=>F x y (otR bf fr fs n m) (bkR bf bo kp kn kc half)) (bf:=bf) (bb:=bb) hL) ?_;clear hL;intro w1 hL)|(refine aM ?_;clear hL;intro w1 hL));refine mX (S:=fun w'=>Loc _ w' _) 12 (hL.drew) ?_;intro hHeld;replace hL:=hL.drew;refine uG 0 ?_;refine uG 5 ?_;refine uG 1 ?_;refine uG 6 ?_;refine uG 2 ?_;refine uG 7 ?_;refine uZ 3 ?_;refine uZ 8 ?_;refine rd1 4 ?_;intro K hK;refine eK (et (F:=fun x y z=>F x y z (bkR bf bo kp kn kc half)) (bf:=bf) (bb:=bb) hL) ?_;rintro e w1⟨rfl,hL1⟩;refine⟨_,rfl,?_⟩;clear hL;revert hL1;refine aN ?_;intro hL;refine kO hK (hL) ?_;clear hK K hHeld;intro hHeld;refine rd1 9 ?_;intro K hK;refine eK (jC (F:=fun x y z=>F x y z (bkR bf bo kp kn kc half)) (bf:=bf) (bb:=bb) hL) ?_;rintro e w1⟨rfl,hL1⟩;refine⟨_,rfl,?_⟩;clear hL;revert hL1;refine aN ?_;intro hL;refine kO hK (hL) ?_;clear hK K hHeld;intro hHeld;refine uG 10 ?_;refine uG 11 ?_;refine wD ?_;clear hHeld;go_wp2_with (first|refine aV ?_|(refine gN 36 ?_;refine lKk (HW.out _ hL) ?_;rintro e w1⟨rfl,g,cap,cur,er2,pr2,f2,y2,hr,he2,hp2,hf2,hy2,hL1⟩;clear hL;revert hL1;refine aE ?_;intro hL)|(refine aM ?_;clear hL;intro w1 hL))
 all_goals(go_ret;exact⟨rfl,g,cap,cur,er2,pr2,f2,y2,hr,he2,hp2,hf2,hy2,hL⟩)
end
instance O0:Ent 343:=eo func343
end
section
open Go Go.RowKit Go.Shelf
structure Sta where
 fl:Int
 rv:List Int
 m0:List (BitVec 8)
 d0:Bool
 t0:Int
 m1:List (BitVec 8)
 d1:Bool
 t1:Int
 ac:Int
structure Sq where
 pr:Option Addr
 cr:Nat
 p0:Option Addr
 c0:Nat
 p1:Option Addr
 c1:Nat
abbrev slR(p:Option Addr)(n c:Nat)(d:Bool)(t:Int):Array Value:= #[.slice p n c,.bool d,.int .i64 t]
abbrev stR(s:Sta)(q:Sq):Array Value:= #[.int .i64 s.fl,.slice q.pr s.rv.length q.cr,.slice q.p0 s.m0.length q.c0,.bool s.d0,.int .i64 s.t0,.slice q.p1 s.m1.length q.c1,.bool s.d1,.int .i64 s.t1,.int .i64 s.ac]
def Sta.new:Sta:=⟨0,[],[],false,0,[],false,0,-1⟩
def Sq.none:Sq:=⟨.none,0,.none,0,.none,0⟩
def py(n:Int):Prop:=0≤n∧n≤2147483647
def DG(m:List (BitVec 8))(d:Bool)(t:Int):Prop:=(m.length=0∧d=false∧t=0)∨(m.length=300∧0≤t∧t≤3)
structure Good(s:Sta):Prop where
 fl:py s.fl
 n:s.rv.length≤32
 ids:∀(i:Nat) (h:i<s.rv.length),py s.rv[i]
 up:∀(i:Nat) (h:i+1<s.rv.length),s.rv[i]<s.rv[i+1]
 ac:s.ac= -1∨(s.ac=0∧s.m0.length=300∧s.d0=true)∨(s.ac=1∧s.m1.length=300∧s.d1=true)
 s0:DG s.m0 s.d0 s.t0
 s1:DG s.m1 s.d1 s.t1
structure ReadS(w:World)(s:Sta)(q:Sq):Prop where
 r:VRow w (.slice q.pr s.rv.length q.cr) (dq s.rv)
 a:BRow w (.slice q.p0 s.m0.length q.c0) s.m0
 b:BRow w (.slice q.p1 s.m1.length q.c1) s.m1
 zr:s.rv=[]→q.pr=none
 za:s.m0=[]→q.p0=none
 zb:s.m1=[]→q.p1=none
theorem vc:Good Sta.new:=⟨by unfold py Sta.new;decide,by decide,fun i h=>absurd h (by simp[Sta.new]),fun i h=>absurd h (by simp[Sta.new]),.inl rfl,.inl ⟨rfl,rfl,rfl⟩,.inl ⟨rfl,rfl,rfl⟩⟩
instance O1:RowTy 58 9:=⟨⟨_,underlying58,rfl⟩,by kernel_rfl⟩
instance O2:RowTy 55 3:=⟨⟨_,underlying55,rfl⟩,by kernel_rfl⟩
instance O3:RowZ 58 (stR ⟨0,[],[],false,0,[],false,0,0⟩ Sq.none):=⟨by kernel_rfl⟩
instance O4(a b x y z c d e f:Value):Part #[a,b,x,y,z,c,d,e,f] 58 2 55 #[x,y,z]:=ce (pre:= #[a,b]) (post:= #[c,d,e,f]) rfl rfl
instance O5(a b x y z c d e f:Value):Part #[a,b,x,y,z,c,d,e,f] 58 5 55 #[c,d,e]:=ce (pre:= #[a,b,x,y,z]) (post:= #[f]) rfl rfl
theorem AT(w:World):(Instr.build 58 #[(3,.int .i64 (-1))]).run prog w= .ok (.agg (stR Sta.new Sq.none)) w:=by kernel_rfl
theorem tg(w:World):Rt 92 #[] w (.agg (stR Sta.new Sq.none)):=by
 have hL:=Loc.nil w;go_enter func92,ntmps92;go_wp2_with (first|refine aV ?_|(refine gBp 0 ?_;clear hL;intro b0 w1 hL)|(refine gN 1 ?_;refine lU hL rfl rfl (AT _) rfl ?_;clear hL;intro w1 hL;refine p4 ?_)|(refine aM ?_;clear hL;intro w1 hL));exact bodyPost_ret (ai rfl hL rfl) rfl ⟨rfl,hL.bel⟩
instance O6:Ent 92:=eo func92
theorem pz(n:Int)(h:py n)(w:World):Calls prog 228 #[.int .i64 n] w fun e w'=>e= .returned (.bool true)∧w=w':=by
 obtain⟨h0,h1⟩:=h;go_enter func228,ntmps228;go_wp2_with (first|refine aV ?_|(refine aM ?_;clear hL;intro w1 hL))
 all_goals(go_ret;exact⟨rfl,rfl⟩)
theorem vd(p:Option Addr)(n c:Nat)(d:Bool)(t:Int)(h:(n=0∧d=false∧t=0)∨(n=300∧0≤t∧t≤3))(w:World):Rt 244 #[.agg (slR p n c d t)] w (.bool true):=by
 have hL:=Loc.nil w;rcases h with⟨rfl,rfl,rfl⟩|⟨rfl,h0,h1⟩
 ·go_enter func244,ntmps244
  go_wp2_with (first|refine aV ?_|(refine gBp 1 ?_;clear hL;intro b1 w1 hL)|(refine aM ?_;clear hL;intro w1 hL))
  all_goals(go_ret;exact⟨rfl,hL.bel⟩)
 ·go_enter func244,ntmps244
  go_wp2_with (first|refine aV ?_|(refine gBp 1 ?_;clear hL;intro b1 w1 hL)|(refine aM ?_;clear hL;intro w1 hL))
  all_goals(go_ret;exact⟨rfl,hL.bel⟩)
instance O7:Ent 244:=eo func244
end
section
open Go Go.RowKit Go.Shelf
theorem mN{w:World}{v:Value}{l:List Int}(h:VRow w v (dq l)):∃a c,v= .slice a l.length c∧∀k,k<l.length→∃bl ol,a=some ⟨bl,ol,none⟩∧∀i (hi:i<l.length),Was w bl (ol+i) (.int .i64 l[i]):=by
 obtain⟨_,a,c,e,_,hc⟩:=h;refine⟨a,c,by rw[e,cP],fun k hk=>?_⟩;obtain⟨bl,ol,ea,hb,hcell⟩:=hc (by rw[cP];omega);exact⟨bl,ol,ea,fun i hi=>⟨by rw[hcell i (by rwa[cP])];simp[dq],hb⟩⟩
theorem nM(s:Sta)(q:Sq)(w:World)(hr:ReadS w s q)(hg:Good s):Calls prog 201 #[.agg (stR s q)] w fun e w'=>e= .returned (.bool true)∧Below w.heap.size w w':=by
 obtain⟨fl,rv,m0,d0,t0,m1,d1,t1,ac⟩:=s;obtain⟨pr,cr,p0,c0,p1,c1⟩:=q;obtain⟨g1,g2,g3,g4,g5,g6,g7⟩:=hg;obtain⟨r1,-, -, -, -, -⟩:=hr;dsimp only at *
 have hL:=Loc.nil w;obtain⟨al,cl,e,hW⟩:=mN r1;injection e with e1 e2 e3;subst e1;have HW:=Lib.hid hW;clear hW e2 e3;have HIDS:=Lib.hid g3;have HUP:=Lib.hid g4;have q1:¬(32:Int)<rv.length:=by omega
 have q2:¬ac< -1:=by omega
 have q3:¬2≤ac:=by omega
 have HN:=Lib.hid (fun w1=>pz fl g1 w1);have H6:=Lib.hid (fun w1=>vd p0 m0.length c0 d0 t0 g6 w1);have H7:=Lib.hid (fun w1=>vd p1 m1.length c1 d1 t1 g7 w1);have H5:=Lib.hid g5;clear g1 g3 g4 g6 g7 g5;go_enter func201,ntmps201;go_wp2_with (first|((with_reducible show wpList _ _ _ (⟨_,.load _ _,_,_,_,some _⟩::_) _ _);refine dk rfl rfl rfl ?_)|((with_reducible show wpList _ _ _ (⟨_,.call _,_,_,_,some _⟩::_) _ _);refine dk rfl rfl rfl ?_)|((with_reducible show wpList _ _ _ (⟨some 1,_,_,_,_,_⟩::_) _ _);(first|refine lB hL rfl rfl rfl ?_|refine lA hL rfl rfl ?_);intro b1;clear hL;intro w1 hL;try simp only[Act.put,List.setIfInBounds_toArray,List.set_cons_zero,List.set_cons_succ])|((go_at_call 228;go_loud (refine(HN.out _).mono ?_);rintro e w1⟨rfl,rfl⟩;try simp only[Act.put,List.setIfInBounds_toArray,List.set_cons_zero,List.set_cons_succ]))|((with_reducible show wpList _ _ _ (⟨_,.load _ _,_,_,_,_⟩::_) _ _);(first|refine lL hL rfl rfl rfl ?_|refine lI hL rfl rfl rfl ?_|refine lW hL rfl rfl rfl ?_);clear hL;intro w1 hL;try simp only[Act.put,List.setIfInBounds_toArray,List.set_cons_zero,List.set_cons_succ])|((with_reducible show wpList _ _ _ (⟨_,.store _ _ _,_,_,_,_⟩::_) _ _);(first|refine lT hL rfl rfl rfl rfl rfl ?_|refine lTs hL rfl rfl rfl rfl rfl ?_|refine lTb hL rfl rfl rfl rfl rfl ?_|refine lTp hL rfl rfl rfl rfl rfl ?_|refine lS hL rfl rfl rfl rfl rfl ?_|refine lSp hL rfl rfl rfl rfl rfl ?_);clear hL;intro w1 hL;try simp only[Act.put,List.setIfInBounds_toArray,List.set_cons_zero,List.set_cons_succ]));go_loopw [28] (fun kk wr=>∃(k:Nat),k≤rv.length∧kk= .int .i64 k∧Loc w wr [(b1,stR ⟨fl,rv,m0,d0,t0,m1,d1,t1,ac⟩ ⟨pr,cr,p0,c0,p1,c1⟩,58)]) (fun kk _=>rv.length-(intOf kk).toNat);case atStart=>exact⟨0,by omega,rfl,hL⟩
 case round =>
  clear hL;obtain⟨k,hk,rfl,hL⟩:=hrel;by_cases hlt:k<rv.length
  ·obtain⟨bl,ol,rfl,hW⟩:=HW.out k hlt
   have k0:(0:Int)≤k:=by omega
   have k1:(k:Int)<rv.length:=by omega
   have gk:=hW k hlt;have HNk:=Lib.hid (fun w1=>pz rv[k] (HIDS.out k hlt) w1);rcases Nat.eq_zero_or_pos k with rfl|hp
   ·clear HIDS HUP hW HW r1
    generalize rv[0]=x at *
    rw[show((0:Nat):Int)=0 from rfl]at *
    go_wp2_with (first|((with_reducible show wpList _ _ _ (⟨_,.load _ _,_,_,_,some _⟩::_) _ _);refine dk rfl rfl rfl ?_)|((with_reducible show wpList _ _ _ (⟨_,.call _,_,_,_,some _⟩::_) _ _);refine dk rfl rfl rfl ?_)|((go_at_call 228;go_loud (refine(HNk.out _).mono ?_);rintro e w1⟨rfl,rfl⟩;try simp only[Act.put,List.setIfInBounds_toArray,List.set_cons_zero,List.set_cons_succ]))|((with_reducible show wpList _ _ _ (⟨_,.load _ _,_,_,_,_⟩::_) _ _);(first|refine lL hL rfl rfl rfl ?_|refine lI hL rfl rfl rfl ?_|refine lW hL rfl rfl rfl ?_);clear hL;intro w1 hL;try simp only[Act.put,List.setIfInBounds_toArray,List.set_cons_zero,List.set_cons_succ])|((with_reducible show wpList _ _ _ (⟨_,.store _ _ _,_,_,_,_⟩::_) _ _);(first|refine lT hL rfl rfl rfl rfl rfl ?_|refine lTs hL rfl rfl rfl rfl rfl ?_|refine lTb hL rfl rfl rfl rfl rfl ?_|refine lTp hL rfl rfl rfl rfl rfl ?_|refine lS hL rfl rfl rfl rfl rfl ?_|refine lSp hL rfl rfl rfl rfl rfl ?_);clear hL;intro w1 hL;try simp only[Act.put,List.setIfInBounds_toArray,List.set_cons_zero,List.set_cons_succ]));go_roundw;case rel=>exact⟨1,by omega,by go_num,hL⟩
    case measure=>simp only[intOf];omega
   ·obtain⟨j,hj⟩:∃j,k=j+1:=⟨k-1,by omega⟩
    have hjl:j<rv.length:=by omega
    have gj:=hW j hjl;have hup:¬rv[k]≤rv[j]:=by have:=HUP.out j (by omega);subst hj;omega
    have k2:((k:Int)-1).toNat=j:=by omega
    have k3:(0:Int)≤k-1:=by omega
    have k4:(k:Int)-1<rv.length:=by omega
    have k5:(0:Int)<k:=by omega
    clear HIDS HUP hW HW r1 hj;generalize rv[k]=x at *
    generalize rv[j]=y at *
    go_wp2_with (first|((with_reducible show wpList _ _ _ (⟨_,.load _ _,_,_,_,some _⟩::_) _ _);refine dk rfl rfl rfl ?_)|((with_reducible show wpList _ _ _ (⟨_,.call _,_,_,_,some _⟩::_) _ _);refine dk rfl rfl rfl ?_)|((go_at_call 228;go_loud (refine(HNk.out _).mono ?_);rintro e w1⟨rfl,rfl⟩;try simp only[Act.put,List.setIfInBounds_toArray,List.set_cons_zero,List.set_cons_succ]))|((with_reducible show wpList _ _ _ (⟨_,.load _ _,_,_,_,_⟩::_) _ _);(first|refine lL hL rfl rfl rfl ?_|refine lI hL rfl rfl rfl ?_|refine lW hL rfl rfl rfl ?_);clear hL;intro w1 hL;try simp only[Act.put,List.setIfInBounds_toArray,List.set_cons_zero,List.set_cons_succ])|((with_reducible show wpList _ _ _ (⟨_,.store _ _ _,_,_,_,_⟩::_) _ _);(first|refine lT hL rfl rfl rfl rfl rfl ?_|refine lTs hL rfl rfl rfl rfl rfl ?_|refine lTb hL rfl rfl rfl rfl rfl ?_|refine lTp hL rfl rfl rfl rfl rfl ?_|refine lS hL rfl rfl rfl rfl rfl ?_|refine lSp hL rfl rfl rfl rfl rfl ?_);clear hL;intro w1 hL;try simp only[Act.put,List.setIfInBounds_toArray,List.set_cons_zero,List.set_cons_succ]));go_roundw;case rel=>exact⟨k+1,by omega,by go_num,hL⟩
    case measure=>simp only[intOf];omega
  ·obtain rfl:k=rv.length:=by omega
   clear HIDS HUP HW r1;rcases H5.out with rfl|⟨rfl,h1,rfl⟩|⟨rfl,h1,rfl⟩
   ·skip
    go_wp2_with (first|((with_reducible show wpList _ _ _ (⟨_,.load _ _,_,_,_,some _⟩::_) _ _);refine dk rfl rfl rfl ?_)|((with_reducible show wpList _ _ _ (⟨_,.call _,_,_,_,some _⟩::_) _ _);refine dk rfl rfl rfl ?_)|((with_reducible show wpList _ _ _ (⟨some 76,.call _,_,_,_,_⟩::_) _ _);go_loud (refine lq rfl rfl ((H6.out _).mono ?_) rfl);rintro e w1⟨rfl,hb1⟩;have hL1:=hL.keep hb1;(try dsimp only at hL1);(try simp only[Nat.reduceAdd,Nat.reduceSub]at hL1);refine⟨_,rfl,?_⟩;clear hL;have hL:=hL1;clear hL1;try simp only[Act.put,List.setIfInBounds_toArray,List.set_cons_zero,List.set_cons_succ])|((with_reducible show wpList _ _ _ (⟨some 81,.call _,_,_,_,_⟩::_) _ _);go_loud (refine lq rfl rfl ((H7.out _).mono ?_) rfl);rintro e w1⟨rfl,hb1⟩;have hL1:=hL.keep hb1;(try dsimp only at hL1);(try simp only[Nat.reduceAdd,Nat.reduceSub]at hL1);refine⟨_,rfl,?_⟩;clear hL;have hL:=hL1;clear hL1;try simp only[Act.put,List.setIfInBounds_toArray,List.set_cons_zero,List.set_cons_succ])|((with_reducible show wpList _ _ _ (⟨_,.load _ _,_,_,_,_⟩::_) _ _);(first|refine lL hL rfl rfl rfl ?_|refine lI hL rfl rfl rfl ?_|refine lW hL rfl rfl rfl ?_);clear hL;intro w1 hL;try simp only[Act.put,List.setIfInBounds_toArray,List.set_cons_zero,List.set_cons_succ])|((with_reducible show wpList _ _ _ (⟨_,.store _ _ _,_,_,_,_⟩::_) _ _);(first|refine lT hL rfl rfl rfl rfl rfl ?_|refine lTs hL rfl rfl rfl rfl rfl ?_|refine lTb hL rfl rfl rfl rfl rfl ?_|refine lTp hL rfl rfl rfl rfl rfl ?_|refine lS hL rfl rfl rfl rfl rfl ?_|refine lSp hL rfl rfl rfl rfl rfl ?_);clear hL;intro w1 hL;try simp only[Act.put,List.setIfInBounds_toArray,List.set_cons_zero,List.set_cons_succ]))
    all_goals(go_ret;exact⟨rfl,hL.bel⟩)
   ·have q9:¬(m0.length:Int)=0:=by omega
    go_wp2_with (first|((with_reducible show wpList _ _ _ (⟨_,.load _ _,_,_,_,some _⟩::_) _ _);refine dk rfl rfl rfl ?_)|((with_reducible show wpList _ _ _ (⟨_,.call _,_,_,_,some _⟩::_) _ _);refine dk rfl rfl rfl ?_)|((with_reducible show wpList _ _ _ (⟨some 76,.call _,_,_,_,_⟩::_) _ _);go_loud (refine lq rfl rfl ((H6.out _).mono ?_) rfl);rintro e w1⟨rfl,hb1⟩;have hL1:=hL.keep hb1;(try dsimp only at hL1);(try simp only[Nat.reduceAdd,Nat.reduceSub]at hL1);refine⟨_,rfl,?_⟩;clear hL;have hL:=hL1;clear hL1;try simp only[Act.put,List.setIfInBounds_toArray,List.set_cons_zero,List.set_cons_succ])|((with_reducible show wpList _ _ _ (⟨some 81,.call _,_,_,_,_⟩::_) _ _);go_loud (refine lq rfl rfl ((H7.out _).mono ?_) rfl);rintro e w1⟨rfl,hb1⟩;have hL1:=hL.keep hb1;(try dsimp only at hL1);(try simp only[Nat.reduceAdd,Nat.reduceSub]at hL1);refine⟨_,rfl,?_⟩;clear hL;have hL:=hL1;clear hL1;try simp only[Act.put,List.setIfInBounds_toArray,List.set_cons_zero,List.set_cons_succ])|((with_reducible show wpList _ _ _ (⟨_,.load _ _,_,_,_,_⟩::_) _ _);(first|refine lL hL rfl rfl rfl ?_|refine lI hL rfl rfl rfl ?_|refine lW hL rfl rfl rfl ?_);clear hL;intro w1 hL;try simp only[Act.put,List.setIfInBounds_toArray,List.set_cons_zero,List.set_cons_succ])|((with_reducible show wpList _ _ _ (⟨_,.store _ _ _,_,_,_,_⟩::_) _ _);(first|refine lT hL rfl rfl rfl rfl rfl ?_|refine lTs hL rfl rfl rfl rfl rfl ?_|refine lTb hL rfl rfl rfl rfl rfl ?_|refine lTp hL rfl rfl rfl rfl rfl ?_|refine lS hL rfl rfl rfl rfl rfl ?_|refine lSp hL rfl rfl rfl rfl rfl ?_);clear hL;intro w1 hL;try simp only[Act.put,List.setIfInBounds_toArray,List.set_cons_zero,List.set_cons_succ]))
    all_goals(go_ret;exact⟨rfl,hL.bel⟩)
   ·have q9:¬(m1.length:Int)=0:=by omega
    go_wp2_with (first|((with_reducible show wpList _ _ _ (⟨_,.load _ _,_,_,_,some _⟩::_) _ _);refine dk rfl rfl rfl ?_)|((with_reducible show wpList _ _ _ (⟨_,.call _,_,_,_,some _⟩::_) _ _);refine dk rfl rfl rfl ?_)|((with_reducible show wpList _ _ _ (⟨some 76,.call _,_,_,_,_⟩::_) _ _);go_loud (refine lq rfl rfl ((H6.out _).mono ?_) rfl);rintro e w1⟨rfl,hb1⟩;have hL1:=hL.keep hb1;(try dsimp only at hL1);(try simp only[Nat.reduceAdd,Nat.reduceSub]at hL1);refine⟨_,rfl,?_⟩;clear hL;have hL:=hL1;clear hL1;try simp only[Act.put,List.setIfInBounds_toArray,List.set_cons_zero,List.set_cons_succ])|((with_reducible show wpList _ _ _ (⟨some 81,.call _,_,_,_,_⟩::_) _ _);go_loud (refine lq rfl rfl ((H7.out _).mono ?_) rfl);rintro e w1⟨rfl,hb1⟩;have hL1:=hL.keep hb1;(try dsimp only at hL1);(try simp only[Nat.reduceAdd,Nat.reduceSub]at hL1);refine⟨_,rfl,?_⟩;clear hL;have hL:=hL1;clear hL1;try simp only[Act.put,List.setIfInBounds_toArray,List.set_cons_zero,List.set_cons_succ])|((with_reducible show wpList _ _ _ (⟨_,.load _ _,_,_,_,_⟩::_) _ _);(first|refine lL hL rfl rfl rfl ?_|refine lI hL rfl rfl rfl ?_|refine lW hL rfl rfl rfl ?_);clear hL;intro w1 hL;try simp only[Act.put,List.setIfInBounds_toArray,List.set_cons_zero,List.set_cons_succ])|((with_reducible show wpList _ _ _ (⟨_,.store _ _ _,_,_,_,_⟩::_) _ _);(first|refine lT hL rfl rfl rfl rfl rfl ?_|refine lTs hL rfl rfl rfl rfl rfl ?_|refine lTb hL rfl rfl rfl rfl rfl ?_|refine lTp hL rfl rfl rfl rfl rfl ?_|refine lS hL rfl rfl rfl rfl rfl ?_|refine lSp hL rfl rfl rfl rfl rfl ?_);clear hL;intro w1 hL;try simp only[Act.put,List.setIfInBounds_toArray,List.set_cons_zero,List.set_cons_succ]))
    all_goals(go_ret;exact⟨rfl,hL.bel⟩)
instance O8:Ent 201:=Ent.of func201 (by kernel_rfl) rfl
end
section
open Go Go.RowKit Go.Shelf
theorem pC(p:Option Addr)(c:Nat)(l:List (BitVec 8))(w:World)(hv:BRow w (.slice p l.length c) l)(hz:l=[]→p=none)(h1:l.length≤1000000) :
 Calls prog 94 #[.slice p l.length c] w fun e w'=>∃p' c' S,e= .returned (.slice p' l.length c')∧Hold S (.slice p' l.length c') 5 (an l)∧(l=[]→p'=none)∧Loc w w' S:=by
 rcases List.eq_nil_or_concat l with rfl|⟨l',x,rfl⟩
 ·obtain rfl:=hz rfl
  obtain⟨a,c',e,hn,_⟩:=hv;injection e with e1 e2 e3;obtain rfl:=e3.trans (hn e1.symm);exact(jV w).mono fun e w' ⟨e1,e2⟩=>⟨none,0,[],e1,Hold.nil _,fun _=>rfl,by rw[e2];exact Loc.nil w'⟩
 ·refine(d9 _ _ w hv (by simp) h1).mono fun e w' ⟨g,cap,cur,e1,hr,hg,hc,hb⟩=>⟨some ⟨g,0,none⟩,cap,[(g,cur,5)],e1,?_,fun h=>absurd h (by simp),(Loc.nil w).fresh hb hg hc⟩
  exact Hold.own hr
theorem DH(w:World):(binOp .eql 53 (.slice none 0 0) (.slice none 0 0)).run prog w= .ok (.bool true) w:=by kernel_rfl
theorem AU(a:Addr)(n c:Nat)(w:World):(binOp .eql 53 (.slice (some a) n c) (.slice none 0 0)).run prog w= .ok (.bool false) w:=by kernel_rfl
theorem xM(p:Option Addr)(c:Nat)(l:List Int)(w:World)(hv:VRow w (.slice p l.length c) (dq l))(hz:l=[]→p=none)(h1:l.length≤1000000) :
 Calls prog 182 #[.slice p l.length c] w fun e w'=>∃p' c' S,e= .returned (.slice p' l.length c')∧Hold S (.slice p' l.length c') 3 (dq l)∧(l=[]→p'=none)∧Loc w w' S:=by
 have hL:=Loc.nil w;haveI hA:Arg w (.slice p l.length c) (dq l):=⟨hv⟩;have hn:=DH;have hs:=AU;have hR:=mN hv;obtain⟨al,cl,e,hW⟩:=hR;injection e with e1 e2 e3;subst e1;clear e2 e3;rcases Nat.eq_zero_or_pos l.length with h0|h0
 ·obtain rfl:=List.eq_nil_of_length_eq_zero h0
  obtain rfl:=hz rfl;obtain⟨_,a,c',e,hn',_⟩:=hv;injection e with e1 e2 e3;obtain rfl:=e3.trans (hn' e1.symm);clear hA hs e1 e2 e3 hz hn' hW;change Calls _ _ #[.slice none 0 0] _ _;go_enter func182,ntmps182;go_wp2_with (first|refine aU ?_|(refine ah ?_;clear hL;intro w1 hL))
  all_goals(go_ret;exact⟨none,0,[],rfl,Hold.nil _,fun _=>rfl,hL⟩)
 ·obtain⟨bl,ol,rfl,hW⟩:=hW 0 h0
  clear hW;haveI:=Do;go_enter func182,ntmps182;go_wp2_with (first|refine aU ?_|((with_reducible show wpList _ _ _ (⟨some 5,.buildSlice _ _ _,_,_,_,_⟩::_) _ _);(refine J9 hL rfl rfl fun b5 w1 hL1=>?_);clear hL;have hL:=hL1;clear hL1)|(refine gN 7 ?_;(refine G0 hL rfl rfl rfl rfl (by first|omega|(simp;omega)|simp) fun g7 cap7 cur7 w1 hr7 hL1=>?_);(try dsimp only at hL1);clear hL;have hL:=hL1;clear hL1;refine p4 ?_)|(refine ah ?_;clear hL;intro w1 hL));rw[Nat.zero_add,List.nil_append]at hr7;simp only[Nat.zero_add];go_ret;exact⟨some ⟨g7,0,none⟩,cap7,[(g7,cur7,3)],rfl,Hold.own hr7,fun h=>absurd h (by intro h;rw[h]at h0;exact absurd h0 (by simp)),hL⟩
instance O9:Ent 182:=eo func182
theorem AV(p:Option Addr)(c:Nat)(l:List Int)(x:Int)(w:World)(hv:VRow w (.slice p l.length c) (dq l))(h1:l.length≤1000000) :
 Calls prog 252 #[.slice p l.length c,.int .i64 x] w fun e w'=>∃r:Int,e= .returned (.int .i64 r)∧(0≤r↔x∈l)∧Below w.heap.size w w':=by
 have hL:=Loc.nil w;obtain⟨al,cl,e,hW⟩:=mN hv;injection e with e1 e2 e3;subst e1;have HW:=Hd hW;clear hW e2 e3 hv;go_enter func252,ntmps252;go_wp2_with (first|refine aU ?_|(refine ah ?_;clear hL;intro w1 hL));go_loopw [8] (fun kk wr=>∃(k:Nat),k≤l.length∧kk= .int .i64 k∧Loc w wr []∧∀i (h:i<l.length),i<k→l[i]≠x) (fun kk _=>l.length-(intOf kk).toNat);case atStart=>exact⟨0,by omega,rfl,hL,fun i h hi=>absurd hi (by omega)⟩
 case round =>
  clear hL;obtain⟨k,hk,rfl,hL,hne⟩:=hrel;by_cases hlt:k<l.length
  ·obtain⟨bl,ol,rfl,hW⟩:=HW.out k hlt
   have k0:(0:Int)≤k:=by omega
   have k1:(k:Int)<l.length:=by omega
   have gk:=hW k hlt;have HNE:=Hd hne;clear hW HW hne;by_cases he:x=l[k]
   ·have hmem:x∈l:=by rw[he];exact List.getElem_mem hlt
    have HM:=Hd hmem;clear hmem HNE;rw[← he]at gk;clear he;go_wp2_with (first|refine aU ?_|(refine ah ?_;clear hL;intro w1 hL))
    all_goals(go_ret;exact⟨k,rfl,⟨fun _=>HM.out,fun _=>k0⟩,hL.bel⟩)
   ·have HE:=Hd he
    generalize hq:l[k]=y at *
    have HQ:=Hd hq;clear hq;have h3:(x==y)=false:=by simpa using he
    go_wp2_with (first|refine aU ?_|(refine ah ?_;clear hL;intro w1 hL));go_roundw;case rel=>exact⟨k+1,by omega,by go_num,hL,fun i h hi=>by
     rcases Nat.lt_or_ge i k with h4|h4
     ·exact HNE.out i h h4
     ·obtain rfl:i=k:=by omega
      rw[HQ.out];exact fun h=>HE.out h.symm⟩
    case measure=>simp only[intOf];omega
  ·obtain rfl:k=l.length:=by omega
   have hnm:x ∉ l:=fun h=>by
    obtain⟨i,hi,e⟩:=List.getElem_of_mem h;exact hne i hi hi e
   have HM:=Hd hnm;clear hnm hne HW;go_wp2_with (first|refine aU ?_|(refine ah ?_;clear hL;intro w1 hL))
   all_goals(go_ret;exact⟨-1,rfl,⟨fun h=>absurd h (by decide),fun h=>absurd h HM.out⟩,hL.bel⟩)
theorem th(p:Option Addr)(c:Nat)(l:List Int)(x:Int)(w:World)(hv:VRow w (.slice p l.length c) (dq l))(h1:l.length≤1000000) :
 Rt 211 #[.slice p l.length c,.int .i64 x] w (.bool (decide (x∈l))):=by
 have HI:=Hd (AV p c l x w hv h1);clear hv;go_enter func211,ntmps211;go_wp2_with (go_at_call 252;go_loud (refine HI.out.mono ?_);rintro e w1⟨r,rfl,hr,hb⟩)
 all_goals(go_ret;exact⟨rfl,hb⟩)
instance Pa:Ent 211:=eo func211
end
section
open Go Go.RowKit Go.Shelf
structure HoldQ(Sr S0 S1:Mem)(s:Sta)(q:Sq):Prop where
 r:Hold Sr (.slice q.pr s.rv.length q.cr) 3 (dq s.rv)
 a:Hold S0 (.slice q.p0 s.m0.length q.c0) 5 (an s.m0)
 b:Hold S1 (.slice q.p1 s.m1.length q.c1) 5 (an s.m1)
 zr:s.rv=[]→q.pr=none
 za:s.m0=[]→q.p0=none
 zb:s.m1=[]→q.p1=none
theorem FJ{w0 w:World}{M:Mem}{s:Sta}{q:Sq}(hL:Loc w0 w M)[h1:See w0 M (.slice q.pr s.rv.length q.cr) (dq s.rv)][h2:See w0 M (.slice q.p0 s.m0.length q.c0) (an s.m0)][h3:See w0 M (.slice q.p1 s.m1.length q.c1) (an s.m1)](zr:s.rv=[]→q.pr=none)(za:s.m0=[]→q.p0=none)(zb:s.m1=[]→q.p1=none):ReadS w s q:=⟨h1.see w hL,See.bytes hL,See.bytes hL,zr,za,zb⟩
theorem Kc(S1 S0 Sr X:Mem):List.Sublist (S1++(S0++Sr)) (S1++(S0++(Sr++X))):=(List.Sublist.refl _).append ((List.Sublist.refl _).append (List.sublist_append_left _ _))
theorem ve(s:Sta)(q:Sq)(w:World)(hr:ReadS w s q)(hn:s.rv.length≤1000)(hna:s.m0.length≤1000)(hnb:s.m1.length≤1000) :
 Calls prog 121 #[.agg (stR s q)] w fun e w'=>∃q' Sr S0 S1,e= .returned (.agg (stR s q'))∧HoldQ Sr S0 S1 s q'∧Loc w w' (S1++(S0++Sr)):=by
 obtain⟨fl,rv,m0,d0,t0,m1,d1,t1,ac⟩:=s;obtain⟨pr,cr,p0,c0,p1,c1⟩:=q;obtain⟨r1,r2,r3,zr,za,zb⟩:=hr;dsimp only at *
 have hL:=Loc.nil w;haveI hA1:Arg w (.slice pr rv.length cr) (dq rv):=⟨r1⟩;haveI hA2:Arg w (.slice p0 m0.length c0) (an m0):=⟨r2.vrow⟩;haveI hA3:Arg w (.slice p1 m1.length c1) (an m1):=⟨r3.vrow⟩;have H1:=Hd (fun w1 (h:VRow w1 (.slice pr rv.length cr) (dq rv))=>xM pr cr rv w1 h zr (by omega));have H2:=Hd (fun w1 (h:BRow w1 (.slice p0 m0.length c0) m0)=>pC p0 c0 m0 w1 h za (by omega));have H3:=Hd (fun w1 (h:BRow w1 (.slice p1 m1.length c1) m1)=>pC p1 c1 m1 w1 h zb (by omega));clear r1 r2 r3 zr za zb;go_enter func121,ntmps121;go_wp2_with (first|refine aU ?_|(refine gBp 1 ?_;clear hL;intro b1 w1 hL)|(refine gBp 2 ?_;clear hL;intro b2 w1 hL)|(refine gN 6 ?_;refine lKk (H1.out _ (See.see _ hL)) ?_;rintro e w1⟨pr',cr',Sr,rfl,hHr,hzr,hN⟩;have hL1:=hL.join hN;clear hN hL;revert hL1;refine aH ?_;intro hL)|(refine ah ?_;clear hL;intro w1 hL));go_loopw [8] (fun kk wr=>(kk= .int .i64 0∧Loc w wr (Sr++[(b2,stR ⟨0,[],[],false,0,[],false,0,0⟩ Sq.none,58),(b1,stR ⟨fl,rv,m0,d0,t0,m1,d1,t1,ac⟩ ⟨pr',cr',p0,c0,p1,c1⟩,58)])) ∨
  (kk= .int .i64 1∧∃p0' c0' S0,Hold S0 (.slice p0' m0.length c0') 5 (an m0)∧(m0=[]→p0'=none)∧Loc w wr (S0++(Sr++[(b2,stR ⟨0,[],[],false,0,[],false,0,0⟩ Sq.none,58),(b1,stR ⟨fl,rv,m0,d0,t0,m1,d1,t1,ac⟩ ⟨pr',cr',p0',c0',p1,c1⟩,58)]))) ∨
  (kk= .int .i64 2∧∃p0' c0' S0 p1' c1' S1,Hold S0 (.slice p0' m0.length c0') 5 (an m0)∧(m0=[]→p0'=none)∧Hold S1 (.slice p1' m1.length c1') 5 (an m1)∧(m1=[]→p1'=none)∧Loc w wr (S1++(S0++(Sr++[(b2,stR ⟨0,[],[],false,0,[],false,0,0⟩ Sq.none,58),(b1,stR ⟨fl,rv,m0,d0,t0,m1,d1,t1,ac⟩ ⟨pr',cr',p0',c0',p1',c1'⟩,58)]))))) (fun kk _=>2-(intOf kk).toNat)
 case atStart=>exact .inl ⟨rfl,hL⟩
 case round =>
  clear hL;rcases hrel with⟨rfl,hL⟩|⟨rfl,p0',c0',S0,hH0,hz0,hL⟩|⟨rfl,p0',c0',S0,p1',c1',S1,hH0,hz0,hH1,hz1,hL⟩
  ·skip
   go_wp2_with (first|refine aU ?_|(refine gN 17 ?_;refine lKk (H2.out _ (See.bytes hL)) ?_;rintro e w1⟨p0',c0',S0,rfl,hH0,hz0,hN⟩;have hL1:=hL.join hN;clear hN hL;revert hL1;refine aH ?_;intro hL)|(refine ah ?_;clear hL;intro w1 hL));go_roundw;case rel=>exact .inr (.inl ⟨rfl,p0',c0',S0,hH0,hz0,hL⟩)
   case measure=>simp only[intOf];decide
  ·skip
   go_wp2_with (first|refine aU ?_|(refine gN 17 ?_;refine lKk (H3.out _ (See.bytes hL)) ?_;rintro e w1⟨p1',c1',S1,rfl,hH1,hz1,hN⟩;have hL1:=hL.join hN;clear hN hL;revert hL1;refine aH ?_;intro hL)|(refine ah ?_;clear hL;intro w1 hL));go_roundw;case rel=>exact .inr (.inr ⟨rfl,p0',c0',S0,p1',c1',S1,hH0,hz0,hH1,hz1,hL⟩)
   case measure=>simp only[intOf];decide
  ·skip
   go_wp2_with (first|refine aU ?_|(refine ah ?_;clear hL;intro w1 hL));exact bodyPost_ret (ai rfl hL rfl) rfl ⟨⟨pr',cr',p0',c0',p1',c1'⟩,Sr,S0,S1,rfl,⟨hHr,hH0,hH1,hzr,hz0,hz1⟩,hL.sub (Kc _ _ _ _)⟩
instance Pb:Ent 121:=eo func121
end
end Go.Proofs.YtoifhhljfaoejaaGreatDoor
