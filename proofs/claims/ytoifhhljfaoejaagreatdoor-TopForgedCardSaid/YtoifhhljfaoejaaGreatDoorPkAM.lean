/-
  Lemmas of the law, part 13: the walks of the functions that it calls and the plain facts about them. No condition beyond those written.
-/
import Derived.Test.YtoifhhljfaoejaaGreatDoorPkAA
import Derived.Test.YtoifhhljfaoejaaGreatDoorPkAL
import Derived.Lib.MakeNoZero
import Derived.Laws.Externs
import Derived.Lib.SlBytesConst
set_option maxRecDepth 100000
set_option maxHeartbeats 8000000
set_option linter.unusedVariables false
set_option linter.unusedSimpArgs false
set_option linter.unusedSectionVars false
namespace Go.Proofs.YtoifhhljfaoejaaGreatDoor
open Go.Proofs.Tryz
section
open Go Go.RowKit Go.Shelf
theorem qY(p:Option Addr)(n c:Nat)(w:World):(Instr.build 274 #[(0,.slice p n c)]).run prog w= .ok (.agg #[.slice p n c,.bool false]) w:=by kernel_rfl
theorem jB(v:Value)(l:List (BitVec 8))(w:World)(hv:BRow w v l)(h0:0<l.length)(h1:l.length≤1000000) :
 Calls prog 149 #[v] w fun e w'=>∃b g cap cur,e= .returned (.pointer (some ⟨b,0,none⟩))∧OwnR cur l.length cap (an l)∧Loc w w' [(b, #[.slice (some ⟨g,0,none⟩) l.length cap,.bool false],274),(g,cur,5)]:=by
 have hL:=Loc.nil w;have HC:=Hd (d9 v l w hv h0 h1);clear hv;go_enter func149,ntmps149;go_wp2_with (first|refine aV ?_|(refine gBp 6 ?_;clear hL;intro b6 w1 hL)|(go_at_call 94;go_loud (refine(HC.out).mono ?_);rintro e w1⟨g4,cap4,cur4,rfl,hr4,hg4,hc4,hb4⟩;have hL1:=hL.fresh hb4 hg4 hc4;clear hb4 hg4 hc4;clear hL;have hL:=hL1;clear hL1;refine p4 ?_)|(refine gN 5 ?_;refine lU hL rfl rfl (qY _ _ _) rfl ?_;clear hL;intro w1 hL;refine p4 ?_)|(refine aM ?_;clear hL;intro w1 hL));go_ret;exact⟨b6,g4,cap4,cur4,rfl,hr4,hL⟩
instance Oz:Ent 149:=eo func149
theorem uU(w:World) :
 Calls prog 149 #[.slice none 0 0] w fun e w'=>∃b,e= .returned (.pointer (some ⟨b,0,none⟩))∧Loc w w' [(b, #[.slice none 0 0,.bool false],274)]:=by
 have hL:=Loc.nil w;go_enter func149,ntmps149;go_wp2_with (first|refine aV ?_|(refine gBp 6 ?_;clear hL;intro b6 w1 hL)|((go_at_call 94;go_loud (refine(jV _).mono ?_);rintro e w1⟨rfl,rfl⟩;refine p4 ?_))|(refine gN 5 ?_;refine lU hL rfl rfl (qY _ _ _) rfl ?_;clear hL;intro w1 hL;refine p4 ?_)|(refine aM ?_;clear hL;intro w1 hL));go_ret;exact⟨b6,rfl,hL⟩
section
variable {w0 w:World} {F:Array Value→Mem} {bc:Nat} [hA:∀x,At (F x) bc x 274] [hU:∀x y,Ups (F x) bc y (F y)]
theorem Dr{g off m cap n:Nat}{l:List (BitVec 8)}[hS:∀x,See w0 (F x) (.slice (some ⟨g,off,none⟩) m cap) (an l)](hn0:0<n)(hn:n≤m)(hc:m≤cap)(hm:m≤1000000)(hT:∀w x,Loc w0 w (F x)→BRow w (.slice (some ⟨g,off,none⟩) n cap) (l.take n))(hlen:(l.take n).length=n)(hL:Loc w0 w (F #[.slice (some ⟨g,off,none⟩) m cap,.bool false])) :
 Calls prog 150 #[.pointer (some ⟨bc,0,none⟩),.int .i64 n] w fun e w'=>∃g' cap' cur' p,e= .returned (.slice (some ⟨g',0,none⟩) n cap')∧OwnR cur' n cap' (an (l.take n))∧(n<m→p=some ⟨g,off+n,none⟩) ∧
  Loc w0 w' ((g',cur',5)::F #[.slice p (m-n) (cap-n),.bool false]):=by
 have hcl:∀w1,Loc w0 w1 (F #[.slice (some ⟨g,off,none⟩) m cap,.bool false])→Calls prog 94 #[.slice (some ⟨g,off,none⟩) n cap] w1 fun e w'=>Fresh w1 (l.take n) e w':=fun w1 h1=>d9 _ _ w1 (hT w1 _ h1) (by omega) (by omega);have HC:=Hd hcl;have HT:=Hd hlen;clear hcl hT hlen;generalize l.take n=lt at *
 have e1:((m:Int)-n).toNat=m-n:=by omega
 have e2:((cap:Int)-n).toNat=cap-n:=by omega
 have q1:¬(m:Int)<n:=by omega
 have q2:¬(n:Int)<0:=by omega
 have q3:(n:Int)≤cap:=by omega
 have q4:(n:Int)≤m:=by omega
 go_enter func150,ntmps150;go_wp2_with (first|refine aV ?_|(refine aM ?_;clear hL;intro w1 hL));refine eX 0 rfl ?_;go_wp2_with (first|refine aV ?_|(go_at_call 94;go_loud (refine(HC.out _ hL).mono ?_);rintro e w1⟨g27,cap27,cur27,rfl,hr27,hg27,hc27,hb27⟩;have hL1:=hL.fresh hb27 hg27 hc27;clear hb27 hg27 hc27;clear hL;have hL:=hL1;clear hL1;refine p4 ?_)|(refine aM ?_;clear hL;intro w1 hL))
 all_goals simp only[Exit.jump]
 all_goals obtain⟨p,hp,hq⟩:∃p:Option Addr,(if cap=n then some (⟨g,off,none⟩:Addr)else some ⟨g,off+n,none⟩)=p∧(n<m→p=some ⟨g,off+n,none⟩):=⟨_,rfl,fun h=>if_neg (by omega)⟩
 all_goals simp only[hp]at hL ⊢
 all_goals go_ret
 all_goals rw[HT.out]at hr27
 ·exact⟨g27,cap27,cur27,p,by first|rfl|(rw[HT.out];rfl),hr27,hq,hL⟩
 ·exact⟨g27,cap27,cur27,p,by first|rfl|(rw[HT.out];rfl),hr27,hq,hL⟩
theorem zo{p:Option Addr}{m cap n:Nat}(hn:m<n)(hL:Loc w0 w (F #[.slice p m cap,.bool false])) :
 Calls prog 150 #[.pointer (some ⟨bc,0,none⟩),.int .i64 n] w fun e w'=>e= .returned (.slice none 0 0)∧Loc w0 w' (F #[.slice none 0 0,.bool true]):=by
 have q2:¬(n:Int)<0:=by omega
 have q1:(m:Int)<n:=by omega
 go_enter func150,ntmps150;go_wp2_with (first|refine aV ?_|(refine aM ?_;clear hL;intro w1 hL));refine eX 0 rfl ?_;go_wp2_with (first|refine aV ?_|(refine aM ?_;clear hL;intro w1 hL));go_step3;refine⟨rfl,?_⟩;unfold sY;go_wp2_with (first|refine aV ?_|(refine aM ?_;clear hL;intro w1 hL));simp only[Exit.jump];go_ret;exact⟨rfl,hL⟩
theorem dT{p:Option Addr}{m cap:Nat}{n:Int}(hL:Loc w0 w (F #[.slice p m cap,.bool true])) :
 Calls prog 150 #[.pointer (some ⟨bc,0,none⟩),.int .i64 n] w fun e w'=>e= .returned (.slice none 0 0)∧Loc w0 w' (F #[.slice p m cap,.bool true]):=by
 go_enter func150,ntmps150;go_wp2_with (first|refine aV ?_|(refine aM ?_;clear hL;intro w1 hL));refine eX 0 rfl ?_;go_wp2_with (first|refine aV ?_|(refine aM ?_;clear hL;intro w1 hL));simp only[Exit.jump];go_ret;exact⟨rfl,hL⟩
theorem td{p:Option Addr}{m cap:Nat}{bad:Bool}(hL:Loc w0 w (F #[.slice p m cap,.bool bad])) :
 Calls prog 153 #[.pointer (some ⟨bc,0,none⟩)] w fun e w'=>e= .returned (.bool (!bad&&decide (m=0)))∧Loc w0 w' (F #[.slice p m cap,.bool bad]):=by
 cases bad
 ·go_enter func153,ntmps153
  go_wp2_with (first|refine aV ?_|(refine aM ?_;clear hL;intro w1 hL));go_ret;exact⟨by simp;rw[Bool.eq_iff_iff];simp,hL⟩
 ·go_enter func153,ntmps153
  go_wp2_with (first|refine aV ?_|(refine aM ?_;clear hL;intro w1 hL));go_ret;exact⟨by simp,hL⟩
end
instance OA:Ent 150:=eo func150
instance OB:Ent 153:=eo func153
def eE(l:List (BitVec 8)):Nat:=l.foldl (fun u x=>u*256+x.toNat) 0
theorem qZ(l:List (BitVec 8))(x:BitVec 8):eE (l++[x])=eE l*256+x.toNat:=by unfold eE;rw[List.foldl_append];rfl
theorem ra:∀(l:List (BitVec 8)) (u:Nat),l.foldl (fun u x=>u*256+x.toNat) u<(u+1)*256^l.length
 | [],u=>by simp
 | x::l,u=>by
  have h:=ra l (u*256+x.toNat);have hx:=x.isLt;rw[List.foldl_cons,List.length_cons,Nat.pow_succ,Nat.mul_comm (256^l.length),← Nat.mul_assoc];exact Nat.lt_of_lt_of_le h (Nat.mul_le_mul_right _ (by omega))
theorem FI(l:List (BitVec 8)):eE l<256^l.length:=by have:=ra l 0;rwa[Nat.zero_add,Nat.one_mul]at this
theorem pi(a b:Nat)(ha:a<2^64)(hb:b<2^64):bits .or .u64 (a:Int) (b:Int)=((a|||b:Nat):Int):=by
 have hor:a|||b<2^64:=Nat.or_lt_two_pow ha hb
 show IntKind.u64.wrap ((BitVec.ofInt 64 (a:Int)|||BitVec.ofInt 64 (b:Int)).toNat:Nat)=_;rw[BitVec.toNat_or,BitVec.toNat_ofInt,BitVec.toNat_ofInt];have e1:((a:Int)%((2^64:Nat):Int)).toNat=a:=by omega
 have e2:((b:Int)%((2^64:Nat):Int)).toNat=b:=by omega
 rw[e1,e2,IntKind.wrap_u64];omega
theorem Ib(u:Nat)(x:BitVec 8)(h:u<2^56):bits .or .u64 ((u:Int)*256) (IntKind.u64.wrap (B8 x))=((u*256+x.toNat:Nat):Int):=by
 have hx:=x.isLt;have e1:(u:Int)*256=((u*256:Nat):Int):=by omega
 have e2:IntKind.u64.wrap (B8 x)=((x.toNat:Nat):Int):=by rw[IntKind.wrap_u64];show((x.toNat:Nat):Int)%_=_;omega
 rw[e1,e2];have e3:u*256|||x.toNat=u*256+x.toNat:=by
  have:=Nat.shiftLeft_add_eq_or_of_lt (i:=8) (b:=x.toNat) (by omega) u;rw[Nat.shiftLeft_eq]at this;exact this.symm
 rw[← e3];exact pi _ _ (by omega) (by omega)
theorem pn(n:Int):(eE (aR n):Int)=n%18446744073709551616:=by
 have hb:∀j,((p8 n j).toNat:Int)=n/2^(8*(7-j))%256:=fun j=>uP n j;have e:aR n=[p8 n 0,p8 n 1,p8 n 2,p8 n 3,p8 n 4,p8 n 5,p8 n 6,p8 n 7]:=rfl;have h0:=hb 0;have h1:=hb 1;have h2:=hb 2;have h3:=hb 3;have h4:=hb 4;have h5:=hb 5;have h6:=hb 6;have h7:=hb 7;rw[e];simp only[eE,List.foldl_cons,List.foldl_nil];simp only[Nat.reduceSub,Nat.reduceMul,Int.reducePow]at *
 omega
def lu(l:List (BitVec 8)):Int:=wrap64 (eE l:Int)
theorem eR(n:Int)(h: -9223372036854775808≤n∧n≤9223372036854775807):lu (aR n)=n:=by
 unfold lu;rw[pn];unfold wrap64;omega
section
variable {w0 w:World} {F:Array Value→Mem} {bc:Nat} [hA:∀x,At (F x) bc x 274] [hU:∀x y,Ups (F x) bc y (F y)]
theorem Ic{g off m cap:Nat}{l:List (BitVec 8)}[hS:∀x,See w0 (F x) (.slice (some ⟨g,off,none⟩) m cap) (an l)](hn:8≤m)(hc:m≤cap)(hm:m≤1000000)(hT:∀w x,Loc w0 w (F x)→BRow w (.slice (some ⟨g,off,none⟩) 8 cap) (l.take 8))(hlen:(l.take 8).length=8)(hL:Loc w0 w (F #[.slice (some ⟨g,off,none⟩) m cap,.bool false])) :
 Calls prog 151 #[.pointer (some ⟨bc,0,none⟩)] w fun e w'=>∃p,e= .returned (.int .i64 (lu (l.take 8)))∧(8<m→p=some ⟨g,off+8,none⟩) ∧
  Loc w0 w' (F #[.slice p (m-8) (cap-8),.bool false]):=by
 have HC:=Hd (Dr (F:=F) (bc:=bc) (n:=8) (l:=l) (by omega) hn hc hm hT hlen hL);have HLEN:=Hd hlen;clear hT hlen hL;generalize l.take 8=lt at *
 go_enter func151,ntmps151;go_wp2_with (go_at_call 150;go_loud (refine HC.out.mono ?_);rintro e w1⟨g7,cap7,cur7,p,rfl,hr7,hp,hL⟩);clear HC;have hs:=xa cur7 8 cap7 (an lt);have hlt:=HLEN.out;have H8:=Hd (show lt.take 8=lt from List.take_of_length_le (by omega));have HB:∀k,(hk:k<lt.length)→eE (lt.take (k+1))=eE (lt.take k)*256+lt[k].toNat:=fun k hk=>by rw[List.take_succ_eq_append_getElem hk,qZ]
 have HBB:=Hd HB;clear HB hlt;go_loopw [3,9] (fun u kk wr=>∃k:Nat,k≤8∧kk= .int .i64 k∧u= .int .u64 (eE (lt.take k):Int)∧Loc w0 wr ((g7,cur7,5)::F #[.slice p (m-8) (cap-8),.bool false])) (fun _ kk _=>8-(intOf kk).toNat);case atStart=>exact⟨0,by omega,rfl,rfl,hL⟩
 case round =>
  clear hL;obtain⟨k,hk,rfl,rfl,hL⟩:=hrel;by_cases hlt:k<8
  ·have hk0:(0:Int)≤(k:Int):=by omega
   have hk1:(k:Int)<8:=by omega
   have hlt':k<lt.length:=by rw[HLEN.out];exact hlt
   have hb:=HBB.out k hlt';haveI g1:Cell cur7 k (.int .u8 (B8 lt[k])):=hr7.cellB hlt';have hu:eE (lt.take k)<2^56:=by
    have h1:=FI (lt.take k);have h2:(lt.take k).length≤7:=by rw[List.length_take];omega
    have h3:256^(lt.take k).length≤256^7:=Nat.pow_le_pow_right (by omega) h2;omega
   have ho:=Ib (eE (lt.take k)) lt[k] hu;rw[← hb]at ho;have HO:=Hd ho;generalize lt[k]=bb at *
   clear hb ho hlt';generalize eE (lt.take k)=u at *
   go_wp2_with (first|refine aV ?_|(refine aM ?_;clear hL;intro w1 hL));go_roundw;case rel=>exact⟨k+1,by omega,by go_num,by rw[← HO.out],hL⟩
   case measure=>simp[intOf];omega
  ·obtain rfl:k=8:=by omega
   rw[H8.out];go_wp2_with (first|refine aV ?_|(refine aM ?_;clear hL;intro w1 hL));go_ret;refine⟨p,?_,hp,Loc.rem g7 hL⟩;unfold lu;rfl
theorem ib(c c':Array Value)(hR:∀w,Loc w0 w (F c)→Calls prog 150 #[.pointer (some ⟨bc,0,none⟩),.int .i64 8] w fun e w'=>e= .returned (.slice none 0 0)∧Loc w0 w' (F c'))(hL:Loc w0 w (F c)) :
 Calls prog 151 #[.pointer (some ⟨bc,0,none⟩)] w fun e w'=>e= .returned (.int .i64 0)∧Loc w0 w' (F c'):=by
 have HC:=Hd (hR w hL);clear hR hL;go_enter func151,ntmps151;go_wp2_with (go_at_call 150;go_loud (refine HC.out.mono ?_);rintro e w1⟨rfl,hL⟩);go_loopw [3,9] (fun u kk wr=>kk= .int .i64 0∧u= .int .u64 0∧Loc w0 wr (F c')) (fun _ kk _=>0);case atStart=>exact⟨rfl,rfl,hL⟩
 case round =>
  clear hL;obtain⟨rfl,rfl,hL⟩:=hrel;go_wp2_with (first|refine aV ?_|(refine aM ?_;clear hL;intro w1 hL));go_ret;exact⟨rfl,hL⟩
end
instance OC:Ent 151:=eo func151
theorem Seg.see{w0:World}{M:Mem}{g off n cap:Nat}{cur:Array Value}{ys:List Value}(hs:Seg cur off n ys)[hm:At M g cur 5]:See w0 M (.slice (some ⟨g,off,none⟩) n cap) ys:=inferInstance
section
variable {w0 w:World} {F:Array Value→Mem} {bc:Nat} [hA:∀x,At (F x) bc x 274] [hU:∀x y,Ups (F x) bc y (F y)] {g off m cap n:Nat} {l:List (BitVec 8)} {cur:Array Value} [hG:∀x,At (F x) g cur 5]
theorem xE(hs:Seg cur off m (an l))(n:Nat)(hn0:0<n)(hn:n≤m)(hc:m≤cap)(hm:m≤1000000)(hL:Loc w0 w (F #[.slice (some ⟨g,off,none⟩) m cap,.bool false])) :
 Calls prog 150 #[.pointer (some ⟨bc,0,none⟩),.int .i64 n] w fun e w'=>∃g' cap' cur' p,e= .returned (.slice (some ⟨g',0,none⟩) n cap')∧OwnR cur' n cap' (an (l.take n))∧(n<m→p=some ⟨g,off+n,none⟩) ∧
  Loc w0 w' ((g',cur',5)::F #[.slice p (m-n) (cap-n),.bool false]):=by
 haveI hS:∀x,See w0 (F x) (.slice (some ⟨g,off,none⟩) m cap) (an l):=fun x=>hs.see;have hlen:l.length=m:=by have:=hs.len;rwa[aq]at this
 exact Dr (l:=l) hn0 hn hc hm (fun w x h=>by haveI:See w0 (F x) (.slice (some ⟨g,off,none⟩) n cap) (an (l.take n)):=(hs.take n hn).see;exact See.bytes h) (by rw[List.length_take];omega) hL
theorem xF(hs:Seg cur off m (an l))(n:Nat)(hn0:0<n)(hn:n<m)(hc:m≤cap)(hm:m≤1000000)(hL:Loc w0 w (F #[.slice (some ⟨g,off,none⟩) m cap,.bool false])) :
 Calls prog 150 #[.pointer (some ⟨bc,0,none⟩),.int .i64 n] w fun e w'=>∃g' cap' cur',e= .returned (.slice (some ⟨g',0,none⟩) n cap')∧OwnR cur' n cap' (an (l.take n)) ∧
  Loc w0 w' ((g',cur',5)::F #[.slice (some ⟨g,off+n,none⟩) (m-n) (cap-n),.bool false]) :=
 (xE hs n hn0 (by omega) hc hm hL).mono fun e w' ⟨g',cap',cur',p,h1,h2,h3,h4⟩=>⟨g',cap',cur',h1,h2,by rw[← h3 hn];exact h4⟩
theorem xG(hs:Seg cur off m (an l))(hn:8<m)(hc:m≤cap)(hm:m≤1000000)(hL:Loc w0 w (F #[.slice (some ⟨g,off,none⟩) m cap,.bool false])) :
 Calls prog 151 #[.pointer (some ⟨bc,0,none⟩)] w fun e w'=>e= .returned (.int .i64 (lu (l.take 8)))∧Loc w0 w' (F #[.slice (some ⟨g,off+8,none⟩) (m-8) (cap-8),.bool false]):=by
 haveI hS:∀x,See w0 (F x) (.slice (some ⟨g,off,none⟩) m cap) (an l):=fun x=>hs.see;have hlen:l.length=m:=by have:=hs.len;rwa[aq]at this
 exact(Ic (l:=l) (by omega) hc hm (fun w x h=>by haveI:See w0 (F x) (.slice (some ⟨g,off,none⟩) 8 cap) (an (l.take 8)):=(hs.take 8 (by omega)).see;exact See.bytes h) (by rw[List.length_take];omega) hL).mono fun e w' ⟨p,h1,h2,h3⟩=>⟨h1,by rw[← h2 hn];exact h3⟩
end
end
section
open Go Go.RowKit Go.Shelf
theorem ce{r pre s post:Array Value}{u t:TypeId}{k:Nat}(h:r=pre++s++post)(hk:k=pre.size):Part r u k t s:=⟨fun j v hj=>by
 subst h hk;have hj':s[j]?=some v:=by simpa using hj
 have hlt:j<s.size:=by
  rcases Nat.lt_or_ge j s.size with h|h
  ·exact h
  ·rw[Array.getElem?_eq_none h]at hj';cases hj'
 rw[Array.getElem?_append_left (by rw[Array.size_append];omega),Array.getElem?_append_right (by omega),Nat.add_sub_cancel_left];exact hj'⟩
theorem Fresh.from{w w1 w2:World}{l:List (BitVec 8)}{e:Ending}(hb:Below w.heap.size w w1)(h:Fresh w1 l e w2):Fresh w l e w2:=by
 obtain⟨g,cap,cur,e1,h1,h2,h3,h4⟩:=h;exact⟨g,cap,cur,e1,h1,Nat.le_trans hb.size h2,h3,hb.trans (h4.mono hb.size)⟩
theorem Ds(hd:List (BitVec 8))(n:Int)(w:World)(h0:0<hd.length)(h1:hd.length≤100000) :
 Calls prog 227 #[.string (dw hd),.int .i64 n] w fun e w'=>Fresh w (hd++aR n) e w':=by
 have hL:=Loc.nil w;have HP:=Hd (fun w1 (v1 v2:Value) (h2:BRow w1 v1 hd) (h3:VRow w1 v2 (dq [n]))=>cB v1 hd v2 [n] w1 h2 h0 h1 h3 (by simp));rw[show aX [n]=aR n from by unfold aX;simp,gZ]at HP;go_enter func227,ntmps227;go_wp2_with (first|refine aV ?_|(refine gN 6 ?_;refine Gw rfl rfl hd rfl fun g6 c6 w6 hb6 hB6=>?_;have hA:Arg w6 (.slice (some ⟨g6,0,none⟩) hd.length c6) (an hd):=⟨hb6.vrow⟩;clear hL;have hL:=Loc.nil w6)|(refine gN 8 ?_;refine aL ?_;clear hL;intro b8 w1 hL)|(go_at_call 202;go_loud (refine(HP.out _ _ _ (See.bytes hL) (See.see _ hL)).mono ?_);rintro e w1⟨g9,cap9,cur9,rfl,hr9,hg9,hc9,hb9⟩;have hL1:=hL.fresh hb9 hg9 hc9;clear hb9 hg9 hc9;clear hL;have hL:=hL1;clear hL1;refine p4 ?_)|(refine aM ?_;clear hL;intro w1 hL));go_ret;exact(hL.back rfl).from hB6
instance OD:Ent 227:=eo func227
def uV(n:Int):Bool:=decide (0≤n∧n≤2147483647)
theorem rb(n:Int)(w:World):Rt 226 #[.int .i64 n] w (.bool (uV n)):=by
 have hL:=Loc.nil w;by_cases h:0≤n
 ·by_cases h2:n≤2147483647
  ·go_enter func226,ntmps226
   go_wp2_with (first|refine aV ?_|(refine aM ?_;clear hL;intro w1 hL));go_ret;exact⟨by simp[uV,h,h2],Below.refl _ _⟩
  ·go_enter func226,ntmps226
   go_wp2_with (first|refine aV ?_|(refine aM ?_;clear hL;intro w1 hL));go_ret;exact⟨by simp[uV,h,h2],Below.refl _ _⟩
 ·go_enter func226,ntmps226
  go_wp2_with (first|refine aV ?_|(refine aM ?_;clear hL;intro w1 hL));go_ret;exact⟨by simp[uV];omega,Below.refl _ _⟩
instance OE:Ent 226:=eo func226
instance OF:RowTy 75 64:=⟨⟨_,underlying75,rfl⟩,by kernel_rfl⟩
section
variable {ops:Array Oper} {rest:List Oper} {o:Oper} {a:Act} {w0 w:World} {M M':Mem} {Q:Exit→Act→World→Prop}
theorem Dt(hL:Loc w0 w M)(hg:o.guard=none){x:Operand}(ho:o.op= .convert 29 9 x){p:Option Addr}{n c:Nat}(hx:a.eval x= .slice p n c){l:List (BitVec 8)}[hy:See w0 M (.slice p n c) (an l)](h:∀w',Loc w0 w' M→wpList prog ops Q rest (a.put o.dst (.string (dw l))) w'):wpList prog ops Q (o::rest) a w :=
 wpList_plain hg fun K hK=>by
  have hrun:=wS (P:=prog) (See.bytes hL (v:= .slice p n c) (l:=l)) underlying29 underlying5 underlying9;unfold Oper.wp execOp;simp only[ho,hx,Sem.run_bind,hrun,Result.andThen_ok,Sem.run_pure];exact hK _ _ (h w hL)
end
instance IE:Ent 210:=eo func210
end
section
open Go Go.RowKit Go.Shelf
theorem AL(w:World):Rt 144 #[.int .u64 1,.int .u64 32768] w (.tuple #[.int .u64 0,.int .u64 32768]):=by
 have h:=gP 1 32768 (by decide) (by decide) w;rw[show 1*32768/18446744073709551616=0 from by decide,show 1*32768%18446744073709551616=32768 from by decide]at h;exact h
theorem uX(w:World):Rt 89 #[.int .u64 1,.int .u64 32768] w (.tuple #[.int .u64 0,.int .u64 32768]):=by
 have hL:=Loc.nil w;go_enter func89,ntmps89;go_wp2_with (first|refine aV ?_|(go_at_call 144;go_loud (refine(AL _).mono ?_);rintro e w1⟨rfl,hb1⟩;have hL1:=hL.keep hb1;clear hb1;clear hL;have hL:=hL1;clear hL1;refine p4 ?_)|(refine aM ?_;clear hL;intro w1 hL));go_ret2;exact⟨rfl,hL.bel⟩
section
variable {ops:Array Oper} {rest:List Oper} {o:Oper} {a:Act} {w0 w:World} {M M':Mem} {Q:Exit→Act→World→Prop}
theorem LV(hL:Loc w0 w M)(hg:o.guard=none){x:Operand}{ts:Array TypeId}(ho:o.op= .call { callee:= .value (.func 90),args:= #[x],argTypes:=ts })(hx:a.eval x= .int .i64 32768)(h:∀g cs w',32768≤cs.size→Loc w0 w' ((g,cs,5)::M)→wpList prog ops Q rest (a.put o.dst (.slice (some ⟨g,0,none⟩) 32768 cs.size)) w'):wpList prog ops Q (o::rest) a w :=
 wpList_plain hg fun K hK=>by
  obtain⟨cs,h1,h2,_⟩:=Lib.run_makeNoZero (P:=prog) w #[3] 29 5 underlying29 32768 (by decide);have he:(callFunc 90 #[.int .i64 32768]).run prog w= .ok (.value (.slice (some ⟨w.heap.size,0,none⟩) 32768 cs.size)) (w.drew.drew.alloc (.cells cs 5)):=by
   rw[run_callFunc_extern (e:=Extern.BytealgMakeNoZero.makeNoZero #[3] #[29]) func90 (by kernel_rfl) rfl (by kernel_rfl) (by kernel_rfl)];rw[show((32768:Nat):Int)=32768 from rfl]at h1;rw[h1];rfl
  unfold Oper.wp execOp;simp only[ho,resolve,Act.eval,Deferred.ofValue,Sem.run_bind,Sem.run_pure,Result.andThen_ok,invoke,Array.append_empty,Array.empty_append,List.map_toArray,List.map_cons,List.map_nil];have hx':=hx;unfold Act.eval at hx';rw[hx',he];exact hK _ _ (h _ _ _ h2 (hL.drew.drew.alloc cs _))
end
def nv(k:Nat):Nat:=if k≤13 then 2^k else 8192*(k-12)
theorem AM:∀k,k<16→nv (k+1)=nv k+min (nv k) 8192∧min (nv k) 8192≤32768-nv k∧0<nv k∧nv k<32768:=by decide
structure Filled(x:BitVec 8)(m:Nat)(cur:Array Value):Prop where
 size:32768≤cur.size
 cell:∀i,i<m→cur[i]?=some (.int .u8 (B8 x))
theorem dH(x:BitVec 8)(m:Nat):(an (List.replicate m x)).length=m:=by rw[aq,List.length_replicate]
theorem Filled.seg{x:BitVec 8}{m:Nat}{cur:Array Value}(h:Filled x m cur)(k:Nat)(hk:k≤m):Seg cur 0 k (an (List.replicate k x)) where
 len:=dH x k
 one:=bY _
 seg:=fun i hi=>by
  rw[dH]at hi;rw[Nat.zero_add,h.cell i (by omega)];simp[an]
theorem zp(cur:Array Value)(off:Nat)(ys:List Value)(h:off+ys.length≤cur.size):Spl cur off ys (cur.toList.take off++(ys++cur.toList.drop (off+ys.length))).toArray:=⟨h,rfl⟩
theorem Filled.more{x:BitVec 8}{m:Nat}{cur:Array Value}(h:Filled x m cur)(k:Nat)(hk:m+k≤32768):Filled x (m+k) (cur.toList.take m++(an (List.replicate k x)++cur.toList.drop (m+(an (List.replicate k x)).length))).toArray where
 size:=by
  have:=h.size;simp only[List.size_toArray,List.length_append,List.length_take,List.length_drop,dH,Array.length_toList];omega
 cell:=fun i hi=>by
  have hs:=h.size;have hlen:(cur.toList.take m).length=m:=by rw[List.length_take,Array.length_toList];omega
  rw[List.getElem?_toArray];by_cases h1:i<m
  ·rw[List.getElem?_append_left (by omega),List.getElem?_take_of_lt h1,Array.getElem?_toList]
   exact h.cell i h1
  ·have h3:i-m<(an (List.replicate k x)).length:=by rw[dH];omega
   rw[List.getElem?_append_right (by omega),hlen,List.getElem?_append_left h3,List.getElem?_eq_getElem h3];simp[an]
theorem xH(x:BitVec 8)(v:Value)(w:World)(hv:BRow w v [x]) :
 Calls prog 41 #[v,.int .i64 32768] w fun e w'=>∃g cur,e= .returned (.slice (some ⟨g,0,none⟩) 32768 32768)∧Loc w w' [(g,cur,5)]∧Filled x 32768 cur:=by
 have hL:=Loc.nil w;haveI hA:Arg w v (an [x]):=⟨hv.vrow⟩;obtain⟨a,c,rfl,hne,hp⟩:=hv;have HM:=Hd (fun w1=>uX w1);clear hne hp;rw[show[x].length=1 from rfl];rw[show[x].length=1 from rfl]at hA;go_enter func41,ntmps41;go_wp2_with (first|refine aV ?_|(go_at_call 89;go_loud (refine(HM.out _).mono ?_);rintro e w1⟨rfl,hb1⟩;have hL1:=hL.keep hb1;clear hb1;clear hL;have hL:=hL1;clear hL1;refine p4 ?_)|(refine gN 54 ?_;(refine LV hL rfl rfl rfl fun g54 cs w1 hcs hL1=>?_);clear hL;have hL:=hL1;clear hL1)|(refine gN 60 ?_;have hS1:=zp cs 0 (an [x]) (by simp[an];omega);refine yP hL rfl rfl rfl rfl (by simp[an]) (by simp[an]) ?_;clear hL;intro w1 hL)|(refine aM ?_;clear hL;intro w1 hL));have hF:Filled x 0 cs:=⟨hcs,fun i hi=>absurd hi (Nat.not_lt_zero _)⟩;have hF1:=hF.more 1 (by omega);rw[Nat.zero_add]at hF1;have hone:((an [x]).length:Int)=((nv 0:Nat):Int):=rfl;rw[hone];clear hS1 hF hone;go_loopw [10] (fun nn wr=>∃(k:Nat) (cur:Array Value),k≤16∧nn= .int .i64 (nv k:Nat)∧Filled x (nv k) cur∧Loc w wr [(g54,cur,5)]) (fun nn _=>32768-(intOf nn).toNat);case atStart=>exact⟨0,_,by omega,rfl,hF1,hL⟩
 case round =>
  clear hL hF1;obtain⟨k,cur,hk,rfl,hF,hL⟩:=hrel;by_cases hlt:k<16
  ·obtain⟨e1,e2,e3,e4⟩:=AM k hlt
   have E1:=Hd e1;clear e1;generalize nv k=m at *
   have hch:min m 8192≤m:=Nat.min_le_left _ _;have hmin:(if(m:Int)≤8192 then(m:Int)else 8192)=((min m 8192:Nat):Int):=by split <;> omega
   have hmin2:min (m:Int) 8192=((min m 8192:Nat):Int):=by omega
   have HMIN:=Hd hmin2;have m1:(m:Int)<32768:=by omega
   have m0:(0:Int)≤m:=by omega
   clear hmin hmin2;go_wp2_with (first|refine aV ?_|(refine aM ?_;clear hL;intro w1 hL));rw[HMIN.out];have E2:=E1.out;have c0:0<min m 8192:=by omega
   generalize min m 8192=c at *
   have q5:¬32768=m:=by omega
   have q6:((32768:Int)-m).toNat=32768-m:=by omega
   have q7:(c:Int)≤32768:=by omega
   have q8:(m:Int)≤32768:=by omega
   have hel:=dH x c;have hF2:=hF.more c (by omega);have hS1:=zp cur m (an (List.replicate c x)) (by have:=hF.size;omega);have hs2:Seg cur 0 c (an (List.replicate c x)):=hF.seg c hch;refine mX (S:=fun w'=>Loc _ w' _) 10 (Loc.rem g54 (hL.drew)) ?_;intro hHeld;replace hL:=hL.drew;refine uG 0 ?_;refine uG 1 ?_;refine uG 2 ?_;refine uG 4 ?_;refine uG 5 ?_;refine uG 3 ?_;refine uG 6 ?_;refine rd1 7 ?_;intro K hK;refine eCp ?_;clear hL;intro w1 hL;refine kO hK (Loc.rem g54 (hL)) ?_;clear hK K hHeld;intro hHeld;refine uG 8 ?_;refine uG 9 ?_;refine wD ?_;clear hHeld;rw[hel]at hL hF2;have hw:IntKind.i64.wrap ((m:Int)+c)=((m+c:Nat):Int):=by rw[IntKind.wrap_i64];omega
   rw[hw];clear hw;generalize hmc:m+c=mc at *
   go_wp2_with fail;go_roundw;case rel=>exact⟨k+1,_,by omega,by rw[E2],by rw[E2];exact hF2,hL⟩
   case measure=>simp only[intOf];omega
  ·obtain rfl:k=16:=by omega
   rw[show nv 16=32768 from rfl]at hF ⊢;go_wp2_with (first|refine aV ?_|(refine aM ?_;clear hL;intro w1 hL));go_ret;exact⟨g54,cur,rfl,hL,hF⟩
instance OG:Ent 41:=eo func41
def flR(g:Nat)(er pr:Int):Array Value:= #[.slice (some ⟨g,0,none⟩) 32768 32768,.int .i64 (-1),.int .i64 0,.bool false,.int .i64 er,.int .i64 pr]
theorem uY(w:World):(Instr.build 104 #[(0,.int .i64 (-1))]).run prog w= .ok (.agg #[.int .i64 (-1),.int .i64 0]) w:=by kernel_rfl
theorem Du(g:Nat)(w:World):(Instr.build 106 #[(0,.slice (some ⟨g,0,none⟩) 32768 32768),(1,.agg #[.int .i64 (-1),.int .i64 0])]).run prog w= .ok (.agg (flR g 0 0)) w:=by kernel_rfl
theorem es(w:World):Calls prog 13 #[.int .i64 128] w fun e w'=>∃b g cur,e= .returned (.pointer (some ⟨b,0,none⟩))∧Filled 255 32768 cur∧Loc w w' [(b,flR g 0 0,106),(g,cur,5)]:=by
 have hL:=Loc.nil w;have HR:=Hd (fun w1 v (h:BRow w1 v [255])=>xH 255 v w1 h);have hmx:max (0:Int) 128=128:=by decide
 have hmn:min (128:Int) 1024=128:=by decide
 haveI hsb:Seg #[.int .u8 255] 0 1 (an [255]):=gB 255;go_enter func13,ntmps13;go_wp2_with (first|refine aV ?_|(refine gBp 13 ?_;clear hL;intro b13 w1 hL)|(refine gN 7 ?_;refine aL ?_;clear hL;intro b7 w1 hL)|(refine gN 10 ?_;refine lKk (HR.out _ _ (See.bytes hL (v:= .slice (some ⟨b7,0,none⟩) 1 1) (l:=[255]))) ?_;rintro e w1⟨g10,cur10,rfl,hN,hF⟩;have hL1:=hL.join hN;clear hN hL;revert hL1;refine aH ?_;intro hL)|(refine gN 11 ?_;refine lU hL rfl rfl uY rfl ?_;clear hL;intro w1 hL;refine p4 ?_)|(refine gN 12 ?_;refine lU hL rfl rfl (Du _) rfl ?_;clear hL;intro w1 hL;refine p4 ?_)|(refine aM ?_;clear hL;intro w1 hL));go_ret;exact⟨b13,g10,cur10,rfl,hF,Loc.rem b7 hL⟩
instance OH:Ent 13:=eo func13
end
section
open Go Go.RowKit Go.Shelf
section
variable (g:Nat) (er pr:Int)
instance OI:Cell (flR g er pr) 0 (.slice (some ⟨g,0,none⟩) 32768 32768):=⟨rfl⟩
instance OJ:Cell (flR g er pr) 1 (.int .i64 (-1)):=⟨rfl⟩
instance OK:Cell (flR g er pr) 3 (.bool false):=⟨rfl⟩
instance OL:Cell (flR g er pr) 4 (.int .i64 er):=⟨rfl⟩
instance OM:Cell (flR g er pr) 5 (.int .i64 pr):=⟨rfl⟩
instance ON:Put (flR g er pr) 1 (.int .i64 (-1)) (flR g er pr):=⟨rfl,by show 1<6;decide⟩
instance OO(e:Int):Put (flR g er pr) 4 (.int .i64 e) (flR g e pr):=⟨rfl,by show 4<6;decide⟩
instance OP(e:Int):Put (flR g er pr) 5 (.int .i64 e) (flR g er e):=⟨rfl,by show 5<6;decide⟩
end
structure Fl(f:Nat→BitVec 8)(y:Array Value):Prop where
 size:32768≤y.size
 cell:∀i,i<32768→y[i]?=some (.int .u8 (B8 (f i)))
theorem Fl.put{f h:Nat→BitVec 8}{y:Array Value}(hf:Fl f y)(k:Nat)(b:BitVec 8)(hk:k<32768)(e:∀i,i<32768→h i=if i=k then b else f i):Fl h (y.setIfInBounds k (.int .u8 (B8 b))) where
 size:=by have:=hf.size;simpa using this
 cell:=fun i hi=>by
  have:=hf.size;rw[e i hi];by_cases h1:i=k
  ·subst h1
   rw[if_pos rfl,Array.getElem?_setIfInBounds_self_of_lt (by omega)]
  ·rw[if_neg h1,Array.getElem?_setIfInBounds_ne (fun h=>h1 h.symm)]
   exact hf.cell i hi
theorem Fl.congr{f h:Nat→BitVec 8}{y:Array Value}(hf:Fl f y)(e:∀i,i<32768→h i=f i):Fl h y:=⟨hf.size,fun i hi=>by rw[e i hi];exact hf.cell i hi⟩
theorem Filled.fl{x:BitVec 8}{y:Array Value}(h:Filled x 32768 y):Fl (fun _=>x) y:=⟨h.size,h.cell⟩
class FlM(F:Array Value→Array Value→Mem)(bf bb:Nat):Prop where
 a:∀x y,At (F x y) bf x 106
 u:∀x y x',Ups (F x y) bf x' (F x' y)
 b:∀x y,At (F x y) bb y 5
 v:∀x y y',Ups (F x y) bb y' (F x y')
instance flM(F:Array Value→Array Value→Mem)(bf bb:Nat)[h1:∀x y,At (F x y) bf x 106][h2:∀x y x',Ups (F x y) bf x' (F x' y)][h3:∀x y,At (F x y) bb y 5][h4:∀x y y',Ups (F x y) bb y' (F x y')]:FlM F bf bb:=⟨h1,h2,h3,h4⟩
section
variable {w0 w:World} {F:Array Value→Array Value→Mem} {bf bb:Nat} [hF:FlM F bf bb] {er pr:Int} {y:Array Value}
theorem ic(hL:Loc w0 w (F (flR bb er pr) y)):Calls prog 42 #[.pointer (some ⟨bf,0,none⟩)] w fun e w'=>e= .returned (.int .i64 128)∧Loc w0 w' (F (flR bb er pr) y):=by
 have hA:=hF.a;go_enter func42,ntmps42;go_wp2_with (first|refine aV ?_|(refine aM ?_;clear hL;intro w1 hL));go_ret;exact⟨rfl,hL⟩
theorem pp(hL:Loc w0 w (F (flR bb er pr) y)):Calls prog 51 #[.pointer (some ⟨bf,0,none⟩)] w fun e w'=>e= .returned (.bool false)∧Loc w0 w' (F (flR bb er pr) y):=by
 have hA:=hF.a;go_enter func51,ntmps51;go_wp2_with (first|refine aV ?_|(refine aM ?_;clear hL;intro w1 hL));go_ret;exact⟨rfl,hL⟩
theorem Dw(at_ n:Nat)(h:at_+n≤32768)(hL:Loc w0 w (F (flR bb er pr) y)):Calls prog 243 #[.pointer (some ⟨bf,0,none⟩),.int .i64 at_,.int .i64 n] w fun e w'=>e= .returned (.bool true)∧Loc w0 w' (F (flR bb er pr) y):=by
 have hA:=hF.a;have q0:(0:Int)≤at_:=by omega
 have q1:(0:Int)≤n:=by omega
 have q2:(at_:Int)≤32768:=by omega
 have q3:(n:Int)≤32768-at_:=by omega
 go_enter func243,ntmps243;go_wp2_with (first|refine aV ?_|(refine aM ?_;clear hL;intro w1 hL));go_ret;exact⟨rfl,hL⟩
theorem gJ(n:Int)(hL:Loc w0 w (F (flR bb er pr) y)):Calls prog 240 #[.pointer (some ⟨bf,0,none⟩),.int .i64 n] w fun e w'=>e= .returned (.tuple #[.int .i64 n,.bool true])∧Loc w0 w' (F (flR bb er pr) y):=by
 have hA:=hF.a;have hU:=hF.u;have hmx:max (-1:Int) (-2)= -1:=by decide
 go_enter func240,ntmps240;go_wp2_with (first|refine aV ?_|(refine aM ?_;clear hL;intro w1 hL));go_ret2;exact⟨rfl,hL⟩
end
instance OQ:Ent 42:=eo func42
instance LW:Ent 51:=eo func51
instance LX:Ent 243:=eo func243
instance LY:Ent 240:=eo func240
section
variable {w0 w:World} {F:Array Value→Array Value→Mem} {bf bb:Nat} [hF:FlM F bf bb] {er pr:Int} {y:Array Value}
theorem AN(hL:Loc w0 w (F (flR bb er pr) y)):Calls prog 197 #[.pointer (some ⟨bf,0,none⟩)] w fun e w'=>e= .returned (.bool true)∧Loc w0 w' (F (flR bb er pr) y):=by
 have hA:=hF.a;go_enter func197,ntmps197;go_wp2_with (first|refine aV ?_|(refine gN 11 ?_;refine lO (gJ (F:=F) (bf:=bf) (bb:=bb) 0 hL) ?_;clear hL;intro w1 hL)|(refine aM ?_;clear hL;intro w1 hL));go_ret;exact⟨rfl,hL⟩
def u4(f:Nat→BitVec 8)(s j:Nat):Nat→BitVec 8:=fun i=>if 256*s≤i∧i<256*s+j then 255 else f i
theorem Id:B8 255=255:=by decide
theorem AO{f:Nat→BitVec 8}(s:Nat)(hs:s<128)(h0:0≤er∧er≤1099511627776)(hy:Fl f y)(hL:Loc w0 w (F (flR bb er pr) y)) :
 Calls prog 199 #[.pointer (some ⟨bf,0,none⟩),.int .i64 s] w fun e w'=>e= .returned (.bool true)∧∃e' y',(0≤e'∧e'≤1099511627776)∧Fl (u4 f s 256) y'∧Loc w0 w' (F (flR bb e' pr) y'):=by
 have hA:=hF.a;have hU:=hF.u;have hB:=hF.b;have hV:=hF.v;have q0:¬(s:Int)<0:=by omega
 have q1:¬(128:Int)≤s:=by omega
 have q2:(s:Int)≤127:=by omega
 have HE:=Hd (h0);have hY0:=hy.congr (h:=u4 f s 0) (fun i hi=>by unfold u4;rw[if_neg (by omega)]);clear hy h0;go_enter func199,ntmps199;go_wp2_with (first|refine aV ?_|(refine gN 20 ?_;refine lO (ic (F:=F) (bf:=bf) (bb:=bb) hL) ?_;clear hL;intro w1 hL)|(refine gN 25 ?_;refine lO (gJ (F:=F) (bf:=bf) (bb:=bb) 256 hL) ?_;clear hL;intro w1 hL)|(refine aM ?_;clear hL;intro w1 hL));go_loopw [31] (fun kk wr=>∃(j:Nat) (y:Array Value),j≤256∧kk= .int .i64 j∧Fl (u4 f s j) y∧Loc w0 wr (F (flR bb er pr) y)) (fun kk _=>256-(intOf kk).toNat);case atStart=>exact⟨0,y,by omega,rfl,hY0,hL⟩
 case round =>
  clear hL hY0;obtain⟨j,y,hj,rfl,hy,hL⟩:=hrel;by_cases hlt:j<256
  ·have k0:(0:Int)≤j:=by omega
   have k1:(j:Int)<256:=by omega
   have k2:(0:Int)≤s*256+j:=by omega
   have k3:(s:Int)*256+j<32768:=by omega
   have k4:((s:Int)*256+j).toNat=s*256+j:=by omega
   have hp:=hy.put (h:=u4 f s (j+1)) (s*256+j) 255 (by omega) (fun i hi=>by
    unfold u4;by_cases h1:i=s*256+j
    ·rw[if_pos h1,if_pos (by omega)]
    ·rw[if_neg h1]
     by_cases h2:256*s≤i∧i<256*s+j
     ·rw[if_pos h2,if_pos (by omega)]
     ·rw[if_neg h2,if_neg (by omega)])
   rw[Id]at hp;haveI hP:Put y (s*256+j) (.int .u8 255) (y.setIfInBounds (s*256+j) (.int .u8 255)):=⟨rfl,by have:=hy.size;omega⟩;go_wp2_with (first|refine aV ?_|(refine aM ?_;clear hL;intro w1 hL));go_roundw;case rel=>exact⟨j+1,_,by omega,by go_num,hp,hL⟩
   case measure=>simp only[intOf];omega
  ·obtain rfl:j=256:=by omega
   have he:=HE.out;have e1:(er+1≤9223372036854775807):=by omega
   have e2:(-9223372036854775808≤er+1):=by omega
   obtain⟨m,hm⟩:∃m,min (er+1) 1099511627776=m:=⟨_,rfl⟩;have hm0:0≤m∧m≤1099511627776:=by omega
   go_wp2_with (first|refine aV ?_|(refine aM ?_;clear hL;intro w1 hL));go_ret;exact⟨rfl,_,y,by omega,hy,hL⟩
instance LZ:Ent 197:=eo func197
instance L0:Ent 199:=eo func199
end
theorem lK{ops:Array Oper}{rest:List Oper}{o:Oper}{a:Act}{w0 w:World}{M:Mem}{Q:Exit→Act→World→Prop}(hL:Loc w0 w M)(hg:o.guard=none){t:TypeId}{x:Operand}(ho:o.op= .load t x){b k:Nat}(hx:a.eval x= .pointer (some ⟨b,k,none⟩)){v:Value}[ht:ScTy t](hc:w.cell? ⟨b,k,none⟩=some v)(h:∀w',Loc w0 w' M→wpList prog ops Q rest (a.put o.dst v) w'):wpList prog ops Q (o::rest) a w :=
 wpList_plain hg fun K hK=>by
  unfold Oper.wp execOp;have:=cO (t:=t) (w:=w) (b:=b) (k:=k) (v:=v) hc;simp only[ho,hx,Instr.loadAt,Instr.sureAddr,Sem.run_bind,Sem.run_pure,Result.andThen_ok,this];exact hK _ _ (h w hL)
section
variable {w0 w:World} {F:Array Value→Array Value→Mem} {bf bb:Nat} [hF:FlM F bf bb] {er pr:Int} {y:Array Value}
def qv(f:Nat→BitVec 8)(a:Nat)(l:List (BitVec 8))(j:Nat):Nat→BitVec 8:=fun i=>if a≤i∧i<a+j then f i&&&l.getD (i-a) 0 else f i
theorem Ie(a b:BitVec 8):bits .and .u8 (B8 a) (B8 b)=B8 (a&&&b):=by
 show IntKind.u8.wrap ((BitVec.ofInt 8 (a.toNat:Int)&&&BitVec.ofInt 8 (b.toNat:Int)).toNat:Nat)=_;have e1:BitVec.ofInt 8 (a.toNat:Int)=a:=by simp
 have e2:BitVec.ofInt 8 (b.toNat:Int)=b:=by simp
 rw[e1,e2,IntKind.wrap_u8];have:=(a&&&b).isLt;show((a&&&b).toNat:Int)%256=((a&&&b).toNat:Int);omega
theorem u5{f:Nat→BitVec 8}(a:Nat){p:Option Addr}{n c:Nat}{l:List (BitVec 8)}(hS:∀x y,See w0 (F x y) (.slice p n c) (an l))(hl:l.length=n)(hc:n≤c)(h0:0<n)(ha:a+n≤32768)(h1:0≤pr∧pr≤1099511627776)(hy:Fl f y)(hL:Loc w0 w (F (flR bb er pr) y)) :
 Calls prog 200 #[.pointer (some ⟨bf,0,none⟩),.int .i64 a,.slice p n c] w fun e w'=>e= .returned (.bool true)∧∃p' y',(0≤p'∧p'≤1099511627776)∧Fl (qv f a l n) y'∧Loc w0 w' (F (flR bb er p') y'):=by
 have hA:=hF.a;have hU:=hF.u;have hB:=hF.b;have hV:=hF.v;have q0:(n:Int)≤c:=by omega
 have q1:(0:Int)≤n:=by omega
 have HE:=Hd h1;have HL:=Hd hl;have hSl:=Hd (fun w1 x y (h:Loc w0 w1 (F x y))=>(show BRow w1 (.slice p n c) l from by haveI:=hS x y;exact See.bytes h));have hY0:=hy.congr (h:=qv f a l 0) (fun i hi=>by unfold qv;rw[if_neg (by omega)]);have ha2:(a:Int)≤32768:=by omega
 clear hy h1 hl;go_enter func200,ntmps200;go_wp2_with (first|refine aV ?_|(refine gN 20 ?_;refine lO (Dw (F:=F) (bf:=bf) (bb:=bb) a n ha hL) ?_;clear hL;intro w1 hL)|(refine gN 27 ?_;refine lO (gJ (F:=F) (bf:=bf) (bb:=bb) n hL) ?_;clear hL;intro w1 hL)|(refine aM ?_;clear hL;intro w1 hL));obtain⟨pa,ca,e1,hn1,hp1⟩:=hSl.out _ _ _ hL;obtain⟨bs,os,e2,hb1,hc1⟩:=hp1 (by rw[HL.out];exact h0);cases e1
 subst e2;clear hn1 hp1 hb1 hc1;have HC:=Hd (fun w1 x y (h:Loc w0 w1 (F x y)) k (hk:k<l.length)=>(show w1.cell? ⟨bs,os+k,none⟩=some (.int .u8 (B8 l[k]))from by
  obtain⟨pa,ca,e1,hn1,hp1⟩:=hSl.out _ _ _ h;obtain⟨b2,o2,e2,hb2,hc2⟩:=hp1 (by omega);cases e1
  cases e2
  exact hc2 k hk))
 clear hSl;go_loopw [34] (fun kk wr=>∃(j:Nat) (y:Array Value),j≤l.length∧kk= .int .i64 j∧Fl (qv f a l j) y∧Loc w0 wr (F (flR bb er pr) y)) (fun kk _=>l.length-(intOf kk).toNat);case atStart=>exact⟨0,y,by omega,rfl,hY0,hL⟩
 case round =>
  clear hL hY0;obtain⟨j,y,hj,rfl,hy,hL⟩:=hrel;by_cases hlt:j<l.length
  ·have k0:(0:Int)≤j:=by omega
   have k1:(j:Int)<l.length:=by omega
   have k2:(0:Int)≤a+j:=by omega
   have k3:(a:Int)+j<32768:=by omega
   have k4:((a:Int)+j).toNat=a+j:=by omega
   have hC:=Hd (fun w1 (h:Loc w0 w1 (F (flR bb er pr) y))=>HC.out w1 _ y h j hlt);have hcell:=hy.cell (a+j) (by omega);rw[show qv f a l j (a+j)=f (a+j)from by unfold qv;rw[if_neg (by omega)]]at hcell;haveI hCy:Cell y (a+j) (.int .u8 (B8 (f (a+j)))):=⟨hcell⟩;have hp:=hy.put (h:=qv f a l (j+1)) (a+j) (f (a+j)&&&l[j]) (by omega) (fun i hi=>by
    unfold qv;by_cases h1:i=a+j
    ·rw[if_pos h1,if_pos (by omega),h1,Nat.add_sub_cancel_left,List.getD_eq_getElem?_getD,List.getElem?_eq_getElem hlt];rfl
    ·rw[if_neg h1]
     by_cases h2:a≤i∧i<a+j
     ·rw[if_pos h2,if_pos (by omega)]
     ·rw[if_neg h2,if_neg (by omega)])
   rw[← Ie]at hp;generalize l[j]=bb' at *
   haveI hP:Put y (a+j) (.int .u8 (bits .and .u8 (B8 (f (a+j))) (B8 bb'))) (y.setIfInBounds (a+j) (.int .u8 (bits .and .u8 (B8 (f (a+j))) (B8 bb')))):=⟨rfl,by have:=hy.size;omega⟩;clear hcell;go_wp2_with (first|refine aV ?_|((with_reducible show wpList _ _ _ (⟨some 38,.load _ _,_,_,_,_⟩::_) _ _);(refine lK hL rfl rfl rfl (hC.out _ hL) ?_);clear hL;intro w1 hL)|(refine aM ?_;clear hL;intro w1 hL));go_roundw;case rel=>exact⟨j+1,_,by omega,by go_num,hp,hL⟩
   case measure=>simp only[intOf];omega
  ·obtain rfl:j=l.length:=by omega
   have he:=HE.out;have e1:(pr+1≤9223372036854775807):=by omega
   have e2:(-9223372036854775808≤pr+1):=by omega
   go_wp2_with (first|refine aV ?_|(refine aM ?_;clear hL;intro w1 hL));go_ret;exact⟨rfl,_,by omega,y,hy,hL⟩
end
instance L3:Ent 200:=eo func200
def otR(bf:Nat)(fr fs:Nat→BitVec 8)(n m:Int):Array Value:= #[.pointer (some ⟨bf,0,none⟩)]++aa 32 fr++aa 32 fs ++ #[.int .i64 n,.int .i64 m]
section
variable (bf:Nat) (fr fs:Nat→BitVec 8) (n m:Int)
theorem Dx:(otR bf fr fs n m).size=67:=by simp[otR,aj]
instance L5:Cell (otR bf fr fs n m) 0 (.pointer (some ⟨bf,0,none⟩)):=⟨by
 unfold otR;rw[Array.getElem?_append_left (by simp[aj]),Array.getElem?_append_left (by simp[aj]),Array.getElem?_append_left (by simp)];rfl⟩
instance L6:Cell (otR bf fr fs n m) 65 (.int .i64 n):=⟨by
 unfold otR;rw[Array.getElem?_append_right (by simp[aj])];simp[aj]⟩
instance L7:Cell (otR bf fr fs n m) 66 (.int .i64 m):=⟨by
 unfold otR;rw[Array.getElem?_append_right (by simp[aj])];simp[aj]⟩
instance L8(k:Int):Put (otR bf fr fs n m) 65 (.int .i64 k) (otR bf fr fs k m):=⟨by
 unfold otR;rw[Array.setIfInBounds_append_right (by simp[aj])];simp[aj],by rw[Dx];decide⟩
instance L9:Part (otR bf fr fs n m) 108 1 24 (aa 32 fr):=ce (pre:= #[.pointer (some ⟨bf,0,none⟩)]) (post:=aa 32 fs ++ #[.int .i64 n,.int .i64 m]) (by simp[otR,Array.append_assoc]) rfl
instance Ma:Part (otR bf fr fs n m) 108 33 24 (aa 32 fs):=ce (pre:= #[.pointer (some ⟨bf,0,none⟩)]++aa 32 fr) (post:= #[.int .i64 n,.int .i64 m]) (by simp[otR]) (by simp[aj])
theorem AP(w:World):(Instr.build 108 #[(0,.pointer (some ⟨bf,0,none⟩)),(1,.agg (aa 32 fr)),(2,.agg (aa 32 fs)),(4,.int .i64 m)]).run prog w= .ok (.agg (otR bf fr fs 0 m)) w:=by kernel_rfl
end
instance Mb:ScTy 35:=⟨fun w=>by kernel_rfl,by kernel_rfl⟩
instance Mc:ScTy 37:=⟨fun w=>by kernel_rfl,by kernel_rfl⟩
theorem fY(bf:Nat)(fr fs:Nat→BitVec 8)(m:Nat)(hm:m≤1048576)(w:World):Calls prog 14 #[.pointer (some ⟨bf,0,none⟩),.agg (aa 32 fr),.agg (aa 32 fs),.int .i64 m] w fun e w'=>∃b,e= .returned (.pointer (some ⟨b,0,none⟩))∧Loc w w' [(b,otR bf fr fs 0 m,108)]:=by
 have hL:=Loc.nil w;have hmx:max (0:Int) m=m:=by omega
 have hmn:min (m:Int) 1048576=m:=by omega
 go_enter func14,ntmps14;go_wp2_with (first|refine aV ?_|(refine gBp 5 ?_;clear hL;intro b5 w1 hL)|(refine gBp 6 ?_;clear hL;intro b6 w1 hL)|(refine gBp 16 ?_;clear hL;intro b16 w1 hL)|(refine gN 15 ?_;refine lU hL rfl rfl (AP _ _ _ _) rfl ?_;clear hL;intro w1 hL;refine p4 ?_)|(refine aM ?_;clear hL;intro w1 hL));go_ret;exact⟨b16,rfl,Loc.rem b5 (Loc.rem b6 hL)⟩
instance Md:Ent 14:=eo func14
class OtM(F:Array Value→Array Value→Array Value→Mem)(bf bb bo:Nat):Prop where
 a:∀x y z,At (F x y z) bf x 106
 u:∀x y z x',Ups (F x y z) bf x' (F x' y z)
 b:∀x y z,At (F x y z) bb y 5
 v:∀x y z y',Ups (F x y z) bb y' (F x y' z)
 o:∀x y z,At (F x y z) bo z 108
 p:∀x y z z',Ups (F x y z) bo z' (F x y z')
instance otM(F:Array Value→Array Value→Array Value→Mem)(bf bb bo:Nat)[h1:∀x y z,At (F x y z) bf x 106][h2:∀x y z x',Ups (F x y z) bf x' (F x' y z)][h3:∀x y z,At (F x y z) bb y 5][h4:∀x y z y',Ups (F x y z) bb y' (F x y' z)][h5:∀x y z,At (F x y z) bo z 108][h6:∀x y z z',Ups (F x y z) bo z' (F x y z')]:OtM F bf bb bo:=⟨h1,h2,h3,h4,h5,h6⟩
theorem Me(F:Array Value→Array Value→Array Value→Mem)(bf bb bo:Nat)[h:OtM F bf bb bo](z:Array Value):FlM (fun x y=>F x y z) bf bb:=⟨fun x y=>h.a x y z,fun x y x'=>h.u x y z x',fun x y=>h.b x y z,fun x y y'=>h.v x y z y'⟩
section
variable {w0 w:World} {F:Array Value→Array Value→Array Value→Mem} {bf bb bo:Nat} [hF:OtM F bf bb bo] {er pr:Int} {y:Array Value} {fr fs:Nat→BitVec 8} {n m:Int}
theorem jC(hL:Loc w0 w (F (flR bb er pr) y (otR bf fr fs n m))):Calls prog 145 #[.pointer (some ⟨bo,0,none⟩)] w fun e w'=>e= .returned (.int .i64 m)∧Loc w0 w' (F (flR bb er pr) y (otR bf fr fs n m)):=by
 have hA:=hF.o;go_enter func145,ntmps145;go_wp2_with (first|refine aV ?_|(refine aM ?_;clear hL;intro w1 hL));go_ret;exact⟨rfl,hL⟩
instance Mf:Ent 145:=eo func145
theorem et(hL:Loc w0 w (F (flR bb er pr) y (otR bf fr fs n m))):Calls prog 24 #[.pointer (some ⟨bo,0,none⟩)] w fun e w'=>e= .returned (.int .i64 n)∧Loc w0 w' (F (flR bb er pr) y (otR bf fr fs n m)):=by
 have hA:=hF.o;go_enter func24,ntmps24;go_wp2_with (first|refine aV ?_|(refine aM ?_;clear hL;intro w1 hL));go_ret;exact⟨rfl,hL⟩
instance Mg:Ent 24:=eo func24
theorem u6(hL:Loc w0 w (F (flR bb er pr) y (otR bf fr fs n m))):Calls prog 48 #[.pointer (some ⟨bo,0,none⟩)] w fun e w'=>e= .returned (.agg (aa 32 fr))∧Loc w0 w' (F (flR bb er pr) y (otR bf fr fs n m)):=by
 have hA:=hF.o;go_enter func48,ntmps48;go_wp2_with (first|refine aV ?_|(refine gBp 2 ?_;clear hL;intro b2 w1 hL)|(refine aM ?_;clear hL;intro w1 hL));exact bodyPost_ret (ai rfl hL rfl) rfl ⟨rfl,hL.pop⟩
instance Mh:Ent 48:=eo func48
theorem gK(hL:Loc w0 w (F (flR bb er pr) y (otR bf fr fs n m))):Calls prog 49 #[.pointer (some ⟨bo,0,none⟩)] w fun e w'=>e= .returned (.agg (aa 32 fs))∧Loc w0 w' (F (flR bb er pr) y (otR bf fr fs n m)):=by
 have hA:=hF.o;go_enter func49,ntmps49;go_wp2_with (first|refine aV ?_|(refine gBp 2 ?_;clear hL;intro b2 w1 hL)|(refine aM ?_;clear hL;intro w1 hL));exact bodyPost_ret (ai rfl hL rfl) rfl ⟨rfl,hL.pop⟩
instance Mi:Ent 49:=eo func49
theorem Dy(hn:0≤n)(hm:n<m)(hm1:m≤1048576)(hL:Loc w0 w (F (flR bb er pr) y (otR bf fr fs n m))):Calls prog 147 #[.pointer (some ⟨bo,0,none⟩)] w fun e w'=>e= .returned (.int .i64 0)∧Loc w0 w' (F (flR bb er pr) y (otR bf fr fs (n+1) m)):=by
 have hA:=hF.o;have hU:=hF.p;have q0:¬n=m:=by omega
 have hFl:=Me F bf bb bo (otR bf fr fs n m);go_enter func147,ntmps147;go_wp2_with (first|refine aV ?_|(refine aM ?_;clear hL;intro w1 hL));refine mX (S:=fun w'=>Loc _ w' _) 10 (hL.drew) ?_;intro hHeld;replace hL:=hL.drew;refine uG 0 ?_;refine uG 4 ?_;refine uG 1 ?_;refine uG 5 ?_;refine uG 2 ?_;refine uG 6 ?_;refine uZ 3 ?_;refine uZ 7 ?_;refine uG 8 ?_;refine uG 9 ?_;refine wD ?_;clear hHeld;go_wp2_with (first|refine aV ?_|(refine gN 24 ?_;refine lO (AN (F:=fun x y=>F x y (otR bf fr fs n m)) (bf:=bf) (bb:=bb) hL) ?_;clear hL;intro w1 hL)|(refine aM ?_;clear hL;intro w1 hL));go_ret;exact⟨rfl,hL⟩
instance Mj:Ent 147:=eo func147
end
end
section
open Go Go.RowKit Go.Shelf
section
variable {ops:Array Oper} {rest:List Oper} {o:Oper} {a:Act} {w0 w:World} {M M':Mem} {Q:Exit→Act→World→Prop}
theorem Dz(hL:Loc w0 w M)(hg:o.guard=none){t e:TypeId}{x y z' q:Operand}(ho:o.op= .buildSlice t 4 #[(0,x),(1,y),(2,z'),(3,q)])[he:Elt t e]{d1 d2 d3 d4:IntKind}{n1 n2 n3 n4:Int}(hx:a.eval x= .int d1 n1)(hy:a.eval y= .int d2 n2)(hz':a.eval z'= .int d3 n3)(hq:a.eval q= .int d4 n4)(h:∀b w',Loc w0 w' ((b, #[.int d1 n1,.int d2 n2,.int d3 n3,.int d4 n4],e)::M)→wpList prog ops Q rest (a.put o.dst (.slice (some ⟨b,0,none⟩) 4 4)) w'):wpList prog ops Q (o::rest) a w :=
 wpList_plain hg fun K hK=>by
  obtain⟨i,z,hi,hz,hs1,hb,hzs⟩:=he.info;refine wp_buildSlice t e 4 #[(0,x),(1,y),(2,z'),(3,q)] ho #[.int d1 n1,.int d2 n2,.int d3 n3,.int d4 n4] i z he.und hi hz (by rw[hs1];decide) (by rw[hs1];decide) ?_ (hK _ _ (h _ _ (hL.alloc #[.int d1 n1,.int d2 n2,.int d3 n3,.int d4 n4] e)));rw[hs1];have e:(Array.map (fun(y:Nat×Operand)=>(y.1,a.eval y.2)) #[(0,x),(1,y),(2,z'),(3,q)]).toList=[(0,.int d1 n1),(1,.int d2 n2),(2,.int d3 n3),(3,.int d4 n4)]:=by simp[hx,hy,hz',hq]
  rw[e];have e1:Array.range 4= #[0,1,2,3]:=rfl;simp[Instr.fill,Value.cells,e1]
end
theorem DA(l:List Value)(h1:∀u∈l,u.oneCell'=true)(n:Nat)(hn:l.length=n):Seg l.toArray 0 n l:=⟨hn,h1,fun i hi=>by simp[hi]⟩
theorem AQ(l:List Int):∀u∈dq l,u.oneCell'=true:=fun u hu=>by
 obtain⟨y,_,rfl⟩:=List.mem_map.1 hu;rfl
theorem rd(x y:Int):Seg #[.int .i64 x,.int .i64 y] 0 2 (dq [x,y]):=DA (dq [x,y]) (AQ _) 2 rfl
theorem Gx(x y z u:BitVec 8):Seg #[.int .u8 (B8 x),.int .u8 (B8 y),.int .u8 (B8 z),.int .u8 (B8 u)] 0 4 (an [x,y,z,u]):=DA (an [x,y,z,u]) (bY _) 4 rfl
section
variable {ops:Array Oper} {rest:List Oper} {o o2:Oper} {a:Act} {w0 w:World} {M M':Mem} {Q:Exit→Act→World→Prop}
theorem zq(x1 x2 x3 x4:BitVec 8)(hL:Loc w0 w M)(hg:o.guard=none)(hg2:o2.guard=none){x y z' q:Operand}(ho:o.op= .buildSlice 29 4 #[(0,x),(1,y),(2,z'),(3,q)])(hx:a.eval x= .int .u8 (B8 x1))(hy:a.eval y= .int .u8 (B8 x2))(hz':a.eval z'= .int .u8 (B8 x3))(hq:a.eval q= .int .u8 (B8 x4)){u:Operand}(ho2:o2.op= .convert 29 29 u)(hu:∀v,(a.put o.dst v).eval u=v)(h:∀b w',BRow w' (.slice (some ⟨b,0,none⟩) 4 4) [x1,x2,x3,x4]→Loc w0 w' M→wpList prog ops Q rest ((a.put o.dst (.slice (some ⟨b,0,none⟩) 4 4)).put o2.dst (.slice (some ⟨b,0,none⟩) 4 4)) w'):wpList prog ops Q (o::o2::rest) a w :=
 wpList_plain hg fun K hK=>by
  obtain⟨i,z,hi,hz,hs1,hb,hzs⟩:=(inferInstance:Elt 29 5).info;have hc:=Lib.run_convert_bytes_const (P:=prog) w 29 5 (an [x1,x2,x3,x4]).toArray 4 4 underlying29 underlying5;refine wp_buildSlice 29 5 4 #[(0,x),(1,y),(2,z'),(3,q)] ho (an [x1,x2,x3,x4]).toArray i z underlying29 hi hz (by rw[hs1];decide) (by rw[hs1];decide) ?_ (hK _ _ (wpList_plain hg2 fun K2 hK2=>?_))
  ·rw[hs1]
   have e:(Array.map (fun(y:Nat×Operand)=>(y.1,a.eval y.2)) #[(0,x),(1,y),(2,z'),(3,q)]).toList=[(0,.int .u8 (B8 x1)),(1,.int .u8 (B8 x2)),(2,.int .u8 (B8 x3)),(3,.int .u8 (B8 x4))]:=by simp[hx,hy,hz',hq]
   rw[e];have e1:Array.range 4= #[0,1,2,3]:=rfl;simp[Instr.fill,Value.cells,e1,an]
  ·unfold Oper.wp execOp
   simp only[ho2,hu,Sem.run_bind,hc,Result.andThen_ok,Sem.run_pure];have hb:BRow (w.alloc (.cells (an [x1,x2,x3,x4]).toArray 5 ((an [x1,x2,x3,x4]).toArray.size,(an [x1,x2,x3,x4]).toArray.size+1))) (.slice (some ⟨w.heap.size,0,none⟩) 4 4) [x1,x2,x3,x4]:=nK (c:=4) [x1,x2,x3,x4] (heap_alloc_new _ _);exact hK2 _ _ (h _ _ hb (hL.keep (iG (Below.refl _ _) _)))
theorem Kb(x1:BitVec 8)(hL:Loc w0 w M)(hg:o.guard=none)(hg2:o2.guard=none){x:Operand}(ho:o.op= .buildSlice 29 1 #[(0,x)])(hx:a.eval x= .int .u8 (B8 x1)){u:Operand}(ho2:o2.op= .convert 29 29 u)(hu:∀v,(a.put o.dst v).eval u=v)(h:∀b w',BRow w' (.slice (some ⟨b,0,none⟩) 1 1) [x1]→Loc w0 w' M→wpList prog ops Q rest ((a.put o.dst (.slice (some ⟨b,0,none⟩) 1 1)).put o2.dst (.slice (some ⟨b,0,none⟩) 1 1)) w'):wpList prog ops Q (o::o2::rest) a w :=
 wpList_plain hg fun K hK=>by
  obtain⟨i,z,hi,hz,hs1,hb,hzs⟩:=(inferInstance:Elt 29 5).info;have hc:=Lib.run_convert_bytes_const (P:=prog) w 29 5 (an [x1]).toArray 1 1 underlying29 underlying5;refine wp_buildSlice 29 5 1 #[(0,x)] ho (an [x1]).toArray i z underlying29 hi hz (by rw[hs1];decide) (by rw[hs1];decide) ?_ (hK _ _ (wpList_plain hg2 fun K2 hK2=>?_))
  ·rw[hs1]
   have e:(Array.map (fun(y:Nat×Operand)=>(y.1,a.eval y.2)) #[(0,x)]).toList=[(0,.int .u8 (B8 x1))]:=by simp[hx]
   rw[e];have e1:Array.range 1= #[0]:=rfl;simp[Instr.fill,Value.cells,e1,an]
  ·unfold Oper.wp execOp
   simp only[ho2,hu,Sem.run_bind,hc,Result.andThen_ok,Sem.run_pure];have hb:BRow (w.alloc (.cells (an [x1]).toArray 5 ((an [x1]).toArray.size,(an [x1]).toArray.size+1))) (.slice (some ⟨w.heap.size,0,none⟩) 1 1) [x1]:=nK (c:=1) [x1] (heap_alloc_new _ _);exact hK2 _ _ (h _ _ hb (hL.keep (iG (Below.refl _ _) _)))
end
def u9(f:Nat→BitVec 8)(n:Int)(l:List (BitVec 8)):List (BitVec 8) :=
 ([80,67,66,49]++aX [n,(l.length:Int)]++l)++ae 32 (gt (ae 32 (lr f [98,97,110,107])) ([80,67,66,49]++aX [n,(l.length:Int)]++l))
theorem va(f:Nat→BitVec 8)(n:Int)(l:List (BitVec 8)):(u9 f n l).length=52+l.length:=by simp[u9,bg,ag];omega
theorem xI(f:Nat→BitVec 8)(n:Int)(v:Value)(l:List (BitVec 8))(w:World)(hv:BRow w v l)(hn:0≤n)(hl:l.length≤4096) :
 Calls prog 198 #[.agg (aa 32 f),.int .i64 n,v] w fun e w'=>∃g cap cur,e= .returned (.tuple #[.slice (some ⟨g,0,none⟩) (u9 f n l).length cap,.int .i64 0])∧OwnR cur (u9 f n l).length cap (an (u9 f n l))∧Loc w w' [(g,cur,5)]:=by
 have hL:=Loc.nil w;haveI hA:Arg w v (an l):=⟨hv.vrow⟩;obtain⟨a,c,rfl,hne,hp⟩:=hv;clear hne hp;have q1:¬(4096:Int)<l.length:=by omega
 have HP:=Hd (fun w1 (v1 v2:Value) (h2:BRow w1 v1 [80,67,66,49]) (h3:VRow w1 v2 (dq [n,(l.length:Int)]))=>cB v1 [80,67,66,49] v2 [n,(l.length:Int)] w1 h2 (by decide) (by decide) h3 (by simp));have hlen:([80,67,66,49]++aX [n,(l.length:Int)]).length=20:=by simp[bg]
 have hlen1:([80,67,66,49]++aX [n,(l.length:Int)]).length≤20:=by omega
 clear hlen;haveI s4:Seg #[.int .u8 80,.int .u8 67,.int .u8 66,.int .u8 49] 0 4 (an [80,67,66,49]):=Gx 80 67 66 49;haveI s2:=rd n (l.length:Int);have HREC:=Hd (show u9 f n l=([80,67,66,49]++aX [n,(l.length:Int)]++l)++ae 32 (gt (ae 32 (lr f [98,97,110,107])) ([80,67,66,49]++aX [n,(l.length:Int)]++l))from rfl);have HK:=Hd (fun w1=>zn f [98,97,110,107] w1 (by decide));generalize u9 f n l=rc,[80,67,66,49]++aX [n,(l.length:Int)]=hd,lr f [98,97,110,107]=kk at *
 have HM:=Hd (fun w1 v vb (h1:BRow w1 v (ae 32 kk)) (h2:BRows w1 vb [hd++l])=>tb v vb (ae 32 kk) [hd++l] w1 h1 h2 (by rw[ag];omega) (by simp) (by simp;omega));rw[show[hd++l].flatten=hd++l from by simp]at HM;generalize gt (ae 32 kk) (hd++l)=mm at *
 have HLR:=Hd (show rc.length=hd.length+l.length+32 from by rw[HREC.out,List.length_append,List.length_append,ag]);haveI s9:Seg (aa 32 kk) 0 32 (an (ae 32 kk)):=by have:=segB kk 0 32 (Nat.le_refl _);simpa using this
 haveI s10:Seg (aa 32 mm) 0 32 (an (ae 32 mm)):=by have:=segB mm 0 32 (Nat.le_refl _);simpa using this
 generalize l.length=m at *
 go_enter func198,ntmps198;go_wp2_with (first|refine aV ?_|(refine gBp 3 ?_;clear hL;intro b3 w1 hL)|(refine gBp 9 ?_;clear hL;intro b9 w1 hL)|(refine gBp 10 ?_;clear hL;intro b10 w1 hL)|((with_reducible show wpList _ _ _ (⟨some 18,_,_,_,_,_⟩::⟨some 19,_,_,_,_,_⟩::_) _ _);go_loud (refine zq 80 67 66 49 hL rfl rfl rfl rfl rfl rfl rfl rfl (fun _=>rfl) ?_);clear hL;intro b18 w19 hb19 hL0;have hA19:Arg w19 (.slice (some ⟨b18,0,none⟩) 4 4) (an [80,67,66,49]):=⟨hb19.vrow⟩;have hL:=Loc.nil w19)|((with_reducible show wpList _ _ _ (⟨some 23,.buildSlice _ _ _,_,_,_,_⟩::_) _ _);(first|refine zm hL rfl rfl rfl rfl ?_|refine Dz hL rfl rfl rfl rfl rfl rfl ?_);intro b23;clear hL;intro w1 hL;refine p4 ?_)|((go_at_call 202;go_loud (refine(HP.out _ _ _ (See.bytes hL (l:=[80,67,66,49])) (See.see _ hL)).mono ?_);rintro e w1⟨g24,cap24,cur24,rfl,hr24,hg24,hc24,hb24⟩;have hL1:=hL0.join (hL.fresh hb24 hg24 hc24);clear hb24 hg24 hc24;clear hL hA19 hb19;have hL:=hL1;clear hL1;try simp only[List.cons_append,List.nil_append]at hL))|(refine gN 26 ?_;refine aA ?_;clear hL;intro g26 cap26 cur26 w1 hr26 hL)|(go_at_call 241;go_loud (refine(HK.out _).mono ?_);rintro e w1⟨rfl,hb1⟩;have hL1:=hL.keep hb1;clear hb1;clear hL;have hL:=hL1;clear hL1;refine p4 ?_)|(refine gN 31 ?_;refine yO hL rfl rfl rfl ?_;intro b31;clear hL;intro w1 hL)|(go_at_call 242;go_loud (refine(HM.out _ _ _ (See.bytes hL (l:=ae 32 kk)) (jU (hL.at_ b31) (See.bytes hL))).mono ?_);rintro e w1⟨rfl,hb1⟩;have hL1:=hL.keep hb1;clear hb1;clear hL;have hL:=hL1;clear hL1;refine p4 ?_)|(refine gN 35 ?_;refine aA ?_;clear hL;intro g35 cap35 cur35 w1 hr35 hL)|(refine aM ?_;clear hL;intro w1 hL));go_ret2;exact⟨g35,cap35,cur35,by rw[HLR.out];rfl,by rw[HLR.out,HREC.out];exact hr35,Loc.rem b10 (Loc.rem b31 (Loc.rem b9 (Loc.rem b23 (Loc.rem b3 hL))))⟩
instance OR:Ent 198:=eo func198
end
section
open Go Go.RowKit Go.Shelf
theorem If(F:Array Value→Array Value→Mem)(bf bb:Nat)(e:Nat×Array Value×TypeId)(h:FlM F bf bb):FlM (fun x y=>e::F x y) bf bb :=
 ⟨fun x y=>by haveI:=h.a x y;infer_instance,fun x y x'=>by haveI:=h.u x y x';infer_instance,fun x y=>by haveI:=h.b x y;infer_instance,fun x y y'=>by haveI:=h.v x y y';infer_instance⟩
theorem Fl.seg{f:Nat→BitVec 8}{y:Array Value}(h:Fl f y)(a n:Nat)(ha:a+n≤32768):Seg y a n (an (ae n fun i=>f (a+i))) where
 len:=by rw[aq,ag]
 one:=bY _
 seg:=fun i hi=>by
  rw[aq,ag]at hi;rw[h.cell (a+i) (by omega)];simp[an,ae]
section
variable {w0 w:World} {F:Array Value→Array Value→Mem} {bf bb:Nat} [hF:FlM F bf bb] {er pr:Int} {y:Array Value}
theorem AR{f:Nat→BitVec 8}(a n:Nat)(ha:a+n≤32768)(h0:0<n)(hy:Fl f y)(hL:Loc w0 w (F (flR bb er pr) y)) :
 Calls prog 238 #[.pointer (some ⟨bf,0,none⟩),.int .i64 a,.int .i64 n] w fun e w'=>∃g cap cur,e= .returned (.tuple #[.slice (some ⟨g,0,none⟩) n cap,.bool true])∧OwnR cur n cap (an (ae n fun i=>f (a+i)))∧Loc w0 w' ((g,cur,5)::F (flR bb er pr) y):=by
 have hA:=hF.a;have hB:=hF.b;have hs:=hy.seg a n ha;have q0:(0:Int)≤a:=by omega
 have q1:(0:Int)≤n:=by omega
 have q2:(a:Int)+n≤32768:=by omega
 have q3:(a:Int)≤a+n:=by omega
 have q4:(a:Int)≤32768:=by omega
 have q5:((a:Int)+n-a).toNat=n:=by omega
 have HL:=Hd (ag n fun i=>f (a+i));have HC:=Hd (fun w1 v (h:BRow w1 v (ae n fun i=>f (a+i)))=>d9 v _ w1 h (by rw[ag];exact h0) (by rw[ag];omega));generalize(ae n fun i=>f (a+i))=l at *
 go_enter func238,ntmps238;go_wp2_with (first|refine aV ?_|(refine gN 16 ?_;refine lO (Dw (F:=F) (bf:=bf) (bb:=bb) a n ha hL) ?_;clear hL;intro w1 hL)|(go_at_call 94;go_loud (refine(HC.out _ _ (See.bytes hL (l:=l))).mono ?_);rintro e w1⟨g28,cap28,cur28,rfl,hr28,hg28,hc28,hb28⟩;have hL1:=hL.fresh hb28 hg28 hc28;clear hb28 hg28 hc28;clear hL;have hL:=hL1;clear hL1;refine p4 ?_)|(refine aM ?_;clear hL;intro w1 hL));go_ret2;rw[HL.out]at hr28;exact⟨g28,cap28,cur28,by rw[HL.out];rfl,hr28,hL⟩
end
instance OS:Ent 238:=eo func238
section
variable {w0 w:World} {F:Array Value→Array Value→Mem} {bf bb:Nat} [hF:FlM F bf bb] {er pr:Int} {y:Array Value}
theorem DB(s:Nat→BitVec 8)(k:Nat)(hk:k<2)(hy:Fl (fun _=>255) y)(hL:Loc w0 w (F (flR bb er pr) y)) :
 Calls prog 196 #[.pointer (some ⟨bf,0,none⟩),.agg (aa 32 s),.int .i64 k] w fun e w'=>e= .returned (.tuple #[.int .i64 0,.slice none 0 0,.bool false])∧Loc w0 w' (F (flR bb er pr) y):=by
 have hA:=hF.a;have hB:=hF.b;have q0:¬(k:Int)<0:=by omega
 have q1:¬(2:Int)≤k:=by omega
 have q2:(k:Int)≤1:=by omega
 obtain⟨a,ha⟩:∃a,a=k*32*256:=⟨_,rfl⟩;have ha1:a+4148≤32768:=by omega
 have ha2:(k:Int)*32*256=(a:Nat):=by omega
 have HR:=Hd (fun w1 (h:Loc w0 w1 (F (flR bb er pr) y))=>AR (F:=F) (bf:=bf) (bb:=bb) a 4148 ha1 (by decide) hy h);have HLEN:=Hd (show(ae 4148 fun i=>(255:BitVec 8)).length=4148 from ag _ _);have HT:=Hd (show(ae 4148 fun i=>(255:BitVec 8)).take 4=[255,255,255,255]from by decide);have HN:=Hd (fun w1 v (h:BRow w1 v (ae 4148 fun i=>(255:BitVec 8)))=>by have:=jB v _ w1 h (by rw[ag];decide) (by rw[ag];decide);rw[ag]at this;exact this);generalize(ae 4148 fun i=>(255:BitVec 8))=l at *
 clear ha;go_enter func196,ntmps196;go_wp2_with (first|refine aV ?_|(refine gBp 4 ?_;clear hL;intro b4 w1 hL)|(refine aM ?_;clear hL;intro w1 hL));refine eX 0 rfl ?_;have hF4:=If F bf bb (b4,aa 32 s,24) hF;go_wp2_with (first|refine aV ?_|(refine gN 20 ?_;refine lO (pp (F:=fun x y=>(b4,aa 32 s,24)::F x y) (bf:=bf) (bb:=bb) hL) ?_;clear hL;intro w1 hL)|(refine gN 24 ?_;refine lO (ic (F:=fun x y=>(b4,aa 32 s,24)::F x y) (bf:=bf) (bb:=bb) hL) ?_;clear hL;intro w1 hL)|(refine gN 41 ?_;refine lKk (HR.out _ hL.pop) ?_;rintro e w1⟨g41,cap41,cur41,rfl,hr41,hL1⟩;clear hL;revert hL1;refine aE ?_;intro hL)|(refine gN 45 ?_;refine lKk (HN.out _ (.slice (some ⟨g41,0,none⟩) 4148 cap41) (See.bytes hL (l:=l))) ?_;rintro e w1⟨b45,g45,cap45,cur45,rfl,hr45,hN⟩;refine⟨_,rfl,?_⟩;have hs1:=hr45.segB;have hc9:=hr45.le;have hL1:=hL.join hN;clear hN hL;revert hL1;refine aJ ?_;intro hL)|(refine gN 47 ?_;refine lKk (xF (F:=fun x=>(b45,x,274)::(g45,cur45,5)::(g41,cur41,5)::F (flR bb er pr) y) (l:=l) hs1 4 (by omega) (by omega) hc9 (by omega) hL) ?_;rintro e w1⟨g47,cap47,cur47,rfl,hr47,hL1⟩;rw[HT.out]at hr47;clear hL;revert hL1;refine aE ?_;intro hL)|(refine gN 48 ?_;refine Dt hL rfl rfl rfl ?_;rw[show dw [255,255,255,255]=⟨#[255,255,255,255]⟩from rfl];clear hL;intro w1 hL)|(refine aM ?_;clear hL;intro w1 hL));go_step3;refine⟨rfl,?_⟩;unfold sY;go_wp2_with (first|refine aV ?_|(refine aM ?_;clear hL;intro w1 hL));simp only[Exit.jump]
 go_ret3
 exact⟨rfl,Loc.rem g47 (Loc.rem b45 (Loc.rem g45 (Loc.rem g41 hL)))⟩
end
instance OT:Ent 196:=eo func196
end
end Go.Proofs.YtoifhhljfaoejaaGreatDoor
