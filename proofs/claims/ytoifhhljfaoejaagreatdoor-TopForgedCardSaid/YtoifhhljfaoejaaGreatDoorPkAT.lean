/-
  Lemmas of the law, part 20: the walks of the functions that it calls and the plain facts about them. No condition beyond those written.
-/
import Derived.Test.YtoifhhljfaoejaaGreatDoorPkAA
import Derived.Test.YtoifhhljfaoejaaGreatDoorPkAS
import Derived.Test.YtoifhhljfaoejaaGreatDoorPkAL
import Derived.Test.YtoifhhljfaoejaaGreatDoorPkAK
import Derived.Test.YtoifhhljfaoejaaGreatDoorPkAN
set_option maxRecDepth 100000
set_option maxHeartbeats 8000000
set_option linter.unusedVariables false
set_option linter.unusedSimpArgs false
set_option linter.unusedSectionVars false
namespace Go.Proofs.YtoifhhljfaoejaaGreatDoor
open Go.Proofs.Tryz
section
open Go Go.RowKit R3
section
variable {ops:Array Oper} {rest:List Oper} {l:List (Oper×Bool)} {R:Act→Prop} {o:Oper} {a:Act} {w0 w:World} {M M':Mem} {Q:Exit→Act→World→Prop}
theorem sC6(hg:o.guard=none){f:FuncId}{x y z:Operand}{ts:Array TypeId}(ho:o.op= .call { callee:= .value (.func f),args:= #[x,y,z],argTypes:=ts }){r s:Array Value}{k:IntKind}{n:Int}(hx:a.eval x= .agg r)(hy:a.eval y= .agg s)(hz:a.eval z= .int k n)[he:Ent f]{v:Value}[hf:FnC f #[.agg r,.agg s,.int k n] v](h:bu prog ops (fun w=>Loc w0 w M) l (a.put o.dst v) R):bu prog ops (fun w=>Loc w0 w M) ((o,false)::l) a R:=sC (args:= #[.agg r,.agg s,.int k n]) hg ho (by simp[hx,hy,hz]) h
theorem lC7(hL:Loc w0 w M)(hg:o.guard=none){f:FuncId}{x y z x1 y1:Operand}{ts:Array TypeId}(ho:o.op= .call { callee:= .value (.func f),args:= #[x,y,z,x1,y1],argTypes:=ts }){r s t p q:Array Value}(hx:a.eval x= .agg r)(hy:a.eval y= .agg s)(hz:a.eval z= .agg t)(hx1:a.eval x1= .agg p)(hy1:a.eval y1= .agg q)[he:Ent f]{v:Value}[hf:FnC f #[.agg r,.agg s,.agg t,.agg p,.agg q] v](h:∀w',Loc w0 w' M→wpList prog ops Q rest (a.put o.dst v) w'):wpList prog ops Q (o::rest) a w:=lC (args:= #[.agg r,.agg s,.agg t,.agg p,.agg q]) hL hg ho (by simp[hx,hy,hz,hx1,hy1]) h
end
def pk(s:Nat)(a b:F):F:=if s=1 then b else a
def lN(m n k:Nat):Array Value:=row 4 fun i=>if i<k then lv m i else lv n i
theorem GD(n m k:Nat):bits .xor .u64 (lw n k:Nat) (bits .and .u64 18446744073709551615 (bits .xor .u64 (lw n k:Nat) (lw m k:Nat)))=(lw m k:Nat)∧bits .xor .u64 (lw n k:Nat) (bits .and .u64 0 (bits .xor .u64 (lw n k:Nat) (lw m k:Nat)))=(lw n k:Nat):=by
 have q:∀x:Nat,x<18446744073709551616→(x:Int)=Q (BitVec.ofNat 64 x):=fun x hx=>by
  unfold Q;rw[BitVec.toNat_ofNat,Nat.mod_eq_of_lt hx]
 have l1:=dn n k;have l2:=dn m k;rw[q _ l1,q _ l2,show(18446744073709551615:Int)=Q (BitVec.allOnes 64)from by decide,show(0:Int)=Q 0 from rfl];simp only[Shb.Q_xor,Shb.Q_and];generalize BitVec.ofNat 64 (lw n k)=x;generalize BitVec.ofNat 64 (lw m k)=y;constructor
 ·congr 1;rw[BitVec.allOnes_and,← BitVec.xor_assoc,BitVec.xor_self,BitVec.zero_xor]
 ·congr 1;rw[show(0:BitVec 64)=0#64 from rfl,BitVec.zero_and,BitVec.xor_zero]
instance QH:Ent 286:=eo func286
theorem Bd(n m:Nat)(w:World):Rt 286 #[.agg (am n),.agg (am m),.int .u64 0] w (.agg (am n)):=by
 have hL:=Loc.nil w;have a1:bits .and .u64 0 1=0:=by decide
 have a2:IntKind.u64.wrap (-0)=0:=by decide
 have z0:=Hd (show am n=lN n n 0 from ak fun i hi=>by simp);have z4:=Hd (show lN n n 4=am n from ak fun i hi=>if_pos hi);go_enter func286,ntmps286;go_wp2_with (first|(refine gBp 3 ?_;clear hL;intro b3 w1 hL)|(refine gBp 4 ?_;clear hL;intro b4 w1 hL)|(refine gBp 6 ?_;clear hL;intro b6 w1 hL)|(refine aQq ?_;clear hL;intro _ w1 hL));rw[z0.out]at hL;go_loopw [12] (fun kk wr=>∃k:Nat,k≤4∧kk= .int .i64 k∧Loc w wr [(b6,am 0,311),(b4,am m,311),(b3,lN n n k,311)]) (fun kk _=>4-(intOf kk).toNat);case atStart=>exact⟨0,by omega,rfl,hL⟩
 case round =>
  clear hL;obtain⟨k,hk,rfl,hL⟩:=hrel;by_cases hlt:k<4
  ·have k0:(0:Int)≤(k:Int):=by omega
   have k1:(k:Int)<4:=by omega
   have hx:=(GD n m k).2;haveI g1:Cell (lN n n k) k (.int .u64 (lw n k:Nat)):=⟨by
    have:=bI (n:=4) (fun i=>if i<k then lv n i else lv n i) hlt;rw[show lN n n k=row 4 fun i=>if i<k then lv n i else lv n i from rfl,this];simp[lv]⟩
   haveI g2:Cell (am m) k (.int .u64 (lw m k:Nat)):=aI _ hlt;haveI g3:Put (lN n n k) k (.int .u64 (lw n k:Nat)) (lN n n (k+1)):=a9 hlt (ak fun i hi=>by
    unfold upd;by_cases c:i=k
    ·subst c;rw[if_pos rfl,if_pos (by omega)];rfl
    ·rw[if_neg c];dsimp only;by_cases d:i<k
     ·rw[if_pos d,if_pos (by omega)]
     ·rw[if_neg d,if_neg (by omega)])
   clear z0 z4 hlt;go_wp2_with (first|(refine aQq ?_;clear hL;intro _ w1 hL));refine wf [(0,true),(1,true),(2,false),(3,true),(4,true),(5,true),(6,false),(7,true),(8,true),(9,false),(10,true),(11,true),(12,true),(13,true)] [] [14] hL ?_;refine fA ?_;refine fB ?_;clear hL;intro w1 hL;go_wp2_with (first|(refine aQq ?_;clear hL;intro _ w1 hL));go_roundw;case rel=>exact⟨k+1,by omega,by go_num,hL⟩
   case measure=>simp[intOf];omega
  ·obtain rfl:k=4:=by omega
   rw[z4.out]at hL;go_wp2_with (first|(refine aQq ?_;clear hL;intro _ w1 hL));exact bodyPost_ret (ai rfl hL rfl) rfl ⟨rfl,hL.bel⟩
theorem Be(n m:Nat)(w:World):Rt 286 #[.agg (am n),.agg (am m),.int .u64 1] w (.agg (am m)):=by
 have hL:=Loc.nil w;have a1:bits .and .u64 1 1=1:=by decide
 have a2:IntKind.u64.wrap (-1)=18446744073709551615:=by decide
 have z0:=Hd (show am n=lN m n 0 from ak fun i hi=>by simp);have z4:=Hd (show lN m n 4=am m from ak fun i hi=>if_pos hi);go_enter func286,ntmps286;go_wp2_with (first|(refine gBp 3 ?_;clear hL;intro b3 w1 hL)|(refine gBp 4 ?_;clear hL;intro b4 w1 hL)|(refine gBp 6 ?_;clear hL;intro b6 w1 hL)|(refine aQq ?_;clear hL;intro _ w1 hL));rw[z0.out]at hL;go_loopw [12] (fun kk wr=>∃k:Nat,k≤4∧kk= .int .i64 k∧Loc w wr [(b6,am 0,311),(b4,am m,311),(b3,lN m n k,311)]) (fun kk _=>4-(intOf kk).toNat);case atStart=>exact⟨0,by omega,rfl,hL⟩
 case round =>
  clear hL;obtain⟨k,hk,rfl,hL⟩:=hrel;by_cases hlt:k<4
  ·have k0:(0:Int)≤(k:Int):=by omega
   have k1:(k:Int)<4:=by omega
   have hx:=(GD n m k).1;haveI g1:Cell (lN m n k) k (.int .u64 (lw n k:Nat)):=⟨by
    have:=bI (n:=4) (fun i=>if i<k then lv m i else lv n i) hlt;rw[show lN m n k=row 4 fun i=>if i<k then lv m i else lv n i from rfl,this];simp[lv]⟩
   haveI g2:Cell (am m) k (.int .u64 (lw m k:Nat)):=aI _ hlt;haveI g3:Put (lN m n k) k (.int .u64 (lw m k:Nat)) (lN m n (k+1)):=a9 hlt (ak fun i hi=>by
    unfold upd;by_cases c:i=k
    ·subst c;rw[if_pos rfl,if_pos (by omega)];rfl
    ·rw[if_neg c];dsimp only;by_cases d:i<k
     ·rw[if_pos d,if_pos (by omega)]
     ·rw[if_neg d,if_neg (by omega)])
   clear z0 z4 hlt;go_wp2_with (first|(refine aQq ?_;clear hL;intro _ w1 hL));refine wf [(0,true),(1,true),(2,false),(3,true),(4,true),(5,true),(6,false),(7,true),(8,true),(9,false),(10,true),(11,true),(12,true),(13,true)] [] [14] hL ?_;refine fA ?_;refine fB ?_;clear hL;intro w1 hL;go_wp2_with (first|(refine aQq ?_;clear hL;intro _ w1 hL));go_roundw;case rel=>exact⟨k+1,by omega,by go_num,hL⟩
   case measure=>simp[intOf];omega
  ·obtain rfl:k=4:=by omega
   rw[z4.out]at hL;go_wp2_with (first|(refine aQq ?_;clear hL;intro _ w1 hL));exact bodyPost_ret (ai rfl hL rfl) rfl ⟨rfl,hL.bel⟩
theorem jY(s:Nat)(hs:s<2)(a b:F):FnC 286 #[.agg (am a.val),.agg (am b.val),.int .u64 (s:Nat)] (.agg (am (pk s a b).val)):=by
 rcases s with _|_|s
 ·exact⟨Bd _ _⟩
 ·exact⟨Be _ _⟩
 ·omega
theorem Bf(f:Nat→BitVec 8)(w:World):Rt 285 #[.agg (aa 32 f)] w (.agg (aa 32 (ab (bD (leN f))))):=by
 have hL:=Loc.nil w;haveI p0:=CV f;haveI p1:=y9 f;haveI g0:Cell (aa 32 f) 0 (.int .u8 (B8 (f 0))):=aI _ (by omega);haveI g1:Cell (aa 32 fun i=>if i=0 then ab (bD (leN f)) 0 else f i) 31 (.int .u8 (B8 (f 31))):=aI _ (by omega);generalize ab (bD (leN f))=out at *
 generalize(fun i=>if i=0 then out 0 else f i)=mid,f 0=x,f 31=y at *
 go_enter func285,ntmps285;go_wp2_with (first|(refine gBp 1 ?_;clear hL;intro b1 w1 hL)|(refine gBp 2 ?_;clear hL;intro b2 w1 hL)|(refine aQq ?_;clear hL;intro _ w1 hL));exact bodyPost_ret (ai rfl hL rfl) rfl ⟨rfl,hL.bel⟩
instance QI:Ent 285:=eo func285
instance QJ(f:Nat→BitVec 8):FnC 285 #[.agg (aa 32 f)] (.agg (aa 32 (ab (bD (leN f))))):=⟨Bf f⟩
theorem Bg(w:World):(Instr.build 311 #[(0,.int .u64 121665)]).run prog w= .ok (.agg (am (121665:F).val)) w:=by kernel_rfl
theorem vz(w:World):(Instr.build 311 #[(0,.int .u64 1)]).run prog w= .ok (.agg (am (1:F).val)) w:=by kernel_rfl
theorem D7(w:World):(Instr.build 311 #[]).run prog w= .ok (.agg (am 0)) w:=by kernel_rfl
theorem tu{fn:Func}{p1 p2 p3 p4:Tmp}{t:TypeId}(h:fn.results= #[.cell p1 t,.cell p2 t,.cell p3 t,.cell p4 t]){w0 w:World}{M:Mem}(hL:Loc w0 w M){tmps:Array Value}{b1 b2 b3 b4:Nat}(h1:tmps.getD p1 undef= .pointer (some ⟨b1,0,none⟩))(h2:tmps.getD p2 undef= .pointer (some ⟨b2,0,none⟩))(h3:tmps.getD p3 undef= .pointer (some ⟨b3,0,none⟩))(h4:tmps.getD p4 undef= .pointer (some ⟨b4,0,none⟩)){n:Nat}[ht:RowTy t n]{r1 r2 r3 r4:Array Value}[m1:At M b1 r1 t][m2:At M b2 r2 t][m3:At M b3 r3 t][m4:At M b4 r4 t][q1:Row1 r1 n][q2:Row1 r2 n][q3:Row1 r3 n][q4:Row1 r4 n] :
 (results fn tmps).run prog w= .ok (.tuple #[.agg r1,.agg r2,.agg r3,.agg r4]) w:=by
 obtain⟨d,e1,e2⟩:=ht.und;have key:∀{b:Nat} {r:Array Value},At M b r t→Row1 r n→(loadVar t ⟨b,0,none⟩).run prog w= .ok (.agg r) w:=fun{b r} hm hr =>
  run_loadVar_row w b t t r (0,0) d (hL.get hm.mem) e1 (by cases d <;> first|rfl|cases e2) (by rw[ht.size,hr.size])
 have k1:=key m1 q1;have k2:=key m2 q2;have k3:=key m3 q3;have k4:=key m4 q4;have h1':tmps[p1]?.getD undef= .pointer (some ⟨b1,0,none⟩):=by simpa using h1
 have h2':tmps[p2]?.getD undef= .pointer (some ⟨b2,0,none⟩):=by simpa using h2
 have h3':tmps[p3]?.getD undef= .pointer (some ⟨b3,0,none⟩):=by simpa using h3
 have h4':tmps[p4]?.getD undef= .pointer (some ⟨b4,0,none⟩):=by simpa using h4
 simp[results,h,h1',h2',h3',h4',asAddr,k1,k2,k3,k4]
theorem vA(x a b c d:F)(w:World):Calls prog 287 #[.agg (am x.val),.agg (am a.val),.agg (am b.val),.agg (am c.val),.agg (am d.val)] w fun e w' =>
 e= .returned (.tuple #[.agg (am (fq x ⟨a,b,c,d⟩).a.val),.agg (am (fq x ⟨a,b,c,d⟩).b.val),.agg (am (fq x ⟨a,b,c,d⟩).c.val),.agg (am (fq x ⟨a,b,c,d⟩).d.val)])∧Below w.heap.size w w':=by
 have hL:=Loc.nil w;unfold fq;dsimp only;go_enter func287,ntmps287;go_wp2_with (first|(refine gBp 5 ?_;clear hL;intro b5 w1 hL)|(refine gBp 6 ?_;clear hL;intro b6 w1 hL)|(refine gBp 7 ?_;clear hL;intro b7 w1 hL)|(refine gBp 8 ?_;clear hL;intro b8 w1 hL)|(refine gBp 9 ?_;clear hL;intro b9 w1 hL)|(refine gBp 10 ?_;clear hL;intro b10 w1 hL)|(refine gBp 11 ?_;clear hL;intro b11 w1 hL)|(refine gBp 12 ?_;clear hL;intro b12 w1 hL)|(refine gBp 13 ?_;clear hL;intro b13 w1 hL)|(refine aQq ?_;clear hL;intro _ w1 hL));refine ar [(0,false),(1,false),(2,false),(3,false),(4,false),(5,false)] [(6,_,311),(7,_,311)] [8,9] (by kernel_rfl) (by kernel_rfl) ⟨⟨_,rfl,rfl,rfl⟩,inferInstance,⟨⟨_,rfl,rfl,rfl⟩,inferInstance,trivial⟩⟩ hL ?_;refine pF ?_;refine fA ?_;refine az fun b=>?_;refine az fun b=>?_;refine fB ?_;clear hL;intro w1 hL;go_wp2_with (first|(refine gBp 18 ?_;clear hL;intro b18 w1 hL)|(refine aQq ?_;clear hL;intro _ w1 hL));refine ar [(0,false),(1,false),(2,false),(3,false),(4,false),(5,false)] [(6,_,311),(7,_,311)] [8,9] (by kernel_rfl) (by kernel_rfl) ⟨⟨_,rfl,rfl,rfl⟩,inferInstance,⟨⟨_,rfl,rfl,rfl⟩,inferInstance,trivial⟩⟩ hL ?_;refine pF ?_;refine fA ?_;refine az fun b=>?_;refine az fun b=>?_;refine fB ?_;clear hL;intro w1 hL;go_wp2_with (first|(refine gBp 18 ?_;clear hL;intro b18 w1 hL)|(refine aQq ?_;clear hL;intro _ w1 hL));refine ar [(0,false),(1,false),(2,false),(3,false),(4,false)] [(5,_,311)] [6] (by kernel_rfl) (by kernel_rfl) ⟨⟨_,rfl,rfl,rfl⟩,inferInstance,trivial⟩ hL ?_;refine pF ?_;refine fA ?_;refine az fun b=>?_;refine fB ?_;clear hL;intro w1 hL;go_wp2_with (first|(refine aQq ?_;clear hL;intro _ w1 hL));refine ar [(0,false),(1,false),(2,false),(3,false),(4,false)] [(5,_,311)] [6] (by kernel_rfl) (by kernel_rfl) ⟨⟨_,rfl,rfl,rfl⟩,inferInstance,trivial⟩ hL ?_;refine pF ?_;refine fA ?_;refine az fun b=>?_;refine fB ?_;clear hL;intro w1 hL;go_wp2_with (first|(refine aQq ?_;clear hL;intro _ w1 hL));refine ar [(0,false),(1,false),(2,false),(3,false),(4,false),(5,false)] [(6,_,311),(7,_,311)] [8,9] (by kernel_rfl) (by kernel_rfl) ⟨⟨_,rfl,rfl,rfl⟩,inferInstance,⟨⟨_,rfl,rfl,rfl⟩,inferInstance,trivial⟩⟩ hL ?_;refine pF ?_;refine fA ?_;refine az fun b=>?_;refine az fun b=>?_;refine fB ?_;clear hL;intro w1 hL;go_wp2_with (first|(refine aQq ?_;clear hL;intro _ w1 hL));refine wf [(0,false),(1,false),(2,false),(3,false),(4,false),(5,true),(6,false),(7,false),(8,false),(9,false),(10,false),(11,false),(12,false),(13,false),(14,false),(15,false),(16,false),(17,false)] [] [18,19,20,21] hL ?_
 repeat(first|((with_reducible show bu _ _ _ (_::_) _ _);refine sU rfl rfl Bg rfl ?_;refine p4 ?_)|refine rS ?_)
 refine aG ?_;refine fB ?_;clear hL;intro w1 hL;go_wp2_with (first|(refine aQq ?_;clear hL;intro _ w1 hL));exact bodyPost_ret (tu rfl hL rfl rfl rfl rfl) rfl ⟨rfl,hL.bel⟩
instance QK:Ent 287:=eo func287
def cY(n k:Nat)(s:L4):L4:=if n/2^(255-k)%2=1 then⟨s.c,s.d,s.a,s.b⟩else s
theorem xX(x:F)(n k:Nat)(hk:k<255):cY n (k+1) (lad x n (k+1))=fq x (if n/2^(254-k)%2=1 then⟨(lad x n k).c,(lad x n k).d,(lad x n k).a,(lad x n k).b⟩else lad x n k):=by
 show cY n (k+1) (if n/2^(254-k)%2=1 then _ else _)=_;unfold cY;rw[show 255-(k+1)=254-k from by omega];by_cases h:n/2^(254-k)%2=1
 ·simp only[if_pos h]
 ·simp only[if_neg h]
theorem rm(n k:Nat)(s:L4)(y:Nat)(hy:y<2):(⟨pk ((n/2^(255-k)%2+y)%2) (cY n k s).a (cY n k s).c,pk ((n/2^(255-k)%2+y)%2) (cY n k s).b (cY n k s).d,pk ((n/2^(255-k)%2+y)%2) (cY n k s).c (cY n k s).a,pk ((n/2^(255-k)%2+y)%2) (cY n k s).d (cY n k s).b⟩:L4) =
 if y=1 then⟨s.c,s.d,s.a,s.b⟩else s:=by
 unfold cY pk;generalize n/2^(255-k)=m;by_cases h:m%2=1
 ·rcases(show y=0∨y=1 by omega)with rfl|rfl
  ·simp[h]
  ·simp[h]
 ·have h0:m%2=0:=by omega
  rcases(show y=0∨y=1 by omega)with rfl|rfl
  ·simp[h0]
  ·simp[h0]
theorem F0(x y:Nat)(hx:x<2)(hy:y<2):bits .xor .u64 (x:Nat) (y:Nat)=((x+y)%2:Nat):=by
 rcases(show x=0∨x=1 by omega)with rfl|rfl <;> rcases(show y=0∨y=1 by omega)with rfl|rfl <;> decide
noncomputable def be(k u:Nat→BitVec 8):Nat:=(BM (cN (bD (leN k)) (fe (leN (di u))))).val
theorem nQ(k u:Nat→BitVec 8):be k u=(cN (bD (leN k)) (fe (leN (di u)))).val:=congrArg Fin.val (r6 _)
theorem iP(n:Nat):bD n<2^255:=by
 unfold bD;have:n%2^254<2^254:=Nat.mod_lt _ (Nat.two_pow_pos _);have h2:(2:Nat)^255=2*2^254:=by decide +kernel
 generalize(2:Nat)^254=E at *
 omega
theorem xY(fk fu:Nat→BitVec 8)(w:World):Rt 253 #[.agg (aa 32 fk),.agg (aa 32 fu)] w (.agg (aa 32 (ab (be fk fu)))):=by
 have hL:=Loc.nil w;haveI g1:Cell (aa 32 fu) 31 (.int .u8 (B8 (fu 31))):=aI _ (by omega);haveI g2:Put (aa 32 fu) 31 (.int .u8 (bits .and .u8 (B8 (fu 31)) 127)) (aa 32 (di fu)):=a9 (by omega) (nG fu);obtain⟨n,hn⟩:∃n,n=bD (leN fk):=⟨_,rfl⟩;obtain⟨x,hx⟩:∃x,x=fe (leN (di fu)):=⟨_,rfl⟩;haveI f0:FnC 270 #[.agg (aa 32 (ab (bD (leN fk))))] (.agg (am n)):=by
  have h:=BY (ab (bD (leN fk)));rw[bL (jT _)]at h;rw[hn];exact⟨h⟩
 haveI f1:FnC 271 #[.agg (am (leN (di fu)))] (.agg (am x.val)):=⟨by rw[hx,wJ];exact kE _ (fh _)⟩;haveI fc:FnC 285 #[.agg (aa 32 fk)] (.agg (aa 32 (ab (bD (leN fk))))):=inferInstance;have HN:=Hd (show n<2^255 from by rw[hn];exact iP _);rw[nQ,← hn,← hx];unfold cN;clear hn hx;generalize hT:lad x n 255=T;have HT0:=Hd hT;clear hT;haveI hlow:FnC 270 #[.agg (aa 32 (di fu))] (.agg (am (leN (di fu)))):=inferInstance;generalize di fu=fv,ab (bD (leN fk))=kb at *
 generalize leN fv=y at *
 have z0:=Hd (show cY n 0 ⟨1,0,x,1⟩=⟨1,0,x,1⟩from by
  unfold cY;rw[if_neg (by rw[Nat.div_eq_of_lt HN.out];decide)])
 have z1:=Hd (show((n/2^(255-0)%2:Nat):Int)=0 from by rw[Nat.div_eq_of_lt HN.out];rfl);go_enter func253,ntmps253;go_wp2_with (first|(refine gBp 2 ?_;clear hL;intro b2 w1 hL)|(refine gBp 3 ?_;clear hL;intro b3 w1 hL)|(refine gBp 4 ?_;clear hL;intro b4 w1 hL)|(refine gBp 5 ?_;clear hL;intro b5 w1 hL)|(refine gBp 6 ?_;clear hL;intro b6 w1 hL)|(refine aQq ?_;clear hL;intro _ w1 hL));refine mX (S:=fun w'=>Loc _ w' _) 12 (hL.drew) ?_;intro hHeld;replace hL:=hL.drew;refine uT 0 (hi:=rfl) (zU (by rfl) rfl vz rfl) ?_;refine uT 1 (hi:=rfl) (zU (by rfl) rfl D7 rfl) ?_;refine uZ 2 ?_;refine uT 3 (hi:=rfl) (zU (by rfl) rfl vz rfl) ?_;refine ko 4 4 [(4,_,311),(5,_,311),(6,_,311),(7,_,311)] rfl _ _ _ [] (by kernel_rfl) (of_decide_eq_true (by kernel_rfl)) ⟨⟨_,rfl,rfl,rfl⟩,inferInstance,⟨⟨_,rfl,rfl,rfl⟩,inferInstance,⟨⟨_,rfl,rfl,rfl⟩,inferInstance,⟨⟨_,rfl,rfl,rfl⟩,inferInstance,trivial⟩⟩⟩⟩ hL fun bs w1 hL1=>?_;simp only[List.foldl_cons,List.foldl_nil,alS,jz,List.getElem?_toArray,List.getElem?_cons_zero,List.getElem?_cons_succ,Option.bind_some,List.map_cons,List.map_nil,List.cons_append,List.nil_append]at hL1 ⊢;generalize bs 4=b7,bs 5=b8,bs 6=b9,bs 7=b10 at *
 clear hL;have hL:=hL1;clear hL1 hHeld bs;have hHeld:=hL.pop.pop.pop.pop;refine p7 ?_;refine rd1 8 ?_;intro K hK
 first|refine eT hL rfl rfl rfl fun w1 hL1=>?_|refine eTs hL rfl rfl rfl fun w1 hL1=>?_|refine eTb hL rfl rfl rfl fun w1 hL1=>?_|refine eTp hL rfl rfl rfl fun w1 hL1=>?_|refine eS hL rfl rfl rfl fun w1 hL1=>?_
 clear hL;have hL:=hL1;clear hL1;refine kO hK (hL.pop.pop.pop.pop) ?_;clear hK K hHeld;intro hHeld;refine rd1 9 ?_;intro K hK
 first|refine eT hL rfl rfl rfl fun w1 hL1=>?_|refine eTs hL rfl rfl rfl fun w1 hL1=>?_|refine eTb hL rfl rfl rfl fun w1 hL1=>?_|refine eTp hL rfl rfl rfl fun w1 hL1=>?_|refine eS hL rfl rfl rfl fun w1 hL1=>?_
 clear hL;have hL:=hL1;clear hL1;refine kO hK (hL.pop.pop.pop.pop) ?_;clear hK K hHeld;intro hHeld;refine rd1 10 ?_;intro K hK
 first|refine eT hL rfl rfl rfl fun w1 hL1=>?_|refine eTs hL rfl rfl rfl fun w1 hL1=>?_|refine eTb hL rfl rfl rfl fun w1 hL1=>?_|refine eTp hL rfl rfl rfl fun w1 hL1=>?_|refine eS hL rfl rfl rfl fun w1 hL1=>?_
 clear hL;have hL:=hL1;clear hL1;refine kO hK (hL.pop.pop.pop.pop) ?_;clear hK K hHeld;intro hHeld;refine rd1 11 ?_;intro K hK
 first|refine eT hL rfl rfl rfl fun w1 hL1=>?_|refine eTs hL rfl rfl rfl fun w1 hL1=>?_|refine eTb hL rfl rfl rfl fun w1 hL1=>?_|refine eTp hL rfl rfl rfl fun w1 hL1=>?_|refine eS hL rfl rfl rfl fun w1 hL1=>?_
 clear hL;have hL:=hL1;clear hL1;refine kO hK (hL.pop.pop.pop.pop) ?_;clear hK K hHeld;intro hHeld;refine wD ?_;clear hHeld;go_wp2_with fail;go_loopw [11,12] (fun sv kk wr=>∃k:Nat,k≤255∧kk= .int .i64 (254-(k:Int))∧sv= .int .u64 ((n/2^(255-k)%2:Nat):Int)∧Loc w wr [(b7,am (cY n k (lad x n k)).a.val,311),(b8,am (cY n k (lad x n k)).b.val,311),(b9,am (cY n k (lad x n k)).c.val,311),(b10,am (cY n k (lad x n k)).d.val,311),(b6,am x.val,311),(b5,am n,311),(b4,aa 32 fun _=>0,24),(b3,aa 32 fv,24),(b2,aa 32 fk,24)]) (fun _ kk _=>(intOf kk+1).toNat);case atStart=>exact⟨0,by omega,rfl,by rw[z1.out],by rw[show lad x n 0=⟨1,0,x,1⟩from rfl,z0.out];exact hL⟩
 case round =>
  clear hL;obtain⟨k,hk,rfl,rfl,hL⟩:=hrel;have hb0:n/2^(255-k)%2<2:=Nat.mod_lt _ (by decide);by_cases hlt:k<255
  ·have k0:(0:Int)≤254-(k:Int):=by omega
   have k1:¬254-(k:Int)<0:=by omega
   have k2:(k:Int)≤254:=by omega
   have hb1:n/2^(254-k)%2<2:=Nat.mod_lt _ (by decide);haveI f2:FnC 283 #[.agg (am n),.int .i64 (254-(k:Int))] (.int .u64 (n/2^(254-k)%2:Nat)):=by
    have h:=nF n (254-k) (by omega);rw[show((254-k:Nat):Int)=254-(k:Int)from by omega]at h;exact⟨h⟩
   have HT:=Hd (rm n k (lad x n k) _ hb1);have HS:=Hd (xX x n k hlt);have hx:=F0 _ _ hb0 hb1;have HY:=Hd (show n/2^(255-(k+1))%2=n/2^(254-k)%2 from by rw[show 255-(k+1)=254-k from by omega]);have hz:(n/2^(255-k)%2+n/2^(254-k)%2)%2<2:=Nat.mod_lt _ (by decide);generalize hS':cY n (k+1) (lad x n (k+1))=S',cY n k (lad x n k)=S,(n/2^(255-k)%2+n/2^(254-k)%2)%2=z at *
   generalize n/2^(254-k)%2=y,n/2^(255-k)%2=y0 at *
   haveI j1:=jY z hz S.a S.c;haveI j2:=jY z hz S.c S.a;haveI j3:=jY z hz S.b S.d;haveI j4:=jY z hz S.d S.b;haveI fs:FnC 287 #[.agg (am x.val),.agg (am (pk z S.a S.c).val),.agg (am (pk z S.b S.d).val),.agg (am (pk z S.c S.a).val),.agg (am (pk z S.d S.b).val)] (.tuple #[.agg (am S'.a.val),.agg (am S'.b.val),.agg (am S'.c.val),.agg (am S'.d.val)]):=⟨by
    rw[HS.out,← HT.out];exact vA _ _ _ _ _⟩
   generalize pk z S.a S.c=q1,pk z S.c S.a=q2,pk z S.b S.d=q3,pk z S.d S.b=q4 at *
   obtain⟨Sa,Sb,Sc,Sd⟩:=S;have HS2:=Hd hS';have HY2:=Hd HY.out;clear HT HS hS' HY z0 z1 hb0 hb1 hz HN;dsimp only at *
   go_wp2_with (first|(refine aQq ?_;clear hL;intro _ w1 hL));refine wf [(0,false),(1,false),(2,true),(3,false),(4,false),(5,false),(6,true),(7,false)] [] [8,9] hL ?_
   repeat(first|((with_reducible show bu _ _ _ (_::_) _ _);refine sC6 rfl rfl rfl rfl rfl ?_;refine p4 ?_)|refine rS ?_)
   refine aG ?_;refine fB ?_;clear hL;intro w1 hL;go_wp2_with fail;refine wf [(0,false),(1,false),(2,true),(3,false),(4,false),(5,false),(6,true),(7,false)] [] [8,9] hL ?_
   repeat(first|((with_reducible show bu _ _ _ (_::_) _ _);refine sC6 rfl rfl rfl rfl rfl ?_;refine p4 ?_)|refine rS ?_)
   refine aG ?_;refine fB ?_;clear hL;intro w1 hL;go_wp2_with (first|(refine gN 61 ?_;refine lC7 hL rfl rfl rfl rfl rfl rfl rfl fun w1 hL1=>?_;clear hL;have hL:=hL1;clear hL1)|(refine aQq ?_;clear hL;intro _ w1 hL));go_roundw;case rel=>exact⟨k+1,by omega,by rw[show 254-(k:Int)-1=254-((k+1:Nat):Int)from by omega],by rw[HY2.out],by rw[HS2.out];exact hL⟩
   case measure=>simp[intOf];omega
  ·obtain rfl:k=255:=by omega
   rw[HT0.out]at hL;have HT:=Hd (rm n 255 T 0 (by decide));generalize cY n 255 T=S at *
   rw[show n/2^(255-255)%2+0=n/2^(255-255)%2 from rfl,Nat.mod_mod]at HT;generalize n/2^(255-255)%2=z at *
   have HA:=HT.out;rw[if_neg (by decide)]at HA;haveI j1:=jY z hb0 S.a S.c;haveI j2:=jY z hb0 S.b S.d;rw[show pk z S.a S.c=T.a from congrArg L4.a HA]at j1;rw[show pk z S.b S.d=T.b from congrArg L4.b HA]at j2;obtain⟨Sa,Sb,Sc,Sd⟩:=S;clear HT HA HT0 z0 z1 hb0 HN;dsimp only at *
   rw[show(254:Int)-((255:Nat):Int)= -1 from by omega];go_wp2_with (first|(refine aQq ?_;clear hL;intro _ w1 hL));refine wf [(0,false),(1,false),(2,true),(3,false),(4,false),(5,false),(6,true),(7,false)] [] [8,9] hL ?_
   repeat(first|((with_reducible show bu _ _ _ (_::_) _ _);refine sC6 rfl rfl rfl rfl rfl ?_;refine p4 ?_)|refine rS ?_)
   refine aG ?_;refine fB ?_;clear hL;intro w1 hL;go_wp2_with fail;refine wf [(0,false),(1,false),(2,false),(3,false),(4,false)] [] [5] hL ?_;refine fA ?_;refine fB ?_;clear hL;intro w1 hL;go_wp2_with (first|(refine aQq ?_;clear hL;intro _ w1 hL));exact bodyPost_ret (ai rfl hL rfl) rfl ⟨rfl,hL.bel⟩
instance QL:Ent 253:=eo func253
instance QM(fk fu:Nat→BitVec 8):FnC 253 #[.agg (aa 32 fk),.agg (aa 32 fu)] (.agg (aa 32 (ab (be fk fu)))):=⟨xY fk fu⟩
def bG:Nat→BitVec 8:=fun i=>if i=0 then 9 else 0
theorem xZ(w:World):(Instr.build 24 #[(0,.int .u8 9)]).run prog w= .ok (.agg (aa 32 bG)) w:=by kernel_rfl
theorem qA(f:Nat→BitVec 8)(w:World):Rt 213 #[.agg (aa 32 f)] w (.agg (aa 32 (ab (be f bG)))):=by
 have hL:=Loc.nil w;go_enter func213,ntmps213;go_wp2_with (first|(refine gBp 1 ?_;clear hL;intro b1 w1 hL)|(refine gBp 2 ?_;clear hL;intro b2 w1 hL)|((with_reducible show wpList _ _ _ (⟨_,.build _ _,_,_,_,_⟩::_) _ _);refine lU hL rfl rfl xZ rfl fun w1 hL1=>?_;clear hL;have hL:=hL1;clear hL1)|(refine aQq ?_;clear hL;intro _ w1 hL));exact bodyPost_ret (ai rfl hL rfl) rfl ⟨rfl,hL.bel⟩
instance QN:Ent 213:=eo func213
instance QO(f:Nat→BitVec 8):FnC 213 #[.agg (aa 32 f)] (.agg (aa 32 (ab (be f bG)))):=⟨qA f⟩
theorem iQ(w:World):(Instr.build 24 #[]).run prog w= .ok (.agg (aa 32 (ab 0))) w:=by kernel_rfl
theorem zB(k u:Nat→BitVec 8):be k u<2^256:=jg _
theorem qB(fk fu:Nat→BitVec 8)(w:World):Rt 212 #[.agg (aa 32 fk),.agg (aa 32 fu)] w (.tuple #[.agg (aa 32 (ab (be fk fu))),.int .i64 (if be fk fu=0 then 21 else 0)]):=by
 have hL:=Loc.nil w;haveI eq1:=iH (be fk fu) 0 (zB fk fu) (by decide);haveI fm:FnC 253 #[.agg (aa 32 fk),.agg (aa 32 fu)] (.agg (aa 32 (ab (be fk fu)))):=inferInstance;generalize be fk fu=z at *
 by_cases hz:z=0
 ·subst hz
  rw[decide_eq_true rfl]at eq1;rw[if_pos rfl];go_enter func212,ntmps212;go_wp2_with (first|(refine gBp 2 ?_;clear hL;intro b2 w1 hL)|(refine gBp 3 ?_;clear hL;intro b3 w1 hL)|(refine gBp 4 ?_;clear hL;intro b4 w1 hL)|(refine gBp 6 ?_;clear hL;intro b6 w1 hL)|((with_reducible show wpList _ _ _ (⟨_,.build _ _,_,_,_,_⟩::_) _ _);refine lU hL rfl rfl iQ rfl fun w1 hL1=>?_;clear hL;have hL:=hL1;clear hL1)|((with_reducible show wpList _ _ _ (⟨some 12,.binOp _ _ _ _ _,_,_,_,_⟩::_) _ _);refine lQ hL rfl rfl rfl rfl fun w1 hL1=>?_;clear hL;have hL:=hL1;clear hL1)|(refine aQq ?_;clear hL;intro _ w1 hL));exact bodyPost_ret (ay rfl hL rfl rfl) rfl ⟨rfl,hL.bel⟩
 ·rw[decide_eq_false hz]at eq1
  rw[if_neg hz];go_enter func212,ntmps212;go_wp2_with (first|(refine gBp 2 ?_;clear hL;intro b2 w1 hL)|(refine gBp 3 ?_;clear hL;intro b3 w1 hL)|(refine gBp 4 ?_;clear hL;intro b4 w1 hL)|(refine gBp 6 ?_;clear hL;intro b6 w1 hL)|((with_reducible show wpList _ _ _ (⟨_,.build _ _,_,_,_,_⟩::_) _ _);refine lU hL rfl rfl iQ rfl fun w1 hL1=>?_;clear hL;have hL:=hL1;clear hL1)|((with_reducible show wpList _ _ _ (⟨some 12,.binOp _ _ _ _ _,_,_,_,_⟩::_) _ _);refine lQ hL rfl rfl rfl rfl fun w1 hL1=>?_;clear hL;have hL:=hL1;clear hL1)|(refine aQq ?_;clear hL;intro _ w1 hL));exact bodyPost_ret (ay rfl hL rfl rfl) rfl ⟨rfl,hL.bel⟩
end
section
open Go Go.RowKit R3
theorem D8(w:World):(Instr.build 311 #[(0,.int .u64 18446744073709551611),(1,.int .u64 18446744073709551615),(2,.int .u64 3),(3,.int .u64 0)]).run prog w= .ok (.agg (am P5)) w:=by kernel_rfl
theorem qC(w:World):Rt 312 #[] w (.agg (am P5)):=by
 have hL:=Loc.nil w;go_enter func312,ntmps312;go_wp2_with (first|(refine gBp 0 ?_;clear hL;intro b0 w1 hL)|((with_reducible show wpList _ _ _ (⟨_,.build _ _,_,_,_,_⟩::_) _ _);refine lU hL rfl rfl D8 rfl fun w1 hL1=>?_;clear hL;have hL:=hL1;clear hL1)|(refine aQq ?_;clear hL;intro _ w1 hL));exact bodyPost_ret (ai rfl hL rfl) rfl ⟨rfl,hL.bel⟩
instance QP:Ent 312:=eo func312
instance QR:FnC 312 #[] (.agg (am P5)):=⟨qC⟩
theorem nR{n:Nat}{a b c d:Int}(h0:a=(lw n 0:Nat))(h1:b=(lw n 1:Nat))(h2:c=(lw n 2:Nat))(h3:d=(lw n 3:Nat)): #[Value.int .u64 a,Value.int .u64 b,Value.int .u64 c,Value.int .u64 d]=am n:=by
 subst h0 h1 h2 h3;rfl
theorem F1{n:Nat}(hn:n<2^256):lw (n/2^130) 0=lw n 2/4+lw n 3%4*4611686018427387904∧lw (n/2^130) 1=lw n 3/4:=by
 unfold lw;rw[show 2^130=2^(64*2)*4 from rfl,← Nat.div_div_eq_div_mul];have h3:n/2^(64*3)=n/2^(64*2)/18446744073709551616:=by rw[Nat.div_div_eq_div_mul]
 have hm:n/2^(64*2)<340282366920938463463374607431768211456:=by
  rw[Nat.div_lt_iff_lt_mul (Nat.two_pow_pos _)];exact Nat.lt_of_lt_of_le hn (by decide +kernel)
 rw[h3,Nat.mul_zero,Nat.pow_zero,Nat.div_one,show 2^(64*1)=18446744073709551616 from rfl];generalize n/2^(64*2)=x at *
 omega
theorem D9(a b:Nat)(ha:a<4611686018427387904):bits .or .u64 (a:Int) (IntKind.u64.wrap ((b:Int)*4611686018427387904))=((a+b%4*4611686018427387904:Nat):Int):=by
 have e:IntKind.u64.wrap ((b:Int)*4611686018427387904)=((b%4*4611686018427387904:Nat):Int):=by rw[IntKind.wrap_u64];omega
 rw[e,pi a _ (by omega) (by omega),Nat.or_comm];have h:=Nat.shiftLeft_add_eq_or_of_lt (i:=62) (b:=a) (by omega) (b%4);rw[Nat.shiftLeft_eq]at h;rw[show(4611686018427387904:Nat)=2^62 from rfl,← h,Nat.add_comm]
theorem Bh(n:Nat):am (n%2^130)= #[.int .u64 (lw n 0:Nat),.int .u64 (lw n 1:Nat),.int .u64 (lw n 2%4:Nat),.int .u64 0]:=by
 symm
 refine nR ?_ ?_ ?_ ?_
 ·congr 1;unfold lw
  rw[show 2^130=2^(64*2)*4 from rfl,Nat.mod_mul];simp only[Nat.mul_zero,Nat.mul_one,Nat.reduceMul,Nat.reducePow];omega
 ·congr 1;unfold lw
  rw[show 2^130=2^(64*2)*4 from rfl,Nat.mod_mul];simp only[Nat.mul_zero,Nat.mul_one,Nat.reduceMul,Nat.reducePow];omega
 ·congr 1;unfold lw
  rw[show 2^130=2^(64*2)*4 from rfl,Nat.mod_mul];simp only[Nat.mul_zero,Nat.mul_one,Nat.reduceMul,Nat.reducePow];omega
 ·show(0:Int)=_
  unfold lw;rw[Nat.div_eq_of_lt (Nat.lt_of_lt_of_le (Nat.mod_lt _ (Nat.two_pow_pos _)) (Nat.pow_le_pow_right (by omega) (by omega)))];rfl
theorem x8{x y:Nat}(hx:x<18446744073709551616)(hy:y<4611686018427387904) :
 lw (5*(x+18446744073709551616*y)) 0=x*5%18446744073709551616∧lw (5*(x+18446744073709551616*y)) 1=(y*5%18446744073709551616+x*5/18446744073709551616)%18446744073709551616 ∧
  lw (5*(x+18446744073709551616*y)) 2=y*5/18446744073709551616+(y*5%18446744073709551616+x*5/18446744073709551616)/18446744073709551616∧lw (5*(x+18446744073709551616*y)) 3=0:=by
 have e1:5*(x+18446744073709551616*y)/18446744073709551616=y*5+x*5/18446744073709551616:=by omega
 unfold lw;rw[show 2^(64*3)=18446744073709551616*(18446744073709551616*18446744073709551616)from rfl,show 2^(64*2)=18446744073709551616*18446744073709551616 from rfl,show 2^(64*1)=18446744073709551616 from rfl,
  ← Nat.div_div_eq_div_mul,← Nat.div_div_eq_div_mul,← Nat.div_div_eq_div_mul,e1]
 have hz:x*5/18446744073709551616≤4:=by omega
 refine⟨?_,?_,?_,?_⟩
 ·rw[Nat.mul_zero,Nat.pow_zero,Nat.div_one]
  omega
 all_goals
  clear e1;generalize x*5/18446744073709551616=z at *
  clear hx;have h1:=Nat.mod_add_div (y*5) 18446744073709551616;have h2:y*5/18446744073709551616≤1:=by omega
  have h3:y*5%18446744073709551616<18446744073709551616:=Nat.mod_lt _ (by omega);generalize y*5%18446744073709551616=r,y*5/18446744073709551616=a at *
  generalize y*5=A at *
  clear hy;subst h1;omega
theorem MP{n:Nat}(hn:n<2^256):n/2^130=lw (n/2^130) 0+18446744073709551616*lw (n/2^130) 1∧lw (n/2^130) 1<4611686018427387904:=by
 have hq:n/2^130<85070591730234615865843651857942052864:=by
  rw[Nat.div_lt_iff_lt_mul (Nat.two_pow_pos _)];exact Nat.lt_of_lt_of_le hn (by decide +kernel)
 unfold lw;rw[Nat.mul_zero,Nat.pow_zero,Nat.div_one,show 2^(64*1)=18446744073709551616 from rfl];generalize n/2^130=q at *
 omega
theorem fD(n:Nat)(hn:n<2^256)(w:World):Rt 311 #[.agg (am n)] w (.agg (am (f5 n))):=by
 have hL:=Loc.nil w;obtain⟨p0,p1⟩:=F1 hn;obtain⟨q0,q1⟩:=MP hn;have hx:=dn (n/2^130) 0;obtain⟨v0,v1,v2,v3⟩:=x8 hx q1;rw[← q0]at v0 v1 v2 v3;have hlow:=Bh n;haveI fa:FnC 301 #[.agg (am (n%2^130)),.agg (am (5*(n/2^130)))] (.tuple #[.agg (am (f5 n)),.int .u64 (cy (n%2^130) (5*(n/2^130)) 4:Nat)]):=⟨iq _ _⟩;generalize f5 n=out,cy (n%2^130) (5*(n/2^130)) 4=cc at *
 have l2:=dn n 2;have l3:=dn n 3;have hor:=D9 (lw n 2/4) (lw n 3) (by omega);rw[← p0]at hor;have ha:=fE (lw (n/2^130) 1*5%18446744073709551616) (lw (n/2^130) 0*5/18446744073709551616) 0 (by omega);rw[Nat.add_zero,← v1]at ha;haveI m1:FnC 144 #[.int .u64 (lw (n/2^130) 0:Nat),.int .u64 5] (.tuple #[.int .u64 ((lw (n/2^130) 0*5/18446744073709551616:Nat):Int),.int .u64 ((lw (n/2^130) 0*5%18446744073709551616:Nat):Int)]):=⟨gP _ 5 hx (by omega)⟩;haveI m2:FnC 144 #[.int .u64 (lw (n/2^130) 1:Nat),.int .u64 5] (.tuple #[.int .u64 ((lw (n/2^130) 1*5/18446744073709551616:Nat):Int),.int .u64 ((lw (n/2^130) 1*5%18446744073709551616:Nat):Int)]):=⟨gP _ 5 (by omega) (by omega)⟩;have hd1:((lw n 3:Int)/4)=((lw (n/2^130) 1:Nat):Int):=by rw[p1];omega
 have hd2:((lw n 2:Int)/4)=((lw n 2/4:Nat):Int):=by omega
 have h3:bits .and .u64 (lw n 2:Nat) 3=((lw n 2%4:Nat):Int):=by
  have:=bits_and_u64_nat (lw n 2) 3 l2 (by omega);rw[show lw n 2&&&3=lw n 2%4 from Nat.and_two_pow_sub_one_eq_mod _ 2]at this;exact this
 have hS:=nR (n:=5*(n/2^130)) (congrArg Nat.cast v0.symm) rfl (congrArg Nat.cast v2.symm) (congrArg Nat.cast v3.symm);rw[← v0]at m1;haveI g0:Cell (am n) 0 (.int .u64 (lw n 0:Nat)):=aI _ (by omega);haveI g1:Cell (am n) 1 (.int .u64 (lw n 1:Nat)):=aI _ (by omega);haveI g2:Cell (am n) 2 (.int .u64 (lw n 2:Nat)):=aI _ (by omega);haveI g3:Cell (am n) 3 (.int .u64 (lw n 3:Nat)):=aI _ (by omega);have z0:lw n 0<18446744073709551616:=dn n 0;have z1:lw n 1<18446744073709551616:=dn n 1;clear p0 p1 q0;generalize am (n%2^130)=R1,am (5*(n/2^130))=R2,lw (5*(n/2^130)) 0=y0,lw (5*(n/2^130)) 1=y1,lw (5*(n/2^130)) 2=y2,lw (5*(n/2^130)) 3=y3,lw (n/2^130) 0=x0,lw (n/2^130) 1=x1,lw n 0=a0,lw n 1=a1,lw n 2=a2,lw n 3=a3 at *
 clear hn;have hwz:IntKind.u64.wrap (((x1*5/18446744073709551616:Nat):Int)+(((x1*5%18446744073709551616+x0*5/18446744073709551616)/18446744073709551616:Nat):Int))=(y2:Int):=by rw[IntKind.wrap_u64];omega
 rw[← v2,← v0]at hS;rw[hlow,← hS,show((a2%4:Nat):Int)=(a2:Int)%4 from by omega,show((0:Nat):Int)=0 from rfl]at fa;rw[show((0:Nat):Int)=0 from rfl]at ha;clear hlow hS;rw[show((a2%4:Nat):Int)=(a2:Int)%4 from by omega]at h3;clear v0 v1 v2;generalize x1*5/18446744073709551616=c2,(x1*5%18446744073709551616+x0*5/18446744073709551616)/18446744073709551616=c3 at *
 generalize x1*5%18446744073709551616=c4,x0*5/18446744073709551616=c5 at *
 rw[← hd2]at hor;clear hd2;have z2:(0:Int)≤(a2:Int):=by omega
 have u2:(a2:Int)<18446744073709551616:=by omega
 have z3:(0:Int)≤(a3:Int):=by omega
 have u3:(a3:Int)<18446744073709551616:=by omega
 go_enter func311,ntmps311;go_wp2_with (first|(refine gBp 1 ?_;clear hL;intro b1 w1 hL)|(refine gBp 2 ?_;clear hL;intro b2 w1 hL)|(refine gBp 3 ?_;clear hL;intro b3 w1 hL)|(refine gBp 9 ?_;clear hL;intro b9 w1 hL)|(refine aQp ?_;clear hL;intro _ w1 hL));exact bodyPost_ret (ai rfl hL rfl) rfl ⟨rfl,hL.bel⟩
instance QS:Ent 311:=eo func311
end
namespace R3
open Go Go.Proofs.YtoifhhljfaoejaaGreatDoor Go.RowKit
theorem rn(a b c d k:Nat)(ha:a<2^k)(hc:c<2^k):(a+b*2^k)&&&(c+d*2^k)=(a&&&c)+(b&&&d)*2^k:=by
 have h1:((a+b*2^k)&&&(c+d*2^k))%2^k=a&&&c:=by
  rw[Nat.and_mod_two_pow,Nat.add_mul_mod_self_right,Nat.add_mul_mod_self_right,Nat.mod_eq_of_lt ha,Nat.mod_eq_of_lt hc]
 have h2:((a+b*2^k)&&&(c+d*2^k))/2^k=b&&&d:=by
  rw[Nat.and_div_two_pow,Nat.add_mul_div_right _ _ (Nat.two_pow_pos _),Nat.add_mul_div_right _ _ (Nat.two_pow_pos _),Nat.div_eq_of_lt ha,Nat.div_eq_of_lt hc,Nat.zero_add,Nat.zero_add]
 rw[← Nat.mod_add_div ((a+b*2^k)&&&(c+d*2^k)) (2^k),h1,h2,Nat.mul_comm]
theorem zD(f g:Nat→BitVec 8):∀k,leK f k&&&leK g k=leK (fun i=>f i&&&g i) k
 | 0=>by show(0:Nat)&&&0=0;rfl
 | k+1=>by
  show(leK f k+(f k).toNat*2^(8*k))&&&(leK g k+(g k).toNat*2^(8*k))=leK (fun i=>f i&&&g i) k+(f k&&&g k).toNat*2^(8*k);rw[rn _ _ _ _ _ (df f k) (df g k),zD f g k,BitVec.toNat_and]
theorem nS(f:Nat→BitVec 8)(a:Nat):∀b,leK f (a+b)=leK f a+leK (fun i=>f (a+i)) b*2^(8*a)
 | 0=>by show leK f a=leK f a+0*_;omega
 | b+1=>by
  show leK f (a+b)+(f (a+b)).toNat*2^(8*(a+b))=leK f a+(leK (fun i=>f (a+i)) b+(f (a+b)).toNat*2^(8*b))*2^(8*a);rw[nS f a b,Nat.mul_add 8,Nat.pow_add];grind
theorem F2(f:Nat→BitVec 8)(a b:Nat):leK f (a+b)%2^(8*a)=leK f a:=by
 rw[nS,Nat.add_mul_mod_self_right,Nat.mod_eq_of_lt (df f a)]
theorem f8{f g:Nat→BitVec 8}:∀k,(∀i,i<k→f i=g i)→leK f k=leK g k
 | 0,_=>rfl
 | k+1,h=>by
  show leK f k+(f k).toNat*2^(8*k)=leK g k+(g k).toNat*2^(8*k);rw[f8 k (fun i hi=>h i (by omega)),h k (by omega)]
def F3(i:Nat):BitVec 8:=if i%4=3 then 15 else if i%4=0∧i≠0 then 252 else 255
theorem It(key:Nat→BitVec 8)(i:Nat):rB key i=key i&&&F3 i:=by
 unfold rB F3;split
 ·rfl
 ·split
  ·rfl
  ·exact(BitVec.and_allOnes (x:=key i)).symm
theorem x9:leK F3 16=1152921487695413247+1152921487695413244*18446744073709551616:=by decide +kernel
theorem vB(key:Nat→BitVec 8):lw (leK (rB key) 16) 0=lw (leN key) 0&&&1152921487695413247∧lw (leK (rB key) 16) 1=lw (leN key) 1&&&1152921487695413244∧leK (rB key) 16<2^124:=by
 have e:leK (rB key) 16=leK key 16&&&leK F3 16:=by
  rw[zD];exact f8 16 fun i _=>It key i
 have hk:leK key 16=leN key%2^128:=(F2 key 16 16).symm;have hlt:leK key 16<2^128:=df key 16;have hs:leK key 16=leN key%18446744073709551616+leN key/18446744073709551616%18446744073709551616*2^64:=by
  rw[hk,show(2:Nat)^128=340282366920938463463374607431768211456 from rfl,show(2:Nat)^64=18446744073709551616 from rfl];generalize leN key=n;omega
 have hv:leK (rB key) 16=(leN key%18446744073709551616&&&1152921487695413247)+(leN key/18446744073709551616%18446744073709551616&&&1152921487695413244)*2^64:=by
  rw[e,x9,hs,show(18446744073709551616:Nat)=2^64 from rfl];exact rn _ _ _ _ 64 (Nat.mod_lt _ (Nat.two_pow_pos _)) (by decide)
 have b0:(leN key%18446744073709551616&&&1152921487695413247)≤1152921487695413247:=Nat.and_le_right;have b1:(leN key/18446744073709551616%18446744073709551616&&&1152921487695413244)≤1152921487695413244:=Nat.and_le_right;rw[hv];unfold lw;rw[show 2^(64*0)=1 from rfl,show 2^(64*1)=18446744073709551616 from rfl,show(2:Nat)^124=21267647932558653966460912964485513216 from rfl,Nat.div_one,Nat.div_one];generalize(leN key%18446744073709551616&&&1152921487695413247)=x at *
 generalize(leN key/18446744073709551616%18446744073709551616&&&1152921487695413244)=y at *
 clear e hk hlt hs hv;omega
def ew(b:Nat→BitVec 8)(n:Nat):Nat→BitVec 8:=fun i=>if i<n then b i else if i=n then 1 else 0
theorem zE:∀k,leK (fun i=>if i=0 then 1 else 0) (k+1)=1
 | 0=>rfl
 | k+1=>by
  show leK (fun i=>if i=0 then(1:BitVec 8)else 0) (k+1)+(if k+1=0 then(1:BitVec 8)else 0).toNat*_=1;rw[zE k,if_neg (by omega)];simp
theorem pN(b:Nat→BitVec 8)(n:Nat)(hn:n≤16):leN (ew b n)=leK b n+2^(8*n)∧leN (ew b n)<2^129:=by
 have e:leN (ew b n)=leK b n+2^(8*n):=by
  unfold leN;rw[show 32=n+(31-n+1)from by omega,nS,f8 (f:=ew b n) (g:=b) n (fun i hi=>if_pos hi),f8 (f:=fun i=>ew b n (n+i)) (g:=fun i=>if i=0 then 1 else 0) (31-n+1) (fun i _=>?_),zE,Nat.one_mul];unfold ew;rw[if_neg (by omega)];by_cases c:i=0
  ·subst c;rw[Nat.add_zero,if_pos rfl,if_pos rfl]
  ·rw[if_neg (by omega),if_neg c]
 refine⟨e,?_⟩;rw[e];have h1:=df b n;have h2:2^(8*n)≤2^128:=Nat.pow_le_pow_right (by omega) (by omega);omega
theorem pP{x:Nat}(h:x<2^256):f5 x<2^131:=by
 unfold f5;have h1:x/2^130<2^126:=by
  rw[Nat.div_lt_iff_lt_mul (Nat.two_pow_pos _),← Nat.pow_add];exact h
 have h2:=Nat.mod_lt x (Nat.two_pow_pos 130);omega
structure PSt where
 h:Nat
 b:Nat→BitVec 8
 n:Nat
def jK(R:Nat)(s:PSt):PSt:=⟨f5 ((s.h+leN (ew s.b s.n))*R),s.b,0⟩
def jL(R:Nat)(s:PSt)(x:BitVec 8):PSt:=if s.n<15 then⟨s.h,upd s.b s.n x,s.n+1⟩else jK R ⟨s.h,upd s.b s.n x,16⟩
def bV(R:Nat)(s:PSt)(m:List (BitVec 8)):PSt:=m.foldl (jL R) s
theorem ks(R:Nat)(s:PSt)(a b:List (BitVec 8)):bV R s (a++b)=bV R (bV R s a) b:=List.foldl_append
theorem nh(R:Nat)(s:PSt)(a:List (BitVec 8))(x:BitVec 8):bV R s (a++[x])=jL R (bV R s a) x:=by rw[ks];rfl
structure PSt.Ok(s:PSt):Prop where
 h:s.h<2^131
 n:s.n<16
theorem zG{h a R:Nat}(hh:h<2^131)(ha:a<2^129)(hR:R<2^124):(h+a)*R<2^256:=by
 have h1:h+a<2^132:=by omega
 calc(h+a)*R≤2^132*R:=Nat.mul_le_mul_right _ (Nat.le_of_lt h1)
  _<2^132*2^124:=Nat.mul_lt_mul_of_pos_left hR (Nat.two_pow_pos _)
  _=2^256:=(Nat.pow_add 2 132 124).symm
theorem zH{R:Nat}(hR:R<2^124){s:PSt}(hh:s.h<2^131)(hn:s.n≤16):(jK R s).h<2^131:=pP (zG hh (pN s.b s.n hn).2 hR)
theorem Ea{R:Nat}(hR:R<2^124){s:PSt}(hs:s.Ok)(x:BitVec 8):(jL R s x).Ok:=by
 have:=hs.n;unfold jL;split
 ·exact⟨hs.h,by show s.n+1<16;omega⟩
 ·exact⟨zH hR hs.h (Nat.le_refl 16),by show 0<16;omega⟩
theorem ij{R:Nat}(hR:R<2^124):∀(m:List (BitVec 8)) {s:PSt},s.Ok→(bV R s m).Ok
 | [],s,h=>h
 | x::m,s,h=>ij hR m (Ea hR h x)
theorem ro(R:Nat)(s:PSt){p k N:Nat}{f:Nat→BitVec 8}(hn:s.n=min 16 (N-16*k))(hb:∀i,i<s.n→s.b i=f (16*k+i))(hp:s.h%P5=pS R f N k):(jK R s).h%P5=pS R f N (k+1):=by
 show f5 ((s.h+leN (ew s.b s.n))*R)%P5=(pS R f N k+vw f N k)*R%P5;have e:leN (ew s.b s.n)=vw f N k:=by
  rw[(pN s.b s.n (by omega)).1,f8 s.n hb,hn];rfl
 rw[iO,e,← hp,Nat.mul_mod (s.h%P5+vw f N k),Nat.mod_add_mod,← Nat.mul_mod]
theorem rp{R:Nat}(hR:R<2^124)(m:List (BitVec 8)):∀j,j≤m.length→(bV R ⟨0,fun _=>0,0⟩ (m.take j)).n=j%16 ∧
 (bV R ⟨0,fun _=>0,0⟩ (m.take j)).h%P5=pS R (fun i=>m.getD i 0) m.length (j/16)∧∀i,i<j%16→(bV R ⟨0,fun _=>0,0⟩ (m.take j)).b i=m.getD (16*(j/16)+i) 0
 | 0,_=>⟨rfl,rfl,fun i hi=>absurd hi (by omega)⟩
 | j+1,hj=>by
  obtain⟨h1,h2,h3⟩:=rp hR m j (by omega);have hx:m[j]=m.getD j 0:=by rw[List.getD_eq_getElem?_getD,List.getElem?_eq_getElem (by omega),Option.getD_some]
  rw[List.take_succ_eq_append_getElem (by omega),nh,hx];generalize bV R ⟨0,fun _=>0,0⟩ (m.take j)=s at *
  have hb:∀i,i<j%16+1→upd s.b (j%16) (m.getD j 0) i=m.getD (16*(j/16)+i) 0:=fun i hi=>by
   unfold upd;by_cases c:i=j%16
   ·rw[if_pos c,c];congr 1;omega
   ·rw[if_neg c,h3 i (by omega)]
  unfold jL;rw[h1];by_cases c:j%16<15
  ·rw[if_pos c]
   have e1:(j+1)%16=j%16+1:=by omega
   have e2:(j+1)/16=j/16:=by omega
   rw[e1,e2];exact⟨rfl,h2,hb⟩
  ·rw[if_neg c]
   have e1:(j+1)%16=0:=by omega
   have e2:(j+1)/16=j/16+1:=by omega
   rw[e1,e2];refine⟨rfl,?_,fun i hi=>absurd hi (by omega)⟩;refine ro R _ (p:=0) (by show 16=_;omega) (fun i hi=>?_) h2;exact hb i (by have:i<16:=hi;omega)
def Eb(R:Nat)(s:PSt):Nat:=if 0<s.n then(jK R s).h else s.h
theorem Ec{R:Nat}(hR:R<2^124)(m:List (BitVec 8)):Eb R (bV R ⟨0,fun _=>0,0⟩ m)%P5=pS R (fun i=>m.getD i 0) m.length ((m.length+15)/16)∧Eb R (bV R ⟨0,fun _=>0,0⟩ m)<2^131:=by
 obtain⟨h1,h2,h3⟩:=rp hR m m.length (Nat.le_refl _);rw[List.take_of_length_le (Nat.le_refl _)]at h1 h2 h3;have hok:=ij hR m (s:=⟨0,fun _=>0,0⟩) ⟨by decide,by decide⟩;generalize bV R ⟨0,fun _=>0,0⟩ m=s at *
 unfold Eb;by_cases c:0<s.n
 ·rw[if_pos c]
  rw[← h1]at h3;refine⟨?_,zH hR hok.h (Nat.le_of_lt hok.n)⟩;rw[ro R s (p:=0) (k:=m.length/16) (by omega) h3 h2];congr 1;omega
 ·rw[if_neg c]
  refine⟨?_,hok.h⟩;rw[h2];congr 1;omega
theorem Ed{x:Nat}(h:x<2^131):f5 (f5 (f5 x))<2^130∧(if f5 (f5 (f5 x))<P5 then f5 (f5 (f5 x))else f5 (f5 (f5 x))-P5)=x%P5:=by
 have e1:f5 x<2^130+5:=by
  unfold f5;have:=Nat.mod_lt x (Nat.two_pow_pos 130);have:x/2^130≤1:=by omega
  omega
 have e2:f5 (f5 x)<2^130:=by
  generalize f5 x=y at *
  unfold f5;by_cases c:y<2^130
  ·rw[Nat.mod_eq_of_lt c,Nat.div_eq_of_lt c];omega
  ·omega
 have e3:f5 (f5 (f5 x))=f5 (f5 x):=by
  generalize f5 (f5 x)=y at *
  unfold f5;rw[Nat.mod_eq_of_lt e2,Nat.div_eq_of_lt e2];omega
 have hm:f5 (f5 x)%P5=x%P5:=by rw[iO,iO]
 rw[e3,← hm];have:=zv;generalize f5 (f5 x)=y at *
 refine⟨e2,?_⟩;have hP:P5=1361129467683753853853498429727072845819:=rfl;by_cases c:y<P5
 ·rw[if_pos c,Nat.mod_eq_of_lt c]
 ·rw[if_neg c,Nat.mod_eq_sub_mod (by omega),Nat.mod_eq_of_lt (by omega)]
end R3
section
open Go Go.RowKit Go.Shelf R3
theorem nx(key:Nat→BitVec 8)(w:World):Rt 308 #[.agg (aa 32 key)] w (.agg (am (leK (rB key) 16))):=by
 have hL:=Loc.nil w;obtain⟨c0,c1,c2⟩:=vB key;have a0:=bits_and_u64_nat (lw (leN key) 0) 1152921487695413247 (dn _ _) (by omega);have a1:=bits_and_u64_nat (lw (leN key) 1) 1152921487695413244 (dn _ _) (by omega);rw[← c0,show((1152921487695413247:Nat):Int)=1152921487695413247 from rfl]at a0;rw[← c1,show((1152921487695413244:Nat):Int)=1152921487695413244 from rfl]at a1;have hR:=nR (n:=leK (rB key) 16) rfl rfl (show(0:Int)=(lw (leK (rB key) 16) 2:Nat)from by
  rw[mC (Nat.lt_of_lt_of_le c2 (Nat.pow_le_pow_right (by omega) (by omega)))];rfl) (show(0:Int)=(lw (leK (rB key) 16) 3:Nat)from by
  rw[mC (Nat.lt_of_lt_of_le c2 (Nat.pow_le_pow_right (by omega) (by omega)))];rfl)
 rw[← hR];haveI g0:Cell (am (leN key)) 0 (.int .u64 (lw (leN key) 0:Nat)):=aI _ (by omega);haveI g1:Cell (am (leN key)) 1 (.int .u64 (lw (leN key) 1:Nat)):=aI _ (by omega);haveI f0:FnC 270 #[.agg (aa 32 key)] (.agg (am (leN key))):=inferInstance;have l0:=dn (leN key) 0;have l1:=dn (leN key) 1;clear c0 c1 c2 hR;generalize lw (leK (rB key) 16) 0=y0,lw (leK (rB key) 16) 1=y1,lw (leN key) 0=x0,lw (leN key) 1=x1 at *
 go_enter func308,ntmps308;go_wp2_with (first|(refine gBp 2 ?_;clear hL;intro b2 w1 hL)|(refine aQq ?_;clear hL;intro _ w1 hL));exact bodyPost_ret (ai rfl hL rfl) rfl ⟨rfl,hL.bel⟩
instance QT:Ent 308:=eo func308
instance QU(key:Nat→BitVec 8):FnC 308 #[.agg (aa 32 key)] (.agg (am (leK (rB key) 16))):=⟨nx key⟩
def poF(h r:Nat)(b:Nat→BitVec 8)(n:Nat)(i:Nat):Value:=if i<4 then lv h i else if i<8 then lv r (i-4)else if i<24 then .int .u8 (B8 (b (i-8)))else .int .i64 n
def poR(h r:Nat)(b:Nat→BitVec 8)(n:Nat):Array Value:=row 25 (poF h r b n)
section
variable {h r:Nat} {b:Nat→BitVec 8} {n:Nat}
theorem jZ{i:Nat}(hi:i<25):(poR h r b n)[i]?=some (poF h r b n i):=bI _ hi
theorem pQ:(poR h r b n).size=25:=aQ _ _
theorem lP{m i:Nat}(hi:i<4):(am m)[i]?=some (lv m i):=bI _ hi
instance poH:Part (poR h r b n) 359 0 311 (am h):=⟨fun j v hv=>by
 rw[Array.getElem?_toList]at hv;have hj:j<4:=by have:=(Array.getElem?_eq_some_iff.1 hv).1;simpa[am,aQ] using this
 rw[lP hj]at hv;rw[jZ (by omega),← hv];unfold poF;rw[if_pos (by omega),Nat.zero_add]⟩
instance Sl:Part (poR h r b n) 359 4 311 (am r):=⟨fun j v hv=>by
 rw[Array.getElem?_toList]at hv;have hj:j<4:=by have:=(Array.getElem?_eq_some_iff.1 hv).1;simpa[am,aQ] using this
 rw[lP hj]at hv;rw[jZ (by omega),← hv];unfold poF;rw[if_neg (by omega),if_pos (by omega),show 4+j-4=j from by omega]⟩
instance Sm(m:Nat):Splice (poR h r b n) 0 (am m) (poR m r b n) where
 fit:=by rw[pQ];simp[am,aQ]
 out:=fun j=>by
  rw[show(am m).size=4 from aQ _ _];by_cases hj:j<25
  ·rw[jZ hj,jZ hj]
   unfold poF;by_cases h4:j<4
   ·rw[if_pos h4,if_pos ⟨by omega,by omega⟩,Nat.sub_zero,lP h4]
   ·rw[if_neg h4,if_neg (show ¬(0≤j∧j<0+4) by omega),if_neg h4]
  ·rw[if_neg (by omega),Array.getElem?_eq_none (by rw[pQ];omega),Array.getElem?_eq_none (by rw[pQ];omega)]
instance poN:Cell (poR h r b n) 24 (.int .i64 n):=⟨by rw[jZ (by omega)];rfl⟩
instance Iu(m:Nat):Put (poR h r b n) 24 (.int .i64 m) (poR h r b m):=a9 (by omega) (ak fun i hi=>by
 unfold upd poF;by_cases c:i=24
 ·subst c;rfl
 ·rw[if_neg c]
  by_cases h24:i<24
  ·simp only[if_pos h24]
  ·omega)
instance So:Put (poR h r b n) 24 (.int .i64 0) (poR h r b 0):=Iu 0
theorem poB{i:Nat}(hi:i<16)(x:BitVec 8):Put (poR h r b n) (8+i) (.int .u8 (B8 x)) (poR h r (upd b i x) n):=a9 (by omega) (ak fun j hj=>by
 unfold upd poF;dsimp only;by_cases c:j=8+i
 ·subst c
  rw[if_pos rfl,if_neg (by omega),if_neg (by omega),if_pos (by omega),if_pos (by omega)]
 ·rw[if_neg c]
  by_cases h4:j<4
  ·simp only[if_pos h4]
  ·by_cases h8:j<8
   ·simp only[if_neg h4,if_pos h8]
   ·by_cases h24:j<24
    ·simp only[if_neg h4,if_neg h8,if_pos h24]
     rw[if_neg (by omega)]
    ·simp only[if_neg h4,if_neg h8,if_neg h24])
theorem Ks{k:Nat}(hk:k≤16):Seg (poR h r b n) 8 k (an (ae k b)) where
 len:=by rw[aq,ag]
 one:=bY _
 seg:=fun i hi=>by
  rw[aq,ag]at hi;rw[show(an (ae k b))[i]=Value.int .u8 (B8 (b i))from by simp[an,ae],jZ (by omega)];unfold poF;rw[if_neg (by omega),if_neg (by omega),if_pos (by omega),show 8+i-8=i from by omega]
end
class PoM(F:Array Value→Mem)(sb:Nat):Prop where
 a:∀x,At (F x) sb x 359
 u:∀x x',Ups (F x) sb x' (F x')
instance poM(F:Array Value→Mem)(sb:Nat)[h1:∀x,At (F x) sb x 359][h2:∀x x',Ups (F x) sb x' (F x')]:PoM F sb:=⟨h1,h2⟩
theorem Ee(a:Option Addr)(c:Nat)(w:World):(Instr.arrayAt 311 (.slice a 4 c)).run prog w= .ok (.pointer a) w:=Go.run_arrayAt (P:=prog) (w:=w) 311 227 4 a 4 c underlying311 (by decide)
theorem Ef(x:Nat):Part (k8 x) 261 0 311 (am x):=⟨fun j v hv=>by
 rw[Array.getElem?_toList]at hv;have hj:j<4:=by have:=(Array.getElem?_eq_some_iff.1 hv).1;simpa[am,aQ] using this
 rw[lP hj]at hv;rw[← hv,Nat.zero_add];exact bI _ (by omega)⟩
section
variable {w0 w:World} {F:Array Value→Mem} {sb:Nat} [hF:PoM F sb] {R:Nat}
theorem lX(hR:R<2^124)(s:PSt)(hh:s.h<2^131)(hn0:0<s.n)(hn:s.n≤16)(hL:Loc w0 w (F (poR s.h R s.b s.n))) :
 Calls prog 310 #[.pointer (some ⟨sb,0,none⟩)] w fun e w'=>e= .returned (.tuple #[])∧Loc w0 w' (F (poR (jK R s).h R s.b 0)):=by
 have hA:=hF.a;have hU:=hF.u;obtain⟨h,b,n⟩:=s;dsimp only at *
 have n0:(0:Int)≤n:=by omega
 have n1:(n:Int)≤16:=by omega
 have n2:(n:Int)<32:=by omega
 have n3:(0:Int)<n:=by omega
 obtain⟨e1,e2⟩:=pN b n hn;have hp:=zG hh e2 hR;have hs:h+leN (ew b n)<2^256:=Nat.lt_trans (Nat.add_lt_add hh e2) (by decide +kernel);have HT:=Hd (show(jK R ⟨h,b,n⟩).h=f5 ((h+leN (ew b n))*R)from rfl);rw[HT.out];have hlen:(an (ae n b)).length=n:=by rw[aq,ag]
 haveI sg:=Ks (h:=h) (r:=R) (b:=b) (n:=n) (k:=n) hn;haveI sp:Spl (aa 32 fun _=>0) 0 (an (ae n b)) (aa 32 fun i=>if i<n then b i else 0):=mH _ _ _ (by omega) fun i hi=>by
  by_cases c:i<n
  ·rw[if_pos ⟨by omega,by omega⟩,if_pos c];rfl
  ·rw[if_neg (by omega),if_neg c]
 haveI pt:Put (aa 32 fun i=>if i<n then b i else 0) n (.int .u8 1) (aa 32 (ew b n)):=a9 (by omega) (ak fun i hi=>by
  unfold upd ew;by_cases c:i=n
  ·subst c;rw[if_pos rfl,if_neg (by omega),if_pos rfl];rfl
  ·rw[if_neg c,if_neg c])
 haveI f1:FnC 270 #[.agg (aa 32 (ew b n))] (.agg (am (leN (ew b n)))):=inferInstance;haveI f2:FnC 301 #[.agg (am h),.agg (am (leN (ew b n)))] (.tuple #[.agg (am (h+leN (ew b n))),.int .u64 (cy h (leN (ew b n)) 4:Nat)]):=⟨iq _ _⟩;haveI f3:FnC 298 #[.agg (am (h+leN (ew b n))),.agg (am R)] (.agg (k8 ((h+leN (ew b n))*R))):=⟨nE _ _ hs (Nat.lt_trans hR (by decide +kernel))⟩;haveI f4:FnC 311 #[.agg (am ((h+leN (ew b n))*R))] (.agg (am (f5 ((h+leN (ew b n))*R)))):=⟨fD _ hp⟩;haveI pl:=Ef ((h+leN (ew b n))*R);have harr:=Ee;clear HT e1 e2 hp hs hh hR;generalize f5 ((h+leN (ew b n))*R)=T at *
 generalize(h+leN (ew b n))*R=X at *
 generalize h+leN (ew b n)=S,cy h (leN (ew b n)) 4=C at *
 generalize leN (ew b n)=B at *
 generalize ew b n=B2,an (ae n b)=B3 at *
 go_enter func310,ntmps310;go_wp2_with (first|refine aU ?_|(refine gBp 2 ?_;clear hL;intro b2 w1 hL)|(refine ah ?_;clear hL;intro w1 hL));refine mX (S:=fun w'=>Loc _ w' _) 10 (Loc.rem b2 (hL.drew)) ?_;intro hHeld;replace hL:=hL.drew;refine uG 0 ?_;refine uG 1 ?_;refine uG 4 ?_;refine uG 2 ?_;refine uG 5 ?_;refine uG 3 ?_;refine uG 6 ?_;refine uZ 7 ?_;refine uG 8 ?_;refine rd1 9 ?_;intro K hK;refine eCp ?_;clear hL;intro w1 hL;refine kO hK (Loc.rem b2 (hL)) ?_;clear hK K hHeld;intro hHeld;refine wD ?_;clear hHeld;go_wp2_with (first|refine aU ?_|(refine ah ?_;clear hL;intro w1 hL));refine ar [(0,true),(1,true),(2,true),(3,false),(4,false),(5,false),(6,false),(7,true),(8,true),(9,true)] [(10,_,311)] [11,12] (by kernel_rfl) (by kernel_rfl) ⟨⟨_,rfl,rfl,rfl⟩,inferInstance,trivial⟩ hL ?_;refine pF ?_;refine fA ?_;refine az fun b=>?_;refine fB ?_;clear hL;intro w1 hL;go_wp2_with (first|refine aU ?_|(refine ah ?_;clear hL;intro w1 hL));refine ar [(0,false),(1,true),(2,true),(3,true),(4,false),(5,false)] [(6,_,261)] [7] (by kernel_rfl) (by kernel_rfl) ⟨⟨_,rfl,rfl,rfl⟩,inferInstance,trivial⟩ hL ?_;refine pF ?_;refine fA ?_;refine az fun b=>?_;refine fB ?_;clear hL;intro w1 hL;go_wp2_with (first|refine aU ?_|(refine ah ?_;clear hL;intro w1 hL)|((with_reducible show wpList _ _ _ (⟨_,.call _,_,_,_,_⟩::_) _ _);(first|refine lC2 hL rfl rfl rfl rfl ?_|refine lC1 hL rfl rfl rfl ?_|refine lC3 hL rfl rfl rfl rfl ?_|refine lC4 hL rfl rfl rfl rfl ?_|refine lC0 hL rfl rfl ?_|refine lC5 hL rfl rfl rfl ?_);clear hL;intro w1 hL;refine p4 ?_));go_end0;exact⟨rfl,hL.pop.pop.pop⟩
end
instance QV:Ent 310:=eo func310
section
variable {w0 w:World} {F:Array Value→Mem} {sb:Nat} [hF:PoM F sb] {R:Nat}
theorem tv(hR:R<2^124)(s:PSt)(hs:s.Ok)(x:BitVec 8)(hL:Loc w0 w (F (poR s.h R s.b s.n))) :
 Calls prog 309 #[.pointer (some ⟨sb,0,none⟩),.int .u8 (B8 x)] w fun e w'=>e= .returned (.tuple #[])∧Loc w0 w' (F (poR (jL R s x).h R (jL R s x).b (jL R s x).n)):=by
 have hA:=hF.a;have hU:=hF.u;obtain⟨h,b,n⟩:=s;obtain⟨hh,hn⟩:=hs;dsimp only at *
 have n0:(0:Int)≤n:=by omega
 have n1:(n:Int)<16:=by omega
 haveI p1:Put (poR h R b n) (8+n) (.int .u8 (B8 x)) (poR h R (upd b n x) n):=poB hn x;have HT:=Hd (fun w1 (h1:Loc w0 w1 (F (poR h R (upd b n x) 16)))=>lX (F:=F) (sb:=sb) (w:=w1) hR ⟨h,upd b n x,16⟩ hh (show 0<16 by decide) (show 16≤16 by decide) h1);by_cases c:n<15
 ·have e:jL R ⟨h,b,n⟩ x=⟨h,upd b n x,n+1⟩:=if_pos c
  rw[e];have he:¬(n:Int)+1=16:=by omega
  haveI p2:Put (poR h R (upd b n x) n) 24 (.int .i64 ((n:Int)+1)) (poR h R (upd b n x) (n+1)):=by
   have:=Iu (h:=h) (r:=R) (b:=upd b n x) (n:=n) (n+1);rwa[show((n+1:Nat):Int)=(n:Int)+1 from by omega]at this
  clear e c hh hR HT;generalize upd b n x=b',B8 x=y at *
  go_enter func309,ntmps309;go_wp2_with (first|refine aU ?_|(refine ah ?_;clear hL;intro w1 hL));refine wf [(0,true),(1,true),(2,true),(3,true),(4,false),(5,true),(6,true),(7,true),(8,true)] [] [9] hL ?_;refine fA ?_;refine fB ?_;clear hL;intro w1 hL;go_wp2_with (first|refine aU ?_|(refine ah ?_;clear hL;intro w1 hL));go_end0;exact⟨rfl,hL⟩
 ·have e:jL R ⟨h,b,n⟩ x=jK R ⟨h,upd b n x,16⟩:=if_neg c
  rw[e,show(jK R ⟨h,upd b n x,16⟩).b=upd b n x from rfl,show(jK R ⟨h,upd b n x,16⟩).n=0 from rfl];have he:(n:Int)+1=16:=by omega
  haveI p2:Put (poR h R (upd b n x) n) 24 (.int .i64 16) (poR h R (upd b n x) 16):=Iu (h:=h) (r:=R) (b:=upd b n x) (n:=n) 16;clear e c hh hR;generalize(jK R ⟨h,upd b n x,16⟩).h=H at *
  generalize upd b n x=b',B8 x=y at *
  go_enter func309,ntmps309;go_wp2_with (first|refine aU ?_|(refine ah ?_;clear hL;intro w1 hL));refine wf [(0,true),(1,true),(2,true),(3,true),(4,false),(5,true),(6,true),(7,true),(8,true)] [] [9] hL ?_;refine fA ?_;refine fB ?_;clear hL;intro w1 hL;go_wp2_with (first|refine aU ?_|(refine gN 26 ?_;refine lO (HT.out _ hL) ?_;clear hL;intro w1 hL)|(refine ah ?_;clear hL;intro w1 hL));go_end0;exact⟨rfl,hL⟩
end
instance QW:Ent 309:=eo func309
end
end Go.Proofs.YtoifhhljfaoejaaGreatDoor
