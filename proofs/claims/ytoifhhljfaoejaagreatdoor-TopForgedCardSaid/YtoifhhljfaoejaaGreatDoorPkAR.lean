/-
  Lemmas of the law, part 18: the walks of the functions that it calls and the plain facts about them. No condition beyond those written.
-/
import Derived.Test.YtoifhhljfaoejaaGreatDoorPkAA
import Derived.Test.YtoifhhljfaoejaaGreatDoorPkAQ
import Derived.Test.YtoifhhljfaoejaaGreatDoorPkAJ
set_option maxRecDepth 100000
set_option maxHeartbeats 8000000
set_option linter.unusedVariables false
set_option linter.unusedSimpArgs false
set_option linter.unusedSectionVars false
namespace Go.Proofs.YtoifhhljfaoejaaGreatDoor
open Go.Proofs.Tryz
section
open Go Go.RowKit Go.Shelf
noncomputable def Man.good(m:Man)(k:Nat→BitVec 8):Bool:=fZ k m.id m.key m.cs&&kU m.key m.sg m.body
theorem nc(m:Man)(hm:m.Ok)(k:Nat→BitVec 8)(p:Option Addr)(c:Nat)(w:World)(hv:BRow w (.slice p 80 c) m.wr) :
 Rt 157 #[.agg (aa 32 k),.agg (m.row p 80 c)] w (.int .i64 (if m.good k then 0 else 11)):=by
 have hL:=Loc.nil w;have HB:=Hd (fun w1 (hb1:Below w.heap.size w w1)=>xV m hm p c w1 (hv.below hb1));have hbl:=Man.body_length hm;have HC:=Hd (fun w1=>qz k m.id m.key m.cs w1 hm.i0 hm.i1);have hs:=(fun w1 (v:Value) (hv:BRows w1 v [m.body])=>o0 m.key m.sg v [m.body] w1 hv (by simp) (by simp) (by simp;omega));rw[show[m.body].flatten=m.body from by simp]at hs;have HS:=Hd hs;have HSO:=Hd (show dD (leN m.key) (leN m.sg) (leN fun i=>m.sg (32+i)) m.body=kU m.key m.sg m.body from rfl);rw[HSO.out]at HS;have HG:=Hd (show m.good k=(fZ k m.id m.key m.cs&&kU m.key m.sg m.body)from rfl);rw[HG.out];clear hs HSO HG hv hbl hm;generalize fZ k m.id m.key m.cs=C,kU m.key m.sg m.body=S at *
 have HROW:=Hd (show m.row p 80 c=mfR m.ver m.blk m.root p 80 c m.id m.key m.cs m.sg from rfl);rw[HROW.out]at HB ⊢;clear HROW;obtain⟨b,hb⟩:∃b,b=m.body:=⟨_,rfl⟩;rw[← hb]at HB HS;clear hb;obtain⟨ver,blk,root,wr,id,key,cs,sg⟩:=m;dsimp only at *
 cases C
 ·rw[show(if(false&&S)=true then(0:Int)else 11)=11 from by simp]
  go_enter func157,ntmps157;go_wp2_with (first|refine aU ?_|((refine gN 21 ?_;go_wp2_with fail))|(refine gBp 2 ?_;clear hL;intro b2 w1 hL)|(refine gBp 3 ?_;clear hL;intro b3 w1 hL)|(refine gN 9 ?_;refine lKk (HB.out _ hL.bel) ?_;rintro e w1⟨g9,cap9,cur9,rfl,hr9,hN⟩;have hL1:=hL.join hN;clear hN hL;revert hL1;refine aH ?_;intro hL)|(go_at_call 209;go_loud (refine(HC.out _).mono ?_);rintro e w1⟨rfl,hb1⟩;have hL1:=hL.keep hb1;clear hb1;clear hL;have hL:=hL1;clear hL1;refine p4 ?_)|(refine ah ?_;clear hL;intro w1 hL));go_ret;exact⟨rfl,hL.bel⟩
 ·cases S
  ·rw[show(if(true&&false)=true then(0:Int)else 11)=11 from by simp]
   go_enter func157,ntmps157;go_wp2_with (first|refine aU ?_|((refine gN 21 ?_;go_wp2_with (first|((with_reducible show wpList _ _ _ (⟨_,_,_,_,_,some _⟩::_) _ _);refine dk rfl rfl rfl ?_)|((with_reducible show wpList _ _ _ (⟨_,.load _ _,_,_,_,_⟩::_) _ _);(refine lL hL rfl rfl rfl ?_);clear hL;intro w1 hL;refine p4 ?_)|((with_reducible show wpList _ _ _ (⟨some 29,.buildSlice _ _ _,_,_,_,_⟩::_) _ _);refine yO hL rfl rfl rfl fun b29 w1 hL1=>?_;clear hL;have hL:=hL1;clear hL1;refine p4 ?_)|(go_at_call 210;go_loud (refine(HS.out _ _ (jU (hL.get (.head _)) (See.bytes hL (v:= .slice (some ⟨g9,0,none⟩) 236 cap9)))).mono ?_);rintro e w1⟨rfl,hb1⟩;have hL1:=hL.keep hb1;clear hb1;clear hL;have hL:=hL1;clear hL1;refine p4 ?_))))|(refine gBp 2 ?_;clear hL;intro b2 w1 hL)|(refine gBp 3 ?_;clear hL;intro b3 w1 hL)|(refine gN 9 ?_;refine lKk (HB.out _ hL.bel) ?_;rintro e w1⟨g9,cap9,cur9,rfl,hr9,hN⟩;have hL1:=hL.join hN;clear hN hL;revert hL1;refine aH ?_;intro hL)|(go_at_call 209;go_loud (refine(HC.out _).mono ?_);rintro e w1⟨rfl,hb1⟩;have hL1:=hL.keep hb1;clear hb1;clear hL;have hL:=hL1;clear hL1;refine p4 ?_)|(refine ah ?_;clear hL;intro w1 hL));go_ret;exact⟨rfl,hL.bel⟩
  ·rw[show(if(true&&true)=true then(0:Int)else 11)=0 from by simp]
   go_enter func157,ntmps157;go_wp2_with (first|refine aU ?_|((refine gN 21 ?_;go_wp2_with (first|((with_reducible show wpList _ _ _ (⟨_,_,_,_,_,some _⟩::_) _ _);refine dk rfl rfl rfl ?_)|((with_reducible show wpList _ _ _ (⟨_,.load _ _,_,_,_,_⟩::_) _ _);(refine lL hL rfl rfl rfl ?_);clear hL;intro w1 hL;refine p4 ?_)|((with_reducible show wpList _ _ _ (⟨some 29,.buildSlice _ _ _,_,_,_,_⟩::_) _ _);refine yO hL rfl rfl rfl fun b29 w1 hL1=>?_;clear hL;have hL:=hL1;clear hL1;refine p4 ?_)|(go_at_call 210;go_loud (refine(HS.out _ _ (jU (hL.get (.head _)) (See.bytes hL (v:= .slice (some ⟨g9,0,none⟩) 236 cap9)))).mono ?_);rintro e w1⟨rfl,hb1⟩;have hL1:=hL.keep hb1;clear hb1;clear hL;have hL:=hL1;clear hL1;refine p4 ?_))))|(refine gBp 2 ?_;clear hL;intro b2 w1 hL)|(refine gBp 3 ?_;clear hL;intro b3 w1 hL)|(refine gN 9 ?_;refine lKk (HB.out _ hL.bel) ?_;rintro e w1⟨g9,cap9,cur9,rfl,hr9,hN⟩;have hL1:=hL.join hN;clear hN hL;revert hL1;refine aH ?_;intro hL)|(go_at_call 209;go_loud (refine(HC.out _).mono ?_);rintro e w1⟨rfl,hb1⟩;have hL1:=hL.keep hb1;clear hb1;clear hL;have hL:=hL1;clear hL1;refine p4 ?_)|(refine ah ?_;clear hL;intro w1 hL));go_ret;exact⟨rfl,hL.bel⟩
instance Qw:Ent 157:=eo func157
end
section
open Go Go.RowKit Go.Shelf
theorem jG(n:Int)(h0:0≤n)(h1:n≤2147483647):FnC 79 #[.int .i64 n] (.bool true) :=
 ⟨fun w=>(A4 n ⟨h0,h1⟩ w).mono fun e w' h=>⟨h.1,by rw[← h.2];exact Below.refl _ _⟩⟩
theorem gD(m:Man)(hm:m.Ok)(p:Option Addr)(c:Nat)(w:World)(hv:BRow w (.slice p 80 c) m.wr) :
 Calls prog 67 #[.agg (m.row p 80 c)] w fun e w'=>∃g cap cur,e= .returned (.tuple #[.slice (some ⟨g,0,none⟩) 236 cap,.int .i64 0])∧OwnR cur 236 cap (an m.body)∧Loc w w' [(g,cur,5)]:=by
 have hL:=Loc.nil w;haveI hA:Arg w (.slice p 80 c) (an m.wr):=⟨hv.vrow⟩;obtain⟨ver,blk,root,wr,id,key,cs,sg⟩:=m;obtain⟨v0,v1,b0,b1,hw,i0,i1⟩:=hm;dsimp only at *
 haveI f1:=jG ver v0 v1;haveI f2:=jG id i0 i1;have HROW:=Hd (show Man.row ⟨ver,blk,root,wr,id,key,cs,sg⟩ p 80 c=mfR ver blk root p 80 c id key cs sg from rfl);have HB:=Hd (show Man.body ⟨ver,blk,root,wr,id,key,cs,sg⟩=[80,67,77,49]++aX [ver,blk]++ae 32 root++wr++aX [id]++ae 32 key++ae 64 cs from by
  unfold Man.body aX;simp only[List.map_cons,List.map_nil,List.flatten_cons,List.flatten_nil,List.append_assoc,List.append_nil])
 rw[HROW.out,HB.out];have hp1:=(fun w1 (u1 u2:Value) (h2:BRow w1 u1 [80,67,77,49]) (h3:VRow w1 u2 (dq [ver,blk]))=>iK u1 [80,67,77,49] u2 [ver,blk] w1 h2 (fun h=>by cases h) (by decide) h3 (by simp) (by simp) (fun x hx=>by
  rcases List.mem_cons.1 hx with e|hx
  ·subst e;omega
  ·obtain rfl:=List.mem_singleton.1 hx;omega))
 obtain⟨l1,hl1⟩:∃l1,l1=[80,67,77,49]++aX [ver,blk]:=⟨_,rfl⟩;have hn1:l1.length=20:=by rw[hl1];simp[bg]
 obtain⟨l2,hl2⟩:∃l2,l2=l1++ae 32 root++wr:=⟨_,rfl⟩;have hn2:l2.length=132:=by rw[hl2];simp[hn1,ag,hw]
 have hp2:=(fun w1 (u1 u2:Value) (h2:BRow w1 u1 l2) (h3:VRow w1 u2 (dq [id]))=>iK u1 l2 u2 [id] w1 h2 (fun h=>by rw[h]at hn2;cases hn2) (by omega) h3 (by simp) (by simp) (fun x hx=>by
  obtain rfl:=List.mem_singleton.1 hx;omega))
 obtain⟨l3,hl3⟩:∃l3,l3=l2++aX [id]:=⟨_,rfl⟩;have hn3:l3.length=140:=by rw[hl3];simp[bg,hn2]
 rw[← hl1]at hp1 ⊢;rw[← hl2,← hl3];rw[← hl3]at hp2;simp only[Fresh,hn1]at hp1;simp only[Fresh,hn3,gZ]at hp2;have HP1:=Hd hp1;have HP2:=Hd hp2;have HL2:=Hd hl2;haveI s2:=rd ver blk;have d1:decide (blk<1)=false:=decide_eq_false (by omega);have d2:decide ((32:Int)<blk)=false:=decide_eq_false (by omega);clear hl1 hl2 hl3 HB HROW hv hw hp1 hp2 hn1 hn2 hn3;go_enter func67,ntmps67;go_wp2_with (first|refine aU ?_|(refine gBp 1 ?_;clear hL;intro b1 w1 hL)|((with_reducible show wpList _ _ _ (⟨some 32,_,_,_,_,_⟩::⟨some 33,_,_,_,_,_⟩::_) _ _);go_loud (refine zq 80 67 77 49 hL rfl rfl rfl rfl rfl rfl rfl rfl (fun _=>rfl) ?_);clear hL;intro b8 w9 hb8 hL0;have hA8:Arg w9 (.slice (some ⟨b8,0,none⟩) 4 4) (an [80,67,77,49]):=⟨hb8.vrow⟩;have hW0:Was w9 b1 0 (.int .i64 ver):=⟨by rw[cell_of_row w9 b1 0 _ _ _ (hL0.get (.head _))];exact(inferInstance:Cell (mfR ver blk root p 80 c id key cs sg) 0 (.int .i64 ver)).cell,hL0.lt (.head _)⟩;have hW1:Was w9 b1 1 (.int .i64 blk):=⟨by rw[cell_of_row w9 b1 1 _ _ _ (hL0.get (.head _))];exact(inferInstance:Cell (mfR ver blk root p 80 c id key cs sg) 1 (.int .i64 blk)).cell,hL0.lt (.head _)⟩;have hL:=Loc.nil w9;refine p4 ?_)|((with_reducible show wpList _ _ _ (⟨some 38,.buildSlice _ _ _,_,_,_,_⟩::_) _ _);(first|refine zm hL rfl rfl rfl rfl ?_|refine Dz hL rfl rfl rfl rfl rfl rfl ?_);intro b38;clear hL;intro w1 hL;refine p4 ?_)|((go_at_call 73;go_loud (refine(HP1.out _ _ _ (See.bytes hL (l:=[80,67,77,49])) (See.see _ hL)).mono ?_);rintro e w1⟨g15,cap15,cur15,rfl,hr15,hg15,hc15,hb15⟩;have hL1:=hL0.join (hL.fresh hb15 hg15 hc15);clear hb15 hg15 hc15;clear hL hA8 hb8;have hL:=hL1;clear hL1;try simp only[List.cons_append,List.nil_append]at hL;refine p4 ?_))|(refine ah ?_;clear hL;intro w1 hL)|((with_reducible show wpList _ _ _ (⟨_,.call _,_,_,_,_⟩::_) _ _);(first|refine lC2 hL rfl rfl rfl rfl ?_|refine lC1 hL rfl rfl rfl ?_|refine lC3 hL rfl rfl rfl rfl ?_|refine lC4 hL rfl rfl rfl rfl ?_|refine lC0 hL rfl rfl ?_|refine lC5 hL rfl rfl rfl ?_);clear hL;intro w1 hL;refine p4 ?_));refine mX (S:=(fun w'=>Loc _ w' [(b1,mfR ver blk root p 80 c id key cs sg,79)])) 8 (hL.drew.pop.pop) ?_;intro hHeld;replace hL:=hL.drew;refine uG 0 ?_;refine uG 1 ?_;refine uG 4 ?_;refine uG 2 ?_;refine uZ 5 ?_;refine rd1 3 ?_;intro K hK;refine eAp ?_;clear hL;intro g43 cap43 cur43 w1 hr43 hL;refine kO hK (hL.pop.pop) ?_;clear hK K hHeld;intro hHeld;refine rd1 6 ?_;intro K hK;refine eAp ?_;clear hL;intro g46 cap46 cur46 w1 hr46 hL;refine kO hK (hL.pop.pop) ?_;clear hK K hHeld;intro hHeld;refine uG 7 ?_;refine wD ?_;clear hHeld;simp only[Nat.reduceAdd]at hr46;go_wp2_with (first|refine aU ?_|(refine gN 51 ?_;refine aL ?_;clear hL;intro b51 w1 hL)|(go_at_call 73;go_loud (refine(HP2.out _ _ _ (by rw[HL2.out];exact See.bytes hL (v:= .slice (some ⟨g46,0,none⟩) 132 cap46)) (See.see (v:= .slice (some ⟨b51,0,none⟩) 1 1) _ hL)).mono ?_);rintro e w1⟨g52,cap52,cur52,rfl,hr52,hg52,hc52,hb52⟩;have hL1:=hL.fresh hb52 hg52 hc52;clear hb52 hg52 hc52;clear hL;have hL:=hL1;clear hL1;refine p4 ?_)|(refine ah ?_;clear hL;intro w1 hL));refine mX (S:=(fun _=>True)) 11 (trivial) ?_;intro hHeld;replace hL:=hL.drew;refine uG 0 ?_;refine uG 1 ?_;refine uG 5 ?_;refine uG 2 ?_;refine uG 6 ?_;refine uG 3 ?_;refine uG 7 ?_;refine rd1 4 ?_;intro K hK;refine eAp ?_;clear hL;intro g57 cap57 cur57 w1 hr57 hL;refine kO hK (trivial) ?_;clear hK K hHeld;intro hHeld;refine rd1 8 ?_;intro K hK;refine eAp ?_;clear hL;intro g61 cap61 cur61 w1 hr61 hL;refine kO hK (trivial) ?_;clear hK K hHeld;intro hHeld;refine uG 9 ?_;refine uG 10 ?_;refine wD ?_;clear hHeld;go_wp2_with (first|refine aU ?_|(refine ah ?_;clear hL;intro w1 hL));go_ret2;exact⟨g61,cap61,cur61,rfl,hr61,hL.sub ((List.nil_sublist _).cons_cons _)⟩
instance Qx:Ent 67:=eo func67
instance Qy(ver blk:Int)(root:Nat→BitVec 8)(p:Option Addr)(n c:Nat)(id:Int)(key cs sg:Nat→BitVec 8):Seg (mfR ver blk root p n c id key cs sg) 132 64 (an (ae 64 sg)):=jX (pre:= #[.int .i64 ver,.int .i64 blk]++aa 32 root ++ #[.slice p n c,.int .i64 id]++aa 32 key++aa 64 cs) (post:= #[]) (by simp only[mfR,Array.append_assoc,Array.append_empty]) (by simp[aj])
theorem ne(m:Man)(hm:m.Ok)(p:Option Addr)(c:Nat)(w:World)(hv:BRow w (.slice p 80 c) m.wr) :
 Calls prog 27 #[.agg (m.row p 80 c)] w fun e w'=>∃g cap cur,e= .returned (.tuple #[.slice (some ⟨g,0,none⟩) 300 cap,.int .i64 0])∧OwnR cur 300 cap (an m.bytes)∧Loc w w' [(g,cur,5)]:=by
 have hL:=Loc.nil w;have HB:=Hd (fun w1 (hb1:Below w.heap.size w w1)=>gD m hm p c w1 (hv.below hb1));have HY:=Hd (show m.bytes=m.body++ae 64 m.sg from rfl);rw[HY.out];have HROW:=Hd (show m.row p 80 c=mfR m.ver m.blk m.root p 80 c m.id m.key m.cs m.sg from rfl);rw[HROW.out]at HB ⊢;obtain⟨b,hb⟩:∃b,b=m.body:=⟨_,rfl⟩;rw[← hb]at HB ⊢;clear HROW HY hb hv hm;obtain⟨ver,blk,root,wr,id,key,cs,sg⟩:=m;dsimp only at *
 go_enter func27,ntmps27;go_wp2_with (first|refine aU ?_|(refine gBp 1 ?_;clear hL;intro b1 w1 hL)|(refine gN 8 ?_;refine lKk (HB.out _ hL.bel) ?_;rintro e w1⟨g8,cap8,cur8,rfl,hr8,hN⟩;have hL1:=hL.join hN;clear hN hL;revert hL1;refine aH ?_;intro hL)|(refine gN 17 ?_;refine aA ?_;clear hL;intro g17 cap17 cur17 w1 hr17 hL)|(refine ah ?_;clear hL;intro w1 hL));go_ret2;exact⟨g17,cap17,cur17,rfl,hr17,hL.sub ((List.nil_sublist _).cons_cons _)⟩
instance Qz:Ent 27:=eo func27
end
namespace R3
open Go Go.Proofs.YtoifhhljfaoejaaGreatDoor Go.RowKit
def P5:Nat:=1361129467683753853853498429727072845819
theorem zv:2^130=P5+5:=by decide +kernel
def f5(n:Nat):Nat:=n%2^130+5*(n/2^130)
theorem iO(n:Nat):f5 n%P5=n%P5:=by
 have h:n=f5 n+n/2^130*P5:=by
  unfold f5;have:=Nat.mod_add_div n (2^130);rw[zv]at *
  generalize n/(P5+5)=q at *
  rw[Nat.add_mul]at this;rw[Nat.mul_comm q P5];omega
 conv=>rhs;rw[h]
 rw[Nat.add_mul_mod_self_right]
def c5(f:Nat→Int):Nat→Int
 | 0=>0
 | k+1=>(c5 f k+f k)/256
def d5(f:Nat→Int)(i:Nat):Int:=(c5 f i+f i)%256
theorem tr(f:Nat→Int):∀k,aK (d5 f) k+c5 f k*2^(8*k)=aK f k
 | 0=>by simp[aK,c5]
 | k+1=>by
  have ih:=tr f k;show aK (d5 f) k+(c5 f k+f k)%256*2^(8*k)+(c5 f k+f k)/256*2^(8*(k+1))=aK f k+f k*2^(8*k);rw[← ih,Fy,show(2:Int)^(8*1)=256 from rfl];generalize(2:Int)^(8*k)=E;have h:=Int.emod_add_mul_ediv (c5 f k+f k) 256;generalize(c5 f k+f k)%256=x at *
  generalize(c5 f k+f k)/256=y at *
  have hf:f k=x+256*y-c5 f k:=by omega
  rw[hf];grind
theorem jH{f:Nat→Int}(h:∀i,0≤f i):∀k,0≤c5 f k
 | 0=>Int.le_refl _
 | k+1=>by
  have:=jH h k;have:=h k;show 0≤(c5 f k+f k)/256;omega
theorem vr{f:Nat→Int}{B:Int}(h:∀i,0≤f i∧f i≤B)(hB:1≤B):∀k,c5 f k≤B
 | 0=>by show(0:Int)≤B;omega
 | k+1=>by
  have:=vr h hB k;have:=h k;show(c5 f k+f k)/256≤B;omega
theorem fp(f:Nat→Int):Fz (d5 f):=fun i=>by unfold d5;omega
def rD(n i:Nat):Nat:=if i=0 then n%256+5*(n/2^130)else if i=16 then n/2^128%4 else dgB n i
def dX(f:Nat→Int)(i:Nat):Int:=if i=0 then d5 f 0+5*((c5 f 16+f 16)/4)else if i=16 then(c5 f 16+f 16)%4 else d5 f i
theorem mQ{f:Nat→Int}(h:∀i,0≤f i){i:Nat}(hi:i<17):dX f i=(rD (aK f 17).toNat i:Int):=by
 have hv:=tr f 16;have hn:=gY (fp f) 16;have hd:=nH (fp f) 16;have hp:=jH h 16;have h16:=h 16;have hV:aK f 17=aK (d5 f) 16+(c5 f 16+f 16)*2^(8*16):=by
  show aK f 16+f 16*2^(8*16)=_;rw[← hv,Int.add_mul];omega
 rw[show 8*16=128 from rfl]at *
 obtain⟨S,hS⟩:=Int.eq_ofNat_of_zero_le hn.1;obtain⟨u,hu⟩:=Int.eq_ofNat_of_zero_le (show 0≤c5 f 16+f 16 by omega);rw[hS]at hd hV hn;rw[hu]at hV;have hS2:S<2^128:=by
  have:=hn.2;rw[show(2:Int)^128=((2^128:Nat):Int)from rfl]at this;omega
 have hVn:(aK f 17).toNat=S+u*2^128:=by
  rw[hV,show(2:Int)^128=((2^128:Nat):Int)from rfl];omega
 rw[Int.toNat_natCast]at hd;have hq:(S+u*2^128)/2^128=u:=by rw[Nat.add_mul_div_right _ _ (Nat.two_pow_pos _),Nat.div_eq_of_lt hS2,Nat.zero_add]
 have hq2:(S+u*2^128)/2^130=u/4:=by rw[show 2^130=2^128*4 from rfl,← Nat.div_div_eq_div_mul,hq]
 have hdg:∀j,j<16→dgB (S+u*2^128) j=dgB S j:=fun j hj=>by
  unfold dgB;rw[show 2^128=2^(8*j)*(256*2^(128-8*j-8))from by rw[show 256=2^8 from rfl,← Nat.pow_add,← Nat.pow_add];congr 1;omega,← Nat.mul_assoc,Nat.mul_comm u,Nat.mul_assoc,Nat.add_mul_div_left _ _ (Nat.two_pow_pos _),← Nat.mul_assoc,Nat.mul_comm u,Nat.mul_assoc,Nat.add_mul_mod_self_left]
 unfold dX rD;rw[hVn];by_cases h0:i=0
 ·rw[if_pos h0,if_pos h0,hq2,hu,hd 0 (by omega),← hdg 0 (by omega)]
  show((S+u*2^128)/2^(8*0)%256:Nat)+5*((u:Int)/4)=_;rw[Nat.mul_zero,Nat.pow_zero,Nat.div_one];generalize S+u*2^128=V;omega
 ·rw[if_neg h0,if_neg h0]
  by_cases h1:i=16
  ·rw[if_pos h1,if_pos h1,hq,hu];omega
  ·rw[if_neg h1,if_neg h1,hd i (by omega),hdg i (by omega)]
theorem pK(n:Nat):aK (fun i=>(rD n i:Int)) 17=(f5 n:Int):=by
 have h0:aK (fun i=>(rD n i:Int)) 16=aK (fun i=>(dgB n i:Int)) 16+((5*(n/2^130):Nat):Int):=by
  have key:∀k,k<16→aK (fun i=>(rD n i:Int)) (k+1)=aK (fun i=>(dgB n i:Int)) (k+1)+((5*(n/2^130):Nat):Int):=fun k=>by
   induction k with
   | zero =>
    intro _;show 0+(rD n 0:Int)*2^(8*0)=0+(dgB n 0:Int)*2^(8*0)+_;unfold rD dgB;rw[if_pos rfl,Nat.mul_zero,Nat.pow_zero,Nat.div_one];generalize n/2^130=q;omega
   | succ k ih =>
    intro hk;have:=ih (by omega);show aK (fun i=>(rD n i:Int)) (k+1)+(rD n (k+1):Int)*2^(8*(k+1))=aK (fun i=>(dgB n i:Int)) (k+1)+(dgB n (k+1):Int)*2^(8*(k+1))+_;rw[this,show rD n (k+1)=dgB n (k+1)from by unfold rD;rw[if_neg (by omega),if_neg (by omega)]];omega
  exact key 15 (by omega)
 show aK (fun i=>(rD n i:Int)) 16+(rD n 16:Int)*2^(8*16)=_;rw[h0,sH,show 8*16=128 from rfl,show rD n 16=n/2^128%4 from by unfold rD;rw[if_neg (by omega),if_pos rfl]];unfold f5;have hm:n%2^130=n%2^128+2^128*(n/2^128%4):=by
  rw[show 2^130=2^128*4 from rfl,Nat.mod_mul]
 rw[hm,show(2:Int)^128=((2^128:Nat):Int)from rfl,← Int.natCast_mul,← Int.natCast_add,← Int.natCast_add,Nat.mul_comm (2^128)];congr 1;omega
theorem vt{f:Nat→Int}(h:∀i,0≤f i)(g k:Nat→Int)(hg:∀i,i<17→g i=dX f i)(hg0:∀i,0≤g i)(hk:∀i,i<17→k i=dX g i)(hk0:∀i,0≤k i){i:Nat}(hi:i<17) :
 dX k i=(rD (f5 (f5 (aK f 17).toNat)) i:Int):=by
 have e1:(aK g 17).toNat=f5 (aK f 17).toNat:=by
  rw[cW 17 fun i hi=>(hg i hi).trans (mQ h hi),pK,Int.toNat_natCast]
 have e2:(aK k 17).toNat=f5 (f5 (aK f 17).toNat):=by
  rw[cW 17 fun i hi=>(hk i hi).trans (mQ hg0 hi),pK,Int.toNat_natCast,e1]
 rw[mQ hk0 hi,e2]
theorem pL(f:Nat→Int)(a:Nat):∀b,aK f (a+b)=aK f a+2^(8*a)*aK (fun i=>f (a+i)) b
 | 0=>by show aK f a=aK f a+_*(0:Int);omega
 | b+1=>by
  show aK f (a+b)+f (a+b)*2^(8*(a+b))=aK f a+2^(8*a)*(aK (fun i=>f (a+i)) b+f (a+b)*2^(8*b));rw[pL f a b,Fy];grind
theorem jI(f g:Nat→Int)(c:Int):∀k,aK (fun i=>f i+c*g i) k=aK f k+c*aK g k
 | 0=>by show(0:Int)=0+c*0;omega
 | k+1=>by
  show aK (fun i=>f i+c*g i) k+(f k+c*g k)*2^(8*k)=aK f k+f k*2^(8*k)+c*(aK g k+g k*2^(8*k));rw[jI f g c k];grind
def w5(r:Nat→Int)(j i:Nat):Int:=if j≤i then r (i-j)else 320*r (i+17-j)
def cv(h r:Nat→Int)(i:Nat):Nat→Int
 | 0=>0
 | k+1=>cv h r i k+h k*w5 r k i
theorem Il(r:Nat→Int)(j:Nat)(hj:j≤17):∃T,aK (w5 r j) 17=2^(8*j)*aK r 17-(2^136-320)*T:=by
 refine⟨aK (fun i=>r (17-j+i)) j,?_⟩;have a1:=pL (w5 r j) j (17-j);have a2:=pL r (17-j) j;rw[show j+(17-j)=17 from by omega]at a1;rw[show 17-j+j=17 from by omega]at a2;have b1:aK (fun i=>w5 r j (j+i)) (17-j)=aK r (17-j):=cW _ fun i hi=>by
  show w5 r j (j+i)=r i;unfold w5;rw[if_pos (by omega),show j+i-j=i from by omega]
 have b2:aK (w5 r j) j=320*aK (fun i=>r (17-j+i)) j:=by
  rw[cW (g:=fun i=>0+320*r (17-j+i)) j fun i hi=>by unfold w5;rw[if_neg (by omega),show i+17-j=17-j+i from by omega];omega];rw[jI (fun _=>0) (fun i=>r (17-j+i)) 320 j];have:∀k,aK (fun _=>0) k=0:=fun k=>by
   induction k with
   | zero=>rfl
   | succ k ih=>show aK (fun _=>0) k+0*_=0;rw[ih];omega
  rw[this];omega
 rw[a1,b1,b2,a2];have e:(2:Int)^(8*j)*2^(8*(17-j))=2^136:=by rw[← Int.pow_add];congr 1;omega
 generalize aK (fun i=>r (17-j+i)) j=T at *
 generalize aK r (17-j)=R at *
 generalize(2:Int)^(8*j)=A at *
 generalize(2:Int)^(8*(17-j))=B at *
 rw[← e];grind
theorem DZ(h r:Nat→Int):∀k,k≤17→∃T,aK (fun i=>cv h r i k) 17=aK h k*aK r 17-(2^136-320)*T
 | 0,_=>⟨0,by
  have:∀k,aK (fun i=>cv h r i 0) k=0:=fun k=>by
   induction k with
   | zero=>rfl
   | succ k ih=>show aK (fun i=>cv h r i 0) k+0*_=0;rw[ih];omega
  rw[this];show(0:Int)=0*_-_;omega⟩
 | k+1,hk=>by
  obtain⟨T,hT⟩:=DZ h r k (by omega);obtain⟨U,hU⟩:=Il r k (by omega);refine⟨T+h k*U,?_⟩;show aK (fun i=>cv h r i k+h k*w5 r k i) 17=(aK h k+h k*2^(8*k))*aK r 17-_;rw[jI (fun i=>cv h r i k) (w5 r k) (h k) 17,hT,show aK (fun i=>w5 r k i) 17=_ from hU];generalize aK r 17=R;generalize aK h k=H;generalize(2:Int)^(8*k)=A;generalize(2:Int)^136=E;grind
theorem Im{h r:Nat→Int}{H R:Nat}(hH:aK h 17=H)(hR:aK r 17=R)(h0:0≤aK (fun i=>cv h r i 17) 17):(aK (fun i=>cv h r i 17) 17).toNat%P5=H*R%P5:=by
 obtain⟨T,hT⟩:=DZ h r 17 (Nat.le_refl _);rw[hH,hR]at hT;obtain⟨V,hV⟩:=Int.eq_ofNat_of_zero_le h0;rw[hV]at hT ⊢;rw[Int.toNat_natCast];have e:(2:Int)^136-320=((64*P5:Nat):Int):=by decide +kernel
 rw[e,← Int.natCast_mul]at hT;have hd:((V:Int)%(P5:Nat))=((H*R:Nat):Int)%(P5:Nat):=by
  rw[hT,Int.natCast_mul 64 P5];generalize((H*R:Nat):Int)=X;rw[show(64:Nat)*(P5:Int)*T=(P5:Int)*(64*T)from by push_cast;grind,Int.sub_mul_emod_self_left]
 exact Int.ofNat_inj.1 (by rw[Int.natCast_emod,Int.natCast_emod];exact hd)
end R3
namespace R3
open Go Go.Proofs.YtoifhhljfaoejaaGreatDoor Go.RowKit
instance QA:RowTy 302 17:=⟨⟨_,underlying302,rfl⟩,by kernel_rfl⟩
instance QB:RowZ 302 (ao 17 fun _=>0):=⟨by kernel_rfl⟩
theorem Kg(n:Int):bits .and .i64 n 3=n%4:=by
 show IntKind.i64.wrap ((BitVec.ofInt 64 n&&&BitVec.ofInt 64 3).toNat:Nat)=_;have e:(BitVec.ofInt 64 n&&&BitVec.ofInt 64 3).toNat=(BitVec.ofInt 64 n).toNat%4:=by
  rw[BitVec.toNat_and];exact Nat.and_two_pow_sub_one_eq_mod _ 2
 rw[e,BitVec.toNat_ofInt,IntWalk.i64_in _ (by omega)];omega
def ke(f:Nat→Int):Nat→Nat→Int
 | 0=>f
 | k+1=>dX (ke f k)
theorem A8{f:Nat→Int}{B:Int}(h:∀i,0≤f i∧f i≤B)(hB:255≤B)(i:Nat):0≤dX f i∧dX f i≤4*B:=by
 have h1:=jH fun i=>(h i).1;have h2:=vr h (by omega);unfold dX;have:=h1 16;have:=h2 16;have:=h 16;have:=fp f 0;have:=fp f i;split
 ·omega
 ·split <;> omega
theorem tt{f:Nat→Int}(h:∀i,0≤f i∧f i≤1099511627776):∀k,k≤3→∀i,0≤ke f k i∧ke f k i≤70368744177664:=by
 have key:∀k i,0≤ke f k i∧ke f k i≤4^k*1099511627776:=fun k=>by
  induction k with
  | zero=>intro i;have:=h i;show 0≤f i∧f i≤4^0*_;omega
  | succ k ih =>
   intro i;have h4:(1:Int)≤4^k:=Int.pow_pos (by omega);have:=A8 ih (by omega) i;show 0≤dX (ke f k) i∧dX (ke f k) i≤4^(k+1)*_;rw[Int.pow_succ];omega
 intro k hk i;have:=key k i;have h4:(4:Int)^k≤64:=by
  rcases(show k=0∨k=1∨k=2∨k=3 by omega)with rfl|rfl|rfl|rfl <;> decide
 omega
def lJ(f:Nat→Int)(i j:Nat):Int:=if j<i then d5 f j else f j
theorem ng(f:Nat→Int)(hf:∀i,0≤f i∧f i≤1099511627776)(w:World):Rt 267 #[.agg (ao 17 f)] w (.agg (ao 17 fun i=>(rD (f5 (f5 (aK f 17).toNat)) i:Int))):=by
 have hL:=Loc.nil w;have HBD:=Hd (tt hf);have HFIN:=Hd (show ao 17 (ke f 3)=ao 17 fun i=>(rD (f5 (f5 (aK f 17).toNat)) i:Int)from ak fun i hi=>by
  rw[show ke f 3 i=_ from vt (fun i=>(hf i).1) (ke f 1) (ke f 2) (fun _ _=>rfl) (fun i=>(tt hf 1 (by omega) i).1) (fun _ _=>rfl) (fun i=>(tt hf 2 (by omega) i).1) hi])
 rw[← HFIN.out];clear HFIN hf;have HZ:=Hd (show ao 17 f=ao 17 (ke f 0)from rfl);go_enter func267,ntmps267;go_wp2_with (first|(refine gBp 1 ?_;clear hL;intro b1 w1 hL)|(refine gBp 2 ?_;clear hL;intro b2 w1 hL)|(refine aQq ?_;clear hL;intro _ w1 hL));rw[HZ.out]at hL;go_loopw [3] (fun kk wr=>∃k:Nat,k≤3∧kk= .int .i64 k∧Loc w wr [(b2,ao 17 fun _=>0,302),(b1,ao 17 (ke f k),302)]) (fun kk _=>3-(intOf kk).toNat);case atStart=>exact⟨0,by omega,rfl,hL⟩
 case round =>
  clear hL;obtain⟨k,hk,rfl,hL⟩:=hrel;by_cases hlt:k<3
  ·have k0:(k:Int)<3:=by omega
   have HNX:=Hd (show ke f (k+1)=dX (ke f k)from rfl);have HG:=Hd (HBD.out k hk);generalize ke f k=g at *
   have HC:=Hd (fun i=>(⟨jH (fun i=>(HG.out i).1) i,vr HG.out (by omega) i⟩:0≤c5 g i∧c5 g i≤70368744177664));have HM0:=Hd (show ao 17 g=ao 17 (lJ g 0)from ak fun i _=>by unfold lJ;rw[if_neg (by omega)]);have HC0:=Hd (show(0:Int)=c5 g 0 from rfl);go_wp2_with (first|(refine aQq ?_;clear hL;intro _ w1 hL));rw[HM0.out]at hL;go_loopw [4,5] (fun u ii wr=>∃i:Nat,i≤16∧ii= .int .i64 i∧u= .int .i64 (c5 g i)∧Loc w wr [(b2,ao 17 fun _=>0,302),(b1,ao 17 (lJ g i),302)]) (fun _ ii _=>16-(intOf ii).toNat);case atStart=>exact⟨0,by omega,rfl,rfl,hL⟩
   case round =>
    clear hL;obtain⟨i,hi,rfl,rfl,hL⟩:=hrel;by_cases hi16:i<16
    ·have i0:(0:Int)≤(i:Int):=by omega
     have i1:(i:Int)<16:=by omega
     have i2:(i:Int)<17:=by omega
     obtain⟨p1,p2⟩:=HC.out i;obtain⟨q1,q2⟩:=HG.out i;have HS:=Hd (show c5 g (i+1)=(c5 g i+g i)/256 from rfl);have ha:=and_255 (c5 g i+g i);haveI g1:Cell (ao 17 (lJ g i)) i (.int .i64 (g i)):=by
      have:=bQ (n:=17) (lJ g i) (k:=i) (by omega);rwa[show lJ g i i=g i from by unfold lJ;rw[if_neg (by omega)]]at this
     haveI g2:Put (ao 17 (lJ g i)) i (.int .i64 ((c5 g i+g i)%256)) (ao 17 (lJ g (i+1))):=dS (by omega) fun j hj=>by
      unfold lJ;by_cases c:j=i
      ·subst c;rw[if_pos rfl,if_pos (by omega)];rfl
      ·rw[if_neg c];by_cases d:j<i
       ·rw[if_pos d,if_pos (by omega)]
       ·rw[if_neg d,if_neg (by omega)]
     generalize c5 g i=c at *
     generalize g i=x at *
     clear HC0 HM0 HC HG HNX HZ HBD;go_wp2_with (first|(refine aQq ?_;clear hL;intro _ w1 hL));go_roundw;case rel=>exact⟨i+1,by omega,by go_num,by rw[HS.out],hL⟩
     case measure=>simp[intOf];omega
    ·obtain rfl:i=16:=by omega
     obtain⟨p1,p2⟩:=HC.out 16;obtain⟨q1,q2⟩:=HG.out 16;have hd:=fp g 0;have ha:=Kg (c5 g 16+g 16);have HR:=Hd (show(fun i=>if i=0 then d5 g 0+5*((c5 g 16+g 16)/4)else if i=16 then(c5 g 16+g 16)%4 else d5 g i)=dX g from rfl);haveI g1:Cell (ao 17 (lJ g 16)) 16 (.int .i64 (g 16)):=bQ (n:=17) (lJ g 16) (k:=16) (by omega);haveI g2:Put (ao 17 (lJ g 16)) 16 (.int .i64 ((c5 g 16+g 16)%4)) (ao 17 fun i=>if i=16 then(c5 g 16+g 16)%4 else d5 g i):=dS (by omega) fun j hj=>by
      by_cases c:j=16
      ·rw[if_pos c,if_pos c]
      ·rw[if_neg c,if_neg c];unfold lJ;rw[if_pos (by omega)]
     haveI g3:Cell (ao 17 fun i=>if i=16 then(c5 g 16+g 16)%4 else d5 g i) 0 (.int .i64 (d5 g 0)):=bQ (n:=17) (fun i=>if i=16 then(c5 g 16+g 16)%4 else d5 g i) (k:=0) (by omega);haveI g4:Put (ao 17 fun i=>if i=16 then(c5 g 16+g 16)%4 else d5 g i) 0 (.int .i64 (d5 g 0+5*((c5 g 16+g 16)/4))) (ao 17 (dX g)):=dS (by omega) fun j hj=>by
      unfold dX;by_cases c:j=0
      ·rw[if_pos c]
      ·rw[if_neg c]
     generalize c5 g 16=c at *
     generalize g 16=x,d5 g 0=d at *
     generalize(fun i=>if i=16 then(c+x)%4 else d5 g i)=m at *
     clear HC0 HM0 HC HG HZ HBD HR;go_wp2_with (first|(refine aQq ?_;clear hL;intro _ w1 hL));go_roundw;case rel=>exact⟨k+1,by omega,by go_num,by rw[HNX.out];exact hL⟩
     case measure=>simp[intOf];omega
  ·obtain rfl:k=3:=by omega
   go_wp2_with (first|(refine aQq ?_;clear hL;intro _ w1 hL));exact bodyPost_ret (ai rfl hL rfl) rfl ⟨rfl,hL.bel⟩
instance QC:Ent 267:=eo func267
theorem zw{h r:Nat→Int}(hh:∀i,0≤h i∧h i≤2000)(hr:∀i,0≤r i∧r i≤255)(i:Nat):∀k:Nat,0≤cv h r i k∧cv h r i k≤163200000*k
 | 0=>by show(0:Int)≤0∧(0:Int)≤_;omega
 | k+1=>by
  have ih:=zw hh hr i k;have hw:0≤w5 r k i∧w5 r k i≤81600:=by
   unfold w5;split
   ·have:=hr (i-k);omega
   ·have:=hr (i+17-k);omega
  have h1:=hh k;have m0:=Int.mul_nonneg h1.1 hw.1;have m1:h k*w5 r k i≤2000*81600:=Int.mul_le_mul h1.2 hw.2 hw.1 (by omega);show 0≤cv h r i k+h k*w5 r k i∧cv h r i k+h k*w5 r k i≤_;omega
def xK(h r:Nat→Int)(i j:Nat):Int:=if j<i then cv h r j 17 else 0
theorem xW(h r:Nat→Int)(hh:∀i,0≤h i∧h i≤2000)(hr:∀i,0≤r i∧r i≤255)(w:World):Rt 236 #[.agg (ao 17 h),.agg (ao 17 r)] w (.agg (ao 17 fun i=>(rD (f5 (f5 (aK (fun i=>cv h r i 17) 17).toNat)) i:Int))):=by
 have hL:=Loc.nil w;have HCV:=Hd (zw hh hr);have HH:=Hd hh;have HR:=Hd hr;haveI fc:FnC 267 #[.agg (ao 17 fun i=>cv h r i 17)] (.agg (ao 17 fun i=>(rD (f5 (f5 (aK (fun i=>cv h r i 17) 17).toNat)) i:Int))):=⟨ng _ fun i=>by have:=zw hh hr i 17;omega⟩;generalize(fun i=>(rD (f5 (f5 (aK (fun i=>cv h r i 17) 17).toNat)) i:Int))=out at *
 have HX0:=Hd (show(ao 17 fun _=>0)=ao 17 (xK h r 0)from ak fun i _=>by unfold xK;rw[if_neg (by omega)]);have HX:=Hd (show ao 17 (xK h r 17)=ao 17 fun i=>cv h r i 17 from ak fun i hi=>by unfold xK;rw[if_pos hi]);clear hh hr;go_enter func236,ntmps236;go_wp2_with (first|(refine gBp 2 ?_;clear hL;intro b2 w1 hL)|(refine gBp 3 ?_;clear hL;intro b3 w1 hL)|(refine gBp 4 ?_;clear hL;intro b4 w1 hL)|(refine gBp 5 ?_;clear hL;intro b5 w1 hL)|(refine aQq ?_;clear hL;intro _ w1 hL));have hL0:=hL;clear hL;have hL:Loc w w1 [(b5,ao 17 (xK h r 0),302),(b4,ao 17 fun _=>0,302),(b3,ao 17 r,302),(b2,ao 17 h,302)]:=by rw[← HX0.out];exact hL0
 clear hL0;go_loopw [6] (fun ii wr=>∃i:Nat,i≤17∧ii= .int .i64 i∧Loc w wr [(b5,ao 17 (xK h r i),302),(b4,ao 17 fun _=>0,302),(b3,ao 17 r,302),(b2,ao 17 h,302)]) (fun ii _=>17-(intOf ii).toNat);case atStart=>exact⟨0,by omega,rfl,hL⟩
 case round =>
  clear hL;obtain⟨i,hi,rfl,hL⟩:=hrel;by_cases hlt:i<17
  ·have i0:(0:Int)≤(i:Int):=by omega
   have i1:(i:Int)<17:=by omega
   have HC0:=Hd (show(0:Int)=cv h r i 0 from rfl);go_wp2_with (first|(refine aQq ?_;clear hL;intro _ w1 hL));go_loopw [7,8] (fun u jj wr=>∃j:Nat,j≤i+1∧jj= .int .i64 j∧u= .int .i64 (cv h r i j)∧Loc w wr [(b5,ao 17 (xK h r i),302),(b4,ao 17 fun _=>0,302),(b3,ao 17 r,302),(b2,ao 17 h,302)]) (fun _ jj _=>i+1-(intOf jj).toNat);case atStart=>exact⟨0,by omega,rfl,rfl,hL⟩
   case round =>
    clear hL;obtain⟨j,hj,rfl,rfl,hL⟩:=hrel;by_cases hji:j≤i
    ·have j0:(0:Int)≤(j:Int):=by omega
     have j1:(j:Int)<17:=by omega
     have j2:(j:Int)≤(i:Int):=by omega
     have x1:(i:Int)-(j:Int)=((i-j:Nat):Int):=by omega
     have z1:IntKind.i64.wrap ((i-j:Nat):Int)=((i-j:Nat):Int):=IntWalk.i64_in _ (by omega);have y0:(0:Int)≤((i-j:Nat):Int):=by omega
     have y1:((i-j:Nat):Int)<17:=by omega
     have HS:=Hd (show cv h r i (j+1)=cv h r i j+h j*r (i-j)from by show cv h r i j+h j*w5 r j i=_;unfold w5;rw[if_pos hji]);obtain⟨c0,c1⟩:=HCV.out i j;obtain⟨h0,h1⟩:=HH.out j;obtain⟨r0,r1⟩:=HR.out (i-j);haveI g1:Cell (ao 17 h) j (.int .i64 (h j)):=bQ _ (by omega);haveI g2:Cell (ao 17 r) (i-j) (.int .i64 (r (i-j))):=bQ _ (by omega);have m0:=Int.mul_nonneg h0 r0;have m1:h j*r (i-j)≤2000*255:=Int.mul_le_mul h1 r1 r0 (by omega);have z2:IntKind.i64.wrap (h j*r (i-j))=h j*r (i-j):=IntWalk.i64_in _ (by omega);have z3:IntKind.i64.wrap (cv h r i j+h j*r (i-j))=cv h r i j+h j*r (i-j):=IntWalk.i64_in _ (by omega);generalize cv h r i j=c,i-j=d,h j=hv at *
     generalize r d=rv at *
     clear HCV HH HR HX0 HX HC0 c0 c1 h0 h1 r0 r1 m0 m1;go_wp2_with (first|(refine aQq ?_;clear hL;intro _ w1 hL));refine wf [(0,true),(1,true),(2,true),(3,false),(4,true),(5,true),(6,true),(7,true),(8,false),(9,true),(10,true),(11,true)] [] [] hL ?_;refine fA ?_;refine fC ?_;clear hL;intro w1 hL;go_wp2_with (first|(refine aQq ?_;clear hL;intro _ w1 hL));go_roundw;case rel=>exact⟨j+1,by omega,by go_num,by rw[HS.out],hL⟩
     case measure=>simp[intOf];omega
    ·obtain rfl:j=i+1:=by omega
     have q1:¬((i+1:Nat):Int)≤(i:Int):=by omega
     have HI:=Hd (show((i+1:Nat):Int)=(i:Int)+1 from by omega);go_wp2_with (first|(refine aQq ?_;clear hL;intro _ w1 hL));go_loopw [7,9] (fun u jj wr=>∃j:Nat,i+1≤j∧j≤17∧jj= .int .i64 j∧u= .int .i64 (cv h r i j)∧Loc w wr [(b5,ao 17 (xK h r i),302),(b4,ao 17 fun _=>0,302),(b3,ao 17 r,302),(b2,ao 17 h,302)]) (fun _ jj _=>17-(intOf jj).toNat);case atStart=>exact⟨i+1,by omega,by omega,by rw[HI.out],rfl,hL⟩
     case round =>
      clear hL;obtain⟨j,hj0,hj,rfl,rfl,hL⟩:=hrel;by_cases hj17:j<17
      ·have j0:(0:Int)≤(j:Int):=by omega
       have j1:(j:Int)<17:=by omega
       have x1:(i:Int)+17-(j:Int)=((i+17-j:Nat):Int):=by omega
       have z0:IntKind.i64.wrap ((i:Int)+17)=(i:Int)+17:=IntWalk.i64_in _ (by omega);have z1:IntKind.i64.wrap ((i+17-j:Nat):Int)=((i+17-j:Nat):Int):=IntWalk.i64_in _ (by omega);have y0:(0:Int)≤((i+17-j:Nat):Int):=by omega
       have y1:((i+17-j:Nat):Int)<17:=by omega
       have HS:=Hd (show cv h r i (j+1)=cv h r i j+320*h j*r (i+17-j)from by show cv h r i j+h j*w5 r j i=_;unfold w5;rw[if_neg (by omega)];grind);obtain⟨c0,c1⟩:=HCV.out i j;obtain⟨h0,h1⟩:=HH.out j;obtain⟨r0,r1⟩:=HR.out (i+17-j);haveI g1:Cell (ao 17 h) j (.int .i64 (h j)):=bQ _ (by omega);haveI g2:Cell (ao 17 r) (i+17-j) (.int .i64 (r (i+17-j))):=bQ _ (by omega);have m0:=Int.mul_nonneg (show 0≤320*h j by omega) r0;have m1:320*h j*r (i+17-j)≤640000*255:=Int.mul_le_mul (by omega) r1 r0 (by omega);have z2:IntKind.i64.wrap (320*h j)=320*h j:=IntWalk.i64_in _ (by omega);have z4:IntKind.i64.wrap (320*h j*r (i+17-j))=320*h j*r (i+17-j):=IntWalk.i64_in _ (by omega);have z3:IntKind.i64.wrap (cv h r i j+320*h j*r (i+17-j))=cv h r i j+320*h j*r (i+17-j):=IntWalk.i64_in _ (by omega);generalize cv h r i j=c,i+17-j=d,h j=hv at *
       generalize r d=rv at *
       clear HCV HH HR HX0 HX HC0 c0 c1 h0 h1 r0 r1 m0 m1;go_wp2_with (first|(refine aQq ?_;clear hL;intro _ w1 hL));refine wf [(0,true),(1,true),(2,true),(3,false),(4,true),(5,true),(6,true),(7,true),(8,true),(9,true),(10,false),(11,true),(12,true),(13,true)] [] [] hL ?_;refine fA ?_;refine fC ?_;clear hL;intro w1 hL;go_wp2_with (first|(refine aQq ?_;clear hL;intro _ w1 hL));go_roundw;case rel=>exact⟨j+1,by omega,by omega,by go_num,by rw[HS.out],hL⟩
       case measure=>simp[intOf];omega
      ·obtain rfl:j=17:=by omega
       haveI g3:Put (ao 17 (xK h r i)) i (.int .i64 (cv h r i 17)) (ao 17 (xK h r (i+1))):=dS hlt fun j hj=>by
        unfold xK;by_cases c:j=i
        ·subst c;rw[if_pos rfl,if_pos (by omega)]
        ·rw[if_neg c];by_cases d:j<i
         ·rw[if_pos d,if_pos (by omega)]
         ·rw[if_neg d,if_neg (by omega)]
       clear HCV HH HR HX0 HX HC0 HI;go_wp2_with (first|(refine aQq ?_;clear hL;intro _ w1 hL));go_roundw;case rel=>exact⟨i+1,by omega,by go_num,hL⟩
       case measure=>simp[intOf];omega
  ·obtain rfl:i=17:=by omega
   rw[HX.out]at hL;go_wp2_with (first|(refine aQq ?_;clear hL;intro _ w1 hL));exact bodyPost_ret (ai rfl hL rfl) rfl ⟨rfl,hL.bel⟩
instance QD:Ent 236:=eo func236
theorem zx{f:Nat→Int}{B:Int}(h:∀i,0≤f i∧f i≤B)(hB:0≤B):∀k:Nat,0≤aK f k∧aK f k≤B*2^(8*k)
 | 0=>by show(0:Int)≤0∧(0:Int)≤B*1;omega
 | k+1=>by
  have ih:=zx h hB k;show 0≤aK f k+f k*2^(8*k)∧aK f k+f k*2^(8*k)≤B*2^(8*(k+1));rw[Fy,show(2:Int)^(8*1)=256 from rfl];have hE:(0:Int)<2^(8*k):=Int.pow_pos (by omega);generalize(2:Int)^(8*k)=E at *
  have hk:=h k;have m0:=Int.mul_nonneg hk.1 (Int.le_of_lt hE);have m1:f k*E≤B*E:=Int.mul_le_mul_of_nonneg_right hk.2 (Int.le_of_lt hE);have m2:=Int.mul_nonneg hB (Int.le_of_lt hE);have e:B*(E*256)=256*(B*E):=by grind
  omega
theorem vu{n:Nat}(h:n<2^180):f5 n<2^131:=by
 unfold f5;have h1:n%2^130<2^130:=Nat.mod_lt _ (Nat.two_pow_pos _);have h2:n/2^130<2^50:=by
  rw[Nat.div_lt_iff_lt_mul (Nat.two_pow_pos _),← Nat.pow_add];exact h
 have e:(2:Nat)^131=2^130+2^130:=by decide +kernel
 have e2:5*(2:Nat)^50<2^130:=by decide +kernel
 generalize(2:Nat)^130=E at *
 omega
theorem FS{n:Nat}(h:n<2^131):f5 n<2*P5∧f5 n+5<2^130+16:=by
 unfold f5;have h1:n%2^130<2^130:=Nat.mod_lt _ (Nat.two_pow_pos _);have h2:n/2^130<2:=by
  rw[Nat.div_lt_iff_lt_mul (Nat.two_pow_pos _),← Nat.pow_succ'];exact h
 rw[zv]at *
 have:16<P5:=by decide +kernel
 generalize n/(P5+5)=q,n%(P5+5)=r at *
 omega
theorem zy{n:Nat}(h:n<2^131)(i:Nat):rD n i≤260:=by
 unfold rD;have h2:n/2^130<2:=by
  rw[Nat.div_lt_iff_lt_mul (Nat.two_pow_pos _),← Nat.pow_succ'];exact h
 have:=du n i;split
 ·omega
 ·split <;> omega
def bi(h:Nat→Int)(i:Nat):Int:=if i=0 then h 0+5 else h i
theorem ri(h:Nat→Int):∀k,aK (bi h) (k+1)=aK h (k+1)+5
 | 0=>by
  show 0+bi h 0*2^(8*0)=0+h 0*2^(8*0)+5;unfold bi;rw[if_pos rfl,Nat.mul_zero,Int.pow_zero];omega
 | k+1=>by
  show aK (bi h) (k+1)+bi h (k+1)*_=aK h (k+1)+h (k+1)*_+5;rw[ri h k,show bi h (k+1)=h (k+1)from if_neg (by omega)];omega
theorem A9{W:Nat}{h:Nat→Int}(h0:∀i,0≤h i)(hv:aK h 17=W)(hW:W<2*P5∧W+5<2^130+16) :
 (d5 (bi h) 16<4→W%P5=W)∧(¬d5 (bi h) 16<4→aK (fun i=>if i=16 then d5 (bi h) 16-4 else d5 (bi h) i) 17=(W%P5:Nat)):=by
 have hp:∀i,0≤bi h i:=fun i=>by unfold bi;have:=h0 0;have:=h0 i;split <;> omega
 have v1:=tr (bi h) 17;rw[ri h 16,hv]at v1;have n16:=gY (fp (bi h)) 16;have hc:=jH hp 17;have e17:aK (d5 (bi h)) 17=aK (d5 (bi h)) 16+d5 (bi h) 16*2^(8*16):=rfl;have hd:=fp (bi h) 16;have eP:(2:Int)^(8*16)*4=(P5:Int)+5:=by decide +kernel
 have e136:(2:Int)^(8*17)=2^(8*16)*256:=by decide +kernel
 have e130:(2:Nat)^130=P5+5:=zv;have hq:16<P5:=by decide +kernel
 have hvl:aK (fun i=>if i=16 then d5 (bi h) 16-4 else d5 (bi h) i) 17=aK (d5 (bi h)) 16+(d5 (bi h) 16-4)*2^(8*16):=by
  show aK (fun i=>if i=16 then d5 (bi h) 16-4 else d5 (bi h) i) 16+_=_;rw[cW (g:=d5 (bi h)) 16 fun i hi=>by rw[if_neg (by omega)]];rfl
 rw[hvl];rw[e17,e136]at v1;rw[e130]at hW;generalize c5 (bi h) 17=c,aK (d5 (bi h)) 16=S,d5 (bi h) 16=x,(2:Int)^(8*16)=E at *
 have hc0:c=0:=by
  by_cases hc1:0<c
  ·have m1:1*(E*256)≤c*(E*256):=Int.mul_le_mul_of_nonneg_right hc1 (by omega)
   have m2:0≤x*E:=Int.mul_nonneg hd.1 (by omega);omega
  ·omega
 subst hc0;rw[Int.zero_mul]at v1;constructor
 ·intro hx
  have m:x*E≤3*E:=Int.mul_le_mul_of_nonneg_right (by omega) (by omega);exact Nat.mod_eq_of_lt (by omega)
 ·intro hx
  have m:4*E≤x*E:=Int.mul_le_mul_of_nonneg_right (by omega) (by omega);have:W%P5=W-P5:=by rw[Nat.mod_eq_sub_mod (by omega),Nat.mod_eq_of_lt (by omega)]
  rw[this,Int.sub_mul];omega
def mR(h:Nat→Int)(i j:Nat):Int:=if j<i then d5 (bi h) j else h j
def uW(h:Nat→Int)(i:Nat):Int:=if i=0 then 5 else c5 (bi h) i
theorem Ba(V:Nat)(hV:V<2^131):∃x:Nat→Int,(∀i,0≤x i∧x i≤260)∧aK x 17=(f5 V%P5:Nat)∧∀w,Rt 237 #[.agg (ao 17 fun i=>(rD V i:Int))] w (.agg (ao 17 x)):=by
 have hV1:f5 V<2^131:=vu (Nat.lt_of_lt_of_le hV (Nat.pow_le_pow_right (by omega) (by omega)));have hV2:f5 (f5 V)<2^131:=vu (Nat.lt_of_lt_of_le hV1 (Nat.pow_le_pow_right (by omega) (by omega)));have hV3:f5 (f5 (f5 V))<2^131:=vu (Nat.lt_of_lt_of_le hV2 (Nat.pow_le_pow_right (by omega) (by omega)));have hcar:=ng (fun i=>(rD V i:Int)) fun i=>by have:=zy hV i;omega
 rw[pK,Int.toNat_natCast]at hcar;have hn:=FS hV3;have hmod:f5 (f5 (f5 (f5 V)))%P5=f5 V%P5:=by rw[iO,iO,iO]
 have hbd:=zy hV3;obtain⟨h,hh⟩:∃h:Nat→Int,h=fun i=>(rD (f5 (f5 (f5 V))) i:Int):=⟨_,rfl⟩;have hval:aK h 17=(f5 (f5 (f5 (f5 V))):Nat):=by rw[hh,pK]
 have hb:∀i,0≤h i∧h i≤260:=fun i=>by rw[hh];have:=hbd i;dsimp only;omega
 rw[← hh]at hcar;obtain⟨k1,k2⟩:=A9 (fun i=>(hb i).1) hval hn;rw[hmod]at k1 k2;haveI fc:FnC 267 #[.agg (ao 17 fun i=>(rD V i:Int))] (.agg (ao 17 h)):=⟨hcar⟩;clear hcar hV hV1 hV2 hV3 hn hbd hh;generalize(fun i=>(rD V i:Int))=inp at *
 have hpb:∀i,0≤bi h i∧bi h i≤265:=fun i=>by unfold bi;have:=hb 0;have:=hb i;split <;> omega
 refine⟨if d5 (bi h) 16<4 then h else fun i=>if i=16 then d5 (bi h) 16-4 else d5 (bi h) i,fun i=>?_,?_,fun w=>?_⟩
 ·by_cases hx:d5 (bi h) 16<4
  ·rw[if_pos hx];exact hb i
  ·rw[if_neg hx]
   have:=fp (bi h) 16;have:=fp (bi h) i;show 0≤(if i=16 then _ else _)∧(if i=16 then _ else _)≤(260:Int);split <;> omega
 ·by_cases hx:d5 (bi h) 16<4
  ·rw[if_pos hx,hval,← k1 hx]
  ·rw[if_neg hx,k2 hx]
 have hL:=Loc.nil w;generalize hres:(if d5 (bi h) 16<4 then h else fun i=>if i=16 then d5 (bi h) 16-4 else d5 (bi h) i)=res;have HRES:=Hd hres;clear hres;have HB:=Hd hb;have HC:=Hd (fun i=>(⟨jH (fun i=>(hpb i).1) i,vr hpb (by omega) i⟩:0≤c5 (bi h) i∧c5 (bi h) i≤265));have HM0:=Hd (show ao 17 h=ao 17 (mR h 0)from ak fun i _=>by unfold mR;rw[if_neg (by omega)]);have HM:=Hd (show ao 17 (mR h 17)=ao 17 (d5 (bi h))from ak fun i hi=>by unfold mR;rw[if_pos hi]);have HD:=Hd (fp (bi h));clear hb hpb k1 k2 hval hmod;go_enter func237,ntmps237;go_wp2_with (first|(refine gBp 1 ?_;clear hL;intro b1 w1 hL)|(refine gBp 2 ?_;clear hL;intro b2 w1 hL)|(refine gBp 3 ?_;clear hL;intro b3 w1 hL)|(refine aQq ?_;clear hL;intro _ w1 hL));have hL0:=hL;clear hL;have hL:Loc w w1 [(b3,ao 17 (mR h 0),302),(b2,ao 17 fun _=>0,302),(b1,ao 17 h,302)]:=by rw[← HM0.out];exact hL0
 clear hL0;go_loopw [4,5] (fun u ii wr=>∃i:Nat,i≤17∧ii= .int .i64 i∧u= .int .i64 (uW h i)∧Loc w wr [(b3,ao 17 (mR h i),302),(b2,ao 17 fun _=>0,302),(b1,ao 17 h,302)]) (fun _ ii _=>17-(intOf ii).toNat);case atStart=>exact⟨0,by omega,rfl,rfl,hL⟩
 case round =>
  clear hL;obtain⟨i,hi,rfl,rfl,hL⟩:=hrel;by_cases hlt:i<17
  ·have i0:(0:Int)≤(i:Int):=by omega
   have i1:(i:Int)<17:=by omega
   have hs:uW h i+h i=c5 (bi h) i+bi h i:=by
    unfold uW bi;by_cases c:i=0
    ·subst c;rw[if_pos rfl,if_pos rfl];show 5+h 0=0+(h 0+5);omega
    ·rw[if_neg c,if_neg c]
   have HS:=Hd (show uW h (i+1)=(uW h i+h i)/256 from by rw[hs];unfold uW;rw[if_neg (by omega)];rfl);have hu:0≤uW h i∧uW h i≤265:=by unfold uW;have:=HC.out i;split <;> omega
   obtain⟨h0,h1⟩:=HB.out i;have ha:=and_255 (uW h i+h i);haveI g1:Cell (ao 17 (mR h i)) i (.int .i64 (h i)):=by
    have:=bQ (n:=17) (mR h i) (k:=i) (by omega);rwa[show mR h i i=h i from by unfold mR;rw[if_neg (by omega)]]at this
   haveI g2:Put (ao 17 (mR h i)) i (.int .i64 ((uW h i+h i)%256)) (ao 17 (mR h (i+1))):=dS hlt fun j hj=>by
    unfold mR;by_cases c:j=i
    ·subst c;rw[if_pos rfl,if_pos (by omega),hs];rfl
    ·rw[if_neg c];by_cases d:j<i
     ·rw[if_pos d,if_pos (by omega)]
     ·rw[if_neg d,if_neg (by omega)]
   clear hs HC HM0 HM HD HB;generalize uW h i=u at *
   generalize h i=x at *
   go_wp2_with (first|(refine aQq ?_;clear hL;intro _ w1 hL));go_roundw;case rel=>exact⟨i+1,by omega,by go_num,by rw[HS.out],hL⟩
   case measure=>simp[intOf];omega
  ·obtain rfl:i=17:=by omega
   rw[HM.out]at hL;have hd:=HD.out 16;haveI g1:Cell (ao 17 (d5 (bi h))) 16 (.int .i64 (d5 (bi h) 16)):=bQ _ (by omega);haveI g2:Put (ao 17 (d5 (bi h))) 16 (.int .i64 (d5 (bi h) 16-4)) (ao 17 fun i=>if i=16 then d5 (bi h) 16-4 else d5 (bi h) i):=dS (by omega) fun j hj=>rfl;clear HC HM0 HM HD HB;have he:=HRES.out;clear HRES;generalize(fun i=>if i=16 then d5 (bi h) 16-4 else d5 (bi h) i)=o at *
   by_cases hx:d5 (bi h) 16<4
   ·rw[if_pos hx]at he
    have HE:=Hd he;clear he;generalize d5 (bi h) 16=x at *
    have hx2:¬4≤x:=by omega
    go_wp2_with (first|(refine aQq ?_;clear hL;intro _ w1 hL));rw[HE.out]at hL;exact bodyPost_ret (ai rfl hL rfl) rfl ⟨rfl,hL.bel⟩
   ·rw[if_neg hx]at he
    have HE:=Hd he;clear he;generalize d5 (bi h) 16=x at *
    have hx2:4≤x:=by omega
    go_wp2_with (first|(refine aQq ?_;clear hL;intro _ w1 hL));rw[HE.out]at hL;exact bodyPost_ret (ai rfl hL rfl) rfl ⟨rfl,hL.bel⟩
instance QE:Ent 237:=eo func237
end R3
end Go.Proofs.YtoifhhljfaoejaaGreatDoor
