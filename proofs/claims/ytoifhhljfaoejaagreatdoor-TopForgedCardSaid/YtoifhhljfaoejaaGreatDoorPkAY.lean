/-
  Lemmas of the law, part 25: the walks of the functions that it calls and the plain facts about them. No condition beyond those written.
-/
import Derived.Test.YtoifhhljfaoejaaGreatDoorPkAA
import Derived.Test.YtoifhhljfaoejaaGreatDoorPkAR
import Derived.Test.YtoifhhljfaoejaaGreatDoorPkAW
import Derived.Test.YtoifhhljfaoejaaGreatDoorPkAX
import Derived.Test.YtoifhhljfaoejaaGreatDoorPkAL
import Derived.Test.YtoifhhljfaoejaaGreatDoorPkAQ
set_option maxRecDepth 100000
set_option maxHeartbeats 8000000
set_option linter.unusedVariables false
set_option linter.unusedSimpArgs false
set_option linter.unusedSectionVars false
namespace Go.Proofs.YtoifhhljfaoejaaGreatDoor
open Go.Proofs.Tryz
section
open Go Go.RowKit Go.Shelf
section
variable {ops:Array Oper} {rest:List Oper} {o:Oper} {a:Act} {w0 w:World} {M M':Mem} {Q:Exit→Act→World→Prop} {K:Act→World→Prop}
theorem yk(x1 x2 x3 x4:BitVec 8){b:Nat}(hL:Loc w0 w M){u:Operand}(ho:o.op= .convert 29 29 u)(hu:a.eval u= .slice (some ⟨b,0,none⟩) 4 4){r:Array Value}{t:TypeId}[hm:At M b r t][hr:Rem M b M'](ht:t=5)(hx:r=(an [x1,x2,x3,x4]).toArray)(hn:∀r' t',(b,r',t') ∉ M')(h:∀w',BRow w' (.slice (some ⟨b,0,none⟩) 4 4) [x1,x2,x3,x4]→Loc w0 w' M'→K (a.put o.dst (.slice (some ⟨b,0,none⟩) 4 4)) w'):o.wp prog a w K Q:=by
 subst ht hx;obtain⟨w',hrun,h1,h2,h3,h4,h5,h6⟩:=kv (hL.get hm.mem) 4 4;have hge:=hL.ge hm.mem;have hL':=hL.sub hr.sub;unfold Oper.wp execOp;simp only[ho,hu,Sem.run_bind,hrun,Result.andThen_ok,Sem.run_pure];refine h w' (nK (c:=4) [x1,x2,x3,x4] h1) ⟨⟨?_,?_,?_,?_,?_⟩,fun c r t hc=>?_,hL'.nd⟩
 ·rw[h4,hL.bel.os]
 ·rw[h5,hL.bel.tape]
 ·rw[h6,hL.bel.output]
 ·rw[h3];exact hL.bel.size
 ·intro k hk
  rw[h2 k (by omega),hL.bel.block k hk]
 ·have hne:c≠b:=fun e=>by subst e;exact hn r t hc
  exact⟨hL'.ge hc,(h2 c hne).trans (hL'.get hc)⟩
theorem yl(hL:Loc w0 w M){t e:TypeId}{x:Operand}(ho:o.op= .buildSlice t 1 #[(0,x)])[he:Elt t e]{d:IntKind}{n:Int}(hx:a.eval x= .int d n)(h:∀b w',Below w.heap.size w w'→Loc w0 w' ((b, #[.int d n],e)::M)→K (a.put o.dst (.slice (some ⟨b,0,none⟩) 1 1)) w'):o.wp prog a w K Q:=by
 obtain⟨i,z,hi,hz,hs1,hb,hzs⟩:=he.info;refine wp_buildSlice t e 1 #[(0,x)] ho #[.int d n] i z he.und hi hz (by rw[hs1];decide) (by rw[hs1];decide) ?_ (h _ _ (iG (Below.refl _ _) _) (hL.alloc #[.int d n] e));rw[hs1];have e:(Array.map (fun(y:Nat×Operand)=>(y.1,a.eval y.2)) #[(0,x)]).toList=[(0,.int d n)]:=by simp[hx]
 rw[e];have e1:Array.range 1= #[0]:=rfl;simp[Instr.fill,Value.cells,e1]
end
theorem mh(id:Int)(key:Nat→BitVec 8)(w:World)(h0:0≤id)(h1:id≤2147483647) :
 Calls prog 82 #[.int .i64 id,.agg (aa 32 key)] w fun e w'=>∃g cap cur,e= .returned (.slice (some ⟨g,0,none⟩) 44 cap)∧OwnR cur 44 cap (an (dt id key))∧Loc w w' [(g,cur,5)]:=by
 have hL:=Loc.nil w;have hp:=(fun w1 (u1 u2:Value) (h2:BRow w1 u1 [80,67,67,84]) (h3:VRow w1 u2 (dq [id]))=>iK u1 [80,67,67,84] u2 [id] w1 h2 (fun h=>by cases h) (by decide) h3 (by simp) (by simp) (fun x hx=>by
  obtain rfl:=List.mem_singleton.1 hx;omega))
 obtain⟨l1,hl1⟩:∃l1,l1=[80,67,67,84]++aX [id]:=⟨_,rfl⟩;have hn1:l1.length=12:=by rw[hl1];simp[bg]
 have hct:dt id key=l1++ae 32 key:=by rw[hl1];unfold dt aX;simp
 rw[← hl1]at hp;rw[hct];simp only[Fresh,hn1,gZ]at hp;have HP:=Hd hp;haveI s4:Seg (aa 32 key) 0 32 (an (ae 32 key)):=fT 32 key;clear hl1 hct hp hn1 h0 h1;go_enter func82,ntmps82;go_wp2_with (first|refine aU ?_|(refine gBp 3 ?_;clear hL;intro b3 w1 hL)|(refine ah ?_;clear hL;intro w1 hL));refine jx (R:=?R) (fun hR=>?h1) ?h2;case h1 =>
  refine mX (S:=(fun _=>True)) 8 (trivial) ?_;intro hHeld;replace hL:=hL.drew;refine uG 2 ?_;refine uG 5 ?_;refine rd2 0 3 ?_ ?_
  ·intro K hK
   first|refine zM hL rfl rfl rfl rfl rfl fun b5 w1 hL1=>?_
   clear hL;have hL:=hL1;clear hL1;refine kO hK (trivial) ?_;clear hK K hHeld;intro hHeld;refine rd2 1 3 ?_ ?_
   ·intro K hK
    refine yk 80 67 67 84 hL rfl rfl rfl rfl (by intro r' t' hc;simp only[List.mem_cons,List.not_mem_nil,or_false,Prod.mk.injEq]at hc;have hnd:=hL.nd;simp only[List.map_cons,List.map_nil,List.pairwise_cons,List.mem_cons,List.not_mem_nil,or_false]at hnd;revert hc hnd;clear hL;intro hc hnd;grind) fun w1 hb6 hL1=>?_;clear hL;have hL:=hL1;clear hL1;refine kO hK (trivial) ?_;clear hK K hHeld;intro hHeld;refine rd1 3 ?_;intro K hK;refine yl hL rfl rfl fun b8 w1 hN hL1=>?_
    try replace hb6:=BRow.below hb6 hN
    clear hN;clear hL;have hL:=hL1;clear hL1;refine kO hK (trivial) ?_;clear hK K hHeld;intro hHeld;refine rd1 4 ?_;intro K hK;refine eK (HP.out _ _ _ hb6 (See.see (v:= .slice (some ⟨b8,0,none⟩) 1 1) _ hL)) ?_;rintro e w1⟨g9,cap9,cur9,rfl,hr9,hN⟩;refine⟨_,rfl,?_⟩;have hL1:=hL.fresh hN.2.2 hN.1 hN.2.1;clear hN hb6;clear hL;revert hL1;refine aN ?_;intro hL;refine kO hK (trivial) ?_;clear hK K hHeld;intro hHeld;refine rd1 6 ?_;intro K hK;refine oV hL rfl rfl rfl (by clear hR;omega) ?_;clear hL;intro g11 cap11 cur11 w1 hr11 hL
    (try dsimp only at hL)
    refine kO hK (trivial) ?_;clear hK K hHeld;intro hHeld;refine uG 7 ?_;refine wD ?_;clear hHeld;have hLp:=hL;clear hL;revert hLp;revert w1;revert hr11;revert cur11;revert cap11;revert g11;revert hr9;revert cur9;revert cap9;revert g9;revert b8;revert b5;exact pm hR
   ·intro K hK
    refine yl hL rfl rfl fun b8 w1 hN hL1=>?_
    try replace hb6:=BRow.below hb6 hN
    clear hN;clear hL;have hL:=hL1;clear hL1;refine kO hK (trivial) ?_;clear hK K hHeld;intro hHeld;refine rd1 1 ?_;intro K hK;refine yk 80 67 67 84 hL rfl rfl rfl rfl (by intro r' t' hc;simp only[List.mem_cons,List.not_mem_nil,or_false,Prod.mk.injEq]at hc;have hnd:=hL.nd;simp only[List.map_cons,List.map_nil,List.pairwise_cons,List.mem_cons,List.not_mem_nil,or_false]at hnd;revert hc hnd;clear hL;intro hc hnd;grind) fun w1 hb6 hL1=>?_;clear hL;have hL:=hL1;clear hL1;refine kO hK (trivial) ?_;clear hK K hHeld;intro hHeld;refine rd1 4 ?_;intro K hK;refine eK (HP.out _ _ _ hb6 (See.see (v:= .slice (some ⟨b8,0,none⟩) 1 1) _ hL)) ?_;rintro e w1⟨g9,cap9,cur9,rfl,hr9,hN⟩;refine⟨_,rfl,?_⟩;have hL1:=hL.fresh hN.2.2 hN.1 hN.2.1;clear hN hb6;clear hL;revert hL1;refine aN ?_;intro hL;refine kO hK (trivial) ?_;clear hK K hHeld;intro hHeld;refine rd1 6 ?_;intro K hK;refine oV hL rfl rfl rfl (by clear hR;omega) ?_;clear hL;intro g11 cap11 cur11 w1 hr11 hL
    (try dsimp only at hL)
    refine kO hK (trivial) ?_;clear hK K hHeld;intro hHeld;refine uG 7 ?_;refine wD ?_;clear hHeld;have hLp:=hL;clear hL;revert hLp;revert w1;revert hr11;revert cur11;revert cap11;revert g11;revert hr9;revert cur9;revert cap9;revert g9;revert b8;revert b5;exact pm hR
  ·intro K hK
   refine yl hL rfl rfl fun b8 w1 hN hL1=>?_
   try replace hb6:=BRow.below hb6 hN
   clear hN;clear hL;have hL:=hL1;clear hL1;refine kO hK (trivial) ?_;clear hK K hHeld;intro hHeld;refine rd1 0 ?_;intro K hK
   first|refine zM hL rfl rfl rfl rfl rfl fun b5 w1 hL1=>?_
   clear hL;have hL:=hL1;clear hL1;refine kO hK (trivial) ?_;clear hK K hHeld;intro hHeld;refine rd1 1 ?_;intro K hK;refine yk 80 67 67 84 hL rfl rfl rfl rfl (by intro r' t' hc;simp only[List.mem_cons,List.not_mem_nil,or_false,Prod.mk.injEq]at hc;have hnd:=hL.nd;simp only[List.map_cons,List.map_nil,List.pairwise_cons,List.mem_cons,List.not_mem_nil,or_false]at hnd;revert hc hnd;clear hL;intro hc hnd;grind) fun w1 hb6 hL1=>?_;clear hL;have hL:=hL1;clear hL1;refine kO hK (trivial) ?_;clear hK K hHeld;intro hHeld;refine rd1 4 ?_;intro K hK;refine eK (HP.out _ _ _ hb6 (See.see (v:= .slice (some ⟨b8,0,none⟩) 1 1) _ hL)) ?_;rintro e w1⟨g9,cap9,cur9,rfl,hr9,hN⟩;refine⟨_,rfl,?_⟩;have hL1:=hL.fresh hN.2.2 hN.1 hN.2.1;clear hN hb6;clear hL;revert hL1;refine aN ?_;intro hL;refine kO hK (trivial) ?_;clear hK K hHeld;intro hHeld;refine rd1 6 ?_;intro K hK;refine oV hL rfl rfl rfl (by clear hR;omega) ?_;clear hL;intro g11 cap11 cur11 w1 hr11 hL
   (try dsimp only at hL)
   refine kO hK (trivial) ?_;clear hK K hHeld;intro hHeld;refine uG 7 ?_;refine wD ?_;clear hHeld;have hLp:=hL;clear hL;revert hLp;revert w1;revert hr11;revert cur11;revert cap11;revert g11;revert hr9;revert cur9;revert cap9;revert g9;revert b8;revert b5;exact pm hR
 intro b5 b8 g9 cap9 cur9 hr9 g11 cap11 cur11 hr11 w1 hL1;clear hL;have hL:=hL1;clear hL1;go_wp2_with (first|refine aU ?_|(refine ah ?_;clear hL;intro w1 hL));go_ret;exact⟨g11,cap11,cur11,rfl,hr11,hL.sub ((List.nil_sublist _).cons_cons _)⟩
instance Ry:Ent 82:=eo func82
instance Rz(id:Int)(key cs:Nat→BitVec 8):Part (ctR id key cs) 77 1 24 (aa 32 key):=ce (pre:= #[.int .i64 id]) (post:=aa 64 cs) rfl rfl
theorem mU(k:Nat→BitVec 8)(id:Int)(key cs:Nat→BitVec 8)(w:World)[hG:Glob w][hI:GlobI w](h0:0≤id)(h1:id≤2147483647) :
 Rt 69 #[.agg (aa 32 k),.agg (ctR id key cs)] w (.bool (fZ k id key cs)):=by
 have hL:=Loc.nil w;have HM:=Hd (fun w1=>(jG id h0 h1).calls w1);have HT:=Hd (fun w1=>mh id key w1 h0 h1);have hlen:(dt id key).length=44:=by unfold dt;simp[aO,ag]
 have HV:=Hd (fun w1 (hb1:Below w.heap.size w w1) (u:Value) (hu:BRow w1 u (dt id key))=> @R3.refVerify_any k cs u (dt id key) w1 (hG.below hb1) (hI.below hb1) hu (by omega));have HC:=Hd (show dD (leN k) (leN cs) (leN fun i=>cs (32+i)) (dt id key)=fZ k id key cs from rfl);rw[HC.out]at HV;clear HC h0 h1 hlen;generalize fZ k id key cs=C,dt id key=T at *
 go_enter func69,ntmps69;go_wp2_with (first|refine aU ?_|(refine gBp 2 ?_;clear hL;intro b2 w1 hL)|(refine gBp 3 ?_;clear hL;intro b3 w1 hL)|(refine ah ?_;clear hL;intro w1 hL));refine mX (S:=fun w'=>Loc _ w' _) 15 (hL.drew) ?_;intro hHeld;replace hL:=hL.drew;refine uG 0 ?_;refine uZ 1 ?_;refine rd1 2 ?_;intro K hK;refine eVv (HM.out _) hL ?_;clear hL;intro w1 hL;refine kO hK (hL) ?_;clear hK K hHeld;intro hHeld;refine uG 3 ?_;refine uL 4 ?_;refine uS 5 ?_;refine uS 7 ?_;refine uS 9 ?_;refine uL 6 ?_;refine uL 8 ?_;refine uL 10 ?_;refine rd1 11 ?_;intro K hK;refine eK (HT.out _) ?_;rintro e w1⟨g16,cap16,cur16,rfl,hr16,hN⟩;refine⟨_,rfl,?_⟩;have hL1:=hL.join hN;clear hN hL;revert hL1;refine aJ ?_;intro hL;refine kO hK (hL.pop) ?_;clear hK K hHeld;intro hHeld;refine rd1 12 ?_;intro K hK;refine eVv (HV.out _ hL.bel (.slice (some ⟨g16,0,none⟩) 44 cap16) (See.bytes hL)) hL ?_;clear hL;intro w1 hL;refine kO hK (hL.pop) ?_;clear hK K hHeld;intro hHeld;refine uG 13 ?_;refine uG 14 ?_;refine wD ?_;clear hHeld;go_wp2_with (first|refine aU ?_|(refine ah ?_;clear hL;intro w1 hL));go_ret;exact⟨rfl,hL.bel⟩
theorem tB(m:Man)(hm:m.Ok)(k:Nat→BitVec 8)(p:Option Addr)(c:Nat)(w:World)[hG:Glob w][hI:GlobI w](hv:BRow w (.slice p 80 c) m.wr) :
 Rt 28 #[.agg (aa 32 k),.agg (m.row p 80 c)] w (.int .i64 (if m.good k then 0 else 11)):=by
 have hL:=Loc.nil w;have HB:=Hd (fun w1 (hb1:Below w.heap.size w w1)=>gD m hm p c w1 (hv.below hb1));have hbl:=Man.body_length hm;have HC:=Hd (fun w1 (hb1:Below w.heap.size w w1)=> @mU k m.id m.key m.cs w1 (hG.below hb1) (hI.below hb1) hm.i0 hm.i1);have HS:=Hd (fun w1 (hb1:Below w.heap.size w w1) (u:Value) (hu:BRow w1 u m.body)=> @R3.refVerify_any m.key m.sg u m.body w1 (hG.below hb1) (hI.below hb1) hu (by omega));have HSO:=Hd (show dD (leN m.key) (leN m.sg) (leN fun i=>m.sg (32+i)) m.body=kU m.key m.sg m.body from rfl);rw[HSO.out]at HS;have HG:=Hd (show m.good k=(fZ k m.id m.key m.cs&&kU m.key m.sg m.body)from rfl);rw[HG.out];clear HSO HG hv hbl hm;generalize fZ k m.id m.key m.cs=C,kU m.key m.sg m.body=S at *
 have HROW:=Hd (show m.row p 80 c=mfR m.ver m.blk m.root p 80 c m.id m.key m.cs m.sg from rfl);rw[HROW.out]at HB ⊢;clear HROW;obtain⟨b,hb⟩:∃b,b=m.body:=⟨_,rfl⟩;rw[← hb]at HB HS;clear hb;obtain⟨ver,blk,root,wr,id,key,cs,sg⟩:=m;dsimp only at *
 cases C
 ·rw[show(if(false&&S)=true then(0:Int)else 11)=11 from by simp]
  go_enter func28,ntmps28;go_wp2_with (first|refine aU ?_|(refine gBp 2 ?_;clear hL;intro b2 w1 hL)|(refine gBp 3 ?_;clear hL;intro b3 w1 hL)|(refine gN 11 ?_;refine lKk (HB.out _ hL.bel) ?_;rintro e w1⟨g9,cap9,cur9,rfl,hr9,hN⟩;have hL1:=hL.join hN;clear hN hL;revert hL1;refine aH ?_;intro hL)|(go_at_call 69;go_loud (refine(HC.out _ hL.bel).mono ?_);rintro e w1⟨rfl,hb1⟩;have hL1:=hL.keep hb1;clear hb1;clear hL;have hL:=hL1;clear hL1;refine p4 ?_)|(refine ah ?_;clear hL;intro w1 hL));go_ret;exact⟨rfl,hL.bel⟩
 ·cases S
  ·rw[show(if(true&&false)=true then(0:Int)else 11)=11 from by simp]
   go_enter func28,ntmps28;go_wp2_with (first|refine aU ?_|(refine gBp 2 ?_;clear hL;intro b2 w1 hL)|(refine gBp 3 ?_;clear hL;intro b3 w1 hL)|(refine gN 11 ?_;refine lKk (HB.out _ hL.bel) ?_;rintro e w1⟨g9,cap9,cur9,rfl,hr9,hN⟩;have hL1:=hL.join hN;clear hN hL;revert hL1;refine aH ?_;intro hL)|(go_at_call 69;go_loud (refine(HC.out _ hL.bel).mono ?_);rintro e w1⟨rfl,hb1⟩;have hL1:=hL.keep hb1;clear hb1;clear hL;have hL:=hL1;clear hL1;refine p4 ?_)|(go_at_call 70;go_loud (refine(HS.out _ hL.bel (.slice (some ⟨g9,0,none⟩) 236 cap9) (See.bytes hL)).mono ?_);rintro e w1⟨rfl,hb1⟩;have hL1:=hL.keep hb1;clear hb1;clear hL;have hL:=hL1;clear hL1;refine p4 ?_)|(refine ah ?_;clear hL;intro w1 hL));go_ret;exact⟨rfl,hL.bel⟩
  ·rw[show(if(true&&true)=true then(0:Int)else 11)=0 from by simp]
   go_enter func28,ntmps28;go_wp2_with (first|refine aU ?_|(refine gBp 2 ?_;clear hL;intro b2 w1 hL)|(refine gBp 3 ?_;clear hL;intro b3 w1 hL)|(refine gN 11 ?_;refine lKk (HB.out _ hL.bel) ?_;rintro e w1⟨g9,cap9,cur9,rfl,hr9,hN⟩;have hL1:=hL.join hN;clear hN hL;revert hL1;refine aH ?_;intro hL)|(go_at_call 69;go_loud (refine(HC.out _ hL.bel).mono ?_);rintro e w1⟨rfl,hb1⟩;have hL1:=hL.keep hb1;clear hb1;clear hL;have hL:=hL1;clear hL1;refine p4 ?_)|(go_at_call 70;go_loud (refine(HS.out _ hL.bel (.slice (some ⟨g9,0,none⟩) 236 cap9) (See.bytes hL)).mono ?_);rintro e w1⟨rfl,hb1⟩;have hL1:=hL.keep hb1;clear hb1;clear hL;have hL:=hL1;clear hL1;refine p4 ?_)|(refine ah ?_;clear hL;intro w1 hL));go_ret;exact⟨rfl,hL.bel⟩
instance RA:Ent 28:=eo func28
end
section
open Go Go.RowKit Go.Shelf
theorem Ev(id:Int)(key f:Nat→BitVec 8)(w:World):(Instr.build 77 #[(0,.int .i64 id),(1,.agg (aa 32 key)),(2,.agg (aa 64 f))]).run prog w= .ok (.agg (ctR id key f)) w:=by kernel_rfl
instance ctZ:RowZ 77 (ctR 0 (fun _=>0) fun _=>0):=⟨by kernel_rfl⟩
theorem tC(k:Nat→BitVec 8)(id:Int)(key:Nat→BitVec 8)(w:World)[hG:Glob w][hI:GlobI w](h0:0≤id)(h1:id≤2147483647)(hk:(bF (leN key)).isSome=true) :
 Rt 34 #[.agg (aa 32 k),.int .i64 id,.agg (aa 32 key)] w (.tuple #[.agg (ctR id key (kS (ae 32 k) (dt id key))),.int .i64 0]):=by
 have hL:=Loc.nil w;have HM:=Hd (fun w1=>(jG id h0 h1).calls w1);have hmy:=(fun w1 (hb1:Below w.heap.size w w1)=> @R3.refMay_any key w1 (hG.below hb1) (hI.below hb1));rw[hk]at hmy;have HY:=Hd hmy;have HT:=Hd (fun w1=>mh id key w1 h0 h1);have hlen:(dt id key).length=44:=by unfold dt;simp[aO,ag]
 have HS:=Hd (fun w1 (hb1:Below w.heap.size w w1) (u:Value) (hu:BRow w1 u (dt id key))=> @uN k u (dt id key) w1 (hG.below hb1) hu (by omega));clear h0 h1 hlen hk hmy;generalize kS (ae 32 k) (dt id key)=F at *
 generalize dt id key=T at *
 have hbu:=fun w1=>Ev id key F w1;haveI hrr:=Gz id key F;generalize ctR id key F=RR at *
 go_enter func34,ntmps34;go_wp2_with (first|refine aU ?_|(refine gBp 3 ?_;clear hL;intro b3 w1 hL)|(refine gBp 5 ?_;clear hL;intro b5 w1 hL)|(refine gBp 6 ?_;clear hL;intro b6 w1 hL)|(go_at_call 79;go_loud (refine(HM.out _).mono ?_);rintro e w1⟨rfl,hb1⟩;have hL1:=hL.keep hb1;clear hb1;clear hL;have hL:=hL1;clear hL1;refine p4 ?_)|(go_at_call 80;go_loud (refine(HY.out _ hL.bel).mono ?_);rintro e w1⟨rfl,hb1⟩;have hL1:=hL.keep hb1;clear hb1;clear hL;have hL:=hL1;clear hL1;refine p4 ?_)|(refine ah ?_;clear hL;intro w1 hL));refine mX (S:=fun w'=>Loc _ w' _) 10 (Loc.rem b6 (hL.drew)) ?_;intro hHeld;replace hL:=hL.drew;refine uG 0 ?_;refine uZ 1 ?_;refine uZ 2 ?_;refine uG 3 ?_;refine uZ 4 ?_;refine rd1 5 ?_;intro K hK;refine eK (HT.out _) ?_;rintro e w1⟨g23,cap23,cur23,rfl,hr23,hN⟩;refine⟨_,rfl,?_⟩;have hL1:=hL.join hN;clear hN hL;revert hL1;refine aJ ?_;intro hL;refine kO hK (Loc.rem b6 (hL.pop)) ?_;clear hK K hHeld;intro hHeld;refine rd1 6 ?_;intro K hK;refine eVv (HS.out _ hL.bel (.slice (some ⟨g23,0,none⟩) 44 cap23) (See.bytes hL)) hL ?_;clear hL;intro w1 hL;refine kO hK (Loc.rem b6 (hL.pop)) ?_;clear hK K hHeld;intro hHeld;refine uT 7 (hi:=rfl) (zU (by rfl) rfl hbu rfl) ?_;refine rd1 8 ?_;intro K hK;refine eJ ?_;clear hL;intro w1 hL;refine kO hK (Loc.rem b6 (hL.pop)) ?_;clear hK K hHeld;intro hHeld;refine uG 9 ?_;refine wD ?_;clear hHeld;go_wp2_with (first|refine aU ?_|(refine ah ?_;clear hL;intro w1 hL));exact bodyPost_ret (ay rfl hL rfl rfl) rfl ⟨rfl,hL.bel⟩
instance RB:Ent 34:=eo func34
theorem ym(k:Nat→BitVec 8)(m:Man)(hm:m.Ok)(p:Option Addr)(c:Nat)(w:World)[hG:Glob w](hv:BRow w (.slice p 80 c) m.wr) :
 Calls prog 37 #[.agg (aa 32 k),.agg (m.row p 80 c)] w fun e w'=>∃g cap cur,e= .returned (.tuple #[.agg (Man.row { m with sg:=kS (ae 32 k) m.body } (some ⟨g,0,none⟩) 80 cap),.int .i64 0])∧OwnR cur 80 cap (an m.wr)∧Loc w w' [(g,cur,5)]:=by
 have hL:=Loc.nil w;haveI hA:Arg w (.slice p 80 c) (an m.wr):=⟨hv.vrow⟩;have HB:=Hd (fun w1 (hb1:Below w.heap.size w w1)=>gD m hm p c w1 (hv.below hb1));have hbl:=Man.body_length hm;have HS:=Hd (fun w1 (hb1:Below w.heap.size w w1) (u:Value) (hu:BRow w1 u m.body)=> @uN k u m.body w1 (hG.below hb1) hu (by omega));have hROW:m.row p 80 c=mfR m.ver m.blk m.root p 80 c m.id m.key m.cs m.sg:=rfl;have HROW2:=Hd (fun F p n c=>show Man.row { m with sg:=F } p n c=mfR m.ver m.blk m.root p n c m.id m.key m.cs F from rfl);simp only[HROW2.out];rw[hROW]at HB
 try rw[hROW]
 generalize kS (ae 32 k) m.body=F at *
 obtain⟨b,hb⟩:∃b,b=m.body:=⟨_,rfl⟩;rw[← hb]at HB HS;clear hb hbl hv hm hROW HROW2;obtain⟨ver,blk,root,wr,id,key,cs,sg⟩:=m;dsimp only at *
 go_enter func37,ntmps37;go_wp2_with (first|refine aU ?_|(refine gBp 2 ?_;clear hL;intro b2 w1 hL)|(refine gBp 3 ?_;clear hL;intro b3 w1 hL)|(refine gBp 4 ?_;clear hL;intro b4 w1 hL)|(refine gN 10 ?_;refine lKk (HB.out _ hL.bel) ?_;rintro e w1⟨g10,cap10,cur10,rfl,hr10,hN⟩;have hL1:=hL.join hN;clear hN hL;revert hL1;refine aH ?_;intro hL)|(refine gN 19 ?_;refine aNb ?_;clear hL;intro g19 cap19 cur19 w1 hr19 hL)|(go_at_call 81;go_loud (refine(HS.out _ hL.bel (.slice (some ⟨g10,0,none⟩) 236 cap10) (See.bytes hL)).mono ?_);rintro e w1⟨rfl,hb1⟩;have hL1:=hL.keep hb1;clear hb1;clear hL;have hL:=hL1;clear hL1;refine p4 ?_)|(refine ah ?_;clear hL;intro w1 hL));exact bodyPost_ret (ay rfl hL rfl rfl) rfl ⟨g19,cap19,cur19,rfl,hr19,hL.sub ((List.nil_sublist _).cons_cons _)⟩
instance RC:Ent 37:=eo func37
end
section
open Go Go.RowKit Go.Shelf
def ccR(v:Value)(i:Nat)(bad:Bool):Array Value:= #[v,.int .i64 i,.bool bad]
section
variable {w0 w:World} {F:Array Value→Mem} {bc:Nat} [hA:∀x,At (F x) bc x 132] [hU:∀x y,Ups (F x) bc y (F y)]
theorem j6{A:Option Addr}{m c:Nat}{l:List (BitVec 8)}(hv:BRow w0 (.slice A m c) l)(i n:Nat)(h0:0<n)(hin:i+n≤l.length)(hm:l.length=m)(hc:m≤c)(h1:m≤1000000)(hL:Loc w0 w (F (ccR (.slice A m c) i false))) :
 Calls prog 64 #[.pointer (some ⟨bc,0,none⟩),.int .i64 n] w fun e w'=>∃g' cap' cur',e= .returned (.slice (some ⟨g',0,none⟩) n cap')∧OwnR cur' n cap' (an ((l.drop i).take n)) ∧
  Loc w0 w' ((g',cur',5)::F (ccR (.slice A m c) (i+n:Nat) false)):=by
 have B:=hv.cut (i:=i) (k:=i+n) (by omega) hin (by omega);rw[show i+n-i=n from by omega]at B;have q13:¬c=i:=by omega
 have hcut:jy A c i=Option.map (fun x=>x.add i) A:=by unfold jy;rw[if_neg (by omega)];simp
 rw[hcut]at B;haveI hA2:Arg w0 (.slice (Option.map (fun x=>x.add i) A) n (c-i)) (an ((l.drop i).take n)):=⟨B.vrow⟩;have hlen:((l.drop i).take n).length=n:=by rw[List.length_take,List.length_drop];omega
 have HLEN:=Hd hlen;have HCAST:=Hd (show((i+n:Nat):Int)=(i:Int)+n from by omega);have W2:IntKind.i64.wrap ((i:Int)+n)=(i:Int)+n:=by rw[IntKind.wrap_i64];omega
 have t1:((i:Int)+n).toNat=i+n:=by omega
 have q10:(i:Int)+n≤c:=by omega
 have q11:(0:Int)≤(i:Int)+n:=by omega
 have q12:i≤i+n:=by omega
 have N0:=Hd h0;have q1:¬(m:Int)-i<n:=by omega
 have q2:¬(n:Int)<0:=by omega
 have W1:IntKind.i64.wrap ((m:Int)-i)=(m:Int)-i:=by rw[IntKind.wrap_i64];omega
 have q3:(0:Int)≤i:=by omega
 have q4:(i:Int)+n≤1000000:=by omega
 have q5:(n:Int)≤1000000:=by omega
 have q6:(m:Int)≤1000000:=by omega
 have q7:(0:Int)≤n:=by omega
 have q8:(i:Int)≤m:=by omega
 have q9:(0:Int)≤m:=by omega
 have hcc:ccR (.slice A m c) (i+n:Nat) false= #[.slice A m c,.int .i64 ((i:Int)+n),.bool false]:=by unfold ccR;rw[HCAST.out]
 rw[hcc];replace hL:Loc w0 w (F #[.slice A m c,.int .i64 i,.bool false]):=hL;clear hv B hlen hcc hin hm hc h1 h0 hcut;generalize(l.drop i).take n=lt at *
 go_enter func64,ntmps64;go_wp2_with (first|refine aU ?_|(refine ah ?_;clear hL;intro w1 hL));refine mX (S:=fun w'=>Loc _ w' _) 22 (hL.drew) ?_;intro hHeld;replace hL:=hL.drew;refine uG 0 ?_;refine uG 1 ?_;refine uG 2 ?_;refine uZ 3 ?_;refine uG 4 ?_;refine uS 5 ?_;refine uS 6 ?_;refine uG 7 ?_;refine uG 8 ?_;refine uS 9 ?_;refine uS 10 ?_;refine uS 15 ?_;refine uS 11 ?_;refine uS 16 ?_;refine uS 12 ?_;refine uS 17 ?_;refine uL 13 ?_;refine uL 18 ?_;refine uS 14 ?_;refine uS 19 ?_;refine uS 20 ?_;refine uG 21 ?_;refine wD ?_;clear hHeld;go_wp2_with (first|refine aU ?_|(refine ah ?_;clear hL;intro w1 hL));refine mX (S:=(fun w'=>Loc w0 w' (F #[Value.slice A m c,Value.int IntKind.i64 i,Value.bool false]))) 17 (hL.drew) ?_;intro hHeld;replace hL:=hL.drew;refine uG 0 ?_;refine uG 4 ?_;refine uG 8 ?_;refine uG 12 ?_;refine uG 1 ?_;refine uG 5 ?_;refine uG 9 ?_;refine uG 2 ?_;refine uG 6 ?_;refine uG 10 ?_;refine uZ 3 ?_;refine uZ 7 ?_;refine uZ 11 ?_;refine uG 13 ?_;refine uG 14 ?_;refine rd1 15 ?_;intro K hK;refine Df hL rfl rfl rfl (by have:=HLEN.out;have:=N0.out;first|omega|(rw[aq];omega)) (by first|omega|(simp;omega)|simp) ?_;clear hL;intro g46 cap46 cur46 w1 hr46 hL;refine kO hK (hL.pop) ?_;clear hK K hHeld;intro hHeld;refine uG 16 ?_;refine wD ?_;clear hHeld;go_wp2_with (first|refine aU ?_|(refine ah ?_;clear hL;intro w1 hL));go_ret;exact⟨g46,cap46,cur46,rfl,hr46,hL⟩
end
instance RD:Ent 64:=eo func64
theorem Ew(u:Nat)(x:BitVec 8)(h:u<2^55):bits .or .i64 ((u:Int)*256) (B8 x)=((u*256+x.toNat:Nat):Int):=by
 have hx:=x.isLt;have e1:(u:Int)*256=((u*256:Nat):Int):=by omega
 have e3:u*256|||x.toNat=u*256+x.toNat:=by
  have:=Nat.shiftLeft_add_eq_or_of_lt (i:=8) (b:=x.toNat) (by omega) u;rw[Nat.shiftLeft_eq]at this;exact this.symm
 rw[e1,← e3];exact oO _ _ (by omega) (by omega)
theorem zN:∀(l:List (BitVec 8)) (u:Nat),u≤l.foldl (fun u x=>u*256+x.toNat) u
 | [],u=>Nat.le_refl _
 | x::l,u=>by
  have h:=zN l (u*256+x.toNat);rw[List.foldl_cons];omega
theorem Bu(l:List (BitVec 8))(k:Nat):eE (l.take k)≤eE l:=by
 have h:=zN (l.drop k) (eE (l.take k));have e:l.foldl (fun u x=>u*256+x.toNat) 0=(l.drop k).foldl (fun u x=>u*256+x.toNat) (eE (l.take k)):=by
  conv=>lhs;rw[← List.take_append_drop k l]
  rw[List.foldl_append];rfl
 unfold eE at *
 rw[e];exact h
section
variable {w0 w:World} {F:Array Value→Mem} {bc:Nat} [hA:∀x,At (F x) bc x 132] [hU:∀x y,Ups (F x) bc y (F y)]
theorem Ey{A:Option Addr}{m c:Nat}(hm:m≤1000000)(hL:Loc w0 w (F (ccR (.slice A m c) m false))) :
 Calls prog 68 #[.pointer (some ⟨bc,0,none⟩)] w fun e w'=>e= .returned (.bool true)∧Loc w0 w' (F (ccR (.slice A m c) m false)):=by
 replace hL:Loc w0 w (F #[.slice A m c,.int .i64 m,.bool false]):=hL;go_enter func68,ntmps68;go_wp2_with (first|refine aU ?_|(refine ah ?_;clear hL;intro w1 hL));refine mX (S:=fun w'=>Loc _ w' _) 18 (hL.drew) ?_;intro hHeld;replace hL:=hL.drew;refine uG 0 ?_;refine uG 1 ?_;refine uG 2 ?_;refine uZ 3 ?_;refine uG 4 ?_;refine uG 5 ?_;refine uS 6 ?_;refine uS 10 ?_;refine uS 7 ?_;refine uS 11 ?_;refine uS 8 ?_;refine uS 12 ?_;refine uL 9 ?_;refine uL 13 ?_;refine uS 14 ?_;refine uS 15 ?_;refine uG 16 ?_;refine uG 17 ?_;refine wD ?_;clear hHeld;go_wp2_with (first|refine aU ?_|(refine ah ?_;clear hL;intro w1 hL));go_ret;exact⟨rfl,hL⟩
theorem tD{A:Option Addr}{m c:Nat}{l:List (BitVec 8)}(hv:BRow w0 (.slice A m c) l)(i:Nat)(hin:i+8≤l.length)(hm:l.length=m)(hc:m≤c)(h1:m≤1000000)(hV:eE ((l.drop i).take 8)<2^55)(hL:Loc w0 w (F (ccR (.slice A m c) i false))) :
 Calls prog 65 #[.pointer (some ⟨bc,0,none⟩)] w fun e w'=>e= .returned (.int .i64 (lu ((l.drop i).take 8)))∧Loc w0 w' (F (ccR (.slice A m c) (i+8:Nat) false)):=by
 have HC:=Hd (j6 (F:=F) (bc:=bc) hv i 8 (by omega) hin hm hc h1 hL);have hlen:((l.drop i).take 8).length=8:=by rw[List.length_take,List.length_drop];omega
 have HLEN:=Hd hlen;clear hv hL hin hm hc h1 hlen;generalize(l.drop i).take 8=lt at *
 generalize ccR (.slice A m c) (i+8:Nat) false=cc at *
 go_enter func65,ntmps65;go_wp2_with (go_at_call 64;go_loud (refine HC.out.mono ?_);rintro e w1⟨g7,cap7,cur7,rfl,hr7,hL⟩);clear HC;have hs:=xa cur7 8 cap7 (an lt);have hlt:=HLEN.out;have H8:=Hd (show lt.take 8=lt from List.take_of_length_le (by omega));have HB:∀k,(hk:k<lt.length)→eE (lt.take (k+1))=eE (lt.take k)*256+lt[k].toNat:=fun k hk=>by rw[List.take_succ_eq_append_getElem hk,qZ]
 have HBB:=Hd HB;have HV:=Hd (fun k=>Nat.lt_of_le_of_lt (Bu lt k) hV);have HIV:=Hd (show lu lt=(eE lt:Int)from by unfold lu wrap64;omega);clear HB hlt hV;go_loopw [4,5] (fun u kk wr=>∃k:Nat,k≤8∧kk= .int .i64 k∧u= .int .i64 (eE (lt.take k):Int)∧Loc w0 wr ((g7,cur7,5)::F cc)) (fun _ kk _=>8-(intOf kk).toNat);case atStart=>exact⟨0,by omega,rfl,rfl,hL⟩
 case round =>
  clear hL;obtain⟨k,hk,rfl,rfl,hL⟩:=hrel;by_cases hlt:k<8
  ·have hk0:(0:Int)≤(k:Int):=by omega
   have hk1:(k:Int)<8:=by omega
   have hlt':k<lt.length:=by rw[HLEN.out];exact hlt
   have hb:=HBB.out k hlt';haveI g1:Cell cur7 k (.int .u8 (B8 lt[k])):=hr7.cellB hlt';have hu:eE (lt.take k)<2^55:=HV.out k;have hu2:=HV.out (k+1);have ho:=Ew (eE (lt.take k)) lt[k] hu;rw[← hb]at ho;have HO:=Hd ho;have hu1:eE (lt.take k)*256<2^55:=by omega
   have hw:IntKind.i64.wrap (B8 lt[k])=B8 lt[k]:=by have:=bK lt[k];rw[IntKind.wrap_i64];omega
   generalize lt[k]=bb at *
   clear hb ho hlt' hu2 hu;generalize eE (lt.take k)=u at *
   have hws:IntKind.i64.wrap ((u:Int)*256)=(u:Int)*256:=by rw[IntKind.wrap_i64];omega
   have hu0:(0:Int)≤(u:Int)*256:=by omega
   have hu3:(u:Int)*256<2^55:=by omega
   clear hu1;go_wp2_with (first|refine aU ?_|(refine ah ?_;clear hL;intro w1 hL));go_roundw;case rel=>exact⟨k+1,by omega,by go_num,by rw[← HO.out],hL⟩
   case measure=>simp[intOf];omega
  ·obtain rfl:k=8:=by omega
   rw[H8.out];go_wp2_with (first|refine aU ?_|(refine ah ?_;clear hL;intro w1 hL));go_ret;rw[HIV.out];exact⟨rfl,Loc.rem g7 hL⟩
end
instance RE:Ent 65:=eo func65
instance RF:Ent 68:=eo func68
end
section
open Go Go.RowKit Go.Shelf
section
variable {w0 w:World} {F:Array Value→Mem} {bc:Nat} [hA:∀x,At (F x) bc x 132] [hU:∀x y,Ups (F x) bc y (F y)]
theorem zO{A:Option Addr}{m c:Nat}{l:List (BitVec 8)}{f:Nat→BitVec 8}(hv:BRow w0 (.slice A m c) l)(i:Nat)(hin:i+32≤l.length)(hm:l.length=m)(hc:m≤c)(h1:m≤1000000)(hT:(l.drop i).take 32=ae 32 f)(hL:Loc w0 w (F (ccR (.slice A m c) i false))) :
 Calls prog 66 #[.pointer (some ⟨bc,0,none⟩)] w fun e w'=>e= .returned (.agg (aa 32 f))∧Loc w0 w' (F (ccR (.slice A m c) (i+32:Nat) false)):=by
 have h32:(an (ae 32 f)).length=32:=by rw[aq,ag]
 haveI sp:Spl (aa 32 fun _=>0) 0 (an (ae 32 f)) (aa 32 f):=mH _ _ _ (by omega) fun i hi=>by rw[if_pos ⟨by omega,by omega⟩];rfl
 have HC:=Hd (fun(G:Array Value→Mem) w1 (q:∀x,At (G x) bc x 132) (q2:∀x y,Ups (G x) bc y (G y)) h=> @j6 w0 w1 G bc q q2 A m c l hv i 32 (by omega) hin hm hc h1 h);rw[hT]at HC;clear hT hv hin hm hc h1;generalize ccR (.slice A m c) (i+32:Nat) false=c2,ccR (.slice A m c) i false=c1 at *
 go_enter func66,ntmps66;go_wp2_with (first|refine aU ?_|(refine gBp 2 ?_;clear hL;intro b2 w1 hL)|(refine gBp 3 ?_;clear hL;intro b3 w1 hL)|(refine ah ?_;clear hL;intro w1 hL));refine mX (S:=(fun _=>True)) 4 (trivial) ?_;intro hHeld;replace hL:=hL.drew;refine uG 0 ?_;refine uG 1 ?_;refine rd1 2 ?_;intro K hK;refine eK (HC.out (fun x=>(b3,aa 32 (fun _=>0),24)::(b2,aa 32 (fun _=>0),24)::F x) _ (fun _=>inferInstance) (fun _ _=>inferInstance) hL) ?_;rintro e w1⟨g6,cap6,cur6,rfl,hr6,hL1⟩;refine⟨_,rfl,?_⟩;clear hL;revert hL1;refine aN ?_;intro hL;refine kO hK (trivial) ?_;clear hK K hHeld;intro hHeld;refine rd1 3 ?_;intro K hK;refine eCp ?_;clear hL;intro w1 hL;refine kO hK (trivial) ?_;clear hK K hHeld;intro hHeld;refine wD ?_;clear hHeld;go_wp2_with (first|refine aU ?_|(refine ah ?_;clear hL;intro w1 hL));exact bodyPost_ret (ai rfl hL rfl) rfl ⟨rfl,Loc.rem b2 (Loc.rem b3 hL.pop)⟩
end
instance RG:Ent 66:=eo func66
theorem zP{pre post:Array Value}{n k:Nat}(f g:Nat→BitVec 8)(hk:pre.size=k):Spl (pre++aa n f++post) k (an (ae n g)) (pre++aa n g++post) where
 fit:=by rw[aq,ag];simp[aj];omega
 spl:=by
  subst hk;rw[aq,ag];have e:an (ae n g)=(aa n g).toList:=by unfold an ae aa row;simp[List.map_map,Function.comp_def]
  apply Array.toList_inj.1;rw[e];have h1:(aa n f).toList.length=n:=by simp[aj]
  have h2:List.drop (pre.size+n) (pre.toList++((aa n f).toList++post.toList))=post.toList:=by rw[show pre.size=pre.toList.length from by simp,← List.drop_drop,List.drop_left,List.drop_left' h1]
  simp only[Array.toList_append,List.append_assoc];rw[h2,show pre.size=pre.toList.length from by simp,List.take_left]
instance RH(ver blk:Int)(root:Nat→BitVec 8)(p:Option Addr)(n c:Nat)(id:Int)(key cs sg x:Nat→BitVec 8):Spl (mfR ver blk root p n c id key cs sg) 68 (an (ae 64 x)) (mfR ver blk root p n c id key x sg):=by
 have:=zP (n:=64) (pre:= #[.int .i64 ver,.int .i64 blk]++aa 32 root ++ #[.slice p n c,.int .i64 id]++aa 32 key) (post:=aa 64 sg) cs x (k:=68) (by simp[aj]);simpa only[mfR,Array.append_assoc] using this
instance RI(ver blk:Int)(root:Nat→BitVec 8)(p:Option Addr)(n c:Nat)(id:Int)(key cs sg x:Nat→BitVec 8):Spl (mfR ver blk root p n c id key cs sg) 132 (an (ae 64 x)) (mfR ver blk root p n c id key cs x):=by
 have:=zP (n:=64) (pre:= #[.int .i64 ver,.int .i64 blk]++aa 32 root ++ #[.slice p n c,.int .i64 id]++aa 32 key++aa 64 cs) (post:= #[]) sg x (k:=132) (by simp[aj]);simpa only[mfR,Array.append_assoc,Array.append_empty] using this
instance MT(ver blk:Int)(root:Nat→BitVec 8)(p:Option Addr)(n c:Nat)(id:Int)(key cs sg:Nat→BitVec 8)(x:Int):Put (mfR ver blk root p n c id key cs sg) 0 (.int .i64 x) (mfR x blk root p n c id key cs sg):=⟨by
 unfold mfR;rw[Array.setIfInBounds_append_left (by simp[aj]),Array.setIfInBounds_append_left (by simp[aj]),Array.setIfInBounds_append_left (by simp[aj]),Array.setIfInBounds_append_left (by simp[aj]),Array.setIfInBounds_append_left (by simp)];rfl,by rw[jE];decide⟩
theorem Ez(p:Option Addr)(n c:Nat)(w:World):(Instr.build 132 #[(0,.slice p n c)]).run prog w= .ok (.agg (ccR (.slice p n c) 0 false)) w:=by kernel_rfl
theorem qF(m:Man)(hm:m.Ok)(A:Option Addr)(c:Nat)(w:World)(hv:BRow w (.slice A 300 c) m.bytes)(hc:300≤c) :
 Calls prog 26 #[.slice A 300 c] w fun e w'=>∃g cap cur,e= .returned (.tuple #[.agg (m.row (some ⟨g,0,none⟩) 80 cap),.int .i64 0])∧OwnR cur 80 cap (an m.wr)∧Loc w w' [(g,cur,5)]:=by
 have hL:=Loc.nil w;have hlen:=Man.bytes_length hm;obtain⟨p0,p1,p2,p3,p4,p5,p6,p7,p8⟩:=Man.parts hm;have HB:=Hd (fun p c w1 hv=>gD m hm p c w1 hv);have hbl:=Man.body_length hm;obtain⟨b,hb⟩:∃b,b=m.body:=⟨_,rfl⟩;rw[← hb]at HB;obtain⟨ver,blk,root,wr,id,key,cs,sg⟩:=m;obtain⟨v0,v1,b0,b1,hw,i0,i1⟩:=hm;dsimp only at *
 have HROW:=Hd (fun p n c=>show Man.row ⟨ver,blk,root,wr,id,key,cs,sg⟩ p n c=mfR ver blk root p n c id key cs sg from rfl);simp only[HROW.out]at HB ⊢;have hbn:∀n:Int,0≤n→n≤2147483647→eE (aR n)<2^55:=fun n h0 h1=>by have:=pn n;omega
 have E0:=Hd (show((Man.bytes ⟨ver,blk,root,wr,id,key,cs,sg⟩).drop 0 |>.take 4)=[80,67,77,49]from p0);have E1:=Hd (show lu ((Man.bytes ⟨ver,blk,root,wr,id,key,cs,sg⟩).drop 4 |>.take 8)=ver from by rw[p1];exact eR ver (by omega));have E2:=Hd (show lu ((Man.bytes ⟨ver,blk,root,wr,id,key,cs,sg⟩).drop 12 |>.take 8)=blk from by rw[p2];exact eR blk (by omega));have E4:=Hd p4;have E5:=Hd (show lu ((Man.bytes ⟨ver,blk,root,wr,id,key,cs,sg⟩).drop 132 |>.take 8)=id from by rw[p5];exact eR id (by omega));have E7:=Hd p7;have E8:=Hd p8;have H0:=Hd (fun(G:Array Value→Mem) {bc:Nat} w1 (q:∀x,At (G x) bc x 132) (q2:∀x y,Ups (G x) bc y (G y)) h=> @j6 w w1 G bc q q2 A 300 c _ hv 0 4 (by omega) (by omega) hlen hc (by omega) h);have H1:=Hd (fun(G:Array Value→Mem) {bc:Nat} w1 (q:∀x,At (G x) bc x 132) (q2:∀x y,Ups (G x) bc y (G y)) h=> @tD w w1 G bc q q2 A 300 c _ hv 4 (by omega) hlen hc (by omega) (by rw[p1];exact hbn _ v0 v1) h);have H2:=Hd (fun(G:Array Value→Mem) {bc:Nat} w1 (q:∀x,At (G x) bc x 132) (q2:∀x y,Ups (G x) bc y (G y)) h=> @tD w w1 G bc q q2 A 300 c _ hv 12 (by omega) hlen hc (by omega) (by rw[p2];exact hbn _ (by omega) (by omega)) h);have H3:=Hd (fun(G:Array Value→Mem) {bc:Nat} w1 (q:∀x,At (G x) bc x 132) (q2:∀x y,Ups (G x) bc y (G y)) h=> @zO w w1 G bc q q2 A 300 c _ _ hv 20 (by omega) hlen hc (by omega) p3 h);have H4:=Hd (fun(G:Array Value→Mem) {bc:Nat} w1 (q:∀x,At (G x) bc x 132) (q2:∀x y,Ups (G x) bc y (G y)) h=> @j6 w w1 G bc q q2 A 300 c _ hv 52 80 (by omega) (by omega) hlen hc (by omega) h);have H5:=Hd (fun(G:Array Value→Mem) {bc:Nat} w1 (q:∀x,At (G x) bc x 132) (q2:∀x y,Ups (G x) bc y (G y)) h=> @tD w w1 G bc q q2 A 300 c _ hv 132 (by omega) hlen hc (by omega) (by rw[p5];exact hbn _ i0 i1) h);have H6:=Hd (fun(G:Array Value→Mem) {bc:Nat} w1 (q:∀x,At (G x) bc x 132) (q2:∀x y,Ups (G x) bc y (G y)) h=> @zO w w1 G bc q q2 A 300 c _ _ hv 140 (by omega) hlen hc (by omega) p6 h);have H7:=Hd (fun(G:Array Value→Mem) {bc:Nat} w1 (q:∀x,At (G x) bc x 132) (q2:∀x y,Ups (G x) bc y (G y)) h=> @j6 w w1 G bc q q2 A 300 c _ hv 172 64 (by omega) (by omega) hlen hc (by omega) h);have H8:=Hd (fun(G:Array Value→Mem) {bc:Nat} w1 (q:∀x,At (G x) bc x 132) (q2:∀x y,Ups (G x) bc y (G y)) h=> @j6 w w1 G bc q q2 A 300 c _ hv 236 64 (by omega) (by omega) hlen hc (by omega) h);have HE:=Hd (fun(G:Array Value→Mem) {bc:Nat} w1 (q:∀x,At (G x) bc x 132) (q2:∀x y,Ups (G x) bc y (G y)) h=> @Ey w w1 G bc q q2 A 300 c (by omega) h);simp only[Nat.reduceAdd]at H0 H1 H2 H3 H4 H5 H6 H7 H8;clear p0 p1 p2 p3 p4 p5 p6 p7 p8 hv v0 v1 b0 b1 i0 i1 hw HROW hlen hbl hb hbn hc;generalize Man.bytes ⟨ver,blk,root,wr,id,key,cs,sg⟩=l at *
 have hS:dw [80,67,77,49]=⟨#[80,67,77,49]⟩:=rfl;have h64a:(an (ae 64 cs)).length=64:=by rw[aq,ag]
 have h64b:(an (ae 64 sg)).length=64:=by rw[aq,ag]
 go_enter func26,ntmps26;go_wp2_with (first|refine aU ?_|(refine gBp 2 ?_;clear hL;intro b2 w1 hL)|(refine gBp 6 ?_;clear hL;intro b6 w1 hL)|(refine gN 10 ?_;refine lU hL rfl rfl (Ez _ _ _) rfl ?_;clear hL;intro w1 hL;refine p4 ?_)|(refine gBp 11 ?_;clear hL;intro b11 w1 hL)|(refine gN 13 ?_;refine lKk (H0.out (fun x=>[(b11,x,132),(b2,mfZ,79)]) _ (fun _=>inferInstance) (fun _ _=>inferInstance) hL) ?_;rintro e w1⟨g13,cap13,cur13,rfl,hr13,hL1⟩;rw[E0.out]at hr13;clear hL;revert hL1;refine aE ?_;intro hL)|(refine gN 15 ?_;refine lKk (H1.out (fun x=>[(b6,mfR 0 0 (fun _=>0) none 0 0 0 (fun _=>0) (fun _=>0) (fun _=>0),79),(g13,cur13,5),(b11,x,132),(b2,mfZ,79)]) _ (fun _=>inferInstance) (fun _ _=>inferInstance) hL) ?_;rintro e w1⟨rfl,hL1⟩;rw[E1.out];clear hL;revert hL1;refine aE ?_;intro hL)|(refine gN 18 ?_;refine lKk (H2.out (fun x=>[(b6,mfR ver 0 (fun _=>0) none 0 0 0 (fun _=>0) (fun _=>0) (fun _=>0),79),(g13,cur13,5),(b11,x,132),(b2,mfZ,79)]) _ (fun _=>inferInstance) (fun _ _=>inferInstance) hL) ?_;rintro e w1⟨rfl,hL1⟩;rw[E2.out];clear hL;revert hL1;refine aE ?_;intro hL)|(refine gN 21 ?_;refine lO (H3.out (fun x=>[(b6,mfR ver blk (fun _=>0) none 0 0 0 (fun _=>0) (fun _=>0) (fun _=>0),79),(g13,cur13,5),(b11,x,132),(b2,mfZ,79)]) _ (fun _=>inferInstance) (fun _ _=>inferInstance) hL) ?_;clear hL;intro w1 hL)|(refine gN 24 ?_;refine lKk (H4.out (fun x=>[(b6,mfR ver blk root none 0 0 0 (fun _=>0) (fun _=>0) (fun _=>0),79),(g13,cur13,5),(b11,x,132),(b2,mfZ,79)]) _ (fun _=>inferInstance) (fun _ _=>inferInstance) hL) ?_;rintro e w1⟨g24,cap24,cur24,rfl,hr24,hL1⟩;rw[E4.out]at hr24;clear hL;revert hL1;refine aE ?_;intro hL)|(refine gN 27 ?_;refine lKk (H5.out (fun x=>[(g24,cur24,5),(b6,mfR ver blk root (some ⟨g24,0,none⟩) 80 cap24 0 (fun _=>0) (fun _=>0) (fun _=>0),79),(g13,cur13,5),(b11,x,132),(b2,mfZ,79)]) _ (fun _=>inferInstance) (fun _ _=>inferInstance) hL) ?_;rintro e w1⟨rfl,hL1⟩;rw[E5.out];clear hL;revert hL1;refine aE ?_;intro hL)|(refine gN 31 ?_;refine lO (H6.out (fun x=>[(g24,cur24,5),(b6,mfR ver blk root (some ⟨g24,0,none⟩) 80 cap24 id (fun _=>0) (fun _=>0) (fun _=>0),79),(g13,cur13,5),(b11,x,132),(b2,mfZ,79)]) _ (fun _=>inferInstance) (fun _ _=>inferInstance) hL) ?_;clear hL;intro w1 hL)|(refine ah ?_;clear hL;intro w1 hL)|((with_reducible show wpList _ _ _ (⟨_,.call _,_,_,_,_⟩::_) _ _);(first|refine lC2 hL rfl rfl rfl rfl ?_|refine lC1 hL rfl rfl rfl ?_|refine lC3 hL rfl rfl rfl rfl ?_|refine lC4 hL rfl rfl rfl rfl ?_|refine lC0 hL rfl rfl ?_|refine lC5 hL rfl rfl rfl ?_);clear hL;intro w1 hL;refine p4 ?_));refine mX (S:=(fun _=>True)) 6 (trivial) ?_;intro hHeld;replace hL:=hL.drew;refine uG 0 ?_;refine uG 3 ?_;refine uG 1 ?_;refine uG 2 ?_;refine rd1 4 ?_;intro K hK;refine eK (H7.out (fun x=>[(g24,cur24,5),(b6,mfR ver blk root (some ⟨g24,0,none⟩) 80 cap24 id key (fun _=>0) (fun _=>0),79),(g13,cur13,5),(b11,x,132),(b2,mfZ,79)]) _ (fun _=>inferInstance) (fun _ _=>inferInstance) hL) ?_;rintro e w1⟨g38,cap38,cur38,rfl,hr38,hL1⟩;refine⟨_,rfl,?_⟩;rw[E7.out]at hr38;clear hL;revert hL1;refine aN ?_;intro hL;refine kO hK (trivial) ?_;clear hK K hHeld;intro hHeld;refine rd1 5 ?_;intro K hK;refine eCp ?_;clear hL;intro w1 hL;refine kO hK (trivial) ?_;clear hK K hHeld;intro hHeld;refine wD ?_;clear hHeld;go_wp2_with (first|refine aU ?_|(refine ah ?_;clear hL;intro w1 hL));refine mX (S:=(fun _=>True)) 5 (trivial) ?_;intro hHeld;replace hL:=hL.drew;refine uG 0 ?_;refine uG 2 ?_;refine uG 1 ?_;refine rd1 3 ?_;intro K hK;refine eK (H8.out (fun x=>[(g38,cur38,5),(g24,cur24,5),(b6,mfR ver blk root (some ⟨g24,0,none⟩) 80 cap24 id key cs (fun _=>0),79),(g13,cur13,5),(b11,x,132),(b2,mfZ,79)]) _ (fun _=>inferInstance) (fun _ _=>inferInstance) hL) ?_;rintro e w1⟨g43,cap43,cur43,rfl,hr43,hL1⟩;refine⟨_,rfl,?_⟩;rw[E8.out]at hr43;clear hL;revert hL1;refine aN ?_;intro hL;refine kO hK (trivial) ?_;clear hK K hHeld;intro hHeld;refine rd1 4 ?_;intro K hK;refine eCp ?_;clear hL;intro w1 hL;refine kO hK (trivial) ?_;clear hK K hHeld;intro hHeld;refine wD ?_;clear hHeld;go_wp2_with (first|refine aU ?_|(refine gN 47 ?_;refine lKk (HB.out _ _ _ (See.bytes (l:=wr) hL)) ?_;rintro e w1⟨g47,cap47,cur47,rfl,hr47,hN⟩;have hL1:=hL.join hN;clear hN hL;revert hL1;refine aH ?_;intro hL)|(refine gN 51 ?_;refine Dt hL rfl rfl rfl ?_;rw[hS];clear hL;intro w1 hL;refine p4 ?_)|(refine gN 55 ?_;refine lO (HE.out (fun x=>[(g47,cur47,5),(g43,cur43,5),(g38,cur38,5),(g24,cur24,5),(b6,mfR ver blk root (some ⟨g24,0,none⟩) 80 cap24 id key cs sg,79),(g13,cur13,5),(b11,x,132),(b2,mfZ,79)]) _ (fun _=>inferInstance) (fun _ _=>inferInstance) hL) ?_;clear hL;intro w1 hL)|(refine ah ?_;clear hL;intro w1 hL)|((with_reducible show wpList _ _ _ (⟨_,.call _,_,_,_,_⟩::_) _ _);(first|refine lC2 hL rfl rfl rfl rfl ?_|refine lC1 hL rfl rfl rfl ?_|refine lC3 hL rfl rfl rfl rfl ?_|refine lC4 hL rfl rfl rfl rfl ?_|refine lC0 hL rfl rfl ?_|refine lC5 hL rfl rfl rfl ?_);clear hL;intro w1 hL;refine p4 ?_));exact bodyPost_ret (ay rfl hL rfl rfl) rfl ⟨g24,cap24,cur24,rfl,hr24,hL.sub (by simp)⟩
end
section
open Go Go.RowKit Go.Shelf R3
theorem vV(pa pb:Option Addr)(ca cb:Nat)(salt key:List (BitVec 8))(w:World)(hv:BRow w (.slice pa salt.length ca) salt)(hvb:BRow w (.slice pb key.length cb) key)(hs:0<salt.length∧salt.length≤64)(hk:key.length≤999999000) :
 Rt 256 #[.slice pa salt.length ca,.slice pb key.length cb] w (.agg (aa 32 (gt salt key))):=by
 have hL:=Loc.nil w;have HM:=Hd (fun w1 (hb1:Below w.heap.size w w1) (u:Value) (hu:BRows w1 u [key])=>tb (.slice pa salt.length ca) u salt [key] w1 (hv.below hb1) hu hs (by simp) (by simpa using hk));rw[show[key].flatten=key from by simp]at HM;have HB:=Hd (fun w1 (hb1:Below w.heap.size w w1)=>hvb.below hb1);clear hv hvb hs hk;generalize gt salt key=T at *
 go_enter func256,ntmps256;go_wp2_with (first|refine aU ?_|(refine gBp 4 ?_;clear hL;intro b4 w1 hL)|(refine gN 7 ?_;refine aL ?_;clear hL;intro b7 w1 hL)|(go_at_call 242;go_loud (refine(HM.out _ hL.bel _ (jU (hL.get (.head _)) (HB.out _ hL.bel))).mono ?_);rintro e w1⟨rfl,hb1⟩;have hL1:=hL.keep hb1;clear hb1;clear hL;have hL:=hL1;clear hL1;refine p4 ?_)|(refine ah ?_;clear hL;intro w1 hL));exact bodyPost_ret (ai rfl hL rfl) rfl ⟨rfl,hL.bel⟩
instance RJ:Ent 256:=eo func256
theorem vW(e z:Nat→BitVec 8)(w:World):Rt 215 #[.agg (aa 32 e),.agg (aa 32 z)] w (.agg (aa 32 (wkF e z))):=by
 have hL:=Loc.nil w;have hx:=fun w1 (pa pb:Option Addr) (ca cb:Nat) (hu:BRow w1 (.slice pa 32 ca) (ae 32 e)) (hub:BRow w1 (.slice pb 32 cb) (ae 32 z))=>vV pa pb ca cb (ae 32 e) (ae 32 z) w1 (by rw[ag];exact hu) (by rw[ag];exact hub) (by rw[ag];omega) (by rw[ag];omega);simp only[ag]at hx;have HX:=Hd hx;have HK:=Hd (fun w1=>zn (gt (ae 32 e) (ae 32 z)) [119,114,97,112] w1 (by decide));have HW:=Hd (show lr (gt (ae 32 e) (ae 32 z)) [119,114,97,112]=wkF e z from rfl);rw[HW.out]at HK;clear hx HW;generalize wkF e z=T,gt (ae 32 e) (ae 32 z)=Y at *
 haveI s1:Seg (aa 32 e) 0 32 (an (ae 32 e)):=fT 32 e;haveI s2:Seg (aa 32 z) 0 32 (an (ae 32 z)):=fT 32 z;go_enter func215,ntmps215;go_wp2_with (first|refine aU ?_|(refine gBp 2 ?_;clear hL;intro b2 w1 hL)|(refine gBp 3 ?_;clear hL;intro b3 w1 hL)|(refine gBp 4 ?_;clear hL;intro b4 w1 hL)|(refine ah ?_;clear hL;intro w1 hL));refine mX (S:=fun w'=>Loc _ w' _) 5 (Loc.rem b4 (hL.drew)) ?_;intro hHeld;replace hL:=hL.drew;refine uG 0 ?_;refine uG 1 ?_;refine rd1 2 ?_;intro K hK;refine eVv (HX.out _ _ _ _ _ (See.bytes hL (v:= .slice (some ⟨b2,0,none⟩) 32 32)) (See.bytes hL (v:= .slice (some ⟨b3,0,none⟩) 32 32))) hL ?_;clear hL;intro w1 hL;refine kO hK (Loc.rem b4 (hL)) ?_;clear hK K hHeld;intro hHeld;refine rd1 3 ?_;intro K hK;refine eVv (HK.out _) hL ?_;clear hL;intro w1 hL;refine kO hK (Loc.rem b4 (hL)) ?_;clear hK K hHeld;intro hHeld;refine rd1 4 ?_;intro K hK;refine eJ ?_;clear hL;intro w1 hL;refine kO hK (Loc.rem b4 (hL)) ?_;clear hK K hHeld;intro hHeld;refine wD ?_;clear hHeld;go_wp2_with (first|refine aU ?_|(refine ah ?_;clear hL;intro w1 hL));exact bodyPost_ret (ai rfl hL rfl) rfl ⟨rfl,hL.bel⟩
instance RK:Ent 215:=eo func215
instance RL:Ent 212:=eo func212
theorem Bv{w:World}{a:Option Addr}{c:Nat}{l:List (BitVec 8)}{f:Nat→BitVec 8}{n k:Nat}(h:BRow w (.slice a n c) l)(hk:k≤l.length)(hc:l.length≤c)(e:l.take k=ae k f):BRow w (.slice a k c) (ae k f):=by
 have:=h.cutHi hk hc;rwa[e]at this
theorem Bw(sec e x:Nat→BitVec 8)(pa:Option Addr)(ca:Nat)(l:List (BitVec 8))(w:World)(hv:BRow w (.slice pa l.length ca) l)(hl:l.length=80)(hc:80≤ca)(he:l.take 32=ae 32 e)(hz:be sec e≠0)(htag:ae 16 (kf (wkF e (ab (be sec e))) (fun _=>0) ((l.drop 32).take 32) (ae 32 (ab (be sec bG))))=(l.drop 32).drop 32)(hx:dN (wkF e (ab (be sec e))) (BitVec.ofInt 32 1) (fun _=>0) ((l.drop 32).take 32)=ae 32 x) :
 Rt 159 #[.agg (aa 32 sec),.slice pa 80 ca] w (.tuple #[.agg (aa 32 x),.int .i64 0]):=by
 have hL:=Loc.nil w;have h48:(l.drop 32).length=32+16:=by rw[List.length_drop];omega
 haveI f1:FnC 213 #[.agg (aa 32 sec)] (.agg (aa 32 (ab (be sec bG)))):=inferInstance;have h2:=fun w1=>qB sec e w1;rw[if_neg hz]at h2;haveI f2:FnC 212 #[.agg (aa 32 sec),.agg (aa 32 e)] (.tuple #[.agg (aa 32 (ab (be sec e))),.int .i64 0]):=⟨h2⟩;have HK:=Hd (fun w1=>vW e (ab (be sec e)) w1);have B1:=Bv (k:=32) hv (by omega) (by omega) he;have B2:=hv.cutLo (i:=32) (by omega) (by omega);rw[hl]at B2;have hs1:=fun w1=>uM (A:=pa) (n:=80) (c:=ca) (k:=32) (by omega) w1;have hs2:=fun w1=>uK (A:=pa) (n:=80) (c:=ca) (i:=32) (by omega) w1;have ho:=fun w1 (hb1:Below w.heap.size w w1) (ub:Value) (hub:BRow w1 ub (ae 32 (ab (be sec bG))))=>vP (wkF e (ab (be sec e))) (fun _=>0) (jy pa ca 32) (ca-32) 32 ub (l.drop 32) (ae 32 (ab (be sec bG))) w1 h48 (by rw[h48];exact B2.below hb1) (by omega) hub (by omega) (by rw[ag];omega) htag;rw[hx,h48]at ho;have HO:=Hd ho;have HB:=Hd (fun w1 (hb1:Below w.heap.size w w1)=>B1.below hb1);obtain⟨b0,off0,rfl⟩:=hv.some (by omega);clear ho h2 htag hx hz he h48 B1 B2 hv;have hne:¬ca=32:=by omega
 have hcut:jy (some ⟨b0,off0,none⟩) ca 32=some ⟨b0,off0+32,none⟩:=by unfold jy;rw[if_neg hne];rfl
 rw[hcut]at HO;clear hcut hs1 hs2;generalize wkF e (ab (be sec e))=W,ab (be sec e)=Z,ab (be sec bG)=N9 at *
 haveI s1:Seg (aa 32 N9) 0 32 (an (ae 32 N9)):=fT 32 N9;have harr:=nL;clear hl;go_enter func159,ntmps159;go_wp2_with (first|refine aU ?_|(refine gBp 2 ?_;clear hL;intro b2 w1 hL)|(refine gBp 4 ?_;clear hL;intro b4 w1 hL)|(refine gBp 6 ?_;clear hL;intro b6 w1 hL)|(refine gBp 7 ?_;clear hL;intro b7 w1 hL)|(refine gBp 9 ?_;clear hL;intro b9 w1 hL)|((refine gN 18 ?_;refine eQ rfl _ rfl b0 off0 32 ca e rfl (HB.out _ hL.bel) ?_;refine p4 ?_))|(refine ah ?_;clear hL;intro w1 hL)|((with_reducible show wpList _ _ _ (⟨_,.call _,_,_,_,_⟩::_) _ _);(first|refine lC2 hL rfl rfl rfl rfl ?_|refine lC1 hL rfl rfl rfl ?_|refine lC3 hL rfl rfl rfl rfl ?_|refine lC4 hL rfl rfl rfl rfl ?_|refine lC0 hL rfl rfl ?_|refine lC5 hL rfl rfl rfl ?_);clear hL;intro w1 hL;refine p4 ?_));refine mX (S:=fun w'=>Loc _ w' _) 13 (hL.drew) ?_;intro hHeld;replace hL:=hL.drew;refine uZ 0 ?_;refine uZ 1 ?_;refine uT 3 (hi:=rfl) (zU (by rfl) rfl mf rfl) ?_;refine uG 4 ?_;refine uG 6 ?_;refine uG 5 ?_;refine rd1 2 ?_;intro K hK;refine eVv (HK.out _) hL ?_;clear hL;intro w1 hL;refine kO hK (hL) ?_;clear hK K hHeld;intro hHeld;refine rd1 7 ?_;intro K hK;refine eK (HO.out _ hL.bel (.slice (some ⟨b9,0,none⟩) 32 32) (See.bytes hL)) ?_;rintro e w1⟨v39,rfl,hr39,hb39⟩;refine⟨_,rfl,?_⟩;have hL1:=hL.keep hb39;clear hL;revert hL1;refine aN ?_;intro hL;refine kO hK (hL) ?_;clear hK K hHeld;intro hHeld;refine uG 8 ?_;refine uG 9 ?_;refine uG 10 ?_;refine uG 11 ?_;refine uG 12 ?_;refine wD ?_;clear hHeld;obtain⟨p9,c9,rfl⟩:=hr39.shape;rw[ag]at *
 obtain⟨b39,o39,rfl⟩:=hr39.some (by rw[ag];omega);go_wp2_with (first|refine aU ?_|((refine gN 48 ?_;refine eQ rfl _ rfl b39 o39 32 c9 x rfl hr39 ?_;refine p4 ?_))|(refine ah ?_;clear hL;intro w1 hL));exact bodyPost_ret (ay rfl hL rfl rfl) rfl ⟨rfl,hL.bel⟩
instance RM:Ent 159:=eo func159
end
section
open Go Go.RowKit R3
theorem rI(n:Nat):¬Qo∣bD n:=by
 refine D6 ?_ (iP n) ?_
 ·unfold bD
  have:=Nat.two_pow_pos 254;omega
 ·unfold bD
  rw[show(2:Nat)^254=8*2^251 from by decide +kernel];omega
theorem EA:leN (di bG)=9:=by decide +kernel
theorem Gc:fe 9=9:=by decide +kernel
theorem Gd:P<2^255:=by decide +kernel
theorem Bx(k:Nat→BitVec 8):be k bG=(cN (bD (leN k)) 9).val:=by
 rw[nQ,EA,Gc]
theorem EB(a:F):fe (leN (di (ab a.val)))=a:=by
 have h:=a.isLt;have hp:=Gd;have h6:a.val<2^256:=jg a;rw[(mF _).1,bL h6,Nat.mod_eq_of_lt (Nat.lt_trans h hp),eN]
theorem vX(m k:Nat→BitVec 8):be m (ab (be k bG))=(cN (bD (leN m)) (cN (bD (leN k)) 9)).val:=by
 rw[Bx k,nQ];generalize cN (bD (leN k)) 9=a;rw[EB]
theorem zQ(m k:Nat→BitVec 8):be m (ab (be k bG))=be k (ab (be m bG))∧be m (ab (be k bG))≠0:=by
 obtain⟨h1,h2⟩:=Is (iP (leN m)) (iP (leN k)) (rI _) (rI _);rw[vX,vX];generalize cN (bD (leN m)) (cN (bD (leN k)) 9)=a at *
 generalize cN (bD (leN k)) (cN (bD (leN m)) 9)=b at *
 refine⟨by rw[h1],fun e=>h2 ?_⟩;exact Fin.ext e
theorem EC(sec draw x:Nat→BitVec 8) :
 (gh (ab (be sec bG)) draw x).take 32=ae 32 (ab (be draw bG))∧be sec (ab (be draw bG))≠0 ∧
  ae 16 (kf (wkF (ab (be draw bG)) (ab (be sec (ab (be draw bG))))) (fun _=>0) (((gh (ab (be sec bG)) draw x).drop 32).take 32) (ae 32 (ab (be sec bG))))=((gh (ab (be sec bG)) draw x).drop 32).drop 32 ∧
  dN (wkF (ab (be draw bG)) (ab (be sec (ab (be draw bG))))) (BitVec.ofInt 32 1) (fun _=>0) (((gh (ab (be sec bG)) draw x).drop 32).take 32)=ae 32 x:=by
 obtain⟨h1,h2⟩:=zQ sec draw;unfold gh;rw[← h1];generalize be sec (ab (be draw bG))=z at *
 generalize ab (be sec bG)=to;generalize ab (be draw bG)=E;have ht:∀(a b:List (BitVec 8)),a.length=32→(a++b).take 32=a∧(a++b).drop 32=b:=fun a b h=>by
  rw[← h];exact⟨List.take_left,List.drop_left⟩
 obtain⟨e1,e2⟩:=ht (ae 32 E) (jO (wkF E (ab z)) (fun _=>0) (ae 32 x) (ae 32 to)) (ag _ _);rw[e1,e2];unfold jO;obtain⟨e3,e4⟩:=ht (dN (wkF E (ab z)) (BitVec.ofInt 32 1) (fun _=>0) (ae 32 x)) (ae 16 (kf (wkF E (ab z)) (fun _=>0) (dN (wkF E (ab z)) (BitVec.ofInt 32 1) (fun _=>0) (ae 32 x)) (ae 32 to))) (by rw[dM,ag]);rw[e3,e4];exact⟨rfl,h2,rfl,vG _ _ _ _⟩
end
section
open Go Go.RowKit Go.Shelf
def cz(d:Nat→BitVec 8)(v:Int):Nat→BitVec 8:=sha (ae 32 d++aR v)
def yn(b:List (BitVec 8)):Nat→BitVec 8:=fun i=>b.getD i 0
def By(b:List (BitVec 8)):List (BitVec 8):=ae 64 (yn b)
def jP(i:Int):Nat→BitVec 8:=fun k=>if k<4 then 0 else p8 i (k-4)
def eU(key:Nat→BitVec 8)(ver i:Int)(p:List (BitVec 8)):List (BitVec 8):=jO key (jP i) p (aR ver)
noncomputable def Bz(root signer device key:Nat→BitVec 8)(id ver blk:Int)(rt:Nat→BitVec 8):Man :=
 ⟨ver,blk,rt,gh (ab (be device bG)) (sha (ae 32 (cz key ver))) (cz key ver),id,ab (gI (ae 32 signer)),kS (ae 32 root) (dt id (ab (gI (ae 32 signer)))),fun _=>0⟩
noncomputable def BA(root signer device key:Nat→BitVec 8)(id ver blk:Int)(rt:Nat→BitVec 8):Man :=
 { Bz root signer device key id ver blk rt with sg:=kS (ae 32 signer) (Bz root signer device key id ver blk rt).body }
theorem np(b:List (BitVec 8)):(By b).length=64:=ag _ _
theorem kw{key:Nat→BitVec 8}{ver i:Int}{p:List (BitVec 8)}(h:p.length=64):(eU key ver i p).length=80:=by
 unfold eU;rw[mg,h]
theorem Ge(root signer device key:Nat→BitVec 8){id ver blk:Int}(rt:Nat→BitVec 8)(i0:0≤id)(i1:id≤2147483647)(v0:0≤ver)(v1:ver≤2147483647)(b0:1≤blk)(b1:blk≤32):(Bz root signer device key id ver blk rt).Ok :=
 ⟨v0,v1,b0,b1,iT _ _ _,i0,i1⟩
theorem tE(root signer device key:Nat→BitVec 8){id ver blk:Int}(rt:Nat→BitVec 8)(i0:0≤id)(i1:id≤2147483647)(v0:0≤ver)(v1:ver≤2147483647)(b0:1≤blk)(b1:blk≤32):(BA root signer device key id ver blk rt).Ok :=
 ⟨v0,v1,b0,b1,iT _ _ _,i0,i1⟩
theorem BB(l:List (BitVec 8)):(bF (leN (ab (gI l)))).isSome=true:=by
 rw[bL (n:=gI l) (Hn _)];have h:bF (gI l)=some (ns (cQ (nu l) pB)):=Ca (fj qp (nu l));rw[h];rfl
structure Fits(device:Nat→BitVec 8)(wr:List (BitVec 8))(x:Nat→BitVec 8):Prop where
 l:wr.length=80
 fit:∃e,wr.take 32=ae 32 e∧be device e≠0 ∧
  ae 16 (kf (wkF e (ab (be device e))) (fun _=>0) ((wr.drop 32).take 32) (ae 32 (ab (be device bG))))=(wr.drop 32).drop 32 ∧
  dN (wkF e (ab (be device e))) (BitVec.ofInt 32 1) (fun _=>0) ((wr.drop 32).take 32)=ae 32 x
theorem rJ(sec draw x:Nat→BitVec 8):Fits sec (gh (ab (be sec bG)) draw x) x:=by
 obtain⟨h1,h2,h3,h4⟩:=EC sec draw x;exact⟨iT _ _ _,_,h1,h2,h3,h4⟩
theorem vY{sec x:Nat→BitVec 8}{l:List (BitVec 8)}(hf:Fits sec l x)(pa:Option Addr)(ca:Nat)(hc:80≤ca)(w:World)(hv:BRow w (.slice pa 80 ca) l) :
 Rt 159 #[.agg (aa 32 sec),.slice pa 80 ca] w (.tuple #[.agg (aa 32 x),.int .i64 0]):=by
 obtain⟨hl,e,h1,h2,h3,h4⟩:=hf;exact Bw sec e x pa ca l w (by rw[hl];exact hv) hl hc h1 h2 h3 h4
end
end Go.Proofs.YtoifhhljfaoejaaGreatDoor
