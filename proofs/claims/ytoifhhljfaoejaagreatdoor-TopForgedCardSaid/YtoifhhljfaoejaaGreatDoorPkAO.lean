/-
  Lemmas of the law, part 15: the walks of the functions that it calls and the plain facts about them. No condition beyond those written.
-/
import Derived.Test.YtoifhhljfaoejaaGreatDoorPkAA
import Derived.Test.YtoifhhljfaoejaaGreatDoorPkAN
set_option maxRecDepth 100000
set_option maxHeartbeats 8000000
set_option linter.unusedVariables false
set_option linter.unusedSimpArgs false
set_option linter.unusedSectionVars false
namespace Go.Proofs.YtoifhhljfaoejaaGreatDoor
open Go.Proofs.Tryz
section
open Go Go.RowKit Go.Shelf
theorem kr(vb:Value)(b:List (BitVec 8))(px p:Option Addr)(cx c:Nat)(l:List (BitVec 8))(w:World)(hb:BRow w vb b)(hb0:0<b.length)(hb1:b.length≤10000)(hx:VRow w (.slice px 1 cx) [.slice p l.length c])(hl:BRow w (.slice p l.length c) l)(hl1:l.length≤10000) :
 Calls prog 203 #[vb,.slice px 1 cx] w fun e w'=>Fresh w (b++(aR l.length++l)) e w':=by
 have hL:=Loc.nil w;have HC:=Hd (d9 vb b w hb hb0 (by omega));haveI hA1:Arg w (.slice p l.length c) (an l):=⟨hl.vrow⟩;obtain⟨_,al,cl,e,_,hcl⟩:=hx;injection e with e1 e2 e3;obtain⟨bl,ol,e4,hbl,hcell⟩:=hcl (by simp);subst e1;subst e4;have hW:Was w bl ol (.slice p l.length c):=⟨by simpa using hcell 0 (by simp),hbl⟩;clear e2 e3 hcl hcell hb hl;have HP:=Hd (fun w1 (v1 v2:Value) (h2:BRow w1 v1 b) (h3:VRow w1 v2 (dq [(l.length:Int)]))=>cB v1 b v2 [(l.length:Int)] w1 h2 hb0 (by omega) h3 (by simp));rw[show aX [(l.length:Int)]=aR l.length from by unfold aX;simp,gZ]at HP;have HLEN:=Hd (show(b++aR l.length).length=b.length+8 from by rw[List.length_append,aO]);have hq:(b++aR l.length).length≤20000:=by rw[List.length_append,aO];omega
 have HAP:=Hd (show b++(aR l.length++l)=(b++aR l.length)++l from(List.append_assoc _ _ _).symm);have HAL:=Hd (show(b++(aR l.length++l)).length=(b++aR l.length).length+l.length from by rw[← List.append_assoc,List.length_append]);generalize b++(aR l.length++l)=out,b++aR l.length=b8 at *
 go_enter func203,ntmps203;go_wp2_with (first|refine aU ?_|(go_at_call 94;go_loud (refine(HC.out).mono ?_);rintro e w1⟨g9,cap9,cur9,rfl,hr9,hg9,hc9,hb9⟩;have hL1:=hL.fresh hb9 hg9 hc9;clear hb9 hg9 hc9;clear hL;have hL:=hL1;clear hL1;refine p4 ?_)|(refine ah ?_;clear hL;intro w1 hL));go_loopw [5,12] (fun v kk wr=>(kk= .int .i64 0∧v= .slice (some ⟨g9,0,none⟩) b.length cap9∧Loc w wr [(g9,cur9,5)])∨(kk= .int .i64 1∧∃g cap cur,v= .slice (some ⟨g,0,none⟩) (b8.length+l.length) cap∧OwnR cur (b8.length+l.length) cap (an (b8++l))∧Loc w wr [(g,cur,5)])) (fun _ kk _=>1-(intOf kk).toNat);case atStart=>exact .inl ⟨rfl,rfl,hL⟩
 case round =>
  clear hL;rcases hrel with⟨rfl,rfl,hL⟩|⟨rfl,g,cap,cur,rfl,hr,hL⟩
  ·skip
   go_wp2_with (first|refine aU ?_|(refine gN 19 ?_;refine aL ?_;clear hL;intro b19 w1 hL)|(go_at_call 202;go_loud (refine(HP.out _ _ _ (See.bytes hL) (See.see _ hL)).mono ?_);rintro e w1⟨g20,cap20,cur20,rfl,hr20,hg20,hc20,hb20⟩;have hL1:=hL.fresh hb20 hg20 hc20;clear hb20 hg20 hc20;clear hL;have hL:=hL1;clear hL1;refine p4 ?_)|(refine gN 22 ?_;refine aA ?_;clear hL;intro g22 cap22 cur22 w1 hr22 hL)|(refine ah ?_;clear hL;intro w1 hL));go_roundw;case rel=>exact .inr ⟨rfl,g22,cap22,cur22,rfl,hr22,Loc.rem b19 (Loc.rem g9 hL)⟩
   case measure=>simp only[intOf];decide
  ·rw[← HAL.out,← HAP.out]at hr
   rw[← HAL.out];go_wp2_with (first|refine aU ?_|(refine ah ?_;clear hL;intro w1 hL))
   all_goals(go_ret;exact hL.back rfl)
instance Pc:Ent 203:=eo func203
def qw(b:Bool):Int:=if b then 1 else 0
theorem vf(b:Bool)(w:World):Rt 204 #[.bool b] w (.int .i64 (qw b)):=by
 cases b <;> go_enter func204,ntmps204
 all_goals go_wp2_with fail
 all_goals(go_ret;exact⟨rfl,Below.refl _ _⟩)
instance Pd:Ent 204:=eo func204
theorem iL{w0 w:World}{M:Mem}(hL:Loc w0 w M){b:Nat}{r:Array Value}{t:TypeId}(hm:(b,r,t)∈M){k:Nat}{v:Value}(hc:r[k]?=some v):Was w b k v :=
 ⟨by rw[cell_of_row w b k _ _ _ (hL.get hm)];exact hc,hL.lt hm⟩
def ly(x:List (BitVec 8))(m:List (BitVec 8))(d:Bool)(t:Int):List (BitVec 8):=(x++(aR m.length++m))++aX [qw d,t]
def xN(s:Sta):List (BitVec 8):=(([80,67,83,49]++aX [s.fl,(s.rv.length:Int)])++aX s.rv)++aX [s.ac]
def stB(s:Sta):List (BitVec 8):=ly (ly (xN s) s.m0 s.d0 s.t0) s.m1 s.d1 s.t1
theorem iM(x m:List (BitVec 8))(d:Bool)(t:Int):(ly x m d t).length=x.length+m.length+24:=by
 unfold ly;rw[List.length_append,List.length_append,List.length_append,aO,bg];simp;omega
theorem nb(s:Sta):(xN s).length=28+8*s.rv.length:=by
 unfold xN;simp only[List.length_append,bg,List.length_cons,List.length_nil];omega
theorem pD(s:Sta):(stB s).length=76+8*s.rv.length+s.m0.length+s.m1.length:=by
 unfold stB;rw[iM,iM,nb];omega
instance Pf:RowTy 56 6:=⟨⟨_,underlying56,rfl⟩,by kernel_rfl⟩
instance Pg(a b x y z c d e f:Value):Part #[a,b,x,y,z,c,d,e,f] 58 2 56 #[x,y,z,c,d,e]:=ce (pre:= #[a,b]) (post:= #[f]) rfl rfl
instance Ph:RowZ 55 (slR none 0 0 false 0):=⟨by kernel_rfl⟩
theorem Mn(x y z c d e:Value)(w:World):(Instr.index 56 (.agg #[x,y,z,c,d,e]) (.int .i64 0)).run prog w= .ok (.agg #[x,y,z]) w:=by kernel_rfl
theorem Mo(x y z c d e:Value)(w:World):(Instr.index 56 (.agg #[x,y,z,c,d,e]) (.int .i64 1)).run prog w= .ok (.agg #[c,d,e]) w:=by kernel_rfl
theorem Gy(p:Option Addr)(n c:Nat):Seg #[.slice p n c] 0 1 [.slice p n c]:=⟨rfl,fun u hu=>by simp at hu;subst hu;rfl,fun i hi=>by simp at hi;subst hi;rfl⟩
theorem DI(s:Sta)(q:Sq)(w:World)(hr:ReadS w s q)(hg:Good s):Calls prog 154 #[.agg (stR s q)] w fun e w'=>∃g cap cur,e= .returned (.tuple #[.slice (some ⟨g,0,none⟩) (stB s).length cap,.int .i64 0])∧OwnR cur (stB s).length cap (an (stB s))∧Loc w w' [(g,cur,5)]:=by
 have hL:=Loc.nil w;have HM:=Hd (fun w1 (h:ReadS w1 s q)=>nM s q w1 h hg);have HRD:=Hd (fun w1 (h:Below w.heap.size w w1)=>(⟨hr.r.below h,by have:=hr.a.vrow.below h;exact this.brow,by have:=hr.b.vrow.below h;exact this.brow,hr.zr,hr.za,hr.zb⟩:ReadS w1 s q));have hlen0:s.m0.length≤300:=by rcases hg.s0 with⟨h,_⟩|⟨h,_⟩ <;> omega
 have hlen1:s.m1.length≤300:=by rcases hg.s1 with⟨h,_⟩|⟨h,_⟩ <;> omega
 have hlen2:=hg.n;have hB0:=nb s;have hB:=pD s;have hx5':=iM (xN s) s.m0 s.d0 s.t0;have h0:xN s=(([80,67,83,49]++aX [s.fl,(s.rv.length:Int)])++aX s.rv)++aX [s.ac]:=rfl;have h7:stB s=ly (ly (xN s) s.m0 s.d0 s.t0) s.m1 s.d1 s.t1:=rfl;generalize stB s=x7,xN s=x3 at *
 obtain⟨fl,rv,m0,d0,t0,m1,d1,t1,ac⟩:=s;obtain⟨pr,cr,p0,c0,p1,c1⟩:=q;obtain⟨r1,r2,r3,zr,za,zb⟩:=hr;dsimp only at *
 haveI hA1:Arg w (.slice pr rv.length cr) (dq rv):=⟨r1⟩;haveI hA2:Arg w (.slice p0 m0.length c0) (an m0):=⟨r2.vrow⟩;haveI hA3:Arg w (.slice p1 m1.length c1) (an m1):=⟨r3.vrow⟩;obtain⟨x1,hx1⟩:∃x,x=[80,67,83,49]++aX [fl,(rv.length:Int)]:=⟨_,rfl⟩;obtain⟨x2,hx2⟩:∃x,x=x1++aX rv:=⟨_,rfl⟩;obtain⟨x4,hx4⟩:∃x,x=x3++(aR m0.length++m0):=⟨_,rfl⟩;obtain⟨x5,hx5⟩:∃x,x=x4++aX [qw d0,t0]:=⟨_,rfl⟩;obtain⟨x6,hx6⟩:∃x,x=x5++(aR m1.length++m1):=⟨_,rfl⟩;have e5:ly x3 m0 d0 t0=x5:=by unfold ly;rw[hx5,hx4]
 rw[e5]at hx5' h7;have e7:x7=x6++aX [qw d1,t1]:=by rw[h7];unfold ly;rw[hx6]
 rw[← hx1,← hx2]at h0;have l1:x1.length=20:=by rw[hx1,List.length_append,bg];rfl
 have l2:x2.length=20+8*rv.length:=by rw[hx2,List.length_append,bg,l1]
 have l4:x4.length=x3.length+8+m0.length:=by rw[hx4,List.length_append,List.length_append,aO];omega
 have l6:x6.length=x5.length+8+m1.length:=by rw[hx6,List.length_append,List.length_append,aO];omega
 have P1:=Hd (fun w1 (v1 v2:Value) (h2:BRow w1 v1 [80,67,83,49]) (h3:VRow w1 v2 (dq [fl,(rv.length:Int)]))=>(show Calls _ _ _ _ (fun e w'=>Fresh w1 x1 e w')from by rw[hx1];exact cB v1 _ v2 _ w1 h2 (by decide) (by decide) h3 (by simp)));have P2:=Hd (fun w1 (v1 v2:Value) (h2:BRow w1 v1 x1) (h3:VRow w1 v2 (dq rv))=>(show Calls _ _ _ _ (fun e w'=>Fresh w1 x2 e w')from by rw[hx2];exact cB v1 _ v2 _ w1 h2 (by omega) (by omega) h3 (by omega)));have P3:=Hd (fun w1 (v1 v2:Value) (h2:BRow w1 v1 x2) (h3:VRow w1 v2 (dq [ac]))=>(show Calls _ _ _ _ (fun e w'=>Fresh w1 x3 e w')from by rw[h0];exact cB v1 _ v2 _ w1 h2 (by omega) (by omega) h3 (by simp)));have P4:=Hd (fun w1 (v1:Value) px cx (h2:BRow w1 v1 x3) (h3:VRow w1 (.slice px 1 cx) [.slice p0 m0.length c0]) (h4:BRow w1 (.slice p0 m0.length c0) m0)=>(show Calls _ _ _ _ (fun e w'=>Fresh w1 x4 e w')from by rw[hx4];exact kr v1 _ px p0 cx c0 m0 w1 h2 (by omega) (by omega) h3 h4 (by omega)));have P5:=Hd (fun w1 (v1 v2:Value) (h2:BRow w1 v1 x4) (h3:VRow w1 v2 (dq [qw d0,t0]))=>(show Calls _ _ _ _ (fun e w'=>Fresh w1 x5 e w')from by rw[hx5];exact cB v1 _ v2 _ w1 h2 (by omega) (by omega) h3 (by simp)));have P6:=Hd (fun w1 (v1:Value) px cx (h2:BRow w1 v1 x5) (h3:VRow w1 (.slice px 1 cx) [.slice p1 m1.length c1]) (h4:BRow w1 (.slice p1 m1.length c1) m1)=>(show Calls _ _ _ _ (fun e w'=>Fresh w1 x6 e w')from by rw[hx6];exact kr v1 _ px p1 cx c1 m1 w1 h2 (by omega) (by omega) h3 h4 (by omega)));have P7:=Hd (fun w1 (v1 v2:Value) (h2:BRow w1 v1 x6) (h3:VRow w1 v2 (dq [qw d1,t1]))=>(show Calls _ _ _ _ (fun e w'=>Fresh w1 x7 e w')from by rw[e7];exact cB v1 _ v2 _ w1 h2 (by omega) (by omega) h3 (by simp)));haveI s0:Seg #[.int .u8 80,.int .u8 67,.int .u8 83,.int .u8 49] 0 4 (an [80,67,83,49]):=Gx 80 67 83 49;haveI s1:=rd fl (rv.length:Int);haveI s2:=rd (qw d0) t0;haveI s3:=rd (qw d1) t1;haveI s4:=Gy p0 m0.length c0;haveI s5:=Gy p1 m1.length c1;haveI s6:Seg #[.int .i64 ac] 0 1 (dq [ac]):=FE _ _;clear r1 r2 r3 zr za zb hg hx1 hx2 hx4 hx5 hx6 e5 e7 h0 h7 hB0 hB hx5' l1 l2 l4 l6;have HB0:=Hd (fun w1=>vf d0 w1);have HB1:=Hd (fun w1=>vf d1 w1);generalize qw d0=bd0,qw d1=bd1 at *
 have hi0:=Mn;have hi1:=Mo;go_enter func154,ntmps154;go_wp2_with (first|refine aU ?_|(refine gBp 1 ?_;clear hL;intro b1 w1 hL)|(refine gN 8 ?_;refine lV (HM.out _ (HRD.out _ hL.bel)) hL ?_;clear hL;intro w1 hL)|((with_reducible show wpList _ _ _ (⟨some 10,_,_,_,_,_⟩::⟨some 11,_,_,_,_,_⟩::_) _ _);go_loud (refine zq 80 67 83 49 hL rfl rfl rfl rfl rfl rfl rfl rfl (fun _=>rfl) ?_);clear hL;intro b10 w11 hb10 hL0;have hA10:Arg w11 (.slice (some ⟨b10,0,none⟩) 4 4) (an [80,67,83,49]):=⟨hb10.vrow⟩;have g0:Was w11 b1 0 (.int .i64 fl):=iL hL0 (.head _) rfl;have g1:Was w11 b1 1 (.slice pr rv.length cr):=iL hL0 (.head _) rfl;have hL:=Loc.nil w11)|(refine gN 17 ?_;refine zm hL rfl rfl rfl rfl ?_;intro b17;clear hL;intro w1 hL)|((go_at_call 202;go_loud (refine(P1.out _ _ _ (See.bytes hL) (See.see _ hL)).mono ?_);rintro e w1⟨g18,cap18,cur18,rfl,hr18,hg18,hc18,hb18⟩;have hL1:=hL0.join (hL.fresh hb18 hg18 hc18);clear hb18 hg18 hc18;clear hL hA10 hb10 g0 g1;simp only[List.cons_append,List.nil_append]at hL1;have hL:=Loc.rem b17 hL1;clear hL1 hL0;refine p4 ?_))|(refine ah ?_;clear hL;intro w1 hL));refine jx (R:=?R) (fun hR=>?h1) ?h2;case h1 =>
  refine mX (S:=fun w'=>Loc _ w' _) 9 (hL.drew) ?_;intro hHeld;replace hL:=hL.drew;refine uG 0 ?_;refine uG 1 ?_;refine uG 4 ?_;refine uZ 2 ?_;refine uZ 5 ?_;refine rd2 3 6 ?_ ?_
  ·intro K hK
   refine eK (P2.out _ (.slice (some ⟨g18,0,none⟩) x1.length cap18) (.slice pr rv.length cr) (See.bytes hL) (See.see _ hL)) ?_;rintro e w1⟨g22,cap22,cur22,rfl,hr22,hg22,hc22,hb22⟩;refine⟨_,rfl,?_⟩;have hL1:=hL.fresh hb22 hg22 hc22;clear hb22 hg22 hc22;clear hL;have hL:=hL1;clear hL1;refine kO hK (hL.pop) ?_;clear hK K hHeld;intro hHeld;refine rd1 6 ?_;intro K hK;refine eBS ?_;clear hL;intro b25 w1 hL;refine kO hK (hL.pop.pop) ?_;clear hK K hHeld;intro hHeld;refine rd1 7 ?_;intro K hK;refine eK (P3.out _ (.slice (some ⟨g22,0,none⟩) x2.length cap22) (.slice (some ⟨b25,0,none⟩) 1 1) (See.bytes hL) (See.see _ hL)) ?_;rintro e w1⟨g26,cap26,cur26,rfl,hr26,hg26,hc26,hb26⟩;refine⟨_,rfl,?_⟩;have hL1:=hL.fresh hb26 hg26 hc26;clear hb26 hg26 hc26;clear hL;have hL:=hL1;clear hL1;refine kO hK (hL.pop.pop.pop) ?_;clear hK K hHeld;intro hHeld;refine uG 8 ?_;refine wD ?_;clear hHeld;have hLp:=hL;clear hL;revert hLp;revert w1;revert hr26;revert cur26;revert cap26;revert g26;revert b25;revert hr22;revert cur22;revert cap22;revert g22;exact pm hR
  ·intro K hK
   refine eBS ?_;clear hL;intro b25 w1 hL;refine kO hK (hL.pop) ?_;clear hK K hHeld;intro hHeld;refine rd1 3 ?_;intro K hK;refine eK (P2.out _ (.slice (some ⟨g18,0,none⟩) x1.length cap18) (.slice pr rv.length cr) (See.bytes hL) (See.see _ hL)) ?_;rintro e w1⟨g22,cap22,cur22,rfl,hr22,hg22,hc22,hb22⟩;refine⟨_,rfl,?_⟩;have hL1:=hL.fresh hb22 hg22 hc22;clear hb22 hg22 hc22;clear hL;have hL:=hL1;clear hL1;refine kO hK (hL.pop.pop) ?_;clear hK K hHeld;intro hHeld;refine rd1 7 ?_;intro K hK;refine eK (P3.out _ (.slice (some ⟨g22,0,none⟩) x2.length cap22) (.slice (some ⟨b25,0,none⟩) 1 1) (See.bytes hL) (See.see _ hL)) ?_;rintro e w1⟨g26,cap26,cur26,rfl,hr26,hg26,hc26,hb26⟩;refine⟨_,rfl,?_⟩;have hL1:=hL.fresh hb26 hg26 hc26;clear hb26 hg26 hc26;clear hL;have hL:=hL1;clear hL1;refine kO hK (hL.pop.pop.pop) ?_;clear hK K hHeld;intro hHeld;refine uG 8 ?_;refine wD ?_;clear hHeld;have hLp:=hL;clear hL;revert hLp;revert w1;revert hr26;revert cur26;revert cap26;revert g26;revert b25;revert hr22;revert cur22;revert cap22;revert g22;exact pm hR
 intro g22 cap22 cur22 hr22 b25 g26 cap26 cur26 hr26 w1 hL1;clear hL;have hL:=hL1;clear hL1;have hL1:=Loc.rem b25 (Loc.rem g22 (Loc.rem g18 hL));clear hL;have hL:=hL1;clear hL1;go_wp2_with (first|refine aU ?_|(refine ah ?_;clear hL;intro w1 hL));go_loopw [4,29] (fun v kk wr=>(kk= .int .i64 0∧v= .slice (some ⟨g26,0,none⟩) x3.length cap26∧Loc w wr [(g26,cur26,5),(b1,stR ⟨fl,rv,m0,d0,t0,m1,d1,t1,ac⟩ ⟨pr,cr,p0,c0,p1,c1⟩,58)]) ∨
  (kk= .int .i64 1∧∃g cap cur,v= .slice (some ⟨g,0,none⟩) x5.length cap∧OwnR cur x5.length cap (an x5)∧Loc w wr [(g,cur,5),(b1,stR ⟨fl,rv,m0,d0,t0,m1,d1,t1,ac⟩ ⟨pr,cr,p0,c0,p1,c1⟩,58)]) ∨
  (kk= .int .i64 2∧∃g cap cur,v= .slice (some ⟨g,0,none⟩) x7.length cap∧OwnR cur x7.length cap (an x7)∧Loc w wr [(g,cur,5),(b1,stR ⟨fl,rv,m0,d0,t0,m1,d1,t1,ac⟩ ⟨pr,cr,p0,c0,p1,c1⟩,58)])) (fun _ kk _=>2-(intOf kk).toNat)
 case atStart=>exact .inl ⟨rfl,rfl,hL⟩
 case round =>
  clear hL;rcases hrel with⟨rfl,rfl,hL⟩|⟨rfl,g,cap,cur,rfl,hr,hL⟩|⟨rfl,g,cap,cur,rfl,hr,hL⟩
  ·skip
   go_wp2_with (first|refine aU ?_|(refine gBp 6 ?_;clear hL;intro b6 w1 hL)|(refine ah ?_;clear hL;intro w1 hL));refine mX (S:=fun w'=>Loc _ w' _) 13 (hL.drew) ?_;intro hHeld;replace hL:=hL.drew;refine uG 0 ?_;refine uG 1 ?_;refine uG 5 ?_;refine uG 8 ?_;refine uZ 2 ?_;refine uZ 6 ?_;refine uZ 9 ?_;refine rd1 3 ?_;intro K hK;refine eBS ?_;clear hL;intro b35 w1 hL;refine kO hK (hL.pop) ?_;clear hK K hHeld;intro hHeld;refine rd1 4 ?_;intro K hK;refine eK (P4.out _ (.slice (some ⟨g26,0,none⟩) x3.length cap26) (some ⟨b35,0,none⟩) 1 (See.bytes hL) (See.see _ hL) (See.bytes hL)) ?_;rintro e w1⟨g36,cap36,cur36,rfl,hr36,hg36,hc36,hb36⟩;refine⟨_,rfl,?_⟩;have hL1:=hL.fresh hb36 hg36 hc36;clear hb36 hg36 hc36;clear hL;have hL:=hL1;clear hL1;refine kO hK (hL.pop.pop) ?_;clear hK K hHeld;intro hHeld;refine rd1 7 ?_;intro K hK;refine eVv (HB0.out _) hL ?_;clear hL;intro w1 hL;refine kO hK (hL.pop.pop) ?_;clear hK K hHeld;intro hHeld;refine rd1 10 ?_;intro K hK;refine eBS ?_;clear hL;intro b42 w1 hL;refine kO hK (hL.pop.pop.pop) ?_;clear hK K hHeld;intro hHeld;refine rd1 11 ?_;intro K hK;refine eK (P5.out _ (.slice (some ⟨g36,0,none⟩) x4.length cap36) (.slice (some ⟨b42,0,none⟩) 2 2) (See.bytes hL) (See.see _ hL)) ?_;rintro e w1⟨g43,cap43,cur43,rfl,hr43,hg43,hc43,hb43⟩;refine⟨_,rfl,?_⟩;have hL1:=hL.fresh hb43 hg43 hc43;clear hb43 hg43 hc43;clear hL;have hL:=hL1;clear hL1;refine kO hK (hL.pop.pop.pop.pop) ?_;clear hK K hHeld;intro hHeld;refine uG 12 ?_;refine wD ?_;clear hHeld;go_wp2_with (first|refine aU ?_|(refine ah ?_;clear hL;intro w1 hL));go_roundw;case rel=>exact .inr (.inl ⟨rfl,g43,cap43,cur43,rfl,hr43,Loc.rem b42 (Loc.rem g36 (Loc.rem b35 (Loc.rem b6 (Loc.rem g26 hL))))⟩)
   case measure=>simp only[intOf];decide
  ·skip
   go_wp2_with (first|refine aU ?_|(refine gBp 6 ?_;clear hL;intro b6 w1 hL)|(refine ah ?_;clear hL;intro w1 hL));refine mX (S:=fun w'=>Loc _ w' _) 13 (hL.drew) ?_;intro hHeld;replace hL:=hL.drew;refine uG 0 ?_;refine uG 1 ?_;refine uG 5 ?_;refine uG 8 ?_;refine uZ 2 ?_;refine uZ 6 ?_;refine uZ 9 ?_;refine rd1 3 ?_;intro K hK;refine eBS ?_;clear hL;intro b35 w1 hL;refine kO hK (hL.pop) ?_;clear hK K hHeld;intro hHeld;refine rd1 4 ?_;intro K hK;refine eK (P6.out _ (.slice (some ⟨g,0,none⟩) x5.length cap) (some ⟨b35,0,none⟩) 1 (See.bytes hL) (See.see _ hL) (See.bytes hL)) ?_;rintro e w1⟨g36,cap36,cur36,rfl,hr36,hg36,hc36,hb36⟩;refine⟨_,rfl,?_⟩;have hL1:=hL.fresh hb36 hg36 hc36;clear hb36 hg36 hc36;clear hL;have hL:=hL1;clear hL1;refine kO hK (hL.pop.pop) ?_;clear hK K hHeld;intro hHeld;refine rd1 7 ?_;intro K hK;refine eVv (HB1.out _) hL ?_;clear hL;intro w1 hL;refine kO hK (hL.pop.pop) ?_;clear hK K hHeld;intro hHeld;refine rd1 10 ?_;intro K hK;refine eBS ?_;clear hL;intro b42 w1 hL;refine kO hK (hL.pop.pop.pop) ?_;clear hK K hHeld;intro hHeld;refine rd1 11 ?_;intro K hK;refine eK (P7.out _ (.slice (some ⟨g36,0,none⟩) x6.length cap36) (.slice (some ⟨b42,0,none⟩) 2 2) (See.bytes hL) (See.see _ hL)) ?_;rintro e w1⟨g43,cap43,cur43,rfl,hr43,hg43,hc43,hb43⟩;refine⟨_,rfl,?_⟩;have hL1:=hL.fresh hb43 hg43 hc43;clear hb43 hg43 hc43;clear hL;have hL:=hL1;clear hL1;refine kO hK (hL.pop.pop.pop.pop) ?_;clear hK K hHeld;intro hHeld;refine uG 12 ?_;refine wD ?_;clear hHeld;go_wp2_with (first|refine aU ?_|(refine ah ?_;clear hL;intro w1 hL));go_roundw;case rel=>exact .inr (.inr ⟨rfl,g43,cap43,cur43,rfl,hr43,Loc.rem b42 (Loc.rem g36 (Loc.rem b35 (Loc.rem b6 (Loc.rem g hL))))⟩)
   case measure=>simp only[intOf];decide
  ·skip
   go_wp2_with (first|refine aU ?_|(refine ah ?_;clear hL;intro w1 hL));go_ret2;exact⟨g,cap,cur,rfl,hr,Loc.rem b1 hL⟩
instance Pi:Ent 154:=eo func154
end

section
open Go Go.RowKit Go.Shelf
abbrev DJ:Array Value:=stR ⟨0,[],[],false,0,[],false,0,0⟩ Sq.none
def Sta.add(s:Sta)(id:Int):Sta:=⟨s.fl,s.rv++[id],s.m0,s.d0,s.t0,s.m1,s.d1,s.t1,s.ac⟩
end
section
open Go Go.RowKit Go.Shelf
abbrev bM(b:Nat):Value:= .pointer (some ⟨b,0,none⟩)
abbrev kpR(bo bk a0 a1:Nat):Array Value:= #[bM bo,bM bk,bM a0,bM a1]
abbrev arR(bf:Nat)(k:Int):Array Value:= #[bM bf,.int .i64 k]
def coR(kp:Nat)(fr fs:Nat→BitVec 8)(s:Sta)(q:Sq)(bt:Int)(rg:Nat→BitVec 8):Array Value:= #[.iface 115 (bM kp)]++aa 32 fr++aa 32 fs++stR s q ++ #[.int .i64 bt]++aa 32 rg
section
variable (kp:Nat) (fr fs:Nat→BitVec 8) (s:Sta) (q:Sq) (bt:Int) (rg:Nat→BitVec 8)
theorem DK:(coR kp fr fs s q bt rg).size=107:=by simp[coR,aj]
theorem nN{k:Nat}(h:k<9):(coR kp fr fs s q bt rg)[65+k]?=(stR s q)[k]?:=by
 unfold coR;rw[Array.getElem?_append_left (by simp[aj];omega),Array.getElem?_append_left (by simp[aj];omega),Array.getElem?_append_right (by simp[aj])];simp[aj]
instance Pj:Cell (coR kp fr fs s q bt rg) 0 (.iface 115 (bM kp)):=⟨by
 unfold coR;rw[Array.getElem?_append_left (by simp[aj]),Array.getElem?_append_left (by simp[aj]),Array.getElem?_append_left (by simp[aj]),Array.getElem?_append_left (by simp[aj]),Array.getElem?_append_left (by simp)];rfl⟩
instance Pk:Cell (coR kp fr fs s q bt rg) 65 (.int .i64 s.fl):=⟨(nN kp fr fs s q bt rg (k:=0) (by decide)).trans rfl⟩
instance Pl:Cell (coR kp fr fs s q bt rg) 66 (.slice q.pr s.rv.length q.cr):=⟨(nN kp fr fs s q bt rg (k:=1) (by decide)).trans rfl⟩
instance Pm:Cell (coR kp fr fs s q bt rg) 67 (.slice q.p0 s.m0.length q.c0):=⟨(nN kp fr fs s q bt rg (k:=2) (by decide)).trans rfl⟩
instance Pn:Cell (coR kp fr fs s q bt rg) 70 (.slice q.p1 s.m1.length q.c1):=⟨(nN kp fr fs s q bt rg (k:=5) (by decide)).trans rfl⟩
instance Mp:Cell (coR kp fr fs s q bt rg) 74 (.int .i64 bt):=⟨by
 unfold coR;rw[Array.getElem?_append_left (by simp[aj]),Array.getElem?_append_right (by simp[aj])];simp[aj]⟩
instance Mq(k:Int):Put (coR kp fr fs s q bt rg) 74 (.int .i64 k) (coR kp fr fs s q k rg):=⟨by
 unfold coR;rw[Array.setIfInBounds_append_left (by simp[aj]),Array.setIfInBounds_append_right (by simp[aj])];simp[aj],by rw[DK];decide⟩
instance Mr:Part (coR kp fr fs s q bt rg) 176 1 24 (aa 32 fr):=ce (pre:= #[.iface 115 (bM kp)]) (post:=aa 32 fs++stR s q ++ #[.int .i64 bt]++aa 32 rg) (by simp only[coR,Array.append_assoc]) rfl
instance Ms:Part (coR kp fr fs s q bt rg) 176 33 24 (aa 32 fs):=ce (pre:= #[.iface 115 (bM kp)]++aa 32 fr) (post:=stR s q ++ #[.int .i64 bt]++aa 32 rg) (by simp only[coR,Array.append_assoc]) (by simp[aj])
instance Mt:Part (coR kp fr fs s q bt rg) 176 65 58 (stR s q):=ce (pre:= #[.iface 115 (bM kp)]++aa 32 fr++aa 32 fs) (post:= #[.int .i64 bt]++aa 32 rg) (by simp only[coR,Array.append_assoc]) (by simp[aj])
instance Mu(s':Sta)(q':Sq):Splice (coR kp fr fs s q bt rg) 65 (stR s' q') (coR kp fr fs s' q' bt rg):=by
 have:=cG (#[.iface 115 (bM kp)]++aa 32 fr++aa 32 fs) (stR s q) (stR s' q') (#[.int .i64 bt]++aa 32 rg) 65 (by simp[aj]) rfl;simpa only[coR,Array.append_assoc] using this
end
instance Mv:ScTy 109:=⟨fun w=>by kernel_rfl,by kernel_rfl⟩
instance Mw:ScTy 122:=⟨fun w=>by kernel_rfl,by kernel_rfl⟩
instance Mx:ScTy 116:=⟨fun w=>by kernel_rfl,by kernel_rfl⟩
instance My:ScTy 172:=⟨fun w=>by kernel_rfl,by kernel_rfl⟩
class SeeS(w0:World)(M:Mem)(s:Sta)(q:Sq):Prop where
 r:See w0 M (.slice q.pr s.rv.length q.cr) (dq s.rv)
 a:See w0 M (.slice q.p0 s.m0.length q.c0) (an s.m0)
 b:See w0 M (.slice q.p1 s.m1.length q.c1) (an s.m1)
 zr:s.rv=[]→q.pr=none
 za:s.m0=[]→q.p0=none
 zb:s.m1=[]→q.p1=none
theorem SeeS.read{w0 w:World}{M:Mem}{s:Sta}{q:Sq}(h:SeeS w0 M s q)(hL:Loc w0 w M):ReadS w s q:=by
 have:=h.r;have:=h.a;have:=h.b;exact FJ hL h.zr h.za h.zb
instance Kd(w0:World)(x:Nat×Array Value×TypeId)(M:Mem)(s:Sta)(q:Sq)[h:SeeS w0 M s q]:SeeS w0 (x::M) s q:=⟨by have:=h.r;infer_instance,by have:=h.a;infer_instance,by have:=h.b;infer_instance,h.zr,h.za,h.zb⟩
theorem HoldQ.sees{Sr S0 S1:Mem}{s:Sta}{q:Sq}(h:HoldQ Sr S0 S1 s q)(w0:World)(M:Mem):SeeS w0 (S1++(S0++(Sr++M))) s q:=by
 have:=h.r;have:=h.a;have:=h.b;exact⟨inferInstance,inferInstance,inferInstance,h.zr,h.za,h.zb⟩
theorem lD(w0:World)(M:Mem):SeeS w0 M Sta.new Sq.none:=⟨ov _ _,ov _ _,ov _ _,fun _=>rfl,fun _=>rfl,fun _=>rfl⟩
class CoM(F:Array Value→Array Value→Array Value→Array Value→Array Value→Mem)(bf bb bo bk kp a0 a1 cc:Nat):Prop where
 a:∀x y z u c,At (F x y z u c) bf x 106
 u:∀x y z u c x',Ups (F x y z u c) bf x' (F x' y z u c)
 b:∀x y z u c,At (F x y z u c) bb y 5
 v:∀x y z u c y',Ups (F x y z u c) bb y' (F x y' z u c)
 o:∀x y z u c,At (F x y z u c) bo z 108
 p:∀x y z u c z',Ups (F x y z u c) bo z' (F x y z' u c)
 q:∀x y z u c,At (F x y z u c) bk u 166
 r:∀x y z u c u',Ups (F x y z u c) bk u' (F x y z u' c)
 g:∀x y z u c,At (F x y z u c) cc c 176
 h:∀x y z u c c',Ups (F x y z u c) cc c' (F x y z u c')
 k:∀x y z u c,At (F x y z u c) kp (kpR bo bk a0 a1) 119
 l:∀x y z u c,At (F x y z u c) a0 (arR bf 64) 170
 m:∀x y z u c,At (F x y z u c) a1 (arR bf 96) 170
instance coM(F:Array Value→Array Value→Array Value→Array Value→Array Value→Mem)(bf bb bo bk kp a0 a1 cc:Nat)[h1:∀x y z u c,At (F x y z u c) bf x 106][h2:∀x y z u c x',Ups (F x y z u c) bf x' (F x' y z u c)][h3:∀x y z u c,At (F x y z u c) bb y 5][h4:∀x y z u c y',Ups (F x y z u c) bb y' (F x y' z u c)][h5:∀x y z u c,At (F x y z u c) bo z 108][h6:∀x y z u c z',Ups (F x y z u c) bo z' (F x y z' u c)][h7:∀x y z u c,At (F x y z u c) bk u 166][h8:∀x y z u c u',Ups (F x y z u c) bk u' (F x y z u' c)][h9:∀x y z u c,At (F x y z u c) cc c 176][ha:∀x y z u c c',Ups (F x y z u c) cc c' (F x y z u c')][hb:∀x y z u c,At (F x y z u c) kp (kpR bo bk a0 a1) 119][hc:∀x y z u c,At (F x y z u c) a0 (arR bf 64) 170][hd:∀x y z u c,At (F x y z u c) a1 (arR bf 96) 170]:CoM F bf bb bo bk kp a0 a1 cc:=⟨h1,h2,h3,h4,h5,h6,h7,h8,h9,ha,hb,hc,hd⟩
structure Dv where
 er:Int
 pr:Int
 y:Array Value
 f:Nat→BitVec 8
 n:Int
 m:Int
 p:Option Addr
 kn:Nat
 kc:Nat
 half:Int
 s:Sta
 q:Sq
 bt:Int
 rg:Nat→BitVec 8
structure Dv.Ok(d:Dv):Prop where
 er:0≤d.er∧d.er≤1099511627776
 pr:0≤d.pr∧d.pr≤1099511627776
 fl:Fl d.f d.y
 n:0≤d.n
 le:d.n≤d.m
 m:d.m≤1048576
 half:d.half=0∨d.half=1
 good:Good d.s
abbrev Dv.at(d:Dv)(F:Array Value→Array Value→Array Value→Array Value→Array Value→Mem)(bf bb bo kp:Nat)(fr fs:Nat→BitVec 8):Mem :=
 F (flR bb d.er d.pr) d.y (otR bf fr fs d.n d.m) (bkR bf bo d.p d.kn d.kc d.half) (coR kp fr fs d.s d.q d.bt d.rg)
structure Dv.Next(d d':Dv):Prop where
 ok:d'.Ok
 n:d'.n=d.n+1
 m:d'.m=d.m
 f:∀i,16384≤i→d'.f i=d.f i
 bt:d'.bt=d.bt
 rg:d'.rg=d.rg
section
variable {w0 w:World} {F:Array Value→Array Value→Array Value→Array Value→Array Value→Mem} {bf bb bo bk kp a0 a1 cc:Nat} {fr fs:Nat→BitVec 8}
theorem DL(hF:CoM F bf bb bo bk kp a0 a1 cc)(d:Dv)(ok:d.Ok)(hL:Loc w0 w (d.at F bf bb bo kp fr fs)) :
 Calls prog 340 #[bM kp] w fun e w'=>e= .returned (.int .i64 (d.m-d.n))∧Loc w0 w' (d.at F bf bb bo kp fr fs):=by
 have hA:=hF.a;have hU:=hF.u;have hB:=hF.b;have hV:=hF.v;have hO:=hF.o;have hPP:=hF.p;have hKK:=hF.k;obtain⟨_,_,_,h1,h2,h3,_,_⟩:=ok;obtain⟨er,pr,y,f,n,m,p,kn,kc,half,s,q,bt,rg⟩:=d;dsimp only[Dv.at]at *
 have hw:IntKind.i64.wrap (m-n)=m-n:=IntWalk.i64_in _ (by omega);go_enter func340,ntmps340;go_wp2_with (first|refine aU ?_|(refine ah ?_;clear hL;intro w1 hL));refine mX (S:=fun w'=>Loc _ w' _) 12 (hL.drew) ?_;intro hHeld;replace hL:=hL.drew;refine uG 0 ?_;refine uG 5 ?_;refine uG 1 ?_;refine uG 6 ?_;refine uG 2 ?_;refine uG 7 ?_;refine uZ 3 ?_;refine uZ 8 ?_;refine rd1 4 ?_;intro K hK;refine eK (jC (F:=fun x y z=>F x y z (bkR bf bo p kn kc half) (coR kp fr fs s q bt rg)) (bf:=bf) (bb:=bb) hL) ?_;rintro e w1⟨rfl,hL1⟩;refine⟨_,rfl,?_⟩;clear hL;revert hL1;refine aN ?_;intro hL;refine kO hK (hL) ?_;clear hK K hHeld;intro hHeld;refine rd1 9 ?_;intro K hK;refine eK (et (F:=fun x y z=>F x y z (bkR bf bo p kn kc half) (coR kp fr fs s q bt rg)) (bf:=bf) (bb:=bb) hL) ?_;rintro e w1⟨rfl,hL1⟩;refine⟨_,rfl,?_⟩;clear hL;revert hL1;refine aN ?_;intro hL;refine kO hK (hL) ?_;clear hK K hHeld;intro hHeld;refine uG 10 ?_;refine uG 11 ?_;refine wD ?_;clear hHeld;go_wp2_with fail
 all_goals(go_ret;exact⟨rfl,hL⟩)
theorem DM(hF:CoM F bf bb bo bk kp a0 a1 cc)(d:Dv)(ok:d.Ok)(hlt:d.n<d.m)(s':Sta)(q':Sq)(hg:Good s')(hS:∀x y z u c,SeeS w0 (F x y z u c) s' q')(hL:Loc w0 w (d.at F bf bb bo kp fr fs)) :
 Calls prog 339 #[bM kp,.agg (stR s' q')] w fun e w'=>e= .returned (.int .i64 0)∧∃d',d.Next d'∧d'.s=d.s∧d'.q=d.q∧Loc w0 w' (d'.at F bf bb bo kp fr fs):=by
 have hA:=hF.a;have hU:=hF.u;have hB:=hF.b;have hV:=hF.v;have hO:=hF.o;have hPP:=hF.p;have hQ:=hF.q;have hRR:=hF.r;have hKK:=hF.k;obtain⟨he,hp,hy,h1,h2,h3,hh,hgd⟩:=ok;obtain⟨er,pr,y,f,n,m,p,kn,kc,half,s,q,bt,rg⟩:=d;dsimp only[Dv.at]at *
 have HPK:=Hd (fun w1 (h:Loc w0 w1 (F (flR bb er pr) y (otR bf fr fs n m) (bkR bf bo p kn kc half) (coR kp fr fs s q bt rg)))=>DI s' q' w1 ((hS _ _ _ _ _).read h) hg);have hlen:=pD s';have hlen0:s'.m0.length≤300:=by rcases hg.s0 with⟨h,_⟩|⟨h,_⟩ <;> omega
 have hlen1:s'.m1.length≤300:=by rcases hg.s1 with⟨h,_⟩|⟨h,_⟩ <;> omega
 have hlen2:=hg.n;have hb0:0<(stB s').length:=by omega
 have hb1:(stB s').length≤4096:=by omega
 clear hlen hlen0 hlen1 hlen2;generalize stB s'=l at *
 obtain⟨k,hk2,hkh⟩:∃k:Nat,k<2∧1-half=k:=by rcases hh with rfl|rfl;exact⟨1,by omega,rfl⟩;exact⟨0,by omega,rfl⟩
 have HKH:=Hd hkh;have HK:half=1-k:=by omega
 have hks:(k:Int)=0∨(k:Int)=1:=by omega
 have HKS:=Hd hks;clear hkh HK hks hh;go_enter func339,ntmps339;go_wp2_with (first|refine aU ?_|(refine gBp 3 ?_;clear hL;intro b3 w1 hL)|(refine gN 9 ?_;refine lKk (HPK.out _ hL.pop) ?_;rintro e w1⟨g9,cap9,cur9,rfl,hr9,hN⟩;have hL1:=hL.join hN;clear hN hL;revert hL1;refine aH ?_;intro hL)|(refine gN 20 ?_;refine lKk (DF (F:=fun x y z u=>(g9,cur9,5)::(b3,stR s' q',58)::F x y z u (coR kp fr fs s q bt rg)) (bf:=bf) (bb:=bb) (bo:=bo) (bk:=bk) (l:=l) hk2 HKH.out hb0 hb1 (fun x y z u=>inferInstance) h1 hlt h3 he hp hy hL) ?_;rintro e w1⟨rfl,g,cap,cur,er2,pr2,f2,y2,hr,he2,hp2,hf2,hy2,hL1⟩;clear hL;revert hL1;refine aE ?_;intro hL)|(refine ah ?_;clear hL;intro w1 hL))
 all_goals(go_ret;exact⟨rfl,⟨er2,pr2,y2,f2,n+1,m,some ⟨g,0,none⟩,l.length,cap,k,s,q,bt,rg⟩,⟨⟨he2,hp2,hy2,by dsimp only;omega,by dsimp only;omega,h3,HKS.out,hgd⟩,rfl,rfl,hf2,rfl,rfl⟩,rfl,rfl,Loc.rem b3 (Loc.rem g9 (Loc.rem g hL))⟩)
end
end
section
open Go Go.RowKit Go.Shelf
class Inv(name:String)(t:TypeId)(l:List Value)(f:outParam FuncId):Prop where
 run:∀v w,(invoke (.fn (.method name) #[]) (.iface t v::l).toArray).run prog w= .ok (.enter f (v::l).toArray) w
instance Po:Inv "Left" 115 [] 340:=⟨fun v w=>by kernel_rfl⟩
instance Pp(a:Value):Inv "Keep" 115 [a] 339:=⟨fun v w=>by kernel_rfl⟩
section
variable {ops:Array Oper} {rest:List Oper} {o:Oper} {a:Act} {w0 w:World} {M M':Mem} {Q:Exit→Act→World→Prop} {K:Act→World→Prop}
theorem Ke{x:Operand}{name:String}{xs:Array Operand}{ts:Array TypeId}(ho:o.op= .call { callee:= .invoke x name,args:=xs,argTypes:=ts }){t:TypeId}{v:Value}(hx:a.eval x= .iface t v){l:List Value}{f:FuncId}[hi:Inv name t l f](hc:Calls prog f (v::l).toArray w fun e w'=>∃v,e= .returned v∧K (a.put o.dst v) w')(hxs:xs.toList.map a.eval=l):o.wp prog a w K Q:=by
 have e: #[a.eval x]++xs.map a.eval=(.iface t v::l).toArray:=by rw[← Array.toList_inj,Array.toList_append,Array.toList_map,hxs,hx];rfl
 unfold Oper.wp execOp;simp only[ho,resolve,Sem.run_bind,Sem.run_pure,Result.andThen_ok,e,hi.run,Oper.upon_enter];refine hc.mono fun e w' hh=>?_;obtain⟨v,rfl,h⟩:=hh;exact h
theorem Mz(hg:o.guard=none){x:Operand}{name:String}{xs:Array Operand}{ts:Array TypeId}(ho:o.op= .call { callee:= .invoke x name,args:=xs,argTypes:=ts }){t:TypeId}{v:Value}(hx:a.eval x= .iface t v){l:List Value}{f:FuncId}[hi:Inv name t l f](hc:Calls prog f (v::l).toArray w fun e w'=>∃v,e= .returned v∧wpList prog ops Q rest (a.put o.dst v) w')(hxs:xs.toList.map a.eval=l):wpList prog ops Q (o::rest) a w :=
 wpList_plain hg fun _ hK=>Ke ho hx (hc.mono fun e w' ⟨v,h1,h2⟩=>⟨v,h1,hK _ _ h2⟩) hxs
end
class HeldC(S:World→Prop)(b k:Nat)(v:outParam Value):Prop where
 cell:∀w,S w→w.cell? ⟨b,k,none⟩=some v
instance Pq(w0:World)(M:Dv→Mem)(b k:Nat)(r:Dv→Array Value)(u:TypeId)(v:Value)[h:∀d,At (M d) b (r d) u][hc:∀d,Cell (r d) k v]:HeldC (fun w=>∃d,Loc w0 w (M d)) b k v:=⟨fun w ⟨d,hS⟩=>by rw[cell_of_row w b k _ _ _ (hS.get (h d).mem)];exact(hc d).cell⟩
instance Ps(w0:World)(M:Dv→Mem)(b:Nat)(r:Array Value)(u:TypeId)[h:∀x,At (M x) b r u]:Held (fun w=>∃x,Loc w0 w (M x)) b r u:=⟨fun w ⟨x,hS⟩=>hS.get (h x).mem⟩
theorem zC{ops:Array Oper}{o:Oper}{a:Act}{S:World→Prop}(hw:Region.wanted o (yielded ops a.tmps)=true){t:TypeId}{x:Operand}(ho:o.op= .load t x){b k:Nat}(hx:a.eval x= .pointer (some ⟨b,k,none⟩)){v:Value}[ht:ScTy t][hm:HeldC S b k v] :
 YieldsIf prog ops S o v a:= .inl ⟨hw,fun w hS=>by
 unfold execOp;have:=cO (t:=t) (w:=w) (b:=b) (k:=k) (v:=v) (hm.cell w hS);simp only[ho,hx,Instr.loadAt,Instr.sureAddr,Sem.run_bind,Sem.run_pure,Result.andThen_ok,this]⟩
section
variable {w0 w:World} {F:Array Value→Array Value→Array Value→Array Value→Array Value→Mem} {bf bb bo bk kp a0 a1 cc:Nat} {fr fs:Nat→BitVec 8}
theorem vg(hF:CoM F bf bb bo bk kp a0 a1 cc)(d:Dv)(ok:d.Ok)(hS:∀x y z u c,SeeS w0 (F x y z u c) d.s d.q)(hL:Loc w0 w (d.at F bf bb bo kp fr fs)) :
 Calls prog 63 #[bM cc] w fun e w'=>∃q' Sr S0 S1,e= .returned (.agg (stR d.s q'))∧HoldQ Sr S0 S1 d.s q'∧Loc w0 w' (S1++(S0++(Sr++d.at F bf bb bo kp fr fs))):=by
 have hG:=hF.g;have hg:=ok.good;have hlen0:d.s.m0.length≤300:=by rcases hg.s0 with⟨h,_⟩|⟨h,_⟩ <;> omega
 have hlen1:d.s.m1.length≤300:=by rcases hg.s1 with⟨h,_⟩|⟨h,_⟩ <;> omega
 have hlen2:=hg.n;have HC:=Hd (fun w1 (h:Loc w0 w1 (d.at F bf bb bo kp fr fs))=>ve d.s d.q w1 ((hS _ _ _ _ _).read h) (by omega) (by omega) (by omega));clear hg ok hlen0 hlen1 hlen2;obtain⟨er,pr,y,f,n,m,p,kn,kc,half,s,q,bt,rg⟩:=d;obtain⟨fl,rv,m0,d0,t0,m1,d1,t1,ac⟩:=s;dsimp only[Dv.at]at *
 go_enter func63,ntmps63;go_wp2_with (first|refine aU ?_|(refine gBp 2 ?_;clear hL;intro b2 w1 hL)|(refine gN 7 ?_;refine lKk (HC.out _ hL.pop) ?_;rintro e w1⟨⟨pr',cr',p0',c0',p1',c1'⟩,Sr,S0,S1,rfl,hQ,hN⟩;have hL1:=hL.join hN;clear hN hL;revert hL1;refine aH ?_;intro hL)|(refine ah ?_;clear hL;intro w1 hL));exact bodyPost_ret (ai rfl hL rfl) rfl ⟨⟨pr',cr',p0',c0',p1',c1'⟩,Sr,S0,S1,rfl,hQ,Loc.rem b2 hL⟩
theorem vh(hF:CoM F bf bb bo bk kp a0 a1 cc)(d:Dv)(ok:d.Ok)(id:Int)(hS:∀x y z u c,SeeS w0 (F x y z u c) d.s d.q)(hL:Loc w0 w (d.at F bf bb bo kp fr fs)) :
 Calls prog 158 #[bM cc,.int .i64 id] w fun e w'=>e= .returned (.bool (decide (id∈d.s.rv)))∧Loc w0 w' (d.at F bf bb bo kp fr fs):=by
 have hG:=hF.g;have hlen2:=ok.good.n;have HC:=Hd (fun w1 (h:Loc w0 w1 (d.at F bf bb bo kp fr fs))=>th d.q.pr d.q.cr d.s.rv id w1 ((hS _ _ _ _ _).read h).r (by omega));clear ok hlen2 hS;obtain⟨er,pr,y,f,n,m,p,kn,kc,half,s,q,bt,rg⟩:=d;obtain⟨fl,rv,m0,d0,t0,m1,d1,t1,ac⟩:=s;obtain⟨pr',cr',p0',c0',p1',c1'⟩:=q;dsimp only[Dv.at]at *
 go_enter func158,ntmps158;go_wp2_with (first|refine aU ?_|(refine gN 11 ?_;refine lV (HC.out _ hL) hL ?_;clear hL;intro w1 hL)|(refine ah ?_;clear hL;intro w1 hL))
 all_goals(go_ret;exact⟨rfl,hL⟩)
theorem xO(hF:CoM F bf bb bo bk kp a0 a1 cc)(d:Dv)(ok:d.Ok)(hlt:d.n<d.m)(s':Sta)(q':Sq)(hg:Good s')(hS:∀x y z u c,SeeS w0 (F x y z u c) s' q')(hL:Loc w0 w (d.at F bf bb bo kp fr fs)) :
 Calls prog 161 #[bM cc,.agg (stR s' q')] w fun e w'=>e= .returned (.int .i64 0)∧∃d',d.Next d'∧d'.s=s'∧d'.q=q'∧Loc w0 w' (d'.at F bf bb bo kp fr fs):=by
 have hG:=hF.g;have hH:=hF.h;have hA:=hF.a;have hU:=hF.u;have hB:=hF.b;have hV:=hF.v;have hO:=hF.o;have hPP:=hF.p;have hQ:=hF.q;have hRR:=hF.r;have hKK:=hF.k;have hll:=hF.l;have hmm:=hF.m;have HL:=Hd (fun(b:Nat) w1 (h:Loc w0 w1 ((b,stR s' q',58)::d.at F bf bb bo kp fr fs))=>DL (F:=fun x y z u c=>(b,stR s' q',58)::F x y z u c) (bf:=bf) (bb:=bb) (bo:=bo) (bk:=bk) (kp:=kp) (a0:=a0) (a1:=a1) (cc:=cc) (fr:=fr) (fs:=fs) inferInstance d ok h);have HK:=Hd (fun(b:Nat) w1 (h:Loc w0 w1 ((b,stR s' q',58)::d.at F bf bb bo kp fr fs))=>DM (F:=fun x y z u c=>(b,stR s' q',58)::F x y z u c) (bf:=bf) (bb:=bb) (bo:=bo) (bk:=bk) (kp:=kp) (a0:=a0) (a1:=a1) (cc:=cc) (fr:=fr) (fs:=fs) inferInstance d ok hlt s' q' hg (fun x y z u c=>inferInstance) h);have q1:¬d.m-d.n<1:=by omega
 clear hS;obtain⟨er,pr,y,f,n,m,p,kn,kc,half,s,q,bt,rg⟩:=d;dsimp only[Dv.at]at HL HK hL q1;go_enter func161,ntmps161;go_wp2_with (first|refine aU ?_|(refine gBp 3 ?_;clear hL;intro b3 w1 hL)|(refine gN 10 ?_;go_loud (refine Mz rfl rfl rfl ((HL.out _ _ hL).mono ?_) rfl);rintro e w1⟨rfl,hL1⟩;clear hL;revert hL1;refine aE ?_;intro hL)|(refine ah ?_;clear hL;intro w1 hL));refine mX (S:=fun w'=>∃d:Dv,Loc w0 w' ((b3,stR s' q',58)::d.at F bf bb bo kp fr fs)) 7 (⟨⟨er,pr,y,f,n,m,p,kn,kc,half,s,q,bt,rg⟩,hL.drew⟩) ?_;intro hHeld;replace hL:=hL.drew;refine uG 0 ?_;refine uZ 4 ?_;refine uG 1 ?_;refine uG 2 ?_;refine uZ 3 ?_;refine rd1 5 ?_;intro K hK;refine Ke rfl rfl ((HK.out _ _ hL).mono ?_) (by first|rfl|(simp only[List.map_cons,List.map_nil];rfl));rintro e w1⟨rfl,d2,hNx,hs2,hq2,hL1⟩;refine⟨_,rfl,?_⟩;clear hL;revert hL1;refine aN ?_;intro hL;refine kO hK (⟨d2,hL⟩) ?_;clear hK K hHeld;intro hHeld;refine uG 6 ?_;refine wD ?_;clear hHeld;obtain⟨er2,pr2,y2,f2,n2,m2,p2,kn2,kc2,half2,s2,q2,bt2,rg2⟩:=d2;dsimp only at hs2 hq2 hL;subst hs2;subst hq2;obtain⟨ok2,hn2,hm2,hf2,hb2,hr2⟩:=hNx;obtain⟨o1,o2,o3,o4,o5,o6,o7,o8⟩:=ok2;clear HL HK;go_wp2_with (first|refine aU ?_|(refine ah ?_;clear hL;intro w1 hL))
 all_goals(go_ret;exact⟨rfl,⟨er2,pr2,y2,f2,n2,m2,p2,kn2,kc2,half2,s',q',bt2,rg2⟩,⟨⟨o1,o2,o3,o4,o5,o6,o7,hg⟩,hn2,hm2,hf2,hb2,hr2⟩,rfl,rfl,Loc.rem b3 hL⟩)
end
instance Pu:Ent 63:=eo func63
instance Pv:Ent 158:=eo func158
instance Pw:Ent 161:=eo func161
end
section
open Go Go.RowKit Go.Shelf
theorem xP(S1 S0 Sr M:Mem)(e:Nat×Array Value×TypeId):List.Perm (S1++(S0++(Sr++(e::M)))) (e::(S1++(S0++(Sr++M)))):=by
 have:=(List.perm_middle (a:=e) (l₁:=S1++S0++Sr) (l₂:=M));simpa[List.append_assoc] using this
end
section
open Go Go.RowKit Go.Shelf
section
variable {ops:Array Oper} {rest:List Oper} {o:Oper} {a:Act} {w0 w:World} {M M':Mem} {Q:Exit→Act→World→Prop} {K:Act→World→Prop}
theorem xQ(hL:Loc w0 w M){d s:Operand}{t e:TypeId}(ho:o.op= .call { callee:= .builtin .copy,args:= #[d,s],argTypes:= #[t,t] })[he:Elt t e]{p:Option Addr}{n c:Nat}(hd:a.eval d= .slice p n c)(hs:a.eval s= .slice none 0 0)(h:∀w',Loc w0 w' M→K (a.put o.dst (.int .i64 0)) w'):o.wp prog a w K Q:=by
 obtain⟨i,z,hi,hz,hs1,hbb,hzs⟩:=he.info;have hrun:=run_copy_none (P:=prog) w t t o.type e p none n c 0 0 he.und (by rw[hi];simp[hs1]) (Nat.zero_min _);unfold Oper.wp execOp;simp only[ho,resolve,invoke,builtin,Sem.run_bind,Sem.run_pure,Result.andThen_ok,List.map_toArray,List.map_cons,List.map_nil,hd,hs,hrun];exact h w hL
end
def mfR(ver blk:Int)(root:Nat→BitVec 8)(p:Option Addr)(n c:Nat)(id:Int)(key cs sg:Nat→BitVec 8):Array Value:= #[.int .i64 ver,.int .i64 blk]++aa 32 root ++ #[.slice p n c,.int .i64 id]++aa 32 key++aa 64 cs++aa 64 sg
abbrev mfZ:Array Value:=mfR 0 0 (fun _=>0) none 0 0 0 (fun _=>0) (fun _=>0) (fun _=>0)
section
variable (ver blk:Int) (root:Nat→BitVec 8) (p:Option Addr) (n c:Nat) (id:Int) (key cs sg:Nat→BitVec 8)
theorem jE:(mfR ver blk root p n c id key cs sg).size=196:=by simp[mfR,aj]
instance Px:Row1 (mfR ver blk root p n c id key cs sg) 196:=⟨jE _ _ _ _ _ _ _ _ _ _,by
 unfold mfR;simp only[Array.all_append,bU];simp[Value.oneCell']⟩
theorem zt{k:Nat}(h:k<2):(mfR ver blk root p n c id key cs sg)[k]?=(#[Value.int .i64 ver,.int .i64 blk]:Array Value)[k]?:=by
 unfold mfR;rw[Array.getElem?_append_left (by simp[aj];omega),Array.getElem?_append_left (by simp[aj];omega),Array.getElem?_append_left (by simp[aj];omega),Array.getElem?_append_left (by simp[aj];omega),Array.getElem?_append_left (by simp;omega)]
theorem zu{k:Nat}(h:k<2):(mfR ver blk root p n c id key cs sg)[34+k]?=(#[Value.slice p n c,.int .i64 id]:Array Value)[k]?:=by
 unfold mfR;rw[Array.getElem?_append_left (by simp[aj];omega),Array.getElem?_append_left (by simp[aj];omega),Array.getElem?_append_left (by simp[aj];omega),Array.getElem?_append_right (by simp[aj])];simp[aj]
instance Py:Cell (mfR ver blk root p n c id key cs sg) 0 (.int .i64 ver):=⟨(zt _ _ _ _ _ _ _ _ _ _ (k:=0) (by decide)).trans rfl⟩
instance Pz:Cell (mfR ver blk root p n c id key cs sg) 1 (.int .i64 blk):=⟨(zt _ _ _ _ _ _ _ _ _ _ (k:=1) (by decide)).trans rfl⟩
instance PA:Cell (mfR ver blk root p n c id key cs sg) 34 (.slice p n c):=⟨(zu _ _ _ _ _ _ _ _ _ _ (k:=0) (by decide)).trans rfl⟩
instance PC:Cell (mfR ver blk root p n c id key cs sg) 35 (.int .i64 id):=⟨(zu _ _ _ _ _ _ _ _ _ _ (k:=1) (by decide)).trans rfl⟩
instance PD(x:Int):Put (mfR ver blk root p n c id key cs sg) 1 (.int .i64 x) (mfR ver x root p n c id key cs sg):=⟨by
 unfold mfR;rw[Array.setIfInBounds_append_left (by simp[aj]),Array.setIfInBounds_append_left (by simp[aj]),Array.setIfInBounds_append_left (by simp[aj]),Array.setIfInBounds_append_left (by simp[aj]),Array.setIfInBounds_append_left (by simp)];rfl,by rw[jE];decide⟩
instance PE(q:Option Addr)(m d:Nat):Put (mfR ver blk root p n c id key cs sg) 34 (.slice q m d) (mfR ver blk root q m d id key cs sg):=⟨by
 unfold mfR;rw[Array.setIfInBounds_append_left (by simp[aj]),Array.setIfInBounds_append_left (by simp[aj]),Array.setIfInBounds_append_left (by simp[aj]),Array.setIfInBounds_append_right (by simp[aj])];simp[aj],by rw[jE];decide⟩
instance PF(x:Int):Put (mfR ver blk root p n c id key cs sg) 35 (.int .i64 x) (mfR ver blk root p n c x key cs sg):=⟨by
 unfold mfR;rw[Array.setIfInBounds_append_left (by simp[aj]),Array.setIfInBounds_append_left (by simp[aj]),Array.setIfInBounds_append_left (by simp[aj]),Array.setIfInBounds_append_right (by simp[aj])];simp[aj],by rw[jE];decide⟩
instance PG(x:Nat→BitVec 8):Splice (mfR ver blk root p n c id key cs sg) 2 (aa 32 x) (mfR ver blk x p n c id key cs sg):=by
 have:=cG #[.int .i64 ver,.int .i64 blk] (aa 32 root) (aa 32 x) (#[.slice p n c,.int .i64 id]++aa 32 key++aa 64 cs++aa 64 sg) 2 rfl (by simp[aj]);simpa only[mfR,Array.append_assoc] using this
instance MA(x:Nat→BitVec 8):Splice (mfR ver blk root p n c id key cs sg) 36 (aa 32 x) (mfR ver blk root p n c id x cs sg):=by
 have:=cG (#[.int .i64 ver,.int .i64 blk]++aa 32 root ++ #[.slice p n c,.int .i64 id]) (aa 32 key) (aa 32 x) (aa 64 cs++aa 64 sg) 36 (by simp[aj]) (by simp[aj]);simpa only[mfR,Array.append_assoc] using this
instance MC(x:Nat→BitVec 8):Splice (mfR ver blk root p n c id key cs sg) 68 (aa 64 x) (mfR ver blk root p n c id key x sg):=by
 have:=cG (#[.int .i64 ver,.int .i64 blk]++aa 32 root ++ #[.slice p n c,.int .i64 id]++aa 32 key) (aa 64 cs) (aa 64 x) (aa 64 sg) 68 (by simp[aj]) (by simp[aj]);simpa only[mfR,Array.append_assoc] using this
instance MD(x:Nat→BitVec 8):Splice (mfR ver blk root p n c id key cs sg) 132 (aa 64 x) (mfR ver blk root p n c id key cs x):=by
 have:=cG (#[.int .i64 ver,.int .i64 blk]++aa 32 root ++ #[.slice p n c,.int .i64 id]++aa 32 key++aa 64 cs) (aa 64 sg) (aa 64 x) #[] 132 (by simp[aj]) (by simp[aj]);simpa only[mfR,Array.append_assoc,Array.append_empty] using this
end
instance ME:RowTy 79 196:=⟨⟨_,underlying79,rfl⟩,by kernel_rfl⟩
instance MF:RowZ 79 mfZ:=⟨by kernel_rfl⟩
theorem re(w:World):(Instr.build 79 #[]).run prog w= .ok (.agg mfZ) w:=by kernel_rfl
theorem mO(x:Int)(w:World):(Instr.build 79 #[(0,.int .i64 x)]).run prog w= .ok (.agg (mfR x 0 (fun _=>0) none 0 0 0 (fun _=>0) (fun _=>0) (fun _=>0))) w:=by kernel_rfl
section
variable {w0 w:World} {F:Array Value→Mem} {bc:Nat} {p:Option Addr} {m cap:Nat}
theorem lE(hA:∀x,At (F x) bc x 274)(hU:∀x y,Ups (F x) bc y (F y))(hL:Loc w0 w (F #[.slice p m cap,.bool true])) :
 Calls prog 205 #[.pointer (some ⟨bc,0,none⟩)] w fun e w'=>e= .returned (.agg (aa 32 fun _=>0))∧Loc w0 w' (F #[.slice p m cap,.bool true]):=by
 go_enter func205,ntmps205;go_wp2_with (first|refine aU ?_|(refine gBp 2 ?_;clear hL;intro b2 w1 hL)|(refine gBp 3 ?_;clear hL;intro b3 w1 hL)|(refine ah ?_;clear hL;intro w1 hL));refine mX (S:=fun w'=>Loc _ w' _) 4 (hL.drew) ?_;intro hHeld;replace hL:=hL.drew;refine uG 0 ?_;refine uG 1 ?_;refine rd1 2 ?_;intro K hK;refine eK (dT (F:=fun x=>(b3,aa 32 (fun _=>0),24)::(b2,aa 32 (fun _=>0),24)::F x) (bc:=bc) (n:=32) hL) ?_;rintro e w1⟨rfl,hL1⟩;refine⟨_,rfl,?_⟩;clear hL;revert hL1;refine aN ?_;intro hL;refine kO hK (hL) ?_;clear hK K hHeld;intro hHeld;refine rd1 3 ?_;intro K hK;refine xQ hL rfl rfl rfl ?_;clear hL;intro w1 hL;refine kO hK (hL) ?_;clear hK K hHeld;intro hHeld;refine wD ?_;clear hHeld;go_wp2_with (first|refine aU ?_|(refine ah ?_;clear hL;intro w1 hL));exact bodyPost_ret (ai rfl hL rfl) rfl ⟨rfl,Loc.rem b2 (Loc.rem b3 hL)⟩
instance MG:Ent 205:=eo func205
theorem eu(hA:∀x,At (F x) bc x 274)(hU:∀x y,Ups (F x) bc y (F y))(hL:Loc w0 w (F #[.slice p m cap,.bool true])) :
 Calls prog 206 #[.pointer (some ⟨bc,0,none⟩)] w fun e w'=>e= .returned (.agg (aa 64 fun _=>0))∧Loc w0 w' (F #[.slice p m cap,.bool true]):=by
 go_enter func206,ntmps206;go_wp2_with (first|refine aU ?_|(refine gBp 2 ?_;clear hL;intro b2 w1 hL)|(refine gBp 3 ?_;clear hL;intro b3 w1 hL)|(refine ah ?_;clear hL;intro w1 hL));refine mX (S:=fun w'=>Loc _ w' _) 4 (hL.drew) ?_;intro hHeld;replace hL:=hL.drew;refine uG 0 ?_;refine uG 1 ?_;refine rd1 2 ?_;intro K hK;refine eK (dT (F:=fun x=>(b3,aa 64 (fun _=>0),75)::(b2,aa 64 (fun _=>0),75)::F x) (bc:=bc) (n:=64) hL) ?_;rintro e w1⟨rfl,hL1⟩;refine⟨_,rfl,?_⟩;clear hL;revert hL1;refine aN ?_;intro hL;refine kO hK (hL) ?_;clear hK K hHeld;intro hHeld;refine rd1 3 ?_;intro K hK;refine xQ hL rfl rfl rfl ?_;clear hL;intro w1 hL;refine kO hK (hL) ?_;clear hK K hHeld;intro hHeld;refine wD ?_;clear hHeld;go_wp2_with (first|refine aU ?_|(refine ah ?_;clear hL;intro w1 hL));exact bodyPost_ret (ai rfl hL rfl) rfl ⟨rfl,Loc.rem b2 (Loc.rem b3 hL)⟩
instance MH:Ent 206:=eo func206
end
theorem Ig:zeroCells79=mfZ:=by kernel_rfl
theorem pE(w:World):Rt 156 #[.slice none 0 0] w (.tuple #[.agg mfZ,.int .i64 4]):=by
 have hL:=Loc.nil w;have hzc:=Ig;go_enter func156,ntmps156;go_wp2_with (first|refine aU ?_|(refine gBp 2 ?_;clear hL;intro b2 w1 hL)|(refine gBp 6 ?_;clear hL;intro b6 w1 hL)|(refine gN 8 ?_;refine lKk (uU _) ?_;rintro e w1⟨b8,rfl,hN⟩;have hL1:=hL.join hN;clear hN hL;revert hL1;refine aH ?_;intro hL)|(refine gN 10 ?_;refine lO (zo (F:=fun x=>[(b8,x,274),(b2,mfZ,79)]) (bc:=b8) (n:=4) (by omega) hL) ?_;clear hL;intro w1 hL)|(refine gN 11 ?_;refine Dt (l:=[]) hL rfl rfl rfl ?_;clear hL;intro w1 hL)|(refine gN 13 ?_;refine lO (ib (F:=fun x=>[(b8,x,274),(b2,mfZ,79)]) (bc:=b8) _ _ (fun w1 h=>dT (F:=fun x=>[(b8,x,274),(b2,mfZ,79)]) (bc:=b8) (n:=8) h) hL) ?_;clear hL;intro w1 hL)|(refine gN 14 ?_;refine lU hL rfl rfl (mO _) rfl ?_;clear hL;intro w1 hL;refine p4 ?_)|(refine gN 16 ?_;refine lO (ib (F:=fun x=>(b6,mfZ,79)::[(b8,x,274),(b2,mfZ,79)]) (bc:=b8) _ _ (fun w1 h=>dT (F:=fun x=>(b6,mfZ,79)::[(b8,x,274),(b2,mfZ,79)]) (bc:=b8) (n:=8) h) hL) ?_;clear hL;intro w1 hL)|(refine gN 19 ?_;refine lO (lE (F:=fun x=>(b6,mfZ,79)::[(b8,x,274),(b2,mfZ,79)]) (bc:=b8) (fun x=>inferInstance) (fun x y=>inferInstance) hL) ?_;clear hL;intro w1 hL)|(refine gN 22 ?_;refine lO (dT (F:=fun x=>(b6,mfZ,79)::[(b8,x,274),(b2,mfZ,79)]) (bc:=b8) (n:=80) hL) ?_;clear hL;intro w1 hL)|(refine gN 25 ?_;refine lO (ib (F:=fun x=>(b6,mfZ,79)::[(b8,x,274),(b2,mfZ,79)]) (bc:=b8) _ _ (fun w1 h=>dT (F:=fun x=>(b6,mfZ,79)::[(b8,x,274),(b2,mfZ,79)]) (bc:=b8) (n:=8) h) hL) ?_;clear hL;intro w1 hL)|(refine gN 29 ?_;refine lO (lE (F:=fun x=>(b6,mfZ,79)::[(b8,x,274),(b2,mfZ,79)]) (bc:=b8) (fun x=>inferInstance) (fun x y=>inferInstance) hL) ?_;clear hL;intro w1 hL)|(refine gN 33 ?_;refine lO (eu (F:=fun x=>(b6,mfZ,79)::[(b8,x,274),(b2,mfZ,79)]) (bc:=b8) (fun x=>inferInstance) (fun x y=>inferInstance) hL) ?_;clear hL;intro w1 hL)|(refine gN 37 ?_;refine lO (eu (F:=fun x=>(b6,mfZ,79)::[(b8,x,274),(b2,mfZ,79)]) (bc:=b8) (fun x=>inferInstance) (fun x y=>inferInstance) hL) ?_;clear hL;intro w1 hL)|(refine gN 40 ?_;refine lO (td (F:=fun x=>(b6,mfZ,79)::[(b8,x,274),(b2,mfZ,79)]) (bc:=b8) hL) ?_;clear hL;intro w1 hL)|(refine gN 51 ?_;refine lU hL rfl rfl (re _) rfl ?_;clear hL;intro w1 hL;refine p4 ?_)|(refine ah ?_;clear hL;intro w1 hL));exact bodyPost_ret (ay rfl hL rfl rfl) rfl ⟨rfl,hL.bel⟩
theorem ti(v:Value)(l:List (BitVec 8))(w:World)(hv:BRow w v l)(h0:0<l.length)(h4:l.length<4):Rt 156 #[v] w (.tuple #[.agg mfZ,.int .i64 4]):=by
 have hL:=Loc.nil w;haveI hA:Arg w v (an l):=⟨hv.vrow⟩;have HN:=Hd (fun w1 (h:BRow w1 v l)=>jB v l w1 h h0 (by omega));clear hv;have hzc:=Ig;go_enter func156,ntmps156;go_wp2_with (first|refine aU ?_|(refine gBp 2 ?_;clear hL;intro b2 w1 hL)|(refine gBp 6 ?_;clear hL;intro b6 w1 hL)|(refine gN 8 ?_;refine lKk (HN.out _ (See.bytes hL)) ?_;rintro e w1⟨b8,g8,cap8,cur8,rfl,hr8,hN⟩;have hL1:=hL.join hN;clear hN hL;revert hL1;refine aH ?_;intro hL)|(refine gN 10 ?_;refine lO (zo (F:=fun x=>[(b8,x,274),(g8,cur8,5),(b2,mfZ,79)]) (bc:=b8) (n:=4) (by omega) hL) ?_;clear hL;intro w1 hL)|(refine gN 11 ?_;refine Dt (l:=[]) hL rfl rfl rfl ?_;clear hL;intro w1 hL)|(refine gN 13 ?_;refine lO (ib (F:=fun x=>[(b8,x,274),(g8,cur8,5),(b2,mfZ,79)]) (bc:=b8) _ _ (fun w1 h=>dT (F:=fun x=>[(b8,x,274),(g8,cur8,5),(b2,mfZ,79)]) (bc:=b8) (n:=8) h) hL) ?_;clear hL;intro w1 hL)|(refine gN 14 ?_;refine lU hL rfl rfl (mO _) rfl ?_;clear hL;intro w1 hL;refine p4 ?_)|(refine gN 16 ?_;refine lO (ib (F:=fun x=>(b6,mfZ,79)::[(b8,x,274),(g8,cur8,5),(b2,mfZ,79)]) (bc:=b8) _ _ (fun w1 h=>dT (F:=fun x=>(b6,mfZ,79)::[(b8,x,274),(g8,cur8,5),(b2,mfZ,79)]) (bc:=b8) (n:=8) h) hL) ?_;clear hL;intro w1 hL)|(refine gN 19 ?_;refine lO (lE (F:=fun x=>(b6,mfZ,79)::[(b8,x,274),(g8,cur8,5),(b2,mfZ,79)]) (bc:=b8) (fun x=>inferInstance) (fun x y=>inferInstance) hL) ?_;clear hL;intro w1 hL)|(refine gN 22 ?_;refine lO (dT (F:=fun x=>(b6,mfZ,79)::[(b8,x,274),(g8,cur8,5),(b2,mfZ,79)]) (bc:=b8) (n:=80) hL) ?_;clear hL;intro w1 hL)|(refine gN 25 ?_;refine lO (ib (F:=fun x=>(b6,mfZ,79)::[(b8,x,274),(g8,cur8,5),(b2,mfZ,79)]) (bc:=b8) _ _ (fun w1 h=>dT (F:=fun x=>(b6,mfZ,79)::[(b8,x,274),(g8,cur8,5),(b2,mfZ,79)]) (bc:=b8) (n:=8) h) hL) ?_;clear hL;intro w1 hL)|(refine gN 29 ?_;refine lO (lE (F:=fun x=>(b6,mfZ,79)::[(b8,x,274),(g8,cur8,5),(b2,mfZ,79)]) (bc:=b8) (fun x=>inferInstance) (fun x y=>inferInstance) hL) ?_;clear hL;intro w1 hL)|(refine gN 33 ?_;refine lO (eu (F:=fun x=>(b6,mfZ,79)::[(b8,x,274),(g8,cur8,5),(b2,mfZ,79)]) (bc:=b8) (fun x=>inferInstance) (fun x y=>inferInstance) hL) ?_;clear hL;intro w1 hL)|(refine gN 37 ?_;refine lO (eu (F:=fun x=>(b6,mfZ,79)::[(b8,x,274),(g8,cur8,5),(b2,mfZ,79)]) (bc:=b8) (fun x=>inferInstance) (fun x y=>inferInstance) hL) ?_;clear hL;intro w1 hL)|(refine gN 40 ?_;refine lO (td (F:=fun x=>(b6,mfZ,79)::[(b8,x,274),(g8,cur8,5),(b2,mfZ,79)]) (bc:=b8) hL) ?_;clear hL;intro w1 hL)|(refine gN 51 ?_;refine lU hL rfl rfl (re _) rfl ?_;clear hL;intro w1 hL;refine p4 ?_)|(refine ah ?_;clear hL;intro w1 hL));exact bodyPost_ret (ay rfl hL rfl rfl) rfl ⟨rfl,hL.bel⟩
instance MI:Ent 156:=eo func156
end
section
open Go Go.RowKit Go.Shelf
theorem jF(s:Sta)(q:Sq)(h:¬s.ac=0)(w:World):Rt 216 #[.agg (stR s q)] w (.int .i64 0):=by
 have hL:=Loc.nil w;have h2:(s.ac==0)=false:=by simpa using h
 go_enter func216,ntmps216;go_wp2_with (first|refine aU ?_|(refine gBp 1 ?_;clear hL;intro b1 w1 hL)|(refine ah ?_;clear hL;intro w1 hL))
 all_goals(go_ret;exact⟨rfl,hL.bel⟩)
instance PH:Ent 216:=eo func216
instance PI:RowTy 200 2:=⟨⟨_,underlying200,rfl⟩,by kernel_rfl⟩
instance PJ:RowZ 200 #[.bool false,.bool false]:=⟨by kernel_rfl⟩
theorem AW(s:Sta)(q:Sq)(w:World)(hr:ReadS w s q)(hg:Good s)(hac:s.ac= -1)(hd:s.d0=false):Rt 169 #[.agg (stR s q),.agg #[.bool false,.bool false]] w (.tuple #[.int .i64 (-1),.bool false]):=by
 have hL:=Loc.nil w;have HM:=Hd (fun w1 (h:Below w.heap.size w w1)=>nM s q w1 ⟨hr.r.below h,by have:=hr.a.vrow.below h;exact this.brow,by have:=hr.b.vrow.below h;exact this.brow,hr.zr,hr.za,hr.zb⟩ hg);have HT:=Hd (fun w1=>jF s q (by rw[hac];decide) w1);clear hr hg;obtain⟨fl,rv,m0,d0,t0,m1,d1,t1,ac⟩:=s;dsimp only at hac hd;subst hac;subst hd;go_enter func169,ntmps169;go_wp2_with (first|refine aU ?_|(refine gBp 2 ?_;clear hL;intro b2 w1 hL)|(refine gBp 3 ?_;clear hL;intro b3 w1 hL)|(refine gN 8 ?_;refine lV (HM.out _ hL.bel) hL ?_;clear hL;intro w1 hL)|(refine gN 11 ?_;refine lV (HT.out _) hL ?_;clear hL;intro w1 hL)|(refine ah ?_;clear hL;intro w1 hL))
 all_goals(go_ret2;exact⟨rfl,hL.bel⟩)
instance PL:Ent 169:=eo func169
theorem rf{w:World}{p:Option Addr}{n c:Nat}{l:List (BitVec 8)}(h:BRow w (.slice p n c) l)(hp:p=none):c=0:=by
 obtain⟨a,c',e,hn,_⟩:=h;injection e with e1 e2 e3;rw[e3];exact hn (by rw[← e1];exact hp)
section
variable {w0 w:World} {F:Array Value→Array Value→Array Value→Array Value→Array Value→Mem} {bf bb bo bk kp a0 a1 cc:Nat} {fr fs:Nat→BitVec 8}
theorem vj(hF:CoM F bf bb bo bk kp a0 a1 cc)(d:Dv)(hS:∀x y z u c,SeeS w0 (F x y z u c) d.s d.q)(hm:d.s.m0=[])(hL:Loc w0 w (d.at F bf bb bo kp fr fs)) :
 Calls prog 168 #[bM cc,.int .i64 0] w fun e w'=>e= .returned (.bool false)∧Loc w0 w' (d.at F bf bb bo kp fr fs):=by
 have hG:=hF.g;have hp:=(hS #[] #[] #[] #[] #[]).za hm;have hc:=rf ((hS _ _ _ _ _).read hL).a hp;clear hS;obtain⟨er,pr,y,f,n,m,p,kn,kc,half,s,q,bt,rg⟩:=d;obtain⟨fl,rv,m0,d0,t0,m1,d1,t1,ac⟩:=s;obtain⟨pr',cr',p0,c0,p1,c1⟩:=q;dsimp only[Dv.at]at *
 subst hm;subst hp;subst hc;go_enter func168,ntmps168;go_wp2_with (first|refine aU ?_|(refine gBp 5 ?_;clear hL;intro b5 w1 hL)|(refine gN 16 ?_;refine lV (pE _) hL ?_;clear hL;intro w1 hL)|(refine ah ?_;clear hL;intro w1 hL));refine mX (S:=fun w'=>Loc _ w' _) 21 (hL.drew) ?_;intro hHeld;replace hL:=hL.drew;refine uG 0 ?_;refine uG 1 ?_;refine uG 2 ?_;refine uS 3 ?_;refine uS 4 ?_;refine uS 5 ?_;refine uL 6 ?_;refine uS 7 ?_;refine uS 8 ?_;refine uG 9 ?_;refine uG 10 ?_;refine uS 11 ?_;refine uS 13 ?_;refine uL 12 ?_;refine uS 14 ?_;refine uS 15 ?_;refine uS 16 ?_;refine uL 17 ?_;refine uS 18 ?_;refine uG 19 ?_;refine uG 20 ?_;refine wD ?_;clear hHeld;go_wp2_with fail
 all_goals(go_ret;exact⟨rfl,Loc.rem b5 hL⟩)
theorem vk(hF:CoM F bf bb bo bk kp a0 a1 cc)(d:Dv)(hS:∀x y z u c,SeeS w0 (F x y z u c) d.s d.q)(hm:d.s.m1=[])(hL:Loc w0 w (d.at F bf bb bo kp fr fs)) :
 Calls prog 168 #[bM cc,.int .i64 1] w fun e w'=>e= .returned (.bool false)∧Loc w0 w' (d.at F bf bb bo kp fr fs):=by
 have hG:=hF.g;have hp:=(hS #[] #[] #[] #[] #[]).zb hm;have hc:=rf ((hS _ _ _ _ _).read hL).b hp;clear hS;obtain⟨er,pr,y,f,n,m,p,kn,kc,half,s,q,bt,rg⟩:=d;obtain⟨fl,rv,m0,d0,t0,m1,d1,t1,ac⟩:=s;obtain⟨pr',cr',p0,c0,p1,c1⟩:=q;dsimp only[Dv.at]at *
 subst hm;subst hp;subst hc;go_enter func168,ntmps168;go_wp2_with (first|refine aU ?_|(refine gBp 5 ?_;clear hL;intro b5 w1 hL)|(refine gN 16 ?_;refine lV (pE _) hL ?_;clear hL;intro w1 hL)|(refine ah ?_;clear hL;intro w1 hL));refine mX (S:=fun w'=>Loc _ w' _) 21 (hL.drew) ?_;intro hHeld;replace hL:=hL.drew;refine uG 0 ?_;refine uG 1 ?_;refine uG 2 ?_;refine uS 3 ?_;refine uS 4 ?_;refine uS 5 ?_;refine uL 6 ?_;refine uS 7 ?_;refine uS 8 ?_;refine uG 9 ?_;refine uG 10 ?_;refine uS 11 ?_;refine uS 13 ?_;refine uL 12 ?_;refine uS 14 ?_;refine uS 15 ?_;refine uS 16 ?_;refine uL 17 ?_;refine uS 18 ?_;refine uG 19 ?_;refine uG 20 ?_;refine wD ?_;clear hHeld;go_wp2_with fail
 all_goals(go_ret;exact⟨rfl,Loc.rem b5 hL⟩)
instance PM:Ent 168:=eo func168
theorem AX(a b:Bool)(w:World):(Instr.build 200 #[(0,.bool a),(1,.bool b)]).run prog w= .ok (.agg #[.bool a,.bool b]) w:=by kernel_rfl
theorem AY(hF:CoM F bf bb bo bk kp a0 a1 cc)(d:Dv)(hS:∀x y z u c,SeeS w0 (F x y z u c) d.s d.q)(hg:Good d.s)(hm0:d.s.m0=[])(hm1:d.s.m1=[])(hac:d.s.ac= -1)(hd:d.s.d0=false)(hbt:d.bt= -1)(hL:Loc w0 w (d.at F bf bb bo kp fr fs)) :
 Calls prog 99 #[bM cc] w fun e w'=>e= .returned (.int .i64 18)∧Loc w0 w' (d.at F bf bb bo kp fr fs):=by
 have hG:=hF.g;have hH:=hF.h;have hA:=hF.a;have hU:=hF.u;have hB:=hF.b;have hV:=hF.v;have hO:=hF.o;have hPP:=hF.p;have hQ:=hF.q;have hRR:=hF.r;have hKK:=hF.k;have hll:=hF.l;have hmm:=hF.m;have H0:=Hd (fun w1 (h:Loc w0 w1 (d.at F bf bb bo kp fr fs))=>vj hF d hS hm0 h);have H1:=Hd (fun w1 (h:Loc w0 w1 (d.at F bf bb bo kp fr fs))=>vk hF d hS hm1 h);have HP:=Hd (fun w1 (h:Loc w0 w1 (d.at F bf bb bo kp fr fs))=>AW d.s d.q w1 ((hS _ _ _ _ _).read h) hg hac hd);clear hS hg hac hd hm0 hm1;obtain⟨er,pr,y,f,n,m,p,kn,kc,half,s,q,bt,rg⟩:=d;dsimp only[Dv.at]at *
 subst hbt;go_enter func99,ntmps99;go_wp2_with (first|refine aU ?_|(refine gBp 3 ?_;clear hL;intro b3 w1 hL)|(refine gN 8 ?_;refine lO (H0.out _ hL) ?_;clear hL;intro w1 hL)|(refine gN 10 ?_;refine lO (H1.out _ hL) ?_;clear hL;intro w1 hL)|(refine gN 11 ?_;refine lU hL rfl rfl (AX _ _ _) rfl ?_;clear hL;intro w1 hL;refine p4 ?_)|(refine ah ?_;clear hL;intro w1 hL));refine mX (S:=fun w'=>Loc _ w' _) 11 (hL.drew) ?_;intro hHeld;replace hL:=hL.drew;refine uG 0 ?_;refine uZ 4 ?_;refine uG 1 ?_;refine uG 2 ?_;refine uZ 3 ?_;refine rd1 5 ?_;intro K hK;refine eVv (HP.out _ hL.pop) hL ?_;clear hL;intro w1 hL;refine kO hK (hL) ?_;clear hK K hHeld;intro hHeld;refine uG 6 ?_;refine uG 7 ?_;refine uG 8 ?_;refine uG 9 ?_;refine uG 10 ?_;refine wD ?_;clear hHeld;go_wp2_with (first|refine aU ?_|(refine ah ?_;clear hL;intro w1 hL))
 all_goals(go_ret;exact⟨rfl,Loc.rem b3 hL⟩)
instance PN:Ent 99:=eo func99
theorem xR{M:Mem}(v:Value)(l:List (BitVec 8))(hv:∀w1,Loc w0 w1 M→BRow w1 v l)(h0:0<l.length)(h4:l.length<4)(hL:Loc w0 w M) :
 Calls prog 96 #[bM cc,v] w fun e w'=>e= .returned (.int .i64 4)∧Loc w0 w' M:=by
 have HR:=Hd (fun w1 (h:Loc w0 w1 M)=>ti v l w1 (hv w1 h) h0 h4);clear hv;go_enter func96,ntmps96;go_wp2_with (first|refine aU ?_|(refine gBp 5 ?_;clear hL;intro b5 w1 hL)|(refine gN 12 ?_;refine lV (HR.out _ hL) hL ?_;clear hL;intro w1 hL)|(refine ah ?_;clear hL;intro w1 hL))
 all_goals(go_ret;exact⟨rfl,Loc.rem b5 hL⟩)
instance PO:Ent 96:=eo func96
end
end
section
open Go Go.RowKit Go.Shelf
abbrev mvR(k:Int)(p:Option Addr)(n c:Nat)(N:Int):Array Value:= #[.int .i64 k,.slice p n c,.int .i64 N]
abbrev dvR(bf cc:Nat):Array Value:= #[bM bf,bM cc,.bool false]
instance PP:RowTy 47 3:=⟨⟨_,underlying47,rfl⟩,by kernel_rfl⟩
instance KW:Row1 #[] 0:=⟨rfl,by simp⟩
instance PQ:RowTy 184 0:=⟨⟨_,underlying184,rfl⟩,by kernel_rfl⟩
instance PR:RowZ 184 #[]:=⟨by kernel_rfl⟩
theorem Ih(p:Option Addr)(n c:Nat)(N:Int)(w:World):Rt 95 #[.agg (mvR 1 p n c N)] w (.iface 178 (.slice p n c)):=by
 have hL:=Loc.nil w;go_enter func95,ntmps95;go_wp2_with (first|refine aU ?_|(refine gBp 1 ?_;clear hL;intro b1 w1 hL)|(refine ah ?_;clear hL;intro w1 hL))
 all_goals(go_ret;exact⟨rfl,hL.bel⟩)
theorem Ii(p:Option Addr)(n c:Nat)(N:Int)(w:World):Rt 95 #[.agg (mvR 4 p n c N)] w (.iface 184 (.agg #[])):=by
 have hL:=Loc.nil w;go_enter func95,ntmps95;go_wp2_with (first|refine aU ?_|(refine gBp 1 ?_;clear hL;intro b1 w1 hL)|(refine ah ?_;clear hL;intro w1 hL))
 all_goals(go_ret;exact⟨rfl,hL.bel⟩)
instance MJ:Ent 95:=eo func95
theorem FK(v:Value)(w:World):(Instr.typeAssert (.iface 178 v) 20 178 true).run prog w= .ok (.tuple #[v,.bool true]) w:=by kernel_rfl
theorem FL(v:Value)(w:World):(Instr.typeAssert (.iface 184 v) 20 184 true).run prog w= .ok (.tuple #[v,.bool true]) w:=by kernel_rfl
theorem tj(v:Value)(w:World):(Instr.typeAssert (.iface 184 v) 20 178 true).run prog w= .ok (.tuple #[.slice none 0 0,.bool false]) w:=by kernel_rfl
theorem qx(v:Value)(w:World):(Instr.typeAssert (.iface 184 v) 20 180 true).run prog w= .ok (.tuple #[.agg (mvR 0 none 0 0 0),.bool false]) w:=by kernel_rfl
theorem pH(v:Value)(w:World):(Instr.typeAssert (.iface 184 v) 20 183 true).run prog w= .ok (.tuple #[.agg #[],.bool false]) w:=by kernel_rfl
section
variable {w0 w:World} {M:Mem} {cc:Nat} {p:Option Addr} {n c:Nat} {N:Int}
theorem mP(R:Int→Mem→Prop)(hf:∀b w1,Loc w0 w1 ((b,mvR 1 p n c N,47)::M)→Calls prog 96 #[bM cc,.slice p n c] w1 fun e w'=>∃v M',e= .returned (.int .i64 v)∧R v M'∧Loc w0 w' ((b,mvR 1 p n c N,47)::M'))(hL:Loc w0 w M):Calls prog 52 #[bM cc,.agg (mvR 1 p n c N)] w fun e w'=>∃v M',e= .returned (.tuple #[.slice none 0 0,.int .i64 v])∧R v M'∧Loc w0 w' M':=by
 have HF:=Hd hf;have HM:=Hd (fun w1=>Ih p n c N w1);clear hf;have ht:=FK;go_enter func52,ntmps52;go_wp2_with (first|refine aU ?_|(refine gBp 3 ?_;clear hL;intro b3 w1 hL)|(refine gBp 7 ?_;clear hL;intro b7 w1 hL)|(refine gBp 8 ?_;clear hL;intro b8 w1 hL)|(refine gBp 9 ?_;clear hL;intro b9 w1 hL)|(refine gBp 10 ?_;clear hL;intro b10 w1 hL)|(refine gN 14 ?_;refine lV (HM.out _) hL ?_;clear hL;intro w1 hL)|(refine gN 20 ?_;refine lKk (HF.out _ _ hL) ?_;rintro e w1⟨v,M',rfl,hRv,hL1⟩;clear hL;revert hL1;refine aE ?_;intro hL)|(refine ah ?_;clear hL;intro w1 hL))
 all_goals(go_ret2;exact⟨v,M',rfl,hRv,Loc.rem b3 hL⟩)
theorem AZ(R:Int→Mem→Prop)(hf:∀b w1,Loc w0 w1 ((b,mvR 4 p n c N,47)::M)→Calls prog 99 #[bM cc] w1 fun e w'=>∃v M',e= .returned (.int .i64 v)∧R v M'∧Loc w0 w' ((b,mvR 4 p n c N,47)::M'))(hL:Loc w0 w M):Calls prog 52 #[bM cc,.agg (mvR 4 p n c N)] w fun e w'=>∃v M',e= .returned (.tuple #[.slice none 0 0,.int .i64 v])∧R v M'∧Loc w0 w' M':=by
 have HF:=Hd hf;have HM:=Hd (fun w1=>Ii p n c N w1);clear hf;have ht0:=tj;have ht1:=qx;have ht2:=pH;have ht:=FL;go_enter func52,ntmps52;go_wp2_with (first|refine aU ?_|(refine gBp 3 ?_;clear hL;intro b3 w1 hL)|(refine gBp 7 ?_;clear hL;intro b7 w1 hL)|(refine gBp 8 ?_;clear hL;intro b8 w1 hL)|(refine gBp 9 ?_;clear hL;intro b9 w1 hL)|(refine gBp 10 ?_;clear hL;intro b10 w1 hL)|(refine gN 14 ?_;refine lV (HM.out _) hL ?_;clear hL;intro w1 hL)|(refine gN 39 ?_;refine lKk (HF.out _ _ hL.pop) ?_;rintro e w1⟨v,M',rfl,hRv,hL1⟩;clear hL;revert hL1;refine aE ?_;intro hL)|(refine ah ?_;clear hL;intro w1 hL))
 all_goals(go_ret2;exact⟨v,M',rfl,hRv,Loc.rem b3 hL⟩)
instance MK:Ent 52:=eo func52
end
end
end Go.Proofs.YtoifhhljfaoejaaGreatDoor
