/-
  Lemmas of the law, part 21: the walks of the functions that it calls and the plain facts about them. No condition beyond those written.
-/
import Derived.Test.YtoifhhljfaoejaaGreatDoorPkAA
import Derived.Test.YtoifhhljfaoejaaGreatDoorPkAT
import Derived.Test.YtoifhhljfaoejaaGreatDoorPkAH
import Derived.Deep.QuietTactic
import Derived.BigQuiet
import Derived.StillTailTactics
import Derived.Test.YtoifhhljfaoejaaGreatDoorPkAE
import Derived.Test.YtoifhhljfaoejaaGreatDoorPkAK
import Derived.Test.YtoifhhljfaoejaaGreatDoorRows
import Derived.Outline
import Derived.Great.BuildSlice
set_option maxRecDepth 100000
set_option maxHeartbeats 8000000
set_option linter.unusedVariables false
set_option linter.unusedSimpArgs false
set_option linter.unusedSectionVars false
namespace Go.Proofs.YtoifhhljfaoejaaGreatDoor
open Go.Proofs.Tryz
section
open Go Go.RowKit Go.Shelf R3
theorem Eg(R:Nat)(w:World):(Instr.build 359 #[(1,.agg (am R))]).run prog w= .ok (.agg (poR 0 R (fun _=>0) 0)) w:=by kernel_rfl
theorem F4(a:Option Addr)(c:Nat)(w:World):(Instr.arrayAt 220 (.slice a 16 c)).run prog w= .ok (.pointer a) w:=Go.run_arrayAt (P:=prog) (w:=w) 220 5 16 a 16 c underlying220 (by decide)
theorem Eh(f:Nat→BitVec 8):Part (aa 32 f) 24 0 220 (aa 16 f):=⟨fun j v hv=>by
 rw[Array.getElem?_toList]at hv;have hj:j<16:=by have:=(Array.getElem?_eq_some_iff.1 hv).1;simpa[aa,aQ] using this
 rw[show(aa 16 f)[j]?=some (.int .u8 (B8 (f j)))from bI _ hj]at hv;rw[← hv,Nat.zero_add];exact bI _ (by omega)⟩
theorem F5(key:Nat→BitVec 8):lw (leK (fun i=>key (16+i)) 16) 0=lw (leN key) 2∧lw (leK (fun i=>key (16+i)) 16) 1=lw (leN key) 3∧leK (fun i=>key (16+i)) 16<2^128:=by
 have e:leN key=leK key 16+leK (fun i=>key (16+i)) 16*2^(8*16):=nS key 16 16;have h1:leK key 16<2^128:=df key 16;have h2:leK (fun i=>key (16+i)) 16<2^128:=df _ 16;refine⟨?_,?_,h2⟩
 all_goals
  unfold lw;rw[e];generalize leK key 16=x,leK (fun i=>key (16+i)) 16=y at *
  clear e;simp only[Nat.reduceMul,Nat.reducePow]at *
  omega
theorem vC(key:Nat→BitVec 8)(v:Value)(l:List (List (BitVec 8)))(w:World)(hv:BRows w v l)(hl:l.length≤1000000)(hm:l.flatten.length≤1000000000) :
 Rt 289 #[.agg (aa 32 key),v] w (.agg (aa 16 (ab (rj key (fun i=>l.flatten.getD i 0) l.flatten.length)))):=by
 have hL:=Loc.nil w;obtain⟨a,c,rfl,_,hv⟩:=hv;have HV:=Hd hv;have hR:=(vB key).2.2;obtain⟨k0,k1,k2⟩:=F5 key;obtain⟨v1,v2⟩:=Ec hR l.flatten;have hfin:rj key (fun i=>l.flatten.getD i 0) l.flatten.length=Eb (leK (rB key) 16) (bV (leK (rB key) 16) ⟨0,fun _=>0,0⟩ l.flatten)%P5+leK (fun i=>key (16+i)) 16:=by
  rw[v1];rfl
 rw[hfin];clear hfin v1 hv;haveI fc:FnC 308 #[.agg (aa 32 key)] (.agg (am (leK (rB key) 16))):=inferInstance;have hR2:=nR (n:=leK (fun i=>key (16+i)) 16) (congrArg Nat.cast k0.symm) (congrArg Nat.cast k1.symm) (show(0:Int)=(lw (leK (fun i=>key (16+i)) 16) 2:Nat)from by
  rw[mC (Nat.lt_of_lt_of_le k2 (Nat.pow_le_pow_right (by omega) (by omega)))];rfl) (show(0:Int)=(lw (leK (fun i=>key (16+i)) 16) 3:Nat)from by
  rw[mC (Nat.lt_of_lt_of_le k2 (Nat.pow_le_pow_right (by omega) (by omega)))];rfl)
 have HR2:=Hd hR2;clear hR2 k0 k1 k2;generalize leK (rB key) 16=R,leK (fun i=>key (16+i)) 16=K2 at *
 have HR:=Hd hR;obtain⟨E,hE⟩:∃E,E=Eb R (bV R ⟨0,fun _=>0,0⟩ l.flatten):=⟨_,rfl⟩;obtain⟨T,hT⟩:∃T,T=E%P5:=⟨_,rfl⟩;rw[← hE]at v2 ⊢;rw[← hT];have HE:=Hd v2;have HEE:=Hd hE;have HTT:=Hd hT;clear v2 hR hE hT;have HOK0:=Hd (show PSt.Ok ⟨0,fun _=>0,0⟩from⟨by decide,by decide⟩);go_enter func289,ntmps289;go_wp2_with (first|refine aU ?_|(refine gBp 2 ?_;clear hL;intro b2 w1 hL)|(refine gBp 4 ?_;clear hL;intro b4 w1 hL)|(refine gN 17 ?_;refine lU hL rfl rfl (Eg _) rfl ?_;clear hL;intro w1 hL;refine p4 ?_)|(refine gBp 18 ?_;clear hL;intro b18 w1 hL)|(refine ah ?_;clear hL;intro w1 hL)|((with_reducible show wpList _ _ _ (⟨_,.call _,_,_,_,_⟩::_) _ _);(first|refine lC2 hL rfl rfl rfl rfl ?_|refine lC1 hL rfl rfl rfl ?_|refine lC3 hL rfl rfl rfl rfl ?_|refine lC4 hL rfl rfl rfl rfl ?_|refine lC0 hL rfl rfl ?_|refine lC5 hL rfl rfl rfl ?_);clear hL;intro w1 hL;refine p4 ?_));go_loopw [21] (fun kk wr=>∃k:Nat,k≤l.length∧kk= .int .i64 k∧Loc w wr [(b18,poR (bV R ⟨0,fun _=>0,0⟩ (l.take k).flatten).h R (bV R ⟨0,fun _=>0,0⟩ (l.take k).flatten).b (bV R ⟨0,fun _=>0,0⟩ (l.take k).flatten).n,359),(b4,aa 16 fun _=>0,220),(b2,aa 32 key,24)]) (fun kk _=>l.length-(intOf kk).toNat);case atStart=>exact⟨0,by omega,rfl,hL⟩
 case round =>
 clear hL;obtain⟨k,hk,rfl,hL⟩:=hrel;have hk0:(0:Int)≤(k:Int):=by omega
 by_cases hlt:k<l.length
 ·obtain⟨b,off,ha,hbl,hcells⟩:=HV.out (by omega)
  obtain⟨vi,hvi,a2,c2,rfl,_,hin⟩:=hcells k hlt;have hk1:(k:Int)<(l.length:Int):=by omega
  rw[ha];haveI g1:Was w b (off+k) (.slice a2 l[k].length c2):=⟨hvi,hbl⟩;clear hvi hcells;have HI:=Hd hin;have hln:=Shb.flat_take_le l k hlt;have HT:=Hd (show l.take (k+1)=l.take k++[l[k]]from List.take_succ_eq_append_getElem hlt);clear hin;generalize l[k]=m at *
  have HOKP:=Hd (ij HR.out (l.take k).flatten HOK0.out);have HP:=Hd (show bV R ⟨0,fun _=>0,0⟩ (l.take (k+1)).flatten=bV R (bV R ⟨0,fun _=>0,0⟩ (l.take k).flatten) m from by
   rw[HT.out,List.flatten_append,List.flatten_cons,List.flatten_nil,List.append_nil,ks])
  clear HT;generalize bV R ⟨0,fun _=>0,0⟩ (l.take k).flatten=p at *
  go_wp2_with (first|refine aU ?_|(refine ah ?_;clear hL;intro w1 hL));go_loopw [27] (fun jj wr=>∃j:Nat,j≤m.length∧jj= .int .i64 j∧Loc w wr [(b18,poR (bV R p (m.take j)).h R (bV R p (m.take j)).b (bV R p (m.take j)).n,359),(b4,aa 16 fun _=>0,220),(b2,aa 32 key,24)]) (fun jj _=>m.length-(intOf jj).toNat);case atStart=>exact⟨0,by omega,rfl,hL⟩
  case round =>
  clear hL;obtain⟨j,hj,rfl,hL⟩:=hrel;have hj0:(0:Int)≤(j:Int):=by omega
  by_cases hjl:j<m.length
  ·obtain⟨b3,o3,ha3,hbl3,hc3⟩:=HI.out (by omega)
   haveI g2:Was w b3 (o3+j) (.int .u8 (B8 m[j])):=⟨hc3 j hjl,hbl3⟩;have HTJ:=Hd (show bV R p (m.take (j+1))=jL R (bV R p (m.take j)) m[j] by
    rw[List.take_succ_eq_append_getElem hjl,nh])
   have hj1:(j:Int)<(m.length:Int):=by omega
   have HOKJ:=Hd (ij HR.out (m.take j) HOKP.out);rw[ha3];clear hc3;generalize bV R p (m.take j)=S,m[j]=x at *
   clear g1;go_wp2_with (first|refine aU ?_|(refine gN 33 ?_;refine lO (tv (F:=fun x=>[(b18,x,359),(b4,aa 16 fun _=>0,220),(b2,aa 32 key,24)]) (sb:=b18) HR.out S HOKJ.out x hL) ?_;clear hL;intro w1 hL)|(refine ah ?_;clear hL;intro w1 hL));go_roundw;case rel=>exact⟨j+1,by omega,by go_num,by rw[HTJ.out];exact hL⟩
   case measure=>simp[intOf];omega
  have hje:m.take j=m:=List.take_of_length_le (by omega);rw[hje]at hL;have hj1:¬(j:Int)<(m.length:Int):=by omega
  clear hje;rw[← HP.out]at hL;go_wp2_with (first|refine aU ?_|(refine ah ?_;clear hL;intro w1 hL));go_roundw;case rel=>exact⟨k+1,by omega,by go_num,hL⟩
  case measure=>simp[intOf];omega
 have hke:l.take k=l:=List.take_of_length_le (by omega);rw[hke]at hL;have hk1:¬(k:Int)<(l.length:Int):=by omega
 clear hke;have HOK:=Hd (ij HR.out l.flatten HOK0.out);have hpt:=Eh;have hat:=F4;haveI g2:Cell (am (leN key)) 2 (.int .u64 (lw (leN key) 2:Nat)):=aI _ (by omega);haveI g3:Cell (am (leN key)) 3 (.int .u64 (lw (leN key) 3:Nat)):=aI _ (by omega);haveI fo:FnC 270 #[.agg (aa 32 key)] (.agg (am (leN key))):=inferInstance;haveI fpr:FnC 312 #[] (.agg (am P5)):=inferInstance;generalize bV R ⟨0,fun _=>0,0⟩ l.flatten=S at *
 have hE2:=HE.out;have hE3:E<2^256:=Nat.lt_trans hE2 (by decide +kernel);have h1:f5 E<2^131:=pP hE3;have h2:f5 (f5 E)<2^131:=pP (Nat.lt_trans h1 (by decide +kernel));haveI f1:FnC 311 #[.agg (am E)] (.agg (am (f5 E))):=⟨fD _ hE3⟩;haveI f2:FnC 311 #[.agg (am (f5 E))] (.agg (am (f5 (f5 E)))):=⟨fD _ (Nat.lt_trans h1 (by decide +kernel))⟩;haveI f3:FnC 311 #[.agg (am (f5 (f5 E)))] (.agg (am (f5 (f5 (f5 E))))):=⟨fD _ (Nat.lt_trans h2 (by decide +kernel))⟩;obtain⟨q1,q2⟩:=Ed hE2;haveI f5':FnC 301 #[.agg (am T),.agg (am K2)] (.tuple #[.agg (am (T+K2)),.int .u64 (cy T K2 4:Nat)]):=⟨iq _ _⟩;haveI f6:FnC 284 #[.agg (am (T+K2))] (.agg (aa 32 (ab (T+K2)))):=⟨yC _⟩;have hP:P5<2^256:=by decide +kernel
 have hf3:f5 (f5 (f5 E))<2^256:=Nat.lt_trans q1 (by decide +kernel);have hsb:=fy (f5 (f5 (f5 E))) P5 hf3 hP;have hbw:bw (f5 (f5 (f5 E))) P5 4=if f5 (f5 (f5 E))<P5 then 1 else 0:=by
  unfold bw;rw[show 64*4=256 from rfl,Nat.mod_eq_of_lt hf3,Nat.mod_eq_of_lt hP]
 rw[hbw]at hsb;have HQ1:=Hd (fun(c:¬f5 (f5 (f5 E))<P5)=>show am (f5 (f5 (f5 E))+2^256-P5)=am T from by
  rw[HTT.out,← q2,if_neg c,← dQ (f5 (f5 (f5 E))+2^256-P5),show f5 (f5 (f5 E))+2^256-P5=f5 (f5 (f5 E))-P5+2^256 from by omega,Nat.add_mod_right,dQ])
 have HQ2:=Hd (fun(c:f5 (f5 (f5 E))<P5)=>show f5 (f5 (f5 E))=T from by
  rw[HTT.out,← q2,if_pos c])
 clear q1 q2 hbw hf3 hP h1 h2 hE2 hE3 fc HE;generalize hf:f5 (f5 (f5 E))=E3 at *
 clear hf;generalize f5 (f5 E)=E2 at *
 generalize f5 E=E1,cy T K2 4=CC at *
 clear HTT;rw[← HR2.out]at f5';generalize lw (leN key) 2=x2,lw (leN key) 3=x3 at *
 have HTU:=Hd (fun(c1:0<S.n) w1 (h1:Loc w w1 [(b18,poR S.h R S.b S.n,359),(b4,aa 16 fun _=>0,220),(b2,aa 32 key,24)])=>lX (F:=fun x=>[(b18,x,359),(b4,aa 16 fun _=>0,220),(b2,aa 32 key,24)]) (sb:=b18) HR.out S HOK.out.h c1 (Nat.le_of_lt HOK.out.n) h1);have HE1:=Hd (fun(c1:0<S.n)=>show(jK R S).h=E from by rw[HEE.out];exact(if_pos c1).symm);have HE2:=Hd (fun(c1:¬0<S.n)=>show S.h=E from by rw[HEE.out];exact(if_neg c1).symm);clear HV HOK0 HOK HR HR2 HEE hk hlt;obtain⟨Sh,Sb,Sn⟩:=S;dsimp only at *
 by_cases c1:0<Sn <;> by_cases c2:E3<P5
 ·have HT:=HTU.out c1;rw[HE1.out c1]at HT;have HT:=Hd HT;have s1:(0:Int)<Sn:=by omega
  obtain rfl:=HQ2.out c2;rw[if_pos c2]at hsb;haveI fs:FnC 296 #[.agg (am E3),.agg (am P5)] (.tuple #[.agg (am (E3+2^256-P5)),.int .u64 1]):=⟨hsb⟩;generalize E3+2^256-P5=D at *
  clear hsb HTU HE1 HE2 HQ1 HQ2 c1 c2;go_wp2_with (first|refine aU ?_|(refine gBp 10 ?_;clear hL;intro b10 w1 hL)|(refine gN 42 ?_;refine lO (HT.out _ hL) ?_;clear hL;intro w1 hL)|(refine ah ?_;clear hL;intro w1 hL)|((with_reducible show wpList _ _ _ (⟨_,.call _,_,_,_,_⟩::_) _ _);(first|refine lC2 hL rfl rfl rfl rfl ?_|refine lC1 hL rfl rfl rfl ?_|refine lC3 hL rfl rfl rfl rfl ?_|refine lC4 hL rfl rfl rfl rfl ?_|refine lC0 hL rfl rfl ?_|refine lC5 hL rfl rfl rfl ?_);clear hL;intro w1 hL;refine p4 ?_));refine ar [(0,false),(1,false),(2,false),(3,true),(4,true),(5,true)] [(6,_,311)] [7,8] (by kernel_rfl) (by kernel_rfl) ⟨⟨_,rfl,rfl,rfl⟩,inferInstance,trivial⟩ hL ?_;refine pF ?_;refine fA ?_;refine az fun b=>?_;refine fB ?_;clear hL;intro w1 hL;go_wp2_with (first|refine aU ?_|(refine gBp 13 ?_;clear hL;intro b13 w1 hL)|(refine gBp 14 ?_;clear hL;intro b14 w1 hL)|(refine ah ?_;clear hL;intro w1 hL)|((with_reducible show wpList _ _ _ (⟨_,.call _,_,_,_,_⟩::_) _ _);(first|refine lC2 hL rfl rfl rfl rfl ?_|refine lC1 hL rfl rfl rfl ?_|refine lC3 hL rfl rfl rfl rfl ?_|refine lC4 hL rfl rfl rfl rfl ?_|refine lC0 hL rfl rfl ?_|refine lC5 hL rfl rfl rfl ?_);clear hL;intro w1 hL;refine p4 ?_));exact bodyPost_ret (ai rfl hL rfl) rfl ⟨rfl,hL.bel⟩
 ·have HT:=HTU.out c1;rw[HE1.out c1]at HT;have HT:=Hd HT;have s1:(0:Int)<Sn:=by omega
  rw[if_neg c2,HQ1.out c2]at hsb;haveI fs:FnC 296 #[.agg (am E3),.agg (am P5)] (.tuple #[.agg (am T),.int .u64 0]):=⟨hsb⟩;clear hsb HTU HE1 HE2 HQ1 HQ2 c1 c2;go_wp2_with (first|refine aU ?_|(refine gBp 10 ?_;clear hL;intro b10 w1 hL)|(refine gN 42 ?_;refine lO (HT.out _ hL) ?_;clear hL;intro w1 hL)|(refine ah ?_;clear hL;intro w1 hL)|((with_reducible show wpList _ _ _ (⟨_,.call _,_,_,_,_⟩::_) _ _);(first|refine lC2 hL rfl rfl rfl rfl ?_|refine lC1 hL rfl rfl rfl ?_|refine lC3 hL rfl rfl rfl rfl ?_|refine lC4 hL rfl rfl rfl rfl ?_|refine lC0 hL rfl rfl ?_|refine lC5 hL rfl rfl rfl ?_);clear hL;intro w1 hL;refine p4 ?_));refine ar [(0,false),(1,false),(2,false),(3,true),(4,true),(5,true)] [(6,_,311)] [7,8] (by kernel_rfl) (by kernel_rfl) ⟨⟨_,rfl,rfl,rfl⟩,inferInstance,trivial⟩ hL ?_;refine pF ?_;refine fA ?_;refine az fun b=>?_;refine fB ?_;clear hL;intro w1 hL;go_wp2_with (first|refine aU ?_|(refine gBp 13 ?_;clear hL;intro b13 w1 hL)|(refine gBp 14 ?_;clear hL;intro b14 w1 hL)|(refine ah ?_;clear hL;intro w1 hL)|((with_reducible show wpList _ _ _ (⟨_,.call _,_,_,_,_⟩::_) _ _);(first|refine lC2 hL rfl rfl rfl rfl ?_|refine lC1 hL rfl rfl rfl ?_|refine lC3 hL rfl rfl rfl rfl ?_|refine lC4 hL rfl rfl rfl rfl ?_|refine lC0 hL rfl rfl ?_|refine lC5 hL rfl rfl rfl ?_);clear hL;intro w1 hL;refine p4 ?_));exact bodyPost_ret (ai rfl hL rfl) rfl ⟨rfl,hL.bel⟩
 ·obtain rfl:=HE2.out c1;have s1:¬(0:Int)<Sn:=by omega
  obtain rfl:=HQ2.out c2;rw[if_pos c2]at hsb;haveI fs:FnC 296 #[.agg (am E3),.agg (am P5)] (.tuple #[.agg (am (E3+2^256-P5)),.int .u64 1]):=⟨hsb⟩;generalize E3+2^256-P5=D at *
  clear hsb HTU HE1 HE2 HQ1 HQ2 c1 c2;go_wp2_with (first|refine aU ?_|(refine gBp 10 ?_;clear hL;intro b10 w1 hL)|(refine ah ?_;clear hL;intro w1 hL)|((with_reducible show wpList _ _ _ (⟨_,.call _,_,_,_,_⟩::_) _ _);(first|refine lC2 hL rfl rfl rfl rfl ?_|refine lC1 hL rfl rfl rfl ?_|refine lC3 hL rfl rfl rfl rfl ?_|refine lC4 hL rfl rfl rfl rfl ?_|refine lC0 hL rfl rfl ?_|refine lC5 hL rfl rfl rfl ?_);clear hL;intro w1 hL;refine p4 ?_));refine ar [(0,false),(1,false),(2,false),(3,true),(4,true),(5,true)] [(6,_,311)] [7,8] (by kernel_rfl) (by kernel_rfl) ⟨⟨_,rfl,rfl,rfl⟩,inferInstance,trivial⟩ hL ?_;refine pF ?_;refine fA ?_;refine az fun b=>?_;refine fB ?_;clear hL;intro w1 hL;go_wp2_with (first|refine aU ?_|(refine gBp 13 ?_;clear hL;intro b13 w1 hL)|(refine gBp 14 ?_;clear hL;intro b14 w1 hL)|(refine ah ?_;clear hL;intro w1 hL)|((with_reducible show wpList _ _ _ (⟨_,.call _,_,_,_,_⟩::_) _ _);(first|refine lC2 hL rfl rfl rfl rfl ?_|refine lC1 hL rfl rfl rfl ?_|refine lC3 hL rfl rfl rfl rfl ?_|refine lC4 hL rfl rfl rfl rfl ?_|refine lC0 hL rfl rfl ?_|refine lC5 hL rfl rfl rfl ?_);clear hL;intro w1 hL;refine p4 ?_));exact bodyPost_ret (ai rfl hL rfl) rfl ⟨rfl,hL.bel⟩
 ·obtain rfl:=HE2.out c1;have s1:¬(0:Int)<Sn:=by omega
  rw[if_neg c2,HQ1.out c2]at hsb;haveI fs:FnC 296 #[.agg (am E3),.agg (am P5)] (.tuple #[.agg (am T),.int .u64 0]):=⟨hsb⟩;clear hsb HTU HE1 HE2 HQ1 HQ2 c1 c2;go_wp2_with (first|refine aU ?_|(refine gBp 10 ?_;clear hL;intro b10 w1 hL)|(refine ah ?_;clear hL;intro w1 hL)|((with_reducible show wpList _ _ _ (⟨_,.call _,_,_,_,_⟩::_) _ _);(first|refine lC2 hL rfl rfl rfl rfl ?_|refine lC1 hL rfl rfl rfl ?_|refine lC3 hL rfl rfl rfl rfl ?_|refine lC4 hL rfl rfl rfl rfl ?_|refine lC0 hL rfl rfl ?_|refine lC5 hL rfl rfl rfl ?_);clear hL;intro w1 hL;refine p4 ?_));refine ar [(0,false),(1,false),(2,false),(3,true),(4,true),(5,true)] [(6,_,311)] [7,8] (by kernel_rfl) (by kernel_rfl) ⟨⟨_,rfl,rfl,rfl⟩,inferInstance,trivial⟩ hL ?_;refine pF ?_;refine fA ?_;refine az fun b=>?_;refine fB ?_;clear hL;intro w1 hL;go_wp2_with (first|refine aU ?_|(refine gBp 13 ?_;clear hL;intro b13 w1 hL)|(refine gBp 14 ?_;clear hL;intro b14 w1 hL)|(refine ah ?_;clear hL;intro w1 hL)|((with_reducible show wpList _ _ _ (⟨_,.call _,_,_,_,_⟩::_) _ _);(first|refine lC2 hL rfl rfl rfl rfl ?_|refine lC1 hL rfl rfl rfl ?_|refine lC3 hL rfl rfl rfl rfl ?_|refine lC4 hL rfl rfl rfl rfl ?_|refine lC0 hL rfl rfl ?_|refine lC5 hL rfl rfl rfl ?_);clear hL;intro w1 hL;refine p4 ?_));exact bodyPost_ret (ai rfl hL rfl) rfl ⟨rfl,hL.bel⟩
instance QX:Ent 289:=eo func289
end
section
open Go Go.RowKit
def mS(a b:List (BitVec 8)):Nat→BitVec 8
 | 0=>0
 | k+1=>mS a b k|||(a.getD k 0^^^b.getD k 0)
theorem vD(x y:BitVec 8):x|||y=0↔x=0∧y=0:=by
 constructor
 ·intro h
  constructor
  ·ext i hi
   have:=congrArg (fun z=>z.getLsbD i) h;simp at this;rw[← BitVec.getLsbD_eq_getElem hi,this.1];simp
  ·ext i hi
   have:=congrArg (fun z=>z.getLsbD i) h;simp at this;rw[← BitVec.getLsbD_eq_getElem hi,this.2];simp
 ·rintro⟨rfl,rfl⟩;rfl
theorem rq(a b:List (BitVec 8)):∀k,mS a b k=0↔∀i,i<k→a.getD i 0=b.getD i 0
 | 0=>by simp[mS]
 | k+1=>by
  simp only[mS];have hx:∀p q:BitVec 8,p^^^q=0↔p=q:=fun p q=>BitVec.xor_eq_zero_iff;rw[vD,rq a b k,hx];constructor
  ·rintro⟨h1,h2⟩ i hi
   by_cases e:i=k
   ·subst e;exact h2
   ·exact h1 i (by omega)
  ·intro h
   exact⟨fun i hi=>h i (by omega),h k (by omega)⟩
theorem F6(a b:List (BitVec 8))(h:a.length=b.length):(mS a b a.length=0)=(a=b):=by
 apply propext;rw[rq];constructor
 ·intro hi
  apply List.ext_getElem h;intro i h1 h2;have:=hi i h1;simpa[List.getD_eq_getElem?_getD,h1,h2] using this
 ·rintro rfl i _;rfl
theorem Bi{n:Nat}{a b:World}(h:Below n a b)(m:Nat):Below n a (b.drewN m):=⟨h.os,h.tape,h.output,h.size,h.block⟩
theorem BRow.at{w:World}{a:Option Addr}{n c:Nat}{l:List (BitVec 8)}(h:BRow w (.slice a n c) l)(h0:0<l.length):∃b off,a=Option.some ⟨b,off,none⟩∧b<w.heap.size∧∀(i:Nat) (h:i<l.length),w.cell? ⟨b,off+i,none⟩=Option.some (.int .u8 (B8 l[i])):=by
 obtain⟨a',c',e,_,hp⟩:=h;simp only[Value.slice.injEq]at e;obtain⟨rfl,_,_⟩:=e;exact hp h0
theorem ya(a a2:Option Addr)(n n2 c c2:Nat)(w:World)(h:n≠n2) :
 Rt 239 #[.slice a n c,.slice a2 n2 c2] w (.bool false):=by
 have h1:¬((n:Int)=(n2:Int)):=by omega
 go_enter func239,ntmps239;go_wp2_with fail;go_ret;exact⟨rfl,Below.refl _ _⟩
theorem yb(a a2:Option Addr)(c c2:Nat)(l m:List (BitVec 8))(w:World)(hv:BRow w (.slice a l.length c) l)(hv2:BRow w (.slice a2 l.length c2) m)(he:l.length=m.length)(hl:l.length≤1000000) :
 Rt 239 #[.slice a l.length c,.slice a2 l.length c2] w (.bool (decide (l=m))):=by
 have HV:=Hd hv;have HV2:=Hd hv2;have HE:=Hd he;obtain⟨n,hn⟩:∃n,n=l.length:=⟨_,rfl⟩;have HN:=Hd hn;rw[← hn]at hl ⊢;clear hv hv2 he hn;go_enter func239,ntmps239;go_wp2_with fail;go_loopw [5,14] (fun o i wr=>∃k:Nat,k≤n∧i= .int .i64 k∧o= .int .u8 (B8 (mS l m k))∧Below w.heap.size w wr) (fun _ i _=>n-(intOf i).toNat);case atStart=>exact⟨0,Nat.zero_le _,rfl,rfl,Below.refl _ _⟩
 case round =>
  obtain⟨k,hk,rfl,rfl,hb⟩:=hrel;have HB:=Hd hb;by_cases hlt:k<n
  ·obtain⟨b,off,rfl,hbl,hc⟩:=HV.out.at (by have:=HN.out;omega)
   obtain⟨b2,off2,rfl,hbl2,hc2⟩:=HV2.out.at (by have:=HN.out;have:=HE.out;omega);have hk0:(0:Int)≤(k:Int):=by omega
   have hk1:(k:Int)<(n:Int):=by omega
   have hk2:(k:Int)<1000000:=by omega
   have h1:wr.cell? ⟨b,off+k,none⟩=some (.int .u8 (B8 (l.getD k 0))):=by
    have hkl:k<l.length:=by rw[← HN.out];exact hlt
    rw[hb.cell (p:=⟨b,off+k,none⟩) hbl,hc k hkl,List.getD_eq_getElem?_getD,List.getElem?_eq_getElem hkl];rfl
   have h2:wr.cell? ⟨b2,off2+k,none⟩=some (.int .u8 (B8 (m.getD k 0))):=by
    have hkl:k<m.length:=by rw[← HE.out,← HN.out];exact hlt
    rw[hb.cell (p:=⟨b2,off2+k,none⟩) hbl2,hc2 k hkl,List.getD_eq_getElem?_getD,List.getElem?_eq_getElem hkl];rfl
   have HST:=Hd (show mS l m (k+1)=mS l m k|||(l.getD k 0^^^m.getD k 0)from rfl);clear hc hc2 hbl hbl2 hb;generalize l.getD k 0=p at *
   generalize m.getD k 0=q at *
   generalize mS l m k=o at *
   have hx:=i4 p q;have ho:=IF o (p^^^q);generalize p^^^q=pq at *
   rw[← HST.out]at ho;clear HST;go_wp2_with fail;go_quiet (fail);go_wp2_with fail;go_roundw;case rel=>exact⟨k+1,by omega,by go_num,rfl,Bi HB.out _⟩
   case measure=>simp[intOf];omega
  ·have hk1:(n:Int)≤(k:Int):=by omega
   obtain rfl:k=n:=by omega
   have hz:(B8 (mS l m k)==0)=decide (l=m):=by
    have h1:=F6 l m HE.out;rw[← HN.out]at h1;by_cases h:l=m
    ·rw[decide_eq_true h,h1.mpr h];rfl
    ·rw[decide_eq_false h]
     have:mS l m k≠0:=fun e=>h (h1.mp e);have h2:B8 (mS l m k)≠0:=fun e=>this (GE (y:=0) e);simpa using h2
   generalize mS l m k=o at *
   clear hb;go_wp2_with fail;go_ret;exact⟨by rw[← hz];rfl,HB.out⟩
theorem vE(v vb:Value)(l m:List (BitVec 8))(w:World)(hv:BRow w v l)(hvb:BRow w vb m)(hl:l.length≤1000000) :
 Rt 239 #[v,vb] w (.bool (decide (l=m))):=by
 obtain⟨a,c,rfl⟩:=hv.shape;obtain⟨a2,c2,rfl⟩:=hvb.shape;by_cases h:l.length=m.length
 ·rw[← h]at hvb ⊢
  exact yb a a2 c c2 l m w hv hvb h hl
 ·rw[decide_eq_false (by intro e;rw[e]at h;exact h rfl)]
  exact ya a a2 _ _ c c2 w h
instance QY:Ent 239:=eo func239
end
section
def qa(a b c d:BitVec 32):BitVec 32 :=
 a+b+aS (b^^^(c+aS (d^^^(a+b)) 16)) 12
def qd(a b c d:BitVec 32):BitVec 32:=aS (aS (d^^^(a+b)) 16^^^qa a b c d) 8
def q1(a b:Nat)(s:Nat→BitVec 32):Nat→BitVec 32:=upd s a (s a+s b)
def q2(a d n:Nat)(s:Nat→BitVec 32):Nat→BitVec 32:=upd s d (aS (s d^^^s a) n)
def qr(a b c d:Nat)(s:Nat→BitVec 32):Nat→BitVec 32 :=
 q2 c b 7 (q1 c d (q2 a d 8 (q1 a b (q2 c b 12 (q1 c d (q2 a d 16 (q1 a b s)))))))
def yc(s:Nat→BitVec 32):Nat→Nat→BitVec 32
 | 0=>s
 | k+1=>qr k (4+k) (8+k) (12+k) (yc s k)
def Bj(s:Nat→BitVec 32):Nat→Nat→BitVec 32
 | 0=>s
 | k+1=>qr k (4+(k+1)%4) (8+(k+2)%4) (12+(k+3)%4) (Bj s k)
def dbl(s:Nat→BitVec 32):Nat→BitVec 32:=Bj (yc s 4) 4
def lY(s:Nat→BitVec 32):Nat→Nat→BitVec 32
 | 0=>s
 | k+1=>dbl (lY s k)
def le4(b:Nat→BitVec 8)(i:Nat):BitVec 32:=ef (b i)|||ef (b (i+1))<<<8|||ef (b (i+2))<<<16|||ef (b (i+3))<<<24
def ik(i:Nat):BitVec 32:=BitVec.ofNat 32 ([0x61707865,0x3320646e,0x79622d32,0x6b206574].getD i 0)
def vF(key:Nat→BitVec 8)(c:BitVec 32)(nonce:Nat→BitVec 8):Nat→BitVec 32:=fun i =>
 if i<4 then ik i else if i<12 then le4 key (4*(i-4))else if i=12 then c else le4 nonce (4*(i-13))
def jM(v s:Nat→BitVec 32):Nat→BitVec 8:=fun i=>((v (i/4)+s (i/4))>>>(8*(i%4))).setWidth 8
def dO(key:Nat→BitVec 8)(c:BitVec 32)(nonce:Nat→BitVec 8):Nat→BitVec 8:=jM (lY (vF key c nonce) 10) (vF key c nonce)
def Ei(key:Nat→BitVec 8)(c:BitVec 32)(nonce:Nat→BitVec 8)(i:Nat):BitVec 8:=dO key (c+BitVec.ofNat 32 (i/64)) nonce (i%64)
def dN(key:Nat→BitVec 8)(c:BitVec 32)(nonce:Nat→BitVec 8)(l:List (BitVec 8)):List (BitVec 8):=l.mapIdx fun i x=>x^^^Ei key c nonce i
theorem dM(key:Nat→BitVec 8)(c:BitVec 32)(nonce:Nat→BitVec 8)(l:List (BitVec 8)):(dN key c nonce l).length=l.length:=by simp[dN]
theorem vG(key:Nat→BitVec 8)(c:BitVec 32)(nonce:Nat→BitVec 8)(l:List (BitVec 8)):dN key c nonce (dN key c nonce l)=l:=by
 apply List.ext_getElem?;intro i;simp only[dN,List.getElem?_mapIdx,Option.map_map];cases l[i]? with
 | none=>rfl
 | some x=>simp[BitVec.xor_assoc]
theorem iR(n:Int):U (BitVec.ofInt 32 n)=n%4294967296:=by
 unfold U;rw[BitVec.toNat_ofInt];omega
theorem vH(n:Int):IntKind.u32.wrap n=U (BitVec.ofInt 32 n):=by rw[iR,IntKind.wrap_u32']
theorem zJ(x:BitVec 32):BitVec.ofInt 32 (U x)=x:=Gf (by rw[iR];have:=j8 x;omega)
theorem Bk(n:Int)(k:Nat):BitVec.ofInt 32 (n+k)=BitVec.ofInt 32 n+BitVec.ofNat 32 k:=by
 apply Gf;rw[iR,← fN,iR];unfold U;rw[BitVec.toNat_ofNat];omega
end
section
open Go.RowKit
theorem pR(x:BitVec 32)(n m:Nat)(h:m=32-n):bits .or .u32 (U x*((2^n:Nat):Int)%4294967296) (U x/((2^m:Nat):Int))=U (aS x n):=by
 subst h;rw[mY,qI,wn];rfl
theorem nT(x:BitVec 32)(w:World)(s:Int)(n m:Nat)(hm:bits .and .u64 (IntKind.u64.wrap s) 31=n∧bits .and .u64 s 31=n:=by decide)(hq:m=32-n:=by rfl)(h:bits .and .u64 (IntKind.u64.wrap s) 31=n→bits .and .u64 s 31=n→RowKit.Hid (bits .or .u32 (U x*((2^n:Nat):Int)%4294967296) (U x/((2^m:Nat):Int))=U (aS x n))→Calls prog 314 #[.int .u32 (U x),.int .i64 s] w (fun e w'=>e= .returned (.int .u32 (U (aS x n)))∧w'=w):=by
  intro hm hm2 HV;obtain⟨h0,h1⟩:=j8 x;go_enter func314,ntmps314;go_wp2;go_ret;exact⟨congrArg (fun z=>Ending.returned (.int .u32 z)) HV.out,rfl⟩):Calls prog 314 #[.int .u32 (U x),.int .i64 s] w (fun e w'=>e= .returned (.int .u32 (U (aS x n)))∧w'=w):=h hm.1 hm.2 (Hd (pR x n m hq))
theorem F7(x:BitVec 32)(w:World)(s:Int)(n m:Nat)(hq:m=32-n:=by rfl)(h:RowKit.Hid (bits .or .u32 (U x*((2^n:Nat):Int)%4294967296) (U x/((2^m:Nat):Int))=U (aS x n))→Calls prog 266 #[.int .u32 (U x),.int .u64 s] w (fun e w'=>e= .returned (.int .u32 (U (aS x n)))∧w'=w):=by
  intro HV;obtain⟨h0,h1⟩:=j8 x;go_enter func266,ntmps266;go_wp2;go_ret;exact⟨congrArg (fun z=>Ending.returned (.int .u32 z)) HV.out,rfl⟩):Calls prog 266 #[.int .u32 (U x),.int .u64 s] w (fun e w'=>e= .returned (.int .u32 (U (aS x n)))∧w'=w):=h (Hd (pR x n m hq))
theorem Kt(x:BitVec 32)(w:World):Calls prog 314 #[.int .u32 (U x),.int .i64 16] w fun e w'=>e= .returned (.int .u32 (U (aS x 16)))∧w'=w:=nT x w 16 16 16
theorem Ku(x:BitVec 32)(w:World):Calls prog 266 #[.int .u32 (U x),.int .u64 16] w fun e w'=>e= .returned (.int .u32 (U (aS x 16)))∧w'=w:=F7 x w 16 16 16
theorem Kv(x:BitVec 32)(w:World):Calls prog 314 #[.int .u32 (U x),.int .i64 12] w fun e w'=>e= .returned (.int .u32 (U (aS x 12)))∧w'=w:=nT x w 12 12 20
theorem Kw(x:BitVec 32)(w:World):Calls prog 266 #[.int .u32 (U x),.int .u64 12] w fun e w'=>e= .returned (.int .u32 (U (aS x 12)))∧w'=w:=F7 x w 12 12 20
theorem G6(x:BitVec 32)(w:World):Calls prog 314 #[.int .u32 (U x),.int .i64 8] w fun e w'=>e= .returned (.int .u32 (U (aS x 8)))∧w'=w:=nT x w 8 8 24
theorem MQ(x:BitVec 32)(w:World):Calls prog 266 #[.int .u32 (U x),.int .u64 8] w fun e w'=>e= .returned (.int .u32 (U (aS x 8)))∧w'=w:=F7 x w 8 8 24
theorem F8(x:BitVec 32)(w:World):Calls prog 314 #[.int .u32 (U x),.int .i64 7] w fun e w'=>e= .returned (.int .u32 (U (aS x 7)))∧w'=w:=nT x w 7 7 25
theorem MS(x:BitVec 32)(w:World):Calls prog 266 #[.int .u32 (U x),.int .u64 7] w fun e w'=>e= .returned (.int .u32 (U (aS x 7)))∧w'=w:=F7 x w 7 7 25
theorem qS{w0 w:World}{g a:Nat}{s:Nat→BitVec 32}{v:BitVec 32}(q:Nat→BitVec 32)(HG:RowKit.Hid (w.heap[g]?=some (.cells (a6 16 s) 298 (0,0))))(HR:RowKit.Hid (w0.grownBy w (some g)))(ha:a<16)(hq:q=upd s a v) :
 ∃W s',(w.setCell ⟨g,a,none⟩ (.int .u32 (U v))).drew=W∧RowKit.Hid (s'=q)∧RowKit.Hid (W.heap[g]?=some (.cells (a6 16 s') 298 (0,0)))∧RowKit.Hid (w0.grownBy W (some g)) :=
 ⟨_,q,rfl,Hd rfl,Hd (by rw[hq];exact bZ _ HG.out ha),Hd (dz (bn HR.out (.inr rfl) _))⟩
theorem ni(g a b c d:Nat)(s0:Nat→BitVec 32)(w0:World)(ha:a<16)(hb:b<16)(hc:c<16)(hd:d<16)(hg:w0.heap[g]?=some (.cells (a6 16 s0) 298 (0,0))) :
 Calls prog 307 #[.pointer (some ⟨g,0,none⟩),.int .i64 a,.int .i64 b,.int .i64 c,.int .i64 d] w0 fun e w'=>e= .returned (.tuple #[])∧w'.heap[g]?=some (.cells (a6 16 (qr a b c d s0)) 298 (0,0))∧w0.grownBy w' (some g):=by
 have a0:(0:Int)≤(a:Int):=by omega
 have a1:(a:Int)<16:=by omega
 have b0:(0:Int)≤(b:Int):=by omega
 have b1:(b:Int)<16:=by omega
 have c0:(0:Int)≤(c:Int):=by omega
 have c1:(c:Int)<16:=by omega
 have d0:(0:Int)≤(d:Int):=by omega
 have d1:(d:Int)<16:=by omega
 have hadd:=gM;have hadd':=fN;have hxor:=kV;have HG0:=Hd hg;have HR0:=Hd (cq w0 (some g));clear hg;go_enter func307,ntmps307;have x0:=ap HG0.out ha;have y0:=ap HG0.out hb;have f0:w0.frozen? ⟨g,a,none⟩=false:=frozen_of_row w0 _ _ _ _ HG0.out;go_wp2_with fail;go_still_tail 13,(by kernel_rfl)
 try refine wpStill_nil ?_
 change wpList _ _ _ _ _ w0.drew;go_wp2_with fail;obtain⟨w1,s1,e1,HE1,HG1,HR1⟩:=qS (q1 a b s0) HG0 HR0 ha rfl;rw[e1];clear e1 x0 y0 f0 HG0 HR0;have x1:=ap HG1.out hd;have y1:=ap HG1.out ha;have f1:w1.frozen? ⟨g,d,none⟩=false:=frozen_of_row w1 _ _ _ _ HG1.out;go_wp2_with fail;go_still_tail 16,(by kernel_rfl);still_call (Kt _ _)
 repeat still_step
 try refine wpStill_nil ?_
 change wpList _ _ _ _ _ w1.drew;go_wp2_with fail;obtain⟨w2,s2,e2,HE2,HG2,HR2⟩:=qS (q2 a d 16 s1) HG1 HR1 hd rfl;rw[e2];clear e2 x1 y1 f1 HG1 HR1;have x2:=ap HG2.out hc;have y2:=ap HG2.out hd;have f2:w2.frozen? ⟨g,c,none⟩=false:=frozen_of_row w2 _ _ _ _ HG2.out;go_wp2_with fail;go_still_tail 13,(by kernel_rfl)
 try refine wpStill_nil ?_
 change wpList _ _ _ _ _ w2.drew;go_wp2_with fail;obtain⟨w3,s3,e3,HE3,HG3,HR3⟩:=qS (q1 c d s2) HG2 HR2 hc rfl;rw[e3];clear e3 x2 y2 f2 HG2 HR2;have x3:=ap HG3.out hb;have y3:=ap HG3.out hc;have f3:w3.frozen? ⟨g,b,none⟩=false:=frozen_of_row w3 _ _ _ _ HG3.out;go_wp2_with fail;go_still_tail 16,(by kernel_rfl);still_call (Kv _ _)
 repeat still_step
 try refine wpStill_nil ?_
 change wpList _ _ _ _ _ w3.drew;go_wp2_with fail;obtain⟨w4,s4,e4,HE4,HG4,HR4⟩:=qS (q2 c b 12 s3) HG3 HR3 hb rfl;rw[e4];clear e4 x3 y3 f3 HG3 HR3;have x4:=ap HG4.out ha;have y4:=ap HG4.out hb;have f4:w4.frozen? ⟨g,a,none⟩=false:=frozen_of_row w4 _ _ _ _ HG4.out;go_wp2_with fail;go_still_tail 13,(by kernel_rfl)
 try refine wpStill_nil ?_
 change wpList _ _ _ _ _ w4.drew;go_wp2_with fail;obtain⟨w5,s5,e5,HE5,HG5,HR5⟩:=qS (q1 a b s4) HG4 HR4 ha rfl;rw[e5];clear e5 x4 y4 f4 HG4 HR4;have x5:=ap HG5.out hd;have y5:=ap HG5.out ha;have f5:w5.frozen? ⟨g,d,none⟩=false:=frozen_of_row w5 _ _ _ _ HG5.out;go_wp2_with fail;go_still_tail 16,(by kernel_rfl);still_call (G6 _ _)
 repeat still_step
 try refine wpStill_nil ?_
 change wpList _ _ _ _ _ w5.drew;go_wp2_with fail;obtain⟨w6,s6,e6,HE6,HG6,HR6⟩:=qS (q2 a d 8 s5) HG5 HR5 hd rfl;rw[e6];clear e6 x5 y5 f5 HG5 HR5;have x6:=ap HG6.out hc;have y6:=ap HG6.out hd;have f6:w6.frozen? ⟨g,c,none⟩=false:=frozen_of_row w6 _ _ _ _ HG6.out;go_wp2_with fail;go_still_tail 13,(by kernel_rfl)
 try refine wpStill_nil ?_
 change wpList _ _ _ _ _ w6.drew;go_wp2_with fail;obtain⟨w7,s7,e7,HE7,HG7,HR7⟩:=qS (q1 c d s6) HG6 HR6 hc rfl;rw[e7];clear e7 x6 y6 f6 HG6 HR6;have x7:=ap HG7.out hb;have y7:=ap HG7.out hc;have f7:w7.frozen? ⟨g,b,none⟩=false:=frozen_of_row w7 _ _ _ _ HG7.out;go_wp2_with fail;go_still_tail 16,(by kernel_rfl);still_call (F8 _ _)
 repeat still_step
 try refine wpStill_nil ?_
 change wpList _ _ _ _ _ w7.drew;go_wp2_with fail;obtain⟨w8,s8,e8,HE8,HG8,HR8⟩:=qS (q2 c b 7 s7) HG7 HR7 hb rfl;rw[e8];clear e8 x7 y7 f7 HG7 HR7;go_wp2;go_end0;refine⟨rfl,?_,HR8.out⟩;unfold qr;rw[← HE1.out,← HE2.out,← HE3.out,← HE4.out,← HE5.out,← HE6.out,← HE7.out,← HE8.out];exact HG8.out
theorem cj(g a b c d:Nat)(s0:Nat→BitVec 32)(w0:World)(ha:a<16)(hb:b<16)(hc:c<16)(hd:d<16)(hg:w0.heap[g]?=some (.cells (a6 16 s0) 298 (0,0))) :
 Calls prog 235 #[.pointer (some ⟨g,0,none⟩),.int .i64 a,.int .i64 b,.int .i64 c,.int .i64 d] w0 fun e w'=>e= .returned (.tuple #[])∧w'.heap[g]?=some (.cells (a6 16 (qr a b c d s0)) 298 (0,0))∧w0.grownBy w' (some g):=by
 have a0:(0:Int)≤(a:Int):=by omega
 have a1:(a:Int)<16:=by omega
 have b0:(0:Int)≤(b:Int):=by omega
 have b1:(b:Int)<16:=by omega
 have c0:(0:Int)≤(c:Int):=by omega
 have c1:(c:Int)<16:=by omega
 have d0:(0:Int)≤(d:Int):=by omega
 have d1:(d:Int)<16:=by omega
 have hadd:=gM;have hadd':=fN;have hxor:=kV;have HG0:=Hd hg;have HR0:=Hd (cq w0 (some g));clear hg;go_enter func235,ntmps235;have x0:=ap HG0.out ha;have y0:=ap HG0.out hb;have f0:w0.frozen? ⟨g,a,none⟩=false:=frozen_of_row w0 _ _ _ _ HG0.out;go_wp2_with fail;go_still_tail 15,(by kernel_rfl)
 try refine wpStill_nil ?_
 change wpList _ _ _ _ _ w0.drew;go_wp2_with fail;obtain⟨w1,s1,e1,HE1,HG1,HR1⟩:=qS (q1 a b s0) HG0 HR0 ha rfl;rw[e1];clear e1 x0 y0 f0 HG0 HR0;have x1:=ap HG1.out hd;have y1:=ap HG1.out ha;have f1:w1.frozen? ⟨g,d,none⟩=false:=frozen_of_row w1 _ _ _ _ HG1.out;go_wp2_with fail;go_still_tail 16,(by kernel_rfl);still_call (Ku _ _)
 repeat still_step
 try refine wpStill_nil ?_
 change wpList _ _ _ _ _ w1.drew;go_wp2_with fail;obtain⟨w2,s2,e2,HE2,HG2,HR2⟩:=qS (q2 a d 16 s1) HG1 HR1 hd rfl;rw[e2];clear e2 x1 y1 f1 HG1 HR1;have x2:=ap HG2.out hc;have y2:=ap HG2.out hd;have f2:w2.frozen? ⟨g,c,none⟩=false:=frozen_of_row w2 _ _ _ _ HG2.out;go_wp2_with fail;go_still_tail 15,(by kernel_rfl)
 try refine wpStill_nil ?_
 change wpList _ _ _ _ _ w2.drew;go_wp2_with fail;obtain⟨w3,s3,e3,HE3,HG3,HR3⟩:=qS (q1 c d s2) HG2 HR2 hc rfl;rw[e3];clear e3 x2 y2 f2 HG2 HR2;have x3:=ap HG3.out hb;have y3:=ap HG3.out hc;have f3:w3.frozen? ⟨g,b,none⟩=false:=frozen_of_row w3 _ _ _ _ HG3.out;go_wp2_with fail;go_still_tail 16,(by kernel_rfl);still_call (Kw _ _)
 repeat still_step
 try refine wpStill_nil ?_
 change wpList _ _ _ _ _ w3.drew;go_wp2_with fail;obtain⟨w4,s4,e4,HE4,HG4,HR4⟩:=qS (q2 c b 12 s3) HG3 HR3 hb rfl;rw[e4];clear e4 x3 y3 f3 HG3 HR3;have x4:=ap HG4.out ha;have y4:=ap HG4.out hb;have f4:w4.frozen? ⟨g,a,none⟩=false:=frozen_of_row w4 _ _ _ _ HG4.out;go_wp2_with fail;go_still_tail 15,(by kernel_rfl)
 try refine wpStill_nil ?_
 change wpList _ _ _ _ _ w4.drew;go_wp2_with fail;obtain⟨w5,s5,e5,HE5,HG5,HR5⟩:=qS (q1 a b s4) HG4 HR4 ha rfl;rw[e5];clear e5 x4 y4 f4 HG4 HR4;have x5:=ap HG5.out hd;have y5:=ap HG5.out ha;have f5:w5.frozen? ⟨g,d,none⟩=false:=frozen_of_row w5 _ _ _ _ HG5.out;go_wp2_with fail;go_still_tail 16,(by kernel_rfl);still_call (MQ _ _)
 repeat still_step
 try refine wpStill_nil ?_
 change wpList _ _ _ _ _ w5.drew;go_wp2_with fail;obtain⟨w6,s6,e6,HE6,HG6,HR6⟩:=qS (q2 a d 8 s5) HG5 HR5 hd rfl;rw[e6];clear e6 x5 y5 f5 HG5 HR5;have x6:=ap HG6.out hc;have y6:=ap HG6.out hd;have f6:w6.frozen? ⟨g,c,none⟩=false:=frozen_of_row w6 _ _ _ _ HG6.out;go_wp2_with fail;go_still_tail 15,(by kernel_rfl)
 try refine wpStill_nil ?_
 change wpList _ _ _ _ _ w6.drew;go_wp2_with fail;obtain⟨w7,s7,e7,HE7,HG7,HR7⟩:=qS (q1 c d s6) HG6 HR6 hc rfl;rw[e7];clear e7 x6 y6 f6 HG6 HR6;have x7:=ap HG7.out hb;have y7:=ap HG7.out hc;have f7:w7.frozen? ⟨g,b,none⟩=false:=frozen_of_row w7 _ _ _ _ HG7.out;go_wp2_with fail;go_still_tail 16,(by kernel_rfl);still_call (MS _ _)
 repeat still_step
 try refine wpStill_nil ?_
 change wpList _ _ _ _ _ w7.drew;go_wp2_with fail;obtain⟨w8,s8,e8,HE8,HG8,HR8⟩:=qS (q2 c b 7 s7) HG7 HR7 hb rfl;rw[e8];clear e8 x7 y7 f7 HG7 HR7;go_wp2;go_end0;refine⟨rfl,?_,HR8.out⟩;unfold qr;rw[← HE1.out,← HE2.out,← HE3.out,← HE4.out,← HE5.out,← HE6.out,← HE7.out,← HE8.out];exact HG8.out
end
section
open Go.RowKit
theorem rr(x:BitVec 8):IntKind.u32.wrap (B8 x)=U (ef x):=by
 rw[IntKind.wrap_u32'];unfold B8 U ef;rw[BitVec.toNat_setWidth];have:=x.isLt;omega
theorem pT(x:BitVec 32):U x*(16777216:Int)%(4294967296:Int)=U (x<<<24):=mY x 24
theorem pU(x:BitVec 32):U x*(65536:Int)%(4294967296:Int)=U (x<<<16):=mY x 16
theorem vI(g o n c:Nat)(x0 x1 x2 x3:BitVec 8)(w:World)(hn:4≤n)(h0:w.cell? ⟨g,o,none⟩=some (.int .u8 (B8 x0)))(h1:w.cell? ⟨g,o+1,none⟩=some (.int .u8 (B8 x1)))(h2:w.cell? ⟨g,o+2,none⟩=some (.int .u8 (B8 x2)))(h3:w.cell? ⟨g,o+3,none⟩=some (.int .u8 (B8 x3))) :
 Calls prog 319 #[.slice (some ⟨g,o,none⟩) n c] w fun e w'=>e= .returned (.int .u32 (U (ef x0|||ef x1<<<8|||ef x2<<<16|||ef x3<<<24)))∧∃m,w'=w.drewN m:=by
 have i0:(0:Int)<(n:Int):=by omega
 have i1:(1:Int)<(n:Int):=by omega
 have i2:(2:Int)<(n:Int):=by omega
 have i3:(3:Int)<(n:Int):=by omega
 have k0:=rr;have k1:=rP;have k2:=pU;have k3:=pT;have k4:=wn;go_enter func319,ntmps319;go_wp2;go_quiet (fail);go_wp2;go_ret;exact⟨rfl,_,rfl⟩
theorem pV(g o n c:Nat)(x0 x1 x2 x3:BitVec 8)(w:World)(hn:4≤n)(h0:w.cell? ⟨g,o,none⟩=some (.int .u8 (B8 x0)))(h1:w.cell? ⟨g,o+1,none⟩=some (.int .u8 (B8 x1)))(h2:w.cell? ⟨g,o+2,none⟩=some (.int .u8 (B8 x2)))(h3:w.cell? ⟨g,o+3,none⟩=some (.int .u8 (B8 x3))) :
 Calls prog 234 #[.slice (some ⟨g,o,none⟩) n c] w fun e w'=>e= .returned (.int .u32 (U (ef x0|||ef x1<<<8|||ef x2<<<16|||ef x3<<<24)))∧∃m,w'=w.drewN m:=by
 have i0:(0:Int)<(n:Int):=by omega
 have i1:(1:Int)<(n:Int):=by omega
 have i2:(2:Int)<(n:Int):=by omega
 have i3:(3:Int)<(n:Int):=by omega
 have k0:=rr;have k1:=rP;have k2:=pU;have k3:=pT;have k4:=wn;go_enter func234,ntmps234;go_wp2;go_quiet (fail);go_wp2;go_ret;exact⟨rfl,_,rfl⟩
theorem yd:(prog.info? 298).map (fun i=>(i.zero,i.size))=some (some (.agg (row 16 fun _=> .int .u32 0)),16):=by kernel_rfl
theorem tw:(prog.info? 298).map (·.size)=some 16:=by kernel_rfl
theorem F9:prog.built 298 [(0,Value.int .u32 1634760805),(1,Value.int .u32 857760878),(2,Value.int .u32 2036477234),(3,Value.int .u32 1797285236)]=some (a6 16 fun i=>if i<4 then ik i else 0):=by kernel_rfl
theorem Ej{t e:TypeId}{n:Nat}(ht:prog.underlying t=some (.array n e))(ha:prog.arrayLen t=n)(he:prog.elem t=e)(hs:∀w,(sizeOf e).run prog w= .ok 1 w)(g l:Nat)(h:l<n)(z:Int)(hz:z=(l:Int))(w:World) :
 (Instr.sliceAt t (.pointer (some ⟨g,0,none⟩)) (some (.int .i64 z)) none none).run prog w= .ok (.slice (some ⟨g,l,none⟩) (n-l) (n-l)) w:=by
 subst hz;rw[run_sliceAt_array_l w t ⟨g,0,none⟩ (by rw[ha,he];exact ht) .i64 (l:Int) (by omega) (by rw[ha];omega),he,hs];simp only[Result.andThen_ok,slicedAt,ha,Int.toNat_natCast,Nat.mul_one];rw[if_neg (by omega),uJ rfl];simp
theorem Ek(g k:Nat)(h:k<8)(w:World):(Instr.sliceAt 24 (.pointer (some ⟨g,0,none⟩)) (some (.int .i64 (4*(k:Int)))) none none).run prog w= .ok (.slice (some ⟨g,4*k,none⟩) (32-4*k) (32-4*k)) w :=
 Ej (e:=5) (by kernel_rfl) (by kernel_rfl) (by kernel_rfl) (fun w=>by kernel_rfl) g (4*k) (by omega) _ (by omega) w
theorem vJ(g k:Nat)(h:k<3)(w:World):(Instr.sliceAt 161 (.pointer (some ⟨g,0,none⟩)) (some (.int .i64 (4*(k:Int)))) none none).run prog w= .ok (.slice (some ⟨g,4*k,none⟩) (12-4*k) (12-4*k)) w :=
 Ej (e:=5) (by kernel_rfl) (by kernel_rfl) (by kernel_rfl) (fun w=>by kernel_rfl) g (4*k) (by omega) _ (by omega) w
def jN(key:Nat→BitVec 8)(k:Nat):Nat→BitVec 32:=fun i=>if i<4 then ik i else if i<4+k then le4 key (4*(i-4))else 0
def iZ(key:Nat→BitVec 8)(c:BitVec 32)(nonce:Nat→BitVec 8)(k:Nat):Nat→BitVec 32:=fun i=>if i<4 then ik i else if i<12 then le4 key (4*(i-4))else if i=12 then c else if i<13+k then le4 nonce (4*(i-13))else 0
theorem ru(key:Nat→BitVec 8):(fun i=>if i<4 then ik i else(0:BitVec 32))=jN key 0:=by
 funext i;unfold jN;by_cases h:i<4
 ·rw[if_pos h,if_pos h]
 ·rw[if_neg h,if_neg h,if_neg (by omega)]
theorem rx(key:Nat→BitVec 8){k:Nat}(h:k<8):upd (jN key k) (4+k) (le4 key (4*k))=jN key (k+1):=by
 funext i;unfold upd jN;by_cases e:i=4+k
 ·subst e;rw[if_pos rfl,if_neg (by omega),if_pos (by omega)];congr 1;omega
 ·rw[if_neg e]
  by_cases h4:i<4
  ·rw[if_pos h4,if_pos h4]
  ·rw[if_neg h4,if_neg h4]
   by_cases h5:i<4+k
   ·rw[if_pos h5,if_pos (by omega)]
   ·rw[if_neg h5,if_neg (by omega)]
theorem ry(key:Nat→BitVec 8)(c:BitVec 32)(nonce:Nat→BitVec 8):upd (jN key 8) 12 c=iZ key c nonce 0:=by
 funext i;unfold upd jN iZ;by_cases e:i=12
 ·subst e;rfl
 ·rw[if_neg e]
  by_cases h4:i<4
  ·rw[if_pos h4,if_pos h4]
  ·rw[if_neg h4,if_neg h4]
   by_cases h5:i<12
   ·rw[if_pos (by omega),if_pos h5]
   ·rw[if_neg (by omega),if_neg h5,if_neg e,if_neg (by omega)]
theorem rz(key:Nat→BitVec 8)(c:BitVec 32)(nonce:Nat→BitVec 8)(k:Nat):upd (iZ key c nonce k) (13+k) (le4 nonce (4*k))=iZ key c nonce (k+1):=by
 funext i;unfold upd iZ;by_cases e:i=13+k
 ·subst e;rw[if_pos rfl,if_neg (by omega),if_neg (by omega),if_neg (by omega),if_pos (by omega)];congr 1;omega
 ·rw[if_neg e]
  by_cases h4:i<4
  ·rw[if_pos h4,if_pos h4]
  ·rw[if_neg h4,if_neg h4]
   by_cases h5:i<12
   ·rw[if_pos h5,if_pos h5]
   ·rw[if_neg h5,if_neg h5]
    by_cases h6:i=12
    ·rw[if_pos h6,if_pos h6]
    ·rw[if_neg h6,if_neg h6]
     by_cases h7:i<13+k
     ·rw[if_pos h7,if_pos (by omega)]
     ·rw[if_neg h7,if_neg (by omega)]
theorem rA(key:Nat→BitVec 8)(c:BitVec 32)(nonce:Nat→BitVec 8):a6 16 (iZ key c nonce 3)=a6 16 (vF key c nonce):=ak fun i hi=>by
 unfold iZ vF;by_cases h4:i<4
 ·rw[if_pos h4,if_pos h4]
 ·rw[if_neg h4,if_neg h4]
  by_cases h5:i<12
  ·rw[if_pos h5,if_pos h5]
  ·rw[if_neg h5,if_neg h5]
   by_cases h6:i=12
   ·rw[if_pos h6,if_pos h6]
   ·rw[if_neg h6,if_neg h6,if_pos (by omega)]
theorem aB{W w':World}(h:Below W.heap.size W w')(o:Obj):Below W.heap.size W (w'.alloc o):=h.alloc h.size o
theorem eY{W w' w1:World}(h:Below W.heap.size W w')(hb:Below w'.heap.size w' w1):Below W.heap.size W w1:=h.trans (hb.mono h.size)
theorem dI{B:Nat}{a w:World}(h:Below B a w)(n:Nat):Below B a (w.drewN n):=h.trans ⟨rfl,rfl,rfl,Nat.le_refl _,fun _ _=>rfl⟩
structure BegAt(w:World)(key nonce:Nat→BitVec 8)(s:Nat→BitVec 32)(wr:World):Prop where
 hk:wr.heap[w.heap.size]?=some (.cells (aa 32 key) 24 (0,0))
 hn:wr.heap[w.heap.size+1]?=some (.cells (aa 12 nonce) 161 (0,0))
 hr:wr.heap[w.heap.size+2]?=some (.cells (row 16 fun _=> .int .u32 0) 298 (0,0))
 hs:wr.heap[w.heap.size+3]?=some (.cells (a6 16 s) 298 (0,0))
 hb:Below w.heap.size w wr
theorem tx(key nonce:Nat→BitVec 8)(c:BitVec 32)(w:World) :
 Rt 306 #[.agg (aa 32 key),.int .u32 (U c),.agg (aa 12 nonce)] w (.agg (a6 16 (vF key c nonce))):=by
 have HZ:=Hd (show(prog.info? 298).map (·.size)=some (a6 16 fun i=>if i<4 then ik i else 0).size by rw[tw,aZ]);go_enter func306,ntmps306;go_wp2_with (first
  | (with_reducible refine aw rfl 298 rfl 16 _ yd ?_)
  | (refine wpList_buildTo rfl 298 _ rfl _ rfl (a6 16 fun i=>if i<4 then ik i else 0) F9 ?_)
  | ((with_reducible show wpList _ _ _ (⟨_,.store 298 _ _,_,_,_,_⟩::_) _ _);refine wpList_store_rowTo rfl 298 _ _ rfl rfl _ (a6 16 fun i=>if i<4 then ik i else 0) rfl rfl 298 _ (heap_alloc_new _ _) HZ.out (by rw[aQ,aZ]) (bP _ _) ?_))
 have HA:=Hd (show BegAt w key nonce (jN key 0) (((((w.alloc (.cells (aa 32 key) 24)).alloc (.cells (aa 12 nonce) 161)).alloc (.cells (row 16 fun _=> .int .u32 0) 298)).alloc (.cells (row 16 fun _=> .int .u32 0) 298)).setRow (w.heap.size+1+1+1) (a6 16 fun i=>if i<4 then ik i else 0))from by
  refine⟨?_,?_,?_,?_,?_⟩
  ·refine(au (by omega)).trans ?_
   refine(Below.heap_alloc _ _ _ (by simp;omega)).trans ((Below.heap_alloc _ _ _ (by simp;omega)).trans ((Below.heap_alloc _ _ _ (by simp)).trans (heap_alloc_new _ _)))
  ·refine(au (by omega)).trans ?_
   refine(Below.heap_alloc _ _ _ (by simp)).trans ((Below.heap_alloc _ _ _ (by simp)).trans ?_);have:=heap_alloc_new (w.alloc (.cells (aa 32 key) 24)) (.cells (aa 12 nonce) 161);simpa using this
  ·refine(au (by omega)).trans ?_
   refine(Below.heap_alloc _ _ _ (by simp)).trans ?_;have:=heap_alloc_new ((w.alloc (.cells (aa 32 key) 24)).alloc (.cells (aa 12 nonce) 161)) (.cells (row 16 fun _=> .int .u32 0) 298);simpa using this
  ·rw[ru key]
   refine aC (c:=row 16 fun _=> .int .u32 0) ?_;have:=heap_alloc_new (((w.alloc (.cells (aa 32 key) 24)).alloc (.cells (aa 12 nonce) 161)).alloc (.cells (row 16 fun _=> .int .u32 0) 298)) (.cells (row 16 fun _=> .int .u32 0) 298);simpa using this
  ·exact aW (aB (aB (aB (aB (Below.refl _ _) _) _) _) _) (by omega) _)
 generalize((((w.alloc (.cells (aa 32 key) 24)).alloc (.cells (aa 12 nonce) 161)).alloc (.cells (row 16 fun _=> .int .u32 0) 298)).alloc (.cells (row 16 fun _=> .int .u32 0) 298)).setRow (w.heap.size+1+1+1) (a6 16 fun i=>if i<4 then ik i else 0)=W at *
 have hadd:=gM;go_loopw [11] (fun i wr=>∃k:Nat,k≤8∧i= .int .i64 k∧BegAt w key nonce (jN key k) wr) (fun i _=>8-(intOf i).toNat);case atStart=>exact⟨0,by omega,rfl,HA.out⟩
 case round =>
  clear HA;obtain⟨k,hk,rfl,hA⟩:=hrel;have HA:=Hd hA;clear hA;by_cases hlt:k<8
  ·have hk0:(0:Int)≤(k:Int):=by omega
   have hk1:(k:Int)<8:=by omega
   have hsl:=Ek w.heap.size k hlt;have hw4:=vI w.heap.size (4*k) (32-4*k) (32-4*k) (key (4*k)) (key (4*k+1)) (key (4*k+2)) (key (4*k+3)) wr (by omega) (a4 HA.out.hk (by omega)) (a4 HA.out.hk (by omega)) (a4 HA.out.hk (by omega)) (a4 HA.out.hk (by omega));have HW4:=Hd hw4;clear hw4;go_wp2_with fail;refine HW4.out.mono ?_;rintro e w'⟨rfl,m,rfl⟩;clear hsl;have HAm:=Hd (show BegAt w key nonce (jN key k) (wr.drewN m)from⟨HA.out.hk,HA.out.hn,HA.out.hr,HA.out.hs,dI HA.out.hb m⟩);generalize wr.drewN m=wm at *
   have f1:wm.frozen? ⟨w.heap.size+1+1+1,4+k,none⟩=false:=frozen_of_row _ _ _ _ _ HAm.out.hs;have c1:=ap (i:=4+k) HAm.out.hs (by omega);have c2:wm.cell? ⟨w.heap.size+1+1+1,4+k,none⟩=some (.int .u32 (U (jN key k (4+k)))):=c1;clear c1;go_wp2_with fail;go_roundw;case rel =>
    refine⟨k+1,by omega,by go_num,?_,?_,?_,?_,?_⟩
    ·exact(heap_setCell_other _ _ _ _ (by simp;omega)).trans HAm.out.hk
    ·exact(heap_setCell_other _ _ _ _ (by simp)).trans HAm.out.hn
    ·exact(heap_setCell_other _ _ _ _ (by simp)).trans HAm.out.hr
    ·rw[← rx key hlt]
     exact bZ _ HAm.out.hs (by omega)
    ·exact HAm.out.hb.setCell (by simp;omega) _
   case measure=>simp[intOf];omega
  ·obtain rfl:k=8:=by omega
   rw[show((8:Nat):Int)=8 from rfl];have f1:wr.frozen? ⟨w.heap.size+1+1+1,12,none⟩=false:=frozen_of_row _ _ _ _ _ HA.out.hs;have c2:wr.cell? ⟨w.heap.size+1+1+1,12,none⟩=some (.int .u32 (U (jN key 8 12))):=ap (i:=12) HA.out.hs (by omega);go_wp2_with fail;have HB:=Hd (show BegAt w key nonce (iZ key c nonce 0) (wr.setCell ⟨w.heap.size+1+1+1,12,none⟩ (.int .u32 (U c)))from by
    refine⟨?_,?_,?_,?_,?_⟩
    ·exact(heap_setCell_other _ _ _ _ (by simp;omega)).trans HA.out.hk
    ·exact(heap_setCell_other _ _ _ _ (by simp)).trans HA.out.hn
    ·exact(heap_setCell_other _ _ _ _ (by simp)).trans HA.out.hr
    ·rw[← ry key c nonce]
     exact bZ _ HA.out.hs (by omega)
    ·exact HA.out.hb.setCell (by simp;omega) _)
   generalize wr.setCell ⟨w.heap.size+1+1+1,12,none⟩ (.int .u32 (U c))=wb at *
   clear f1 c2 HA;go_loopw [24] (fun i wr=>∃k:Nat,k≤3∧i= .int .i64 k∧BegAt w key nonce (iZ key c nonce k) wr) (fun i _=>3-(intOf i).toNat);case atStart=>exact⟨0,by omega,rfl,HB.out⟩
   case round =>
    clear HB;obtain⟨j,hj,rfl,hA⟩:=hrel;have HA:=Hd hA;clear hA;by_cases hlt3:j<3
    ·have hj0:(0:Int)≤(j:Int):=by omega
     have hj1:(j:Int)<3:=by omega
     have hsl:=vJ (w.heap.size+1) j hlt3;have hw4:=vI (w.heap.size+1) (4*j) (12-4*j) (12-4*j) (nonce (4*j)) (nonce (4*j+1)) (nonce (4*j+2)) (nonce (4*j+3)) wr (by omega) (a4 HA.out.hn (by omega)) (a4 HA.out.hn (by omega)) (a4 HA.out.hn (by omega)) (a4 HA.out.hn (by omega));have HW4:=Hd hw4;clear hw4;go_wp2_with fail;refine HW4.out.mono ?_;rintro e w'⟨rfl,m,rfl⟩;clear hsl;have HAm:=Hd (show BegAt w key nonce (iZ key c nonce j) (wr.drewN m)from⟨HA.out.hk,HA.out.hn,HA.out.hr,HA.out.hs,dI HA.out.hb m⟩);generalize wr.drewN m=wm at *
     have f1:wm.frozen? ⟨w.heap.size+1+1+1,13+j,none⟩=false:=frozen_of_row _ _ _ _ _ HAm.out.hs;have c1:=ap (i:=13+j) HAm.out.hs (by omega);have c2:wm.cell? ⟨w.heap.size+1+1+1,13+j,none⟩=some (.int .u32 (U (iZ key c nonce j (13+j)))):=c1;clear c1;go_wp2_with fail;go_roundw;case rel =>
      refine⟨j+1,by omega,by go_num,?_,?_,?_,?_,?_⟩
      ·exact(heap_setCell_other _ _ _ _ (by simp;omega)).trans HAm.out.hk
      ·exact(heap_setCell_other _ _ _ _ (by simp)).trans HAm.out.hn
      ·exact(heap_setCell_other _ _ _ _ (by simp)).trans HAm.out.hr
      ·rw[← rz key c nonce j]
       exact bZ _ HAm.out.hs (by omega)
      ·exact HAm.out.hb.setCell (by simp;omega) _
     case measure=>simp[intOf];omega
    ·obtain rfl:j=3:=by omega
     have HZ16:=Hd (show(prog.info? 298).map (·.size)=some (a6 16 (iZ key c nonce 3)).size by rw[tw,aZ]);go_wp2_with (first
      | ((with_reducible show wpList _ _ _ (⟨_,.load 298 _,_,_,_,_⟩::_) _ _);refine wpList_load_row rfl 298 _ rfl (w.heap.size+1+1+1) rfl 298 (a6 16 (iZ key c nonce 3)) (0,0) _ HA.out.hs underlying298 rfl HZ16.out ?_)
      | ((with_reducible show wpList _ _ _ (⟨_,.store 298 _ _,_,_,_,_⟩::_) _ _);refine wpList_store_rowTo rfl 298 _ _ rfl rfl (w.heap.size+1+1) (a6 16 (iZ key c nonce 3)) rfl rfl 298 _ HA.out.hr HZ16.out (by rw[aQ,aZ]) (bP _ _) ?_))
     refine bodyPost_ret (results_cell_row rfl _ _ (w.heap.size+1+1) 298 (a6 16 (iZ key c nonce 3)) (0,0) _ rfl (aC HA.out.hr) underlying298 rfl HZ16.out) rfl ?_;exact⟨by rw[rA],aW HA.out.hb (by omega) _⟩
end
end Go.Proofs.YtoifhhljfaoejaaGreatDoor
