/-
  Lemmas of the law, part 41: the walks of the functions that it calls and the plain facts about them. No condition beyond those written.
-/
import Derived.Test.YtoifhhljfaoejaaGreatDoorPkAA
import Derived.Test.YtoifhhljfaoejaaGreatDoorPkBN
namespace Go.Proofs.YtoifhhljfaoejaaGreatDoor
open Go Go.RowKit Go.Shelf
set_option linter.unusedVariables false
set_option linter.unusedSimpArgs false
set_option linter.unusedSectionVars false
set_option maxRecDepth 100000 in
theorem isNaN_any (n:Int) (w:World):Calls Tryz.prog 294 #[.int .i64 n] w fun e w'=>e= .returned (.bool false)∧w=w':=by
 have h:(n == n)=true:=by simp
 go_enter Tryz.func294,Tryz.ntmps294
 go_wp2_with (first | refine aU ?_ | (refine aL3S6p ?_;clear hL;intro w1 hL))
 all_goals (go_ret;exact ⟨rfl,rfl⟩)
set_option maxRecDepth 100000 in
theorem less_lt (a b:Int) (h:a<b) (w:World):Calls Tryz.prog 262 #[.int .i64 a,.int .i64 b] w fun e w'=>e= .returned (.bool true)∧w=w':=by
 go_enter Tryz.func262,Tryz.ntmps262
 go_wp2_with (first | refine aU ?_ | ((go_at_call 294;go_loud (refine (isNaN_any _ _).mono ?_);rintro e w1 ⟨rfl,rfl⟩;refine p4 ?_)) | (refine aL3S6p ?_;clear hL;intro w1 hL))
 all_goals (go_ret;exact ⟨rfl,rfl⟩)
set_option maxRecDepth 100000 in
theorem binSearch_end (p:Option Addr) (c:Nat) (l:List Int) (x:Int) (w:World) (hv:VRow w (.slice p l.length c) (encI l)) (h1:l.length≤1000000) (hx:∀ i (h:i<l.length),l[i]<x) :
 Calls Tryz.prog 229 #[.slice p l.length c,.int .i64 x] w fun e w'=>e= .returned (.tuple #[.int .i64 l.length,.bool false])∧Below w.heap.size w w':=by
 have hL:=Loc.nil w
 obtain ⟨al,cl,e,hW⟩:=vrow_ints hv
 injection e with e1 e2 e3
 subst e1
 have HW:=Lib.hid hW
 have HX:=Lib.hid hx
 clear hW e2 e3 hv hx
 go_enter Tryz.func229,Tryz.ntmps229
 go_wp2_with (first | refine aU ?_ | (refine aL3S6p ?_;clear hL;intro w1 hL))
 go_loopw [7,8] (fun i j wr=>∃ (k:Nat),k≤l.length∧i= .int .i64 k∧j= .int .i64 l.length∧Loc w wr []) (fun i _ _=>l.length - (intOf i).toNat)
 case atStart=>exact ⟨0,by omega,rfl,rfl,hL⟩
 case round =>
  clear hL
  obtain ⟨k,hk,rfl,rfl,hL⟩:=hrel
  by_cases hlt:k<l.length
  ·obtain ⟨h,hh⟩:∃ h,h=(k+l.length) / 2:=⟨_,rfl⟩
   have hhl:h<l.length:=by omega
   have hkh:k≤h:=by omega
   have hh2:((k:Int)+l.length) / 2=(h:Nat):=by omega
   obtain ⟨bl,ol,rfl,hW⟩:=HW.out k hlt
   have k0:(0:Int)≤k:=by omega
   have k1:(k:Int)<l.length:=by omega
   have k2:(0:Int)≤h:=by omega
   have k3:(h:Int)<l.length:=by omega
   have hu:IntKind.u64.wrap ((k:Int)+l.length)=(k:Int)+l.length:=by rw [IntKind.wrap_u64];omega
   have gk:=hW h hhl
   have HL:=Lib.hid (fun w1=>less_lt l[h] x (HX.out h hhl) w1)
   clear HX hW HW hh
   generalize l[h]=y at *
   go_wp2_with (first | refine aU ?_ | ((go_at_call 262;go_loud (refine (HL.out _).mono ?_);rintro e w1 ⟨rfl,rfl⟩;refine p4 ?_)) | (refine aL3S6p ?_;clear hL;intro w1 hL))
   go_roundw
   case rel=>exact ⟨h+1,by omega,by go_num,rfl,hL⟩
   case measure=>simp only [intOf];omega
  ·obtain rfl:k=l.length:=by omega
   clear HW HX
   go_wp2_with (first | refine aU ?_ | (refine aL3S6p ?_;clear hL;intro w1 hL))
   all_goals (go_ret2;exact ⟨rfl,hL.bel⟩)
instance iBin3:Ent 229:=Ent.of Tryz.func229 (by kernel_rfl) rfl
section
variable {w0 w:World} {M:Mem}
set_option maxRecDepth 100000 in
theorem insert_end {S:Mem} {p px:Option Addr} {c cx:Nat} {l:List Int} {x:Int} (hH:Hold S (.slice p l.length c) 3 (encI l)) (hx:See w0 (S ++ M) (.slice px 1 cx) (encI [x])) (h1:l.length≤1000000) (hL:Loc w0 w (S ++ M)) :
 Calls Tryz.prog 230 #[.slice p l.length c,.int .i64 l.length,.slice px 1 cx] w fun e w'=>∃ g cap cur,e= .returned (.slice (some ⟨g,0,none⟩) (l.length+1) cap)∧OwnR cur (l.length+1) cap (encI (l ++ [x]))∧Loc w0 w' ((g,cur,3) :: M):=by
 have hn0:(0:Int)≤l.length:=by omega
 have hle:l.length+1≤1000001:=by omega
 have HE:=Lib.hid (show encI (l ++ [x])=encI l ++ encI [x] from by simp [encI])
 have HLL:=Lib.hid (show (l ++ [x]).length=l.length+1 from by simp)
 rcases hH.hold with ⟨rfl,hv,hl⟩ | ⟨g,cap,cur,rfl,hv,ho⟩
 ·injection hv with e1 e2 e3
  subst e1
  subst e3
  obtain rfl:l=[]:=List.eq_nil_of_length_eq_zero e2
  clear hH hl e2
  change Calls _ _ #[.slice none 0 0,.int .i64 0,.slice px 1 cx] _ _
  simp only [List.nil_append] at *
  go_enter Tryz.func230,Tryz.ntmps230
  go_wp2_with (first | refine aU ?_ | ((with_reducible refine gC 25 ?_);go_loud (refine lAppN hL rfl rfl rfl rfl (by decide) (by decide) ?_);intro g25 cap25 cur25 w1 hr25 hL1;clear hL;have hL:=hL1;clear hL1;refine p4 ?_) | (refine aL3S6p ?_;clear hL;intro w1 hL))
  all_goals (go_ret;first | exact ⟨g25,cap25,cur25,rfl,hr25,hL⟩ | exact ⟨g25,cap25,rfl,cur25,hr25,hL⟩)
 ·injection hv with e1 e2 e3
  subst e1
  subst e3
  rw [encI_length] at ho
  clear hH e2
  simp only [List.cons_append,List.nil_append] at *
  go_enter Tryz.func230,Tryz.ntmps230
  go_wp2_with (first | refine aU ?_ | ((with_reducible refine gC 25 ?_);(refine lApp hL rfl rfl rfl rfl (by first | omega | (simp;omega) | simp) fun g25 cap25 cur25 w1 hr25 hL1=>?_);(try dsimp only at hL1);clear hL;have hL:=hL1;clear hL1;refine p4 ?_) | (refine aL3S6p ?_;clear hL;intro w1 hL))
  all_goals (go_ret;exact ⟨g25,cap25,rfl,cur25,by rw [HE.out];exact hr25,hL⟩)
end
instance iBin4:Ent 230:=Ent.of Tryz.func230 (by kernel_rfl) rfl
end Go.Proofs.YtoifhhljfaoejaaGreatDoor
namespace Go.Proofs.YtoifhhljfaoejaaGreatDoor
open Go Go.RowKit Go.Shelf
set_option linter.unusedVariables false
set_option linter.unusedSimpArgs false
set_option linter.unusedSectionVars false
abbrev zeroS:Array Value:=stR ⟨0,[],[],false,0,[],false,0,0⟩ Sq.none
theorem build_zeroS (w:World):(Instr.build 58 #[]).run Tryz.prog w= .ok (.agg zeroS) w:=by kernel_rfl
def Sta.add (s:Sta) (id:Int):Sta:=⟨s.fl,s.rv ++ [id],s.m0,s.d0,s.t0,s.m1,s.d1,s.t1,s.ac⟩
theorem pull3 {w0 w:World} {a b:Nat×Array Value×TypeId} {S1 S0 Sr B:Mem} (h:Loc w0 w (a :: b :: (S1 ++ (S0 ++ (Sr ++ B))))):Loc w0 w (Sr ++ (a :: b :: (S1 ++ (S0 ++ B)))) :=
 h.perm (by
  have:=List.perm_append_comm_assoc (a :: b :: (S1 ++ S0)) Sr B
  simpa [List.append_assoc] using this)
theorem toEnd {w0 w:World} {e:Nat×Array Value×TypeId} {S1 S0 B:Mem} (h:Loc w0 w (e :: (S1 ++ (S0 ++ B)))):Loc w0 w (S1 ++ (S0 ++ [e])):=by
 have h1:Loc w0 w (e :: (S1 ++ S0)):=h.sub (List.Sublist.cons_cons e ((List.Sublist.refl _).append (List.sublist_append_left _ _)))
 refine h1.perm ?_
 have:=(List.perm_append_comm (l₁:=[e]) (l₂:=S1 ++ S0))
 simpa [List.append_assoc] using this
set_option maxRecDepth 100000 in
set_option maxHeartbeats 2000000 in
theorem revoke_new (s:Sta) (q:Sq) (id:Int) (w:World) (hr:ReadS w s q) (hg:Good s) (hid:smallZ id) (hx:∀ i (h:i<s.rv.length),s.rv[i]<id) :
 Calls Tryz.prog 176 #[.agg (stR s q),.int .i64 id] w fun e w' =>
  (s.rv.length<32→∃ q' Sr S0 S1,e= .returned (.tuple #[.agg (stR (s.add id) q'),.int .i64 0])∧HoldQ Sr S0 S1 (s.add id) q'∧Loc w w' (S1 ++ (S0 ++ Sr))) ∧
  (¬ s.rv.length<32→e= .returned (.tuple #[.agg zeroS,.int .i64 3])∧Below w.heap.size w w'):=by
 have hL:=Loc.nil w
 have HM:=Lib.hid (fun w1 (h:ReadS w1 s q)=>may_any s q w1 h hg)
 have HRD:=Lib.hid (fun w1 (h:Below w.heap.size w w1)=>(⟨hr.r.below h,by have:=hr.a.vrow.below h;exact this.brow,by have:=hr.b.vrow.below h;exact this.brow,hr.zr,hr.za,hr.zb⟩:ReadS w1 s q))
 have hlen0:s.m0.length≤300:=by rcases hg.s0 with ⟨h,_⟩ | ⟨h,_⟩ <;> omega
 have hlen1:s.m1.length≤300:=by rcases hg.s1 with ⟨h,_⟩ | ⟨h,_⟩ <;> omega
 have hlen2:=hg.n
 have HC:=Lib.hid (fun w1 (h:ReadS w1 s q)=>copy_any s q w1 h (by omega) (by omega) (by omega))
 have HN:=Lib.hid (fun w1=>number_any id hid w1)
 have HB:=Lib.hid (fun w1 p c (h:VRow w1 (.slice p s.rv.length c) (encI s.rv))=>binSearch_end p c s.rv id w1 h (by omega) hx)
 clear hr hg hid hx
 obtain ⟨fl,rv,m0,d0,t0,m1,d1,t1,ac⟩:=s
 obtain ⟨pr,cr,p0,c0,p1,c1⟩:=q
 unfold Sta.add
 dsimp only at *
 by_cases hlt:rv.length<32
 ·have q1:¬ (32:Int)≤rv.length:=by omega
  go_enter Tryz.func176,Tryz.ntmps176
  go_wp2_with (first | refine aU ?_ | ((with_reducible refine gS 2 ?_);refine aBp ?_;clear hL;intro b2 w1 hL) | ((with_reducible refine gS 4 ?_);refine aBp ?_;clear hL;intro b4 w1 hL) | ((with_reducible refine gS 6 ?_);refine aBp ?_;clear hL;intro b6 w1 hL) | ((with_reducible refine gC 10 ?_);go_loud (refine lCall rfl rfl ((HM.out _ (HRD.out _ hL.bel)).mono ?_) rfl);rintro e w1 ⟨rfl,hb1⟩;have hL1:=hL.keep hb1;clear hL;revert hL1;refine aE ?_;intro hL) | ((go_at_call 228;go_loud (refine (HN.out _).mono ?_);rintro e w1 ⟨rfl,rfl⟩;refine p4 ?_)) | ((with_reducible refine gC 19 ?_);go_loud (refine lCall rfl rfl ((HC.out _ (HRD.out _ hL.bel)).mono ?_) rfl);rintro e w1 ⟨⟨pr',cr',p0',c0',p1',c1'⟩,Sr,S0,S1,rfl,hQ,hN⟩;refine ⟨_,rfl,?_⟩;have hHr:=hQ.r;have hHa:=hQ.a;have hHb:=hQ.b;have hL1:=hL.join hN;clear hN;(try simp only [List.cons_append,List.nil_append,List.append_assoc] at hL1);clear hL;have hL:=hL1;clear hL1;refine p4 ?_) | ((with_reducible refine gC 24 ?_);go_loud (refine lCall rfl rfl ((HB.out _ pr' cr' (See.see _ hL)).mono ?_) rfl);rintro e w1 ⟨rfl,hb1⟩;have hL1:=hL.keep hb1;clear hL;revert hL1;refine aE ?_;intro hL) | ((with_reducible refine gS 40 ?_);refine lBS1i hL rfl rfl rfl ?_;intro b40;clear hL;intro w1 hL;haveI s40:Seg #[.int .i64 id] 0 1 (encI [id]):=segInt1 _ _) | ((with_reducible refine gC 41 ?_);go_loud (refine lCall rfl rfl ((insert_end (S:=Sr) (l:=rv) (x:=id) hHr (inferInstance) (by omega) (pull3 hL)).mono ?_) rfl);rintro e w1 ⟨g41,cap41,cur41,rfl,hr41,hL1⟩;clear hL;revert hL1;refine aE ?_;intro hL) | (refine aL3S6p ?_;clear hL;intro w1 hL))
  have hL1:=Loc.rem b40 (Loc.rem b6 hL)
  refine bodyPost_ret (results_loc2 rfl hL rfl rfl) rfl ?_
  exact ⟨⟨some ⟨g41,0,none⟩,cap41,p0',c0',p1',c1'⟩,by simp only [stR,List.length_append,List.length_cons,List.length_nil,Nat.zero_add];rfl,[(g41,cur41,3)],S0,S1,⟨by have h:=Hold.own (g:=g41) (e:=3) hr41;rwa [show rv.length+1=(rv ++ [id]).length from by simp] at h,hHa,hHb,fun h=>absurd h (by simp),hQ.za,hQ.zb⟩,toEnd hL1⟩
 ·have q1:(32:Int)≤rv.length:=by omega
  go_enter Tryz.func176,Tryz.ntmps176
  go_wp2_with (first | refine aU ?_ | ((with_reducible refine gS 2 ?_);refine aBp ?_;clear hL;intro b2 w1 hL) | ((with_reducible refine gS 4 ?_);refine aBp ?_;clear hL;intro b4 w1 hL) | ((with_reducible refine gS 6 ?_);refine aBp ?_;clear hL;intro b6 w1 hL) | ((with_reducible refine gC 10 ?_);go_loud (refine lCall rfl rfl ((HM.out _ (HRD.out _ hL.bel)).mono ?_) rfl);rintro e w1 ⟨rfl,hb1⟩;have hL1:=hL.keep hb1;clear hL;revert hL1;refine aE ?_;intro hL) | ((go_at_call 228;go_loud (refine (HN.out _).mono ?_);rintro e w1 ⟨rfl,rfl⟩;refine p4 ?_)) | ((with_reducible refine gC 19 ?_);go_loud (refine lCall rfl rfl ((HC.out _ (HRD.out _ hL.bel)).mono ?_) rfl);rintro e w1 ⟨⟨pr',cr',p0',c0',p1',c1'⟩,Sr,S0,S1,rfl,hQ,hN⟩;refine ⟨_,rfl,?_⟩;have hHr:=hQ.r;have hHa:=hQ.a;have hHb:=hQ.b;have hL1:=hL.join hN;clear hN;(try simp only [List.cons_append,List.nil_append,List.append_assoc] at hL1);clear hL;have hL:=hL1;clear hL1;refine p4 ?_) | ((with_reducible refine gC 24 ?_);go_loud (refine lCall rfl rfl ((HB.out _ pr' cr' (See.see _ hL)).mono ?_) rfl);rintro e w1 ⟨rfl,hb1⟩;have hL1:=hL.keep hb1;clear hL;revert hL1;refine aE ?_;intro hL) | ((with_reducible show wpList _ _ _ (⟨some 35,.build _ _,_,_,_,_⟩ :: _) _ _);refine lU hL rfl rfl (build_zeroS _) rfl ?_;clear hL;intro w1 hL;refine p4 ?_) | (refine aL3S6p ?_;clear hL;intro w1 hL))
  exact bodyPost_ret (results_loc2 rfl hL rfl rfl) rfl ⟨rfl,hL.bel⟩
instance iRvk1:Ent 176:=Ent.of Tryz.func176 (by kernel_rfl) rfl
end Go.Proofs.YtoifhhljfaoejaaGreatDoor
namespace Go.Proofs.YtoifhhljfaoejaaGreatDoor
open Go Go.RowKit Go.Shelf
set_option linter.unusedVariables false
set_option linter.unusedSimpArgs false
set_option linter.unusedSectionVars false
abbrev ptrV (b:Nat):Value:= .pointer (some ⟨b,0,none⟩)
abbrev kpR (bo bk a0 a1:Nat):Array Value:= #[ptrV bo,ptrV bk,ptrV a0,ptrV a1]
abbrev arR (bf:Nat) (k:Int):Array Value:= #[ptrV bf,.int .i64 k]
def coR (kp:Nat) (fr fs:Nat→BitVec 8) (s:Sta) (q:Sq) (bt:Int) (rg:Nat→BitVec 8):Array Value:= #[.iface 115 (ptrV kp)] ++ rowB 32 fr ++ rowB 32 fs ++ stR s q ++ #[.int .i64 bt] ++ rowB 32 rg
section
variable (kp:Nat) (fr fs:Nat→BitVec 8) (s:Sta) (q:Sq) (bt:Int) (rg:Nat→BitVec 8)
theorem coR_size:(coR kp fr fs s q bt rg).size=107:=by simp [coR,rowB_size]
theorem coR_mid {k:Nat} (h:k<9):(coR kp fr fs s q bt rg)[65+k]?=(stR s q)[k]?:=by
 unfold coR
 rw [Array.getElem?_append_left (by simp [rowB_size];omega),Array.getElem?_append_left (by simp [rowB_size];omega),Array.getElem?_append_right (by simp [rowB_size])]
 simp [rowB_size]
instance iDvm1:Cell (coR kp fr fs s q bt rg) 0 (.iface 115 (ptrV kp)):=⟨by
 unfold coR
 rw [Array.getElem?_append_left (by simp [rowB_size]),Array.getElem?_append_left (by simp [rowB_size]),Array.getElem?_append_left (by simp [rowB_size]),Array.getElem?_append_left (by simp [rowB_size]),Array.getElem?_append_left (by simp)]
 rfl⟩
instance iDvm3:Cell (coR kp fr fs s q bt rg) 66 (.slice q.pr s.rv.length q.cr):=⟨(coR_mid kp fr fs s q bt rg (k:=1) (by decide)).trans rfl⟩
instance iDvm4:Cell (coR kp fr fs s q bt rg) 67 (.slice q.p0 s.m0.length q.c0):=⟨(coR_mid kp fr fs s q bt rg (k:=2) (by decide)).trans rfl⟩
instance iDvm7:Cell (coR kp fr fs s q bt rg) 70 (.slice q.p1 s.m1.length q.c1):=⟨(coR_mid kp fr fs s q bt rg (k:=5) (by decide)).trans rfl⟩
instance iDvm12 (k:Int):Put (coR kp fr fs s q bt rg) 74 (.int .i64 k) (coR kp fr fs s q k rg):=⟨by
 unfold coR
 rw [Array.setIfInBounds_append_left (by simp [rowB_size]),Array.setIfInBounds_append_right (by simp [rowB_size])]
 simp [rowB_size],by rw [coR_size];decide⟩
instance iDvm13:Part (coR kp fr fs s q bt rg) 176 1 24 (rowB 32 fr):=part_mid (pre:= #[.iface 115 (ptrV kp)]) (post:=rowB 32 fs ++ stR s q ++ #[.int .i64 bt] ++ rowB 32 rg) (by simp only [coR,Array.append_assoc]) rfl
instance iDvm15:Part (coR kp fr fs s q bt rg) 176 65 58 (stR s q):=part_mid (pre:= #[.iface 115 (ptrV kp)] ++ rowB 32 fr ++ rowB 32 fs) (post:= #[.int .i64 bt] ++ rowB 32 rg) (by simp only [coR,Array.append_assoc]) (by simp [rowB_size])
instance iDvm17 (s':Sta) (q':Sq):Splice (coR kp fr fs s q bt rg) 65 (stR s' q') (coR kp fr fs s' q' bt rg):=by
 have:=splice_mid (#[.iface 115 (ptrV kp)] ++ rowB 32 fr ++ rowB 32 fs) (stR s q) (stR s' q') (#[.int .i64 bt] ++ rowB 32 rg) 65 (by simp [rowB_size]) rfl
 simpa only [coR,Array.append_assoc] using this
end
instance iDvm19:ScTy 109:=⟨fun w=>by kernel_rfl,by kernel_rfl⟩
instance iDvm20:ScTy 122:=⟨fun w=>by kernel_rfl,by kernel_rfl⟩
instance iDvm21:ScTy 116:=⟨fun w=>by kernel_rfl,by kernel_rfl⟩
instance iDvm23:ScTy 172:=⟨fun w=>by kernel_rfl,by kernel_rfl⟩
class SeeS (w0:World) (M:Mem) (s:Sta) (q:Sq):Prop where
 r:See w0 M (.slice q.pr s.rv.length q.cr) (encI s.rv)
 a:See w0 M (.slice q.p0 s.m0.length q.c0) (encB s.m0)
 b:See w0 M (.slice q.p1 s.m1.length q.c1) (encB s.m1)
 zr:s.rv=[]→q.pr=none
 za:s.m0=[]→q.p0=none
 zb:s.m1=[]→q.p1=none
theorem SeeS.read {w0 w:World} {M:Mem} {s:Sta} {q:Sq} (h:SeeS w0 M s q) (hL:Loc w0 w M):ReadS w s q:=by
 have:=h.r;have:=h.a;have:=h.b
 exact read_of hL h.zr h.za h.zb
instance seeSCons (w0:World) (x:Nat×Array Value×TypeId) (M:Mem) (s:Sta) (q:Sq) [h:SeeS w0 M s q]:SeeS w0 (x :: M) s q:=⟨by have:=h.r;infer_instance,by have:=h.a;infer_instance,by have:=h.b;infer_instance,h.zr,h.za,h.zb⟩
theorem HoldQ.sees {Sr S0 S1:Mem} {s:Sta} {q:Sq} (h:HoldQ Sr S0 S1 s q) (w0:World) (M:Mem):SeeS w0 (S1 ++ (S0 ++ (Sr ++ M))) s q:=by
 have:=h.r;have:=h.a;have:=h.b
 exact ⟨inferInstance,inferInstance,inferInstance,h.zr,h.za,h.zb⟩
theorem seesNone (w0:World) (M:Mem):SeeS w0 M Sta.new Sq.none:=⟨seeNil _ _,seeNil _ _,seeNil _ _,fun _=>rfl,fun _=>rfl,fun _=>rfl⟩
class CoM (F:Array Value→Array Value→Array Value→Array Value→Array Value→Mem) (bf bb bo bk kp a0 a1 cc:Nat):Prop where
 a:∀ x y z u c,At (F x y z u c) bf x 106
 u:∀ x y z u c x',Ups (F x y z u c) bf x' (F x' y z u c)
 b:∀ x y z u c,At (F x y z u c) bb y 5
 v:∀ x y z u c y',Ups (F x y z u c) bb y' (F x y' z u c)
 o:∀ x y z u c,At (F x y z u c) bo z 108
 p:∀ x y z u c z',Ups (F x y z u c) bo z' (F x y z' u c)
 q:∀ x y z u c,At (F x y z u c) bk u 166
 r:∀ x y z u c u',Ups (F x y z u c) bk u' (F x y z u' c)
 g:∀ x y z u c,At (F x y z u c) cc c 176
 h:∀ x y z u c c',Ups (F x y z u c) cc c' (F x y z u c')
 k:∀ x y z u c,At (F x y z u c) kp (kpR bo bk a0 a1) 119
 l:∀ x y z u c,At (F x y z u c) a0 (arR bf 64) 170
 m:∀ x y z u c,At (F x y z u c) a1 (arR bf 96) 170
instance coM (F:Array Value→Array Value→Array Value→Array Value→Array Value→Mem) (bf bb bo bk kp a0 a1 cc:Nat) [h1:∀ x y z u c,At (F x y z u c) bf x 106] [h2:∀ x y z u c x',Ups (F x y z u c) bf x' (F x' y z u c)] [h3:∀ x y z u c,At (F x y z u c) bb y 5] [h4:∀ x y z u c y',Ups (F x y z u c) bb y' (F x y' z u c)] [h5:∀ x y z u c,At (F x y z u c) bo z 108] [h6:∀ x y z u c z',Ups (F x y z u c) bo z' (F x y z' u c)] [h7:∀ x y z u c,At (F x y z u c) bk u 166] [h8:∀ x y z u c u',Ups (F x y z u c) bk u' (F x y z u' c)] [h9:∀ x y z u c,At (F x y z u c) cc c 176] [ha:∀ x y z u c c',Ups (F x y z u c) cc c' (F x y z u c')] [hb:∀ x y z u c,At (F x y z u c) kp (kpR bo bk a0 a1) 119] [hc:∀ x y z u c,At (F x y z u c) a0 (arR bf 64) 170] [hd:∀ x y z u c,At (F x y z u c) a1 (arR bf 96) 170]:CoM F bf bb bo bk kp a0 a1 cc:=⟨h1,h2,h3,h4,h5,h6,h7,h8,h9,ha,hb,hc,hd⟩
structure Dv where
 er:Int
 pr:Int
 y:Array Value
 f:Nat→BitVec 8
 n:Int
 m:Int
 p:Option Addr
 kn:Nat
 kc:Nat
 half:Int
 s:Sta
 q:Sq
 bt:Int
 rg:Nat→BitVec 8
structure Dv.Ok (d:Dv):Prop where
 er:0≤d.er∧d.er≤1099511627776
 pr:0≤d.pr∧d.pr≤1099511627776
 fl:Fl d.f d.y
 n:0≤d.n
 le:d.n≤d.m
 m:d.m≤1048576
 half:d.half=0∨d.half=1
 good:Good d.s
abbrev Dv.at (d:Dv) (F:Array Value→Array Value→Array Value→Array Value→Array Value→Mem) (bf bb bo kp:Nat) (fr fs:Nat→BitVec 8):Mem :=
 F (flR bb d.er d.pr) d.y (otR bf fr fs d.n d.m) (bkR bf bo d.p d.kn d.kc d.half) (coR kp fr fs d.s d.q d.bt d.rg)
structure Dv.Next (d d':Dv):Prop where
 ok:d'.Ok
 n:d'.n=d.n+1
 m:d'.m=d.m
 f:∀ i,16384≤i→d'.f i=d.f i
 bt:d'.bt=d.bt
 rg:d'.rg=d.rg
section
variable {w0 w:World} {F:Array Value→Array Value→Array Value→Array Value→Array Value→Mem} {bf bb bo bk kp a0 a1 cc:Nat} {fr fs:Nat→BitVec 8}
set_option maxRecDepth 100000 in
theorem left_any (hF:CoM F bf bb bo bk kp a0 a1 cc) (d:Dv) (ok:d.Ok) (hL:Loc w0 w (d.at F bf bb bo kp fr fs)) :
 Calls Tryz.prog 340 #[ptrV kp] w fun e w'=>e= .returned (.int .i64 (d.m - d.n))∧Loc w0 w' (d.at F bf bb bo kp fr fs):=by
 have hA:=hF.a;have hU:=hF.u;have hB:=hF.b;have hV:=hF.v;have hO:=hF.o;have hPP:=hF.p;have hKK:=hF.k
 obtain ⟨_,_,_,h1,h2,h3,_,_⟩:=ok
 obtain ⟨er,pr,y,f,n,m,p,kn,kc,half,s,q,bt,rg⟩:=d
 dsimp only [Dv.at] at *
 have hw:IntKind.i64.wrap (m - n)=m - n:=IntWalk.i64_in _ (by omega)
 go_enter Tryz.func340,Tryz.ntmps340
 go_wp2_with (first | refine aU ?_ | (refine aL3S6p ?_;clear hL;intro w1 hL))
 refine wp_region_mix (S:=fun w'=>Loc _ w' _) 12 (by kernel_rfl) (by kernel_rfl) (hL.drew) (fun hHeld=>?_)
 replace hL:=hL.drew
 refine tg 0 hHeld ?_
 refine p7 ?_
 refine tg 5 hHeld ?_
 refine p7 ?_
 refine tg 1 hHeld ?_
 refine p7 ?_
 refine tg 6 hHeld ?_
 refine p7 ?_
 refine tg 2 hHeld ?_
 refine p7 ?_
 refine tg 7 hHeld ?_
 refine p7 ?_
 refine tz 3 hHeld ?_
 refine p7 ?_
 refine tz 8 hHeld ?_
 refine p7 ?_
 refine wpAnyH_ready (rs:=[4]) (by kernel_rfl) (by simp) ((AllReadyH.cons rfl (fun K hK=>?_) AllReadyH.nil))
 rw [if_pos (by rfl)]
 refine eCall rfl (by simp only [List.map_toArray,List.map_cons,List.map_nil];rfl) ((otpMost_any (F:=fun x y z=>F x y z (bkR bf bo p kn kc half) (coR kp fr fs s q bt rg)) (bf:=bf) (bb:=bb) hL).mono ?_)
 rintro e w1 ⟨rfl,hL1⟩;refine ⟨_,rfl,?_⟩
 (try dsimp only at hL1);(try simp only [Nat.reduceAdd,Nat.reduceSub] at hL1)
 clear hL;have hL:=hL1;clear hL1
 refine hK.out _ _ (hL) (fun hHeld2=>?_)
 clear hK K hHeld;have hHeld:=hHeld2;clear hHeld2
 refine p7 ?_
 refine wpAnyH_ready (rs:=[9]) (by kernel_rfl) (by simp) ((AllReadyH.cons rfl (fun K hK=>?_) AllReadyH.nil))
 rw [if_pos (by rfl)]
 refine eCall rfl (by simp only [List.map_toArray,List.map_cons,List.map_nil];rfl) ((otpCount_any (F:=fun x y z=>F x y z (bkR bf bo p kn kc half) (coR kp fr fs s q bt rg)) (bf:=bf) (bb:=bb) hL).mono ?_)
 rintro e w1 ⟨rfl,hL1⟩;refine ⟨_,rfl,?_⟩
 (try dsimp only at hL1);(try simp only [Nat.reduceAdd,Nat.reduceSub] at hL1)
 clear hL;have hL:=hL1;clear hL1
 refine hK.out _ _ (hL) (fun hHeld2=>?_)
 clear hK K hHeld;have hHeld:=hHeld2;clear hHeld2
 refine p7 ?_
 refine tg 10 hHeld ?_
 refine p7 ?_
 refine tg 11 hHeld ?_
 refine p7 ?_
 refine wpAnyH_done (by kernel_rfl) (NoPanic.normal ?_) _
 clear hHeld
 go_wp2_with fail
 all_goals (go_ret;exact ⟨rfl,hL⟩)
set_option maxRecDepth 100000 in
theorem keep_any (hF:CoM F bf bb bo bk kp a0 a1 cc) (d:Dv) (ok:d.Ok) (hlt:d.n<d.m) (s':Sta) (q':Sq) (hg:Good s') (hS:∀ x y z u c,SeeS w0 (F x y z u c) s' q') (hL:Loc w0 w (d.at F bf bb bo kp fr fs)) :
 Calls Tryz.prog 339 #[ptrV kp,.agg (stR s' q')] w fun e w'=>e= .returned (.int .i64 0)∧∃ d',d.Next d'∧d'.s=d.s∧d'.q=d.q∧Loc w0 w' (d'.at F bf bb bo kp fr fs):=by
 have hA:=hF.a;have hU:=hF.u;have hB:=hF.b;have hV:=hF.v;have hO:=hF.o;have hPP:=hF.p;have hQ:=hF.q;have hRR:=hF.r;have hKK:=hF.k
 obtain ⟨he,hp,hy,h1,h2,h3,hh,hgd⟩:=ok
 obtain ⟨er,pr,y,f,n,m,p,kn,kc,half,s,q,bt,rg⟩:=d
 dsimp only [Dv.at] at *
 have HPK:=Lib.hid (fun w1 (h:Loc w0 w1 (F (flR bb er pr) y (otR bf fr fs n m) (bkR bf bo p kn kc half) (coR kp fr fs s q bt rg)))=>pack_any s' q' w1 ((hS _ _ _ _ _).read h) hg)
 have hlen:=stB_length s'
 have hlen0:s'.m0.length≤300:=by rcases hg.s0 with ⟨h,_⟩ | ⟨h,_⟩ <;> omega
 have hlen1:s'.m1.length≤300:=by rcases hg.s1 with ⟨h,_⟩ | ⟨h,_⟩ <;> omega
 have hlen2:=hg.n
 have hb0:0<(stB s').length:=by omega
 have hb1:(stB s').length≤4096:=by omega
 clear hlen hlen0 hlen1 hlen2
 generalize stB s'=l at *
 obtain ⟨k,hk2,hkh⟩:∃ k:Nat,k<2∧1 - half=k:=by rcases hh with rfl | rfl;exact ⟨1,by omega,rfl⟩;exact ⟨0,by omega,rfl⟩
 have HKH:=Lib.hid hkh
 have HK:half=1 - k:=by omega
 have hks:(k:Int)=0∨(k:Int)=1:=by omega
 have HKS:=Lib.hid hks
 clear hkh HK hks hh
 go_enter Tryz.func339,Tryz.ntmps339
 go_wp2_with (first | refine aU ?_ | ((with_reducible refine gS 3 ?_);refine aBp ?_;clear hL;intro b3 w1 hL) | ((with_reducible refine gC 9 ?_);go_loud (refine lCall rfl rfl ((HPK.out _ hL.pop).mono ?_) rfl);rintro e w1 ⟨g9,cap9,cur9,rfl,hr9,hN⟩;refine ⟨_,rfl,?_⟩;have hL1:=hL.join hN;clear hN;(try simp only [List.cons_append,List.nil_append,List.append_assoc] at hL1);clear hL;have hL:=hL1;clear hL1;refine p4 ?_) | ((with_reducible refine gC 20 ?_);go_loud (refine lCall rfl rfl ((save_any (F:=fun x y z u=>(g9,cur9,5) :: (b3,stR s' q',58) :: F x y z u (coR kp fr fs s q bt rg)) (bf:=bf) (bb:=bb) (bo:=bo) (bk:=bk) (l:=l) hk2 HKH.out hb0 hb1 (fun x y z u=>inferInstance) h1 hlt h3 he hp hy hL).mono ?_) rfl);rintro e w1 ⟨rfl,g,cap,cur,er2,pr2,f2,y2,hr,he2,hp2,hf2,hy2,hL1⟩;clear hL;revert hL1;refine aE ?_;intro hL) | (refine aL3S6p ?_;clear hL;intro w1 hL))
 all_goals (go_ret;exact ⟨rfl,⟨er2,pr2,y2,f2,n+1,m,some ⟨g,0,none⟩,l.length,cap,k,s,q,bt,rg⟩,⟨⟨he2,hp2,hy2,by dsimp only;omega,by dsimp only;omega,h3,HKS.out,hgd⟩,rfl,rfl,hf2,rfl,rfl⟩,rfl,rfl,Loc.rem b3 (Loc.rem g9 (Loc.rem g hL))⟩)
end
end Go.Proofs.YtoifhhljfaoejaaGreatDoor
