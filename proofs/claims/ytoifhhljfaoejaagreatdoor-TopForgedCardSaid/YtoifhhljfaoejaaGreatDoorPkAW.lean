/-
  Lemmas of the law, part 23: the walks of the functions that it calls and the plain facts about them. No condition beyond those written.
-/
import Derived.Test.YtoifhhljfaoejaaGreatDoorPkAA
import Derived.Test.YtoifhhljfaoejaaGreatDoorPkAV
import Derived.Test.YtoifhhljfaoejaaGreatDoorPkAH
import Derived.Test.YtoifhhljfaoejaaGreatDoorPkAT
import Derived.Test.YtoifhhljfaoejaaGreatDoorPkAK
import Derived.Test.YtoifhhljfaoejaaGreatDoorPkAL
import Derived.Test.YtoifhhljfaoejaaGreatDoorPkAP
import Derived.Test.YtoifhhljfaoejaaGreatDoorPkAM
import Derived.Test.YtoifhhljfaoejaaGreatDoorPkAO
set_option maxRecDepth 100000
set_option maxHeartbeats 8000000
set_option linter.unusedVariables false
set_option linter.unusedSimpArgs false
set_option linter.unusedSectionVars false
namespace Go.Proofs.YtoifhhljfaoejaaGreatDoor
open Go.Proofs.Tryz
section
open Go.RowKit
theorem tz{w w':World}{b o:Nat}(h:w'.heap[b]?=w.heap[b]?):w'.cell? ⟨b,o,none⟩=w.cell? ⟨b,o,none⟩:=by
 unfold World.cell?;simp only[h]
theorem qb{w w':World}{b o:Nat}(h:w'.heap[b]?=w.heap[b]?):w'.frozen? ⟨b,o,none⟩=w.frozen? ⟨b,o,none⟩:=by
 unfold World.frozen?;simp only[h]
def RoomAt(lo hi:Nat)(a:Option Addr)(n cap:Nat)(o:Nat→BitVec 8)(wr:World):Prop :=
 0<n→∃g S,a=some ⟨g,0,none⟩∧lo≤g∧g<hi∧n≤cap∧wr.heap[g]?=some (.cells (row cap S) 5 (0,0))∧∀i,i<n→S i= .int .u8 (B8 (o i))
theorem OwnB.room{w:World}{base:Nat}{v:Value}{l:List (BitVec 8)}(h:OwnB w base v l):∃a cap,v= .slice a l.length cap∧((a=none→cap=0)∧cap≤maxLen)∧RoomAt base w.heap.size a l.length cap (fun i=>l.getD i 0) w:=by
 have hlt:=World.ownsRow.lt h;rcases h.2 with⟨rfl,h1⟩|⟨g,cap,cur,rfl,hb,hg,hn,hm,hs,ht⟩
 ·exact⟨none,0,by rw[h1],⟨fun _=>rfl,Nat.zero_le _⟩,fun hc=>by omega⟩
 ·refine⟨_,cap,rfl,⟨(fun hc=>by cases hc),hm⟩,fun h0=>⟨g,fun i=>cur[i]?.getD undef,rfl,hb,(hlt g rfl).2,hn,?_,fun i hi=>?_⟩⟩
  ·rw[hg]
   congr 2;apply Array.ext';apply List.ext_getElem
   ·simp[row,hs]
   ·intro i h1 h2
    have:i<cur.size:=by simpa using h1
    simp[row,this]
  ·have h2:(cur.toList.take (l.length*1))[i]?=(an l)[i]?:=by rw[ht]
   rw[List.getElem?_take_of_lt (by omega)]at h2;rw[Array.getElem?_toList]at h2;show cur[i]?.getD undef=_;rw[h2];simp[an,hi]
theorem RoomAt.keep{lo hi:Nat}{a:Option Addr}{n cap:Nat}{o:Nat→BitVec 8}{wr w':World}(h:RoomAt lo hi a n cap o wr)(hk:∀g,g<hi→w'.heap[g]?=wr.heap[g]?):RoomAt lo hi a n cap o w':=fun h0=>by
 obtain⟨g,S,h1,h2,h3,h4,h5,h6⟩:=h h0;exact⟨g,S,h1,h2,h3,h4,(hk g h3).trans h5,h6⟩
theorem RoomAt.brow{lo hi:Nat}{a:Option Addr}{n cap:Nat}{o:Nat→BitVec 8}{wr:World}(h:RoomAt lo hi a n cap o wr)(hn:a=none→cap=0):BRow wr (.slice a n cap) ((List.range n).map o):=by
 refine⟨a,cap,by simp,hn,fun h0=>?_⟩;have h0:0<n:=by simpa using h0
 obtain⟨g,S,rfl,h2,h3,h4,h5,h6⟩:=h h0;refine⟨g,0,rfl,(Array.getElem?_eq_some_iff.1 h5).1,fun i hi=>?_⟩;have hi:i<n:=by simpa using hi
 rw[Nat.zero_add,aP h5 (by omega),h6 i hi];simp
def ny(key:Nat→BitVec 8)(c:BitVec 32)(nonce:Nat→BitVec 8)(l:List (BitVec 8))(k:Nat):Nat→BitVec 8:=fun i=>if i<k then l.getD i 0^^^Ei key c nonce i else l.getD i 0
theorem rF(key:Nat→BitVec 8)(c:BitVec 32)(nonce:Nat→BitVec 8)(l:List (BitVec 8))(k:Nat)(h:k<l.length):upd (ny key c nonce l k) k (l[k]^^^sAt key c nonce (k+1) (k%64))=ny key c nonce l (k+1):=by
 rw[gg];funext i;unfold upd ny;by_cases e:i=k
 ·subst e;simp[h,Ei]
 ·rw[if_neg e]
  by_cases hi:i<k
  ·rw[if_pos hi,if_pos (by omega)]
  ·rw[if_neg hi,if_neg (by omega)]
theorem Bo(key:Nat→BitVec 8)(c:BitVec 32)(nonce:Nat→BitVec 8)(l:List (BitVec 8))(k:Nat)(h:k<l.length):ny key c nonce l k k=l[k]:=by simp[ny,h]
theorem Bp(key:Nat→BitVec 8)(c:BitVec 32)(nonce:Nat→BitVec 8)(l:List (BitVec 8)):(List.range l.length).map (ny key c nonce l l.length)=dN key c nonce l:=by
 apply List.ext_getElem
 ·simp[dM]
 ·intro i h1 h2
  have hi:i<l.length:=by simpa using h1
  simp[ny,dN,hi]
structure RtnAt(w:World)(key nonce:Nat→BitVec 8)(a:Option Addr)(n cap gs:Nat)(o s:Nat→BitVec 8)(wr:World):Prop where
 hk:wr.heap[w.heap.size]?=some (.cells (aa 32 key) 24 (0,0))
 hn:wr.heap[w.heap.size+1]?=some (.cells (aa 12 nonce) 161 (0,0))
 ho:RoomAt (w.heap.size+2) gs a n cap o wr
 hs:wr.heap[gs]?=some (.cells (aa 64 s) 75 (0,0))
 lg:w.heap.size+2≤gs
 hb:Below w.heap.size w wr
theorem RtnAt.keep{w wr w':World}{key nonce o s:Nat→BitVec 8}{a:Option Addr}{n cap gs:Nat}(h:RtnAt w key nonce a n cap gs o s wr)(hb:Below wr.heap.size wr w'):RtnAt w key nonce a n cap gs o s w':=by
 have hlt:=(Array.getElem?_eq_some_iff.1 h.hs).1;exact⟨(hb.block _ (Array.getElem?_eq_some_iff.1 h.hk).1).trans h.hk,(hb.block _ (Array.getElem?_eq_some_iff.1 h.hn).1).trans h.hn,h.ho.keep fun g hg=>hb.block g (by omega),(hb.block _ hlt).trans h.hs,h.lg,eY h.hb hb⟩
theorem RtnAt.setS{w wr:World}{key nonce o s:Nat→BitVec 8}{a:Option Addr}{n cap gs:Nat}(h:RtnAt w key nonce a n cap gs o s wr)(s':Nat→BitVec 8):RtnAt w key nonce a n cap gs o s' (wr.setRow gs (aa 64 s')):=by
 have hlg:=h.lg;exact⟨(au (by omega)).trans h.hk,(au (by omega)).trans h.hn,h.ho.keep fun g hg=>au (by omega),aC h.hs,h.lg,aW h.hb (by omega) _⟩
theorem RtnAt.setO{w wr:World}{key nonce o s:Nat→BitVec 8}{g n cap gs:Nat}(h:RtnAt w key nonce (some ⟨g,0,none⟩) n cap gs o s wr){i:Nat}(x:BitVec 8)(hi:i<n)(m:Nat):RtnAt w key nonce (some ⟨g,0,none⟩) n cap gs (upd o i x) s ((wr.setCell ⟨g,i,none⟩ (.int .u8 (B8 x))).drewN m):=by
 obtain⟨g',S,e,h2,h3,h4,h5,h6⟩:=h.ho (by omega);cases e
 refine⟨(heap_setCell_other _ _ _ _ (by simp;omega)).trans h.hk,(heap_setCell_other _ _ _ _ (by simp;omega)).trans h.hn,fun _=>⟨g,_,rfl,h2,h3,h4,bB _ h5 (by omega),fun j hj=>?_⟩,(heap_setCell_other _ _ _ _ (by simp;omega)).trans h.hs,h.lg,dI (h.hb.setCell (by simp;omega) _) m⟩;unfold upd;by_cases e:j=i
 ·rw[if_pos e,if_pos e]
 ·rw[if_neg e,if_neg e];exact h6 j hj
theorem tA(key nonce:Nat→BitVec 8)(n:Int)(v:Value)(l:List (BitVec 8))(w:World)(hv:BRow w v l)(hl:l.length≤1000000000) :
 Calls prog 136 #[.agg (aa 32 key),.int .i64 n,.agg (aa 12 nonce),v] w fun e w'=>(∃a cap hi,e= .returned (.slice a l.length cap)∧((a=none→cap=0)∧cap≤maxLen)∧RoomAt (w.heap.size+2) hi a l.length cap (ny key (BitVec.ofInt 32 n) nonce l l.length) w')∧Below w.heap.size w w':=by
 have hand:=pY n;have hcv2:n%4294967296=U (BitVec.ofInt 32 n):=by rw[iR]
 rw[hcv2]at hand;have HV:=Hd hv;obtain⟨a,c,rfl,hnil,hp⟩:=hv;have HL:=Hd hl;clear hp hl hnil hcv2;generalize BitVec.ofInt 32 n=c0 at *
 go_enter func136,ntmps136;go_wp2_with (first
  | (at_builtin;refine bv rfl (.const (.slice none 0 0)) (.tmp 13) rfl _ _ [] l rfl (World.ownsRow_nil _ _ _ _) (HV.out.below (aB (aB (Below.refl _ _) _) _)) (by have:=HL.out;simp;omega) (Nat.le_refl _) ?_;intro v1 w1 hown1 hg1;rw[List.nil_append]at hown1;have HO1:=Hd hown1;have HG1:=Hd hg1;clear hown1 hg1;obtain⟨a1,cap1,rfl,hn1,hr1⟩:=HO1.out.room;have HN1:=Hd hn1;have HR1:=Hd hr1;clear hn1 hr1)
  | (with_reducible refine aw rfl 75 rfl 64 _ fJ ?_))
 obtain⟨gs,egs⟩:∃gs,gs=w1.heap.size:=⟨_,rfl⟩;have hb1:Below w.heap.size w w1:=(aB (aB (Below.refl w.heap.size w) (.cells (aa 32 key) 24)) (.cells (aa 12 nonce) 161)).grown HG1.out (by simp;omega) (fun k hk=>by cases hk);have HA:=Hd (show RtnAt w key nonce a1 l.length cap1 gs (ny key c0 nonce l 0) (sAt key c0 nonce 0) (w1.alloc (.cells (row 64 fun _=> .int .u8 0) 75))from by
  have hg1:=HG1.out;have hz:=hg1.size;have e0:ny key c0 nonce l 0=fun i=>l.getD i 0:=by funext i;simp[ny]
  simp only[World.size_alloc]at hz;subst egs;refine⟨?_,?_,?_,heap_alloc_new _ _,by omega,aB hb1 _⟩
  ·refine(Below.heap_alloc _ _ _ (by omega)).trans ((hg1.block _ (by simp;omega) nofun).trans ((Below.heap_alloc _ _ _ (by simp)).trans (heap_alloc_new _ _)))
  ·refine(Below.heap_alloc _ _ _ (by omega)).trans ((hg1.block _ (by simp) nofun).trans ?_)
   have:=heap_alloc_new (w.alloc (.cells (aa 32 key) 24)) (.cells (aa 12 nonce) 161);simpa using this
  ·rw[e0]
   have hr:=HR1.out;simp only[World.size_alloc]at hr;exact hr.keep fun g hg=>Below.heap_alloc _ _ _ hg)
 generalize w1.alloc (.cells (row 64 fun _=> .int .u8 0) 75)=W at *
 rw[← egs];clear egs hb1 hand HG1 HO1 HR1;obtain⟨uc0,uc1⟩:=j8 c0;go_loopw [12] (fun i wr=>∃k:Nat,k≤l.length∧i= .int .i64 k∧RtnAt w key nonce a1 l.length cap1 gs (ny key c0 nonce l k) (sAt key c0 nonce k) wr) (fun i _=>l.length-(intOf i).toNat);case atStart=>exact⟨0,Nat.zero_le _,rfl,HA.out⟩
 case round =>
  clear HA;obtain⟨k,hk,rfl,hA⟩:=hrel;have HA:=Hd hA;clear hA;by_cases hlt:k<l.length
  ·obtain⟨g,S,ha,hg1,hg2,hcap,hgh,hS⟩:=HA.out.ho (by omega)
   subst ha;have hk0:(0:Int)≤(k:Int):=by omega
   have hk1:(k:Int)<(l.length:Int):=by omega
   have hk2:(k:Int)<1000000000:=by have:=HL.out;omega
   have hS1:=hS k hlt;rw[Bo key c0 nonce l k hlt]at hS1;have ci:wr.cell? ⟨g,k,none⟩=some (.int .u8 (B8 l[k])):=by rw[aP hgh (by omega),hS1]
   have fi:wr.frozen? ⟨g,k,none⟩=false:=frozen_of_row wr _ _ _ _ hgh;have HGH:=Hd hgh;clear hgh hS hS1;by_cases hm:k%64=0
   ·have hm0:(k:Int)%64=0:=by omega
    have HOS:=Hd (rF key c0 nonce l k hlt);rw[hm]at HOS;have HSN:=Hd (gg key c0 nonce k);have HBK:=Hd (fun w=>l9 key nonce (U c0+(k:Int)/64) w);rw[show U c0+(k:Int)/64=U c0+((k/64:Nat):Int) by omega,Bk,zJ,← HSN.out,show U c0+((k/64:Nat):Int)=U c0+(k:Int)/64 by omega]at HBK;have HZ32:=Hd (show(prog.info? 24).map (·.size)=some (aa 32 key).size by rw[aj];kernel_rfl);have HZ12:=Hd (show(prog.info? 161).map (·.size)=some (aa 12 nonce).size by rw[aj];kernel_rfl);have HZ64:=Hd (show(prog.info? 75).map (·.size)=some (aa 64 (sAt key c0 nonce (k+1))).size by rw[aj,j5]);clear hm;generalize sAt key c0 nonce (k+1)=s1 at *
    generalize l[k]=x at *
    have HCI:=Hd ci;have HFI:=Hd fi;clear ci fi;go_wp2_with (first
     | ((with_reducible show wpList _ _ _ (⟨_,.load 24 _,_,_,_,_⟩::_) _ _);refine wpList_load_row rfl 24 _ rfl w.heap.size rfl 24 (aa 32 key) (0,0) _ HA.out.hk underlying24 rfl HZ32.out ?_)
     | ((with_reducible show wpList _ _ _ (⟨_,.load 161 _,_,_,_,_⟩::_) _ _);refine wpList_load_row rfl 161 _ rfl (w.heap.size+1) rfl 161 (aa 12 nonce) (0,0) _ HA.out.hn underlying161 rfl HZ12.out ?_))
    refine(HBK.out _).mono ?_;rintro e w2⟨rfl,hb2⟩;have HA2:=Hd (HA.out.keep hb2);have ci2:=(hb2.cell (p:=⟨g,k,none⟩) (Array.getElem?_eq_some_iff.1 HGH.out).1).trans HCI.out;have fi2:=(hb2.frozen (p:=⟨g,k,none⟩) (Array.getElem?_eq_some_iff.1 HGH.out).1).trans HFI.out;have HCI2:=Hd ci2;have HFI2:=Hd fi2;clear hb2 ci2 fi2;have hx:=i4 x (s1 0);go_wp2_with ((with_reducible show wpList _ _ _ (⟨_,.store 75 _ _,_,_,_,_⟩::_) _ _);refine wpList_store_rowTo rfl 75 _ _ rfl rfl gs (aa 64 s1) rfl rfl 75 _ HA2.out.hs HZ64.out (by rw[aj,aj]) (bU _ _) ?_;have HA3:=Hd (HA2.out.setS s1);have cs:(w2.setRow gs (aa 64 s1)).cell? ⟨gs,0,none⟩=some (.int .u8 (B8 (s1 0))):=a4 HA3.out.hs (by decide);have co:(w2.setRow gs (aa 64 s1)).cell? ⟨g,k,none⟩=some (.int .u8 (B8 x)):=((tz (au (by omega))).trans HCI2.out);have fo:(w2.setRow gs (aa 64 s1)).frozen? ⟨g,k,none⟩=false:=((qb (au (by omega))).trans HFI2.out);generalize w2.setRow gs (aa 64 s1)=w3 at *);have t3:((k:Int)).tmod 64=0:=by rw[Int.tmod_eq_emod_of_nonneg hk0];exact hm0
    go_still_tail 12,(by kernel_rfl);clear t3;change wpList _ _ _ _ _ w3.drew;go_wp2_with fail;go_roundw;case rel=>exact⟨k+1,by omega,by go_num,by rw[← HOS.out,gg,← HSN.out];exact HA3.out.setO _ hlt 1⟩
    case measure=>simp[intOf];omega
   ·have hm0:((k:Int)%64==0)=false:=by
     rw[beq_eq_false_iff_ne];omega
    have hm1:((k:Int)%64=0)=False:=eq_false (by omega);have HOS:=Hd (rF key c0 nonce l k hlt);rw[mb key c0 nonce hm]at HOS;have HSN:=Hd (mb key c0 nonce hm);clear hm;generalize l[k]=x at *
    generalize sAt key c0 nonce k=s1 at *
    have cs:wr.cell? ⟨gs,k%64,none⟩=some (.int .u8 (B8 (s1 (k%64)))):=a4 HA.out.hs (by omega);have hx:=i4 x (s1 (k%64));go_wp2_with fail;have t3:((k:Int)).tmod 64=(k:Int)%64:=by rw[Int.tmod_eq_emod_of_nonneg hk0]
    have t4:(0:Int)≤(k:Int)%64:=by omega
    have t5:(k:Int)%64<64:=by omega
    have t6:((k:Int)%64).toNat=k%64:=by omega
    go_still_tail 12,(by kernel_rfl);clear t3 t4 t5 t6;change wpList _ _ _ _ _ wr.drew;go_wp2_with fail;go_roundw;case rel=>exact⟨k+1,by omega,by go_num,by rw[← HOS.out,HSN.out];exact HA.out.setO _ hlt 1⟩
    case measure=>simp[intOf];omega
  ·obtain rfl:k=l.length:=by omega
   go_wp2_with fail;go_ret;exact⟨⟨_,_,_,rfl,HN1.out,HA.out.ho⟩,HA.out.hb⟩
end
section
open Go Go.RowKit Go.Shelf R3
theorem Eq(n:Nat):noL (n+1)=noL n++[0]:=by
 unfold noL ae;rw[List.range_succ,List.map_append];rfl
theorem iS(n:Nat):(noL n).length=n:=ag _ _
theorem qc{w0 w:World}{M:Mem}{g cap:Nat}{cur:Array Value}{l:List (BitVec 8)}(hr:OwnR cur l.length cap (an l))(hl:l.length≤1000000)(hL:Loc w0 w ((g,cur,5)::M)) :
 Calls prog 192 #[.slice (some ⟨g,0,none⟩) l.length cap] w fun e w'=>∃g' cap' cur',e= .returned (.slice (some ⟨g',0,none⟩) (l++noL (cJ l.length)).length cap')∧OwnR cur' (l++noL (cJ l.length)).length cap' (an (l++noL (cJ l.length)))∧Loc w0 w' ((g',cur',5)::M):=by
 go_enter func192,ntmps192;go_wp2_with (first|refine aU ?_|(refine ah ?_;clear hL;intro w1 hL));go_loopw [0] (fun v wr=>∃(z g cap:Nat) (cur:Array Value),z≤cJ l.length∧v= .slice (some ⟨g,0,none⟩) (l++noL z).length cap∧OwnR cur (l++noL z).length cap (an (l++noL z))∧Loc w0 wr ((g,cur,5)::M)) (fun v _=>1000016-Shb.lenOf v);case atStart=>exact⟨0,g,cap,cur,by omega,by simp[noL,ae],by simpa[noL,ae] using hr,hL⟩
 case round =>
  clear hL hr;obtain⟨z,g,cap,cur,hz,rfl,hr,hL⟩:=hrel;have hlen:(l++noL z).length=l.length+z:=by rw[List.length_append,iS]
  have hz2:cJ l.length=(16-l.length%16)%16:=rfl;by_cases hzl:z<cJ l.length
  ·have hm:¬((l++noL z).length:Int)%16=0:=by rw[hlen];omega
   have HN:=Hd (show l++noL (z+1)=l++noL z++[0]from by rw[Eq,List.append_assoc]);have hk:(l++noL z).length≤1000016:=by omega
   have HM:=Hd (show(l++noL z).length<1000016 from by omega);clear hlen hz2;generalize l++noL z=m at *
   haveI sb:Seg #[Value.int IntKind.u8 0] 0 1 (an [0]):=gB 0;go_wp2_with (first|refine aU ?_|(refine gN 8 ?_;refine aL ?_;clear hL;intro b8 w1 hL)|(refine gN 9 ?_;refine aA ?_;clear hL;intro g9 cap9 cur9 w1 hr9 hL)|(refine ah ?_;clear hL;intro w1 hL));go_roundw;case rel=>exact⟨z+1,g9,cap9,cur9,by omega,by rw[HN.out,List.length_append];rfl,by rw[HN.out,List.length_append];exact hr9,hL.pop⟩
   case measure=>have:=HM.out;simp only[Shb.lenOf];omega
  ·obtain rfl:z=cJ l.length:=by omega
   have hm:((l++noL (cJ l.length)).length:Int)%16=0:=by rw[hlen];omega
   clear hlen hz2 hzl;obtain⟨m,hme⟩:∃m,m=l++noL (cJ l.length):=⟨_,rfl⟩;rw[← hme]at hr hm ⊢;have HME:=Hd hme;clear hme;go_wp2_with (first|refine aU ?_|(refine ah ?_;clear hL;intro w1 hL));go_ret;have:=HME.out;subst this;exact⟨g,cap,cur,rfl,hr,hL⟩
instance Q6:Ent 192:=eo func192
theorem yg(n i:Nat):ae (i+1) (ab n)=ae i (ab n)++[ab n i]:=by
 unfold ae;rw[List.range_succ,List.map_append];rfl
theorem ku(n:Nat)(hn:n≤1000000000)(w:World):Calls prog 193 #[.int .i64 n] w fun e w'=>∃g cap cur,e= .returned (.slice (some ⟨g,0,none⟩) 8 cap)∧OwnR cur 8 cap (an (dP n))∧Loc w w' [(g,cur,5)]:=by
 have hL:=Loc.nil w;have n0:(0:Int)≤n:=by omega
 have n1:(n:Int)≤1000000000:=by omega
 go_enter func193,ntmps193;go_wp2_with (first|refine aU ?_|(refine ah ?_;clear hL;intro w1 hL));go_loopw [3,4] (fun v kk wr=>∃k:Nat,k≤8∧kk= .int .i64 k∧((k=0∧v= .slice none 0 0∧Loc w wr [])∨(0<k∧∃g cap cur,v= .slice (some ⟨g,0,none⟩) (ae k (ab n)).length cap∧OwnR cur (ae k (ab n)).length cap (an (ae k (ab n)))∧Loc w wr [(g,cur,5)]))) (fun _ kk _=>8-(intOf kk).toNat);case atStart=>exact⟨0,by omega,rfl,.inl ⟨rfl,rfl,hL⟩⟩
 case round =>
  clear hL;obtain⟨k,hk,rfl,hrel⟩:=hrel;by_cases hlt:k<8
  ·have hk0:(0:Int)≤(k:Int):=by omega
   have hk1:(k:Int)<8:=by omega
   have HST:=Hd (yg n k);have ha:=and_255 ((n:Int)/2^(8*k));have e:(n:Int)/2^(8*k)%256=B8 (ab n k):=by
    unfold B8 ab;rw[BitVec.toNat_ofNat];have:(2:Int)^(8*k)=((2^(8*k):Nat):Int):=by rw[Int.natCast_pow];rfl
    rw[this];omega
   rw[e]at ha;obtain⟨b0,b1⟩:=bK (ab n k);have w8:IntKind.u8.wrap (B8 (ab n k))=B8 (ab n k):=by rw[IntKind.wrap_u8];omega
   haveI sb:Seg #[Value.int IntKind.u8 (B8 (ab n k))] 0 1 (an [ab n k]):=gB _;have e3:8*(k:Int)=((8*k:Nat):Int):=by omega
   have e4:(0:Int)≤((8*k:Nat):Int):=by omega
   have e5:((8*k:Nat):Int)<64:=by omega
   clear e;rcases hrel with⟨rfl,rfl,hL⟩|⟨hpos,g,cap,cur,rfl,hr,hL⟩
   ·simp only[Nat.mul_zero,Int.pow_zero,Int.ediv_one]at ha
    generalize ab n 0=x at *
    generalize B8 x=y at *
    go_wp2_with (first|refine aU ?_|(refine gN 17 ?_;refine aL ?_;clear hL;intro b17 w1 hL)|(refine gN 18 ?_;refine aNb ?_;clear hL;intro g18 cap18 cur18 w1 hr18 hL)|(refine ah ?_;clear hL;intro w1 hL));go_roundw;case rel=>exact⟨1,by omega,rfl,.inr ⟨by omega,g18,cap18,cur18,by rw[HST.out];rfl,by rw[HST.out];exact hr18,Loc.rem b17 hL⟩⟩
    case measure=>simp[intOf]
   ·have hlk:(ae k (ab n)).length≤8:=by rw[ag];omega
    generalize ab n k=x at *
    generalize B8 x=y,8*k=s,ae k (ab n)=m at *
    go_wp2_with (first|refine aU ?_|(refine gN 17 ?_;refine aL ?_;clear hL;intro b17 w1 hL)|(refine gN 18 ?_;refine aA ?_;clear hL;intro g18 cap18 cur18 w1 hr18 hL)|(refine ah ?_;clear hL;intro w1 hL));go_roundw;case rel=>exact⟨k+1,by omega,by go_num,.inr ⟨by omega,g18,cap18,cur18,by rw[HST.out,List.length_append];rfl,by rw[HST.out,List.length_append];exact hr18,hL.pop⟩⟩
    case measure=>simp[intOf];omega
  ·obtain rfl:k=8:=by omega
   rcases hrel with⟨hc,_⟩|⟨hpos,g,cap,cur,rfl,hr,hL⟩
   ·omega
   ·rw[show((8:Nat):Int)=8 from rfl]
    obtain⟨m,hme⟩:∃m,m=ae 8 (ab n):=⟨_,rfl⟩;rw[← hme]at hr ⊢;have HME:=Hd hme;clear hme;go_wp2_with (first|refine aU ?_|(refine ah ?_;clear hL;intro w1 hL));go_ret;have:=HME.out;subst this;have h8:(ae 8 (ab n)).length=8:=ag _ _;rw[h8]at hr;exact⟨g,cap,cur,congrArg (fun k=>Ending.returned (.slice (some ⟨g,0,none⟩) k cap)) h8,hr,hL⟩
instance Q7:Ent 193:=eo func193
theorem vQ(key nonce:Nat→BitVec 8)(n:Int)(v:Value)(l:List (BitVec 8))(w:World)(hv:BRow w v l)(h0:0<l.length)(hl:l.length≤1000000000) :
 Calls prog 136 #[.agg (aa 32 key),.int .i64 n,.agg (aa 12 nonce),v] w fun e w'=>∃g cap cur,e= .returned (.slice (some ⟨g,0,none⟩) (dN key (BitVec.ofInt 32 n) nonce l).length cap)∧OwnR cur (dN key (BitVec.ofInt 32 n) nonce l).length cap (an (dN key (BitVec.ofInt 32 n) nonce l))∧Loc w w' [(g,cur,5)] :=
 (tA key nonce n v l w hv hl).mono fun e w' h=>by
  obtain⟨⟨a,cap,hi,rfl,h1,h2⟩,hb⟩:=h;obtain⟨g,S,rfl,l1,l2,l3,l4,l5⟩:=h2 h0;have hlen:=dM key (BitVec.ofInt 32 n) nonce l;refine⟨g,cap,row cap S,by rw[hlen],⟨aq _,bY _,aQ _ _,by rw[hlen];exact l3,h1.2,?_⟩,⟨hb,fun b r t hm=>?_,List.pairwise_singleton _ _⟩⟩
  ·rw[hlen,← Bp]
   apply List.ext_getElem
   ·simp[row,an,l3]
   ·intro i i1 i2
    have hi:i<l.length:=by simpa[an] using i2
    simp only[row,List.getElem_take,List.getElem_map,List.getElem_range,an];exact l5 i hi
  ·have hm:=List.mem_singleton.1 hm
   cases hm
   exact⟨by omega,l4⟩
instance Q8:Ent 136:=eo func136
theorem Bq(n m:Nat):cJ (n+cJ n+m)=cJ m:=by unfold cJ;omega
theorem yh(key nonce:Nat→BitVec 8)(vb vs:Value)(c beside:List (BitVec 8))(w:World)(hb:BRow w vb c)(hs:BRow w vs beside)(c0:0<c.length)(s0:0<beside.length)(h1:c.length≤100000)(h2:beside.length≤100000) :
 Rt 137 #[.agg (aa 32 key),.agg (aa 12 nonce),vb,vs] w (.agg (aa 16 (kf key nonce c beside))):=by
 have hL:=Loc.nil w;haveI hA1:Arg w vb (an c):=⟨hb.vrow⟩;haveI hA2:Arg w vs (an beside):=⟨hs.vrow⟩;obtain⟨pb,cb,rfl⟩:=hb.shape;obtain⟨ps,cs,rfl⟩:=hs.shape;have hlen:=nj beside c;obtain⟨m1,hm1⟩:∃m1,m1=beside++noL (cJ beside.length):=⟨_,rfl⟩;obtain⟨m2,hm2⟩:∃m2,m2=m1++c++noL (cJ (m1++c).length):=⟨_,rfl⟩;have hmt:ye beside c=m2++dP beside.length++dP c.length:=by
  rw[hm2,hm1,List.length_append,List.length_append,iS,Bq];unfold ye;simp only[List.flatten_cons,List.flatten_nil,List.append_nil,List.append_assoc]
 have hl1:m1.length≤100016:=by rw[hm1,List.length_append,iS];unfold cJ;omega
 have hl2:m2.length≤200100:=by rw[hm2,List.length_append,List.length_append,iS];unfold cJ;omega
 have hl3:0<(m2++dP beside.length++dP c.length).length:=by simp[dP,ag]
 have HP:=Hd (fun w1 (u:Value) (hu:BRow w1 u (m2++dP beside.length++dP c.length))=>(show Rt 194 #[.agg (aa 32 (dO key (BitVec.ofInt 32 0) nonce)),u] w1 (.agg (aa 16 (kf key nonce c beside)))from by
  have:=vx (dO key (BitVec.ofInt 32 0) nonce) u _ w1 hu hl3 (by rw[← hmt];omega);rw[← hmt]at this;exact this))
 have HBL:=Hd (fun w1=>l9 key nonce 0 w1);have HF1:=Hd (fun(w1:World) (M:Mem) (g cap:Nat) (cur:Array Value) (hr:OwnR cur beside.length cap (an beside)) (hL:Loc w w1 ((g,cur,5)::M))=>(qc hr (by omega) hL));have HF2:=Hd (fun(w1:World) (M:Mem) (g cap:Nat) (cur:Array Value) (hr:OwnR cur (m1++c).length cap (an (m1++c))) (hL:Loc w w1 ((g,cur,5)::M))=>(qc hr (by rw[List.length_append];omega) hL));rw[← hm1]at HF1;rw[← hm2]at HF2;simp only[show(m1++c).length=m1.length+c.length from List.length_append]at HF2;have HE1:=Hd (fun w1=>ku beside.length (by omega) w1);have HE2:=Hd (fun w1=>ku c.length (by omega) w1);haveI sg:Seg (aa 64 (dO key (BitVec.ofInt 32 0) nonce)) 0 32 (an (ae 32 (dO key (BitVec.ofInt 32 0) nonce))):=by
  have:=segB (n:=64) (dO key (BitVec.ofInt 32 0) nonce) 0 32 (by omega);simpa using this
 haveI sp:Spl (aa 32 fun _=>0) 0 (an (ae 32 (dO key (BitVec.ofInt 32 0) nonce))) (aa 32 (dO key (BitVec.ofInt 32 0) nonce)):=mH _ _ _ (by omega) fun i hi=>by rw[if_pos ⟨by omega,by omega⟩];rfl
 generalize kf key nonce c beside=T,dO key (BitVec.ofInt 32 0) nonce=B at *
 have h32:(an (ae 32 B)).length=32:=by rw[aq,ag]
 clear hlen hb hs hmt hl3 hm1 hm2;generalize dP beside.length=x1,dP c.length=x2 at *
 go_enter func137,ntmps137;go_wp2_with (first|refine aU ?_|(refine gBp 4 ?_;clear hL;intro b4 w1 hL)|(refine gBp 5 ?_;clear hL;intro b5 w1 hL)|(refine gBp 8 ?_;clear hL;intro b8 w1 hL)|(refine gBp 9 ?_;clear hL;intro b9 w1 hL)|(refine gBp 10 ?_;clear hL;intro b10 w1 hL)|(go_at_call 191;go_loud (refine(HBL.out _).mono ?_);rintro e w1⟨rfl,hb1⟩;have hL1:=hL.keep hb1;clear hb1;clear hL;have hL:=hL1;clear hL1;refine p4 ?_)|(refine ah ?_;clear hL;intro w1 hL));refine mX (S:=fun w'=>Loc _ w' _) 3 (Loc.rem b10 (hL.drew)) ?_;intro hHeld;replace hL:=hL.drew;refine uG 0 ?_;refine uG 1 ?_;refine rd1 2 ?_;intro K hK;refine eCp ?_;clear hL;intro w1 hL;refine kO hK (Loc.rem b10 (hL)) ?_;clear hK K hHeld;intro hHeld;refine wD ?_;clear hHeld;go_wp2_with (first|refine aU ?_|(refine gN 19 ?_;(refine mG hL rfl rfl rfl rfl s0 (by first|omega|(simp;omega)|simp) fun g19 cap19 cur19 w1 hr19 hL1=>?_);clear hL;have hL:=hL1;clear hL1;refine p4 ?_)|(refine gN 20 ?_;refine lKk (HF1.out _ _ _ _ _ hr19 hL) ?_;rintro e w1⟨g20,cap20,cur20,rfl,hr20,hL1⟩;clear hL;revert hL1;refine aE ?_;intro hL)|(refine gN 23 ?_;refine aA ?_;clear hL;intro g23 cap23 cur23 w1 hr23 hL)|(refine gN 24 ?_;refine lKk (HF2.out _ _ _ _ _ hr23 hL) ?_;rintro e w1⟨g24,cap24,cur24,rfl,hr24,hL1⟩;clear hL;revert hL1;refine aE ?_;intro hL)|(refine gN 28 ?_;refine lKk (HE1.out _) ?_;rintro e w1⟨g28,cap28,cur28,rfl,hr28,hN⟩;have hL1:=hL.join hN;clear hN hL;revert hL1;refine aH ?_;intro hL)|(refine gN 29 ?_;refine aA ?_;clear hL;intro g29 cap29 cur29 w1 hr29 hL)|(refine gN 32 ?_;refine lKk (HE2.out _) ?_;rintro e w1⟨g32,cap32,cur32,rfl,hr32,hN⟩;have hL1:=hL.join hN;clear hN hL;revert hL1;refine aH ?_;intro hL)|(refine gN 33 ?_;refine aA ?_;clear hL;intro g33 cap33 cur33 w1 hr33 hL)|(go_at_call 194;go_loud (refine(HP.out _ (.slice (some ⟨g33,0,none⟩) (m2.length+8+8) cap33) (See.bytes hL)).mono ?_);rintro e w1⟨rfl,hb1⟩;have hL1:=hL.keep hb1;clear hb1;clear hL;have hL:=hL1;clear hL1;refine p4 ?_)|(refine ah ?_;clear hL;intro w1 hL));exact bodyPost_ret (ai rfl hL rfl) rfl ⟨rfl,hL.bel⟩
theorem nk(key nonce:Nat→BitVec 8)(vb vs:Value)(p beside:List (BitVec 8))(w:World)(hb:BRow w vb p)(hs:BRow w vs beside)(c0:0<p.length)(s0:0<beside.length)(h1:p.length≤100000)(h2:beside.length≤100000) :
 Calls prog 84 #[.agg (aa 32 key),.agg (aa 12 nonce),vb,vs] w fun e w'=>∃g cap cur,e= .returned (.slice (some ⟨g,0,none⟩) (p.length+16) cap)∧OwnR cur (p.length+16) cap (an (jO key nonce p beside))∧Loc w w' [(g,cur,5)]:=by
 have hL:=Loc.nil w;obtain⟨ps,cs,rfl⟩:=hs.shape;obtain⟨pb,cb,rfl⟩:=hb.shape;obtain⟨C,hC⟩:∃C,C=dN key (BitVec.ofInt 32 1) nonce p:=⟨_,rfl⟩;have hCl:C.length=p.length:=by rw[hC,dM]
 have hsl:jO key nonce p beside=C++ae 16 (kf key nonce C beside):=by rw[hC];rfl
 have HU:=Hd (fun w1 (hb1:Below w.heap.size w w1)=>vQ key nonce 1 (.slice pb p.length cb) p w1 (hb.below hb1) c0 (by omega));rw[← hC,hCl]at HU;have HT:=Hd (fun w1 (hb1:Below w.heap.size w w1) (u:Value) (hu:BRow w1 u C)=>yh key nonce u (.slice ps beside.length cs) C beside w1 hu (hs.below hb1) (by omega) s0 (by omega) h2);rw[hsl];generalize kf key nonce C beside=T at *
 have h16:(an (ae 16 T)).length=16:=by rw[aq,ag]
 have hp:p.length≤100000:=h1;clear hb hs hC hsl;generalize hn:p.length=n at *
 clear hn;go_enter func84,ntmps84;go_wp2_with (first|refine aU ?_|(refine gBp 4 ?_;clear hL;intro b4 w1 hL)|(refine gBp 5 ?_;clear hL;intro b5 w1 hL)|(refine gN 14 ?_;refine lKk (HU.out _ hL.bel) ?_;rintro e w1⟨g14,cap14,cur14,rfl,hr14,hN⟩;have hL1:=hL.join hN;clear hN hL;revert hL1;refine aH ?_;intro hL)|(refine gBp 10 ?_;clear hL;intro b10 w1 hL)|(go_at_call 137;go_loud (refine(HT.out _ hL.bel (.slice (some ⟨g14,0,none⟩) n cap14) (See.bytes hL)).mono ?_);rintro e w1⟨rfl,hb1⟩;have hL1:=hL.keep hb1;clear hb1;clear hL;have hL:=hL1;clear hL1;refine p4 ?_)|(refine gN 22 ?_;refine aA ?_;clear hL;intro g22 cap22 cur22 w1 hr22 hL)|(refine ah ?_;clear hL;intro w1 hL));go_ret;exact⟨g22,cap22,cur22,rfl,hr22,Loc.rem b4 (Loc.rem b5 hL.pop)⟩
instance Q9:Ent 84:=eo func84
end
namespace R3
open Go Go.Proofs.YtoifhhljfaoejaaGreatDoor Go.RowKit
structure E4 where
 a:El
 b:El
 c:El
 d:El
def E4.v(s:E4):L4:=⟨s.a.v,s.b.v,s.c.v,s.d.v⟩
def a24:El:=⟨fun i=>if i=0 then 121665 else 0,fun i _=>by
 by_cases h:i=0
 ·rw[if_pos h];omega
 ·rw[if_neg h];omega⟩
theorem Ky:a24.v=121665:=by
 show zF (bz _ 16)=121665;decide +kernel
def nl(x:El)(s:E4):E4 :=
 let p:=s.a.add s.b
 let m:=s.a.sub s.b
 let e:=(p.mul p).sub (m.mul m)
 let da:=(s.c.sub s.d).mul p
 let cb:=(s.c.add s.d).mul m
 ⟨(p.mul p).mul (m.mul m),e.mul ((p.mul p).add (a24.mul e)),(da.add cb).mul (da.add cb),x.mul ((da.sub cb).mul (da.sub cb))⟩
theorem zK(x:El)(s:E4):(nl x s).v=fq x.v s.v:=by
 unfold nl fq E4.v;simp only[El.mul_v,El.add_v,El.sub_v,Ky]
def E4.swap(s:E4):E4:=⟨s.c,s.d,s.a,s.b⟩
def gu(x:El)(n:Nat):Nat→E4
 | 0=>⟨El.one,El.zero,x,El.one⟩
 | k+1=>if n/2^(254-k)%2=1 then(nl x (gu x n k).swap).swap else nl x (gu x n k)
theorem Er(x:El)(n:Nat):∀k,(gu x n k).v=lad x.v n k
 | 0=>by
  show E4.v ⟨El.one,El.zero,x,El.one⟩=_;unfold E4.v lad;simp only[El.one_v,El.zero_v]
 | k+1=>by
  have ih:=Er x n k;show E4.v (if n/2^(254-k)%2=1 then(nl x (gu x n k).swap).swap else nl x (gu x n k))=if n/2^(254-k)%2=1 then _ else fq x.v (lad x.v n k);by_cases h:n/2^(254-k)%2=1
  ·rw[if_pos h,if_pos h,← ih]
   have e:=zK x (gu x n k).swap;have e1:(gu x n k).swap.v=⟨(gu x n k).v.c,(gu x n k).v.d,(gu x n k).v.a,(gu x n k).v.b⟩:=rfl;rw[e1]at e;rw[← e];rfl
  ·rw[if_neg h,if_neg h,← ih,zK]
theorem Br(w:World):Rt 132 #[.int .i64 121665] w (.agg (rowEl a24)):=by
 have hL:=Loc.nil w;haveI g1:Put (ao 16 fun _=>0) 0 (.int .i64 121665) (rowEl a24):=dS (by omega) fun i hi=>by
  rfl
 go_enter func132,ntmps132;go_wp2_with (first|(refine aQq ?_;clear hL;intro _ w1 hL));exact bodyPost_ret (ai rfl hL rfl) rfl ⟨rfl,hL.bel⟩
instance Ra:FnC 132 #[.int .i64 121665] (.agg (rowEl a24)):=⟨Br⟩
theorem Bs(w:World):(Instr.build 147 #[]).run prog w= .ok (.agg (rowEl El.zero)) w:=by kernel_rfl
theorem qD(fk fu:Nat→BitVec 8)(w:World):Rt 86 #[.agg (aa 32 fk),.agg (aa 32 fu)] w (.agg (aa 32 (ab (be fk fu)))):=by
 have hL:=Loc.nil w;haveI g1:Cell (aa 32 fu) 31 (.int .u8 (B8 (fu 31))):=aI _ (by omega);haveI g2:Put (aa 32 fu) 31 (.int .u8 (bits .and .u8 (B8 (fu 31)) 127)) (aa 32 (di fu)):=a9 (by omega) (nG fu);obtain⟨n,hn⟩:∃n,n=bD (leN fk):=⟨_,rfl⟩;obtain⟨kb,hkb⟩:∃kb,kb=ab (bD (leN fk)):=⟨_,rfl⟩;obtain⟨x,hx⟩:∃x,x=El.of (leN (di fu)):=⟨_,rfl⟩;have HB:=Hd (fun i=> @oN kb i);have hle:leN kb=n:=by rw[hkb,hn,bL (jT _)]
 rw[hle]at HB;have hout:be fk fu=((gu x n 255).a.mul (El.inv (gu x n 255).b)).v.val:=by
  rw[nQ,← hn,El.mul_v,El.inv_v];have h:=Er x n 255;rw[hx,El.of_v (fh _),← hx]at h;unfold cN;rw[← h];rfl
 rw[hout];haveI fc:FnC 127 #[.agg (aa 32 fk)] (.agg (aa 32 kb)):=by rw[hkb];infer_instance
 haveI fi:FnC 140 #[.agg (aa 32 (di fu))] (.agg (rowEl x)):=by rw[hx];infer_instance
 generalize hT:gu x n 255=T;have HT0:=Hd hT;clear hT hout hle hn hkb hx;generalize di fu=fv at *
 go_enter func86,ntmps86;go_wp2_with (first|(refine gBp 2 ?_;clear hL;intro b2 w1 hL)|(refine gBp 3 ?_;clear hL;intro b3 w1 hL)|(refine gBp 4 ?_;clear hL;intro b4 w1 hL)|(refine gBp 5 ?_;clear hL;intro b5 w1 hL)|(refine gBp 6 ?_;clear hL;intro b6 w1 hL)|(refine gBp 7 ?_;clear hL;intro b7 w1 hL)|(refine gBp 8 ?_;clear hL;intro b8 w1 hL)|(refine gBp 9 ?_;clear hL;intro b9 w1 hL)|((with_reducible show wpList _ _ _ (⟨_,.build _ _,_,_,_,_⟩::_) _ _);refine lU hL rfl rfl Bs rfl fun w1 hL1=>?_;clear hL;have hL:=hL1;clear hL1)|(refine aQq ?_;clear hL;intro _ w1 hL));go_loopw [10] (fun kk wr=>∃j:Nat,j≤255∧kk= .int .i64 (254-(j:Int))∧Loc w wr [(b9,rowEl (gu x n j).d,147),(b8,rowEl (gu x n j).c,147),(b7,rowEl (gu x n j).b,147),(b6,rowEl (gu x n j).a,147),(b5,rowEl x,147),(b4,aa 32 fun _=>0,24),(b3,aa 32 fv,24),(b2,aa 32 kb,24)]) (fun kk _=>(intOf kk+1).toNat);case atStart=>exact⟨0,by omega,rfl,hL⟩
 case round =>
  clear hL;obtain⟨j,hj,rfl,hL⟩:=hrel;by_cases hlt:j<255
  ·have HT:=Hd (show gu x n (j+1)=if n/2^(254-j)%2=1 then(nl x (gu x n j).swap).swap else nl x (gu x n j)from rfl)
   have hv:=HB.out (254-j) (by omega);obtain⟨k,hk⟩:∃k,k=254-j:=⟨_,rfl⟩;rw[← hk]at hv HT;have ek:254-(j:Int)=(k:Int):=by omega
   rw[ek];have hk1:k<255:=by omega
   haveI g1:Cell (aa 32 kb) (k/8) (.int .u8 (B8 (kb (k/8)))):=aI _ (by omega);obtain⟨b0,b1⟩:=bK (kb (k/8));have k0:(0:Int)≤(k:Int):=by omega
   have HK:=Hd hk;have e1:(k:Int)/8=((k/8:Nat):Int):=by omega
   have e2:(k:Int)%8=((k%8:Nat):Int):=by omega
   have e3:(k:Int).tdiv 8=((k/8:Nat):Int):=by rw[Int.tdiv_eq_ediv_of_nonneg (by omega)];omega
   have e4:(k:Int).tmod 8=((k%8:Nat):Int):=by rw[Int.tmod_eq_emod_of_nonneg (by omega)];omega
   have q0:(0:Int)≤((k/8:Nat):Int):=by omega
   have q1:((k/8:Nat):Int)<32:=by omega
   have r0:(0:Int)≤((k%8:Nat):Int):=by omega
   have r1:((k%8:Nat):Int)<8:=by omega
   generalize gu x n j=S at hL HT;obtain⟨Sa,Sb,Sc,Sd⟩:=S;dsimp only at hL;clear hk HT0;by_cases hbit:n/2^k%2=1
   ·rw[hbit]at hv
    rw[if_pos hbit]at HT;generalize k/8=q,k%8=r at *
    generalize B8 (kb q)=u at *
    clear hbit HB;go_wp2_with (first|(refine gBp 12 ?_;clear hL;intro b12 w1 hL)|(refine gBp 13 ?_;clear hL;intro b13 w1 hL)|(refine gBp 14 ?_;clear hL;intro b14 w1 hL)|(refine gBp 15 ?_;clear hL;intro b15 w1 hL)|(refine gBp 16 ?_;clear hL;intro b16 w1 hL)|(refine aQp ?_;clear hL;intro _ w1 hL));refine ar [(0,false),(1,false),(2,false),(3,false),(4,false)] [(5,_,147)] [6] (by kernel_rfl) (by kernel_rfl) ⟨⟨_,rfl,rfl,rfl⟩,inferInstance,trivial⟩ hL ?_;refine pF ?_;refine fA ?_;refine az fun b=>?_;refine fB ?_;clear hL;intro w1 hL;go_wp2_with fail;refine ar [(0,false),(1,false),(2,false),(3,false),(4,false)] [(5,_,147)] [6] (by kernel_rfl) (by kernel_rfl) ⟨⟨_,rfl,rfl,rfl⟩,inferInstance,trivial⟩ hL ?_;refine pF ?_;refine fA ?_;refine az fun b=>?_;refine fB ?_;clear hL;intro w1 hL;go_wp2_with (first|(refine gBp 19 ?_;clear hL;intro b19 w1 hL)|(refine gBp 20 ?_;clear hL;intro b20 w1 hL)|(refine aQp ?_;clear hL;intro _ w1 hL));refine wf [(0,false),(1,false),(2,false),(3,false),(4,false)] [] [5] hL ?_;refine fA ?_;refine fB ?_;clear hL;intro w1 hL;go_wp2_with (first|(refine aQp ?_;clear hL;intro _ w1 hL));refine wf [(0,false),(1,false),(2,false),(3,false),(4,false),(5,false),(6,false)] [] [7] hL ?_;refine fA ?_;refine fB ?_;clear hL;intro w1 hL;go_wp2_with (first|(refine aQp ?_;clear hL;intro _ w1 hL));go_roundw;case rel=>exact⟨j+1,by omega,by rw[show(k:Int)-1=254-((j+1:Nat):Int)from by have:=HK.out;omega],by rw[HT.out];exact hL.pop.pop.pop.pop.pop.pop.pop.pop.pop⟩
    case measure=>simp[intOf]
   ·rw[show n/2^k%2=0 from by omega]at hv
    rw[if_neg hbit]at HT;generalize k/8=q,k%8=r at *
    generalize B8 (kb q)=u at *
    clear hbit HB;go_wp2_with (first|(refine gBp 12 ?_;clear hL;intro b12 w1 hL)|(refine gBp 13 ?_;clear hL;intro b13 w1 hL)|(refine gBp 14 ?_;clear hL;intro b14 w1 hL)|(refine gBp 15 ?_;clear hL;intro b15 w1 hL)|(refine gBp 16 ?_;clear hL;intro b16 w1 hL)|(refine aQp ?_;clear hL;intro _ w1 hL));refine ar [(0,false),(1,false),(2,false),(3,false),(4,false)] [(5,_,147)] [6] (by kernel_rfl) (by kernel_rfl) ⟨⟨_,rfl,rfl,rfl⟩,inferInstance,trivial⟩ hL ?_;refine pF ?_;refine fA ?_;refine az fun b=>?_;refine fB ?_;clear hL;intro w1 hL;go_wp2_with fail;refine ar [(0,false),(1,false),(2,false),(3,false),(4,false)] [(5,_,147)] [6] (by kernel_rfl) (by kernel_rfl) ⟨⟨_,rfl,rfl,rfl⟩,inferInstance,trivial⟩ hL ?_;refine pF ?_;refine fA ?_;refine az fun b=>?_;refine fB ?_;clear hL;intro w1 hL;go_wp2_with (first|(refine gBp 19 ?_;clear hL;intro b19 w1 hL)|(refine gBp 20 ?_;clear hL;intro b20 w1 hL)|(refine aQp ?_;clear hL;intro _ w1 hL));refine wf [(0,false),(1,false),(2,false),(3,false),(4,false)] [] [5] hL ?_;refine fA ?_;refine fB ?_;clear hL;intro w1 hL;go_wp2_with (first|(refine aQp ?_;clear hL;intro _ w1 hL));refine wf [(0,false),(1,false),(2,false),(3,false),(4,false),(5,false),(6,false)] [] [7] hL ?_;refine fA ?_;refine fB ?_;clear hL;intro w1 hL;go_wp2_with (first|(refine aQp ?_;clear hL;intro _ w1 hL));go_roundw;case rel=>exact⟨j+1,by omega,by rw[show(k:Int)-1=254-((j+1:Nat):Int)from by have:=HK.out;omega],by rw[HT.out];exact hL.pop.pop.pop.pop.pop.pop.pop.pop.pop⟩
    case measure=>simp[intOf]
  ·obtain rfl:j=255:=by omega
   rw[HT0.out]at hL;clear HT0 HB;rw[show(254:Int)-((255:Nat):Int)= -1 from by omega];go_wp2_with (first|(refine aQp ?_;clear hL;intro _ w1 hL));refine wf [(0,false),(1,false),(2,false),(3,false),(4,false)] [] [5] hL ?_;refine fA ?_;refine fB ?_;clear hL;intro w1 hL;go_wp2_with (first|(refine aQp ?_;clear hL;intro _ w1 hL));exact bodyPost_ret (ai rfl hL rfl) rfl ⟨rfl,hL.bel⟩
instance Rb:Ent 86:=eo func86
instance Rc(fk fu:Nat→BitVec 8):FnC 86 #[.agg (aa 32 fk),.agg (aa 32 fu)] (.agg (aa 32 (ab (be fk fu)))):=⟨qD fk fu⟩
instance Rd:Put (aa 32 fun _=>0) 0 (.int .u8 9) (aa 32 bG):=⟨by kernel_rfl,by rw[aj];omega⟩
theorem mT(f:Nat→BitVec 8)(w:World):Rt 36 #[.agg (aa 32 f)] w (.agg (aa 32 (ab (be f bG)))):=by
 have hL:=Loc.nil w;go_enter func36,ntmps36;go_wp2_with (first|(refine gBp 1 ?_;clear hL;intro b1 w1 hL)|(refine gBp 2 ?_;clear hL;intro b2 w1 hL)|(refine gBp 3 ?_;clear hL;intro b3 w1 hL)|(refine aQq ?_;clear hL;intro _ w1 hL));exact bodyPost_ret (ai rfl hL rfl) rfl ⟨rfl,hL.bel⟩
instance Re:Ent 36:=eo func36
instance Rf(f:Nat→BitVec 8):FnC 36 #[.agg (aa 32 f)] (.agg (aa 32 (ab (be f bG)))):=⟨mT f⟩
theorem qE(fk fu:Nat→BitVec 8)(w:World):Rt 83 #[.agg (aa 32 fk),.agg (aa 32 fu)] w (.tuple #[.agg (aa 32 (ab (be fk fu))),.int .i64 (if be fk fu=0 then 21 else 0)]):=by
 have hL:=Loc.nil w;haveI eq1:=iH (be fk fu) 0 (zB fk fu) (by decide);haveI fm:FnC 86 #[.agg (aa 32 fk),.agg (aa 32 fu)] (.agg (aa 32 (ab (be fk fu)))):=inferInstance;generalize be fk fu=z at *
 by_cases hz:z=0
 ·subst hz
  rw[decide_eq_true rfl]at eq1;rw[if_pos rfl];go_enter func83,ntmps83;go_wp2_with (first|(refine gBp 2 ?_;clear hL;intro b2 w1 hL)|(refine gBp 3 ?_;clear hL;intro b3 w1 hL)|(refine gBp 4 ?_;clear hL;intro b4 w1 hL)|(refine gBp 6 ?_;clear hL;intro b6 w1 hL)|((with_reducible show wpList _ _ _ (⟨_,.build _ _,_,_,_,_⟩::_) _ _);refine lU hL rfl rfl iQ rfl fun w1 hL1=>?_;clear hL;have hL:=hL1;clear hL1)|((with_reducible show wpList _ _ _ (⟨some 12,.binOp _ _ _ _ _,_,_,_,_⟩::_) _ _);refine lQ hL rfl rfl rfl rfl fun w1 hL1=>?_;clear hL;have hL:=hL1;clear hL1)|(refine aQq ?_;clear hL;intro _ w1 hL));exact bodyPost_ret (ay rfl hL rfl rfl) rfl ⟨rfl,hL.bel⟩
 ·rw[decide_eq_false hz]at eq1
  rw[if_neg hz];go_enter func83,ntmps83;go_wp2_with (first|(refine gBp 2 ?_;clear hL;intro b2 w1 hL)|(refine gBp 3 ?_;clear hL;intro b3 w1 hL)|(refine gBp 4 ?_;clear hL;intro b4 w1 hL)|(refine gBp 6 ?_;clear hL;intro b6 w1 hL)|((with_reducible show wpList _ _ _ (⟨_,.build _ _,_,_,_,_⟩::_) _ _);refine lU hL rfl rfl iQ rfl fun w1 hL1=>?_;clear hL;have hL:=hL1;clear hL1)|((with_reducible show wpList _ _ _ (⟨some 12,.binOp _ _ _ _ _,_,_,_,_⟩::_) _ _);refine lQ hL rfl rfl rfl rfl fun w1 hL1=>?_;clear hL;have hL:=hL1;clear hL1)|(refine aQq ?_;clear hL;intro _ w1 hL));exact bodyPost_ret (ay rfl hL rfl rfl) rfl ⟨rfl,hL.bel⟩
instance Rg:Ent 83:=eo func83
end R3
section
open Go Go.RowKit Go.Shelf
theorem qe(v vb:Value)(key m:List (BitVec 8))(w:World)(hv:BRow w v key)(hvb:BRow w vb m)(hk:0<key.length∧key.length≤64)(hm:m.length≤999999000)(hka:KAt w) :
 Rt 195 #[v,vb] w (.agg (aa 32 (gt key m))):=by
 have hL:=Loc.nil w;obtain⟨A,c,rfl⟩:=hv.shape;obtain⟨B,d,rfl⟩:=hvb.shape;haveI hA:Arg w (.slice A key.length c) (an key):=⟨hv.vrow⟩;haveI hB:Arg w (.slice B m.length d) (an m):=⟨hvb.vrow⟩;haveI:=sZ key 54 hk.2;haveI:=sZ key 92 hk.2;have hel:(an key).length=key.length:=aq key;have hq:¬(64:Int)<key.length:=by omega
 have HS:=Hd (fun w1 (hb1:Below w.heap.size w w1) u (h:BRow w1 u (ae 64 (pkF key 54)++m))=>dm u (ae 64 (pkF key 54)++m) w1 h (by simp[ag];omega) (hka.below hb1));have HT:=Hd (fun w1 (hb1:Below w.heap.size w w1) u (h:BRow w1 u (ae 64 (pkF key 92)++ae 32 (sha (ae 64 (pkF key 54)++m))))=>(show Rt 29 #[u] w1 (.agg (aa 32 (gt key m)))from dm u _ w1 h (by simp[pe,ag]) (hka.below hb1)));obtain⟨h0,h1⟩:=hk;generalize sha (ae 64 (pkF key 54)++m)=S,gt key m=T at *
 clear hv hvb hka;generalize m.length=n at *
 go_enter func195,ntmps195;go_wp2_with (first|refine aU ?_|(refine gBp 4 ?_;clear hL;intro b4 w1 hL)|(refine gN 16 ?_;refine mL (n:=64) hL rfl rfl rfl rfl (by decide) fun g16 w1 hL1=>?_;clear hL;have hL:=hL1;clear hL1;refine p4 ?_)|(refine gN 17 ?_;refine mL (n:=64) hL rfl rfl rfl rfl (by decide) fun g17 w1 hL1=>?_;clear hL;have hL:=hL1;clear hL1;refine p4 ?_)|(refine gN 20 ?_;refine yP (cur':=aa 64 (ia key 54 0)) hL rfl rfl rfl rfl (by omega) (by omega) fun w1 hL1=>?_;clear hL;have hL:=hL1;clear hL1;refine p4 ?_)|(refine gN 23 ?_;refine yP (cur':=aa 64 (ia key 92 0)) hL rfl rfl rfl rfl (by omega) (by omega) fun w1 hL1=>?_;clear hL;have hL:=hL1;clear hL1;refine p4 ?_)|(refine ah ?_;clear hL;intro w1 hL));go_loopw [8] (fun kk wr=>∃k:Nat,k≤64∧kk= .int .i64 k∧Loc w wr [(g17,aa 64 (ia key 92 k),5),(g16,aa 64 (ia key 54 k),5),(b4,aa 32 fun _=>0,24)]) (fun kk _=>64-(intOf kk).toNat);case atStart=>exact⟨0,by omega,rfl,hL⟩
 case round =>
  clear hL;obtain⟨k,hk,rfl,hL⟩:=hrel;by_cases hlt:k<64
  ·have k0:(0:Int)≤k:=by omega
   have k1:(k:Int)<64:=by omega
   obtain⟨r1,hr1⟩:∃r1,r1=aa 64 (ia key 54 (k+1)):=⟨_,rfl⟩;obtain⟨r2,hr2⟩:∃r2,r2=aa 64 (ia key 92 (k+1)):=⟨_,rfl⟩;have q1:=ta key 54 hlt;rw[← hr1]at q1;haveI:=q1;haveI:=pf key 54 hlt;have q2:=ta key 92 hlt;rw[← hr2]at q2;haveI:=q2;haveI:=pf key 92 hlt;have HR1:=Hd hr1;have HR2:=Hd hr2;clear hr1 hr2;have hx:bits .xor .u8 (B8 (key.getD k 0)) 54=B8 (key.getD k 0^^^54):=i4 (key.getD k 0) 54;have hy:bits .xor .u8 (B8 (key.getD k 0)) 92=B8 (key.getD k 0^^^92):=i4 (key.getD k 0) 92;generalize key.getD k 0=y at *
   go_wp2_with (first|refine aU ?_|(refine ah ?_;clear hL;intro w1 hL));go_roundw;case rel=>exact⟨k+1,by omega,by go_num,by rw[← HR1.out,← HR2.out];exact hL⟩
   case measure=>simp only[intOf];omega
  ·obtain rfl:k=64:=by omega
   rw[pg,pg]at hL;generalize pkF key 54=f54,pkF key 92=f92 at *
   haveI:=Dq f54;haveI:=Dq f92;go_wp2_with (first|refine aU ?_|(refine gBp 9 ?_;clear hL;intro b9 w1 hL)|(refine gN 46 ?_;refine aA ?_;clear hL;intro g46 cap46 cur46 w1 hr46 hL)|(refine gN 47 ?_;refine lV (HS.out _ hL.bel (.slice (some ⟨g46,0,none⟩) (64+n) cap46) (See.bytes hL)) hL ?_;clear hL;intro w1 hL)|(refine gN 50 ?_;refine aA ?_;clear hL;intro g50 cap50 cur50 w1 hr50 hL)|(refine gN 51 ?_;refine lV (HT.out _ hL.bel (.slice (some ⟨g50,0,none⟩) (64+32) cap50) (See.bytes hL)) hL ?_;clear hL;intro w1 hL)|(refine ah ?_;clear hL;intro w1 hL));exact bodyPost_ret (ai rfl hL rfl) rfl ⟨rfl,hL.bel⟩
end
section
open Go Go.RowKit Go.Shelf R3
theorem qf(v vb:Value)(salt key:List (BitVec 8))(w:World)(hv:BRow w v salt)(hvb:BRow w vb key)(hs:0<salt.length∧salt.length≤64)(hk:key.length≤999999000)(hka:KAt w) :
 Rt 139 #[v,vb] w (.agg (aa 32 (gt salt key))):=by
 have hL:=Loc.nil w;have HM:=Hd (fun w1 (hb1:Below w.heap.size w w1)=>qe v vb salt key w1 (hv.below hb1) (hvb.below hb1) hs hk (hka.below hb1));obtain⟨pb,cb,rfl⟩:=hv.shape;obtain⟨ps,cs,rfl⟩:=hvb.shape;clear hv hvb hs hk hka;generalize gt salt key=T at *
 go_enter func139,ntmps139;go_wp2_with (first|refine aU ?_|(refine gBp 4 ?_;clear hL;intro b4 w1 hL)|(go_at_call 195;go_loud (refine(HM.out _ hL.bel).mono ?_);rintro e w1⟨rfl,hb1⟩;have hL1:=hL.keep hb1;clear hb1;clear hL;have hL:=hL1;clear hL1;refine p4 ?_)|(refine ah ?_;clear hL;intro w1 hL));exact bodyPost_ret (ai rfl hL rfl) rfl ⟨rfl,hL.bel⟩
instance Rh:Ent 139:=eo func139
instance Ri:Ent 195:=eo func195
theorem nA(f:Nat→BitVec 8)(v:Value)(info:List (BitVec 8))(w:World)(hv:BRow w v info)(h0:0<info.length)(hi:info.length≤1000000)(hka:KAt w) :
 Calls prog 138 #[.agg (aa 32 f),v,.int .i64 32] w fun e w'=>∃g cap cur,e= .returned (.slice (some ⟨g,0,none⟩) 32 cap)∧OwnR cur 32 cap (an (ae 32 (lr f info)))∧Loc w w' [(g,cur,5)]:=by
 have hL:=Loc.nil w;haveI hA1:Arg w v (an info):=⟨hv.vrow⟩;have HM:=Hd (fun w1 (hb1:Below w.heap.size w w1) (u ub:Value) (hu:BRow w1 u (ae 32 f)) (hub:BRow w1 ub (info++[1]))=>qe u ub (ae 32 f) (info++[1]) w1 hu hub (by rw[ag];omega) (by simp;omega) (hka.below hb1));obtain⟨pb,cb,rfl⟩:=hv.shape;have HKF:=Hd (show gt (ae 32 f) (info++[1])=lr f info from rfl);rw[HKF.out]at HM;generalize lr f info=T at *
 have h32:(an (ae 32 T)).length=32:=by rw[aq,ag]
 have hT32:(ae 32 T).length=32:=ag _ _;clear hv hka HKF;haveI s1:Seg #[Value.int IntKind.u8 (IntKind.u8.wrap 1)] 0 1 (an [1]):=by rw[show IntKind.u8.wrap 1=1 from by decide];exact gB 1
 have ha:bits .and .i64 1 255=1:=by decide
 haveI sg:Seg (aa 32 f) 0 32 (an (ae 32 f)):=fT 32 f;haveI sT:Seg (aa 32 T) 0 32 (an (ae 32 T)):=fT 32 T;go_enter func138,ntmps138;go_wp2_with (first|refine aU ?_|(refine gBp 3 ?_;clear hL;intro b3 w1 hL)|(refine ah ?_;clear hL;intro w1 hL));go_loopw [7,8,9] (fun o t i wr=>(o= .slice none 0 0∧t= .slice none 0 0∧i= .int .i64 1∧Loc w wr [(b3,aa 32 f,24)])∨(∃g cap cur,o= .slice (some ⟨g,0,none⟩) 32 cap∧i= .int .i64 2∧OwnR cur 32 cap (an (ae 32 T))∧Loc w wr [(g,cur,5)])) (fun _ _ i _=>2-(intOf i).toNat);case atStart=>exact .inl ⟨rfl,rfl,rfl,hL⟩
 case round =>
  clear hL;rcases hrel with⟨rfl,rfl,rfl,hL⟩|⟨g,cap,cur,rfl,rfl,hr,hL⟩
  ·skip
   go_wp2_with (first|refine aU ?_|(refine gN 21 ?_;(refine mG hL rfl rfl rfl rfl h0 (by first|omega|(simp;omega)|simp) fun g21 cap21 cur21 w1 hr21 hL1=>?_);clear hL;have hL:=hL1;clear hL1;refine p4 ?_)|(refine ah ?_;clear hL;intro w1 hL));refine jx (R:=?R) (fun hR=>?h1) ?h2;case h1 =>
    refine mX (S:=(fun _=>True)) 10 (trivial) ?_;intro hHeld;replace hL:=hL.drew;refine uG 0 ?_;refine uG 1 ?_;refine uG 2 ?_;refine uG 3 ?_;refine uG 4 ?_;refine rd2 5 8 ?_ ?_
    ·intro K hK
     refine eBS ?_;clear hL;intro b27 w1 hL;refine kO hK (trivial) ?_;clear hK K hHeld;intro hHeld;refine rd2 6 8 ?_ ?_
     ·intro K hK
      refine oV hL rfl rfl rfl (by clear hR;omega) ?_;clear hL;intro g28 cap28 cur28 w1 hr28 hL
      (try dsimp only at hL)
      refine kO hK (trivial) ?_;clear hK K hHeld;intro hHeld;refine rd2 7 8 ?_ ?_
      ·intro K hK
       refine eVv (HM.out _ hL.bel (.slice (some ⟨b3,0,none⟩) 32 32) (.slice (some ⟨g28,0,none⟩) (info.length+1) cap28) (See.bytes hL) (See.bytes hL)) hL ?_;clear hL;intro w1 hL;refine kO hK (trivial) ?_;clear hK K hHeld;intro hHeld;refine rd1 8 ?_;intro K hK;refine eA hL rfl ?_;clear hL;intro b11 w1 hL;refine kO hK (trivial) ?_;clear hK K hHeld;intro hHeld;refine rd1 9 ?_;intro K hK;refine eJ ?_;clear hL;intro w1 hL;refine kO hK (trivial) ?_;clear hK K hHeld;intro hHeld;refine wD ?_;clear hHeld;have hLp:=hL;clear hL;revert hLp;revert w1;revert b11;revert hr28;revert cur28;revert cap28;revert g28;revert b27;exact pm hR
      ·intro K hK
       refine eA hL rfl ?_;clear hL;intro b11 w1 hL;refine kO hK (trivial) ?_;clear hK K hHeld;intro hHeld;refine rd1 7 ?_;intro K hK;refine eVv (HM.out _ hL.bel (.slice (some ⟨b3,0,none⟩) 32 32) (.slice (some ⟨g28,0,none⟩) (info.length+1) cap28) (See.bytes hL) (See.bytes hL)) hL ?_;clear hL;intro w1 hL;refine kO hK (trivial) ?_;clear hK K hHeld;intro hHeld;refine rd1 9 ?_;intro K hK;refine eJ ?_;clear hL;intro w1 hL;refine kO hK (trivial) ?_;clear hK K hHeld;intro hHeld;refine wD ?_;clear hHeld;have hLp:=hL;clear hL;revert hLp;revert w1;revert b11;revert hr28;revert cur28;revert cap28;revert g28;revert b27;exact pm hR
     ·intro K hK
      refine eA hL rfl ?_;clear hL;intro b11 w1 hL;refine kO hK (trivial) ?_;clear hK K hHeld;intro hHeld;refine rd1 6 ?_;intro K hK;refine oV hL rfl rfl rfl (by clear hR;omega) ?_;clear hL;intro g28 cap28 cur28 w1 hr28 hL
      (try dsimp only at hL)
      refine kO hK (trivial) ?_;clear hK K hHeld;intro hHeld;refine rd1 7 ?_;intro K hK;refine eVv (HM.out _ hL.bel (.slice (some ⟨b3,0,none⟩) 32 32) (.slice (some ⟨g28,0,none⟩) (info.length+1) cap28) (See.bytes hL) (See.bytes hL)) hL ?_;clear hL;intro w1 hL;refine kO hK (trivial) ?_;clear hK K hHeld;intro hHeld;refine rd1 9 ?_;intro K hK;refine eJ ?_;clear hL;intro w1 hL;refine kO hK (trivial) ?_;clear hK K hHeld;intro hHeld;refine wD ?_;clear hHeld;have hLp:=hL;clear hL;revert hLp;revert w1;revert b11;revert hr28;revert cur28;revert cap28;revert g28;revert b27;exact pm hR
    ·intro K hK
     refine eA hL rfl ?_;clear hL;intro b11 w1 hL;refine kO hK (trivial) ?_;clear hK K hHeld;intro hHeld;refine rd1 5 ?_;intro K hK;refine eBS ?_;clear hL;intro b27 w1 hL;refine kO hK (trivial) ?_;clear hK K hHeld;intro hHeld;refine rd1 6 ?_;intro K hK;refine oV hL rfl rfl rfl (by clear hR;omega) ?_;clear hL;intro g28 cap28 cur28 w1 hr28 hL
     (try dsimp only at hL)
     refine kO hK (trivial) ?_;clear hK K hHeld;intro hHeld;refine rd1 7 ?_;intro K hK;refine eVv (HM.out _ hL.bel (.slice (some ⟨b3,0,none⟩) 32 32) (.slice (some ⟨g28,0,none⟩) (info.length+1) cap28) (See.bytes hL) (See.bytes hL)) hL ?_;clear hL;intro w1 hL;refine kO hK (trivial) ?_;clear hK K hHeld;intro hHeld;refine rd1 9 ?_;intro K hK;refine eJ ?_;clear hL;intro w1 hL;refine kO hK (trivial) ?_;clear hK K hHeld;intro hHeld;refine wD ?_;clear hHeld;have hLp:=hL;clear hL;revert hLp;revert w1;revert b11;revert hr28;revert cur28;revert cap28;revert g28;revert b27;exact pm hR
   intro b27 g28 cap28 cur28 hr28 b11 w1 hL1;clear hL;have hL:=hL1;clear hL1;go_wp2_with (first|refine aU ?_|(refine gN 31 ?_;refine aNb ?_;clear hL;intro g31 cap31 cur31 w1 hr31 hL)|(refine gN 34 ?_;refine aNb ?_;clear hL;intro g34 cap34 cur34 w1 hr34 hL)|(refine ah ?_;clear hL;intro w1 hL));exact⟨.inr ⟨g34,cap34,cur34,rfl,rfl,hr34,hL.sub ((List.nil_sublist _).cons_cons _)⟩,by simp[intOf]⟩
  ·have hle:32≤cap:=hr.le
   have hle2:(32:Int)≤cap:=by omega
   go_wp2_with (first|refine aU ?_|(refine gN 38 ?_;refine aNb ?_;clear hL;intro g38 cap38 cur38 w1 hr38 hL)|(refine ah ?_;clear hL;intro w1 hL));go_ret;exact⟨g38,cap38,cur38,rfl,hr38,hL.sub ((List.nil_sublist _).cons_cons _)⟩
instance Rj:Ent 138:=eo func138
theorem kv{w:World}{b:Nat}{C:Array Value}(hg:w.heap[b]?=some (.cells C 5 (0,0)))(n c:Nat) :
 ∃w',(convert 29 29 (.slice (some ⟨b,0,none⟩) n c)).run prog w= .ok (.slice (some ⟨b,0,none⟩) n c) w'∧w'.heap[b]?=some (.cells C 5 (C.size,C.size+1))∧(∀k,k≠b→w'.heap[k]?=w.heap[k]?)∧w'.heap.size=w.heap.size∧w'.os=w.os∧w'.tape=w.tape∧w'.output=w.output:=by
 have hsh:w.shape? b=some (5,C.size):=by
  unfold World.shape?;rw[hg]
 refine⟨w.freeze ⟨b,C.size,none⟩ 1,?_,?_,?_,?_,?_,?_,?_⟩
 ·simp[convert,run_underlying underlying29,run_underlying underlying5,markStringish,hsh]
 all_goals
  unfold World.freeze;rw[if_neg (by decide)]
 ·rw[Array.getElem?_modify,if_pos rfl,hg]
  rfl
 ·intro k hk
  simp[Array.getElem?_modify,Ne.symm hk]
 ·simp
section
variable {ops:Array Oper} {rest:List Oper} {o:Oper} {a:Act} {w0 w:World} {M M':Mem} {Q:Exit→Act→World→Prop} {K:Act→World→Prop}
theorem yi(x1 x2 x3 x4:BitVec 8){b:Nat}(hL:Loc w0 w ((b,(an [x1,x2,x3,x4]).toArray,5)::M)){u:Operand}(ho:o.op= .convert 29 29 u)(hu:a.eval u= .slice (some ⟨b,0,none⟩) 4 4)(h:∀w',BRow w' (.slice (some ⟨b,0,none⟩) 4 4) [x1,x2,x3,x4]→Loc w0 w' M→K (a.put o.dst (.slice (some ⟨b,0,none⟩) 4 4)) w'):o.wp prog a w K Q:=by
 obtain⟨w',hrun,h1,h2,h3,h4,h5,h6⟩:=kv (hL.get (.head _)) 4 4;have hge:=hL.ge (.head _);unfold Oper.wp execOp;simp only[ho,hu,Sem.run_bind,hrun,Result.andThen_ok,Sem.run_pure];refine h w' (nK (c:=4) [x1,x2,x3,x4] h1) ⟨⟨?_,?_,?_,?_,?_⟩,fun c r t hm=>?_,hL.pop.nd⟩
 ·rw[h4,hL.bel.os]
 ·rw[h5,hL.bel.tape]
 ·rw[h6,hL.bel.output]
 ·rw[h3];exact hL.bel.size
 ·intro k hk
  rw[h2 k (by omega),hL.bel.block k hk]
 ·have hne:c≠b:=fun e=>by
   have:=hL.nd;simp only[List.map_cons,List.pairwise_cons]at this;exact this.1 c (List.mem_map.2 ⟨_,hm,rfl⟩) e.symm
  exact⟨hL.ge (.tail _ hm),(h2 c hne).trans (hL.get (.tail _ hm))⟩
theorem zM(hL:Loc w0 w M){t e:TypeId}{x y z' q:Operand}(ho:o.op= .buildSlice t 4 #[(0,x),(1,y),(2,z'),(3,q)])[he:Elt t e]{d1 d2 d3 d4:IntKind}{n1 n2 n3 n4:Int}(hx:a.eval x= .int d1 n1)(hy:a.eval y= .int d2 n2)(hz':a.eval z'= .int d3 n3)(hq:a.eval q= .int d4 n4)(h:∀b w',Loc w0 w' ((b, #[.int d1 n1,.int d2 n2,.int d3 n3,.int d4 n4],e)::M)→K (a.put o.dst (.slice (some ⟨b,0,none⟩) 4 4)) w'):o.wp prog a w K Q:=by
 obtain⟨i,z,hi,hz,hs1,hb,hzs⟩:=he.info;refine wp_buildSlice t e 4 #[(0,x),(1,y),(2,z'),(3,q)] ho #[.int d1 n1,.int d2 n2,.int d3 n3,.int d4 n4] i z he.und hi hz (by rw[hs1];decide) (by rw[hs1];decide) ?_ (h _ _ (hL.alloc #[.int d1 n1,.int d2 n2,.int d3 n3,.int d4 n4] e));rw[hs1];have e:(Array.map (fun(y:Nat×Operand)=>(y.1,a.eval y.2)) #[(0,x),(1,y),(2,z'),(3,q)]).toList=[(0,.int d1 n1),(1,.int d2 n2),(2,.int d3 n3),(3,.int d4 n4)]:=by simp[hx,hy,hz',hq]
 rw[e];have e1:Array.range 4= #[0,1,2,3]:=rfl;simp[Instr.fill,Value.cells,e1]
end
def wkF(e z:Nat→BitVec 8):Nat→BitVec 8:=lr (gt (ae 32 e) (ae 32 z)) [119,114,97,112]
theorem nB(e z:Nat→BitVec 8)(w:World)(hka:KAt w) :
 Rt 85 #[.agg (aa 32 e),.agg (aa 32 z)] w (.agg (aa 32 (wkF e z))):=by
 have hL:=Loc.nil w;have HE:=Hd (fun w1 (hb1:Below w.heap.size w w1) (u ub:Value) (hu:BRow w1 u (ae 32 e)) (hub:BRow w1 ub (ae 32 z))=>qf u ub (ae 32 e) (ae 32 z) w1 hu hub (by rw[ag];omega) (by rw[ag];omega) (hka.below hb1));have HX:=Hd (fun w1 (hb1:Below w.heap.size w w1) (u:Value) (hu:BRow w1 u [119,114,97,112])=>nA (gt (ae 32 e) (ae 32 z)) u [119,114,97,112] w1 hu (by decide) (by decide) (hka.below hb1));have HW:=Hd (show lr (gt (ae 32 e) (ae 32 z)) [119,114,97,112]=wkF e z from rfl);rw[HW.out]at HX;generalize wkF e z=T,gt (ae 32 e) (ae 32 z)=Y at *
 haveI s1:Seg (aa 32 e) 0 32 (an (ae 32 e)):=fT 32 e;haveI s2:Seg (aa 32 z) 0 32 (an (ae 32 z)):=fT 32 z;have h32:(an (ae 32 T)).length=32:=by rw[aq,ag]
 haveI sp:Spl (aa 32 fun _=>0) 0 (an (ae 32 T)) (aa 32 T):=mH _ _ _ (by omega) fun i hi=>by rw[if_pos ⟨by omega,by omega⟩];rfl
 clear hka HW;go_enter func85,ntmps85;go_wp2_with (first|refine aU ?_|(refine gBp 2 ?_;clear hL;intro b2 w1 hL)|(refine gBp 3 ?_;clear hL;intro b3 w1 hL)|(refine gBp 4 ?_;clear hL;intro b4 w1 hL)|(refine gBp 5 ?_;clear hL;intro b5 w1 hL)|(refine ah ?_;clear hL;intro w1 hL));refine jx (R:=?R_2) (fun hR=>?h1_2) ?h2_2;case h1_2 =>
  refine mX (S:=(fun _=>True)) 8 (trivial) ?_;intro hHeld;replace hL:=hL.drew;refine uG 0 ?_;refine uG 1 ?_;refine uG 2 ?_;refine rd2 3 4 ?_ ?_
  ·intro K hK
   refine eK (HE.out _ hL.bel (.slice (some ⟨b2,0,none⟩) 32 32) (.slice (some ⟨b3,0,none⟩) 32 32) (See.bytes hL) (See.bytes hL)) ?_;rintro e w1⟨rfl,hN⟩;refine⟨_,rfl,?_⟩;have hL1:=hL.keep hN
   try replace hb11:=BRow.below hb11 hN
   clear hN;clear hL;revert hL1;refine aN ?_;intro hL;refine kO hK (trivial) ?_;clear hK K hHeld;intro hHeld;refine rd1 4 ?_;intro K hK
   first|refine zM hL rfl rfl rfl rfl rfl fun b10 w1 hL1=>?_
   clear hL;have hL:=hL1;clear hL1;refine kO hK (trivial) ?_;clear hK K hHeld;intro hHeld;refine rd1 5 ?_;intro K hK;refine yi 119 114 97 112 hL rfl rfl fun w1 hb11 hL1=>?_;clear hL;have hL:=hL1;clear hL1;refine kO hK (trivial) ?_;clear hK K hHeld;intro hHeld;refine rd1 6 ?_;intro K hK;refine eK (HX.out _ hL.bel _ hb11) ?_;rintro e w1⟨g12,cap12,cur12,rfl,hr12,hN⟩;refine⟨_,rfl,?_⟩;clear hb11;have hL1:=hL.join hN;clear hN hL;revert hL1;refine aJ ?_;intro hL;refine kO hK (trivial) ?_;clear hK K hHeld;intro hHeld;refine rd1 7 ?_;intro K hK;refine zk hL rfl rfl rfl (by clear hR;omega) (by clear hR;omega) ?_;clear hL;intro w1 hL;refine kO hK (trivial) ?_;clear hK K hHeld;intro hHeld;refine wD ?_;clear hHeld;have hLp:=hL;clear hL;revert hLp;revert w1;revert hr12;revert cur12;revert cap12;revert g12;revert b10;exact pm hR
  ·intro K hK
   first|refine zM hL rfl rfl rfl rfl rfl fun b10 w1 hL1=>?_
   clear hL;have hL:=hL1;clear hL1;refine kO hK (trivial) ?_;clear hK K hHeld;intro hHeld;refine rd2 3 5 ?_ ?_
   ·intro K hK
    refine eK (HE.out _ hL.bel (.slice (some ⟨b2,0,none⟩) 32 32) (.slice (some ⟨b3,0,none⟩) 32 32) (See.bytes hL) (See.bytes hL)) ?_;rintro e w1⟨rfl,hN⟩;refine⟨_,rfl,?_⟩;have hL1:=hL.keep hN
    try replace hb11:=BRow.below hb11 hN
    clear hN;clear hL;revert hL1;refine aN ?_;intro hL;refine kO hK (trivial) ?_;clear hK K hHeld;intro hHeld;refine rd1 5 ?_;intro K hK;refine yi 119 114 97 112 hL rfl rfl fun w1 hb11 hL1=>?_;clear hL;have hL:=hL1;clear hL1;refine kO hK (trivial) ?_;clear hK K hHeld;intro hHeld;refine rd1 6 ?_;intro K hK;refine eK (HX.out _ hL.bel _ hb11) ?_;rintro e w1⟨g12,cap12,cur12,rfl,hr12,hN⟩;refine⟨_,rfl,?_⟩;clear hb11;have hL1:=hL.join hN;clear hN hL;revert hL1;refine aJ ?_;intro hL;refine kO hK (trivial) ?_;clear hK K hHeld;intro hHeld;refine rd1 7 ?_;intro K hK;refine zk hL rfl rfl rfl (by clear hR;omega) (by clear hR;omega) ?_;clear hL;intro w1 hL;refine kO hK (trivial) ?_;clear hK K hHeld;intro hHeld;refine wD ?_;clear hHeld;have hLp:=hL;clear hL;revert hLp;revert w1;revert hr12;revert cur12;revert cap12;revert g12;revert b10;exact pm hR
   ·intro K hK
    refine yi 119 114 97 112 hL rfl rfl fun w1 hb11 hL1=>?_;clear hL;have hL:=hL1;clear hL1;refine kO hK (trivial) ?_;clear hK K hHeld;intro hHeld;refine rd1 3 ?_;intro K hK;refine eK (HE.out _ hL.bel (.slice (some ⟨b2,0,none⟩) 32 32) (.slice (some ⟨b3,0,none⟩) 32 32) (See.bytes hL) (See.bytes hL)) ?_;rintro e w1⟨rfl,hN⟩;refine⟨_,rfl,?_⟩;have hL1:=hL.keep hN
    try replace hb11:=BRow.below hb11 hN
    clear hN;clear hL;revert hL1;refine aN ?_;intro hL;refine kO hK (trivial) ?_;clear hK K hHeld;intro hHeld;refine rd1 6 ?_;intro K hK;refine eK (HX.out _ hL.bel _ hb11) ?_;rintro e w1⟨g12,cap12,cur12,rfl,hr12,hN⟩;refine⟨_,rfl,?_⟩;clear hb11;have hL1:=hL.join hN;clear hN hL;revert hL1;refine aJ ?_;intro hL;refine kO hK (trivial) ?_;clear hK K hHeld;intro hHeld;refine rd1 7 ?_;intro K hK;refine zk hL rfl rfl rfl (by clear hR;omega) (by clear hR;omega) ?_;clear hL;intro w1 hL;refine kO hK (trivial) ?_;clear hK K hHeld;intro hHeld;refine wD ?_;clear hHeld;have hLp:=hL;clear hL;revert hLp;revert w1;revert hr12;revert cur12;revert cap12;revert g12;revert b10;exact pm hR
 intro b10 g12 cap12 cur12 hr12 w1 hL1;clear hL;have hL:=hL1;clear hL1;go_wp2_with (first|refine aU ?_|(refine ah ?_;clear hL;intro w1 hL));exact bodyPost_ret (ai rfl hL rfl) rfl ⟨rfl,hL.bel⟩
instance Rk:Ent 85:=eo func85
theorem mf(w:World):(Instr.build 161 #[]).run prog w= .ok (.agg (aa 12 fun _=>0)) w:=by kernel_rfl
noncomputable def gh(to draw x:Nat→BitVec 8):List (BitVec 8):=ae 32 (ab (be draw bG))++jO (wkF (ab (be draw bG)) (ab (be draw to))) (fun _=>0) (ae 32 x) (ae 32 to)
theorem mg(key nonce:Nat→BitVec 8)(p beside:List (BitVec 8)):(jO key nonce p beside).length=p.length+16:=by
 unfold jO;rw[List.length_append,dM,ag]
theorem iT(to draw x:Nat→BitVec 8):(gh to draw x).length=80:=by
 unfold gh;rw[List.length_append,mg,ag,ag]
theorem vR(to draw x:Nat→BitVec 8)(hz:be draw to≠0)(w:World)(hka:KAt w) :
 Calls prog 35 #[.agg (aa 32 to),.agg (aa 32 draw),.agg (aa 32 x)] w fun r w'=>∃g cap cur,r= .returned (.tuple #[.slice (some ⟨g,0,none⟩) 80 cap,.int .i64 0])∧OwnR cur 80 cap (an (gh to draw x))∧Loc w w' [(g,cur,5)]:=by
 have hL:=Loc.nil w;haveI f1:FnC 36 #[.agg (aa 32 draw)] (.agg (aa 32 (ab (be draw bG)))):=inferInstance;have h2:=fun w1=>qE draw to w1;rw[if_neg hz]at h2;haveI f2:FnC 83 #[.agg (aa 32 draw),.agg (aa 32 to)] (.tuple #[.agg (aa 32 (ab (be draw to))),.int .i64 0]):=⟨h2⟩;have HW:=Hd (fun w1 (hb1:Below w.heap.size w w1)=>nB (ab (be draw bG)) (ab (be draw to)) w1 (hka.below hb1));have hse:=fun w1 (u ub:Value) (hu:BRow w1 u (ae 32 x)) (hub:BRow w1 ub (ae 32 to))=>nk (wkF (ab (be draw bG)) (ab (be draw to))) (fun _=>0) u ub (ae 32 x) (ae 32 to) w1 hu hub (by rw[ag];omega) (by rw[ag];omega) (by rw[ag];omega) (by rw[ag];omega);simp only[ag,Nat.reduceAdd]at hse;have HSE:=Hd hse;have HWT:=Hd (show gh to draw x=ae 32 (ab (be draw bG))++jO (wkF (ab (be draw bG)) (ab (be draw to))) (fun _=>0) (ae 32 x) (ae 32 to)from rfl);rw[HWT.out];clear HWT hse h2 hz hka;generalize jO (wkF (ab (be draw bG)) (ab (be draw to))) (fun _=>0) (ae 32 x) (ae 32 to)=S at *
 generalize wkF (ab (be draw bG)) (ab (be draw to))=W,ab (be draw to)=Z at *
 generalize ab (be draw bG)=E at *
 haveI s1:Seg (aa 32 x) 0 32 (an (ae 32 x)):=fT 32 x;haveI s2:Seg (aa 32 to) 0 32 (an (ae 32 to)):=fT 32 to;haveI s3:Seg (aa 32 E) 0 32 (an (ae 32 E)):=fT 32 E;go_enter func35,ntmps35;go_wp2_with (first|refine aU ?_|(refine gBp 3 ?_;clear hL;intro b3 w1 hL)|(refine gBp 4 ?_;clear hL;intro b4 w1 hL)|(refine gBp 5 ?_;clear hL;intro b5 w1 hL)|(refine gBp 8 ?_;clear hL;intro b8 w1 hL)|(refine gBp 9 ?_;clear hL;intro b9 w1 hL)|(refine ah ?_;clear hL;intro w1 hL)|((with_reducible show wpList _ _ _ (⟨_,.call _,_,_,_,_⟩::_) _ _);(first|refine lC2 hL rfl rfl rfl rfl ?_|refine lC1 hL rfl rfl rfl ?_|refine lC3 hL rfl rfl rfl rfl ?_|refine lC4 hL rfl rfl rfl rfl ?_|refine lC0 hL rfl rfl ?_|refine lC5 hL rfl rfl rfl ?_);clear hL;intro w1 hL;refine p4 ?_));refine mX (S:=fun w'=>Loc _ w' _) 12 (hL.drew) ?_;intro hHeld;replace hL:=hL.drew;refine uG 0 ?_;refine uZ 2 ?_;refine uZ 3 ?_;refine uT 5 (hi:=rfl) (zU (by rfl) rfl mf rfl) ?_;refine uG 6 ?_;refine uG 7 ?_;refine rd1 1 ?_;intro K hK;refine eAn ?_;clear hL;intro g23 cap23 cur23 w1 hr23 hL;refine kO hK (hL.pop) ?_;clear hK K hHeld;intro hHeld;refine rd1 4 ?_;intro K hK;refine eVv (HW.out _ hL.bel) hL ?_;clear hL;intro w1 hL;refine kO hK (hL.pop) ?_;clear hK K hHeld;intro hHeld;refine rd1 8 ?_;intro K hK;refine eK (HSE.out _ (.slice (some ⟨b5,0,none⟩) 32 32) (.slice (some ⟨b3,0,none⟩) 32 32) (See.bytes hL) (See.bytes hL)) ?_;rintro e w1⟨g30,cap30,cur30,rfl,hr30,hN⟩;refine⟨_,rfl,?_⟩;have hL1:=hL.join hN;clear hN hL;revert hL1;refine aJ ?_;intro hL;refine kO hK (hL.pop.pop) ?_;clear hK K hHeld;intro hHeld;refine rd1 9 ?_;intro K hK;refine eAp ?_;clear hL;intro g31 cap31 cur31 w1 hr31 hL;refine kO hK (hL.pop.pop) ?_;clear hK K hHeld;intro hHeld;refine uG 10 ?_;refine uG 11 ?_;refine wD ?_;clear hHeld;go_wp2_with (first|refine aU ?_|(refine ah ?_;clear hL;intro w1 hL));go_ret2;exact⟨g31,cap31,cur31,rfl,hr31,hL.pop.sub ((List.nil_sublist _).cons_cons _)⟩
instance Rl:Ent 35:=eo func35
end
end Go.Proofs.YtoifhhljfaoejaaGreatDoor
