/- Lemmas of the law: walks of functions that it calls, plain facts about them; no condition beyond those written. -/
import Derived.Test.YtoifhhljfaoejaaGreatDoorPkAD
import Derived.Lib.SlBytesConst
import Derived.Laws.Cover3
import Derived.Laws.IdiomStrings
import Derived.Lib.MakeNoZero
import Derived.Laws.Externs
set_option maxRecDepth 100000
set_option maxHeartbeats 8000000
set_option linter.unusedVariables false
set_option linter.unusedSimpArgs false
set_option linter.unusedSectionVars false
namespace Go.Proofs.YtoifhhljfaoejaaGreatDoor
open Go.Proofs.Tryz Go Go.RowKit Go.Shelf
def eR(A:ϊ)(c i:Nat):Option Addr:=if c=i then A else A.map (·.add (i*1))
theorem tE(A:ϊ)(c:Nat):eR A c 0=A:=by
 unfold eR;split
 ·rfl
 ·cases A with
  | none=>rfl
  | some a=>show some (a.add 0)=_;unfold Addr.add;simp
theorem vm:prog.underlying 29=some (.slice (prog.elem 29)):=Θ
theorem FU(w:ϑ):(sizeOf (prog.elem 29)).run prog w= .ok 1 w:=Θ
theorem km{A:ϊ}{n c i:Nat}(h1:i≤n)(w:ϑ):(Instr.sliceAt 29 (.slice A n c) (some (.int .i64 i)) none none).run prog w= .ok (.slice (eR A c i) (n-i) (c-i)) w:=by
 rw[run_sliceAt_slice _ _ _ _ _ _ vm,run_slice_l _ _ _ _ _ vm _ _ Ω Ω,FU];rfl
theorem ko{A:ϊ}{n c k:Nat}(h2:k≤c)(w:ϑ):(Instr.sliceAt 29 (.slice A n c) none (some (.int .i64 k)) none).run prog w= .ok (.slice A k c) w:=by
 rw[run_sliceAt_slice _ _ _ _ _ _ vm,run_slice_h _ _ _ _ _ vm _ _ Ω Ω,FU];have:=tE A c;unfold eR at this;show Result.ok (Value.slice (if c=0 then A else A.map (·.add (0*1))) ((k:Int).toNat-0) (c-0)) w=_;rw[this];rfl
theorem BRow.cut{w:ϑ}{A:ϊ}{n c:Nat}{l:Δ}(h:BRow w (.slice A n c) l){i k:Nat}(h1:i≤k)(h2:k≤l.length)(hc:l.length≤c):BRow w (.slice (eR A c i) (k-i) (c-i)) ((l.drop i).take (k-i)):=by
 obtain⟨a,c',e,hn,hp⟩:=h;cases e
 have hl:((l.drop i).take (k-i)).length=k-i:=by rw[Xr,Xz];omega
 refine⟨eR A c i,c-i,by rw[hl],fun hz=>?_,fun h0=>?_⟩
 ·cases A with
  | none=>rw[hn rfl];omega
  | some a=>unfold eR at hz;split at hz <;> cases hz
 ·rw[hl]at h0
  obtain⟨b,off,rfl,hb,hcell⟩:=hp Ω;refine⟨b,off+i,?_,hb,fun j hj=>?_⟩
  ·unfold eR
   rw[Χ Ω,XS];show some ((⟨b,off,none⟩:Addr).add i)=_;rw[xv rfl]
  ·rw[hl]at hj
   rw[XT,hcell (i+j) Ω];simp
theorem BRow.cutHi{w:ϑ}{A:ϊ}{n c:Nat}{l:Δ}(h:BRow w (.slice A n c) l){k:Nat}(h2:k≤l.length)(hc:l.length≤c):BRow w (.slice A k c) (l.take k):=by
 have:=h.cut (Yb k) h2 hc;simpa[tE] using this
theorem BRow.cutLo{w:ϑ}{A:ϊ}{n c:Nat}{l:Δ}(h:BRow w (.slice A n c) l){i:Nat}(h1:i≤l.length)(hc:l.length≤c):BRow w (.slice (eR A c i) (n-i) (c-i)) (l.drop i):=by
 have hn:n=l.length:=by obtain⟨a,c',e,_⟩:=h;cases e;rfl
 have:=h.cut h1 (Xn _) hc;rw[hn];rwa[Xq Ϡ]at this
theorem pE{w:ϑ}{g c:Nat}{t:ϋ}{fr:Nat×Nat}(l:Δ)(h:w.heap[g]?=some (.cells (l.map fun x=>Value.int .u8 (B8 x)).toArray t fr)):BRow w (.slice (ϐ g) l.length c) l :=
 ⟨_,c,rfl,(fun hc=>by cases hc),fun _=>⟨g,0,rfl,(Array.getElem?_eq_some_iff.1 h).1,fun i hi=>by
  rw[XA,Ya w g _ _ _ _ h];simp[hi]⟩⟩
theorem mW{w:ϑ}{g c:Nat}{t:ϋ}{fr:Nat×Nat}(vs:List Value)(ms:List Δ)(h:w.heap[g]?=some (.cells vs.toArray t fr))(hl:vs.length=ms.length)(hb:∀(i:Nat) (h:i<ms.length),BRow w (vs[i]'Ω) ms[i]):BRows w (.slice (ϐ g) ms.length c) ms :=
 ⟨_,c,rfl,(fun hc=>by cases hc),fun _=>⟨g,0,rfl,(Array.getElem?_eq_some_iff.1 h).1,fun i hi=>by
  refine⟨vs[i]'Ω,?_,hb i hi⟩;rw[XA,Ya w g _ _ _ _ h];simp[show i<vs.length by omega]⟩⟩
theorem iV{w:ϑ}{g c:Nat}{t:ϋ}{fr:Nat×Nat}{v:ό}{m:Δ}(h:w.heap[g]?=some (.cells #[v] t fr))(hb:BRow w v m):BRows w (.slice (ϐ g) 1 c) [m] :=
 mW [v] [m] h rfl fun i hi=>by
  obtain rfl:i=0:=by simpa using hi
  exact hb
theorem gD{w:ϑ}{g c:Nat}{t:ϋ}{fr:Nat×Nat}{v0 v1:ό}{m0 m1:Δ}(h:w.heap[g]?=some (.cells #[v0,v1] t fr))(h0:BRow w v0 m0)(h1:BRow w v1 m1):BRows w (.slice (ϐ g) 2 c) [m0,m1] :=
 mW [v0,v1] [m0,m1] h rfl fun i hi=>by
  have:i=0∨i=1:=by simp at hi;omega
  rcases this with rfl|rfl
  ·exact h0
  ·exact h1
theorem dP{w:ϑ}{g c:Nat}{t:ϋ}{fr:Nat×Nat}{v0 v1 v2:ό}{m0 m1 m2:Δ}(h:w.heap[g]?=some (.cells #[v0,v1,v2] t fr))(h0:BRow w v0 m0)(h1:BRow w v1 m1)(h2:BRow w v2 m2):BRows w (.slice (ϐ g) 3 c) [m0,m1,m2] :=
 mW [v0,v1,v2] [m0,m1,m2] h rfl fun i hi=>by
  have:i=0∨i=1∨i=2:=by simp at hi;omega
  rcases this with rfl|rfl|rfl
  ·exact h0
  ·exact h1
  ·exact h2
theorem jo{Wzq Z:ϑ}(h:Υ Wzq Z)(o:Obj):Below Wzq.heap.size Wzq (Z.alloc o):=h.alloc h.size o
theorem tF(f:Φ)(w:ϑ)[hG:Glob w]:ϓ 74 #[.agg (aa 32 f)] w fun e Z =>
 ∃(g W:Nat) (E:Ψ),e= .returned (.tuple #[.agg (aa 32 (ah (oZ (ae 32 f)))),.slice (ϐ g) 32 W])∧OwnR E 32 W (ak (ki (ae 32 f)))∧w.heap.size≤g∧Z.heap[g]?=some (.cells E 5 (0,0))∧Υ w Z:=by
 have I:=Loc.nil w;obtain⟨L,hl⟩:∃L,L=ae 32 f:=⟨_,rfl⟩;have HS:=Hd (fun J (hg:Glob J) (v:ό) (hv:BRow J v (ae 32 f))=>Shb.refShb_any v (ae 32 f) J hv (by rw[ag];omega) (by rw[ag];omega));obtain⟨Hzq,hH⟩:∃Hzq,Hzq=Shb.sha (ae 32 f):=⟨_,rfl⟩;rw[← hH]at HS;have HT:=Hd (show ak (ae 32 fun i=>Hzq (32+i))=ak (ki (ae 32 f))from by rw[hH];rfl);have HC:=Hd (show bJ (leN Hzq)=oZ (ae 32 f)from by rw[hH];rfl);rw[← HT.out,← HC.out];clear hH HT HC hl L;haveI s1:Seg (aa 64 Hzq) 0 32 (ak (ae 32 fun i=>Hzq (0+i))):=segB Hzq 0 32 Ω;haveI s2:Seg (aa 64 Hzq) 32 32 (ak (ae 32 fun i=>Hzq (32+i))):=segB Hzq 32 32 Ω;haveI p1:Spl (aa 32 fun _=>0) 0 (ak (ae 32 fun i=>Hzq (0+i))) (aa 32 Hzq):=k6 (m:=32) _ _ _ Ω fun i hi=>by rw[Ρ ⟨Ω,Ω⟩];simp
 have χ:(ak (ae 32 fun i=>Hzq (0+i))).length=32:=by rw[ap,ag]
 go_enter func74,ntmps74;go_wp2_with (first|refine gBp 1 fun b1 J I=>?_|refine gBp 2 fun b2 J I=>?_|(go_at_call 126;go_loud (refine(HS.out _ (I.glob hG) _ (See.bytes I)).mono ?_);rintro e J⟨rfl,V⟩;replace I:=I.keep V;refine p4 ?_)|refine gBp 4 fun b4 J I=>?_|refine gBp 5 fun b5 J I=>?_|refine aQp fun _ J I=>?_);refine mX (S:=fun Z=>Loc w Z _) 3 (Loc.rem b5 (I.drew)) ?_;intro H;replace I:=I.drew;refine uG 0 ?_;refine uG 1 ?_;refine rd1 2 ?_;intro K T;refine eCp fun J I=>?_;refine kO T (Loc.rem b5 (I)) fun H=>?_;refine wpAnyH_done Θ (Zd ?_) _;go_wp2_with (refine aQp fun _ J I=>?_);refine mX (S:=fun Z=>Loc w Z _) 6 (Loc.rem b2 (I.drew)) ?_;intro H;replace I:=I.drew
 first|refine tk 0 rfl (yL rfl rfl rfl) H ?_|refine tk 0 rfl (yI rfl rfl rfl) H ?_|refine tk 0 rfl (yW rfl rfl rfl) H ?_
 refine p7 ?_;refine uG 2 ?_;refine rd1 1 ?_;intro K T;refine eCl fun J I=>?_;refine kO T (Loc.rem b2 (I)) fun H=>?_;refine rd1 3 ?_;intro K T;refine eAn ?_;intro g14 Y14 Z14 J W14 I;refine kO T (Loc.rem b2 (I.pop)) fun H=>?_;refine rd1 4 ?_;intro K T;refine eS I rfl rfl rfl fun J I=>?_;refine kO T (Loc.rem b2 (I.pop)) fun H=>?_;refine rd1 5 ?_;intro K T;refine eV I rfl fun J I=>?_;refine kO T (Loc.rem b2 (I.pop)) fun H=>?_;refine wpAnyH_done Θ (Zd ?_) _;go_wp2_with (refine aQp fun _ J I=>?_);refine Ϣ (ao rfl I rfl rfl) rfl ?_;exact⟨g14,Y14,Z14,rfl,W14,I.ge (List.Mem.head _),I.get (List.Mem.head _),I.bel⟩
theorem qR{n:Nat}(h:n<2^256):cd (R3.Pe.B.many n).ex=enc (de n pB):=by
 rw[R3.Pe.many_ex,R3.Pe.B_ex];exact xg sB h
theorem mh(f:Φ)(w:ϑ)[hG:Glob w]:Rt 31 #[.agg (aa 32 f)] w (.agg (aa 32 (ah (gZ (ae 32 f))))):=by
 have I:=Loc.nil w;have HP:=Hd (fun J (hg:Glob J)=>tF f J);have HE:=Hd (show cd (R3.Pe.B.many (leN (ah (oZ (ae 32 f))))).ex=gZ (ae 32 f)from by
  have h:=kK (leN (Shb.sha (ae 32 f)));rw[bT (n:=oZ (ae 32 f)) h];exact qR h)
 rw[← HE.out];clear HE;generalize ah (oZ (ae 32 f))=σ,ki (ae 32 f)=tl at *
 go_enter func31,ntmps31;go_wp2_with (first|refine gBp 1 fun b1 J I=>?_|refine gBp 2 fun b2 J I=>?_|refine gBp 3 fun b3 J I=>?_|((go_at_call 74;go_loud (refine(HP.out _ (I.glob hG)).mono ?_);rintro e J⟨g7,Y7,Z7,rfl,W7,hg7,hc7,hb7⟩;have Y:=I.fresh hb7 hg7 hc7;clear hb7 hg7 hc7;clear I;have I:=Y;clear Y))|refine aQp fun _ J I=>?_);refine wf [(0,false),(1,false),(2,false),(3,false)] [] [4] I ?_;refine fA ?_;refine fB fun J I=>?_;go_wp2_with fail;exact Λ
instance RJ:Ent 31:=eo func31
theorem Loc.at_{D w:ϑ}{M:Mem}(h:Loc D w M)(b:Nat){r:Ψ}{t:ϋ}[hm:At M b r t]:w.heap[b]?=some (.cells r t (0,0)):=h.get hm.mem
noncomputable def ia(ς m:Δ):Nat→Γ:=fun i=>if i<32 then ah (atN ς m) i else ah (MI ς m) (i-32)
theorem JM(a b:Δ):[a,b].flatten=a++b:=Ϡ
theorem JN(a b c:Δ):[a,b,c].flatten=a++b++c:=Ϡ
theorem qT(f:Φ)(v:ό)(m:Δ)(w:ϑ)[hG:Glob w](hv:BRow w v m)(hm:m.length≤1000000) :
 Rt 81 #[.agg (aa 32 f),v] w (.agg (aa 64 (ia (ae 32 f) m))):=by
 have I:=Loc.nil w;haveI hA:Arg w v (ak m):=⟨hv.vrow⟩;have HP:=Hd (fun J (hg:Glob J)=>tF f J);have HPUB:=Hd (fun J (hg:Glob J)=>mh f J);have hsec:=kK (leN (Shb.sha (ae 32 f)));have htl:(ki (ae 32 f)).length=32:=by simp[ki,IF]
 obtain⟨R,hR⟩:∃R,R=Fs (ae 32 f) m:=⟨_,rfl⟩;obtain⟨Tzq,hT⟩:∃Tzq,Tzq=atN (ae 32 f) m:=⟨_,rfl⟩;obtain⟨PK,hPK⟩:∃PK,PK=gZ (ae 32 f):=⟨_,rfl⟩;obtain⟨KK,hKK⟩:∃KK,KK=kj PK Tzq m:=⟨_,rfl⟩;obtain⟨SS,hSS⟩:∃SS,SS=MI (ae 32 f) m:=⟨_,rfl⟩;have HW1:=Hd (fun J (hg:Glob J) (u:ό) (hu:BRows J u [ki (ae 32 f),m])=>(qQ u [ki (ae 32 f),m] J hu ⟨_,_,rfl,by rw[htl];omega⟩ Ϡ (by rw[JM,Xa,htl];omega)));rw[JM,show mQ (ki (ae 32 f)++m)=R from hR.symm]at HW1;have HW2:=Hd (fun J (hg:Glob J) (u:ό) (hu:BRows J u [ae 32 (ah Tzq),ae 32 (ah PK),m])=>(qQ u [ae 32 (ah Tzq),ae 32 (ah PK),m] J hu ⟨_,_,rfl,by rw[ag];omega⟩ Ϡ (by rw[JN,Xa,Xa,ag,ag];omega)));rw[JN,show mQ (ae 32 (ah Tzq)++ae 32 (ah PK)++m)=KK from hKK.symm]at HW2;have HAT:=Hd (show cd (R3.Pe.B.many (leN (ah R))).ex=Tzq from by
  have h:=mR (ki (ae 32 f)++m);rw[hR,bT (n:=Fs (ae 32 f) m) h,qR (n:=Fs (ae 32 f) m) h,hT];rfl)
 have HSS:=Hd (show(leN (ah R)+leN (ah (leN (ah KK)*leN (ah (oZ (ae 32 f)))%Qo)))%Qo=SS from by
  have h1:R<2^256:=by rw[hR];exact mR _
  have h2:KK<2^256:=by rw[hKK];exact mR _
  have h3:oZ (ae 32 f)<2^256:=hsec;rw[bT h1,bT h2,bT h3,bT (Yo (XJ _ zY) zZ),hSS,hKK,hPK,hT,hR];rfl)
 have HOUT:=Hd (show aa 64 (fun i=>if i<32 then ah Tzq i else ah SS (i-32))=aa 64 (ia (ae 32 f) m)from by rw[hT,hSS];rfl);rw[← HOUT.out];rw[← hPK]at HPUB;clear hsec hR hT hPK hKK hSS HOUT;generalize ah (oZ (ae 32 f))=σ at *
 haveI f1:FnG 31 #[.agg (aa 32 f)] (.agg (aa 32 (ah PK))):=⟨HPUB.out⟩;clear HPUB;generalize ki (ae 32 f)=tl at *
 haveI f2:FnC 75 #[.agg (R3.rowPe (R3.Pe.B.many (leN (ah R))))] (.agg (aa 32 (ah Tzq))):=by
  rw[← HAT.out];infer_instance
 haveI f3:FnG 134 #[.agg (aa 32 (ah R)),.agg (aa 32 (ah (leN (ah KK)*leN σ%Qo)))] (.agg (aa 32 (ah SS))):=by
  rw[← HSS.out];infer_instance
 haveI p1:Spl (aa 64 fun _=>0) 0 (ak (ae 32 (ah Tzq))) (aa 64 fun i=>if i<32 then ah Tzq i else 0):=k6 (m:=32) _ _ _ Ω fun i hi=>by
  by_cases h:i<32
  ·rw[Ρ ⟨Ω,Ω⟩,Ρ h];rfl
  ·rw[Χ Ω,Χ h]
 haveI p2:Spl (aa 64 fun i=>if i<32 then ah Tzq i else 0) 32 (ak (ae 32 (ah SS))) (aa 64 fun i=>if i<32 then ah Tzq i else ah SS (i-32)):=k6 (m:=32) _ _ _ Ω fun i hi=>by
  by_cases h:i<32
  ·rw[Χ Ω,Ρ h,Ρ h]
  ·rw[Ρ ⟨Ω,Ω⟩,Χ h]
 have hl1:(ak (ae 32 (ah Tzq))).length=32:=by rw[ap,ag]
 have hl2:(ak (ae 32 (ah SS))).length=32:=by rw[ap,ag]
 obtain⟨a,c,rfl,_,_⟩:=hv;clear HAT HSS;go_enter func81,ntmps81;go_wp2_with (first|refine gBp 2 fun b2 J I=>?_|refine gBp 4 fun b4 J I=>?_|refine gBp 5 fun b5 J I=>?_|refine gBp 7 fun b7 J I=>?_|((go_at_call 74;go_loud (refine(HP.out _ (I.glob hG)).mono ?_);rintro e J⟨g15,Y15,Z15,rfl,W15,hg15,hc15,hb15⟩;have Y:=I.fresh hb15 hg15 hc15;clear hb15 hg15 hc15;clear I;have I:=Y;clear Y))|(refine gN 20 ?_;refine aL fun b20 J I=>?_)|(go_at_call 124;go_loud (refine(HW1.out _ (I.glob hG) _ (gD (I.get (List.Mem.head _)) (See.bytes I) (See.bytes I))).mono ?_);rintro e J⟨rfl,V⟩;replace I:=I.keep V;refine p4 ?_)|refine aQp fun _ J I=>?_);refine au [(0,false),(1,false),(2,false),(3,false)] [(4,_,24)] [5] Θ Θ ⟨⟨_,rfl,rfl,rfl⟩,Ϙ,trivial⟩ I ?_;refine pF ?_;refine fA ?_;refine aC fun b=>?_;refine fB fun J I=>?_;go_wp2_with (first|refine gBp 9 fun b9 J I=>?_|refine aQp fun _ J I=>?_);refine eQ (R:=?R) (fun hR=>?h1) ?h2;case h1 =>
  refine mX (S:=fun Z=>Loc w Z _) 7 (I.drew) ?_;intro H;replace I:=I.drew;refine uG 0 ?_;refine uG 1 ?_;refine uG 2 ?_;refine rd2 3 5 ?_ ?_
  ·intro K T
   refine eBS ?_;clear I;intro b31 J I;refine kO T (I.pop) ?_;clear T K H;intro H;refine rd2 4 5 ?_ ?_
   ·intro K T
    refine eVv (HW2.out _ (I.glob hG) _ (dP (I.at_ b31) (See.bytes I) (See.bytes I) (See.bytes I))) I ?_;clear I;intro J I;refine kO T (I.pop) ?_;clear T K H;intro H;refine rd1 5 ?_;intro K T;refine eA I rfl ?_;clear I;intro b10 J I;refine kO T (I.pop.pop) ?_;clear T K H;intro H;refine rd1 6 ?_;intro K T;refine eS I rfl rfl rfl ?_;clear I;intro J I;refine kO T (I.pop.pop) ?_;clear T K H;intro H;refine wD ?_;clear H;have hLp:=I;clear I;revert hLp;revert J;revert b31;revert b10;exact pm hR
   ·intro K T
    refine eA I rfl ?_;clear I;intro b10 J I;refine kO T (I.pop.pop) ?_;clear T K H;intro H;refine rd1 4 ?_;intro K T;refine eVv (HW2.out _ (I.glob hG) _ (dP (I.at_ b31) (See.bytes I) (See.bytes I) (See.bytes I))) I ?_;clear I;intro J I;refine kO T (I.pop.pop) ?_;clear T K H;intro H;refine rd1 6 ?_;intro K T;refine eS I rfl rfl rfl ?_;clear I;intro J I;refine kO T (I.pop.pop) ?_;clear T K H;intro H;refine wD ?_;clear H;have hLp:=I;clear I;revert hLp;revert J;revert b31;revert b10;exact pm hR
  ·intro K T
   refine eA I rfl ?_;clear I;intro b10 J I;refine kO T (I.pop) ?_;clear T K H;intro H;refine rd1 3 ?_;intro K T;refine eBS ?_;clear I;intro b31 J I;refine kO T (I.pop.pop) ?_;clear T K H;intro H;refine rd1 4 ?_;intro K T;refine eVv (HW2.out _ (I.glob hG) _ (dP (I.at_ b31) (See.bytes I) (See.bytes I) (See.bytes I))) I ?_;clear I;intro J I;refine kO T (I.pop.pop) ?_;clear T K H;intro H;refine rd1 6 ?_;intro K T;refine eS I rfl rfl rfl ?_;clear I;intro J I;refine kO T (I.pop.pop) ?_;clear T K H;intro H;refine wD ?_;clear H;have hLp:=I;clear I;revert hLp;revert J;revert b31;revert b10;exact pm hR
 intro b10 b31 J Y;clear I;have I:=Y;clear Y;go_wp2_with (refine aQp fun _ J I=>?_);refine au [(0,false),(1,false),(2,false),(3,false),(4,false)] [(5,_,24)] [6] Θ Θ ⟨⟨_,rfl,rfl,rfl⟩,Ϙ,trivial⟩ I ?_;refine pF ?_;refine fA ?_;refine aC fun b=>?_;refine fB fun J I=>?_;go_wp2_with (first|refine gBp 12 fun b12 J I=>?_|refine aQp fun _ J I=>?_);refine mX (S:=fun Z=>Loc w Z _) 3 (Loc.rem b12 (I.drew)) ?_;intro H;replace I:=I.drew;refine uG 0 ?_;refine uG 1 ?_;refine rd1 2 ?_;intro K T;refine eCp fun J I=>?_;refine kO T (Loc.rem b12 (I)) ?_;clear T K H;intro H;refine wpAnyH_done Θ (Zd ?_) _;go_wp2_with (refine aQp fun _ J I=>?_);refine mX (S:=fun Z=>Loc w Z _) 3 (Loc.rem b12 (I.drew)) ?_;intro H;replace I:=I.drew;refine uG 0 ?_;refine uG 1 ?_;refine rd1 2 ?_;intro K T;refine eCp fun J I=>?_;refine kO T (Loc.rem b12 (I)) ?_;clear T K H;intro H;refine wpAnyH_done Θ (Zd ?_) _;go_wp2_with (refine aQp fun _ J I=>?_);exact Λ
instance RK:Ent 81:=eo func81
theorem xw{w:ϑ}{v:ό}{vs:List Value}{ms:List Δ}(h:VRow w v vs)(hl:vs.length=ms.length)(hb:∀(i:Nat) (h1:i<vs.length) (h2:i<ms.length),BRow w vs[i] ms[i]):BRows w v ms:=by
 obtain⟨_,a,c,rfl,hn,hp⟩:=h;refine⟨a,c,by rw[hl],hn,fun h0=>?_⟩;obtain⟨b,off,e,hlt,hc⟩:=hp Ω;exact⟨b,off,e,hlt,fun i hi=>⟨vs[i],hc i Ω,hb i Ω hi⟩⟩
theorem vn{w:ϑ}{v:ό}{ms:List Δ}(h:BRows w v ms):∃vs,VRow w v vs∧vs.length=ms.length∧∀(i:Nat) (h1:i<vs.length) (h2:i<ms.length),BRow w vs[i] ms[i]:=by
 obtain⟨a,c,rfl,hn,hp⟩:=h;by_cases h0:0<ms.length
 ·obtain⟨b,off,e,hlt,hc⟩:=hp h0
  refine⟨List.ofFn fun i:Fin ms.length=>Classical.choose (hc i.1 i.2),⟨?_,a,c,by rw[List.length_ofFn],hn,fun h1=>⟨b,off,e,hlt,fun i hi=>?_⟩⟩,List.length_ofFn,fun i h1 h2=>?_⟩
  ·intro u hu
   obtain⟨i,rfl⟩:=(List.mem_ofFn ..).1 hu;obtain⟨_,_,e2,_⟩:=(Y0 (hc i.1 i.2)).2;rw[e2];rfl
  ·rw[List.length_ofFn]at hi
   rw[List.getElem_ofFn];exact(Y0 (hc i hi)).1
  ·rw[List.getElem_ofFn]
   exact(Y0 (hc i h2)).2
 ·have:ms=[]:=XG Ω
  subst this;exact⟨[],⟨fun u hu=>(Yc hu).elim,a,c,rfl,hn,fun h=>absurd h Ϡ⟩,rfl,fun i h1 _=>absurd h1 Ϡ⟩
section
variable {ops:Array Oper} {rest:List Oper} {o:Oper} {a:Act} {D w:ϑ} {M M':Mem} {Q:Exit→Act→ϑ→Prop}
theorem Nk(I:Loc D w M)(hg:o.guard=none){s x:Operand}{t e:ϋ}(ho:o.op= .call { callee:= .builtin .append,args:= #[s,x],argTypes:= #[t,t] })[he:Elt t e]{p0:ϊ}{n:Nat}(hs:a.eval s= .slice p0 n n){xs:List Value}[hxs:See D M (.slice p0 n n) xs](hn0:0<n){p:ϊ}{k cc:Nat}(hx:a.eval x= .slice p k cc){ys:List Value}[hy:See D M (.slice p k cc) ys](h0:0<k)(hsz:n+k≤100000000000)(h:∀g' cap' cur' Z,OwnR cur' (n+k) cap' (xs++ys)→Loc D Z ((g',cur',e)::M)→wpList prog ops Q rest (a.put o.dst (.slice (ϐ g') (n+k) cap')) Z):wpList prog ops Q (o::rest) a w :=
 Xt hg fun K T=>by
  obtain rfl:=hy.len I;obtain rfl:=hxs.len I;obtain⟨i,z,hi,hz,hs1,hb,hzs⟩:=he.info;obtain⟨hx1,a1,c1,e1,_,hp1⟩:=hxs.see w I;obtain⟨hy1,a2,c2,e2,_,hp2⟩:=hy.see w I;cases e1
  cases e2
  obtain⟨b1,o1,rfl,_,hc1⟩:=hp1 hn0;obtain⟨b2,o2,rfl,_,hc2⟩:=hp2 h0;have cell:∀(l:List Value) (b o:Nat),(∀(i:Nat) (h:i<l.length),w.cell? ⟨b,o+i,none⟩=some l[i])→∀(j:Nat) (u:ό),l[j]?=some u→w.cell? ((⟨b,o,none⟩:Addr).add j)=some u:=fun l b o hc j u hj=>by
   have hjl:j<l.length:=by
    rcases XI j l.length with h|h
    ·exact h
    ·rw[List.getElem?_eq_none h]at hj;cases hj
   rw[zaa,hc j hjl,← hj,List.getElem?_eq_getElem hjl]
  have hrun:=run_append_grow (P:=prog) w t o.type e i z he.und hi hz ⟨b1,o1,none⟩ xs.length xs.length xs (by rw[hs1,XS]) (cell _ _ _ hc1) ⟨b2,o2,none⟩ ys.length cc ys (by rw[hs1,XS]) (cell _ _ _ hc2) Ω Ω
   (growslice_fits Ω (ZD (YE _ hb) Ω))
  have hge:=grownCap_ge w (xs.length+ys.length) xs.length e;have κ:∃g' cap' cur' Z,(Builtin.append_ #[t,t] o.type #[.slice (some ⟨b1,o1,none⟩) xs.length xs.length,.slice (some ⟨b2,o2,none⟩) ys.length cc]).run prog w= .ok (.slice (ϐ g') (xs.length+ys.length) cap') Z ∧
   OwnR cur' (xs.length+ys.length) cap' (xs++ys)∧Υ w Z∧Z.heap[g']?=some (.cells cur' e (0,0))∧w.heap.size≤g':=by
   refine⟨_,_,_,_,hrun,⟨by rw[Xa],fun u hu=>?_,?_,hge,grownCap_le_maxLen w _ _ e (by unfold maxLen;omega),?_⟩,⟨rfl,rfl,rfl,Ϡ,fun k hk=>heap_alloc_old w.drew _ hk⟩,Xe w.drew _,Xn _⟩
   ·rcases List.mem_append.1 hu with h|h
    ·exact hx1 u h
    ·exact hy1 u h
   ·simp only[YK,YS,size_zeroCells,hzs]
    omega
   ·have:xs.length+ys.length=(xs++ys).length:=by rw[Xa]
    rw[this];simp only[YJ,Xc];rw[← Xc];exact Ze
  obtain⟨g',cap',cur',Z,hrun2,h1,h2,h3,h4⟩:=κ;unfold Oper.wp execOp;simp only[ho,resolve,invoke,builtin,Sem.run_bind,Sem.run_pure,Result.andThen_ok,List.map_toArray,List.map_cons,List.map_nil,hs,hx,hrun2];exact T _ _ (h g' cap' cur' Z h1 (I.fresh h2 h4 h3))
end
theorem FV(vb:ό)(pa:ϊ)(ls ms:List Δ)(w:ϑ)(hb:BRows w vb ms)(ha:BRows w (.slice pa ls.length ls.length) ls)(ha0:0<ls.length)(hm0:0<ms.length)(hl:ls.length+ms.length≤1000000)(hm:(ls++ms).flatten.length≤1000000000) :
 Rt 247 #[vb,.slice pa ls.length ls.length] w (.agg (aa 32 (ah (mQ (ls++ms).flatten)))):=by
 have I:=Loc.nil w;obtain⟨xs,hx,hxl,hxb⟩:=vn ha;obtain⟨ys,hy,hyl,hyb⟩:=vn hb;haveI a1:Arg w (.slice pa ls.length ls.length) xs:=⟨hx⟩;haveI a2:Arg w vb ys:=⟨hy⟩;have HB:=Hd (fun(i:Nat) (h1:i<(xs++ys).length) (h2:i<(ls++ms).length)=>show BRow w (xs++ys)[i] (ls++ms)[i]from by
  by_cases hi:i<xs.length
  ·rw[YB hi,YB Ω]
   exact hxb i hi Ω
  ·rw[Zy Ω,Zy Ω]
   simp only[← hxl];exact hyb _ _ _)
 have HLEN:=Hd (show(xs++ys).length=(ls++ms).length from by rw[Xa,Xa,hxl,hyl]);have hkl:ls.length+ms.length=(ls++ms).length:=List.length_append.symm;obtain⟨pb,cb,rfl,hbn,hbp⟩:=hb;clear hbn hbp;generalize ls++ms=fl at *
 clear hx hxb hxl hy hyb hyl ha;generalize hal:ls.length=na at *
 generalize hml:ms.length=nm at *
 clear hal;have HSUM:=Hd (fun J (u:ό) (hu:BRows J u fl)=>Shb.sum_any u fl J hu Ω hm);generalize fl.flatten=fm at *
 have HKL:=Hd hkl;clear hkl hml;go_enter func247,ntmps247;go_wp2_with (first|refine gBp 4 fun b4 J I=>?_|(refine gN 8 ?_;go_loud (refine Nk I rfl rfl rfl ha0 rfl hm0 Ω fun g8 Y8 Z8 J W8 Y=>?_);clear I;have I:=Y;clear Y)|(go_at_call 280;go_loud (refine(HSUM.out _ _ (xw (See.see (ys:=xs++ys) _ I) HLEN.out fun i h1 h2=>(HB.out i h1 h2).below I.bel)).mono ?_);rintro e J⟨rfl,V⟩;replace I:=I.keep V;refine p4 ?_)|(go_at_call 281;go_loud (refine((zX (Shb.sha fm) 64 64 _ _ Ω Ω fun i hi=>R3.was_loc I (List.Mem.head _) (bG _ hi))).mono ?_);rintro e J⟨rfl,V⟩;replace I:=I.keep V;refine p4 ?_)|refine aQp fun _ J I=>?_);exact Λ
def qU(md:Region.Mode)(ops:Array Oper):Nat→Array Bool→List Nat→Bool
 | 0,_,_=>true
 | n+1,L,Izq=>(Region.ready md ops L==Izq)&&Izq.all fun i=>qU md ops n (L.setIfInBounds i true) (Izq.erase i)
def kq(ops:Array Oper)(i:Nat):Option Tmp:=(ops[i]?).bind (·.dst)
def alS(ops:Array Oper)(bs:Nat→Nat)(s:Array Bool×Act)(x:Nat×Ψ×ϋ):Array Bool×Act:=(s.1.setIfInBounds x.1 true,s.2.put (kq ops x.1) (.pointer (some ⟨bs x.1,0,none⟩)))
theorem put_comm(a:Act){c d:Option Tmp}(h:c≠d)(u v:ό):(a.put c u).put d v=(a.put d v).put c u:=by
 unfold Act.put;cases c with
 | none=>cases d <;> rfl
 | some c =>
  cases d with
  | none=>rfl
  | some d =>
   simp only;rw[Array.setIfInBounds_comm _ _ (fun e=>h (by rw[e]))]
theorem FW(ops:Array Oper)(bs:Nat→Nat)(x y:Nat×Ψ×ϋ)(h:x=y∨(x.1≠y.1∧kq ops x.1≠kq ops y.1))(s:Array Bool×Act):alS ops bs (alS ops bs s x) y=alS ops bs (alS ops bs s y) x:=by
 rcases h with rfl|⟨h1,h2⟩
 ·rfl
 ·unfold alS
  simp only;rw[put_comm _ h2,Array.setIfInBounds_comm _ _ h1]
theorem Loc.subl{D w:ϑ}{M M':Mem}(h:Loc D w M)(hs:M'.Sublist M):Loc D w M':=⟨h.bel,fun b r t hm=>h.ok b r t (hs.subset hm),h.nd.sublist (hs.map _)⟩
theorem tG{α β:Type}(f:α→β):∀(l:List α),(l.map f).Nodup→∀{x y:α},x∈l→y∈l→f x=f y→x=y
 | [],_,_,_,hx,_,_=>absurd hx Yc
 | z::l,h,x,y,hx,hy,e=>by
  rw[List.map_cons,List.nodup_cons]at h;cases hx with
  | head=>cases hy with
   | head=>rfl
   | tail _ hy=>exact absurd (List.mem_map.2 ⟨y,hy,e.symm⟩) h.1
  | tail _ hx=>cases hy with
   | head=>exact absurd (List.mem_map.2 ⟨x,hx,e⟩) h.1
   | tail _ hy=>exact tG f l h.2 hx hy e
theorem qV{α β:Type}(f g:β→α→β):∀(l:List α),(∀x∈l,∀s,f s x=g s x)→∀s,l.foldl f s=l.foldl g s
 | [],_,_=>rfl
 | x::l,h,s=>by rw[ZC,ZC,h x (.head _),qV f g l (fun y hy=>h y (.tail _ hy))]
theorem lf{md:Region.Mode}{ops:Array Oper}{Q:Exit→Act→ϑ→Prop}{D:ϑ}{M0:Mem}(fuel:Nat):∀(n:Nat) (A:jR),A.length=n→∀(L:Array Bool) (a:Act) (w:ϑ) (Dzq:Mem),qU md ops n L (A.map (·.1))=true →
 (A.map fun x=>kq ops x.1).Nodup→okA ops A→Loc D w (Dzq++M0) →
 (∀(bs:Nat→Nat) Z,Loc D Z ((A.map fun x=>(bs x.1,x.2.1,x.2.2))++(Dzq++M0))→wpAnyH prog md ops Q (fun w=>Loc D w M0) fuel (A.foldl (alS ops bs) (L,a)).1 (A.foldl (alS ops bs) (L,a)).2 Z) →
 wpAnyH prog md ops Q (fun w=>Loc D w M0) (n+fuel) L a w
 | 0,A,hl,L,a,w,Dzq,_,_,_,I,h=>by
  obtain rfl:=XG hl;rw[XA];exact h (fun _=>0) w I
 | n+1,A,hl,L,a,w,Dzq,hr,hd,hA,I,h=>by
  rw[show n+1+fuel=n+fuel+1 from by omega];unfold qU at hr;rw[Xs,beq_iff_eq]at hr;refine wpAnyH_all hr.1 (fun e=>by have:=XH List.length e;simp[hl]at this) fun i hi=>?_;obtain⟨x,hx,rfl⟩:=List.mem_map.1 hi;have hnx:=List.all_eq_true.1 hr.2 x.1 hi;obtain⟨⟨o,ho,hop,hg⟩,hz⟩:=ux A hA x hx;have hdst:kq ops x.1=o.dst:=by unfold kq;rw[ho];rfl
  obtain⟨l,r,rfl⟩:=List.append_of_mem hx;have hd1:=hd;rw[XQ,List.map_cons]at hd1;obtain⟨dl,dr,dx⟩:=List.nodup_append.1 hd1;have hne:∀y∈l++r,kq ops x.1≠kq ops y.1:=fun y hy e=>by
   rcases List.mem_append.1 hy with hy|hy
   ·exact dx _ (List.mem_map.2 ⟨y,hy,rfl⟩) _ (.head _) e.symm
   ·exact(List.nodup_cons.1 dr).1 (List.mem_map.2 ⟨y,hy,e.symm⟩)
  have hnl:x.1 ∉ l.map (·.1):=fun hm=>by
   obtain⟨y,hy,e⟩:=List.mem_map.1 hm;exact hne y (XL _ hy) (by rw[e])
  have hI:((l++x::r).map (·.1)).erase x.1=(l++r).map (·.1):=by
   rw[XQ,List.map_cons,List.erase_append_right _ hnl,List.erase_cons_head,XQ]
  rw[hI]at hnx;unfold wpOp;simp only[ho];rw[Ρ (by simp[Region.wanted,hg])];refine .inl (eA I hop fun b J Y=>?_);refine⟨Y.subl ((List.sublist_append_right Dzq M0).trans (YT _ _)),?_⟩;refine lf fuel n (l++r) (by simp at hl ⊢; omega) _ _ J ((b,x.2.1,x.2.2)::Dzq) hnx ?_ ?_ Y fun bs w2 hL2=>?_
  ·exact hd.sublist ((List.Sublist.append (Zh l) (YT x r)).map _)
  ·have sub:∀(l':jR),(∀y∈l',y∈l++x::r)→okA ops l':=fun l'=>by
    induction l' with
    | nil=>intro _;trivial
    | cons y l' ih =>
     intro hy;obtain⟨h1,h2⟩:=ux _ hA y (hy y (.head _));exact⟨h1,h2,ih fun z hz=>hy z (.tail _ hz)⟩
   exact sub _ fun y hy=>by rcases List.mem_append.1 hy with hy|hy <;> simp[hy]
  ·have hp:(l++x::r).Perm (x::(l++r)):=Zq
   have κ:=h (fun j=>if j=x.1 then b else bs j) w2 ?_
   ·rw[hp.foldl_eq' (fun y hy z hz s=>FW ops _ y z (by
     by_cases e:y=z
     ·exact .inl e
     ·refine .inr ?_
      have hq:kq ops y.1≠kq ops z.1:=fun eq=>e (tG _ _ hd hy hz eq);exact⟨fun eq=>hq (by rw[eq]),hq⟩) s) (L,a),ZC]at κ
    rw[show alS ops (fun j=>if j=x.1 then b else bs j) (L,a) x=(L.setIfInBounds x.1 true,a.put o.dst (.pointer (ϐ b)))from by unfold alS;rw[hdst];simp]at κ;rwa[qV _ (alS ops bs) (l++r) (fun y hy s=>by
     unfold alS;have:y.1≠x.1:=fun e=>hne y hy (by rw[e]);simp[this])]at κ
   ·refine hL2.perm ?_
    have e1:((l++x::r).map fun y=>((fun j=>if j=x.1 then b else bs j) y.1,y.2.1,y.2.2)).Perm ((b,x.2.1,x.2.2)::(l++r).map fun y=>(bs y.1,y.2.1,y.2.2)):=by
     refine(hp.map _).trans ?_;rw[List.map_cons];simp only[ZV];refine List.Perm.cons _ (List.Perm.of_eq (List.map_congr_left fun y hy=>?_));have:y.1≠x.1:=fun e=>hne y hy (by rw[e]);simp[this]
    exact((Zq).trans ((e1.symm.append_right (Dzq++M0)).trans (Zu _)):_)
theorem C3{x y:Nat}(hx:x<2^256)(hy:y<2^256)(h:∀i,i<32→ah x i=ah y i):x=y:=by
 have e:leN (ah x)=leN (ah y):=by
  have:∀k,k≤32→leK (ah x) k=leK (ah y) k:=fun k=>by
   induction k with
   | zero=>intro _;rfl
   | succ k ih=>intro hk;show leK _ k+_=leK _ k+_;rw[ih Ω,h k Ω]
  exact this 32 Ω
 rwa[bT hx,bT hy]at e
theorem jp(x y:Nat)(hx:x<2^256)(hy:y<2^256):EqV 24 (aa 32 (ah x)) (aa 32 (ah y)) (decide (x=y)) :=
 Bl (fun i=>B8 (ah x i)) (fun i=>B8 (ah y i)) underlying24 Θ underlying5 (fun w=>by kernel_rfl)
  (fun r s x y w=>run_eqGuard_agg _ _ _ _ _ _ _ Θ) (fun r s x y w=>run_eqGuard_agg _ _ _ _ _ _ _ Θ) (by
   rw[Bool.eq_iff_iff,Bk,ZO];constructor
   ·intro h
    refine C3 hx hy fun i hi=>Yi ?_;have:=h i hi;unfold B8 at this;exact Int.ofNat_inj.1 this
   ·intro h i _;rw[h])
theorem jq(e:Ex):cd e<2^256:=by
 unfold cd;have h1:=Yo (e.y*inv e.z).isLt Bp;have h2:(2:Nat)^256=2*2^255:=Ϛ;have h3:(e.x*inv e.z).val%2<2:=XJ _ Ω;have h4:2^255*((e.x*inv e.z).val%2)≤2^255*1:=YE _ Ω;generalize(2:Nat)^255=Ezq at *
 omega
theorem mY(κ at_ s:Nat)(m:Δ):(bK at_=none→dA κ at_ s m=false)∧(bK κ=none→dA κ at_ s m=false)∧(¬s<Qo→dA κ at_ s m=false) ∧
 ∀r a,bK at_=some r→bK κ=some a→s<Qo→dA κ at_ s m=decide (cd (cE exB s)=cd (dm r (cE a (kj κ at_ m)))):=by
 refine⟨fun h=>?_,fun h=>?_,fun h=>?_,fun r a h1 h2 h=>?_⟩
 ·unfold dA;rw[h]
 ·unfold dA;rw[h];cases bK at_ <;> rfl
 ·unfold dA
  cases bK at_ with
  | none=>rfl
  | some r =>
   cases bK κ with
   | none=>rfl
   | some a=>simp only[h,decide_false,Bool.false_and]
 ·unfold dA
  rw[h1,h2];simp only[h,decide_true,Bool.true_and]
theorem jr(f:Φ):vc (leN f)=ae 32 f:=by
 unfold vc IF ae;exact List.map_congr_left fun i hi=>iQ f (List.mem_range.1 hi)
theorem kL(a:ϊ)(c:Nat)(w:ϑ):(Instr.arrayAt 24 (.slice a 32 c)).run prog w= .ok (.pointer a) w:=run_arrayAt (P:=prog) (w:=w) 24 5 32 a 32 c underlying24 (Xn _)
instance RL:Ent 247:=eo func247
theorem mi(fk fs:Φ)(vb:ό)(ms:List Δ)(w:ϑ)(hb:BRows w vb ms)(hm0:0<ms.length)(hl:ms.length≤1000)(hm:ms.flatten.length≤1000000) :
 Rt 210 #[.agg (aa 32 fk),.agg (aa 64 fs),vb] w (.bool (dA (leN fk) (leN fs) (leN fun i=>fs (32+i)) ms.flatten)):=by
 have I:=Loc.nil w;have harr:=kL;haveI p1:Part (aa 64 fs) 75 0 24 (aa 32 fs):=d9 Ω fun i hi=>by rw[XA]
 haveI p2:Part (aa 64 fs) 75 32 24 (aa 32 fun i=>fs (32+i)):=d9 Ω fun i hi=>rfl;obtain⟨fs2,hfs2⟩:∃fs2:Nat→Γ,fs2=fun i=>fs (32+i):=⟨_,rfl⟩;rw[← hfs2]at p2 ⊢;clear hfs2;obtain⟨c1,c2,c3,c4⟩:=mY (leN fk) (leN fs) (leN fs2) ms.flatten;haveI r1:FnC 245 #[.agg (aa 32 fs)] (.tuple #[.agg (zA (bK (leN fs))),.bool (bK (leN fs)).isSome]):=Ϙ;haveI r2:FnC 245 #[.agg (aa 32 fk)] (.tuple #[.agg (zA (bK (leN fk))),.bool (bK (leN fk)).isSome]):=Ϙ;haveI r3:FnC 246 #[.agg (aa 32 fs2)] (.bool (decide (leN fs2<Qo))):=Ϙ;have HS:=Hd (fun J (V:Υ w J) (pa:ϊ) (ha:BRows J (.slice pa 2 2) [ae 32 fs,ae 32 fk])=>FV vb pa [ae 32 fs,ae 32 fk] ms J (hb.below V) ha Ϡ hm0 Ϟ (by simp[ag];simp at hm;omega));have hk:mQ ([ae 32 fs,ae 32 fk]++ms).flatten=kj (leN fk) (leN fs) ms.flatten:=by
  unfold kj;rw[jr,jr];simp
 rw[hk]at HS;haveI t1:FnC 249 #[.agg (dV exB),.agg (aa 32 fs2)] (.agg (dV (cE exB (leN fs2)))):=Ϙ;have HT:=Hd (fun(p:Ex)=>show FnC 249 #[.agg (dV p),.agg (aa 32 (ah (kj (leN fk) (leN fs) ms.flatten)))] (.agg (dV (cE p (kj (leN fk) (leN fs) ms.flatten))))from by
  have h:=wM p (ah (kj (leN fk) (leN fs) ms.flatten));rw[bT (BB _ _ _)]at h;exact⟨h⟩)
 generalize dA (leN fk) (leN fs) (leN fs2) ms.flatten=out,kj (leN fk) (leN fs) ms.flatten=kk,bK (leN fs)=R,bK (leN fk)=A at *
 generalize leN fs2=s at *
 clear hk hm hl hm0;have HBB:=Hd hb;obtain⟨pb,cb,rfl,hbn,hbp⟩:=hb;clear hbn hbp HBB;cases R with
 | none =>
  rw[c1 rfl];rw[iM]at r1;clear c1 c2 c3 c4;cases A with
  | none =>
   rw[iM]at r2;go_enter func210,ntmps210;go_wp2_with (first|refine gBp 3 fun b3 J I=>?_|refine gBp 4 fun b4 J I=>?_|refine gBp 7 fun b7 J I=>?_|refine gBp 8 fun b8 J I=>?_|refine gBp 10 fun b10 J I=>?_|refine aV ?_|refine aQp fun _ J I=>?_);go_ret;exact⟨rfl,I.bel⟩
  | some a =>
   rw[nU]at r2;go_enter func210,ntmps210;go_wp2_with (first|refine gBp 3 fun b3 J I=>?_|refine gBp 4 fun b4 J I=>?_|refine gBp 7 fun b7 J I=>?_|refine gBp 8 fun b8 J I=>?_|refine gBp 10 fun b10 J I=>?_|refine aV ?_|refine aQp fun _ J I=>?_);go_ret;exact⟨rfl,I.bel⟩
 | some r =>
  rw[nU]at r1;cases A with
  | none =>
   rw[c2 rfl];rw[iM]at r2;clear c1 c2 c3 c4;go_enter func210,ntmps210;go_wp2_with (first|refine gBp 3 fun b3 J I=>?_|refine gBp 4 fun b4 J I=>?_|refine gBp 7 fun b7 J I=>?_|refine gBp 8 fun b8 J I=>?_|refine gBp 10 fun b10 J I=>?_|refine aV ?_|refine aQp fun _ J I=>?_);go_ret;exact⟨rfl,I.bel⟩
  | some a =>
   rw[nU]at r2;by_cases hs:s<Qo
   ·rw[c4 r a rfl rfl hs]
    rw[Xw hs]at r3;haveI t2:=HT.out a;haveI eq1:=jp (cd (cE exB s)) (cd (dm r (cE a kk))) (jq _) (jq _);generalize decide (cd (cE exB s)=cd (dm r (cE a kk)))=res at *
    clear c1 c2 c3 c4 hs;go_enter func210,ntmps210;go_wp2_with (first|refine gBp 3 fun b3 J I=>?_|refine gBp 4 fun b4 J I=>?_|refine gBp 7 fun b7 J I=>?_|refine gBp 8 fun b8 J I=>?_|refine gBp 10 fun b10 J I=>?_|refine aV ?_|refine aQp fun _ J I=>?_);have s0:Seg (aa 64 fs) 0 32 (ak (ae 32 fun i=>fs (0+i))):=segB fs 0 32 Ω;simp only[XA]at s0;haveI s1:Seg (aa 64 fs) 0 32 (ak (ae 32 fs)):=s0;clear s0;refine eQ (R:=?R) (fun hR=>?h1) ?h2;case h1 =>
     refine mX (S:=fun Z=>Loc w Z _) 7 (I.drew) ?_;intro H;replace I:=I.drew;refine uG 0 ?_;refine uG 1 ?_;refine uG 2 ?_;refine rd2 3 5 ?_ ?_
     ·intro K T
      refine eBS ?_;clear I;intro b42 J I;refine kO T (I.pop) ?_;clear T K H;intro H;refine rd2 4 5 ?_ ?_
      ·intro K T
       refine eVv (HS.out _ I.bel _ (gD (I.at_ b42) (See.bytes I) (See.bytes I))) I ?_;clear I;intro J I;refine kO T (I.pop) ?_;clear T K H;intro H;refine rd1 5 ?_;intro K T;refine eA I rfl ?_;clear I;intro b12 J I;refine kO T (I.pop.pop) ?_;clear T K H;intro H;refine rd1 6 ?_;intro K T;refine eS I rfl rfl rfl ?_;clear I;intro J I;refine kO T (I.pop.pop) ?_;clear T K H;intro H;refine wD ?_;clear H;have hLp:=I;clear I;revert hLp;revert J;revert b42;revert b12;exact pm hR
      ·intro K T
       refine eA I rfl ?_;clear I;intro b12 J I;refine kO T (I.pop.pop) ?_;clear T K H;intro H;refine rd1 4 ?_;intro K T;refine eVv (HS.out _ I.bel _ (gD (I.at_ b42) (See.bytes I) (See.bytes I))) I ?_;clear I;intro J I;refine kO T (I.pop.pop) ?_;clear T K H;intro H;refine rd1 6 ?_;intro K T;refine eS I rfl rfl rfl ?_;clear I;intro J I;refine kO T (I.pop.pop) ?_;clear T K H;intro H;refine wD ?_;clear H;have hLp:=I;clear I;revert hLp;revert J;revert b42;revert b12;exact pm hR
     ·intro K T
      refine eA I rfl ?_;clear I;intro b12 J I;refine kO T (I.pop) ?_;clear T K H;intro H;refine rd1 3 ?_;intro K T;refine eBS ?_;clear I;intro b42 J I;refine kO T (I.pop.pop) ?_;clear T K H;intro H;refine rd1 4 ?_;intro K T;refine eVv (HS.out _ I.bel _ (gD (I.at_ b42) (See.bytes I) (See.bytes I))) I ?_;clear I;intro J I;refine kO T (I.pop.pop) ?_;clear T K H;intro H;refine rd1 6 ?_;intro K T;refine eS I rfl rfl rfl ?_;clear I;intro J I;refine kO T (I.pop.pop) ?_;clear T K H;intro H;refine wD ?_;clear H;have hLp:=I;clear I;revert hLp;revert J;revert b42;revert b12;exact pm hR
    intro b12 b42 J Y;clear I;have I:=Y;clear Y;go_wp2_with (refine aQp fun _ J I=>?_);refine wf [(0,false),(1,false),(2,false),(3,false),(4,false),(5,false),(6,false),(7,false),(8,false),(9,false),(10,true),(11,true)] [] [] I ?_
    repeat(first|((with_reducible show bC _ _ _ (_::_) _ _);refine sQ rfl rfl rfl rfl ?_;refine p4 ?_)|refine rS ?_)
    refine aK ?_;refine fC fun J I=>?_;go_wp2_with fail;go_ret;exact⟨rfl,I.bel⟩
   ·rw[c3 hs]
    rw[XB hs]at r3;clear c1 c2 c3 c4 hs;go_enter func210,ntmps210;go_wp2_with (first|refine gBp 3 fun b3 J I=>?_|refine gBp 4 fun b4 J I=>?_|refine gBp 7 fun b7 J I=>?_|refine gBp 8 fun b8 J I=>?_|refine gBp 10 fun b10 J I=>?_|refine aV ?_|refine aQp fun _ J I=>?_);go_ret;exact⟨rfl,I.bel⟩
def p8(n:Int)(i:Nat):Γ:=BitVec.ofInt 8 (n/2^(8*(7-i)))
def aM(n:Int):Δ:=ae 8 (p8 n)
def aW(l:List Int):Δ:=(l.map aM).flatten
theorem aw(n:Int):(aM n).length=8:=ag _ _
theorem bp:∀l:List Int,(aW l).length=8*l.length
 | []=>rfl
 | x::l=>by
  have:=bp l;unfold aW at *
  rw[List.map_cons,XP,Xa,aw,this,XZ];omega
theorem kr(l:List Int){k:Nat}(h:k<l.length):aW (l.take (k+1))=aW (l.take k)++aM l[k]:=by
 unfold aW;rw[Xo h,XQ,ZI,List.map_cons,List.map_nil,XP,Yz,Yf]
theorem xx(n:Int)(i:Nat):B8 (p8 n i)=n/2^(8*(7-i))%256:=by
 unfold B8 p8;rw[X9];have:0≤n/2^(8*(7-i))%((2^8:Nat):Int):=Int.emod_nonneg _ Ξ;rw[YF this];rfl
def cj(l:List Int):List Value:=l.map fun x=> .int .i64 x
theorem cA(l:List Int):(cj l).length=l.length:=ZT _
theorem FX:(prog.info? 3).map (fun i=>(i.zero,i.size,i.bytes))=some (some (.int .i64 0),1,8):=Θ
instance WM:Elt 53 3:=uP underlying53 FX Ω rfl
instance BO(d:IntKind)(n:Int):Seg #[.int d n] 0 1 [.int d n]:=⟨rfl,fun u hu=>by
 have:=List.mem_singleton.1 hu;subst this;rfl,fun i hi=>by
 have:i=0:=by simpa using hi
 subst this;rfl⟩
theorem qW(n:Int):bits .and .i64 n 255=n%256:=R3.and_255 n
theorem vo(n:Int){j:Nat}(h:j<8):n/2^(8*j)/256=n/2^(8*(j+1)):=by
 have e:(2:Int)^(8*(j+1))=2^(8*j)*256:=by rw[Yu,Int.pow_add];rfl
 rw[e,Int.ediv_ediv_of_nonneg (Int.le_of_lt (Int.pow_pos Ξ))]
def xK(n:Int)(j:Nat):Nat→Γ:=fun i=>if 8-j≤i then p8 n i else 0
theorem FY(n:Int){j:Nat}(h:j<8):Put (aa 8 (xK n j)) (7-j) (.int .u8 (B8 (p8 n (7-j)))) (aa 8 (xK n (j+1))):=bm Ω (am fun i hi=>by
 unfold upd xK;by_cases e:i=7-j
 ·subst e;rw[Ρ rfl,Ρ Ω]
 ·rw[Χ e]
  show Value.int .u8 (B8 (if 8-j≤i then p8 n i else 0))=_;by_cases h:8-j≤i
  ·rw[Ρ h,Ρ Ω]
  ·rw[Χ h,Χ Ω])
instance RM:RowZ 211 (aa 8 fun _=>0):=⟨Θ⟩
section
variable {ops:Array Oper} {rest:List Oper} {o:Oper} {a:Act} {D w:ϑ} {M M':Mem} {Q:Exit→Act→ϑ→Prop}
theorem KT(I:Loc D w M)(hg:o.guard=none){s x:Operand}{t e:ϋ}(ho:o.op= .call { callee:= .builtin .append,args:= #[s,x],argTypes:= #[t,t] })[he:Elt t e](hs:a.eval s= .slice none 0 0)(hx:a.eval x= .slice none 0 0)(h:∀Z,Loc D Z M→wpList prog ops Q rest (a.put o.dst (.slice none 0 0)) Z):wpList prog ops Q (o::rest) a w:=by
 obtain⟨i,z,hi,hz,hs1,hb,hzs⟩:=he.info;exact wpList_append_own_none hg s x t ho 0 e i 1 he.und hi (.slice none 0 0) 0 [] hs (World.ownsRow_nil _ _ _ _) hx (h w I)
end
theorem gT(vb:ό)(b:Δ)(vl:ό)(l:List Int)(w:ϑ)(hb:BRow w vb b)(hb0:b=[]→vb= .slice none 0 0)(V:b.length≤100000)(hl:VRow w vl (cj l))(hl0:0<l.length)(hl1:l.length≤10000)(hr:∀x∈l,-9223372036854775808≤x∧x≤9223372036854775807) :
 ϓ 73 #[vb,vl] w fun e Z=>Fresh w (b++aW l) e Z:=by
 have I:=Loc.nil w;haveI hA:Arg w vb (ak b):=⟨hb.vrow⟩;obtain⟨_,al,cl,rfl,_,hcl⟩:=hl;obtain⟨bl,ol,rfl,hbl,hcell⟩:=hcl (by rwa[cA]);rw[cA];have HW:=Hd (fun(k:Nat) (h:k<l.length)=>show Was w bl (ol+k) (.int .i64 l[k])from⟨by rw[hcell k (by rwa[cA])];simp[cj],hbl⟩);have HR:=Hd (fun(k:Nat) (h:k<l.length)=>hr l[k] (List.getElem_mem h));have HPL:=Hd (fun k=>bp (l.take k));clear hcl hcell hr;obtain⟨pb,cb,rfl,hbn,hbp⟩:=hb;clear hbn hbp;by_cases hbe:b=[]
 ·have hv:=hb0 hbe
  have hbe':=hbe;subst hbe;cases hv
  clear hb0;go_enter func73,ntmps73;go_wp2_with (first|(refine gN 11 ?_;(refine KT I rfl rfl rfl rfl fun J Y=>?_);clear I;have I:=Y;clear Y)|refine aQp fun _ J I=>?_);go_loopw [5,6] (fun v kk wr=>∃k:Nat,k≤l.length∧kk= .int .i64 k∧((k=0∧([]:Δ)=[]∧v= .slice none 0 0∧Loc w wr [])∨((0<([]:Δ).length∨0<k)∧∃(g W:Nat) (E:Ψ),v= .slice (ϐ g) (([]:Δ).length+8*k) W∧OwnR E (([]:Δ).length+8*k) W (ak ([]++aW (l.take k)))∧Loc w wr [(g,E,5)]))) (fun _ kk _=>l.length-(intOf kk).toNat);case atStart=>exact⟨0,Ω,rfl,.inl ⟨rfl,rfl,rfl,I⟩⟩
  case round =>
   clear I;obtain⟨k,hk,rfl,hcase⟩:=hrel;by_cases hlt:k<l.length
   ·have hlt':k<l.length:=hlt
    have hk0:(0:Int)≤(k:Int):=Ω;have hk1:(k:Int)<(l.length:Int):=Ω;haveI g1:=HW.out k hlt';obtain⟨n0,n1⟩:=HR.out k hlt';have HT:=Hd (kr l hlt');generalize l[k]=n at *
    clear hlt';have HX0:=Hd (show(aa 8 fun _=>0)=aa 8 (xK n 0)from am fun i hi=>by unfold xK;rw[Χ Ω]);have HX8:=Hd (show aa 8 (xK n 8)=aa 8 (p8 n)from am fun i hi=>by unfold xK;rw[Ρ Ω]);rcases hcase with⟨rfl,hbz,rfl,I⟩|⟨hpos,g,W,E,rfl,hr,I⟩
    ·skip
     go_wp2_with (first|refine gBp 8 fun b8 J I=>?_|refine aQp fun _ J I=>?_);go_loopw [7,9] (fun nn kk wr=>∃j:Nat,j≤8∧kk= .int .i64 (7-(j:Int))∧nn= .int .i64 (n/2^(8*j))∧Loc w wr [(b8,aa 8 (xK n j),211)]) (fun _ kk _=>(intOf kk+1).toNat);case atStart=>exact⟨0,Ω,rfl,Ϡ,by rw[← HX0.out];exact I⟩
     case round =>
      clear I;obtain⟨j,hj,rfl,rfl,I⟩:=hrel;by_cases hj8:j<8
      ·have hq:=vo n hj8
       have k0:(0:Int)≤7-(j:Int):=Ω;have k1:¬7-(j:Int)<0:=Ω;have k2:7-(j:Int)<8:=Ω;have k3:(j:Int)≤7:=Ω;have ek:7-(j:Int)=((7-j:Nat):Int):=Ω;have ha:=qW (n/2^(8*j));obtain⟨v0,v1⟩:=bP (p8 n (7-j));have hv:bits .and .i64 (n/2^(8*j)) 255=B8 (p8 n (7-j)):=by rw[ha,xx,show 7-(7-j)=j from by omega]
       have wv:IntKind.u8.wrap (bits .and .i64 (n/2^(8*j)) 255)=B8 (p8 n (7-j)):=by rw[hv,X7];omega
       haveI p1:=FY n hj8;have hs:n/2^(8*j)/256=n/2^(8*(j+1)):=hq;have HS:=Hd hs;have q0:(0:Int)≤((7-j:Nat):Int):=Ω;have q1:((7-j:Nat):Int)<8:=Ω;rw[ek];have HEK:=Hd ek;clear hq ha hs ek hv k0 k1 k2;generalize B8 (p8 n (7-j))=bb at *
       generalize 7-j=jj,hnd':n/2^(8*(j+1))=nd' at *
       have HND:=Hd hnd';clear hnd';generalize n/2^(8*j)=nd at *
       go_wp2_with (refine aQp fun _ J I=>?_);go_roundw;case rel=>exact⟨j+1,Ω,by rw[show(jj:Int)-1=7-((j+1:Nat):Int)from by have:=HEK.out;omega],by rw[HND.out,HS.out],I⟩
       case measure=>simp[intOf]
      ·obtain rfl:j=8:=Ω
       rw[HX8.out]at I;rw[show(7:Int)-((8:Nat):Int)= -1 from rfl];generalize n/2^(8*8)=nd at *
       go_wp2_with (first|(refine gN 35 ?_;refine aNb ?_;intro g35 Y35 Z35 J W35 I)|refine aQp fun _ J I=>?_);go_roundw;case rel=>exact⟨0+1,Ω,by go_num,.inr ⟨.inr Ω,g35,Y35,Z35,rfl,by rw[HT.out];exact W35,(Loc.rem b8 I)⟩⟩
       case measure=>exact ϝ
    ·generalize hpre:[]++aW (l.take k)=pre at *
     have HPRE:=Hd hpre;clear hpre;generalize hm:([]:Δ).length+8*k=m at *
     have HM:=Hd hm;have hm1:m≤1000000:=Ω;clear hm;go_wp2_with (first|refine gBp 8 fun b8 J I=>?_|refine aQp fun _ J I=>?_);go_loopw [7,9] (fun nn kk wr=>∃j:Nat,j≤8∧kk= .int .i64 (7-(j:Int))∧nn= .int .i64 (n/2^(8*j))∧Loc w wr [(b8,aa 8 (xK n j),211),(g,E,5)]) (fun _ kk _=>(intOf kk+1).toNat);case atStart=>exact⟨0,Ω,rfl,Ϡ,by rw[← HX0.out];exact I⟩
     case round =>
      clear I;obtain⟨j,hj,rfl,rfl,I⟩:=hrel;by_cases hj8:j<8
      ·have hq:=vo n hj8
       have k0:(0:Int)≤7-(j:Int):=Ω;have k1:¬7-(j:Int)<0:=Ω;have k2:7-(j:Int)<8:=Ω;have k3:(j:Int)≤7:=Ω;have ek:7-(j:Int)=((7-j:Nat):Int):=Ω;have ha:=qW (n/2^(8*j));obtain⟨v0,v1⟩:=bP (p8 n (7-j));have hv:bits .and .i64 (n/2^(8*j)) 255=B8 (p8 n (7-j)):=by rw[ha,xx,show 7-(7-j)=j from by omega]
       have wv:IntKind.u8.wrap (bits .and .i64 (n/2^(8*j)) 255)=B8 (p8 n (7-j)):=by rw[hv,X7];omega
       haveI p1:=FY n hj8;have hs:n/2^(8*j)/256=n/2^(8*(j+1)):=hq;have HS:=Hd hs;have q0:(0:Int)≤((7-j:Nat):Int):=Ω;have q1:((7-j:Nat):Int)<8:=Ω;rw[ek];have HEK:=Hd ek;clear hq ha hs ek hv k0 k1 k2;generalize B8 (p8 n (7-j))=bb at *
       generalize 7-j=jj,hnd':n/2^(8*(j+1))=nd' at *
       have HND:=Hd hnd';clear hnd';generalize n/2^(8*j)=nd at *
       go_wp2_with (refine aQp fun _ J I=>?_);go_roundw;case rel=>exact⟨j+1,Ω,by rw[show(jj:Int)-1=7-((j+1:Nat):Int)from by have:=HEK.out;omega],by rw[HND.out,HS.out],I⟩
       case measure=>simp[intOf]
      ·obtain rfl:j=8:=Ω
       rw[HX8.out]at I;rw[show(7:Int)-((8:Nat):Int)= -1 from rfl];generalize n/2^(8*8)=nd at *
       go_wp2_with (first|(refine gN 35 ?_;refine aA ?_;intro g35 Y35 Z35 J W35 I)|refine aQp fun _ J I=>?_);go_roundw;case rel=>exact⟨k+1,Ω,by go_num,.inr ⟨.inr Ω,g35,Y35,Z35,by rw[show([]:Δ).length+8*(k+1)=m+8 from by have:=HM.out;omega],by rw[show([]:Δ).length+8*(k+1)=m+8 from by have:=HM.out;omega,HT.out,← Xc,HPRE.out];exact W35,(Loc.rem b8 I)⟩⟩
       case measure=>exact ϝ
   ·obtain rfl:k=l.length:=Ω
    rcases hcase with⟨hz,_,_,_⟩|⟨hpos,g,W,E,rfl,hr,I⟩
    ·omega
    ·have ht:l.take l.length=l:=List.take_length
     rw[ht]at hr;have χ:([]:Δ).length+8*l.length=([]++aW l).length:=by rw[Xa,bp]
     rw[χ]at hr ⊢;clear HW HR HPL ht χ;simp only[List.nil_append]at hr;go_wp2_with (refine aQp fun _ J I=>?_);go_ret;exact I.back rfl
 ·have hbp:0<b.length:=by
   rcases X4 b.length with h|h
   ·exact absurd (XG h) hbe
   ·exact h
  clear hb0;go_enter func73,ntmps73;go_wp2_with (first|(refine gN 11 ?_;(refine lP I rfl rfl rfl rfl hbp ϖ fun g11 Y11 Z11 J W11 Y=>?_);clear I;have I:=Y;clear Y;refine p4 ?_)|refine aQp fun _ J I=>?_);go_loopw [5,6] (fun v kk wr=>∃k:Nat,k≤l.length∧kk= .int .i64 k∧((k=0∧b=[]∧v= .slice none 0 0∧Loc w wr [])∨((0<b.length∨0<k)∧∃(g W:Nat) (E:Ψ),v= .slice (ϐ g) (b.length+8*k) W∧OwnR E (b.length+8*k) W (ak (b++aW (l.take k)))∧Loc w wr [(g,E,5)]))) (fun _ kk _=>l.length-(intOf kk).toNat);case atStart=>exact⟨0,Ω,rfl,.inr ⟨.inl hbp,g11,Y11,Z11,rfl,by simpa[aW] using W11,I⟩⟩
  case round =>
   clear I;obtain⟨k,hk,rfl,hcase⟩:=hrel;by_cases hlt:k<l.length
   ·have hlt':k<l.length:=hlt
    have hk0:(0:Int)≤(k:Int):=Ω;have hk1:(k:Int)<(l.length:Int):=Ω;haveI g1:=HW.out k hlt';obtain⟨n0,n1⟩:=HR.out k hlt';have HT:=Hd (kr l hlt');generalize l[k]=n at *
    clear hlt';have HX0:=Hd (show(aa 8 fun _=>0)=aa 8 (xK n 0)from am fun i hi=>by unfold xK;rw[Χ Ω]);have HX8:=Hd (show aa 8 (xK n 8)=aa 8 (p8 n)from am fun i hi=>by unfold xK;rw[Ρ Ω]);rcases hcase with⟨rfl,hbz,rfl,I⟩|⟨hpos,g,W,E,rfl,hr,I⟩
    ·rw[hbz]at hbp
     exact absurd hbp Ϡ
    ·generalize hpre:b++aW (l.take k)=pre at *
     have HPRE:=Hd hpre;clear hpre;generalize hm:b.length+8*k=m at *
     have HM:=Hd hm;have hm1:m≤1000000:=Ω;clear hm;go_wp2_with (first|refine gBp 8 fun b8 J I=>?_|refine aQp fun _ J I=>?_);go_loopw [7,9] (fun nn kk wr=>∃j:Nat,j≤8∧kk= .int .i64 (7-(j:Int))∧nn= .int .i64 (n/2^(8*j))∧Loc w wr [(b8,aa 8 (xK n j),211),(g,E,5)]) (fun _ kk _=>(intOf kk+1).toNat);case atStart=>exact⟨0,Ω,rfl,Ϡ,by rw[← HX0.out];exact I⟩
     case round =>
      clear I;obtain⟨j,hj,rfl,rfl,I⟩:=hrel;by_cases hj8:j<8
      ·have hq:=vo n hj8
       have k0:(0:Int)≤7-(j:Int):=Ω;have k1:¬7-(j:Int)<0:=Ω;have k2:7-(j:Int)<8:=Ω;have k3:(j:Int)≤7:=Ω;have ek:7-(j:Int)=((7-j:Nat):Int):=Ω;have ha:=qW (n/2^(8*j));obtain⟨v0,v1⟩:=bP (p8 n (7-j));have hv:bits .and .i64 (n/2^(8*j)) 255=B8 (p8 n (7-j)):=by rw[ha,xx,show 7-(7-j)=j from by omega]
       have wv:IntKind.u8.wrap (bits .and .i64 (n/2^(8*j)) 255)=B8 (p8 n (7-j)):=by rw[hv,X7];omega
       haveI p1:=FY n hj8;have hs:n/2^(8*j)/256=n/2^(8*(j+1)):=hq;have HS:=Hd hs;have q0:(0:Int)≤((7-j:Nat):Int):=Ω;have q1:((7-j:Nat):Int)<8:=Ω;rw[ek];have HEK:=Hd ek;clear hq ha hs ek hv k0 k1 k2;generalize B8 (p8 n (7-j))=bb at *
       generalize 7-j=jj,hnd':n/2^(8*(j+1))=nd' at *
       have HND:=Hd hnd';clear hnd';generalize n/2^(8*j)=nd at *
       go_wp2_with (refine aQp fun _ J I=>?_);go_roundw;case rel=>exact⟨j+1,Ω,by rw[show(jj:Int)-1=7-((j+1:Nat):Int)from by have:=HEK.out;omega],by rw[HND.out,HS.out],I⟩
       case measure=>simp[intOf]
      ·obtain rfl:j=8:=Ω
       rw[HX8.out]at I;rw[show(7:Int)-((8:Nat):Int)= -1 from rfl];generalize n/2^(8*8)=nd at *
       go_wp2_with (first|(refine gN 35 ?_;refine aA ?_;intro g35 Y35 Z35 J W35 I)|refine aQp fun _ J I=>?_);go_roundw;case rel=>exact⟨k+1,Ω,by go_num,.inr ⟨.inr Ω,g35,Y35,Z35,by rw[show b.length+8*(k+1)=m+8 from by have:=HM.out;omega],by rw[show b.length+8*(k+1)=m+8 from by have:=HM.out;omega,HT.out,← Xc,HPRE.out];exact W35,(Loc.rem b8 I)⟩⟩
       case measure=>exact ϝ
   ·obtain rfl:k=l.length:=Ω
    rcases hcase with⟨hz,_,_,_⟩|⟨hpos,g,W,E,rfl,hr,I⟩
    ·omega
    ·have ht:l.take l.length=l:=List.take_length
     rw[ht]at hr;have χ:b.length+8*l.length=(b++aW l).length:=by rw[Xa,bp]
     rw[χ]at hr ⊢;clear HW HR HPL ht χ;go_wp2_with (refine aQp fun _ J I=>?_);go_ret;exact I.back rfl
instance RN:Ent 73:=eo func73
theorem eU(n:Int):cj [n]=[.int .i64 n]:=rfl
theorem xz(w:ϑ):BRow w (.slice none 0 0) []:=⟨none,0,rfl,fun _=>rfl,fun h=>absurd h Ϡ⟩
theorem qX(n:Int)(w:ϑ)(h: -9223372036854775808≤n∧n≤9223372036854775807):ϓ 30 #[.int .i64 n] w fun e Z=>Fresh w (aM n) e Z:=by
 have I:=Loc.nil w;have HI:=Hd (fun J (v:ό) (hv:VRow J v (cj [n]))=>gT (.slice none 0 0) [] v [n] J (xz J) (fun _=>rfl) Ϡ hv Ϡ Ϡ (fun x hx=>by rw[List.mem_singleton.1 hx];exact h));rw[show[]++aW [n]=aM n from by unfold aW;simp,eU]at HI;go_enter func30,ntmps30;go_wp2_with (first|(refine gN 4 ?_;refine aL fun b4 J I=>?_)|(go_at_call 73;go_loud (refine(HI.out _ _ (See.see _ I)).mono ?_);rintro e J⟨g5,Y5,Z5,rfl,W5,hg5,hc5,hb5⟩;have Y:=I.fresh hb5 hg5 hc5;clear hb5 hg5 hc5;clear I;have I:=Y;clear Y;refine p4 ?_)|refine aQp fun _ J I=>?_);go_ret;exact I.back rfl
instance RO:Ent 30:=eo func30
section
variable {ops:Array Oper} {rest:List Oper} {o:Oper} {a:Act} {D w:ϑ} {M M':Mem} {Q:Exit→Act→ϑ→Prop}
theorem FZ:OwnR #[] 0 0 []:=⟨rfl,fun u hu=>(Yc hu).elim,rfl,Xn _,Ξ,rfl⟩
instance Og:OwnR #[] 0 0 (ak []):=FZ
theorem Nl(I:Loc D w M)(hg:o.guard=none){t e:ϋ}(ho:o.op= .buildSlice t 0 #[])[he:Elt t e](h:∀b Z,Loc D Z ((b, #[],e)::M)→wpList prog ops Q rest (a.put o.dst (.slice (ϐ b) 0 0)) Z):wpList prog ops Q (o::rest) a w :=
 Xt hg fun K T=>by
  obtain⟨i,z,hi,hz,hs1,hb,hzs⟩:=he.info;have hrun:(Instr.buildSlice t 0 #[]).run prog w= .ok (.slice (some ⟨w.heap.size,0,none⟩) 0 0) (w.alloc (.cells #[] e)):=by
   have e0:Array.range 0= #[]:=rfl;simp[Instr.buildSlice,run_underlying he.und,sizeOf,typeInfo,hi,Instr.fill,newRow,e0]
  unfold Oper.wp execOp;simp only[ho,Sem.run_bind,List.map_toArray,List.map_nil,hrun,Result.andThen_ok,Sem.run_pure];exact T _ _ (h _ _ (I.alloc #[] e))
end
theorem IR(w:ϑ):(binOp .eql 29 (.slice none 0 0) (.slice none 0 0)).run prog w= .ok (.bool true) w:=Θ
theorem F1(a:Addr)(n c:Nat)(w:ϑ):(binOp .eql 29 (.slice (some a) n c) (.slice none 0 0)).run prog w= .ok (.bool false) w:=Θ
theorem eD(v:ό)(b:Δ)(w:ϑ)(hb:BRow w v b)(h0:0<b.length)(h1:b.length≤1000000):ϓ 94 #[v] w fun e Z=>Fresh w b e Z:=by
 have I:=Loc.nil w;haveI hA:Arg w v (ak b):=⟨hb.vrow⟩;obtain⟨a,c,rfl,hn,hp⟩:=hb;obtain⟨bb,off,rfl,_,_⟩:=hp h0;clear hn hp;have he:=F1;go_enter func94,ntmps94;go_wp2_with (first|((refine gN 5 ?_);(refine Nl I rfl rfl fun b5 J Y=>?_);clear I;have I:=Y;clear Y)|(refine gN 7 ?_;refine aA ?_;intro g7 Y7 Z7 J W7 I)|refine aQp fun _ J I=>?_);rw[XA,List.nil_append]at W7;go_ret;exact I.back (g:=g7) (W:=Y7) Ϡ
instance RP:Ent 94:=eo func94
theorem iW(w:ϑ):ϓ 94 #[.slice none 0 0] w fun e Z=>e= .returned (.slice none 0 0)∧w=Z:=by
 have he:=IR;go_enter func94,ntmps94;go_wp2;go_ret;exact⟨rfl,rfl⟩
theorem Nm(n:Int){j:Nat}(h:j<8):IntKind.u8.wrap (IntKind.u64.wrap n/2^(8*(7-j)))=B8 (p8 n j):=by
 rw[xx,X7,XM];have hj:j=0∨j=1∨j=2∨j=3∨j=4∨j=5∨j=6∨j=7:=Ω;rcases hj with rfl|rfl|rfl|rfl|rfl|rfl|rfl|rfl <;> simp only[Nat.reduceSub,Nat.reduceMul,Int.reducePow] <;> omega
theorem qY(n:Int){j:Nat}(h:j<8):(aM n).take (j+1)=(aM n).take j++[p8 n j]:=by
 rw[Xo (by rw[aw];exact h)];simp[aM,ae]
theorem cB(vb:ό)(b:Δ)(vl:ό)(l:List Int)(w:ϑ)(hb:BRow w vb b)(hb0:0<b.length)(V:b.length≤100000)(hl:VRow w vl (cj l))(hl1:l.length≤10000) :
 ϓ 202 #[vb,vl] w fun e Z=>Fresh w (b++aW l) e Z:=by
 have I:=Loc.nil w;have HC:=Hd (eD vb b w hb hb0 Ω);obtain⟨_,al,cl,rfl,_,hcl⟩:=hl;rw[cA];have HW:=Hd (fun(k:Nat) (h:k<l.length)=>show ∃bl ol,al=some ⟨bl,ol,none⟩∧Was w bl (ol+k) (.int .i64 l[k])from by
  obtain⟨bl,ol,e,hbl,hcell⟩:=hcl (by rw[cA];omega);exact⟨bl,ol,e,by rw[hcell k (by rwa[cA])];simp[cj],hbl⟩)
 clear hcl hb;go_enter func202,ntmps202;go_wp2_with (first|(go_at_call 94;go_loud (refine(HC.out).mono ?_);rintro e J⟨g11,Y11,Z11,rfl,W11,hg11,hc11,hb11⟩;have Y:=I.fresh hb11 hg11 hc11;clear hb11 hg11 hc11;clear I;have I:=Y;clear Y;refine p4 ?_)|refine aQp fun _ J I=>?_);go_loopw [5,14] (fun v kk wr=>∃(k g W:Nat) (E:Ψ),k≤l.length∧kk= .int .i64 k∧v= .slice (ϐ g) (b.length+8*k) W∧OwnR E (b.length+8*k) W (ak (b++aW (l.take k)))∧Loc w wr [(g,E,5)]) (fun _ kk _=>l.length-(intOf kk).toNat);case atStart=>exact⟨0,g11,Y11,Z11,Ω,rfl,rfl,by simpa[aW] using W11,I⟩
 case round =>
  clear I;obtain⟨k,g,W,E,hk,rfl,rfl,hr,I⟩:=hrel;by_cases hlt:k<l.length
  ·have hk0:(0:Int)≤(k:Int):=Ω
   have hk1:(k:Int)<(l.length:Int):=Ω;obtain⟨bl,ol,e,g1⟩:=HW.out k hlt;rw[e];have HT:=Hd (kr l hlt);generalize l[k]=n at *
   generalize hpre:b++aW (l.take k)=pre at *
   have HPRE:=Hd hpre;clear hpre;generalize hm:b.length+8*k=m at *
   have HM:=Hd hm;have hm1:m≤1000000:=Ω;clear hm e;have HP8:=Hd (fun j (h:j<8)=>Nm n h);have HPT:=Hd (fun j (h:j<8)=>qY n h);have HP0:=Hd (show(aM n).take 0=[]from rfl);have HPF:=Hd (show(aM n).take 8=aM n from Xq (by rw[aw];exact Xn _));go_wp2_with (refine aQp fun _ J I=>?_);generalize IntKind.u64.wrap n=u at *
   go_loopw [5,9] (fun v kk wr=>∃(j g W:Nat) (E:Ψ),j≤8∧kk= .int .i64 (7-(j:Int))∧v= .slice (ϐ g) (m+j) W∧OwnR E (m+j) W (ak (pre++(aM n).take j))∧Loc w wr [(g,E,5)]) (fun _ kk _=>(intOf kk+1).toNat);case atStart=>exact⟨0,g,W,E,Ω,rfl,rfl,by rw[HP0.out,Yf];exact hr,I⟩
   case round =>
    clear I hr;obtain⟨j,g,W,E,hj,rfl,rfl,hr,I⟩:=hrel;by_cases hj8:j<8
    ·have e8:=HP8.out j hj8
     rw[X7]at e8;have ht:=HPT.out j hj8;have HT2:=Hd ht;clear ht;have k0:(0:Int)≤7-(j:Int):=Ω;have k1:7-(j:Int)≤7:=Ω;have hm2:m+j≤2000000:=Ω;have k2:¬8*(7-(j:Int))<0:=Ω;have k3:8*(7-(j:Int))<64:=Ω;have e9:(8*(7-(j:Int))).toNat=8*(7-j):=Ω;generalize hs:p8 n j=bb at *
     generalize hq:(aM n).take j=pj,hq':(aM n).take (j+1)=pj',hm':m+j=mj at *
     have HM2:=Hd hm';have HQ:=Hd hq';clear hq hq' hm' hs;generalize hk':7-(j:Int)=kk at *
     have HK:=Hd hk';clear hk';generalize 8*(7-j)=sh at *
     go_wp2_with (first|((refine gN 30 ?_);rw[e8];(refine wP I rfl rfl rfl fun b30 J Y=>?_);clear I;have I:=Y;clear Y)|(refine gN 31 ?_;refine aA ?_;intro g31 Y31 Z31 J W31 I)|refine aQp fun _ J I=>?_);go_roundw;case rel=>exact⟨j+1,g31,Y31,Z31,Ω,by rw[show kk-1=7-((j+1:Nat):Int)from by have:=HK.out;omega],by rw[← HM2.out];rfl,by rw[← HM2.out]at W31;rw[HQ.out,HT2.out,← Xc];exact W31,Loc.rem b30 I⟩
     case measure=>exact ϝ
    ·obtain rfl:j=8:=Ω
     rw[show(7:Int)-((8:Nat):Int)= -1 from rfl];rw[HPF.out,← HPRE.out,Xc,← HT.out]at hr;rw[← HM.out,show b.length+8*k+8=b.length+8*(k+1)from by omega]at hr ⊢;go_wp2_with (refine aQp fun _ J I=>?_);go_roundw;case rel=>exact⟨k+1,g,W,E,Ω,by go_num,rfl,hr,I⟩
     case measure=>exact ϝ
  ·obtain rfl:k=l.length:=Ω
   have ht:l.take l.length=l:=List.take_length;rw[ht]at hr;have χ:b.length+8*l.length=(b++aW l).length:=by rw[Xa,bp]
   rw[χ]at hr ⊢;clear HW ht χ;go_wp2_with (refine aQp fun _ J I=>?_);go_ret;exact I.back rfl
instance WN:Ent 202:=eo func202
class One(v:ό):Prop where
 one:v.oneCell'=true
instance RQ(d:IntKind)(n:Int):One (.int d n):=⟨rfl⟩
instance RS(p:ϊ)(n c:Nat):One (.slice p n c):=⟨rfl⟩
instance RT(b:Bool):One (.bool b):=⟨rfl⟩
class CellL(l:List Value)(k:Nat)(v:outParam Value):Prop where
 cell:l[k]?=some v
instance RU(a:ό)(l:List Value):CellL (a::l) 0 a:=⟨rfl⟩
instance RV(a:ό)(l:List Value)(k:Nat)(v:ό)[h:CellL l k v]:CellL (a::l) (k+1) v:=⟨by simpa using h.cell⟩
instance RW(l:List Value)(k:Nat)(v:ό)[h:CellL l k v]:Cell l.toArray k v:=⟨by simpa using h.cell⟩
class PutL(l:List Value)(k:Nat)(v:ό)(l':outParam (List Value)):Prop where
 put:l.set k v=l'
 lt:k<l.length
instance RX(a v:ό)(l:List Value):PutL (a::l) 0 v (v::l):=⟨rfl,Ϡ⟩
instance RY(a v:ό)(l l':List Value)(k:Nat)[h:PutL l k v l']:PutL (a::l) (k+1) v (a::l'):=⟨by simp[h.put],by have:=h.lt;simp;omega⟩
instance Pd(l l':List Value)(k:Nat)(v:ό)[h:PutL l k v l']:Put l.toArray k v l'.toArray:=⟨by simp[h.put],by simpa using h.lt⟩
class RowL(l:List Value)(n:outParam Nat):Prop where
 len:l.length=n
 one:∀u∈l,u.oneCell'=true
instance Pf:RowL [] 0:=⟨rfl,fun u hu=>(Yc hu).elim⟩
instance Pg(a:ό)(l:List Value)(n:Nat)[ha:One a][h:RowL l n]:RowL (a::l) (n+1):=⟨by simp[h.len],fun u hu=>by
 rcases List.mem_cons.1 hu with rfl|hu
 ·exact ha.one
 ·exact h.one u hu⟩
theorem IS{l:List Value}{n:Nat}[h:RowL l n]:Row1 l.toArray n:=⟨by simpa using h.len,by simpa using h.one⟩
instance Ph(a:ό)(l:List Value)(n:Nat)[h:RowL (a::l) n]:Row1 (a::l).toArray n:=IS
instance Pi:ScTy 4:=⟨fun w=>by kernel_rfl,Θ⟩
instance Pj:ScTy 29:=⟨fun w=>by kernel_rfl,Θ⟩
instance Pk:ScTy 53:=⟨fun w=>by kernel_rfl,Θ⟩
section
variable {ops:Array Oper} {rest:List Oper} {o:Oper} {a:Act} {D w:ϑ} {M M':Mem} {Q:Exit→Act→ϑ→Prop}
theorem lTg(I:Loc D w M)(hg:o.guard=none){t:ϋ}{x y:Operand}(ho:o.op= .store t x y)(hd:o.dst=none){b k:Nat}(hx:a.eval x= .pointer (some ⟨b,k,none⟩)){v:ό}(hy:a.eval y=v)(h1:v.oneCell'=true){r s:Ψ}{u:ϋ}[ht:ScTy t][hm:At M b r u][hp:Put r k v s][hu:Ups M b s M'](h:∀Z,Loc D Z M'→wpList prog ops Q rest a Z):wpList prog ops Q (o::rest) a w :=
 Xt hg fun K T=>by
  unfold Oper.wp execOp;have hs:=jf (t:=t) (w:=w) (b:=b) (k:=k) (v:=v) (by rw[Ya w b k _ _ _ (I.get hm.mem),Array.getElem?_eq_getElem hp.lt];rfl) (Xi w _ _ _ _ (I.get hm.mem)) h1;simp only[ho,hx,hy,Instr.storeAt,Instr.sureAddr,Sem.run_bind,Sem.run_pure,Result.andThen_ok,hs];have:=h _ (I.put v hm.mem (by rw[hp.put];exact hu.upd));refine T _ _ ?_;rw[hd];exact this
theorem lTs(I:Loc D w M)(hg:o.guard=none){t:ϋ}{x y:Operand}(ho:o.op= .store t x y)(hd:o.dst=none){b k:Nat}(hx:a.eval x= .pointer (some ⟨b,k,none⟩)){p:ϊ}{n c:Nat}(hy:a.eval y= .slice p n c){r s:Ψ}{u:ϋ}[ht:ScTy t][hm:At M b r u][hp:Put r k (.slice p n c) s][hu:Ups M b s M'](h:∀Z,Loc D Z M'→wpList prog ops Q rest a Z):wpList prog ops Q (o::rest) a w:=lTg I hg ho hd hx hy rfl h
theorem lTb(I:Loc D w M)(hg:o.guard=none){t:ϋ}{x y:Operand}(ho:o.op= .store t x y)(hd:o.dst=none){b k:Nat}(hx:a.eval x= .pointer (some ⟨b,k,none⟩)){d:Bool}(hy:a.eval y= .bool d){r s:Ψ}{u:ϋ}[ht:ScTy t][hm:At M b r u][hp:Put r k (.bool d) s][hu:Ups M b s M'](h:∀Z,Loc D Z M'→wpList prog ops Q rest a Z):wpList prog ops Q (o::rest) a w:=lTg I hg ho hd hx hy rfl h
theorem lTp(I:Loc D w M)(hg:o.guard=none){t:ϋ}{x y:Operand}(ho:o.op= .store t x y)(hd:o.dst=none){b k:Nat}(hx:a.eval x= .pointer (some ⟨b,k,none⟩)){p:ϊ}(hy:a.eval y= .pointer p){r s:Ψ}{u:ϋ}[ht:ScTy t][hm:At M b r u][hp:Put r k (.pointer p) s][hu:Ups M b s M'](h:∀Z,Loc D Z M'→wpList prog ops Q rest a Z):wpList prog ops Q (o::rest) a w:=lTg I hg ho hd hx hy rfl h
end
section
variable {ops:Array Oper} {rest:List Oper} {o:Oper} {a:Act} {D w:ϑ} {M M':Mem} {Q:Exit→Act→ϑ→Prop}
theorem mZ(hg:o.guard=none){f:FuncId}{xs:Array Operand}{ts:Array TypeId}(ho:o.op= .call { callee:= .value (.func f),args:=xs,argTypes:=ts })[he:Ent f]{l:List Value}(hc:ϓ f l.toArray w fun e Z=>∃v,e= .returned v∧wpList prog ops Q rest (a.put o.dst v) Z)(hx:xs.toList.map a.eval=l):wpList prog ops Q (o::rest) a w :=
 Xt hg fun K T=>by
  unfold Oper.wp;have e:xs.map a.eval=l.toArray:=by rw[← ZK,ZJ];exact hx
  rw[lx ho rfl w,e,Zz];refine hc.mono fun e Z hh=>?_;obtain⟨v,rfl,h⟩:=hh;exact T _ _ h
end
theorem Loc.join{D w Z:ϑ}{M N:Mem}(h:Loc D w M)(hN:Loc w Z N):Loc D Z (N++M):=by
 refine⟨h.bel.trans (hN.bel.mono h.bel.size),fun b r t hm=>?_,?_⟩
 ·rcases List.mem_append.1 hm with hm|hm
  ·exact⟨ZD h.bel.size (hN.ge hm),hN.get hm⟩
  ·exact⟨h.ge hm,(hN.bel.block b (h.lt hm)).trans (h.get hm)⟩
 ·rw[XQ,Zf]
  refine⟨hN.nd,h.nd,fun x hx y hy=>?_⟩;obtain⟨⟨b,r,t⟩,hb,rfl⟩:=List.mem_map.1 hx;obtain⟨⟨c,s,u⟩,hc,rfl⟩:=List.mem_map.1 hy;have:=hN.ge hb;have:=h.lt hc;simp only;omega
theorem Seg.drop{r:Ψ}{off n:Nat}{l:Δ}(h:Seg r off n (ak l))(m:Nat)(hm:m≤n):Seg r (off+m) (n-m) (ak (l.drop m)) where
 len:=by have:=h.len;rw[ap]at *; rw[Xz,this]
 one:=bY _
 seg:=fun i hi=>by
  rw[ap,Xz]at hi;have:=h.seg (m+i) (by rw[ap];omega);rw[XT,this];simp[ak]
theorem Seg.take{r:Ψ}{off n:Nat}{l:Δ}(h:Seg r off n (ak l))(m:Nat)(hm:m≤n):Seg r off m (ak (l.take m)) where
 len:=by have:=h.len;rw[ap]at *; rw[Xr,this];omega
 one:=bY _
 seg:=fun i hi=>by
  rw[ap,Xr]at hi;have:=h.seg i (by rw[ap];omega);rw[this];simp[ak]
theorem OwnR.segB{E:Ψ}{n W:Nat}{l:Δ}(h:OwnR E n W (ak l)):Seg E 0 n (ak l):=by
 have:=h.seg 0 n Ω;have hl:=h.1;rw[List.drop_zero,Xq Ω]at this;exact this
def vp(rest:Code)(l:Nat)(Q:Exit→Act→ϑ→Prop)(a:Act)(w:ϑ):Prop:=rest.wp prog (Exit.jump l (fun _ _=>False) Q) a w
theorem fN{c rest:Code}{Q:Exit→Act→ϑ→Prop}{a:Act}{w:ϑ}(l:Nat)(hf:findLabel c l=some (Code.skip.seq rest))(h:c.wp prog (Exit.jump l (vp rest l Q) Q) a w):(Code.scope c).wp prog Q a w :=
 it l (vp rest l Q) (fun _ _=>0) hf (fun a w hJ=>Code.wp_mono (fun e a w q=>by
  cases e with
  | goto l'=>exact q.2.elim
  | normal=>exact q
  | exit id=>exact q
  | ret=>exact q
  | panic ch=>exact q
  | outgrown=>exact q) hJ) (fun _=>h)
class Held(S:ϑ→Prop)(b:Nat)(r:outParam Ψ)(u:outParam TypeId):Prop where
 get:∀w,S w→w.heap[b]?=some (.cells r u (0,0))
instance RZ(D:ϑ)(M:Mem)(b:Nat)(r:Ψ)(u:ϋ)[h:At M b r u]:Held (fun w=>Loc D w M) b r u:=⟨fun w hS=>hS.get h.mem⟩
instance R4(D:ϑ)(M:Ψ→Mem)(b:Nat)(r:Ψ)(u:ϋ)[h:∀x,At (M x) b r u]:Held (fun w=>∃x,Loc D w (M x)) b r u:=⟨fun w ⟨x,hS⟩=>hS.get (h x).mem⟩
section
variable {ops:Array Oper} {o:Oper} {a:Act} {D w:ϑ} {M M' M1:Mem} {S:ϑ→Prop} {Q:Exit→Act→ϑ→Prop} {K:Act→ϑ→Prop}
theorem zL(hw:Region.wanted o (yielded ops a.tmps)=true){t:ϋ}{x:Operand}(ho:o.op= .load t x){b k:Nat}(hx:a.eval x= .pointer (some ⟨b,k,none⟩)){r s:Ψ}{u:ϋ}{n:Nat}[ht:RowTy t n][hm:Held S b r u][hp:Part r u k t s][hr:Row1 s n] :
 YieldsIf prog ops S o (.agg s) a:=by
 obtain⟨d,h1,h2⟩:=ht.und;have:=yieldsIf_load_mid (P:=prog) (ops:=ops) (S:=S) (op:=o) (a:=a) hw t x ho b k hx s.toList d (fun w h=>eJ (hm.get w h) fun j v hv=>hp.part j v hv) h1 h2 (by rw[ht.size,Yq,hr.size]);simpa only[YO] using this
theorem zI(hw:Region.wanted o (yielded ops a.tmps)=true){t:ϋ}{x:Operand}(ho:o.op= .load t x){b k:Nat}(hx:a.eval x= .pointer (some ⟨b,k,none⟩)){r:Ψ}{u:ϋ}{v:ό}[ht:ScTy t][hm:Held S b r u][hc:Cell r k v] :
 YieldsIf prog ops S o v a:= .inl ⟨hw,fun w hS=>by
 unfold execOp;have:=cO (t:=t) (w:=w) (b:=b) (k:=k) (v:=v) (by rw[Ya w b k _ _ _ (hm.get w hS)];exact hc.cell);simp only[ho,hx,Instr.loadAt,Instr.sureAddr,Sem.run_bind,Sem.run_pure,Result.andThen_ok,this]⟩
theorem zU(hw:Region.wanted o (yielded ops a.tmps)=true){t:ϋ}{ps:Array (Nat×Operand)}(ho:o.op= .build t ps){vs:Array (Nat×ό)}{r:Ψ}(hb:∀w,(Instr.build t vs).run prog w= .ok (.agg r) w)(hv:(ps.toList.map fun x=>(x.1,a.eval x.2))=vs.toList) :
 YieldsIf prog ops S o (.agg r) a:= .inl ⟨hw,fun w _=>by
 have hv:(ps.map fun x=>(x.1,a.eval x.2))=vs:=by rw[← ZK,ZJ];exact hv
 subst hv;unfold execOp;simp only[ho,Sem.run_bind,hb,Result.andThen_ok,Sem.run_pure]⟩
theorem eB(I:Loc D w M){t:ϋ}{x:Operand}(ho:o.op= .box t x){r:Ψ}(hx:a.eval x= .agg r)(h:∀b Z,Loc D Z ((b,r,t)::M)→K (a.put o.dst (.pointer (ϐ b))) Z):o.wp prog a w K Q:=by
 unfold Oper.wp execOp;simp only[ho,hx,Sem.run_bind,Instr.box,newVar,newRow,run_newObj_alloc,Sem.run_pure,Result.andThen_ok];exact h _ _ (I.alloc r t)
theorem eTg(I:Loc D w M){t:ϋ}{x y:Operand}(ho:o.op= .store t x y){b k:Nat}(hx:a.eval x= .pointer (some ⟨b,k,none⟩)){v:ό}(hy:a.eval y=v)(h1:v.oneCell'=true){r s:Ψ}{u:ϋ}[ht:ScTy t][hm:At M b r u][hp:Put r k v s][hu:Ups M b s M'](h:∀Z,Loc D Z M'→K (a.put o.dst undef) Z):o.wp prog a w K Q:=by
 have hs:=jf (t:=t) (w:=w) (b:=b) (k:=k) (v:=v) (by rw[Ya w b k _ _ _ (I.get hm.mem),Array.getElem?_eq_getElem hp.lt];rfl) (Xi w _ _ _ _ (I.get hm.mem)) h1;unfold Oper.wp execOp;simp only[ho,hx,hy,Instr.storeAt,Instr.sureAddr,Sem.run_bind,Sem.run_pure,Result.andThen_ok,hs];exact h _ (I.put v hm.mem (by rw[hp.put];exact hu.upd))
theorem eT(I:Loc D w M){t:ϋ}{x y:Operand}(ho:o.op= .store t x y){b k:Nat}(hx:a.eval x= .pointer (some ⟨b,k,none⟩)){d:IntKind}{n:Int}(hy:a.eval y= .int d n){r s:Ψ}{u:ϋ}[ht:ScTy t][hm:At M b r u][hp:Put r k (.int d n) s][hu:Ups M b s M'](h:∀Z,Loc D Z M'→K (a.put o.dst undef) Z):o.wp prog a w K Q:=eTg I ho hx hy rfl h
theorem eTs(I:Loc D w M){t:ϋ}{x y:Operand}(ho:o.op= .store t x y){b k:Nat}(hx:a.eval x= .pointer (some ⟨b,k,none⟩)){p:ϊ}{n c:Nat}(hy:a.eval y= .slice p n c){r s:Ψ}{u:ϋ}[ht:ScTy t][hm:At M b r u][hp:Put r k (.slice p n c) s][hu:Ups M b s M'](h:∀Z,Loc D Z M'→K (a.put o.dst undef) Z):o.wp prog a w K Q:=eTg I ho hx hy rfl h
theorem eTb(I:Loc D w M){t:ϋ}{x y:Operand}(ho:o.op= .store t x y){b k:Nat}(hx:a.eval x= .pointer (some ⟨b,k,none⟩)){d:Bool}(hy:a.eval y= .bool d){r s:Ψ}{u:ϋ}[ht:ScTy t][hm:At M b r u][hp:Put r k (.bool d) s][hu:Ups M b s M'](h:∀Z,Loc D Z M'→K (a.put o.dst undef) Z):o.wp prog a w K Q:=eTg I ho hx hy rfl h
theorem eTp(I:Loc D w M){t:ϋ}{x y:Operand}(ho:o.op= .store t x y){b k:Nat}(hx:a.eval x= .pointer (some ⟨b,k,none⟩)){p:ϊ}(hy:a.eval y= .pointer p){r s:Ψ}{u:ϋ}[ht:ScTy t][hm:At M b r u][hp:Put r k (.pointer p) s][hu:Ups M b s M'](h:∀Z,Loc D Z M'→K (a.put o.dst undef) Z):o.wp prog a w K Q:=eTg I ho hx hy rfl h
theorem BP(I:Loc D w M){rest:List Oper}(hg:o.guard=none){t e:ϋ}{x y:Operand}(ho:o.op= .buildSlice t 2 #[(0,x),(1,y)])[he:Elt t e]{d d':IntKind}{n n':Int}(hx:a.eval x= .int d n)(hy:a.eval y= .int d' n')(h:∀b Z,Loc D Z ((b, #[.int d n,.int d' n'],e)::M)→wpList prog ops Q rest (a.put o.dst (.slice (ϐ b) 2 2)) Z):wpList prog ops Q (o::rest) a w:=Mv I hg ho hx hy rfl rfl h
theorem Nn(I:Loc D w M){t e:ϋ}{x y:Operand}(ho:o.op= .buildSlice t 2 #[(0,x),(1,y)])[he:Elt t e]{d d':IntKind}{n n':Int}(hx:a.eval x= .int d n)(hy:a.eval y= .int d' n')(h:∀b Z,Loc D Z ((b, #[.int d n,.int d' n'],e)::M)→K (a.put o.dst (.slice (ϐ b) 2 2)) Z):o.wp prog a w K Q:=by
 obtain⟨i,z,hi,hz,hs1,hb,hzs⟩:=he.info;refine Yl t e 2 #[(0,x),(1,y)] ho #[.int d n,.int d' n'] i z he.und hi hz (by rw[hs1];decide) (by rw[hs1];decide) ?_ (h _ _ (I.alloc #[.int d n,.int d' n'] e));rw[hs1];have e:(Array.map (fun(y:Nat×Operand)=>(y.1,a.eval y.2)) #[(0,x),(1,y)]).toList=[(0,Value.int d n),(1,Value.int d' n')]:=by simp[hx,hy]
 rw[e];have e1:Array.range 2= #[0,1]:=rfl;simp[Instr.fill,Value.cells,e1]
end
def pkF(κ:Δ)(x:Γ):Nat→Γ:=fun i=>κ.getD i 0^^^x
def qZ(κ:Δ)(x:Γ):Δ:=ae 64 (pkF κ x)
def ib(κ m:Δ):Nat→Γ:=sha (qZ κ 92++ae 32 (sha (qZ κ 54++m)))
def iX(κ:Δ)(x:Γ)(k:Nat):Nat→Γ:=fun i=>if i<k then κ.getD i 0^^^x else κ.getD i 0
theorem Ac(l:Δ):ae l.length (fun i=>l.getD i 0)=l:=by
 unfold ae;apply Zr
 ·simp
 ·intro i h1 h2
  simp[h2]
theorem vq(κ:Δ)(x:Γ)(h:κ.length≤64):Spl (aa 64 fun _=>0) 0 (ak κ) (aa 64 (iX κ x 0)):=by
 have:=k6 (n:=64) (off:=0) (m:=κ.length) (fun _=>0) (fun i=>κ.getD i 0) (iX κ x 0) Ω fun i hi=>by
  unfold iX;rw[Χ (by omega:¬i<0)];split
  ·rfl
  ·rw[List.getD_eq_getElem?_getD,List.getElem?_eq_none Ω];rfl
 rwa[Ac]at this
theorem vr(κ:Δ)(x:Γ){k:Nat}(h:k<64):Put (aa 64 (iX κ x k)) k (.int .u8 (B8 (κ.getD k 0^^^x))) (aa 64 (iX κ x (k+1))):=bm h (am fun i hi=>by
 unfold upd iX;by_cases e:i=k
 ·subst e;rw[Ρ rfl,Ρ Ω]
 ·rw[Χ e]
  show Value.int .u8 (B8 (if i<k then κ.getD i 0^^^x else κ.getD i 0))=_;by_cases h:i<k
  ·rw[Ρ h,Ρ Ω]
  ·rw[Χ h,Χ Ω])
theorem ra(κ:Δ)(x:Γ){k:Nat}(h:k<64):Cell (aa 64 (iX κ x k)) k (.int .u8 (B8 (κ.getD k 0))):=⟨by
 rw[show(aa 64 (iX κ x k))[k]?=some (.int .u8 (B8 (iX κ x k k)))from bG _ h];unfold iX;rw[Χ Ω]⟩
theorem rb(κ:Δ)(x:Γ):(aa 64 (iX κ x 64))=aa 64 (pkF κ x):=gS fun i hi=>by
 unfold iX;rw[Ρ hi];rfl
theorem F2(f:Φ):OwnR (aa 64 f) 64 64 (ak (ae 64 f)):=⟨by rw[ap,ag],bY _,ai ..,Xn _,Ξ,by
 rw[Xq ϔ];unfold ak ae aa row;simp[List.map_map,Function.comp_def]⟩
theorem KU(p:ϊ)(n c:Nat):OwnR #[.slice p n c] 1 1 [.slice p n c]:=⟨rfl,fun u hu=>by obtain rfl:=List.mem_singleton.1 hu;rfl,rfl,Xn _,Ξ,rfl⟩
theorem Ad{w:ϑ}{v u:ό}{us:List Value}{m:Δ}{ms:List Δ}(h:VRow w v (u::us))(h0:BRow w u m)(hl:us.length=ms.length)(hb:∀(i:Nat) (h1:i<us.length) (h2:i<ms.length),BRow w us[i] ms[i]):BRows w v (m::ms) :=
 xw h (by simp[hl]) fun i h1 h2=>by
  cases i with
  | zero=>exact h0
  | succ i=>exact hb i (by simpa using h1) (by simpa using h2)
section
variable {ops:Array Oper} {rest:List Oper} {o:Oper} {a:Act} {D w:ϑ} {M M':Mem} {Q:Exit→Act→ϑ→Prop}
theorem mn(I:Loc D w M)(hg:o.guard=none){x y:Operand}(ho:o.op= .makeSlice 29 x y){n:Nat}(hx:a.eval x= .int .i64 (n:Int))(hy:a.eval y= .int .i64 (n:Int))(hn:n≤1000000000)(h:∀g Z,Loc D Z ((g,aa n fun _=>0,5)::M)→wpList prog ops Q rest (a.put o.dst (.slice (ϐ g) n n)) Z):wpList prog ops Q (o::rest) a w :=
 Xt hg fun _ T=>by
  unfold Oper.wp execOp;simp only[ho,hx,hy,Sem.run_bind,FS n hn,Result.andThen_ok,Sem.run_pure];exact T _ _ (h _ _ (I.alloc _ _))
end
theorem sH(κ:Δ)(x:Γ)(A:ϊ)(c:Nat)(w:ϑ)(hv:BRow w (.slice A κ.length c) κ)(hk:0<κ.length∧κ.length≤64) :
 ϓ 269 #[.slice A κ.length c,.int .u8 (B8 x)] w fun e Z=>∃g,e= .returned (.slice (ϐ g) 64 64)∧Loc w Z [(g,aa 64 (pkF κ x),5)]:=by
 have I:=Loc.nil w;haveI hA:Arg w (.slice A κ.length c) (ak κ):=⟨hv.vrow⟩;haveI:=vq κ x hk.2;have hel:(ak κ).length=κ.length:=ap κ;obtain⟨h0,h1⟩:=hk;clear hv;go_enter func269,ntmps269;go_wp2_with (first|refine aU ?_|(refine gN 7 ?_;refine mn (n:=64) I rfl rfl rfl rfl Ξ fun g7 J I=>?_;refine p4 ?_)|(refine gN 10 ?_;(refine qq I rfl rfl rfl rfl ϖ ϖ fun J Y=>?_);clear I;have I:=Y;clear Y;refine p4 ?_)|refine ab fun J I=>?_);go_loopw [13] (fun kk wr=>∃k:Nat,k≤64∧kk= .int .i64 k∧Loc w wr [(g7,aa 64 (iX κ x k),5)]) (fun kk _=>64-(intOf kk).toNat);case atStart=>exact⟨0,Ω,rfl,I⟩
 case round =>
  clear I;obtain⟨k,hk,rfl,I⟩:=hrel;by_cases hlt:k<64
  ·have k0:(0:Int)≤k:=Ω
   have k1:(k:Int)<64:=Ω;obtain⟨r1,hr1⟩:∃r1,r1=aa 64 (iX κ x (k+1)):=⟨_,rfl⟩;have q1:=vr κ x hlt;rw[← hr1]at q1;haveI:=q1;haveI:=ra κ x hlt;have HR1:=Hd hr1;clear hr1;have hx:=je (κ.getD k 0) x;generalize κ.getD k 0=y at *
   go_wp2_with (first|refine aU ?_|refine ab fun J I=>?_);go_roundw;case rel=>exact⟨k+1,Ω,by go_num,by rw[← HR1.out];exact I⟩
   case measure=>simp only[intOf];omega
  ·obtain rfl:k=64:=Ω
   rw[rb]at I;go_wp2_with (first|refine aU ?_|refine ab fun J I=>?_);go_ret;exact⟨g7,rfl,I⟩
instance R5:Ent 269:=eo func269
instance R6:Ent 29:=eo func29
instance R7:Ent 224:=eo func224
theorem vt(v vb:ό)(κ:Δ)(l:List Δ)(w:ϑ)(hv:BRow w v κ)(hvb:BRows w vb l)(hk:0<κ.length∧κ.length≤64)(hl:l.length≤999000)(hm:l.flatten.length≤999999000) :
 Rt 242 #[v,vb] w (.agg (aa 32 (ib κ l.flatten))):=by
 have I:=Loc.nil w;obtain⟨A,c,rfl⟩:=hv.shape;obtain⟨vs,hvs,hle,hbs⟩:=vn hvb;obtain⟨B,d,rfl⟩:=hvb.shape;rw[← hle]at hvs;haveI hA:Arg w (.slice B vs.length d) vs:=⟨hvs⟩;have hq:¬(64:Int)<κ.length:=Ω;have HP:=Hd (fun J (V:Υ w J) x=>sH κ x A c J (hv.below V) hk);have HS:=Hd (fun J u us (h:VRow J u (us::vs)) (h0:BRow J us (qZ κ 54)) (V:Υ w J)=>(show Rt 224 #[u] J (.agg (aa 32 (sha (qZ κ 54++l.flatten))))from sum_any u (qZ κ 54::l) J (Ad h h0 hle fun i h1 h2=>(hbs i h1 h2).below V) Ϟ (by rw[XP,Xa];simp only[qZ,ag];omega)));have HT:=Hd (fun J u (h:BRows J u [qZ κ 92,ae 32 (sha (qZ κ 54++l.flatten))])=>(show Rt 224 #[u] J (.agg (aa 32 (ib κ l.flatten)))from by
  have:=sum_any u _ J h Ϡ (by simp[qZ,ag]);simp only[XP,Yz,Yf]at this;exact this))
 have hl9:vs.length≤999000:=Ω;rw[← hle];clear hv hvb hk hl hm hvs hbs;generalize sha (qZ κ 54++l.flatten)=S,ib κ l.flatten=Tzq at *
 clear hle;go_enter func242,ntmps242;go_wp2_with (first|refine aU ?_|refine gBp 4 fun b4 J I=>?_|refine gBp 6 fun b6 J I=>?_|(refine gN 15 ?_;refine lKk (HP.out _ I.bel 54) ?_;rintro e J⟨g15,rfl,hN⟩;refine Ϩ (I.join hN) fun I=>?_)|(refine gN 16 ?_;refine aL fun b16 J I=>?_)|(refine gN 18 ?_;haveI:=KU (ϐ g15) 64 64;refine Is I rfl rfl rfl rfl Ω fun g18 Y18 Z18 J W18 I=>?_;(try dsimp only at I);refine p4 ?_)|(go_at_call 224;go_loud (refine(HS.out _ _ _ (See.see _ I) (See.bytes I) I.bel).mono ?_);rintro e J⟨rfl,V⟩;replace I:=I.keep V;refine p4 ?_)|refine ab fun J I=>?_);refine mX (S:=(fun _=>True)) 6 (trivial) ?_;intro H;replace I:=I.drew;refine uG 0 ?_;refine uG 2 ?_;refine rd1 1 ?_;intro K T;refine eK (HP.out _ I.bel 92) ?_;rintro e J⟨g21,rfl,hN⟩;refine⟨_,rfl,?_⟩;refine Ϧ (I.join hN) fun I=>?_;refine kO T (trivial) fun H=>?_;refine rd1 3 ?_;intro K T;refine eBS fun b23 J I=>?_;refine kO T (trivial) fun H=>?_;refine rd1 4 ?_;intro K T;refine eVv (HT.out _ _ (gD (I.get (.head _)) (See.bytes I) (See.bytes I))) I fun J I=>?_;refine kO T (trivial) fun H=>?_;refine rd1 5 ?_;intro K T;refine cY fun J I=>?_;refine kO T (trivial) fun H=>?_;refine wD ?_;clear H;go_wp2_with (first|refine aU ?_|refine ab fun J I=>?_);exact Λ
theorem xA(n:Nat)(f:Φ):(aa n f).toList=(List.range n).map fun i=>Value.int .u8 (B8 (f i)):=by simp[aa,row]
theorem KV(l:Δ)(w:ϑ):∃c Z,(convert 9 29 (.string (bn l))).run prog w= .ok (.slice (some ⟨w.heap.size,0,none⟩) l.length c) Z∧BRow Z (.slice (some ⟨w.heap.size,0,none⟩) l.length c) l∧w.grownBy Z none:=by
 have h:=run_bytes_of_string (P:=prog) w 9 29 5 (bn l) underlying9 underlying29 underlying5;have hsz:(bn l).size=l.length:=by simp[bn,ByteArray.size]
 rw[hsz]at h;refine⟨_,_,h,?_,dM (dL (cH _ _)) _⟩;refine⟨_,_,rfl,nofun,fun h0=>⟨w.heap.size,0,rfl,by show _<(w.heap.push _).size;rw[Array.size_push];omega,fun i hi=>?_⟩⟩;have hg:=Xe w.drew (.cells (bytesRow (bn l) (grownCap w l.length 0 5)) 5 ((bytesRow (bn l) (grownCap w l.length 0 5)).size,(bytesRow (bn l) (grownCap w l.length 0 5)).size+1));have hj:i<(bn l).data.size:=by simpa[bn] using hi
 have hc:=bytesRow_at (bn l) (grownCap w l.length 0 5) i hj;have hv:(((bn l).data[i]).toNat:Int)=B8 l[i]:=by
  have hx:=l[i].isLt;simp only[bn,List.getElem_toArray,List.getElem_map];unfold B8;rw[UInt8.toNat_ofNat_of_lt' (by simpa[UInt8.size] using hx)]
 rw[hv]at hc;rw[XA];have hg':(w.drew.alloc (.cells (bytesRow (bn l) (grownCap w l.length 0 5)) 5 ((bytesRow (bn l) (grownCap w l.length 0 5)).size,(bytesRow (bn l) (grownCap w l.length 0 5)).size+1))).heap[w.heap.size]?=some (.cells (bytesRow (bn l) (grownCap w l.length 0 5)) 5 ((bytesRow (bn l) (grownCap w l.length 0 5)).size,(bytesRow (bn l) (grownCap w l.length 0 5)).size+1)):=hg;simp only[World.cell?,hg',hc]
 first|rfl|simp[hc]
theorem C4{o:Oper}{a:Act}{w:ϑ}{K:Act→ϑ→Prop}{Q:Exit→Act→ϑ→Prop}(x:Operand)(ho:o.op= .convert 9 29 x)(l:Δ)(hx:a.eval x= .string (bn l))(h:∀g c Z,g=w.heap.size→BRow Z (.slice (ϐ g) l.length c) l→w.grownBy Z none→K (a.put o.dst (.slice (ϐ g) l.length c)) Z):o.wp prog a w K Q:=by
 obtain⟨c,Z,hrun,hr,hg⟩:=KV l w;unfold Oper.wp execOp;simp only[ho,hx,Sem.run_bind,hrun,Result.andThen_ok,Sem.run_pure];exact h _ _ _ rfl hr hg
theorem rd{a b:ϑ}(h:a.grownBy b none):Υ a b:=⟨h.os,h.tape,h.output,h.size,fun k hk=>h.block k hk Ϡ⟩
theorem JO{ops:Array Oper}{rest:List Oper}{o:Oper}{a:Act}{w:ϑ}{Q:Exit→Act→ϑ→Prop}(hg:o.guard=none){x:Operand}(ho:o.op= .convert 9 29 x)(l:Δ)(hx:a.eval x= .string (bn l))(h:∀g c Z,BRow Z (.slice (ϐ g) l.length c) l→Υ w Z→wpList prog ops Q rest (a.put o.dst (.slice (ϐ g) l.length c)) Z):wpList prog ops Q (o::rest) a w :=
 Xt hg fun K T=>C4 x ho l hx fun g c Z _ hb hw=>T _ _ (h g c Z hb (rd hw))
theorem IT{w:ϑ}{b off n c:Nat}{f:Φ}(h:BRow w (.slice (some ⟨b,off,none⟩) n c) ((List.range 32).map f)):(Instr.loadAt 24 (.pointer (some ⟨b,off,none⟩))).run prog w= .ok (.agg (aa 32 f)) w:=by
 obtain⟨a,c',e,_,hp⟩:=h;simp only[Value.slice.injEq]at e;obtain⟨rfl,_,_⟩:=e;obtain⟨b',off',e,_,hc⟩:=hp Ϡ;simp only[Option.some.injEq,Addr.mk.injEq]at e;obtain⟨rfl,rfl,_⟩:=e;have h1:=run_loadAt_mid (P:=prog) w b off 24 (aa 32 f).toList _ (fun j v hv=>by
  rw[xA]at hv;have hj:j<32:=by
   rcases XI j 32 with h|h
   ·exact h
   ·rw[List.getElem?_eq_none (by simpa using h)]at hv;cases hv
  rw[hc j (by simpa using hj)];simpa[hj] using hv) underlying24 rfl (by rw[Ab];simp[ai])
 rw[h1,YO]
theorem BRow.some{w:ϑ}{a:ϊ}{n c:Nat}{l:Δ}(h:BRow w (.slice a n c) l)(h0:0<l.length):∃b off,a=some ⟨b,off,none⟩:=by
 obtain⟨a',c',e,_,hp⟩:=h;simp only[Value.slice.injEq]at e;obtain⟨rfl,_,_⟩:=e;obtain⟨b,off,e,_⟩:=hp h0;exact⟨b,off,e⟩
theorem du{ops:Array Oper}{rest:List Oper}{o:Oper}{a:Act}{w:ϑ}{Q:Exit→Act→ϑ→Prop}(hgd:o.guard=none)(x:Operand)(ho:o.op= .load 24 x)(b off n c:Nat)(f:Φ)(hx:a.eval x= .pointer (some ⟨b,off,none⟩))(hb:BRow w (.slice (some ⟨b,off,none⟩) n c) ((List.range 32).map f))(h:wpList prog ops Q rest (a.put o.dst (.agg (aa 32 f))) w):wpList prog ops Q (o::rest) a w:=by
 refine Xt hgd fun K T=>?_;unfold Oper.wp;have hl:=IT hb;simp[execOp,ho,hx,hl,Result.andThen];exact T _ _ h
def m6(f:Φ)(name:Δ):Nat→Γ:=ib (ae 32 f) (name++[1])
theorem vu(f:Φ)(A:ϊ)(c:Nat)(info:Δ)(w:ϑ)(hv:BRow w (.slice A info.length c) info)(hi:info.length≤1000000) :
 ϓ 268 #[.agg (aa 32 f),.slice A info.length c,.int .i64 32] w fun e Z=>∃g E,e= .returned (.tuple #[.slice (ϐ g) 32 32,.int .i64 0])∧Seg E 0 32 (ak (ae 32 (m6 f info)))∧Loc w Z [(g,E,5)]:=by
 have I:=Loc.nil w;have HM:=Hd (fun J u ub (hu:BRow J u (ae 32 f)) (hb:BRows J ub [[],info,[1]])=>(show Rt 242 #[u,ub] J (.agg (aa 32 (m6 f info)))from by
  have:=vt u ub (ae 32 f) _ J hu hb (by rw[ag];decide) Ϡ Ϟ;simp only[XP,Yz,Yf,List.nil_append]at this;exact this))
 haveI hA:Arg w (.slice A info.length c) (ak info):=⟨hv.vrow⟩;haveI sb:Seg #[Value.int IntKind.u8 1] 0 1 (ak [1]):=il 1;clear hv hi;generalize m6 f info=Tzq,info.length=n at *
 go_enter func268,ntmps268;go_wp2_with (first|refine aU ?_|refine gBp 3 fun b3 J I=>?_|refine ab fun J I=>?_);go_loopw [8,9,10] (fun o l i wr=>(i= .int .i64 1∧o= .slice none 0 0∧l= .slice none 0 0∧Loc w wr [(b3,aa 32 f,24)])∨(i= .int .i64 2∧∃g W E,o= .slice (ϐ g) 32 W∧OwnR E 32 W (ak (ae 32 Tzq))∧Loc w wr [(g,E,5),(b3,aa 32 f,24)])) (fun _ _ i _=>2-(intOf i).toNat);case atStart=>exact .inl ⟨rfl,rfl,rfl,I⟩
 case round =>
  clear I;rcases hrel with⟨rfl,rfl,rfl,I⟩|⟨rfl,g,W,E,rfl,hr,I⟩
  ·skip
   go_wp2_with (first|refine aU ?_|refine gBp 11 fun b11 J I=>?_|(refine gN 29 ?_;refine aL fun b29 J I=>?_)|(refine gN 30 ?_;refine aL fun b30 J I=>?_)|(go_at_call 242;go_loud (refine(HM.out _ _ _ (See.bytes I) (dP (I.get (.head _)) (xz _) (See.bytes I) (See.bytes I))).mono ?_);rintro e J⟨rfl,V⟩;replace I:=I.keep V;refine p4 ?_)|(refine gN 35 ?_;refine aNb ?_;intro g35 Y35 Z35 J W35 I)|refine ab fun J I=>?_);go_roundw;case rel=>exact .inr ⟨rfl,g35,Y35,Z35,rfl,W35,I.subl (.cons_cons _ (.cons _ (.cons _ (.cons _ (.cons_cons _ (Yd _))))))⟩
   case measure=>simp only[intOf];decide
  ·skip
   have hle:=hr.le;have q1:(32:Int)≤W:=Ω;go_wp2_with (first|refine aU ?_|refine ab fun J I=>?_);go_ret2;exact⟨g,E,rfl,zD E 32 W _,Loc.rem b3 I⟩
instance R8:Ent 268:=eo func268
theorem BQ(f:Φ)(name:Δ)(w:ϑ)(hn:0<name.length∧name.length≤1000) :
 Rt 241 #[.agg (aa 32 f),.string (bn name)] w (.agg (aa 32 (m6 f name))):=by
 have I:=Loc.nil w;have HE:=Hd (fun J A c (hv:BRow J (.slice A name.length c) name)=>vu f A c name J hv Ω);have harr:=kL;clear hn;generalize m6 f name=Tzq at *
 go_enter func241,ntmps241;go_wp2_with (first|refine aU ?_|refine gBp 2 fun b2 J I=>?_|refine gBp 4 fun b4 J I=>?_|(refine gN 10 ?_;refine JO rfl rfl name rfl fun g10 c10 J hb10 hbb=>?_;have Y:=I.keep hbb;clear I hbb;have I:=Y;clear Y;refine p4 ?_)|(refine gN 11 ?_;refine lKk (HE.out _ _ _ hb10) ?_;rintro e J⟨g11,Z11,rfl,hs11,hN⟩;refine Ϩ (I.join hN) fun I=>?_)|(refine gN 16 ?_;refine du rfl _ rfl g11 0 32 32 Tzq rfl (See.bytes (l:=ae 32 Tzq) I) ?_;refine p4 ?_)|refine ab fun J I=>?_);exact Λ
instance R9:Ent 241:=eo func241
theorem tH(p:ϊ)(n c:Nat)(w:ϑ):(Instr.build 274 #[(0,.slice p n c)]).run prog w= .ok (.agg #[.slice p n c,.bool false]) w:=Θ
theorem fT(v:ό)(l:Δ)(w:ϑ)(hv:BRow w v l)(h0:0<l.length)(h1:l.length≤1000000) :
 ϓ 149 #[v] w fun e Z=>∃b g W E,e= .returned (.pointer (ϐ b))∧OwnR E l.length W (ak l)∧Loc w Z [(b, #[.slice (ϐ g) l.length W,.bool false],274),(g,E,5)]:=by
 have I:=Loc.nil w;have HC:=Hd (eD v l w hv h0 h1);clear hv;go_enter func149,ntmps149;go_wp2_with (first|refine aV ?_|refine gBp 6 fun b6 J I=>?_|(go_at_call 94;go_loud (refine(HC.out).mono ?_);rintro e J⟨g4,Y4,Z4,rfl,W4,hg4,hc4,hb4⟩;have Y:=I.fresh hb4 hg4 hc4;clear hb4 hg4 hc4;clear I;have I:=Y;clear Y;refine p4 ?_)|(refine gN 5 ?_;refine ϙ (tH _ _ _) fun J I=>?_)|refine aP fun J I=>?_);go_ret;exact⟨b6,g4,Y4,Z4,rfl,W4,I⟩
instance Se:Ent 149:=eo func149
theorem xB(w:ϑ) :
 ϓ 149 #[.slice none 0 0] w fun e Z=>∃b,e= .returned (.pointer (ϐ b))∧Loc w Z [(b, #[.slice none 0 0,.bool false],274)]:=by
 have I:=Loc.nil w;go_enter func149,ntmps149;go_wp2_with (first|refine aV ?_|refine gBp 6 fun b6 J I=>?_|((go_at_call 94;go_loud (refine(iW _).mono ?_);rintro e J⟨rfl,rfl⟩;refine p4 ?_))|(refine gN 5 ?_;refine ϙ (tH _ _ _) fun J I=>?_)|refine aP fun J I=>?_);go_ret;exact⟨b6,rfl,I⟩
section
variable {D w:ϑ} {F:Ψ→Mem} {bc:Nat} [hA:∀x,At (F x) bc x 274] [hU:∀x y,Ups (F x) bc y (F y)]
theorem F3{g off m W n:Nat}{l:Δ}[hS:∀x,See D (F x) (.slice (some ⟨g,off,none⟩) m W) (ak l)](hn0:0<n)(hn:n≤m)(hc:m≤W)(hm:m≤1000000)(hT:∀w x,Loc D w (F x)→BRow w (.slice (some ⟨g,off,none⟩) n W) (l.take n))(χ:(l.take n).length=n)(I:Loc D w (F #[.slice (some ⟨g,off,none⟩) m W,.bool false])) :
 ϓ 150 #[.pointer (ϐ bc),.int .i64 n] w fun e Z=>∃g' cap' cur' p,e= .returned (.slice (ϐ g') n cap')∧OwnR cur' n cap' (ak (l.take n))∧(n<m→p=some ⟨g,off+n,none⟩) ∧
  Loc D Z ((g',cur',5)::F #[.slice p (m-n) (W-n),.bool false]):=by
 have hcl:∀J,Loc D J (F #[.slice (some ⟨g,off,none⟩) m W,.bool false])→ϓ 94 #[.slice (some ⟨g,off,none⟩) n W] J fun e Z=>Fresh J (l.take n) e Z:=fun J h1=>eD _ _ J (hT J _ h1) Ω Ω;have HC:=Hd hcl;have HT:=Hd χ;clear hcl hT χ;generalize l.take n=lt at *
 have e1:((m:Int)-n).toNat=m-n:=Ω;have e2:((W:Int)-n).toNat=W-n:=Ω;have q1:¬(m:Int)<n:=Ω;have q2:¬(n:Int)<0:=Ω;have q3:(n:Int)≤W:=Ω;have q4:(n:Int)≤m:=Ω;go_enter func150,ntmps150;go_wp2_with (first|refine aV ?_|refine aP fun J I=>?_);refine fN 0 rfl ?_;go_wp2_with (first|refine aV ?_|(go_at_call 94;go_loud (refine(HC.out _ I).mono ?_);rintro e J⟨g27,Y27,Z27,rfl,W27,hg27,hc27,hb27⟩;have Y:=I.fresh hb27 hg27 hc27;clear hb27 hg27 hc27;clear I;have I:=Y;clear Y;refine p4 ?_)|refine aP fun J I=>?_)
 all_goals simp only[Exit.jump]
 all_goals obtain⟨p,hp,hq⟩:∃p:ϊ,(if W=n then some (⟨g,off,none⟩:Addr)else some ⟨g,off+n,none⟩)=p∧(n<m→p=some ⟨g,off+n,none⟩):=⟨_,rfl,fun h=>Χ Ω⟩
 all_goals simp only[hp]at I ⊢
 all_goals go_ret
 all_goals rw[HT.out]at W27
 ·exact⟨g27,Y27,Z27,p,by first|rfl|(rw[HT.out];rfl),W27,hq,I⟩
 ·exact⟨g27,Y27,Z27,p,by first|rfl|(rw[HT.out];rfl),W27,hq,I⟩
theorem BR{p:ϊ}{m W n:Nat}(hn:m<n)(I:Loc D w (F #[.slice p m W,.bool false])) :
 ϓ 150 #[.pointer (ϐ bc),.int .i64 n] w fun e Z=>e= .returned (.slice none 0 0)∧Loc D Z (F #[.slice none 0 0,.bool true]):=by
 have q2:¬(n:Int)<0:=Ω;have q1:(m:Int)<n:=Ω;go_enter func150,ntmps150;go_wp2_with (first|refine aV ?_|refine aP fun J I=>?_);refine fN 0 rfl ?_;go_wp2_with (first|refine aV ?_|refine aP fun J I=>?_);go_step3;refine⟨rfl,?_⟩;unfold vp;go_wp2_with (first|refine aV ?_|refine aP fun J I=>?_);simp only[Exit.jump];go_ret;exact⟨rfl,I⟩
theorem ed{p:ϊ}{m W:Nat}{n:Int}(I:Loc D w (F #[.slice p m W,.bool true])) :
 ϓ 150 #[.pointer (ϐ bc),.int .i64 n] w fun e Z=>e= .returned (.slice none 0 0)∧Loc D Z (F #[.slice p m W,.bool true]):=by
 go_enter func150,ntmps150;go_wp2_with (first|refine aV ?_|refine aP fun J I=>?_);refine fN 0 rfl ?_;go_wp2_with (first|refine aV ?_|refine aP fun J I=>?_);simp only[Exit.jump];go_ret;exact⟨rfl,I⟩
theorem m7{p:ϊ}{m W:Nat}{bad:Bool}(I:Loc D w (F #[.slice p m W,.bool bad])) :
 ϓ 153 #[.pointer (ϐ bc)] w fun e Z=>e= .returned (.bool (!bad&&decide (m=0)))∧Loc D Z (F #[.slice p m W,.bool bad]):=by
 cases bad
 ·go_enter func153,ntmps153
  go_wp2_with (first|refine aV ?_|refine aP fun J I=>?_);go_ret;exact⟨by simp;rw[Bool.eq_iff_iff];simp,I⟩
 ·go_enter func153,ntmps153
  go_wp2_with (first|refine aV ?_|refine aP fun J I=>?_);go_ret;exact⟨Ϡ,I⟩
end
instance Sf:Ent 150:=eo func150
instance Sg:Ent 153:=eo func153
def fU(l:Δ):Nat:=l.foldl (fun u x=>u*256+x.toNat) 0
theorem kM(l:Δ)(x:Γ):fU (l++[x])=fU l*256+x.toNat:=by unfold fU;rw[List.foldl_append];rfl
theorem tI:∀(l:Δ) (u:Nat),l.foldl (fun u x=>u*256+x.toNat) u<(u+1)*256^l.length
 | [],u=>by simp
 | x::l,u=>by
  have h:=tI l (u*256+x.toNat);have hx:=x.isLt;rw[ZC,XZ,Zb,XU (256^l.length),← XK];exact Xl h (YI _ Ω)
theorem vw(l:Δ):fU l<256^l.length:=by have:=tI l 0;rwa[XA,Nat.one_mul]at this
theorem re(a b:Nat)(ha:a<2^64)(hb:b<2^64):bits .or .u64 (a:Int) (b:Int)=((a|||b:Nat):Int):=by
 have hor:a|||b<2^64:=Nat.or_lt_two_pow ha hb
 show IntKind.u64.wrap ((BitVec.ofInt 64 (a:Int)|||BitVec.ofInt 64 (b:Int)).toNat:Nat)=_;rw[ZU,X9,X9];have e1:((a:Int)%((2^64:Nat):Int)).toNat=a:=Ω;have e2:((b:Int)%((2^64:Nat):Int)).toNat=b:=Ω;rw[e1,e2,XM];omega
theorem KW(u:Nat)(x:Γ)(h:u<2^56):bits .or .u64 ((u:Int)*256) (IntKind.u64.wrap (B8 x))=((u*256+x.toNat:Nat):Int):=by
 have hx:=x.isLt;have e1:(u:Int)*256=((u*256:Nat):Int):=Ω;have e2:IntKind.u64.wrap (B8 x)=((x.toNat:Nat):Int):=by rw[XM];show((x.toNat:Nat):Int)%_=_;omega
 rw[e1,e2];have e3:u*256|||x.toNat=u*256+x.toNat:=by
  have:=Yt (i:=8) (b:=x.toNat) Ω u;rw[Y3]at this;exact this.symm
 rw[← e3];exact re _ _ Ω Ω
theorem rf(n:Int):(fU (aM n):Int)=n%18446744073709551616:=by
 have hb:∀j,((p8 n j).toNat:Int)=n/2^(8*(7-j))%256:=fun j=>xx n j;have e:aM n=[p8 n 0,p8 n 1,p8 n 2,p8 n 3,p8 n 4,p8 n 5,p8 n 6,p8 n 7]:=rfl;have h0:=hb 0;have h1:=hb 1;have h2:=hb 2;have h3:=hb 3;have h4:=hb 4;have h5:=hb 5;have h6:=hb 6;have h7:=hb 7;rw[e];simp only[fU,ZC,List.foldl_nil];simp only[Nat.reduceSub,Nat.reduceMul,Int.reducePow]at *
 omega
def fV(l:Δ):Int:=wrap64 (fU l:Int)
theorem js(n:Int)(h: -9223372036854775808≤n∧n≤9223372036854775807):fV (aM n)=n:=by
 unfold fV;rw[rf];unfold wrap64;omega
section
variable {D w:ϑ} {F:Ψ→Mem} {bc:Nat} [hA:∀x,At (F x) bc x 274] [hU:∀x y,Ups (F x) bc y (F y)]
theorem KX{g off m W:Nat}{l:Δ}[hS:∀x,See D (F x) (.slice (some ⟨g,off,none⟩) m W) (ak l)](hn:8≤m)(hc:m≤W)(hm:m≤1000000)(hT:∀w x,Loc D w (F x)→BRow w (.slice (some ⟨g,off,none⟩) 8 W) (l.take 8))(χ:(l.take 8).length=8)(I:Loc D w (F #[.slice (some ⟨g,off,none⟩) m W,.bool false])) :
 ϓ 151 #[.pointer (ϐ bc)] w fun e Z=>∃p,e= .returned (.int .i64 (fV (l.take 8)))∧(8<m→p=some ⟨g,off+8,none⟩) ∧
  Loc D Z (F #[.slice p (m-8) (W-8),.bool false]):=by
 have HC:=Hd (F3 (F:=F) (bc:=bc) (n:=8) (l:=l) Ω hn hc hm hT χ I);have HLEN:=Hd χ;clear hT χ I;generalize l.take 8=lt at *
 go_enter func151,ntmps151;go_wp2_with (go_at_call 150;go_loud (refine HC.out.mono ?_);rintro e J⟨g7,Y7,Z7,p,rfl,W7,hp,I⟩);clear HC;have hs:=zD Z7 8 Y7 (ak lt);have hlt:=HLEN.out;have H8:=Hd (show lt.take 8=lt from Xq Ω);have HB:∀k,(hk:k<lt.length)→fU (lt.take (k+1))=fU (lt.take k)*256+lt[k].toNat:=fun k hk=>by rw[Xo hk,kM]
 have HBB:=Hd HB;clear HB hlt;go_loopw [3,9] (fun u kk wr=>∃k:Nat,k≤8∧kk= .int .i64 k∧u= .int .u64 (fU (lt.take k):Int)∧Loc D wr ((g7,Z7,5)::F #[.slice p (m-8) (W-8),.bool false])) (fun _ kk _=>8-(intOf kk).toNat);case atStart=>exact⟨0,Ω,rfl,rfl,I⟩
 case round =>
  clear I;obtain⟨k,hk,rfl,rfl,I⟩:=hrel;by_cases hlt:k<8
  ·have hk0:(0:Int)≤(k:Int):=Ω
   have hk1:(k:Int)<8:=Ω;have hlt':k<lt.length:=by rw[HLEN.out];exact hlt
   have hb:=HBB.out k hlt';haveI g1:Cell Z7 k (.int .u8 (B8 lt[k])):=W7.cellB hlt';have hu:fU (lt.take k)<2^56:=by
    have h1:=vw (lt.take k);have h2:(lt.take k).length≤7:=by rw[Xr];omega
    have h3:256^(lt.take k).length≤256^7:=Xx Ω h2;omega
   have ho:=KW (fU (lt.take k)) lt[k] hu;rw[← hb]at ho;have HO:=Hd ho;generalize lt[k]=bb at *
   clear hb ho hlt';generalize fU (lt.take k)=u at *
   go_wp2_with (first|refine aV ?_|refine aP fun J I=>?_);go_roundw;case rel=>exact⟨k+1,Ω,by go_num,by rw[← HO.out],I⟩
   case measure=>exact ϝ
  ·obtain rfl:k=8:=Ω
   rw[H8.out];go_wp2_with (first|refine aV ?_|refine aP fun J I=>?_);go_ret;refine⟨p,?_,hp,Loc.rem g7 I⟩;unfold fV;rfl
theorem iY(c c':Ψ)(hR:∀w,Loc D w (F c)→ϓ 150 #[.pointer (ϐ bc),.int .i64 8] w fun e Z=>e= .returned (.slice none 0 0)∧Loc D Z (F c'))(I:Loc D w (F c)) :
 ϓ 151 #[.pointer (ϐ bc)] w fun e Z=>e= .returned (.int .i64 0)∧Loc D Z (F c'):=by
 have HC:=Hd (hR w I);clear hR I;go_enter func151,ntmps151;go_wp2_with (go_at_call 150;go_loud (refine HC.out.mono ?_);rintro e J⟨rfl,I⟩);go_loopw [3,9] (fun u kk wr=>kk= .int .i64 0∧u= .int .u64 0∧Loc D wr (F c')) (fun _ kk _=>0);case atStart=>exact⟨rfl,rfl,I⟩
 case round =>
  clear I;obtain⟨rfl,rfl,I⟩:=hrel;go_wp2_with (first|refine aV ?_|refine aP fun J I=>?_);go_ret;exact⟨rfl,I⟩
end
instance Si:Ent 151:=eo func151
theorem Seg.see{D:ϑ}{M:Mem}{g off n W:Nat}{E:Ψ}{ys:List Value}(hs:Seg E off n ys)[hm:At M g E 5]:See D M (.slice (some ⟨g,off,none⟩) n W) ys:=Ϙ
section
variable {D w:ϑ} {F:Ψ→Mem} {bc:Nat} [hA:∀x,At (F x) bc x 274] [hU:∀x y,Ups (F x) bc y (F y)] {g off m W n:Nat} {l:Δ} {E:Ψ} [hG:∀x,At (F x) g E 5]
theorem rh(hs:Seg E off m (ak l))(n:Nat)(hn0:0<n)(hn:n≤m)(hc:m≤W)(hm:m≤1000000)(I:Loc D w (F #[.slice (some ⟨g,off,none⟩) m W,.bool false])) :
 ϓ 150 #[.pointer (ϐ bc),.int .i64 n] w fun e Z=>∃g' cap' cur' p,e= .returned (.slice (ϐ g') n cap')∧OwnR cur' n cap' (ak (l.take n))∧(n<m→p=some ⟨g,off+n,none⟩) ∧
  Loc D Z ((g',cur',5)::F #[.slice p (m-n) (W-n),.bool false]):=by
 haveI hS:∀x,See D (F x) (.slice (some ⟨g,off,none⟩) m W) (ak l):=fun x=>hs.see;have χ:l.length=m:=by have:=hs.len;rwa[ap]at this
 exact F3 (l:=l) hn0 hn hc hm (fun w x h=>by haveI:See D (F x) (.slice (some ⟨g,off,none⟩) n W) (ak (l.take n)):=(hs.take n hn).see;exact See.bytes h) (by rw[Xr];omega) I
theorem ri(hs:Seg E off m (ak l))(n:Nat)(hn0:0<n)(hn:n<m)(hc:m≤W)(hm:m≤1000000)(I:Loc D w (F #[.slice (some ⟨g,off,none⟩) m W,.bool false])) :
 ϓ 150 #[.pointer (ϐ bc),.int .i64 n] w fun e Z=>∃g' cap' cur',e= .returned (.slice (ϐ g') n cap')∧OwnR cur' n cap' (ak (l.take n)) ∧
  Loc D Z ((g',cur',5)::F #[.slice (some ⟨g,off+n,none⟩) (m-n) (W-n),.bool false]) :=
 (rh hs n hn0 Ω hc hm I).mono fun e Z ⟨g',cap',cur',p,h1,h2,h3,h4⟩=>⟨g',cap',cur',h1,h2,by rw[← h3 hn];exact h4⟩
theorem rj(hs:Seg E off m (ak l))(hn:8<m)(hc:m≤W)(hm:m≤1000000)(I:Loc D w (F #[.slice (some ⟨g,off,none⟩) m W,.bool false])) :
 ϓ 151 #[.pointer (ϐ bc)] w fun e Z=>e= .returned (.int .i64 (fV (l.take 8)))∧Loc D Z (F #[.slice (some ⟨g,off+8,none⟩) (m-8) (W-8),.bool false]):=by
 haveI hS:∀x,See D (F x) (.slice (some ⟨g,off,none⟩) m W) (ak l):=fun x=>hs.see;have χ:l.length=m:=by have:=hs.len;rwa[ap]at this
 exact(KX (l:=l) Ω hc hm (fun w x h=>by haveI:See D (F x) (.slice (some ⟨g,off,none⟩) 8 W) (ak (l.take 8)):=(hs.take 8 Ω).see;exact See.bytes h) (by rw[Xr];omega) I).mono fun e Z ⟨p,h1,h2,h3⟩=>⟨h1,by rw[← h2 hn];exact h3⟩
end
theorem bQ{r pre s post:Ψ}{u t:ϋ}{k:Nat}(h:r=pre++s++post)(hk:k=pre.size):Part r u k t s:=⟨fun j v hj=>by
 subst h hk;have hj':s[j]?=some v:=by simpa using hj
 have hlt:j<s.size:=by
  rcases XI j s.size with h|h
  ·exact h
  ·rw[Array.getElem?_eq_none h]at hj';cases hj'
 rw[Array.getElem?_append_left (by rw[YK];omega),Array.getElem?_append_right Ω,YP];exact hj'⟩
theorem Fresh.from{w J w2:ϑ}{l:Δ}{e:Ending}(hb:Υ w J)(h:Fresh J l e w2):Fresh w l e w2:=by
 obtain⟨g,W,E,e1,h1,h2,h3,h4⟩:=h;exact⟨g,W,E,e1,h1,ZD hb.size h2,h3,hb.trans (h4.mono hb.size)⟩
theorem xC(hd:Δ)(n:Int)(w:ϑ)(h0:0<hd.length)(h1:hd.length≤100000) :
 ϓ 227 #[.string (bn hd),.int .i64 n] w fun e Z=>Fresh w (hd++aM n) e Z:=by
 have I:=Loc.nil w;have HP:=Hd (fun J (v1 v2:ό) (h2:BRow J v1 hd) (h3:VRow J v2 (cj [n]))=>cB v1 hd v2 [n] J h2 h0 h1 h3 Ϡ);rw[show aW [n]=aM n from by unfold aW;simp,eU]at HP;go_enter func227,ntmps227;go_wp2_with (first|refine aV ?_|(refine gN 6 ?_;refine JO rfl rfl hd rfl fun g6 c6 w6 hb6 hB6=>?_;have hA:Arg w6 (.slice (ϐ g6) hd.length c6) (ak hd):=⟨hb6.vrow⟩;clear I;have I:=Loc.nil w6)|(refine gN 8 ?_;refine aL fun b8 J I=>?_)|(go_at_call 202;go_loud (refine(HP.out _ _ _ (See.bytes I) (See.see _ I)).mono ?_);rintro e J⟨g9,Y9,Z9,rfl,W9,hg9,hc9,hb9⟩;have Y:=I.fresh hb9 hg9 hc9;clear hb9 hg9 hc9;clear I;have I:=Y;clear Y;refine p4 ?_)|refine aP fun J I=>?_);go_ret;exact(I.back rfl).from hB6
instance Sj:Ent 227:=eo func227
def fH(n:Int):Bool:=decide (0≤n∧n≤2147483647)
theorem kN(n:Int)(w:ϑ):Rt 226 #[.int .i64 n] w (.bool (fH n)):=by
 have I:=Loc.nil w;by_cases h:0≤n
 ·by_cases h2:n≤2147483647
  ·go_enter func226,ntmps226
   go_wp2_with (first|refine aV ?_|refine aP fun J I=>?_);go_ret;exact⟨by simp[fH,h,h2],XE _ _⟩
  ·go_enter func226,ntmps226
   go_wp2_with (first|refine aV ?_|refine aP fun J I=>?_);go_ret;exact⟨by simp[fH,h,h2],XE _ _⟩
 ·go_enter func226,ntmps226
  go_wp2_with (first|refine aV ?_|refine aP fun J I=>?_);go_ret;exact⟨by simp[fH];omega,XE _ _⟩
instance Sk:Ent 226:=eo func226
instance Sl(n:Int):FnC 226 #[.int .i64 n] (.bool (fH n)):=⟨kN n⟩
def bR(id:Int)(f:Φ):Ψ:= #[.int .i64 id]++aa 64 f
theorem rl(id:Int)(f:Φ)(w:ϑ):(Instr.build 98 #[(0,.int .i64 id),(1,.agg (aa 64 f))]).run prog w= .ok (.agg (bR id f)) w:=Θ
theorem oC(w:ϑ):(Instr.build 98 #[]).run prog w= .ok (.agg (bR 0 fun _=>0)) w:=Θ
instance So:RowTy 98 65:=⟨⟨_,underlying98,rfl⟩,Θ⟩
instance Sp:RowZ 98 (bR 0 fun _=>0):=⟨Θ⟩
instance Ss(id:Int)(f:Φ):Row1 (bR id f) 65:=⟨by simp[bR,ai],by
 unfold bR;rw[Zt,bS];simp[Value.oneCell']⟩
instance Su(id:Int)(f:Φ):Cell (bR id f) 0 (.int .i64 id):=⟨by unfold bR;rw[Array.getElem?_append_left Ϡ];rfl⟩
instance Sv(id:Int)(f:Φ):Part (bR id f) 98 1 75 (aa 64 f):=bQ (pre:= #[.int .i64 id]) (post:= #[]) (by simp[bR]) rfl
instance Sw:RowTy 75 64:=⟨⟨_,underlying75,rfl⟩,Θ⟩
section
variable {ops:Array Oper} {rest:List Oper} {o:Oper} {a:Act} {D w:ϑ} {M M':Mem} {Q:Exit→Act→ϑ→Prop}
theorem sJ(I:Loc D w M)(hg:o.guard=none){x:Operand}(ho:o.op= .convert 29 9 x){p:ϊ}{n c:Nat}(hx:a.eval x= .slice p n c){l:Δ}[hy:See D M (.slice p n c) (ak l)](h:∀Z,Loc D Z M→wpList prog ops Q rest (a.put o.dst (.string (bn l))) Z):wpList prog ops Q (o::rest) a w :=
 Xt hg fun K T=>by
  have hrun:=qh (P:=prog) (See.bytes I (v:= .slice p n c) (l:=l)) underlying29 underlying5 underlying9;unfold Oper.wp execOp;simp only[ho,hx,Sem.run_bind,hrun,Result.andThen_ok,Sem.run_pure];exact T _ _ (h w I)
end
theorem KZ(g c:Nat)(w:ϑ):(Instr.arrayAt 75 (.slice (ϐ g) 64 c)).run prog w= .ok (.pointer (ϐ g)) w:=Θ
theorem JP{E:Ψ}{n W:Nat}{f:Φ}{u t:ϋ}(h:OwnR E n W (ak (ae n f))):Part E u 0 t (aa n f):=⟨fun j v hj=>by
 have hlt:j<n:=by
  rcases XI j n with h|h
  ·exact h
  ·have hj':(aa n f)[j]?=some v:=by simpa using hj
   rw[Array.getElem?_eq_none (by rw[ai];exact h)]at hj';cases hj'
 have h1:=(h.cellB (l:=ae n f) (i:=j) (by rw[ag];exact hlt)).cell;have h2:(aa n f)[j]?=some (.int .u8 (B8 (f j))):=bG _ hlt;have hj':(aa n f)[j]?=some v:=by simpa using hj
 rw[h2]at hj';cases hj'
 rw[XA,h1];simp[ae]⟩
def ef(id:Int)(f:Φ):Δ:=[80,67,83,84]++aM id++ae 64 f
theorem m8(id:Int)(f:Φ)(v:ό)(w:ϑ)(h0:0≤id)(h1:id≤2147483647)(hv:BRow w v (ef id f)) :
 Rt 174 #[v] w (.tuple #[.agg (bR id f),.int .i64 0]):=by
 have I:=Loc.nil w;have χ:(ef id f).length=76:=by simp[ef,aw,ag]
 haveI hA:Arg w v (ak (ef id f)):=⟨hv.vrow⟩;have HN:=Hd (fun J (h:BRow J v (ef id f))=>fT v (ef id f) J h Ω Ω);rw[χ]at HN;have e1:(ef id f).take 4=[80,67,83,84]:=rfl;have e2:((ef id f).drop 4).take 8=aM id:=rfl;have e3:((ef id f).drop 4).drop 8=ae 64 f:=rfl;have e4:fV (aM id)=id:=js id Ω;have E1:=Hd e1;have E3:=Hd (show(ae 64 f).take 64=ae 64 f from Xq (by rw[ag];exact Xn _));rw[← e2]at e4;have E4:=Hd e4;have hM:fH id=true:=by unfold fH;rw[Xw];omega
 have hd4:((ef id f).drop 4).drop 8=ae 64 f:=e3;have E5:=Hd hd4;clear hv χ e1 e2 e3 e4 hd4;generalize ef id f=l at *
 have hAt:=KZ;go_enter func174,ntmps174;go_wp2_with (first|refine aV ?_|refine gBp 2 fun b2 J I=>?_|(refine gN 9 ?_;refine lKk (HN.out _ (See.bytes I)) ?_;rintro e J⟨b9,g9,Y9,Z9,rfl,W9,hN⟩;refine⟨_,rfl,?_⟩;have hs1:=W9.segB;have hS:bn [80,67,83,84]=⟨#[80,67,83,84]⟩:=rfl;have hs2:Seg Z9 4 72 (ak (l.drop 4)):=hs1.drop 4 Ω;have hs3:Seg Z9 12 64 (ak (ae 64 f)):=(by rw[← E5.out];exact hs2.drop 8 Ω);have hc9:=W9.le;refine Ϧ (I.join hN) fun I=>?_)|(refine gN 11 ?_;refine lKk (ri (F:=fun x=>[(b9,x,274),(g9,Z9,5),(b2,bR 0 fun _=>0,98)]) (l:=l) hs1 4 Ω Ω hc9 Ω I) ?_;rintro e J⟨g11,Y11,Z11,rfl,W11,Y⟩;rw[E1.out]at W11;refine Ϥ Y fun I=>?_)|(refine gN 12 ?_;refine sJ I rfl rfl rfl ?_;rw[hS];clear I;intro J I)|(refine gN 14 ?_;refine lKk (rj (F:=fun x=>[(g11,Z11,5),(b9,x,274),(g9,Z9,5),(b2,bR 0 fun _=>0,98)]) (l:=l.drop 4) hs2 Ω Ω Ω I) ?_;rintro e J⟨rfl,Y⟩;rw[E4.out];refine Ϥ Y fun I=>?_)|(refine gN 16 ?_;refine lKk (rh (F:=fun x=>[(g11,Z11,5),(b9,x,274),(g9,Z9,5),(b2,bR 0 fun _=>0,98)]) (l:=ae 64 f) hs3 64 Ω Ω Ω Ω I) ?_;rintro e J⟨g16,Y16,Z16,p16,rfl,W16,_,Y⟩;rw[E3.out]at W16;refine Ϥ Y fun I=>?_)|(refine gN 18 ?_;refine lO (m7 (F:=fun x=>[(g16,Z16,5),(g11,Z11,5),(b9,x,274),(g9,Z9,5),(b2,bR 0 fun _=>0,98)]) I) fun J I=>?_)|(refine gN 33 ?_;have hp:Part Z16 5 0 75 (aa 64 f):=JP W16;refine lL I rfl rfl rfl fun J I=>?_)|(refine gN 34 ?_;refine ϙ (rl _ _) fun J I=>?_)|refine aP fun J I=>?_|refine Ϯ fun J I=>?_);exact Ϣ (ao rfl I rfl rfl) rfl ⟨rfl,I.bel⟩
instance Pl:Ent 174:=eo func174
instance LF:Ent 210:=eo func210
def cK(id:Int):Δ:=[80,67,83,84]++aM id
noncomputable def dQ(k:Φ)(id:Int)(f:Φ):Bool:=dA (leN k) (leN f) (leN fun i=>f (32+i)) (cK id)
theorem lh(k:Φ)(id:Int)(f:Φ)(w:ϑ)(hm:fH id=true) :
 Rt 175 #[.agg (aa 32 k),.agg (bR id f)] w (.bool (dQ k id f)):=by
 have I:=Loc.nil w;have HM:=Hd (fun J=>by have:=kN id J;rw[hm]at this;exact this);have HB:=Hd (fun J=>xC [80,67,83,84] id J Ξ Ξ);have HV:=Hd (fun J (v:ό) (hv:BRows J v [cK id])=>mi k f v [cK id] J hv Ϡ Ϡ (by simp[cK,aw]));have HT:=Hd (show[cK id].flatten=cK id from Ϡ);have χ:(cK id).length=12:=by simp[cK,aw]
 have HLEN:=Hd χ;go_enter func175,ntmps175;go_wp2_with (first|refine aV ?_|refine gBp 2 fun b2 J I=>?_|refine gBp 3 fun b3 J I=>?_|refine aP fun J I=>?_);refine Ϭ 14 I fun H I=>?_;refine uG 0 ?_;refine uZ 1 ?_;refine rd1 2 ?_;intro K T;refine eVv (HM.out _) I fun J I=>?_;refine kO T (I) fun H=>?_;refine uG 3 ?_
 first|refine tk 4 rfl (Or.inr ⟨ϕ,rfl⟩) H ?_|refine tk 4 rfl (zL ϕ rfl rfl) H ?_|refine tk 4 rfl (zI ϕ rfl rfl) H ?_
 refine p7 ?_;refine uS 5 ?_;refine uS 7 ?_
 first|refine tk 6 rfl (Or.inr ⟨ϕ,rfl⟩) H ?_|refine tk 6 rfl (zL ϕ rfl rfl) H ?_|refine tk 6 rfl (zI ϕ rfl rfl) H ?_
 refine p7 ?_
 first|refine tk 8 rfl (Or.inr ⟨ϕ,rfl⟩) H ?_|refine tk 8 rfl (zL ϕ rfl rfl) H ?_|refine tk 8 rfl (zI ϕ rfl rfl) H ?_
 refine p7 ?_;refine rd1 9 ?_;intro K T;refine eK (HB.out _) ?_;rintro e J⟨g14,Y14,Z14,rfl,W14,hg14,hc14,hb14⟩;refine⟨_,rfl,?_⟩;have Y:=I.fresh hb14 hg14 hc14;clear hb14 hg14 hc14;clear I;have I:=Y;clear Y;refine kO T (I.pop) fun H=>?_;refine rd1 10 ?_;intro K T;refine eBS fun b15 J I=>?_;refine kO T (I.pop.pop) fun H=>?_;refine rd1 11 ?_;intro K T;refine eVv (HV.out _ _ (iV (I.at_ b15) (See.bytes I))) I fun J I=>?_;refine kO T (I.pop.pop) fun H=>?_;refine uG 12 ?_;refine uG 13 ?_;refine wD ?_;clear H;go_wp2_with fail;go_ret;exact⟨by rw[HT.out];rfl,I.bel⟩
instance Pm:Ent 175:=eo func175
theorem C5(w:ϑ):Rt 144 #[.int .u64 1,.int .u64 32768] w (.tuple #[.int .u64 0,.int .u64 32768]):=by
 have h:=iK 1 32768 Ξ Ξ w;rw[show 1*32768/18446744073709551616=0 from by decide,show 1*32768%18446744073709551616=32768 from by decide]at h;exact h
theorem xD(w:ϑ):Rt 89 #[.int .u64 1,.int .u64 32768] w (.tuple #[.int .u64 0,.int .u64 32768]):=by
 have I:=Loc.nil w;go_enter func89,ntmps89;go_wp2_with (first|refine aV ?_|(go_at_call 144;go_loud (refine(C5 _).mono ?_);rintro e J⟨rfl,V⟩;replace I:=I.keep V;refine p4 ?_)|refine aP fun J I=>?_);go_ret2;exact⟨rfl,I.bel⟩
section
variable {ops:Array Oper} {rest:List Oper} {o:Oper} {a:Act} {D w:ϑ} {M M':Mem} {Q:Exit→Act→ϑ→Prop}
theorem Pn(I:Loc D w M)(hg:o.guard=none){x:Operand}{ts:Array TypeId}(ho:o.op= .call { callee:= .value (.func 90),args:= #[x],argTypes:=ts })(hx:a.eval x= .int .i64 32768)(h:∀g cs Z,32768≤cs.size→Loc D Z ((g,cs,5)::M)→wpList prog ops Q rest (a.put o.dst (.slice (ϐ g) 32768 cs.size)) Z):wpList prog ops Q (o::rest) a w :=
 Xt hg fun K T=>by
  obtain⟨cs,h1,h2,_⟩:=Lib.run_makeNoZero (P:=prog) w #[3] 29 5 underlying29 32768 Ξ;have he:(callFunc 90 #[.int .i64 32768]).run prog w= .ok (.value (.slice (some ⟨w.heap.size,0,none⟩) 32768 cs.size)) (w.drew.drew.alloc (.cells cs 5)):=by
   rw[run_callFunc_extern (e:=Extern.BytealgMakeNoZero.makeNoZero #[3] #[29]) func90 Θ rfl Θ Θ];rw[show((32768:Nat):Int)=32768 from rfl]at h1;rw[h1];rfl
  unfold Oper.wp execOp;simp only[ho,resolve,Act.eval,Deferred.ofValue,Sem.run_bind,Sem.run_pure,Result.andThen_ok,invoke,Array.append_empty,Za,List.map_toArray,List.map_cons,List.map_nil];have hx':=hx;unfold Act.eval at hx';rw[hx',he];exact T _ _ (h _ _ _ h2 (I.drew.drew.alloc cs _))
end
def o0(k:Nat):Nat:=if k≤13 then 2^k else 8192*(k-12)
theorem C6:∀k,k<16→o0 (k+1)=o0 k+min (o0 k) 8192∧min (o0 k) 8192≤32768-o0 k∧0<o0 k∧o0 k<32768:=Ξ
structure Filled(x:Γ)(m:Nat)(E:Ψ):Prop where
 size:32768≤E.size
 cell:∀i,i<m→E[i]?=some (.int .u8 (B8 x))
theorem dR(x:Γ)(m:Nat):(ak (List.replicate m x)).length=m:=by rw[ap,Zx]
theorem Filled.seg{x:Γ}{m:Nat}{E:Ψ}(h:Filled x m E)(k:Nat)(hk:k≤m):Seg E 0 k (ak (List.replicate k x)) where
 len:=dR x k
 one:=bY _
 seg:=fun i hi=>by
  rw[dR]at hi;rw[XA,h.cell i Ω];simp[ak]
theorem BS(E:Ψ)(off:Nat)(ys:List Value)(h:off+ys.length≤E.size):Spl E off ys (E.toList.take off++(ys++E.toList.drop (off+ys.length))).toArray:=⟨h,rfl⟩
theorem Filled.more{x:Γ}{m:Nat}{E:Ψ}(h:Filled x m E)(k:Nat)(hk:m+k≤32768):Filled x (m+k) (E.toList.take m++(ak (List.replicate k x)++E.toList.drop (m+(ak (List.replicate k x)).length))).toArray where
 size:=by
  have:=h.size;simp only[YS,Xa,Xr,Xz,dR,Yq];omega
 cell:=fun i hi=>by
  have hs:=h.size;have χ:(E.toList.take m).length=m:=by rw[Xr,Yq];omega
  rw[List.getElem?_toArray];by_cases h1:i<m
  ·rw[List.getElem?_append_left Ω,List.getElem?_take_of_lt h1,Array.getElem?_toList]
   exact h.cell i h1
  ·have h3:i-m<(ak (List.replicate k x)).length:=by rw[dR];omega
   rw[List.getElem?_append_right Ω,χ,List.getElem?_append_left h3,List.getElem?_eq_getElem h3];simp[ak]
theorem Ae(x:Γ)(v:ό)(w:ϑ)(hv:BRow w v [x]) :
 ϓ 41 #[v,.int .i64 32768] w fun e Z=>∃g E,e= .returned (.slice (ϐ g) 32768 32768)∧Loc w Z [(g,E,5)]∧Filled x 32768 E:=by
 have I:=Loc.nil w;haveI hA:Arg w v (ak [x]):=⟨hv.vrow⟩;obtain⟨a,c,rfl,hne,hp⟩:=hv;have HM:=Hd (fun J=>xD J);clear hne hp;rw[show[x].length=1 from rfl];rw[show[x].length=1 from rfl]at hA;go_enter func41,ntmps41;go_wp2_with (first|refine aV ?_|(go_at_call 89;go_loud (refine(HM.out _).mono ?_);rintro e J⟨rfl,V⟩;replace I:=I.keep V;refine p4 ?_)|(refine gN 54 ?_;(refine Pn I rfl rfl rfl fun g54 cs J hcs Y=>?_);clear I;have I:=Y;clear Y)|(refine gN 60 ?_;have hS1:=BS cs 0 (ak [x]) (by simp[ak];omega);refine qq I rfl rfl rfl rfl (by simp[ak]) (by simp[ak]) fun J I=>?_)|refine aP fun J I=>?_);have hF:Filled x 0 cs:=⟨hcs,fun i hi=>absurd hi (Nat.not_lt_zero _)⟩;have hF1:=hF.more 1 Ω;rw[XA]at hF1;have hone:((ak [x]).length:Int)=((o0 0:Nat):Int):=rfl;rw[hone];clear hS1 hF hone;go_loopw [10] (fun nn wr=>∃(k:Nat) (E:Ψ),k≤16∧nn= .int .i64 (o0 k:Nat)∧Filled x (o0 k) E∧Loc w wr [(g54,E,5)]) (fun nn _=>32768-(intOf nn).toNat);case atStart=>exact⟨0,_,Ω,rfl,hF1,I⟩
 case round =>
  clear I hF1;obtain⟨k,E,hk,rfl,hF,I⟩:=hrel;by_cases hlt:k<16
  ·obtain⟨e1,e2,e3,e4⟩:=C6 k hlt
   have E1:=Hd e1;clear e1;generalize o0 k=m at *
   have hch:min m 8192≤m:=Nat.min_le_left _ _;have hmin:(if(m:Int)≤8192 then(m:Int)else 8192)=((min m 8192:Nat):Int):=by split <;> omega
   have hmin2:min (m:Int) 8192=((min m 8192:Nat):Int):=Ω;have HMIN:=Hd hmin2;have m1:(m:Int)<32768:=Ω;have m0:(0:Int)≤m:=Ω;clear hmin hmin2;go_wp2_with (first|refine aV ?_|refine aP fun J I=>?_);rw[HMIN.out];have E2:=E1.out;have c0:0<min m 8192:=Ω;generalize min m 8192=c at *
   have q5:¬32768=m:=Ω;have q6:((32768:Int)-m).toNat=32768-m:=Ω;have q7:(c:Int)≤32768:=Ω;have q8:(m:Int)≤32768:=Ω;have hel:=dR x c;have hF2:=hF.more c Ω;have hS1:=BS E m (ak (List.replicate c x)) (by have:=hF.size;omega);have hs2:Seg E 0 c (ak (List.replicate c x)):=hF.seg c hch;refine mX (S:=fun Z=>Loc _ Z _) 10 (Loc.rem g54 (I.drew)) ?_;intro H;replace I:=I.drew;refine uG 0 ?_;refine uG 1 ?_;refine uG 2 ?_;refine uG 4 ?_;refine uG 5 ?_;refine uG 3 ?_;refine uG 6 ?_;refine rd1 7 ?_;intro K T;refine eCp fun J I=>?_;refine kO T (Loc.rem g54 (I)) fun H=>?_;refine uG 8 ?_;refine uG 9 ?_;refine wD ?_;clear H;rw[hel]at I hF2;have hw:IntKind.i64.wrap ((m:Int)+c)=((m+c:Nat):Int):=by rw[XV];omega
   rw[hw];clear hw;generalize hmc:m+c=mc at *
   go_wp2_with fail;go_roundw;case rel=>exact⟨k+1,_,Ω,by rw[E2],by rw[E2];exact hF2,I⟩
   case measure=>simp only[intOf];omega
  ·obtain rfl:k=16:=Ω
   rw[show o0 16=32768 from rfl]at hF ⊢;go_wp2_with (first|refine aV ?_|refine aP fun J I=>?_);go_ret;exact⟨g54,E,rfl,I,hF⟩
instance Sx:Ent 41:=eo func41
def flR(g:Nat)(er pr:Int):Ψ:= #[.slice (ϐ g) 32768 32768,.int .i64 (-1),.int .i64 0,.bool false,.int .i64 er,.int .i64 pr]
theorem xE(w:ϑ):(Instr.build 104 #[(0,.int .i64 (-1))]).run prog w= .ok (.agg #[.int .i64 (-1),.int .i64 0]) w:=Θ
theorem F4(g:Nat)(w:ϑ):(Instr.build 106 #[(0,.slice (ϐ g) 32768 32768),(1,.agg #[.int .i64 (-1),.int .i64 0])]).run prog w= .ok (.agg (flR g 0 0)) w:=Θ
theorem m9(w:ϑ):ϓ 13 #[.int .i64 128] w fun e Z=>∃b g E,e= .returned (.pointer (ϐ b))∧Filled 255 32768 E∧Loc w Z [(b,flR g 0 0,106),(g,E,5)]:=by
 have I:=Loc.nil w;have HR:=Hd (fun J v (h:BRow J v [255])=>Ae 255 v J h);have hmx:max (0:Int) 128=128:=Ξ;have hmn:min (128:Int) 1024=128:=Ξ;haveI hsb:Seg #[.int .u8 255] 0 1 (ak [255]):=il 255;go_enter func13,ntmps13;go_wp2_with (first|refine aV ?_|refine gBp 13 fun b13 J I=>?_|(refine gN 7 ?_;refine aL fun b7 J I=>?_)|(refine gN 10 ?_;refine lKk (HR.out _ _ (See.bytes I (v:= .slice (ϐ b7) 1 1) (l:=[255]))) ?_;rintro e J⟨g10,Z10,rfl,hN,hF⟩;refine Ϩ (I.join hN) fun I=>?_)|(refine gN 11 ?_;refine ϙ xE fun J I=>?_)|(refine gN 12 ?_;refine ϙ (F4 _) fun J I=>?_)|refine aP fun J I=>?_);go_ret;exact⟨b13,g10,Z10,rfl,hF,Loc.rem b7 I⟩
instance Sy:Ent 13:=eo func13
section
variable (g:Nat) (er pr:Int)
instance SA:Cell (flR g er pr) 0 (.slice (ϐ g) 32768 32768):=⟨rfl⟩
instance SD:Cell (flR g er pr) 1 (.int .i64 (-1)):=⟨rfl⟩
instance SE:Cell (flR g er pr) 3 (.bool false):=⟨rfl⟩
instance SF:Cell (flR g er pr) 4 (.int .i64 er):=⟨rfl⟩
instance SH:Cell (flR g er pr) 5 (.int .i64 pr):=⟨rfl⟩
instance SI:Put (flR g er pr) 1 (.int .i64 (-1)) (flR g er pr):=⟨rfl,by show 1<6;decide⟩
instance SJ(e:Int):Put (flR g er pr) 4 (.int .i64 e) (flR g e pr):=⟨rfl,by show 4<6;decide⟩
instance SL(e:Int):Put (flR g er pr) 5 (.int .i64 e) (flR g er e):=⟨rfl,by show 5<6;decide⟩
end
structure Fl(f:Φ)(y:Ψ):Prop where
 size:32768≤y.size
 cell:∀i,i<32768→y[i]?=some (.int .u8 (B8 (f i)))
theorem Fl.put{f h:Φ}{y:Ψ}(hf:Fl f y)(k:Nat)(b:Γ)(hk:k<32768)(e:∀i,i<32768→h i=if i=k then b else f i):Fl h (y.setIfInBounds k (.int .u8 (B8 b))) where
 size:=by have:=hf.size;simpa using this
 cell:=fun i hi=>by
  have:=hf.size;rw[e i hi];by_cases h1:i=k
  ·subst h1
   rw[Ρ rfl,Array.getElem?_setIfInBounds_self_of_lt Ω]
  ·rw[Χ h1,Array.getElem?_setIfInBounds_ne (fun h=>h1 h.symm)]
   exact hf.cell i hi
theorem Fl.congr{f h:Φ}{y:Ψ}(hf:Fl f y)(e:∀i,i<32768→h i=f i):Fl h y:=⟨hf.size,fun i hi=>by rw[e i hi];exact hf.cell i hi⟩
theorem Filled.fl{x:Γ}{y:Ψ}(h:Filled x 32768 y):Fl (fun _=>x) y:=⟨h.size,h.cell⟩
class FlM(F:Ψ→Ψ→Mem)(bf bb:Nat):Prop where
 a:∀x y,At (F x y) bf x 106
 u:∀x y x',Ups (F x y) bf x' (F x' y)
 b:∀x y,At (F x y) bb y 5
 v:∀x y y',Ups (F x y) bb y' (F x y')
instance flM(F:Ψ→Ψ→Mem)(bf bb:Nat)[h1:∀x y,At (F x y) bf x 106][h2:∀x y x',Ups (F x y) bf x' (F x' y)][h3:∀x y,At (F x y) bb y 5][h4:∀x y y',Ups (F x y) bb y' (F x y')]:FlM F bf bb:=⟨h1,h2,h3,h4⟩
section
variable {D w:ϑ} {F:Ψ→Ψ→Mem} {bf bb:Nat} [hF:FlM F bf bb] {er pr:Int} {y:Ψ}
theorem iZ(I:Loc D w (F (flR bb er pr) y)):ϓ 42 #[.pointer (ϐ bf)] w fun e Z=>e= .returned (.int .i64 128)∧Loc D Z (F (flR bb er pr) y):=by
 have hA:=hF.a;go_enter func42,ntmps42;go_wp2_with (first|refine aV ?_|refine aP fun J I=>?_);go_ret;exact⟨rfl,I⟩
theorem nc(I:Loc D w (F (flR bb er pr) y)):ϓ 51 #[.pointer (ϐ bf)] w fun e Z=>e= .returned (.bool false)∧Loc D Z (F (flR bb er pr) y):=by
 have hA:=hF.a;go_enter func51,ntmps51;go_wp2_with (first|refine aV ?_|refine aP fun J I=>?_);go_ret;exact⟨rfl,I⟩
theorem F5(at_ n:Nat)(h:at_+n≤32768)(I:Loc D w (F (flR bb er pr) y)):ϓ 243 #[.pointer (ϐ bf),.int .i64 at_,.int .i64 n] w fun e Z=>e= .returned (.bool true)∧Loc D Z (F (flR bb er pr) y):=by
 have hA:=hF.a;have q0:(0:Int)≤at_:=Ω;have q1:(0:Int)≤n:=Ω;have q2:(at_:Int)≤32768:=Ω;have q3:(n:Int)≤32768-at_:=Ω;go_enter func243,ntmps243;go_wp2_with (first|refine aV ?_|refine aP fun J I=>?_);go_ret;exact⟨rfl,I⟩
theorem iw(n:Int)(I:Loc D w (F (flR bb er pr) y)):ϓ 240 #[.pointer (ϐ bf),.int .i64 n] w fun e Z=>e= .returned (.tuple #[.int .i64 n,.bool true])∧Loc D Z (F (flR bb er pr) y):=by
 have hA:=hF.a;have hU:=hF.u;have hmx:max (-1:Int) (-2)= -1:=Ξ;go_enter func240,ntmps240;go_wp2_with (first|refine aV ?_|refine aP fun J I=>?_);go_ret2;exact⟨rfl,I⟩
end
instance SM:Ent 42:=eo func42
instance Po:Ent 51:=eo func51
instance Pp:Ent 243:=eo func243
instance Pq:Ent 240:=eo func240
section
variable {D w:ϑ} {F:Ψ→Ψ→Mem} {bf bb:Nat} [hF:FlM F bf bb] {er pr:Int} {y:Ψ}
theorem C7(I:Loc D w (F (flR bb er pr) y)):ϓ 197 #[.pointer (ϐ bf)] w fun e Z=>e= .returned (.bool true)∧Loc D Z (F (flR bb er pr) y):=by
 have hA:=hF.a;go_enter func197,ntmps197;go_wp2_with (first|refine aV ?_|(refine gN 11 ?_;refine lO (iw (F:=F) (bf:=bf) (bb:=bb) 0 I) fun J I=>?_)|refine aP fun J I=>?_);go_ret;exact⟨rfl,I⟩
def vx(f:Φ)(s j:Nat):Nat→Γ:=fun i=>if 256*s≤i∧i<256*s+j then 255 else f i
theorem F6:B8 255=255:=Ξ
theorem tJ{f:Φ}(s:Nat)(hs:s<128)(h0:0≤er∧er≤1099511627776)(hy:Fl f y)(I:Loc D w (F (flR bb er pr) y)) :
 ϓ 199 #[.pointer (ϐ bf),.int .i64 s] w fun e Z=>e= .returned (.bool true)∧∃e' y',(0≤e'∧e'≤1099511627776)∧Fl (vx f s 256) y'∧Loc D Z (F (flR bb e' pr) y'):=by
 have hA:=hF.a;have hU:=hF.u;have hB:=hF.b;have hV:=hF.v;have q0:¬(s:Int)<0:=Ω;have q1:¬(128:Int)≤s:=Ω;have q2:(s:Int)≤127:=Ω;have HE:=Hd (h0);have hY0:=hy.congr (h:=vx f s 0) (fun i hi=>by unfold vx;rw[Χ Ω]);clear hy h0;go_enter func199,ntmps199;go_wp2_with (first|refine aV ?_|(refine gN 20 ?_;refine lO (iZ (F:=F) (bf:=bf) (bb:=bb) I) fun J I=>?_)|(refine gN 25 ?_;refine lO (iw (F:=F) (bf:=bf) (bb:=bb) 256 I) fun J I=>?_)|refine aP fun J I=>?_);go_loopw [31] (fun kk wr=>∃(j:Nat) (y:Ψ),j≤256∧kk= .int .i64 j∧Fl (vx f s j) y∧Loc D wr (F (flR bb er pr) y)) (fun kk _=>256-(intOf kk).toNat);case atStart=>exact⟨0,y,Ω,rfl,hY0,I⟩
 case round =>
  clear I hY0;obtain⟨j,y,hj,rfl,hy,I⟩:=hrel;by_cases hlt:j<256
  ·have k0:(0:Int)≤j:=Ω
   have k1:(j:Int)<256:=Ω;have k2:(0:Int)≤s*256+j:=Ω;have k3:(s:Int)*256+j<32768:=Ω;have k4:((s:Int)*256+j).toNat=s*256+j:=Ω;have hp:=hy.put (h:=vx f s (j+1)) (s*256+j) 255 Ω (fun i hi=>by
    unfold vx;by_cases h1:i=s*256+j
    ·rw[Ρ h1,Ρ Ω]
    ·rw[Χ h1]
     by_cases h2:256*s≤i∧i<256*s+j
     ·rw[Ρ h2,Ρ Ω]
     ·rw[Χ h2,Χ Ω])
   rw[F6]at hp;haveI hP:Put y (s*256+j) (.int .u8 255) (y.setIfInBounds (s*256+j) (.int .u8 255)):=⟨rfl,by have:=hy.size;omega⟩;go_wp2_with (first|refine aV ?_|refine aP fun J I=>?_);go_roundw;case rel=>exact⟨j+1,_,Ω,by go_num,hp,I⟩
   case measure=>simp only[intOf];omega
  ·obtain rfl:j=256:=Ω
   have he:=HE.out;have e1:(er+1≤9223372036854775807):=Ω;have e2:(-9223372036854775808≤er+1):=Ω;obtain⟨m,hm⟩:∃m,min (er+1) 1099511627776=m:=⟨_,rfl⟩;have hm0:0≤m∧m≤1099511627776:=Ω;go_wp2_with (first|refine aV ?_|refine aP fun J I=>?_);go_ret;exact⟨rfl,_,y,Ω,hy,I⟩
instance Ps:Ent 197:=eo func197
instance Pu:Ent 199:=eo func199
end
theorem lK{ops:Array Oper}{rest:List Oper}{o:Oper}{a:Act}{D w:ϑ}{M:Mem}{Q:Exit→Act→ϑ→Prop}(I:Loc D w M)(hg:o.guard=none){t:ϋ}{x:Operand}(ho:o.op= .load t x){b k:Nat}(hx:a.eval x= .pointer (some ⟨b,k,none⟩)){v:ό}[ht:ScTy t](hc:w.cell? ⟨b,k,none⟩=some v)(h:∀Z,Loc D Z M→wpList prog ops Q rest (a.put o.dst v) Z):wpList prog ops Q (o::rest) a w :=
 Xt hg fun K T=>by
  unfold Oper.wp execOp;have:=cO (t:=t) (w:=w) (b:=b) (k:=k) (v:=v) hc;simp only[ho,hx,Instr.loadAt,Instr.sureAddr,Sem.run_bind,Sem.run_pure,Result.andThen_ok,this];exact T _ _ (h w I)
section
variable {D w:ϑ} {F:Ψ→Ψ→Mem} {bf bb:Nat} [hF:FlM F bf bb] {er pr:Int} {y:Ψ}
def sK(f:Φ)(a:Nat)(l:Δ)(j:Nat):Nat→Γ:=fun i=>if a≤i∧i<a+j then f i&&&l.getD (i-a) 0 else f i
theorem K0(a b:Γ):bits .and .u8 (B8 a) (B8 b)=B8 (a&&&b):=by
 show IntKind.u8.wrap ((BitVec.ofInt 8 (a.toNat:Int)&&&BitVec.ofInt 8 (b.toNat:Int)).toNat:Nat)=_;have e1:BitVec.ofInt 8 (a.toNat:Int)=a:=Ϡ;have e2:BitVec.ofInt 8 (b.toNat:Int)=b:=Ϡ;rw[e1,e2,X7];have:=(a&&&b).isLt;show((a&&&b).toNat:Int)%256=((a&&&b).toNat:Int);omega
theorem oD{f:Φ}(a:Nat){p:ϊ}{n c:Nat}{l:Δ}(hS:∀x y,See D (F x y) (.slice p n c) (ak l))(hl:l.length=n)(hc:n≤c)(h0:0<n)(ha:a+n≤32768)(h1:0≤pr∧pr≤1099511627776)(hy:Fl f y)(I:Loc D w (F (flR bb er pr) y)) :
 ϓ 200 #[.pointer (ϐ bf),.int .i64 a,.slice p n c] w fun e Z=>e= .returned (.bool true)∧∃p' y',(0≤p'∧p'≤1099511627776)∧Fl (sK f a l n) y'∧Loc D Z (F (flR bb er p') y'):=by
 have hA:=hF.a;have hU:=hF.u;have hB:=hF.b;have hV:=hF.v;have q0:(n:Int)≤c:=Ω;have q1:(0:Int)≤n:=Ω;have HE:=Hd h1;have HL:=Hd hl;have hSl:=Hd (fun J x y (h:Loc D J (F x y))=>(show BRow J (.slice p n c) l from by haveI:=hS x y;exact See.bytes h));have hY0:=hy.congr (h:=sK f a l 0) (fun i hi=>by unfold sK;rw[Χ Ω]);have ha2:(a:Int)≤32768:=Ω;clear hy h1 hl;go_enter func200,ntmps200;go_wp2_with (first|refine aV ?_|(refine gN 20 ?_;refine lO (F5 (F:=F) (bf:=bf) (bb:=bb) a n ha I) fun J I=>?_)|(refine gN 27 ?_;refine lO (iw (F:=F) (bf:=bf) (bb:=bb) n I) fun J I=>?_)|refine aP fun J I=>?_);obtain⟨pa,ca,e1,hn1,hp1⟩:=hSl.out _ _ _ I;obtain⟨bs,os,e2,V,hc1⟩:=hp1 (by rw[HL.out];exact h0);cases e1
 subst e2;clear hn1 hp1 V hc1;have HC:=Hd (fun J x y (h:Loc D J (F x y)) k (hk:k<l.length)=>(show J.cell? ⟨bs,os+k,none⟩=some (.int .u8 (B8 l[k]))from by
  obtain⟨pa,ca,e1,hn1,hp1⟩:=hSl.out _ _ _ h;obtain⟨b2,o2,e2,hb2,hc2⟩:=hp1 Ω;cases e1
  cases e2
  exact hc2 k hk))
 clear hSl;go_loopw [34] (fun kk wr=>∃(j:Nat) (y:Ψ),j≤l.length∧kk= .int .i64 j∧Fl (sK f a l j) y∧Loc D wr (F (flR bb er pr) y)) (fun kk _=>l.length-(intOf kk).toNat);case atStart=>exact⟨0,y,Ω,rfl,hY0,I⟩
 case round =>
  clear I hY0;obtain⟨j,y,hj,rfl,hy,I⟩:=hrel;by_cases hlt:j<l.length
  ·have k0:(0:Int)≤j:=Ω
   have k1:(j:Int)<l.length:=Ω;have k2:(0:Int)≤a+j:=Ω;have k3:(a:Int)+j<32768:=Ω;have k4:((a:Int)+j).toNat=a+j:=Ω;have hC:=Hd (fun J (h:Loc D J (F (flR bb er pr) y))=>HC.out J _ y h j hlt);have hcell:=hy.cell (a+j) Ω;rw[show sK f a l j (a+j)=f (a+j)from by unfold sK;rw[Χ Ω]]at hcell;haveI hCy:Cell y (a+j) (.int .u8 (B8 (f (a+j)))):=⟨hcell⟩;have hp:=hy.put (h:=sK f a l (j+1)) (a+j) (f (a+j)&&&l[j]) Ω (fun i hi=>by
    unfold sK;by_cases h1:i=a+j
    ·rw[Ρ h1,Ρ Ω,h1,YP,List.getD_eq_getElem?_getD,List.getElem?_eq_getElem hlt];rfl
    ·rw[Χ h1]
     by_cases h2:a≤i∧i<a+j
     ·rw[Ρ h2,Ρ Ω]
     ·rw[Χ h2,Χ Ω])
   rw[← K0]at hp;generalize l[j]=bb' at *
   haveI hP:Put y (a+j) (.int .u8 (bits .and .u8 (B8 (f (a+j))) (B8 bb'))) (y.setIfInBounds (a+j) (.int .u8 (bits .and .u8 (B8 (f (a+j))) (B8 bb')))):=⟨rfl,by have:=hy.size;omega⟩;clear hcell;go_wp2_with (first|refine aV ?_|((refine gN 38 ?_);(refine lK I rfl rfl rfl (hC.out _ I) ?_);clear I;intro J I)|refine aP fun J I=>?_);go_roundw;case rel=>exact⟨j+1,_,Ω,by go_num,hp,I⟩
   case measure=>simp only[intOf];omega
  ·obtain rfl:j=l.length:=Ω
   have he:=HE.out;have e1:(pr+1≤9223372036854775807):=Ω;have e2:(-9223372036854775808≤pr+1):=Ω;go_wp2_with (first|refine aV ?_|refine aP fun J I=>?_);go_ret;exact⟨rfl,_,Ω,y,hy,I⟩
end
instance Pv:Ent 200:=eo func200
def otR(bf:Nat)(fr fs:Φ)(n m:Int):Ψ:= #[.pointer (ϐ bf)]++aa 32 fr++aa 32 fs ++ #[.int .i64 n,.int .i64 m]
section
variable (bf:Nat) (fr fs:Φ) (n m:Int)
theorem F7:(otR bf fr fs n m).size=67:=by simp[otR,ai]
instance Pw:Cell (otR bf fr fs n m) 0 (.pointer (ϐ bf)):=⟨by
 unfold otR;rw[Array.getElem?_append_left ϔ,Array.getElem?_append_left ϔ,Array.getElem?_append_left Ϡ];rfl⟩
instance Px:Cell (otR bf fr fs n m) 65 (.int .i64 n):=⟨by
 unfold otR;rw[Array.getElem?_append_right ϔ];simp[ai]⟩
instance Py:Cell (otR bf fr fs n m) 66 (.int .i64 m):=⟨by
 unfold otR;rw[Array.getElem?_append_right ϔ];simp[ai]⟩
instance Pz(k:Int):Put (otR bf fr fs n m) 65 (.int .i64 k) (otR bf fr fs k m):=⟨by
 unfold otR;rw[Yk ϔ];simp[ai],by rw[F7];decide⟩
instance PA:Part (otR bf fr fs n m) 108 1 24 (aa 32 fr):=bQ (pre:= #[.pointer (ϐ bf)]) (post:=aa 32 fs ++ #[.int .i64 n,.int .i64 m]) (by simp[otR,Xb]) rfl
instance PC:Part (otR bf fr fs n m) 108 33 24 (aa 32 fs):=bQ (pre:= #[.pointer (ϐ bf)]++aa 32 fr) (post:= #[.int .i64 n,.int .i64 m]) (by simp[otR]) ϔ
theorem C8(w:ϑ):(Instr.build 108 #[(0,.pointer (ϐ bf)),(1,.agg (aa 32 fr)),(2,.agg (aa 32 fs)),(4,.int .i64 m)]).run prog w= .ok (.agg (otR bf fr fs 0 m)) w:=Θ
end
instance PD:ScTy 35:=⟨fun w=>by kernel_rfl,Θ⟩
instance PE:ScTy 37:=⟨fun w=>by kernel_rfl,Θ⟩
theorem rm(bf:Nat)(fr fs:Φ)(m:Nat)(hm:m≤1048576)(w:ϑ):ϓ 14 #[.pointer (ϐ bf),.agg (aa 32 fr),.agg (aa 32 fs),.int .i64 m] w fun e Z=>∃b,e= .returned (.pointer (ϐ b))∧Loc w Z [(b,otR bf fr fs 0 m,108)]:=by
 have I:=Loc.nil w;have hmx:max (0:Int) m=m:=Ω;have hmn:min (m:Int) 1048576=m:=Ω;go_enter func14,ntmps14;go_wp2_with (first|refine aV ?_|refine gBp 5 fun b5 J I=>?_|refine gBp 6 fun b6 J I=>?_|refine gBp 16 fun b16 J I=>?_|(refine gN 15 ?_;refine ϙ (C8 _ _ _ _) fun J I=>?_)|refine aP fun J I=>?_);go_ret;exact⟨b16,rfl,Loc.rem b5 (Loc.rem b6 I)⟩
instance PF:Ent 14:=eo func14
class OtM(F:Ψ→Ψ→Ψ→Mem)(bf bb bo:Nat):Prop where
 a:∀x y z,At (F x y z) bf x 106
 u:∀x y z x',Ups (F x y z) bf x' (F x' y z)
 b:∀x y z,At (F x y z) bb y 5
 v:∀x y z y',Ups (F x y z) bb y' (F x y' z)
 o:∀x y z,At (F x y z) bo z 108
 p:∀x y z z',Ups (F x y z) bo z' (F x y z')
instance otM(F:Ψ→Ψ→Ψ→Mem)(bf bb bo:Nat)[h1:∀x y z,At (F x y z) bf x 106][h2:∀x y z x',Ups (F x y z) bf x' (F x' y z)][h3:∀x y z,At (F x y z) bb y 5][h4:∀x y z y',Ups (F x y z) bb y' (F x y' z)][h5:∀x y z,At (F x y z) bo z 108][h6:∀x y z z',Ups (F x y z) bo z' (F x y z')]:OtM F bf bb bo:=⟨h1,h2,h3,h4,h5,h6⟩
theorem PG(F:Ψ→Ψ→Ψ→Mem)(bf bb bo:Nat)[h:OtM F bf bb bo](z:Ψ):FlM (fun x y=>F x y z) bf bb:=⟨fun x y=>h.a x y z,fun x y x'=>h.u x y z x',fun x y=>h.b x y z,fun x y y'=>h.v x y z y'⟩
section
variable {D w:ϑ} {F:Ψ→Ψ→Ψ→Mem} {bf bb bo:Nat} [hF:OtM F bf bb bo] {er pr:Int} {y:Ψ} {fr fs:Φ} {n m:Int}
theorem ks(I:Loc D w (F (flR bb er pr) y (otR bf fr fs n m))):ϓ 145 #[.pointer (ϐ bo)] w fun e Z=>e= .returned (.int .i64 m)∧Loc D Z (F (flR bb er pr) y (otR bf fr fs n m)):=by
 have hA:=hF.o;go_enter func145,ntmps145;go_wp2_with (first|refine aV ?_|refine aP fun J I=>?_);go_ret;exact⟨rfl,I⟩
instance PH:Ent 145:=eo func145
theorem eW(I:Loc D w (F (flR bb er pr) y (otR bf fr fs n m))):ϓ 24 #[.pointer (ϐ bo)] w fun e Z=>e= .returned (.int .i64 n)∧Loc D Z (F (flR bb er pr) y (otR bf fr fs n m)):=by
 have hA:=hF.o;go_enter func24,ntmps24;go_wp2_with (first|refine aV ?_|refine aP fun J I=>?_);go_ret;exact⟨rfl,I⟩
instance PI:Ent 24:=eo func24
theorem xF(I:Loc D w (F (flR bb er pr) y (otR bf fr fs n m))):ϓ 48 #[.pointer (ϐ bo)] w fun e Z=>e= .returned (.agg (aa 32 fr))∧Loc D Z (F (flR bb er pr) y (otR bf fr fs n m)):=by
 have hA:=hF.o;go_enter func48,ntmps48;go_wp2_with (first|refine aV ?_|refine gBp 2 fun b2 J I=>?_|refine aP fun J I=>?_);exact Ϣ (aj rfl I rfl) rfl ⟨rfl,I.pop⟩
instance PJ:Ent 48:=eo func48
theorem iz(I:Loc D w (F (flR bb er pr) y (otR bf fr fs n m))):ϓ 49 #[.pointer (ϐ bo)] w fun e Z=>e= .returned (.agg (aa 32 fs))∧Loc D Z (F (flR bb er pr) y (otR bf fr fs n m)):=by
 have hA:=hF.o;go_enter func49,ntmps49;go_wp2_with (first|refine aV ?_|refine gBp 2 fun b2 J I=>?_|refine aP fun J I=>?_);exact Ϣ (aj rfl I rfl) rfl ⟨rfl,I.pop⟩
instance PL:Ent 49:=eo func49
theorem F8(hn:0≤n)(hm:n<m)(hm1:m≤1048576)(I:Loc D w (F (flR bb er pr) y (otR bf fr fs n m))):ϓ 147 #[.pointer (ϐ bo)] w fun e Z=>e= .returned (.int .i64 0)∧Loc D Z (F (flR bb er pr) y (otR bf fr fs (n+1) m)):=by
 have hA:=hF.o;have hU:=hF.p;have q0:¬n=m:=Ω;have hFl:=PG F bf bb bo (otR bf fr fs n m);go_enter func147,ntmps147;go_wp2_with (first|refine aV ?_|refine aP fun J I=>?_);refine Ϭ 10 I fun H I=>?_;refine uG 0 ?_;refine uG 4 ?_;refine uG 1 ?_;refine uG 5 ?_;refine uG 2 ?_;refine uG 6 ?_;refine uZ 3 ?_;refine uZ 7 ?_;refine uG 8 ?_;refine uG 9 ?_;refine wD ?_;clear H;go_wp2_with (first|refine aV ?_|(refine gN 24 ?_;refine lO (C7 (F:=fun x y=>F x y (otR bf fr fs n m)) (bf:=bf) (bb:=bb) I) fun J I=>?_)|refine aP fun J I=>?_);go_ret;exact⟨rfl,I⟩
instance PM:Ent 147:=eo func147
end
section
variable {ops:Array Oper} {rest:List Oper} {o:Oper} {a:Act} {D w:ϑ} {M M':Mem} {Q:Exit→Act→ϑ→Prop}
theorem F9(I:Loc D w M)(hg:o.guard=none){t e:ϋ}{x y z' q:Operand}(ho:o.op= .buildSlice t 4 #[(0,x),(1,y),(2,z'),(3,q)])[he:Elt t e]{d1 d2 d3 d4:IntKind}{n1 n2 n3 n4:Int}(hx:a.eval x= .int d1 n1)(hy:a.eval y= .int d2 n2)(hz':a.eval z'= .int d3 n3)(hq:a.eval q= .int d4 n4)(h:∀b Z,Loc D Z ((b, #[.int d1 n1,.int d2 n2,.int d3 n3,.int d4 n4],e)::M)→wpList prog ops Q rest (a.put o.dst (.slice (ϐ b) 4 4)) Z):wpList prog ops Q (o::rest) a w :=
 Xt hg fun K T=>by
  obtain⟨i,z,hi,hz,hs1,hb,hzs⟩:=he.info;refine Yl t e 4 #[(0,x),(1,y),(2,z'),(3,q)] ho #[.int d1 n1,.int d2 n2,.int d3 n3,.int d4 n4] i z he.und hi hz (by rw[hs1];decide) (by rw[hs1];decide) ?_ (T _ _ (h _ _ (I.alloc #[.int d1 n1,.int d2 n2,.int d3 n3,.int d4 n4] e)));rw[hs1];have e:(Array.map (fun(y:Nat×Operand)=>(y.1,a.eval y.2)) #[(0,x),(1,y),(2,z'),(3,q)]).toList=[(0,.int d1 n1),(1,.int d2 n2),(2,.int d3 n3),(3,.int d4 n4)]:=by simp[hx,hy,hz',hq]
  rw[e];have e1:Array.range 4= #[0,1,2,3]:=rfl;simp[Instr.fill,Value.cells,e1]
end
theorem Ga(l:List Value)(h1:∀u∈l,u.oneCell'=true)(n:Nat)(hn:l.length=n):Seg l.toArray 0 n l:=⟨hn,h1,fun i hi=>by simp[hi]⟩
theorem C9(l:List Int):∀u∈cj l,u.oneCell'=true:=fun u hu=>by
 obtain⟨y,_,rfl⟩:=List.mem_map.1 hu;rfl
theorem tK(x y:Int):Seg #[.int .i64 x,.int .i64 y] 0 2 (cj [x,y]):=Ga (cj [x,y]) (C9 _) 2 rfl
theorem JQ(x y z u:Γ):Seg #[.int .u8 (B8 x),.int .u8 (B8 y),.int .u8 (B8 z),.int .u8 (B8 u)] 0 4 (ak [x,y,z,u]):=Ga (ak [x,y,z,u]) (bY _) 4 rfl
section
variable {ops:Array Oper} {rest:List Oper} {o o2:Oper} {a:Act} {D w:ϑ} {M M':Mem} {Q:Exit→Act→ϑ→Prop}
theorem xG(x1 x2 x3 x4:Γ)(I:Loc D w M)(hg:o.guard=none)(hg2:o2.guard=none){x y z' q:Operand}(ho:o.op= .buildSlice 29 4 #[(0,x),(1,y),(2,z'),(3,q)])(hx:a.eval x= .int .u8 (B8 x1))(hy:a.eval y= .int .u8 (B8 x2))(hz':a.eval z'= .int .u8 (B8 x3))(hq:a.eval q= .int .u8 (B8 x4)){u:Operand}(ho2:o2.op= .convert 29 29 u)(hu:∀v,(a.put o.dst v).eval u=v)(h:∀b Z,BRow Z (.slice (ϐ b) 4 4) [x1,x2,x3,x4]→Loc D Z M→wpList prog ops Q rest ((a.put o.dst (.slice (ϐ b) 4 4)).put o2.dst (.slice (ϐ b) 4 4)) Z):wpList prog ops Q (o::o2::rest) a w :=
 Xt hg fun K T=>by
  obtain⟨i,z,hi,hz,hs1,hb,hzs⟩:=(Ϙ:Elt 29 5).info;have hc:=Lib.run_convert_bytes_const (P:=prog) w 29 5 (ak [x1,x2,x3,x4]).toArray 4 4 underlying29 underlying5;refine Yl 29 5 4 #[(0,x),(1,y),(2,z'),(3,q)] ho (ak [x1,x2,x3,x4]).toArray i z underlying29 hi hz (by rw[hs1];decide) (by rw[hs1];decide) ?_ (T _ _ (Xt hg2 fun K2 hK2=>?_))
  ·rw[hs1]
   have e:(Array.map (fun(y:Nat×Operand)=>(y.1,a.eval y.2)) #[(0,x),(1,y),(2,z'),(3,q)]).toList=[(0,.int .u8 (B8 x1)),(1,.int .u8 (B8 x2)),(2,.int .u8 (B8 x3)),(3,.int .u8 (B8 x4))]:=by simp[hx,hy,hz',hq]
   rw[e];have e1:Array.range 4= #[0,1,2,3]:=rfl;simp[Instr.fill,Value.cells,e1,ak]
  ·unfold Oper.wp execOp
   simp only[ho2,hu,Sem.run_bind,hc,Result.andThen_ok,Sem.run_pure];have hb:BRow (w.alloc (.cells (ak [x1,x2,x3,x4]).toArray 5 ((ak [x1,x2,x3,x4]).toArray.size,(ak [x1,x2,x3,x4]).toArray.size+1))) (.slice (some ⟨w.heap.size,0,none⟩) 4 4) [x1,x2,x3,x4]:=pE (c:=4) [x1,x2,x3,x4] (Xe _ _);exact hK2 _ _ (h _ _ hb (I.keep (jo (XE _ _) _)))
theorem JR(x1:Γ)(I:Loc D w M)(hg:o.guard=none)(hg2:o2.guard=none){x:Operand}(ho:o.op= .buildSlice 29 1 #[(0,x)])(hx:a.eval x= .int .u8 (B8 x1)){u:Operand}(ho2:o2.op= .convert 29 29 u)(hu:∀v,(a.put o.dst v).eval u=v)(h:∀b Z,BRow Z (.slice (ϐ b) 1 1) [x1]→Loc D Z M→wpList prog ops Q rest ((a.put o.dst (.slice (ϐ b) 1 1)).put o2.dst (.slice (ϐ b) 1 1)) Z):wpList prog ops Q (o::o2::rest) a w :=
 Xt hg fun K T=>by
  obtain⟨i,z,hi,hz,hs1,hb,hzs⟩:=(Ϙ:Elt 29 5).info;have hc:=Lib.run_convert_bytes_const (P:=prog) w 29 5 (ak [x1]).toArray 1 1 underlying29 underlying5;refine Yl 29 5 1 #[(0,x)] ho (ak [x1]).toArray i z underlying29 hi hz (by rw[hs1];decide) (by rw[hs1];decide) ?_ (T _ _ (Xt hg2 fun K2 hK2=>?_))
  ·rw[hs1]
   have e:(Array.map (fun(y:Nat×Operand)=>(y.1,a.eval y.2)) #[(0,x)]).toList=[(0,.int .u8 (B8 x1))]:=by simp[hx]
   rw[e];have e1:Array.range 1= #[0]:=rfl;simp[Instr.fill,Value.cells,e1,ak]
  ·unfold Oper.wp execOp
   simp only[ho2,hu,Sem.run_bind,hc,Result.andThen_ok,Sem.run_pure];have hb:BRow (w.alloc (.cells (ak [x1]).toArray 5 ((ak [x1]).toArray.size,(ak [x1]).toArray.size+1))) (.slice (some ⟨w.heap.size,0,none⟩) 1 1) [x1]:=pE (c:=1) [x1] (Xe _ _);exact hK2 _ _ (h _ _ hb (I.keep (jo (XE _ _) _)))
end
def xH(f:Φ)(n:Int)(l:Δ):Δ :=
 ([80,67,66,49]++aW [n,(l.length:Int)]++l)++ae 32 (ib (ae 32 (m6 f [98,97,110,107])) ([80,67,66,49]++aW [n,(l.length:Int)]++l))
theorem xI(f:Φ)(n:Int)(l:Δ):(xH f n l).length=52+l.length:=by simp[xH,bp,ag];omega
theorem Af(f:Φ)(n:Int)(v:ό)(l:Δ)(w:ϑ)(hv:BRow w v l)(hn:0≤n)(hl:l.length≤4096) :
 ϓ 198 #[.agg (aa 32 f),.int .i64 n,v] w fun e Z=>∃g W E,e= .returned (.tuple #[.slice (ϐ g) (xH f n l).length W,.int .i64 0])∧OwnR E (xH f n l).length W (ak (xH f n l))∧Loc w Z [(g,E,5)]:=by
 have I:=Loc.nil w;haveI hA:Arg w v (ak l):=⟨hv.vrow⟩;obtain⟨a,c,rfl,hne,hp⟩:=hv;clear hne hp;have q1:¬(4096:Int)<l.length:=Ω;have HP:=Hd (fun J (v1 v2:ό) (h2:BRow J v1 [80,67,66,49]) (h3:VRow J v2 (cj [n,(l.length:Int)]))=>cB v1 [80,67,66,49] v2 [n,(l.length:Int)] J h2 Ξ Ξ h3 Ϡ);have χ:([80,67,66,49]++aW [n,(l.length:Int)]).length=20:=by simp[bp]
 have hlen1:([80,67,66,49]++aW [n,(l.length:Int)]).length≤20:=Ω;clear χ;haveI s4:Seg #[.int .u8 80,.int .u8 67,.int .u8 66,.int .u8 49] 0 4 (ak [80,67,66,49]):=JQ 80 67 66 49;haveI s2:=tK n (l.length:Int);have HREC:=Hd (show xH f n l=([80,67,66,49]++aW [n,(l.length:Int)]++l)++ae 32 (ib (ae 32 (m6 f [98,97,110,107])) ([80,67,66,49]++aW [n,(l.length:Int)]++l))from rfl);have HK:=Hd (fun J=>BQ f [98,97,110,107] J Ξ);generalize xH f n l=rc,[80,67,66,49]++aW [n,(l.length:Int)]=hd,m6 f [98,97,110,107]=kk at *
 have HM:=Hd (fun J v vb (h1:BRow J v (ae 32 kk)) (h2:BRows J vb [hd++l])=>vt v vb (ae 32 kk) [hd++l] J h1 h2 (by rw[ag];omega) Ϡ Ϟ);rw[show[hd++l].flatten=hd++l from by simp]at HM;generalize ib (ae 32 kk) (hd++l)=mm at *
 have HLR:=Hd (show rc.length=hd.length+l.length+32 from by rw[HREC.out,Xa,Xa,ag]);haveI s9:Seg (aa 32 kk) 0 32 (ak (ae 32 kk)):=by have:=segB kk 0 32 (Xn _);simpa using this
 haveI s10:Seg (aa 32 mm) 0 32 (ak (ae 32 mm)):=by have:=segB mm 0 32 (Xn _);simpa using this
 generalize l.length=m at *
 go_enter func198,ntmps198;go_wp2_with (first|refine aV ?_|refine gBp 3 fun b3 J I=>?_|refine gBp 9 fun b9 J I=>?_|refine gBp 10 fun b10 J I=>?_|((with_reducible show wpList _ _ _ (⟨some 18,_,_,_,_,_⟩::⟨some 19,_,_,_,_,_⟩::_) _ _);go_loud (refine xG 80 67 66 49 I rfl rfl rfl rfl rfl rfl rfl rfl (fun _=>rfl) ?_);clear I;intro b18 w19 hb19 hL0;have hA19:Arg w19 (.slice (ϐ b18) 4 4) (ak [80,67,66,49]):=⟨hb19.vrow⟩;have I:=Loc.nil w19)|((refine gN 23 ?_);(first|refine BP I rfl rfl rfl rfl ?_|refine F9 I rfl rfl rfl rfl rfl rfl ?_);intro b23;clear I;intro J I;refine p4 ?_)|((go_at_call 202;go_loud (refine(HP.out _ _ _ (See.bytes I (l:=[80,67,66,49])) (See.see _ I)).mono ?_);rintro e J⟨g24,Y24,Z24,rfl,W24,hg24,hc24,hb24⟩;have Y:=hL0.join (I.fresh hb24 hg24 hc24);clear hb24 hg24 hc24;clear I hA19 hb19;have I:=Y;clear Y;try simp only[List.cons_append,List.nil_append]at I))|(refine gN 26 ?_;refine aA ?_;intro g26 Y26 Z26 J W26 I)|(go_at_call 241;go_loud (refine(HK.out _).mono ?_);rintro e J⟨rfl,V⟩;replace I:=I.keep V;refine p4 ?_)|(refine gN 31 ?_;refine Bs I rfl rfl rfl ?_;intro b31;clear I;intro J I)|(go_at_call 242;go_loud (refine(HM.out _ _ _ (See.bytes I (l:=ae 32 kk)) (iV (I.at_ b31) (See.bytes I))).mono ?_);rintro e J⟨rfl,V⟩;replace I:=I.keep V;refine p4 ?_)|(refine gN 35 ?_;refine aA ?_;intro g35 Y35 Z35 J W35 I)|refine aP fun J I=>?_);go_ret2;exact⟨g35,Y35,Z35,by rw[HLR.out];rfl,by rw[HLR.out,HREC.out];exact W35,Loc.rem b10 (Loc.rem b31 (Loc.rem b9 (Loc.rem b23 (Loc.rem b3 I))))⟩
instance SN:Ent 198:=eo func198
end Go.Proofs.YtoifhhljfaoejaaGreatDoor
