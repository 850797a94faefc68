/-
  Lemmas of the law, part 2: the walks of the functions that it calls and the plain facts about them. No condition beyond those written.
-/
import Derived.Test.YtoifhhljfaoejaaGreatDoorPkAA
import Derived.Shelf.Abstract
set_option maxRecDepth 100000
set_option maxHeartbeats 8000000
set_option linter.unusedVariables false
set_option linter.unusedSimpArgs false
set_option linter.unusedSectionVars false
namespace Go.Proofs.YtoifhhljfaoejaaGreatDoor
open Go.Proofs.Tryz
section
open Go.RowKit
theorem Loc.perm{w0 w:World}{M M':Mem}(h:Loc w0 w M)(hp:M.Perm M'):Loc w0 w M' :=
 ⟨h.bel,fun b r t hm=>h.ok b r t (hp.mem_iff.2 hm),(hp.map (·.1)).pairwise h.nd (fun h=>Ne.symm h)⟩
section
variable {P:Program} {ops:Array Oper} {Q:Exit→Act→World→Prop} {S:World→Prop}
def Steps(P:Program)(o:Oper)(ev:Operand→Value)(v:Value)(w:World):Prop :=
 (execOp ev o).run P w= .ok (.value v) w∨∃f args,(execOp ev o).run P w= .ok (.enter f args) w∧Calls P f args w fun e w'=>e= .returned v∧Below w.heap.size w w'
theorem Steps.wp{o:Oper}{a:Act}{v:Value}{w:World}{K:Act→World→Prop}(h:Steps P o a.eval v w)(hK:∀w',Below w.heap.size w w'→K (a.put o.dst v) w'):o.wp P a w K Q:=by
 unfold Oper.wp;rcases h with h|⟨f,args,h,hc⟩
 ·rw[h];exact hK w (Below.refl _ _)
 ·rw[h,Oper.upon_enter]
  refine hc.mono fun e w'' hh=>?_;obtain⟨rfl,hb⟩:=hh;exact hK _ hb
def okB(P:Program)(ops:Array Oper)(S:World→Prop)(p:Bool)(o:Oper)(v:Value)(a:Act):Prop :=
 if p then Yields P ops o v a else Region.wanted o (yielded ops a.tmps)=true∧∀w,S w→Steps P o a.eval v w
theorem rR{p:Bool}{o:Oper}(hs:∀cs b,o.op≠ .select cs b){v u:Value}{a:Act}{dst:Option Tmp}(h:∀d,dst=some d→d ∉ o.looksAt ops):okB P ops S p o v (a.put dst u)↔okB P ops S p o v a:=by
 unfold okB Yields Steps;rw[execOp_put o hs a dst u h,wanted_put o a dst u h]
theorem okB.wpOp{p:Bool}{i:Nat}{o:Oper}(hi:ops[i]?=some o){v:Value}{a:Act}{w:World}(h:okB P ops S p o v a)(hS:S w){K:Act→World→Prop}(hK:∀w',Below w.heap.size w w'→K (a.put o.dst v) w'):wpOp P ops Q i K a w:=by
 unfold okB at h;cases p with
 | true=>exact Yields.wpOp hi h (hK w (Below.refl _ _))
 | false =>
  obtain⟨hw,h⟩:=h;unfold Go.wpOp;simp only[hi,hw,if_true];exact .inl ((h w hS).wp hK)
def qk(P:Program)(ops:Array Oper)(S:World→Prop):List (Nat×Bool)→Act→(Act→Prop)→Prop
 | [],a,R=>R a
 | (i,p)::l,a,R=>∃o v,ops[i]?=some o∧okB P ops S p o v a∧qk P ops S l (a.put o.dst v) R
theorem qJ{R R':Act→Prop}(h:∀a,R a→R' a):∀(l:List (Nat×Bool)) (a:Act),qk P ops S l a R→qk P ops S l a R'
 | [],a,hR=>h a hR
 | (i,p)::l,a,⟨o,v,h1,h2,h3⟩=>⟨o,v,h1,h2,qJ h l _ h3⟩
theorem tL(hsel:∀(j:Nat) (o:Oper) cs b,ops[j]?=some o→o.op≠ .select cs b){dst:Option Tmp}{u:Value}{R R':Act→Prop}(hR:∀a,R a→R' (a.put dst u)) :
 ∀(l:List (Nat×Bool)) (a:Act),(∀x∈l,∀o,ops[x.1]?=some o→(∀d,dst=some d→d ∉ o.looksAt ops)∧∀d,o.dst=some d→dst≠some d) →
 qk P ops S l a R→qk P ops S l (a.put dst u) R'
 | [],a,_,h=>hR a h
 | (i,p)::l,a,hx,⟨o,v,h1,h2,h3⟩=>by
  obtain⟨hl,hd⟩:=hx (i,p) (.head _) o h1;refine⟨o,v,h1,(rR (hsel i o · · h1) hl).2 h2,?_⟩;rw[← Act.put_comm a v u hd];exact tL hsel hR l _ (fun x hm=>hx x (.tail _ hm)) h3
theorem mr(hsel:∀(j:Nat) (o:Oper) cs b,ops[j]?=some o→o.op≠ .select cs b){j:Nat}{p:Bool}{oj:Oper}(hj:ops[j]?=some oj){R:Act→Prop}(l2:List (Nat×Bool)) :
 ∀(l1:List (Nat×Bool)) (a:Act),(∀x∈l1,∀o,ops[x.1]?=some o→oj.apart ops o=true) →
 qk P ops S (l1++(j,p)::l2) a R→∃v,okB P ops S p oj v a∧qk P ops S (l1++l2) (a.put oj.dst v) R
 | [],a,_,⟨o,v,h1,h2,h3⟩=>by
  rw[hj]at h1;cases h1
  exact⟨v,h2,h3⟩
 | (i,q)::l1,a,hx,⟨o,v,h1,h2,h3⟩=>by
  obtain⟨v',h4,h5⟩:=mr hsel hj l2 l1 _ (fun x hm=>hx x (.tail _ hm)) h3;obtain⟨a1,a2,a3⟩:=Oper.apart_spec (hx (i,q) (.head _) o h1);refine⟨v',(rR (hsel j oj · · hj) a3).1 h4,o,v,h1,(rR (hsel i o · · h1) a1).2 h2,?_⟩;rw[Act.put_comm a v' v a2];exact h5
abbrev kW:=List (Nat×Array Value×TypeId×Option Nat)
def rT(ops:Array Oper):kW→Act→Mem→(Mem→Act→Prop)→Prop
 | [],a,D,R=>R D a
 | (i,z,t,some b)::l,a,D,R=>rT ops l a ((b,z,t)::D) R
 | (i,z,t,none)::l,a,D,R=>∀o,ops[i]?=some o→∀b:Nat,rT ops l (a.put o.dst (.pointer (some ⟨b,0,none⟩))) ((b,z,t)::D) R
def cK(l:kW):List Nat:=(l.filter (·.2.2.2.isNone)).map (·.1)
def fO:kW→Mem
 | []=>[]
 | (i,z,t,some b)::l=>(b,z,t)::fO l
 | (i,z,t,none)::l=>fO l
theorem fx:∀l1 l2:kW,fO (l1++l2)=fO l1++fO l2
 | [],_=>rfl
 | (i,z,t,some b)::l,l2=>by show _::fO (l++l2)=_;rw[fx l l2];rfl
 | (i,z,t,none)::l,l2=>fx l l2
theorem m7(l1 l2:kW):cK (l1++l2)=cK l1++cK l2:=by simp[cK]
theorem mt:∀(l:kW) (a:Act) (D:Mem) (R:Mem→Act→Prop),cK l=[]→rT ops l a D R→R ((fO l).reverse++D) a
 | [],a,D,R,_,h=>h
 | (i,z,t,some b)::l,a,D,R,hp,h=>by
  have:=mt l a ((b,z,t)::D) R (by simpa[cK] using hp) h;simpa[fO] using this
 | (i,z,t,none)::l,a,D,R,hp,h=>by simp[cK]at hp
theorem mu{j:Nat}{oj:Oper}(hj:ops[j]?=some oj){z:Array Value}{t:TypeId}(b:Nat){R:Mem→Act→Prop}(l2:kW) :
 ∀(l1:kW) (a:Act) (D:Mem),(∀x∈l1,∀o,ops[x.1]?=some o→∀d,o.dst=some d→oj.dst≠some d) →
 rT ops (l1++(j,z,t,none)::l2) a D R→rT ops (l1++(j,z,t,some b)::l2) (a.put oj.dst (.pointer (some ⟨b,0,none⟩))) D R
 | [],a,D,_,h=>h oj hj b
 | (i,z',t',some b')::l1,a,D,hx,h=>mu hj b l2 l1 a _ (fun x hm=>hx x (.tail _ hm)) h
 | (i,z',t',none)::l1,a,D,hx,h=>fun o ho b'=>by
  rw[← Act.put_comm a _ _ (hx _ (.head _) o ho)];exact mu hj b l2 l1 _ _ (fun x hm=>hx x (.tail _ hm)) (h o ho b')
def cH(o:Oper)(j:Nat):Bool:=o.after.any fun e=>Region.binds .any e&&e.on==j
inductive Reach (ops:Array Oper):Nat→Nat→Prop
 | one {i j:Nat} {o:Oper} (ho:ops[i]?=some o) (h:cH o j=true):Reach ops i j
 | step {i j k:Nat} {o:Oper} (ho:ops[i]?=some o) (h:cH o k=true) (r:Reach ops k j):Reach ops i j
def rU(ops:Array Oper):Nat→Nat→Nat→Bool
 | 0,_,_=>false
 | f+1,i,j=>match ops[i]? with
  | none=>false
  | some o=>cH o j || o.after.any fun e=>Region.binds .any e&&rU ops f e.on j
theorem tN{ops:Array Oper}:∀(f i j:Nat),rU ops f i j=true→Reach ops i j
 | 0,_,_,h=>by cases h
 | f+1,i,j,h=>by
  unfold rU at h;cases ho:ops[i]? with
  | none=>rw[ho]at h;cases h
  | some o =>
   rw[ho]at h;simp only[Bool.or_eq_true]at h;rcases h with h|h
   ·exact .one ho h
   ·rw[Array.any_eq_true']at h
    obtain⟨e,he,hb⟩:=h;rw[Bool.and_eq_true]at hb;refine .step ho ?_ (tN f e.on j hb.2);unfold cH;rw[Array.any_eq_true'];exact⟨e,he,by simp[hb.1]⟩
theorem Reach.out{ops:Array Oper}{rem:List Nat}(hc:∀(i:Nat) (o:Oper),ops[i]?=some o→i ∉ rem→∀k,cH o k=true→k ∉ rem){i j:Nat}(r:Reach ops i j):i ∉ rem→j ∉ rem:=by
 induction r with
 | one ho h=>exact fun hi=>hc _ _ ho hi _ h
 | step ho h _ ih=>exact fun hi=>ih (hc _ _ ho hi _ h)
def kx(ops:Array Oper):List Nat→Array Bool→Bool
 | [],L=>Region.ready .any ops L==[]
 | i::l,L=>(Region.ready .any ops L==[i])&&kx ops l (L.setIfInBounds i true)
theorem i9(hsz:∀i,i∈([]:List Nat)→True):∀(T:List Nat) (L:Array Bool) (a:Act) (w:World),kx ops T L=true→wpList P ops Q (T.filterMap (ops[·]?)) a w→wpAny P .any ops Q T.length L a w
 | [],L,a,w,hf,h=>⟨by simpa[kx] using hf,h⟩
 | i::T,L,a,w,hf,h=>by
  simp only[kx,Bool.and_eq_true,beq_iff_eq]at hf;refine⟨fun h0=>(by rw[hf.1]at h0;cases h0),fun j hj=>?_⟩;rw[hf.1]at hj;obtain rfl:j=i:=by simpa using hj
  have hr:j∈Region.ready .any ops L:=by rw[hf.1];exact .head _
  obtain⟨_,o,ho,_⟩:=mem_ready.1 hr;rw[List.filterMap_cons,ho]at h;simp only at h;unfold wpOp;simp only[ho];unfold wpList at h;split
  ·rename_i hw
   rw[if_pos hw]at h;exact h.imp (Oper.wp_mono fun a w h=>i9 hsz T _ a w hf.2 h) id
  ·rename_i hw
   rw[if_neg hw]at h;exact i9 hsz T _ _ w hf.2 h
def BG(ops:Array Oper)(B:List (Nat×Bool))(A T:List Nat):Bool :=
 let all:=B.map (·.1)++A++T
 let get:=fun i=>(ops[i]?).getD default
 Region.noSelect ops&&all.all (fun i=>decide (i<ops.size))&&decide all.Nodup&&(List.range ops.size).all (all.contains ·) &&
 (List.range ops.size).all (fun i=>(get i).after.all fun e=>decide (e.on<ops.size) && !(Region.binds .any e&&e.on==i)) &&
 decide (all.Pairwise fun i j=>cH (get i) j=false) &&
 (B.map (·.1)++A).all (fun i=>all.all fun j=>i==j || cH (get i) j || cH (get j) i || (get i).apart ops (get j)) &&
 A.all (fun i=>A.all fun j=>i==j || (get i).apart ops (get j)) &&
 T.all (fun t=>((B.filter (!·.2)).map (·.1)++A).all (rU ops ops.size t ·) || T.any fun t'=>cH (get t) t') &&
 kx ops T (Array.ofFn (n:=ops.size) fun i=> !T.contains i.1)
theorem BH{o:Oper}{j:Nat}{e:Edge}(he:e∈o.after)(hb:Region.binds .any e=true)(hj:e.on=j):cH o j=true:=by
 unfold cH;rw[Array.any_eq_true'];exact⟨e,he,by simp[hb,hj]⟩
theorem yu{L:Array Bool}{rem rem':List Nat}(hL:∀i,L.getD i true=false↔i∈rem){j:Nat}(hj:j∈rem)(h:∀i,i∈rem'↔i∈rem∧i≠j)(i:Nat):(L.setIfInBounds j true).getD i true=false↔i∈rem':=by
 by_cases e:j=i
 ·subst e
  rw[h];have hlt:j<L.size:=by
   rcases Nat.lt_or_ge j L.size with h'|h'
   ·exact h'
   ·have:=(hL j).2 hj
    simp[Array.getElem?_eq_none h']at this
  simp[hlt]
 ·rw[getD_set_ne true e,hL,h]
  exact⟨fun h=>⟨h,fun h'=>e h'.symm⟩,fun h=>h.1⟩
theorem ja{L:Array Bool}{rem:List Nat}(hL:∀i,L.getD i true=false↔i∈rem){j k:Nat}(hr:j∈Region.ready .any ops L){o:Oper}(ho:ops[j]?=some o)(hw:cH o k=true):k ∉ rem:=fun hk=>by
 obtain⟨_,o',ho',hall⟩:=mem_ready.1 hr;rw[ho]at ho';cases ho'
 unfold cH at hw;rw[Array.any_eq_true']at hw;obtain⟨e,he,hb⟩:=hw;simp only[Bool.and_eq_true,beq_iff_eq]at hb;have h1:=hall e he hb.1;rw[hb.2]at h1;have h2:=(hL k).2 hk;rcases Nat.lt_or_ge k L.size with h'|h'
 ·simp[h']at h1 h2
  rw[h1]at h2;cases h2
 ·simp[Array.getElem?_eq_none h']at h1
theorem tO{L:Array Bool}{rem rest:List Nat}{x:Nat}(hL:∀i,L.getD i true=false↔i∈rem)(hsz:L.size=ops.size)(hx:rem=x::rest)(hin:∀(i:Nat) (o:Oper),ops[i]?=some o→∀e∈o.after,e.on<ops.size)(hself:∀(i:Nat) (o:Oper),ops[i]?=some o→cH o i=false)(htop:rem.Pairwise (fun i j=>∀o,ops[i]?=some o→cH o j=false)):x∈Region.ready .any ops L:=by
 have h0:L.getD x true=false:=(hL x).2 (by rw[hx];exact .head _);have hlt:x<ops.size:=by
  rcases Nat.lt_or_ge x L.size with h'|h'
  ·omega
  ·simp[Array.getElem?_eq_none h']at h0
 refine mem_ready.2 ⟨h0,ops[x],Array.getElem?_eq_getElem hlt,fun e he hb=>?_⟩;have hlt2:=hin x _ (Array.getElem?_eq_getElem hlt) e he;have hnot:e.on ∉ rem:=by
  rw[hx];intro hm;have hw:=BH he hb rfl;cases hm with
  | head=>rw[hself _ _ (Array.getElem?_eq_getElem hlt)]at hw;cases hw
  | tail _ hm =>
   rw[hx,List.pairwise_cons]at htop;rw[htop.1 _ hm _ (Array.getElem?_eq_getElem hlt)]at hw;cases hw
 have h1:¬L.getD e.on true=false:=fun h=>hnot ((hL _).1 h);have h2:e.on<L.size:=by omega
 simp[h2]at h1 ⊢;exact h1
theorem BI(hsel:Region.noSelect ops=true)(hQ:∀c d v a w,Q (.panic c) (Act.put a d v) w→Q (.panic c) a w)(hin:∀(i:Nat) (o:Oper),ops[i]?=some o→∀e∈o.after,e.on<ops.size)(hself:∀(i:Nat) (o:Oper),ops[i]?=some o→cH o i=false)(B:List Nat)(A:List Nat)(T:List Nat)(hpair:∀i∈B++A,∀j∈B++A++T,i≠j→∀o o',ops[i]?=some o→ops[j]?=some o'→cH o j=true∨cH o' i=true∨o.apart ops o'=true)(LT:Array Bool)(hLT:LT.size=ops.size)(hLT2:∀i,LT.getD i true=false↔i∈T)(hforce:kx ops T LT=true){w0:World}{M0:Mem}(R:Mem→Act→Prop)(hR:∀D a,R D a→∀w,Loc w0 w (D++M0)→wpList P ops Q (T.filterMap (ops[·]?)) a w) :
 ∀(fuel:Nat) (lB:List (Nat×Bool)) (lA:kW) (L:Array Bool) (a:Act) (w:World),
  fuel=lB.length+(cK lA).length+T.length→L.size=ops.size→(∀i,L.getD i true=false↔i∈lB.map (·.1)++cK lA++T) →
  (lB.map (·.1)++cK lA++T).Pairwise (fun i j=>∀o,ops[i]?=some o→cH o j=false)→(lB.map (·.1)++cK lA++T).Nodup →
  (∀i∈lB.map (·.1),i∈B)→(∀i∈lA.map (·.1),i∈A)→(lA.map (·.1)).Nodup →
  (∀x∈lA,∀o,ops[x.1]?=some o→o.op= .alloc x.2.2.1∧o.guard=none∧∀w v,(Instr.alloc x.2.2.1 true v).run P w= .ok (.pointer (some ⟨w.heap.size,0,none⟩)) (w.alloc (.cells x.2.1 x.2.2.1))) →
  (∀t∈T,∀o,ops[t]?=some o→(∀i∈(lB.filter (!·.2)).map (·.1)++cK lA,Reach ops t i)∨∃t'∈T,cH o t'=true) →
  (∀(i:Nat) (o:Oper),ops[i]?=some o→i ∉ lB.map (·.1)++cK lA++T→∀k,cH o k=true→k ∉ lB.map (·.1)++cK lA++T) →
  (∀x∈lA,∀y∈lA,x.1≠y.1→∀o o',ops[x.1]?=some o→ops[y.1]?=some o'→∀d,o.dst=some d→o'.dst≠some d) →
  Loc w0 w (fO lA++M0)→qk P ops (fun w=>Loc w0 w M0) lB a (fun a'=>rT ops lA a' [] R)→wpAny P .any ops Q fuel L a w:=by
 intro fuel;have hs:=Region.noSelect_spec hsel
 induction fuel with
 | zero =>
  intro lB lA L a w hf hsz hL _ _ _ _ _ _ _ _ _ hloc hseq;have h1:lB=[]:=List.eq_nil_of_length_eq_zero (by omega);have h2:cK lA=[]:=List.eq_nil_of_length_eq_zero (by omega);have h3:T=[]:=List.eq_nil_of_length_eq_zero (by omega);subst h1;have:=hR _ _ (mt lA a [] R h2 hseq) w (hloc.perm (by simpa using((List.reverse_perm _).symm.append_right M0)));rw[h3]at this;have hLe:L=LT:=Array.ext (by rw[hsz,hLT]) fun i hi1 hi2=>by
   have e1:=hL i;have e2:=hLT2 i;rw[h2,h3]at *
   simp only[List.map_nil,List.append_nil,List.not_mem_nil,iff_false]at e1 e2;simp[hi1]at e1;simp[hi2]at e2;rw[e1,e2]
  subst hLe;rw[h3]at hforce;exact⟨by simpa[kx] using hforce,this⟩
 | succ fuel ih =>
  intro lB lA L a w hf hsz hL htop hnd hB hA hAn hAl hTw hcl hAd hloc hseq;have closed:∀(rem':List Nat) (j:Nat),j∈Region.ready .any ops L→(∀i,i∈rem'↔i∈lB.map (·.1)++cK lA++T∧i≠j)→∀(i:Nat) (o:Oper),ops[i]?=some o→i ∉ rem'→∀k,cH o k=true→k ∉ rem':=by
   intro rem' j hr hrem i o ho hi k hw hk;have hk':=((hrem k).1 hk).1;by_cases e:i=j
   ·subst e
    exact ja hL hr ho hw hk'
   ·exact hcl i o ho (fun h=>hi ((hrem i).2 ⟨h,e⟩)) k hw hk'
  have rdy:∀{x:Nat} {rest:List Nat},lB.map (·.1)++cK lA++T=x::rest→x∈Region.ready .any ops L:=fun hx=>tO hL hsz hx hin hself htop;have inB:∀{x:Nat×Bool},x∈lB→x.1∈lB.map (·.1)++cK lA++T:=fun hx=>List.mem_append_left _ (List.mem_append_left _ (List.mem_map.2 ⟨_,hx,rfl⟩));have inA:∀{j:Nat},j∈cK lA→j∈lB.map (·.1)++cK lA++T:=fun hx=>List.mem_append_left _ (List.mem_append_right _ hx);have pA:∀{j:Nat},j∈cK lA→j∈A:=fun hx=>by
   obtain⟨x,hm,rfl⟩:=List.mem_map.1 hx;exact hA _ (List.mem_map.2 ⟨x,(List.mem_filter.1 hm).1,rfl⟩)
  have go:∀(l1 l2:List (Nat×Bool)) (j:Nat) (p:Bool),lB=l1++(j,p)::l2→j∈Region.ready .any ops L→∀(a':Act) (w':World),Loc w0 w' (fO lA++M0)→qk P ops (fun w=>Loc w0 w M0) (l1++l2) a' (fun a'=>rT ops lA a' [] R) →
   wpAny P .any ops Q fuel (L.setIfInBounds j true) a' w':=by
   intro l1 l2 j p hl hrj a' w' hloc' hseq';have hsub:((l1++l2).map (·.1)++cK lA++T).Sublist (lB.map (·.1)++cK lA++T):=by
    rw[hl];refine((List.Sublist.map _ ?_).append_right _).append_right _;exact(List.sublist_cons_self _ _).append_left _
   have hiff:∀i,i∈(l1++l2).map (·.1)++cK lA++T↔i∈lB.map (·.1)++cK lA++T∧i≠j:=fun i=>by
    rw[hl]at hnd ⊢;simp only[List.map_append,List.map_cons,List.mem_append,List.mem_cons,List.append_assoc]at hnd ⊢;rw[List.nodup_append]at hnd;obtain⟨_,n2,n3⟩:=hnd;rw[List.cons_append,List.nodup_cons]at n2;constructor
    ·intro h
     refine⟨by rcases h with h|h|h|h <;> simp[h],?_⟩;rintro rfl;rcases h with h|h|h|h
     ·exact n3 _ h _ (.head _) rfl
     ·exact n2.1 (by simp[h])
     ·exact n2.1 (by simp[h])
     ·exact n2.1 (by simp[h])
    ·rintro⟨h,hne⟩
     rcases h with h|(h|h)|h|h
     ·exact .inl h
     ·exact absurd h hne
     ·exact .inr (.inl h)
     ·exact .inr (.inr (.inl h))
     ·exact .inr (.inr (.inr h))
   refine ih (l1++l2) lA _ a' w' ?_ (by simpa using hsz) (yu hL (by rw[hl];simp) hiff) (htop.sublist hsub) (hnd.sublist hsub) ?_ hA hAn hAl ?_ (closed _ j hrj hiff) hAd hloc' hseq'
   ·rw[hl]at hf;simp only[List.length_append,List.length_cons]at hf ⊢; omega
   ·intro i hi
    refine hB i ?_;rw[hl];simp only[List.map_append,List.map_cons,List.mem_append,List.mem_cons]at hi ⊢;rcases hi with h|h
    ·exact .inl h
    ·exact .inr (.inr h)
   ·intro t ht o ho
    refine(hTw t ht o ho).imp (fun h i hi=>h i ?_) id;rw[hl];simp only[List.filter_append,List.map_append,List.mem_append]at hi ⊢;rcases hi with(h|h)|h
    ·exact .inl (.inl h)
    ·refine .inl (.inr ?_)
     rw[List.filter_cons];split
     ·exact List.mem_cons_of_mem _ h
     ·exact h
    ·exact .inr h
  have apB:∀{j:Nat} {oj:Oper},ops[j]?=some oj→j∈Region.ready .any ops L→j∈B++A→∀k∈lB.map (·.1)++cK lA++T,j≠k→∀o,ops[k]?=some o→cH o j=false→oj.apart ops o=true:=by
   intro j oj hj hr hjB k hk hne o ho hw;have hkA:k∈B++A++T:=by
    rcases List.mem_append.1 hk with h|h
    ·rcases List.mem_append.1 h with h|h
     ·exact List.mem_append_left _ (List.mem_append_left _ (hB _ h))
     ·exact List.mem_append_left _ (List.mem_append_right _ (pA h))
    ·exact List.mem_append_right _ h
   rcases hpair j hjB k hkA hne oj o hj ho with h|h|h
   ·exact absurd hk (ja hL hr hj h)
   ·rw[h]at hw;cases hw
   ·exact h
  by_cases hfin:lB=[]∧cK lA=[]
  ·obtain⟨h1,h2⟩:=hfin
   subst h1;have hh:=hR _ _ (mt lA a [] R h2 hseq) w (hloc.perm (by simpa using((List.reverse_perm _).symm.append_right M0)));have hLe:L=LT:=Array.ext (by rw[hsz,hLT]) fun i hi1 hi2=>by
    have e1:=hL i;have e2:=hLT2 i;rw[h2]at e1;simp only[List.map_nil,List.nil_append]at e1;rw[← e2]at e1;simp only[Array.getD_eq_getD_getElem?,Array.getElem?_eq_getElem hi1,Array.getElem?_eq_getElem hi2,Option.getD_some]at e1;cases hx:L[i] <;> cases hy:LT[i] <;> simp[hx,hy]at e1 ⊢
   subst hLe;have hlen:fuel+1=T.length:=by rw[hf,h2];simp
   rw[hlen];exact i9 (fun _ _=>trivial) T L a w hforce hh
  ·by_cases hp:∃l1 j l2,lB=l1++(j,true)::l2∧j∈Region.ready .any ops L
   ·obtain⟨l1,j,l2,hl,hr⟩:=hp
    obtain⟨_,oj,hj,_⟩:=mem_ready.1 hr;have hjB:j∈B++A:=List.mem_append_left _ (hB j (by rw[hl];simp));have hjnd:∀x∈l1,x.1≠j:=by
     intro x hx e;rw[hl]at hnd;simp only[List.map_append,List.map_cons,List.append_assoc]at hnd;rw[List.nodup_append]at hnd;exact hnd.2.2 _ (List.mem_map.2 ⟨x,hx,rfl⟩) _ (.head _) e
    have hbef:∀x∈l1,∀o,ops[x.1]?=some o→cH o j=false:=by
     intro x hx o ho;rw[hl]at htop;simp only[List.map_append,List.map_cons,List.append_assoc]at htop;rw[List.pairwise_append]at htop;exact htop.2.2 _ (List.mem_map.2 ⟨x,hx,rfl⟩) _ (.head _) o ho
    rw[hl]at hseq;obtain⟨v,hok,hrest⟩:=mr hs hj l2 l1 a (fun x hx o ho=>apB hj hr hjB x.1 (inB (by rw[hl];simp[hx])) (fun e=>hjnd x hx e.symm) o ho (hbef x hx o ho)) hseq;refine wpAny_first hj hs (fun c a w=>hQ c _ _ a w) fuel L a w (fun k ok hk hne hun hno=>?_) hr hok (go l1 l2 j true hl hr _ w hloc hrest);refine apB hj hr hjB k ((hL k).1 hun) (Ne.symm hne) ok hk ?_;cases hw:cH ok j with
    | false=>rfl
    | true =>
     unfold cH at hw;rw[Array.any_eq_true']at hw;obtain⟨e,he,hb⟩:=hw;simp only[Bool.and_eq_true,beq_iff_eq]at hb;exact absurd hb.2 (hno e he hb.1)
   ·refine⟨fun h0=>?_,fun j hr=>?_⟩
    ·exfalso
     cases hrem:lB.map (·.1)++cK lA++T with
     | nil =>
      simp only[List.append_eq_nil_iff,List.map_eq_nil_iff]at hrem;exact hfin hrem.1
     | cons x rest =>
      have:=rdy hrem;rw[h0]at this;cases this
    ·obtain⟨hun,oj,hj,_⟩:=mem_ready.1 hr
     have hm:=(hL j).1 hun;rcases List.mem_append.1 hm with hm|hm
     ·rcases List.mem_append.1 hm with hm|hm
      ·obtain⟨⟨j',p⟩,hx,rfl⟩:=List.mem_map.1 hm
       obtain⟨l1,l2,hl⟩:=List.append_of_mem hx;have hjB:j'∈B++A:=List.mem_append_left _ (hB j' hm);have hjnd:∀x∈l1,x.1≠j':=by
        intro x hx e;rw[hl]at hnd;simp only[List.map_append,List.map_cons,List.append_assoc]at hnd;rw[List.nodup_append]at hnd;exact hnd.2.2 _ (List.mem_map.2 ⟨x,hx,rfl⟩) _ (.head _) e
       have hbef:∀x∈l1,∀o,ops[x.1]?=some o→cH o j'=false:=by
        intro x hx o ho;rw[hl]at htop;simp only[List.map_append,List.map_cons,List.append_assoc]at htop;rw[List.pairwise_append]at htop;exact htop.2.2 _ (List.mem_map.2 ⟨x,hx,rfl⟩) _ (.head _) o ho
       rw[hl]at hseq;obtain⟨v,hok,hrest⟩:=mr hs hj l2 l1 a (fun x hx o ho=>apB hj hr hjB x.1 (inB (by rw[hl];simp[hx])) (fun e=>hjnd x hx e.symm) o ho (hbef x hx o ho)) hseq;have hM0:Loc w0 w M0:=by
        have:∀(D:Mem),Loc w0 w (D++M0)→Loc w0 w M0:=by
         intro D
         induction D with
         | nil=>exact id
         | cons e D ih=>exact fun h=>ih h.pop
        exact this _ hloc
       exact hok.wpOp hj hM0 fun w' hb=>go l1 l2 j' p hl hr _ w' (hloc.keep hb) hrest
      ·obtain⟨⟨j',z,t,ob⟩,hx,rfl⟩:=List.mem_map.1 hm
       obtain⟨hx1,hx2⟩:=List.mem_filter.1 hx;have hob:ob=none:=by simpa using hx2
       subst hob;obtain⟨l1,l2,hl⟩:=List.append_of_mem hx1;obtain⟨hop,hg,hrun⟩:=hAl _ hx1 oj hj;have hjA:j'∈B++A:=List.mem_append_right _ (pA hm);have hpe:cK lA=cK l1++j'::cK l2:=by rw[hl,m7];simp[cK]
       have hpe':cK (l1++(j',z,t,some w.heap.size)::l2)=cK l1++cK l2:=by rw[m7];simp[cK]
       have hmap:(l1++(j',z,t,some w.heap.size)::l2).map (·.1)=lA.map (·.1):=by rw[hl];simp
       have hsub:(lB.map (·.1)++cK (l1++(j',z,t,some w.heap.size)::l2)++T).Sublist (lB.map (·.1)++cK lA++T):=by
        rw[hpe,hpe'];refine(List.Sublist.append_left ?_ _).append_right _;exact(List.sublist_cons_self _ _).append_left _
       unfold wpOp;simp only[hj,Region.wanted,hg,if_true];refine .inl ?_;unfold Oper.wp execOp;simp only[hop,Sem.run_bind,hrun,Result.andThen_ok];show wpAny P .any ops Q fuel _ (a.put oj.dst _) _;have hiff:∀i,i∈lB.map (·.1)++cK (l1++(j',z,t,some w.heap.size)::l2)++T↔i∈lB.map (·.1)++cK lA++T∧i≠j':=fun i=>by
        rw[hpe]at hnd ⊢;rw[hpe'];simp only[List.mem_append,List.mem_cons,List.append_assoc]at hnd ⊢;rw[List.nodup_append,List.nodup_append]at hnd;obtain⟨_,⟨_,n2,n3⟩,n4⟩:=hnd;rw[List.cons_append,List.nodup_cons]at n2;constructor
        ·intro h
         refine⟨by rcases h with h|h|h|h <;> simp[h],?_⟩;rintro rfl;rcases h with h|h|h|h
         ·exact n4 _ h _ (by simp) rfl
         ·exact n3 _ h _ (.head _) rfl
         ·exact n2.1 (by simp[h])
         ·exact n2.1 (by simp[h])
        ·rintro⟨h,hne⟩
         rcases h with h|h|(h|h)|h
         ·exact .inl h
         ·exact .inr (.inl h)
         ·exact absurd h hne
         ·exact .inr (.inr (.inl h))
         ·exact .inr (.inr (.inr h))
       refine ih lB (l1++(j',z,t,some w.heap.size)::l2) _ _ _ ?_ (by simpa using hsz) (yu hL (inA hm) hiff) (htop.sublist hsub) (hnd.sublist hsub) hB (by rw[hmap];exact hA) (by rw[hmap];exact hAn) ?_ ?_ (closed _ j' hr hiff) ?_ ?_ ?_
       ·rw[hpe]at hf;rw[hpe'];simp only[List.length_append,List.length_cons]at hf ⊢; omega
       ·intro x hx o ho
        simp only[List.mem_append,List.mem_cons]at hx;rcases hx with h|h|h
        ·exact hAl x (by rw[hl];simp[h]) o ho
        ·subst h;exact hAl (j',z,t,none) hx1 o ho
        ·exact hAl x (by rw[hl];simp[h]) o ho
       ·intro t' ht o ho
        refine(hTw t' ht o ho).imp (fun h i hi=>h i ?_) id;rw[hpe']at hi;rw[hpe];simp only[List.mem_append,List.mem_cons]at hi ⊢;rcases hi with h|h|h
        ·exact .inl h
        ·exact .inr (.inl h)
        ·exact .inr (.inr (.inr h))
       ·have key:∀x∈l1++(j',z,t,some w.heap.size)::l2,∃y∈lA,y.1=x.1:=by
         intro x hx;simp only[List.mem_append,List.mem_cons]at hx;rcases hx with h|h|h
         ·exact⟨x,by rw[hl];simp[h],rfl⟩
         ·subst h;exact⟨_,hx1,rfl⟩
         ·exact⟨x,by rw[hl];simp[h],rfl⟩
        intro x hx y hy hne;obtain⟨x',hx',ex⟩:=key x hx;obtain⟨y',hy',ey⟩:=key y hy;rw[← ex,← ey]at hne ⊢;exact hAd x' hx' y' hy' hne
       ·refine(hloc.alloc z t).perm ?_
        rw[hl,fx,fx];show((w.heap.size,z,t)::(fO l1++fO l2++M0)).Perm (fO l1++(w.heap.size,z,t)::fO l2++M0);rw[List.append_assoc,List.append_assoc];exact List.perm_middle.symm
       ·refine tL hs (R:=fun a'=>rT ops lA a' [] R) (fun a' h=>?_) lB a (fun x hx o ho=>?_) hseq
        ·rw[hl]at h
         refine mu hj _ l2 l1 a' [] (fun x hx o ho d hd=>?_) h;have hxl:x∈lA:=by rw[hl];simp[hx]
         refine hAd x hxl _ hx1 ?_ o oj ho hj d hd;intro e;rw[hl]at hAn;simp only[List.map_append,List.map_cons]at hAn;rw[List.nodup_append]at hAn;exact hAn.2.2 _ (List.mem_map.2 ⟨x,hx,rfl⟩) _ (.head _) e
        ·have hne:j'≠x.1:=by
          intro e;rw[List.append_assoc,List.nodup_append]at hnd;exact hnd.2.2 _ (List.mem_map.2 ⟨x,hx,rfl⟩) _ (List.mem_append_left _ hm) e.symm
         have hw:cH o j'=false:=by
          rw[List.append_assoc,List.pairwise_append]at htop;exact htop.2.2 _ (List.mem_map.2 ⟨x,hx,rfl⟩) _ (List.mem_append_left _ hm) o ho
         obtain⟨b1,b2,b3⟩:=Oper.apart_spec (apB hj hr hjA x.1 (inB hx) hne o ho hw);refine⟨b1,fun d hd e=>?_⟩;exact b2 d e hd
     ·exfalso
      have rout:∀{i:Nat},Reach ops j i→i ∉ lB.map (·.1)++cK lA++T:=fun r=>by
       cases r with
       | one ho h=>rw[hj]at ho;cases ho;exact ja hL hr hj h
       | step ho h r=>rw[hj]at ho;cases ho;exact r.out hcl (ja hL hr hj h)
      rcases hTw j hm oj hj with h|⟨t',ht',h⟩
      ·have hpl:cK lA=[]:=by
        refine List.eq_nil_iff_forall_not_mem.2 fun i hi=>?_;exact rout (h i (List.mem_append_right _ hi)) (inA hi)
       cases hlB:lB with
       | nil=>exact hfin ⟨hlB,hpl⟩
       | cons x rest =>
        obtain⟨i,p⟩:=x;have hxm:(i,p)∈lB:=by rw[hlB];exact .head _
        cases p with
        | true=>exact hp ⟨[],i,rest,by rw[hlB];rfl,rdy (x:=i) (rest:=rest.map (·.1)++cK lA++T) (by rw[hlB];rfl)⟩
        | false=>exact rout (h i (List.mem_append_left _ (List.mem_map.2 ⟨_,List.mem_filter.2 ⟨hxm,rfl⟩,rfl⟩))) (inB hxm)
      ·exact ja hL hr hj h (List.mem_append_right _ ht')
abbrev jb:=List (Nat×Array Value×TypeId)
def okA(ops:Array Oper):jb→Prop
 | []=>True
 | (i,z,t)::l=>(∃o,ops[i]?=some o∧o.op= .alloc t∧o.guard=none)∧RowZ t z∧okA ops l
theorem rV:∀(l:jb),okA ops l→∀x∈l,(∃o,ops[x.1]?=some o∧o.op= .alloc x.2.2∧o.guard=none)∧RowZ x.2.2 x.2.1
 | [],_,x,hx=>by cases hx
 | (i,z,t)::l,⟨h1,h2,h3⟩,x,hx=>by
  cases hx with
  | head=>exact⟨h1,h2⟩
  | tail _ hx=>exact rV l h3 x hx
def GG(ops:Array Oper):jb→Act→Mem→(Mem→Act→Prop)→Prop
 | [],a,D,R=>R D a
 | (i,z,t)::l,a,D,R=>∃o,ops[i]?=some o∧∀b:Nat,GG ops l (a.put o.dst (.pointer (some ⟨b,0,none⟩))) ((b,z,t)::D) R
theorem kX{R:Mem→Act→Prop}:∀(l:jb) (a:Act) (D:Mem),GG ops l a D R→rT ops (l.map fun x=>(x.1,x.2.1,x.2.2,none)) a D R
 | [],_,_,h=>h
 | (i,z,t)::l,a,D,⟨o,ho,h⟩=>fun o' ho' b=>by
  rw[ho]at ho';cases ho'
  exact kX l _ _ (h b)
end
theorem tP:∀A:jb,cK (A.map fun x=>(x.1,x.2.1,x.2.2,(none:Option Nat)))=A.map (·.1)
 | []=>rfl
 | x::A=>congrArg (x.1 :: ·) (tP A)
theorem qK:∀A:jb,fO (A.map fun x=>(x.1,x.2.1,x.2.2,(none:Option Nat)))=[]
 | []=>rfl
 | _::A=>qK A
def bu(P:Program)(ops:Array Oper)(S:World→Prop):List (Oper×Bool)→Act→(Act→Prop)→Prop
 | [],a,R=>R a
 | (o,p)::l,a,R=>∃v,okB P ops S p o v a∧bu P ops S l (a.put o.dst v) R
theorem kY{P:Program}{ops:Array Oper}{S:World→Prop}{R:Act→Prop}:∀(B:List (Nat×Bool)) (a:Act),(∀x∈B,x.1<ops.size)→bu P ops S (B.filterMap fun x=>(ops[x.1]?).map fun o=>(o,x.2)) a R→qk P ops S B a R
 | [],_,_,h=>h
 | (i,p)::B,a,hx,h=>by
  have hlt:=hx (i,p) (.head _);have ho:ops[i]?=some (ops[i]'hlt):=Array.getElem?_eq_getElem hlt;rw[List.filterMap_cons,ho]at h;obtain⟨v,h1,h2⟩:=h;exact⟨_,v,ho,h1,kY B _ (fun x hm=>hx x (.tail _ hm)) h2⟩
def wB:List (Oper×Array Value×TypeId)→Act→Mem→(Mem→Act→Prop)→Prop
 | [],a,D,R=>R D a
 | (o,z,t)::l,a,D,R=>∀b:Nat,wB l (a.put o.dst (.pointer (some ⟨b,0,none⟩))) ((b,z,t)::D) R
theorem kZ{ops:Array Oper}{R:Mem→Act→Prop}:∀(A:jb) (a:Act) (D:Mem),(∀x∈A,x.1<ops.size)→wB (A.filterMap fun x=>(ops[x.1]?).map fun o=>(o,x.2)) a D R→GG ops A a D R
 | [],_,_,_,h=>h
 | (i,z,t)::A,a,D,hx,h=>by
  have hlt:=hx (i,z,t) (.head _);have ho:ops[i]?=some (ops[i]'hlt):=Array.getElem?_eq_getElem hlt;rw[List.filterMap_cons,ho]at h;exact⟨_,ho,fun b=>kZ A _ _ (fun x hm=>hx x (.tail _ hm)) (h b)⟩
theorem fP{n:Nat}{p:Nat→Bool}(h:(List.range n).all p=true){i:Nat}(hi:i<n):p i=true:=List.all_eq_true.1 h i (List.mem_range.2 hi)
theorem ar{ops:Array Oper}{Q:Exit→Act→World→Prop}{id:Nat}{a:Act}{w0 w:World}{M0:Mem}(B:List (Nat×Bool))(A:jb)(T:List Nat)(hm:prog.follows .mixedOrders=true)(hc:BG ops B (A.map (·.1)) T=true)(hA:okA ops A)(hL:Loc w0 w M0)(h:bu prog ops (fun w=>Loc w0 w M0) (B.filterMap fun x=>(ops[x.1]?).map fun o=>(o,x.2)) a fun a'=>wB (A.filterMap fun x=>(ops[x.1]?).map fun o=>(o,x.2)) a' [] fun D a=>∀w,Loc w0 w (D++M0)→wpList prog ops (NoPanic Q) (T.filterMap (ops[·]?)) a w) :
 (Code.region id ops true).wp prog Q a w:=by
 refine wp_region_noPanic (wp_region_any hm ?_);unfold BG at hc;simp only[Bool.and_eq_true]at hc;obtain⟨⟨⟨⟨⟨⟨⟨⟨⟨c1,c2⟩,cn⟩,c3⟩,c4⟩,c5⟩,c6⟩,ca⟩,c7⟩,c8⟩:=hc;have cn':=of_decide_eq_true cn;have c5':=of_decide_eq_true c5;have getD_of:∀{i:Nat} {o:Oper},ops[i]?=some o→(ops[i]?).getD default=o:=fun h=>by rw[h];rfl
 have hlt:∀{i:Nat} {o:Oper},ops[i]?=some o→i<ops.size:=fun h=>(Array.getElem?_eq_some_iff.1 h).1;have hpend:=tP A;have hdone:=qK A;have hmapA:(A.map fun x=>(x.1,x.2.1,x.2.2,(none:Option Nat))).map (·.1)=A.map (·.1):=by rw[List.map_map];rfl
 have hcnt:ops.size=B.length+(cK (A.map fun x=>(x.1,x.2.1,x.2.2,(none:Option Nat)))).length+T.length:=by
  have h1:(List.range ops.size).Perm (B.map (·.1)++A.map (·.1)++T):=by
   refine(List.perm_ext_iff_of_nodup List.nodup_range cn').2 fun i=>⟨fun hi=>?_,fun hi=>?_⟩
   ·have:=fP c3 (List.mem_range.1 hi)
    simpa using this
   ·exact List.mem_range.2 (of_decide_eq_true (List.all_eq_true.1 c2 i hi))
  have:=h1.length_eq;rw[List.length_range]at this;rw[this,hpend];simp only[List.length_append,List.length_map]
 have hL0:∀i,(Array.replicate ops.size false).getD i true=false↔i∈B.map (·.1)++A.map (·.1)++T:=fun i=>by
  constructor
  ·intro hi
   have hi':i<ops.size:=by
    rcases Nat.lt_or_ge i ops.size with h'|h'
    ·exact h'
    ·simp[Array.getElem?_eq_none (xs:=Array.replicate ops.size false) (by simpa using h')]at hi
   have:=fP c3 hi';simpa using this
  ·intro hi
   have hi':i<ops.size:=of_decide_eq_true (List.all_eq_true.1 c2 i hi);simp[hi']
 refine BI (w0:=w0) (M0:=M0) c1 (fun _ _ _ _ _ h=>h) ?_ ?_ (B.map (·.1)) (A.map (·.1)) T ?_ (Array.ofFn (n:=ops.size) fun i=> !T.contains i.1) (by simp) ?_ c8 _ (fun D a h=>h) ops.size B
  (A.map fun x=>(x.1,x.2.1,x.2.2,none)) _ a _ hcnt (by simp) (by rw[hpend];exact hL0) ?_ (by rw[hpend];exact cn') (fun _ h=>h) (fun i h=>by rwa[hmapA]at h) (by rw[hmapA];exact(List.nodup_append.1 (List.nodup_append.1 cn').1).2.1) ?_ ?_ ?_ ?_ ?_ ?_
 ·intro i o ho e he
  have:=Array.all_eq_true_iff_forall_mem.1 (fP c4 (hlt ho)) e (by rw[getD_of ho];exact he);simp only[Bool.and_eq_true]at this;exact of_decide_eq_true this.1
 ·intro i o ho
  cases hw:cH o i with
  | false=>rfl
  | true =>
   unfold cH at hw;rw[Array.any_eq_true']at hw;obtain⟨e,he,hb⟩:=hw;have:=Array.all_eq_true_iff_forall_mem.1 (fP c4 (hlt ho)) e (by rw[getD_of ho];exact he);simp only[Bool.and_eq_true,Bool.not_eq_true']at this;rw[Bool.and_eq_true]at hb;rw[hb.1,hb.2]at this;exact absurd this.2 (by decide)
 ·intro i hi j hj hne o o' ho ho'
  have:=List.all_eq_true.1 (List.all_eq_true.1 c6 i hi) j hj;rw[getD_of ho,getD_of ho']at this;simp only[Bool.or_eq_true,beq_iff_eq]at this;rcases this with((h|h)|h)|h
  ·exact absurd h hne
  ·exact .inl h
  ·exact .inr (.inl h)
  ·exact .inr (.inr h)
 ·intro i
  by_cases hi:i<ops.size
  ·simp[hi]
  ·have:i ∉ T:=fun h=>hi (of_decide_eq_true (List.all_eq_true.1 c2 i (List.mem_append_right _ h)))
   simp[hi,this]
 ·rw[hpend]
  exact c5'.imp fun h o ho=>by rw[← getD_of ho];exact h
 ·intro x hx o ho
  obtain⟨y,hy,rfl⟩:=List.mem_map.1 hx;obtain⟨⟨o',ho',h1,h2⟩,h3⟩:=rV A hA y hy;rw[ho]at ho';cases ho'
  exact⟨h1,h2,fun w v=>i8 h3.zero w v⟩
 ·intro t ht o ho
  have:=List.all_eq_true.1 c7 t ht;rw[getD_of ho,Bool.or_eq_true]at this;rcases this with h|h
  ·exact .inl fun i hi=>tN _ _ _ (List.all_eq_true.1 h i (by rw[hpend]at hi;exact hi))
  ·obtain⟨t',ht',hw⟩:=List.any_eq_true.1 h
   exact .inr ⟨t',ht',hw⟩
 ·intro i o ho hi
  exact absurd (by have:=fP c3 (hlt ho);rw[hpend];simpa using this) hi
 ·intro x hx y hy hne o o' ho ho'
  obtain⟨x',hx',rfl⟩:=List.mem_map.1 hx;obtain⟨y',hy',rfl⟩:=List.mem_map.1 hy;have:=List.all_eq_true.1 (List.all_eq_true.1 ca x'.1 (List.mem_map.2 ⟨x',hx',rfl⟩)) y'.1 (List.mem_map.2 ⟨y',hy',rfl⟩);rw[getD_of ho,getD_of ho']at this;simp only[Bool.or_eq_true,beq_iff_eq]at this;rcases this with h|h
  ·exact absurd h hne
  ·exact(Oper.apart_spec h).2.1
 ·rw[hdone];exact hL.drew
 ·have hin:∀i,i∈B.map (·.1)++A.map (·.1)++T→i<ops.size:=fun i h=>of_decide_eq_true (List.all_eq_true.1 c2 i h)
  refine qJ (fun a' h=>kX A a' [] (kZ A a' [] (fun x hx=>hin _ ?_) h)) B a (kY B a (fun x hx=>hin _ ?_) h)
  ·exact List.mem_append_left _ (List.mem_append_right _ (List.mem_map.2 ⟨x,hx,rfl⟩))
  ·exact List.mem_append_left _ (List.mem_append_left _ (List.mem_map.2 ⟨x,hx,rfl⟩))
section
variable {ops:Array Oper} {S:World→Prop} {l:List (Oper×Bool)} {o:Oper} {a:Act} {R:Act→Prop}
theorem wf{ops:Array Oper}{Q:Exit→Act→World→Prop}{id:Nat}{a:Act}{w0 w:World}{M0:Mem}(B:List (Nat×Bool))(A:jb)(T:List Nat)(hL:Loc w0 w M0){G':Prop}(k:G')(hA:okA ops A:=by trivial)(hm:prog.follows .mixedOrders=true:=by kernel_rfl)(hc:BG ops B (A.map (·.1)) T=true:=by kernel_rfl)(h:G'→bu prog ops (fun w=>Loc w0 w M0) (B.filterMap fun x=>(ops[x.1]?).map fun o=>(o,x.2)) a fun a'=>wB (A.filterMap fun x=>(ops[x.1]?).map fun o=>(o,x.2)) a' [] fun D a=>∀w,Loc w0 w (D++M0)→wpList prog ops (NoPanic Q) (T.filterMap (ops[·]?)) a w:=by
  intro k;simp only[List.filterMap_cons,List.filterMap_nil,List.getElem?_toArray,List.getElem?_cons_zero,List.getElem?_cons_succ,Option.map_some];exact k):(Code.region id ops true).wp prog Q a w:=ar B A T hm hc hA hL (h k)
theorem aG(h:R a):bu prog ops S [] a R:=h
theorem gO{v:Value}(hg:o.guard=none)(hv:∀w,(execOp a.eval o).run prog w= .ok (.value v) w)(h:bu prog ops S l (a.put o.dst v) R):bu prog ops S ((o,true)::l) a R :=
 ⟨v,.inl ⟨by simp[Region.wanted,hg],hv⟩,h⟩
theorem qL{v:Value}(hg:o.guard=none)(hv:∀w,S w→(execOp a.eval o).run prog w= .ok (.value v) w)(h:bu prog ops S l (a.put o.dst v) R):bu prog ops S ((o,false)::l) a R :=
 ⟨v,⟨by simp[Region.wanted,hg],fun w hS=> .inl (hv w hS)⟩,h⟩
theorem mv{v:Value}{f:FuncId}{args:Array Value}(hg:o.guard=none)(he:∀w,(execOp a.eval o).run prog w= .ok (.enter f args) w)(hc:∀w,S w→Calls prog f args w fun e w'=>e= .returned v∧Below w.heap.size w w')(h:bu prog ops S l (a.put o.dst v) R):bu prog ops S ((o,false)::l) a R :=
 ⟨v,⟨by simp[Region.wanted,hg],fun w hS=> .inr ⟨f,args,he w,hc w hS⟩⟩,h⟩
theorem tR{D:Mem}{R:Mem→Act→Prop}(h:R D a):wB [] a D R:=h
theorem az{z:Array Value}{t:TypeId}{l:List (Oper×Array Value×TypeId)}{D:Mem}{R:Mem→Act→Prop}(h:∀b:Nat,wB l (a.put o.dst (.pointer (some ⟨b,0,none⟩))) ((b,z,t)::D) R):wB ((o,z,t)::l) a D R:=h
theorem cA{f:FuncId}{args:Array Value}{w:World}{v:Value}(h:Calls prog f args w fun e w'=>e= .returned v∧w=w'):Calls prog f args w fun e w'=>e= .returned v∧Below w.heap.size w w' :=
 h.mono fun e w' ⟨h1,h2⟩=>⟨h1,h2 ▸ Below.refl _ _⟩
end
end
section
open Go.RowKit Go.Shelf
class Ent(f:FuncId):Prop where
 enter:Enters prog f
class FnC(f:FuncId)(args:Array Value)(v:outParam Value):Prop where
 calls:∀w,Calls prog f args w fun e w'=>e= .returned v∧Below w.heap.size w w'
theorem eo{f:FuncId}{fn:Func}{c:Code}(hf:prog.funcs[f]?=some fn)(hname:(fn.name == "runtime.NumGoroutine")=false:=by kernel_rfl) (hb:fn.body=some c:=by rfl):Ent f:=⟨enters_of hf hname hb⟩
theorem Ent.of{f:FuncId}{fn:Func}{c:Code}(hf:prog.funcs[f]?=some fn)(hname:(fn.name == "runtime.NumGoroutine")=false) (hb:fn.body=some c):Ent f:=⟨enters_of hf hname hb⟩
theorem ky{o:Oper}{ev:Operand→Value}{f:FuncId}{xs:Array Operand}{ts:Array TypeId}(ho:o.op= .call { callee:= .value (.func f),args:=xs,argTypes:=ts })(hf:ev (.func f)= .func (.func f) #[] #[])[he:Ent f](w:World) :
 (execOp ev o).run prog w= .ok (.enter f (xs.map ev)) w:=by
 unfold execOp;simp only[ho,resolve,hf,Deferred.ofValue,Sem.run_bind,Sem.run_pure,Result.andThen_ok,invoke,Array.append_empty,Array.empty_append];exact he.enter (xs.map ev) w
class Part(r:Array Value)(u:TypeId)(k:Nat)(t:TypeId)(s:outParam (Array Value)):Prop where
 part:∀(j:Nat) (v:Value),s.toList[j]?=some v→r[k+j]?=some v
instance RX(r:Array Value)(u:TypeId):Part r u 0 u r:=⟨fun j v h=>by simpa using h⟩
section
variable {ops:Array Oper} {rest:List Oper} {o:Oper} {a:Act} {w0 w:World} {M M':Mem} {Q:Exit→Act→World→Prop}
theorem lB(hL:Loc w0 w M)(hg:o.guard=none){t:TypeId}{x:Operand}(ho:o.op= .box t x){r:Array Value}(hx:a.eval x= .agg r)(h:∀b w',Loc w0 w' ((b,r,t)::M)→wpList prog ops Q rest (a.put o.dst (.pointer (some ⟨b,0,none⟩))) w'):wpList prog ops Q (o::rest) a w:=dB hL hg ho hx h
theorem lA(hL:Loc w0 w M)(hg:o.guard=none){t:TypeId}(ho:o.op= .alloc t){r:Array Value}[hz:RowZ t r](h:∀b w',Loc w0 w' ((b,r,t)::M)→wpList prog ops Q rest (a.put o.dst (.pointer (some ⟨b,0,none⟩))) w'):wpList prog ops Q (o::rest) a w:=dc hL hg ho h
theorem lL(hL:Loc w0 w M)(hg:o.guard=none){t:TypeId}{x:Operand}(ho:o.op= .load t x){b k:Nat}(hx:a.eval x= .pointer (some ⟨b,k,none⟩)){r s:Array Value}{u:TypeId}{n:Nat}[ht:RowTy t n][hm:At M b r u][hp:Part r u k t s][hr:Row1 s n](h:∀w',Loc w0 w' M→wpList prog ops Q rest (a.put o.dst (.agg s)) w'):wpList prog ops Q (o::rest) a w:=by
 obtain⟨d,h1,h2⟩:=ht.und;have:=wpList_load_mid (ops:=ops) (rest:=rest) (Q:=Q) hg t x ho b k hx s.toList d (eh (hL.get hm.mem) fun j v hv=>hp.part j v hv) h1 h2 (by rw[ht.size,Array.length_toList,hr.size]);simp only[Array.toArray_toList]at this;exact this (h w hL)
theorem lS(hL:Loc w0 w M)(hg:o.guard=none){t:TypeId}{x y:Operand}(ho:o.op= .store t x y)(hd:o.dst=none){b:Nat}(hx:a.eval x= .pointer (some ⟨b,0,none⟩)){r:Array Value}(hy:a.eval y= .agg r){n:Nat}[hr:Row1 r n][ht:RowTy t n]{old:Array Value}[hm:At M b old t][hs:Row1 old n][hu:Ups M b r M'](h:∀w',Loc w0 w' M'→wpList prog ops Q rest a w'):wpList prog ops Q (o::rest) a w:=eL hL hg ho hd hx hy h
theorem lC(hL:Loc w0 w M)(hg:o.guard=none){f:FuncId}{xs:Array Operand}{ts:Array TypeId}(ho:o.op= .call { callee:= .value (.func f),args:=xs,argTypes:=ts }){args:Array Value}(hx:xs.map a.eval=args)[he:Ent f]{v:Value}[hf:FnC f args v](h:∀w',Loc w0 w' M→wpList prog ops Q rest (a.put o.dst v) w'):wpList prog ops Q (o::rest) a w :=
 wpList_plain hg fun K hK=>by
  unfold Oper.wp;rw[ky ho rfl w,hx,Oper.upon_enter];refine(hf.calls w).mono fun e w' hh=>?_;obtain⟨rfl,hb⟩:=hh;exact hK _ _ (h w' (hL.keep hb))
theorem lC0(hL:Loc w0 w M)(hg:o.guard=none){f:FuncId}{ts:Array TypeId}(ho:o.op= .call { callee:= .value (.func f),args:= #[],argTypes:=ts })[he:Ent f]{v:Value}[hf:FnC f #[] v](h:∀w',Loc w0 w' M→wpList prog ops Q rest (a.put o.dst v) w'):wpList prog ops Q (o::rest) a w:=lC (args:= #[]) hL hg ho (by simp) h
theorem lC1(hL:Loc w0 w M)(hg:o.guard=none){f:FuncId}{x:Operand}{ts:Array TypeId}(ho:o.op= .call { callee:= .value (.func f),args:= #[x],argTypes:=ts }){r:Array Value}(hx:a.eval x= .agg r)[he:Ent f]{v:Value}[hf:FnC f #[.agg r] v](h:∀w',Loc w0 w' M→wpList prog ops Q rest (a.put o.dst v) w'):wpList prog ops Q (o::rest) a w:=lC (args:= #[.agg r]) hL hg ho (by simp[hx]) h
theorem lC2(hL:Loc w0 w M)(hg:o.guard=none){f:FuncId}{x y:Operand}{ts:Array TypeId}(ho:o.op= .call { callee:= .value (.func f),args:= #[x,y],argTypes:=ts }){r s:Array Value}(hx:a.eval x= .agg r)(hy:a.eval y= .agg s)[he:Ent f]{v:Value}[hf:FnC f #[.agg r,.agg s] v](h:∀w',Loc w0 w' M→wpList prog ops Q rest (a.put o.dst v) w'):wpList prog ops Q (o::rest) a w:=lC (args:= #[.agg r,.agg s]) hL hg ho (by simp[hx,hy]) h
theorem lC3(hL:Loc w0 w M)(hg:o.guard=none){f:FuncId}{x y:Operand}{ts:Array TypeId}(ho:o.op= .call { callee:= .value (.func f),args:= #[x,y],argTypes:=ts }){r:Array Value}{k:IntKind}{n:Int}(hx:a.eval x= .agg r)(hy:a.eval y= .int k n)[he:Ent f]{v:Value}[hf:FnC f #[.agg r,.int k n] v](h:∀w',Loc w0 w' M→wpList prog ops Q rest (a.put o.dst v) w'):wpList prog ops Q (o::rest) a w:=lC (args:= #[.agg r,.int k n]) hL hg ho (by simp[hx,hy]) h
theorem lVa(hL:Loc w0 w M)(hg:o.guard=none){x:Operand}(ho:o.op= .assign x){r:Array Value}(hx:a.eval x= .agg r)(h:∀w',Loc w0 w' M→wpList prog ops Q rest (a.put o.dst (.agg r)) w'):wpList prog ops Q (o::rest) a w :=
 wpList_plain hg fun K hK=>by
  unfold Oper.wp execOp;simp only[ho,hx,Sem.run_pure];exact hK _ _ (h w hL)
theorem lVi(hL:Loc w0 w M)(hg:o.guard=none){x:Operand}(ho:o.op= .assign x){k:IntKind}{n:Int}(hx:a.eval x= .int k n)(h:∀w',Loc w0 w' M→wpList prog ops Q rest (a.put o.dst (.int k n)) w'):wpList prog ops Q (o::rest) a w :=
 wpList_plain hg fun K hK=>by
  unfold Oper.wp execOp;simp only[ho,hx,Sem.run_pure];exact hK _ _ (h w hL)
theorem lVb(hL:Loc w0 w M)(hg:o.guard=none){x:Operand}(ho:o.op= .assign x){c:Bool}(hx:a.eval x= .bool c)(h:∀w',Loc w0 w' M→wpList prog ops Q rest (a.put o.dst (.bool c)) w'):wpList prog ops Q (o::rest) a w :=
 wpList_plain hg fun K hK=>by
  unfold Oper.wp execOp;simp only[ho,hx,Sem.run_pure];exact hK _ _ (h w hL)
theorem lVp(hL:Loc w0 w M)(hg:o.guard=none){x:Operand}(ho:o.op= .assign x){p:Option Addr}(hx:a.eval x= .pointer p)(h:∀w',Loc w0 w' M→wpList prog ops Q rest (a.put o.dst (.pointer p)) w'):wpList prog ops Q (o::rest) a w :=
 wpList_plain hg fun K hK=>by
  unfold Oper.wp execOp;simp only[ho,hx,Sem.run_pure];exact hK _ _ (h w hL)
theorem lVs(hL:Loc w0 w M)(hg:o.guard=none){x:Operand}(ho:o.op= .assign x){p:Option Addr}{n c:Nat}(hx:a.eval x= .slice p n c)(h:∀w',Loc w0 w' M→wpList prog ops Q rest (a.put o.dst (.slice p n c)) w'):wpList prog ops Q (o::rest) a w :=
 wpList_plain hg fun K hK=>by
  unfold Oper.wp execOp;simp only[ho,hx,Sem.run_pure];exact hK _ _ (h w hL)
theorem lVt(hL:Loc w0 w M)(hg:o.guard=none){x:Operand}(ho:o.op= .assign x){r:Array Value}(hx:a.eval x= .tuple r)(h:∀w',Loc w0 w' M→wpList prog ops Q rest (a.put o.dst (.tuple r)) w'):wpList prog ops Q (o::rest) a w :=
 wpList_plain hg fun K hK=>by
  unfold Oper.wp execOp;simp only[ho,hx,Sem.run_pure];exact hK _ _ (h w hL)
end
section
variable {ops:Array Oper} {l:List (Oper×Bool)} {a:Act} {R:Act→Prop} {w0:World} {M:Mem} {o:Oper}
theorem sL(hg:o.guard=none){t:TypeId}{x:Operand}(ho:o.op= .load t x){b k:Nat}(hx:a.eval x= .pointer (some ⟨b,k,none⟩)){r s:Array Value}{u:TypeId}{n:Nat}[ht:RowTy t n][hm:At M b r u][hp:Part r u k t s][hr:Row1 s n](h:bu prog ops (fun w=>Loc w0 w M) l (a.put o.dst (.agg s)) R):bu prog ops (fun w=>Loc w0 w M) ((o,false)::l) a R:=by
 obtain⟨d,h1,h2⟩:=ht.und;have hy:=yieldsIf_load_mid (P:=prog) (ops:=ops) (S:=fun w=>Loc w0 w M) (op:=o) (a:=a) (by simp[Region.wanted,hg]) t x ho b k hx s.toList d (fun w h=>eh (h.get hm.mem) fun j v hv=>hp.part j v hv) h1 h2 (by rw[ht.size,Array.length_toList,hr.size]);simp only[Array.toArray_toList]at hy;rcases hy with⟨hw,hv⟩|⟨_,h0⟩
 ·exact⟨_,⟨hw,fun w hS=> .inl (hv w hS)⟩,h⟩
 ·cases h0
theorem sC(hg:o.guard=none){f:FuncId}{xs:Array Operand}{ts:Array TypeId}(ho:o.op= .call { callee:= .value (.func f),args:=xs,argTypes:=ts }){args:Array Value}(hx:xs.map a.eval=args)[he:Ent f]{v:Value}[hf:FnC f args v](h:bu prog ops (fun w=>Loc w0 w M) l (a.put o.dst v) R):bu prog ops (fun w=>Loc w0 w M) ((o,false)::l) a R :=
 mv hg (fun w=>by rw[ky ho rfl w,hx]) (fun w _=>hf.calls w) h
theorem sC0(hg:o.guard=none){f:FuncId}{ts:Array TypeId}(ho:o.op= .call { callee:= .value (.func f),args:= #[],argTypes:=ts })[he:Ent f]{v:Value}[hf:FnC f #[] v](h:bu prog ops (fun w=>Loc w0 w M) l (a.put o.dst v) R):bu prog ops (fun w=>Loc w0 w M) ((o,false)::l) a R:=sC (args:= #[]) hg ho (by simp) h
theorem sC1(hg:o.guard=none){f:FuncId}{x:Operand}{ts:Array TypeId}(ho:o.op= .call { callee:= .value (.func f),args:= #[x],argTypes:=ts }){r:Array Value}(hx:a.eval x= .agg r)[he:Ent f]{v:Value}[hf:FnC f #[.agg r] v](h:bu prog ops (fun w=>Loc w0 w M) l (a.put o.dst v) R):bu prog ops (fun w=>Loc w0 w M) ((o,false)::l) a R:=sC (args:= #[.agg r]) hg ho (by simp[hx]) h
theorem sC2(hg:o.guard=none){f:FuncId}{x y:Operand}{ts:Array TypeId}(ho:o.op= .call { callee:= .value (.func f),args:= #[x,y],argTypes:=ts }){r s:Array Value}(hx:a.eval x= .agg r)(hy:a.eval y= .agg s)[he:Ent f]{v:Value}[hf:FnC f #[.agg r,.agg s] v](h:bu prog ops (fun w=>Loc w0 w M) l (a.put o.dst v) R):bu prog ops (fun w=>Loc w0 w M) ((o,false)::l) a R:=sC (args:= #[.agg r,.agg s]) hg ho (by simp[hx,hy]) h
theorem sC3(hg:o.guard=none){f:FuncId}{x y:Operand}{ts:Array TypeId}(ho:o.op= .call { callee:= .value (.func f),args:= #[x,y],argTypes:=ts }){r:Array Value}{k:IntKind}{n:Int}(hx:a.eval x= .agg r)(hy:a.eval y= .int k n)[he:Ent f]{v:Value}[hf:FnC f #[.agg r,.int k n] v](h:bu prog ops (fun w=>Loc w0 w M) l (a.put o.dst v) R):bu prog ops (fun w=>Loc w0 w M) ((o,false)::l) a R:=sC (args:= #[.agg r,.int k n]) hg ho (by simp[hx,hy]) h
end
class ScTy(t:TypeId):Prop where
 agg:∀w,(isAgg t).run prog w= .ok false w
 size:(prog.info? t).map (·.size)=some 1
class Cell(r:Array Value)(k:Nat)(v:outParam Value):Prop where
 cell:r[k]?=some v
class Put(r:Array Value)(k:Nat)(v:Value)(s:outParam (Array Value)):Prop where
 put:r.setIfInBounds k v=s
 lt:k<r.size
theorem cO{t:TypeId}[ht:ScTy t]{w:World}{b k:Nat}{v:Value}(hc:w.cell? ⟨b,k,none⟩=some v):(loadVar t ⟨b,k,none⟩).run prog w= .ok v w:=by
 unfold loadVar;simp[Sem.run_bind,ht.agg,load,Sem.run,hc]
theorem ip{t:TypeId}[ht:ScTy t]{w:World}{b k:Nat}{v:Value}(hc:(w.cell? ⟨b,k,none⟩).isSome=true)(hf:w.frozen? ⟨b,k,none⟩=false)(h1:v.oneCell'=true) :
 (storeVar t ⟨b,k,none⟩ v).run prog w= .ok () (w.setCell ⟨b,k,none⟩ v):=by
 have hv:v.cells= #[v]:=by cases v <;> first|rfl|cases h1
 have:=run_storeCells_cells (P:=prog) b k [v] 0 w (fun j hj=>by
  obtain rfl:j=0:=by simpa using hj
  simpa using hc) (fun j hj=>by
  obtain rfl:j=0:=by simpa using hj
  simpa using hf) (fun x hx=>by simp at hx;subst hx;exact h1)
 cases hq:prog.info? t with
 | none=>have:=ht.size;rw[hq]at this;cases this
 | some i =>
  have hs:i.size=1:=by have:=ht.size;rw[hq]at this;simpa using this
  simp only[Nat.add_zero]at this;simp[storeVar,sizeOf,typeInfo,hq,hv,hs,this];rfl
theorem Loc.put{w0 w:World}{M M':Mem}(h:Loc w0 w M){b k:Nat}{r:Array Value}{t:TypeId}(v:Value)(hm:(b,r,t)∈M)(hu:Upd M b (r.setIfInBounds k v) M'):Loc w0 (w.setCell ⟨b,k,none⟩ v) M':=by
 refine⟨h.bel.setCell (h.ge hm) _,fun c r' t' hm'=>?_,by rw[hu.fst];exact h.nd⟩;rcases hu.back h.nd c r' t' hm' with⟨rfl,rfl,r1,h1⟩|⟨hne,h1⟩
 ·refine⟨h.ge h1,?_⟩
  have e:r1=r∧t'=t:=by
   have a1:=h.get h1;rw[h.get hm]at a1;cases a1
   exact⟨rfl,rfl⟩
  obtain⟨rfl,rfl⟩:=e;exact heap_setCell_same w c k r1 t' v (h.get hm)
 ·exact⟨h.ge h1,(heap_setCell_other _ _ _ _ hne).trans (h.get h1)⟩
instance RY:ScTy 227:=⟨fun w=>by kernel_rfl,by kernel_rfl⟩
instance RZ:ScTy 5:=⟨fun w=>by kernel_rfl,by kernel_rfl⟩
instance R0:ScTy 3:=⟨fun w=>by kernel_rfl,by kernel_rfl⟩
section
variable {ops:Array Oper} {rest:List Oper} {l:List (Oper×Bool)} {R:Act→Prop} {o:Oper} {a:Act} {w0 w:World} {M M':Mem} {Q:Exit→Act→World→Prop}
theorem lI(hL:Loc w0 w M)(hg:o.guard=none){t:TypeId}{x:Operand}(ho:o.op= .load t x){b k:Nat}(hx:a.eval x= .pointer (some ⟨b,k,none⟩)){r:Array Value}{u:TypeId}{v:Value}[ht:ScTy t][hm:At M b r u][hc:Cell r k v](h:∀w',Loc w0 w' M→wpList prog ops Q rest (a.put o.dst v) w'):wpList prog ops Q (o::rest) a w :=
 wpList_plain hg fun K hK=>by
  unfold Oper.wp execOp;have:=cO (t:=t) (w:=w) (b:=b) (k:=k) (v:=v) (by rw[cell_of_row w b k _ _ _ (hL.get hm.mem)];exact hc.cell);simp only[ho,hx,Instr.loadAt,Instr.sureAddr,Sem.run_bind,Sem.run_pure,Result.andThen_ok,this];exact hK _ _ (h w hL)
theorem sI(hg:o.guard=none){t:TypeId}{x:Operand}(ho:o.op= .load t x){b k:Nat}(hx:a.eval x= .pointer (some ⟨b,k,none⟩)){r:Array Value}{u:TypeId}{v:Value}[ht:ScTy t][hm:At M b r u][hc:Cell r k v](h:bu prog ops (fun w=>Loc w0 w M) l (a.put o.dst v) R):bu prog ops (fun w=>Loc w0 w M) ((o,false)::l) a R :=
 qL hg (fun w hS=>by
  unfold execOp;have:=cO (t:=t) (w:=w) (b:=b) (k:=k) (v:=v) (by rw[cell_of_row w b k _ _ _ (hS.get hm.mem)];exact hc.cell);simp only[ho,hx,Instr.loadAt,Instr.sureAddr,Sem.run_bind,Sem.run_pure,Result.andThen_ok,this]) h
theorem lT(hL:Loc w0 w M)(hg:o.guard=none){t:TypeId}{x y:Operand}(ho:o.op= .store t x y)(hd:o.dst=none){b k:Nat}(hx:a.eval x= .pointer (some ⟨b,k,none⟩)){d:IntKind}{n:Int}(hy:a.eval y= .int d n){r s:Array Value}{u:TypeId}[ht:ScTy t][hm:At M b r u][hp:Put r k (.int d n) s][hu:Ups M b s M'](h:∀w',Loc w0 w' M'→wpList prog ops Q rest a w'):wpList prog ops Q (o::rest) a w :=
 wpList_plain hg fun K hK=>by
  unfold Oper.wp execOp;have hs:=ip (t:=t) (w:=w) (b:=b) (k:=k) (v:= .int d n) (by rw[cell_of_row w b k _ _ _ (hL.get hm.mem),Array.getElem?_eq_getElem hp.lt];rfl) (frozen_of_row w _ _ _ _ (hL.get hm.mem)) rfl;simp only[ho,hx,hy,Instr.storeAt,Instr.sureAddr,Sem.run_bind,Sem.run_pure,Result.andThen_ok,hs];have:=h _ (hL.put (.int d n) hm.mem (by rw[hp.put];exact hu.upd));refine hK _ _ ?_;rw[hd];exact this
theorem lC4(hL:Loc w0 w M)(hg:o.guard=none){f:FuncId}{x y:Operand}{ts:Array TypeId}(ho:o.op= .call { callee:= .value (.func f),args:= #[x,y],argTypes:=ts }){d k:IntKind}{m n:Int}(hx:a.eval x= .int d m)(hy:a.eval y= .int k n)[he:Ent f]{v:Value}[hf:FnC f #[.int d m,.int k n] v](h:∀w',Loc w0 w' M→wpList prog ops Q rest (a.put o.dst v) w'):wpList prog ops Q (o::rest) a w:=lC (args:= #[.int d m,.int k n]) hL hg ho (by simp[hx,hy]) h
theorem sC4(hg:o.guard=none){f:FuncId}{x y:Operand}{ts:Array TypeId}(ho:o.op= .call { callee:= .value (.func f),args:= #[x,y],argTypes:=ts }){d k:IntKind}{m n:Int}(hx:a.eval x= .int d m)(hy:a.eval y= .int k n)[he:Ent f]{v:Value}[hf:FnC f #[.int d m,.int k n] v](h:bu prog ops (fun w=>Loc w0 w M) l (a.put o.dst v) R):bu prog ops (fun w=>Loc w0 w M) ((o,false)::l) a R:=sC (args:= #[.int d m,.int k n]) hg ho (by simp[hx,hy]) h
end
section
variable {ops:Array Oper} {rest:List Oper} {l:List (Oper×Bool)} {R:Act→Prop} {S:World→Prop} {o:Oper} {a:Act} {w0 w:World} {M M':Mem} {Q:Exit→Act→World→Prop}
theorem lU(hL:Loc w0 w M)(hg:o.guard=none){t:TypeId}{ps:Array (Nat×Operand)}(ho:o.op= .build t ps){vs:Array (Nat×Value)}{r:Array Value}(hb:∀w,(Instr.build t vs).run prog w= .ok (.agg r) w)(hv:(ps.toList.map fun x=>(x.1,a.eval x.2))=vs.toList)(h:∀w',Loc w0 w' M→wpList prog ops Q rest (a.put o.dst (.agg r)) w'):wpList prog ops Q (o::rest) a w :=
 wpList_plain hg fun K hK=>by
  have hv:(ps.map fun x=>(x.1,a.eval x.2))=vs:=by rw[← Array.toList_inj,Array.toList_map];exact hv
  subst hv;unfold Oper.wp execOp;simp only[ho,Sem.run_bind,hb,Result.andThen_ok,Sem.run_pure];exact hK _ _ (h w hL)
theorem sU(hg:o.guard=none){t:TypeId}{ps:Array (Nat×Operand)}(ho:o.op= .build t ps){vs:Array (Nat×Value)}{r:Array Value}(hb:∀w,(Instr.build t vs).run prog w= .ok (.agg r) w)(hv:(ps.toList.map fun x=>(x.1,a.eval x.2))=vs.toList)(h:bu prog ops S l (a.put o.dst (.agg r)) R):bu prog ops S ((o,true)::l) a R:=gO hg (fun w=>by
 have hv:(ps.map fun x=>(x.1,a.eval x.2))=vs:=by rw[← Array.toList_inj,Array.toList_map];exact hv
 subst hv;unfold execOp;simp only[ho,Sem.run_bind,hb,Result.andThen_ok,Sem.run_pure]) h
end
section
variable {ops:Array Oper} {rest:List Oper} {l:List (Oper×Bool)} {R:Act→Prop} {o:Oper} {a:Act} {w0 w:World} {M M':Mem} {Q:Exit→Act→World→Prop}
theorem lC5(hL:Loc w0 w M)(hg:o.guard=none){f:FuncId}{x:Operand}{ts:Array TypeId}(ho:o.op= .call { callee:= .value (.func f),args:= #[x],argTypes:=ts }){k:IntKind}{n:Int}(hx:a.eval x= .int k n)[he:Ent f]{v:Value}[hf:FnC f #[.int k n] v](h:∀w',Loc w0 w' M→wpList prog ops Q rest (a.put o.dst v) w'):wpList prog ops Q (o::rest) a w:=lC (args:= #[.int k n]) hL hg ho (by simp[hx]) h
theorem sC5(hg:o.guard=none){f:FuncId}{x:Operand}{ts:Array TypeId}(ho:o.op= .call { callee:= .value (.func f),args:= #[x],argTypes:=ts }){k:IntKind}{n:Int}(hx:a.eval x= .int k n)[he:Ent f]{v:Value}[hf:FnC f #[.int k n] v](h:bu prog ops (fun w=>Loc w0 w M) l (a.put o.dst v) R):bu prog ops (fun w=>Loc w0 w M) ((o,false)::l) a R:=sC (args:= #[.int k n]) hg ho (by simp[hx]) h
end
theorem aI{n k:Nat}(S:Nat→Value)(h:k<n):Cell (row n S) k (S k):=⟨bI S h⟩
theorem a9{n k:Nat}{S:Nat→Value}{v:Value}{r:Array Value}(h:k<n)(e:row n (upd S k v)=r):Put (row n S) k v r:=⟨(yr S v h).trans e,by rw[aQ];exact h⟩
end
end Go.Proofs.YtoifhhljfaoejaaGreatDoor
