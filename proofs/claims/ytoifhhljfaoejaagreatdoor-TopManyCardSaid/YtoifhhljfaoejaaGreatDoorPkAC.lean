/-
  Lemmas of the law, part 3: the walks of the functions that it calls and the plain facts about them. No condition beyond those written.
-/
import Derived.Test.YtoifhhljfaoejaaGreatDoorPkAB
namespace Go.Proofs.YtoifhhljfaoejaaGreatDoor
open Go.RowKit
set_option linter.unusedVariables false
set_option linter.unusedSectionVars false
theorem Loc.perm {w0 w:World} {M M':Mem} (h:Loc w0 w M) (hp:M.Perm M'):Loc w0 w M' :=
 ⟨h.bel,fun b r t hm=>h.ok b r t (hp.mem_iff.2 hm),(hp.map (·.1)).pairwise h.nd (fun h=>Ne.symm h)⟩
section
variable {P:Program} {ops:Array Oper} {Q:Exit→Act→World→Prop} {S:World→Prop}
def Steps (P:Program) (o:Oper) (ev:Operand→Value) (v:Value) (w:World):Prop :=
 (execOp ev o).run P w= .ok (.value v) w∨∃ f args,(execOp ev o).run P w= .ok (.enter f args) w∧Calls P f args w fun e w'=>e= .returned v∧Below w.heap.size w w'
theorem Steps.wp {o:Oper} {a:Act} {v:Value} {w:World} {K:Act→World→Prop} (h:Steps P o a.eval v w) (hK:∀ w',Below w.heap.size w w'→K (a.put o.dst v) w'):o.wp P a w K Q:=by
 unfold Oper.wp
 rcases h with h | ⟨f,args,h,hc⟩
 ·rw [h];exact hK w (Below.refl _ _)
 ·rw [h,Oper.upon_enter]
  refine hc.mono fun e w'' hh=>?_
  obtain ⟨rfl,hb⟩:=hh
  exact hK _ hb
def okB (P:Program) (ops:Array Oper) (S:World→Prop) (p:Bool) (o:Oper) (v:Value) (a:Act):Prop :=
 if p then Yields P ops o v a else Region.wanted o (yielded ops a.tmps)=true∧∀ w,S w→Steps P o a.eval v w
theorem okB_put {p:Bool} {o:Oper} (hs:∀ cs b,o.op≠ .select cs b) {v u:Value} {a:Act} {dst:Option Tmp} (h:∀ d,dst=some d→d ∉ o.looksAt ops):okB P ops S p o v (a.put dst u)↔okB P ops S p o v a:=by
 unfold okB Yields Steps
 rw [execOp_put o hs a dst u h,wanted_put o a dst u h]
theorem okB.wpOp {p:Bool} {i:Nat} {o:Oper} (hi:ops[i]?=some o) {v:Value} {a:Act} {w:World} (h:okB P ops S p o v a) (hS:S w) {K:Act→World→Prop} (hK:∀ w',Below w.heap.size w w'→K (a.put o.dst v) w'):wpOp P ops Q i K a w:=by
 unfold okB at h
 cases p with
 | true=>exact Yields.wpOp hi h (hK w (Below.refl _ _))
 | false =>
  obtain ⟨hw,h⟩:=h
  unfold Go.wpOp
  simp only [hi,hw,if_true]
  exact .inl ((h w hS).wp hK)
def seqB (P:Program) (ops:Array Oper) (S:World→Prop):List (Nat×Bool)→Act→(Act→Prop)→Prop
 | [],a,R=>R a
 | (i,p) :: l,a,R=>∃ o v,ops[i]?=some o∧okB P ops S p o v a∧seqB P ops S l (a.put o.dst v) R
theorem seqB_mono {R R':Act→Prop} (h:∀ a,R a→R' a):∀ (l:List (Nat×Bool)) (a:Act),seqB P ops S l a R→seqB P ops S l a R'
 | [],a,hR=>h a hR
 | (i,p) :: l,a,⟨o,v,h1,h2,h3⟩=>⟨o,v,h1,h2,seqB_mono h l _ h3⟩
theorem seqB_put (hsel:∀ (j:Nat) (o:Oper) cs b,ops[j]?=some o→o.op≠ .select cs b) {dst:Option Tmp} {u:Value} {R R':Act→Prop} (hR:∀ a,R a→R' (a.put dst u)) :
 ∀ (l:List (Nat×Bool)) (a:Act),(∀ x∈l,∀ o,ops[x.1]?=some o→(∀ d,dst=some d→d ∉ o.looksAt ops)∧∀ d,o.dst=some d→dst≠some d) →
 seqB P ops S l a R→seqB P ops S l (a.put dst u) R'
 | [],a,_,h=>hR a h
 | (i,p) :: l,a,hx,⟨o,v,h1,h2,h3⟩=>by
  obtain ⟨hl,hd⟩:=hx (i,p) (.head _) o h1
  refine ⟨o,v,h1,(okB_put (hsel i o · · h1) hl).2 h2,?_⟩
  rw [← Act.put_comm a v u hd]
  exact seqB_put hsel hR l _ (fun x hm=>hx x (.tail _ hm)) h3
theorem seqB_pick (hsel:∀ (j:Nat) (o:Oper) cs b,ops[j]?=some o→o.op≠ .select cs b) {j:Nat} {p:Bool} {oj:Oper} (hj:ops[j]?=some oj) {R:Act→Prop} (l2:List (Nat×Bool)) :
 ∀ (l1:List (Nat×Bool)) (a:Act),(∀ x∈l1,∀ o,ops[x.1]?=some o→oj.apart ops o=true) →
 seqB P ops S (l1 ++ (j,p) :: l2) a R→∃ v,okB P ops S p oj v a∧seqB P ops S (l1 ++ l2) (a.put oj.dst v) R
 | [],a,_,⟨o,v,h1,h2,h3⟩=>by
  rw [hj] at h1
  cases h1
  exact ⟨v,h2,h3⟩
 | (i,q) :: l1,a,hx,⟨o,v,h1,h2,h3⟩=>by
  obtain ⟨v',h4,h5⟩:=seqB_pick hsel hj l2 l1 _ (fun x hm=>hx x (.tail _ hm)) h3
  obtain ⟨a1,a2,a3⟩:=Oper.apart_spec (hx (i,q) (.head _) o h1)
  refine ⟨v',(okB_put (hsel j oj · · hj) a3).1 h4,o,v,h1,(okB_put (hsel i o · · h1) a1).2 h2,?_⟩
  rw [Act.put_comm a v' v a2]
  exact h5
abbrev AList:=List (Nat×Array Value×TypeId×Option Nat)
def seqA (ops:Array Oper):AList→Act→Mem→(Mem→Act→Prop)→Prop
 | [],a,D,R=>R D a
 | (i,z,t,some b) :: l,a,D,R=>seqA ops l a ((b,z,t) :: D) R
 | (i,z,t,none) :: l,a,D,R=>∀ o,ops[i]?=some o→∀ b:Nat,seqA ops l (a.put o.dst (.pointer (some ⟨b,0,none⟩))) ((b,z,t) :: D) R
def pend (l:AList):List Nat:=(l.filter (·.2.2.2.isNone)).map (·.1)
def doneM:AList→Mem
 | []=>[]
 | (i,z,t,some b) :: l=>(b,z,t) :: doneM l
 | (i,z,t,none) :: l=>doneM l
theorem doneM_append:∀ l1 l2:AList,doneM (l1 ++ l2)=doneM l1 ++ doneM l2
 | [],_=>rfl
 | (i,z,t,some b) :: l,l2=>by show _ :: doneM (l ++ l2)=_;rw [doneM_append l l2];rfl
 | (i,z,t,none) :: l,l2=>doneM_append l l2
theorem pend_append (l1 l2:AList):pend (l1 ++ l2)=pend l1 ++ pend l2:=by simp [pend]
theorem seqA_done:∀ (l:AList) (a:Act) (D:Mem) (R:Mem→Act→Prop),pend l=[]→seqA ops l a D R→R ((doneM l).reverse ++ D) a
 | [],a,D,R,_,h=>h
 | (i,z,t,some b) :: l,a,D,R,hp,h=>by
  have:=seqA_done l a ((b,z,t) :: D) R (by simpa [pend] using hp) h
  simpa [doneM] using this
 | (i,z,t,none) :: l,a,D,R,hp,h=>by simp [pend] at hp
theorem seqA_pick {j:Nat} {oj:Oper} (hj:ops[j]?=some oj) {z:Array Value} {t:TypeId} (b:Nat) {R:Mem→Act→Prop} (l2:AList) :
 ∀ (l1:AList) (a:Act) (D:Mem),(∀ x∈l1,∀ o,ops[x.1]?=some o→∀ d,o.dst=some d→oj.dst≠some d) →
 seqA ops (l1 ++ (j,z,t,none) :: l2) a D R→seqA ops (l1 ++ (j,z,t,some b) :: l2) (a.put oj.dst (.pointer (some ⟨b,0,none⟩))) D R
 | [],a,D,_,h=>h oj hj b
 | (i,z',t',some b') :: l1,a,D,hx,h=>seqA_pick hj b l2 l1 a _ (fun x hm=>hx x (.tail _ hm)) h
 | (i,z',t',none) :: l1,a,D,hx,h=>fun o ho b'=>by
  rw [← Act.put_comm a _ _ (hx _ (.head _) o ho)]
  exact seqA_pick hj b l2 l1 _ _ (fun x hm=>hx x (.tail _ hm)) (h o ho b')
def waits (o:Oper) (j:Nat):Bool:=o.after.any fun e=>Region.binds .any e && e.on == j
inductive Reach (ops:Array Oper):Nat→Nat→Prop
 | one {i j:Nat} {o:Oper} (ho:ops[i]?=some o) (h:waits o j=true):Reach ops i j
 | step {i j k:Nat} {o:Oper} (ho:ops[i]?=some o) (h:waits o k=true) (r:Reach ops k j):Reach ops i j
def reachB (ops:Array Oper):Nat→Nat→Nat→Bool
 | 0,_,_=>false
 | f+1,i,j=>match ops[i]? with
  | none=>false
  | some o=>waits o j || o.after.any fun e=>Region.binds .any e && reachB ops f e.on j
theorem reach_of {ops:Array Oper}:∀ (f i j:Nat),reachB ops f i j=true→Reach ops i j
 | 0,_,_,h=>by cases h
 | f+1,i,j,h=>by
  unfold reachB at h
  cases ho:ops[i]? with
  | none=>rw [ho] at h;cases h
  | some o =>
   rw [ho] at h
   simp only [Bool.or_eq_true] at h
   rcases h with h | h
   ·exact .one ho h
   ·rw [Array.any_eq_true'] at h
    obtain ⟨e,he,hb⟩:=h
    rw [Bool.and_eq_true] at hb
    refine .step ho ?_ (reach_of f e.on j hb.2)
    unfold waits
    rw [Array.any_eq_true']
    exact ⟨e,he,by simp [hb.1]⟩
theorem Reach.out {ops:Array Oper} {rem:List Nat} (hc:∀ (i:Nat) (o:Oper),ops[i]?=some o→i ∉ rem→∀ k,waits o k=true→k ∉ rem) {i j:Nat} (r:Reach ops i j):i ∉ rem→j ∉ rem:=by
 induction r with
 | one ho h=>exact fun hi=>hc _ _ ho hi _ h
 | step ho h _ ih=>exact fun hi=>ih (hc _ _ ho hi _ h)
def forced (ops:Array Oper):List Nat→Array Bool→Bool
 | [],L=>Region.ready .any ops L == []
 | i :: l,L=>(Region.ready .any ops L == [i]) && forced ops l (L.setIfInBounds i true)
theorem forced_list (hsz:∀ i,i∈([]:List Nat)→True):∀ (T:List Nat) (L:Array Bool) (a:Act) (w:World),forced ops T L=true→wpList P ops Q (T.filterMap (ops[·]?)) a w→wpAny P .any ops Q T.length L a w
 | [],L,a,w,hf,h=>⟨by simpa [forced] using hf,h⟩
 | i :: T,L,a,w,hf,h=>by
  simp only [forced,Bool.and_eq_true,beq_iff_eq] at hf
  refine ⟨fun h0=>(by rw [hf.1] at h0;cases h0),fun j hj=>?_⟩
  rw [hf.1] at hj
  obtain rfl:j=i:=by simpa using hj
  have hr:j∈Region.ready .any ops L:=by rw [hf.1];exact .head _
  obtain ⟨_,o,ho,_⟩:=mem_ready.1 hr
  rw [List.filterMap_cons,ho] at h
  simp only at h
  unfold wpOp
  simp only [ho]
  unfold wpList at h
  split
  ·rename_i hw
   rw [if_pos hw] at h
   exact h.imp (Oper.wp_mono fun a w h=>forced_list hsz T _ a w hf.2 h) id
  ·rename_i hw
   rw [if_neg hw] at h
   exact forced_list hsz T _ _ w hf.2 h
def freeB (ops:Array Oper) (B:List (Nat×Bool)) (A T:List Nat):Bool :=
 let all:=B.map (·.1) ++ A ++ T
 let get:=fun i=>(ops[i]?).getD default
 Region.noSelect ops && all.all (fun i=>decide (i<ops.size)) && decide all.Nodup && (List.range ops.size).all (all.contains ·) &&
 (List.range ops.size).all (fun i=>(get i).after.all fun e=>decide (e.on<ops.size) && !(Region.binds .any e && e.on == i)) &&
 decide (all.Pairwise fun i j=>waits (get i) j=false) &&
 (B.map (·.1) ++ A).all (fun i=>all.all fun j=>i == j || waits (get i) j || waits (get j) i || (get i).apart ops (get j)) &&
 A.all (fun i=>A.all fun j=>i == j || (get i).apart ops (get j)) &&
 T.all (fun t=>((B.filter (!·.2)).map (·.1) ++ A).all (reachB ops ops.size t ·) || T.any fun t'=>waits (get t) t') &&
 forced ops T (Array.ofFn (n:=ops.size) fun i=> !T.contains i.1)
theorem waits_of {o:Oper} {j:Nat} {e:Edge} (he:e∈o.after) (hb:Region.binds .any e=true) (hj:e.on=j):waits o j=true:=by
 unfold waits
 rw [Array.any_eq_true']
 exact ⟨e,he,by simp [hb,hj]⟩
theorem set_iff {L:Array Bool} {rem rem':List Nat} (hL:∀ i,L.getD i true=false↔i∈rem) {j:Nat} (hj:j∈rem) (h:∀ i,i∈rem'↔i∈rem∧i≠j) (i:Nat):(L.setIfInBounds j true).getD i true=false↔i∈rem':=by
 by_cases e:j=i
 ·subst e
  rw [h]
  have hlt:j<L.size:=by
   rcases Nat.lt_or_ge j L.size with h' | h'
   ·exact h'
   ·have:=(hL j).2 hj
    simp [Array.getElem?_eq_none h'] at this
  simp [hlt]
 ·rw [getD_set_ne true e,hL,h]
  exact ⟨fun h=>⟨h,fun h'=>e h'.symm⟩,fun h=>h.1⟩
theorem unlisted {L:Array Bool} {rem:List Nat} (hL:∀ i,L.getD i true=false↔i∈rem) {j k:Nat} (hr:j∈Region.ready .any ops L) {o:Oper} (ho:ops[j]?=some o) (hw:waits o k=true):k ∉ rem:=fun hk=>by
 obtain ⟨_,o',ho',hall⟩:=mem_ready.1 hr
 rw [ho] at ho'
 cases ho'
 unfold waits at hw
 rw [Array.any_eq_true'] at hw
 obtain ⟨e,he,hb⟩:=hw
 simp only [Bool.and_eq_true,beq_iff_eq] at hb
 have h1:=hall e he hb.1
 rw [hb.2] at h1
 have h2:=(hL k).2 hk
 rcases Nat.lt_or_ge k L.size with h' | h'
 ·simp [h'] at h1 h2
  rw [h1] at h2;cases h2
 ·simp [Array.getElem?_eq_none h'] at h1
theorem first_ready {L:Array Bool} {rem rest:List Nat} {x:Nat} (hL:∀ i,L.getD i true=false↔i∈rem) (hsz:L.size=ops.size) (hx:rem=x :: rest)
 (hin:∀ (i:Nat) (o:Oper),ops[i]?=some o→∀ e∈o.after,e.on<ops.size) (hself:∀ (i:Nat) (o:Oper),ops[i]?=some o→waits o i=false)
 (htop:rem.Pairwise (fun i j=>∀ o,ops[i]?=some o→waits o j=false)):x∈Region.ready .any ops L:=by
 have h0:L.getD x true=false:=(hL x).2 (by rw [hx];exact .head _)
 have hlt:x<ops.size:=by
  rcases Nat.lt_or_ge x L.size with h' | h'
  ·omega
  ·simp [Array.getElem?_eq_none h'] at h0
 refine mem_ready.2 ⟨h0,ops[x],Array.getElem?_eq_getElem hlt,fun e he hb=>?_⟩
 have hlt2:=hin x _ (Array.getElem?_eq_getElem hlt) e he
 have hnot:e.on ∉ rem:=by
  rw [hx]
  intro hm
  have hw:=waits_of he hb rfl
  cases hm with
  | head=>rw [hself _ _ (Array.getElem?_eq_getElem hlt)] at hw;cases hw
  | tail _ hm =>
   rw [hx,List.pairwise_cons] at htop
   rw [htop.1 _ hm _ (Array.getElem?_eq_getElem hlt)] at hw
   cases hw
 have h1:¬ L.getD e.on true=false:=fun h=>hnot ((hL _).1 h)
 have h2:e.on<L.size:=by omega
 simp [h2] at h1 ⊢
 exact h1
theorem free_all (hsel:Region.noSelect ops=true) (hQ:∀ c d v a w,Q (.panic c) (Act.put a d v) w→Q (.panic c) a w)
 (hin:∀ (i:Nat) (o:Oper),ops[i]?=some o→∀ e∈o.after,e.on<ops.size) (hself:∀ (i:Nat) (o:Oper),ops[i]?=some o→waits o i=false)
 (B:List Nat) (A:List Nat) (T:List Nat)
 (hpair:∀ i∈B ++ A,∀ j∈B ++ A ++ T,i≠j→∀ o o',ops[i]?=some o→ops[j]?=some o'→waits o j=true∨waits o' i=true∨o.apart ops o'=true)
 (LT:Array Bool) (hLT:LT.size=ops.size) (hLT2:∀ i,LT.getD i true=false↔i∈T) (hforce:forced ops T LT=true)
 {w0:World} {M0:Mem} (R:Mem→Act→Prop) (hR:∀ D a,R D a→∀ w,Loc w0 w (D ++ M0)→wpList P ops Q (T.filterMap (ops[·]?)) a w) :
 ∀ (fuel:Nat) (lB:List (Nat×Bool)) (lA:AList) (L:Array Bool) (a:Act) (w:World),
  fuel=lB.length+(pend lA).length+T.length→L.size=ops.size→(∀ i,L.getD i true=false↔i∈lB.map (·.1) ++ pend lA ++ T) →
  (lB.map (·.1) ++ pend lA ++ T).Pairwise (fun i j=>∀ o,ops[i]?=some o→waits o j=false)→(lB.map (·.1) ++ pend lA ++ T).Nodup →
  (∀ i∈lB.map (·.1),i∈B)→(∀ i∈lA.map (·.1),i∈A)→(lA.map (·.1)).Nodup →
  (∀ x∈lA,∀ o,ops[x.1]?=some o→o.op= .alloc x.2.2.1∧o.guard=none∧∀ w v,(Instr.alloc x.2.2.1 true v).run P w= .ok (.pointer (some ⟨w.heap.size,0,none⟩)) (w.alloc (.cells x.2.1 x.2.2.1))) →
  (∀ t∈T,∀ o,ops[t]?=some o→(∀ i∈(lB.filter (!·.2)).map (·.1) ++ pend lA,Reach ops t i)∨∃ t'∈T,waits o t'=true) →
  (∀ (i:Nat) (o:Oper),ops[i]?=some o→i ∉ lB.map (·.1) ++ pend lA ++ T→∀ k,waits o k=true→k ∉ lB.map (·.1) ++ pend lA ++ T) →
  (∀ x∈lA,∀ y∈lA,x.1≠y.1→∀ o o',ops[x.1]?=some o→ops[y.1]?=some o'→∀ d,o.dst=some d→o'.dst≠some d) →
  Loc w0 w (doneM lA ++ M0)→seqB P ops (fun w=>Loc w0 w M0) lB a (fun a'=>seqA ops lA a' [] R)→wpAny P .any ops Q fuel L a w:=by
 intro fuel
 have hs:=Region.noSelect_spec hsel
 induction fuel with
 | zero =>
  intro lB lA L a w hf hsz hL _ _ _ _ _ _ _ _ _ hloc hseq
  have h1:lB=[]:=List.eq_nil_of_length_eq_zero (by omega)
  have h2:pend lA=[]:=List.eq_nil_of_length_eq_zero (by omega)
  have h3:T=[]:=List.eq_nil_of_length_eq_zero (by omega)
  subst h1
  have:=hR _ _ (seqA_done lA a [] R h2 hseq) w (hloc.perm (by simpa using ((List.reverse_perm _).symm.append_right M0)))
  rw [h3] at this
  have hLe:L=LT:=Array.ext (by rw [hsz,hLT]) fun i hi1 hi2=>by
   have e1:=hL i
   have e2:=hLT2 i
   rw [h2,h3] at *
   simp only [List.map_nil,List.append_nil,List.not_mem_nil,iff_false] at e1 e2
   simp [hi1] at e1
   simp [hi2] at e2
   rw [e1,e2]
  subst hLe
  rw [h3] at hforce
  exact ⟨by simpa [forced] using hforce,this⟩
 | succ fuel ih =>
  intro lB lA L a w hf hsz hL htop hnd hB hA hAn hAl hTw hcl hAd hloc hseq
  have closed:∀ (rem':List Nat) (j:Nat),j∈Region.ready .any ops L→(∀ i,i∈rem'↔i∈lB.map (·.1) ++ pend lA ++ T∧i≠j)→∀ (i:Nat) (o:Oper),ops[i]?=some o→i ∉ rem'→∀ k,waits o k=true→k ∉ rem':=by
   intro rem' j hr hrem i o ho hi k hw hk
   have hk':=((hrem k).1 hk).1
   by_cases e:i=j
   ·subst e
    exact unlisted hL hr ho hw hk'
   ·exact hcl i o ho (fun h=>hi ((hrem i).2 ⟨h,e⟩)) k hw hk'
  have rdy:∀ {x:Nat} {rest:List Nat},lB.map (·.1) ++ pend lA ++ T=x :: rest→x∈Region.ready .any ops L:=fun hx=>first_ready hL hsz hx hin hself htop
  have inB:∀ {x:Nat×Bool},x∈lB→x.1∈lB.map (·.1) ++ pend lA ++ T:=fun hx=>List.mem_append_left _ (List.mem_append_left _ (List.mem_map.2 ⟨_,hx,rfl⟩))
  have inA:∀ {j:Nat},j∈pend lA→j∈lB.map (·.1) ++ pend lA ++ T:=fun hx=>List.mem_append_left _ (List.mem_append_right _ hx)
  have pA:∀ {j:Nat},j∈pend lA→j∈A:=fun hx=>by
   obtain ⟨x,hm,rfl⟩:=List.mem_map.1 hx
   exact hA _ (List.mem_map.2 ⟨x,(List.mem_filter.1 hm).1,rfl⟩)
  have go:∀ (l1 l2:List (Nat×Bool)) (j:Nat) (p:Bool),lB=l1 ++ (j,p) :: l2→j∈Region.ready .any ops L→∀ (a':Act) (w':World),Loc w0 w' (doneM lA ++ M0)→seqB P ops (fun w=>Loc w0 w M0) (l1 ++ l2) a' (fun a'=>seqA ops lA a' [] R) →
   wpAny P .any ops Q fuel (L.setIfInBounds j true) a' w':=by
   intro l1 l2 j p hl hrj a' w' hloc' hseq'
   have hsub:((l1 ++ l2).map (·.1) ++ pend lA ++ T).Sublist (lB.map (·.1) ++ pend lA ++ T):=by
    rw [hl]
    refine ((List.Sublist.map _ ?_).append_right _).append_right _
    exact (List.sublist_cons_self _ _).append_left _
   have hiff:∀ i,i∈(l1 ++ l2).map (·.1) ++ pend lA ++ T↔i∈lB.map (·.1) ++ pend lA ++ T∧i≠j:=fun i=>by
    rw [hl] at hnd ⊢
    simp only [List.map_append,List.map_cons,List.mem_append,List.mem_cons,List.append_assoc] at hnd ⊢
    rw [List.nodup_append] at hnd
    obtain ⟨_,n2,n3⟩:=hnd
    rw [List.cons_append,List.nodup_cons] at n2
    constructor
    ·intro h
     refine ⟨by rcases h with h | h | h | h <;> simp [h],?_⟩
     rintro rfl
     rcases h with h | h | h | h
     ·exact n3 _ h _ (.head _) rfl
     ·exact n2.1 (by simp [h])
     ·exact n2.1 (by simp [h])
     ·exact n2.1 (by simp [h])
    ·rintro ⟨h,hne⟩
     rcases h with h | (h | h) | h | h
     ·exact .inl h
     ·exact absurd h hne
     ·exact .inr (.inl h)
     ·exact .inr (.inr (.inl h))
     ·exact .inr (.inr (.inr h))
   refine ih (l1 ++ l2) lA _ a' w' ?_ (by simpa using hsz) (set_iff hL (by rw [hl];simp) hiff) (htop.sublist hsub) (hnd.sublist hsub) ?_ hA hAn hAl ?_ (closed _ j hrj hiff) hAd hloc' hseq'
   ·rw [hl] at hf;simp only [List.length_append,List.length_cons] at hf ⊢; omega
   ·intro i hi
    refine hB i ?_
    rw [hl]
    simp only [List.map_append,List.map_cons,List.mem_append,List.mem_cons] at hi ⊢
    rcases hi with h | h
    ·exact .inl h
    ·exact .inr (.inr h)
   ·intro t ht o ho
    refine (hTw t ht o ho).imp (fun h i hi=>h i ?_) id
    rw [hl]
    simp only [List.filter_append,List.map_append,List.mem_append] at hi ⊢
    rcases hi with (h | h) | h
    ·exact .inl (.inl h)
    ·refine .inl (.inr ?_)
     rw [List.filter_cons]
     split
     ·exact List.mem_cons_of_mem _ h
     ·exact h
    ·exact .inr h
  have apB:∀ {j:Nat} {oj:Oper},ops[j]?=some oj→j∈Region.ready .any ops L→j∈B ++ A→∀ k∈lB.map (·.1) ++ pend lA ++ T,j≠k→∀ o,ops[k]?=some o→waits o j=false→oj.apart ops o=true:=by
   intro j oj hj hr hjB k hk hne o ho hw
   have hkA:k∈B ++ A ++ T:=by
    rcases List.mem_append.1 hk with h | h
    ·rcases List.mem_append.1 h with h | h
     ·exact List.mem_append_left _ (List.mem_append_left _ (hB _ h))
     ·exact List.mem_append_left _ (List.mem_append_right _ (pA h))
    ·exact List.mem_append_right _ h
   rcases hpair j hjB k hkA hne oj o hj ho with h | h | h
   ·exact absurd hk (unlisted hL hr hj h)
   ·rw [h] at hw;cases hw
   ·exact h
  by_cases hfin:lB=[]∧pend lA=[]
  ·obtain ⟨h1,h2⟩:=hfin
   subst h1
   have hh:=hR _ _ (seqA_done lA a [] R h2 hseq) w (hloc.perm (by simpa using ((List.reverse_perm _).symm.append_right M0)))
   have hLe:L=LT:=Array.ext (by rw [hsz,hLT]) fun i hi1 hi2=>by
    have e1:=hL i
    have e2:=hLT2 i
    rw [h2] at e1
    simp only [List.map_nil,List.nil_append] at e1
    rw [← e2] at e1
    simp only [Array.getD_eq_getD_getElem?,Array.getElem?_eq_getElem hi1,Array.getElem?_eq_getElem hi2,Option.getD_some] at e1
    cases hx:L[i] <;> cases hy:LT[i] <;> simp [hx,hy] at e1 ⊢
   subst hLe
   have hlen:fuel+1=T.length:=by rw [hf,h2];simp
   rw [hlen]
   exact forced_list (fun _ _=>trivial) T L a w hforce hh
  ·by_cases hp:∃ l1 j l2,lB=l1 ++ (j,true) :: l2∧j∈Region.ready .any ops L
   ·obtain ⟨l1,j,l2,hl,hr⟩:=hp
    obtain ⟨_,oj,hj,_⟩:=mem_ready.1 hr
    have hjB:j∈B ++ A:=List.mem_append_left _ (hB j (by rw [hl];simp))
    have hjnd:∀ x∈l1,x.1≠j:=by
     intro x hx e
     rw [hl] at hnd
     simp only [List.map_append,List.map_cons,List.append_assoc] at hnd
     rw [List.nodup_append] at hnd
     exact hnd.2.2 _ (List.mem_map.2 ⟨x,hx,rfl⟩) _ (.head _) e
    have hbef:∀ x∈l1,∀ o,ops[x.1]?=some o→waits o j=false:=by
     intro x hx o ho
     rw [hl] at htop
     simp only [List.map_append,List.map_cons,List.append_assoc] at htop
     rw [List.pairwise_append] at htop
     exact htop.2.2 _ (List.mem_map.2 ⟨x,hx,rfl⟩) _ (.head _) o ho
    rw [hl] at hseq
    obtain ⟨v,hok,hrest⟩:=seqB_pick hs hj l2 l1 a (fun x hx o ho=>apB hj hr hjB x.1 (inB (by rw [hl];simp [hx])) (fun e=>hjnd x hx e.symm) o ho (hbef x hx o ho)) hseq
    refine wpAny_first hj hs (fun c a w=>hQ c _ _ a w) fuel L a w (fun k ok hk hne hun hno=>?_) hr hok (go l1 l2 j true hl hr _ w hloc hrest)
    refine apB hj hr hjB k ((hL k).1 hun) (Ne.symm hne) ok hk ?_
    cases hw:waits ok j with
    | false=>rfl
    | true =>
     unfold waits at hw
     rw [Array.any_eq_true'] at hw
     obtain ⟨e,he,hb⟩:=hw
     simp only [Bool.and_eq_true,beq_iff_eq] at hb
     exact absurd hb.2 (hno e he hb.1)
   ·refine ⟨fun h0=>?_,fun j hr=>?_⟩
    ·exfalso
     cases hrem:lB.map (·.1) ++ pend lA ++ T with
     | nil =>
      simp only [List.append_eq_nil_iff,List.map_eq_nil_iff] at hrem
      exact hfin hrem.1
     | cons x rest =>
      have:=rdy hrem
      rw [h0] at this
      cases this
    ·obtain ⟨hun,oj,hj,_⟩:=mem_ready.1 hr
     have hm:=(hL j).1 hun
     rcases List.mem_append.1 hm with hm | hm
     ·rcases List.mem_append.1 hm with hm | hm
      ·obtain ⟨⟨j',p⟩,hx,rfl⟩:=List.mem_map.1 hm
       obtain ⟨l1,l2,hl⟩:=List.append_of_mem hx
       have hjB:j'∈B ++ A:=List.mem_append_left _ (hB j' hm)
       have hjnd:∀ x∈l1,x.1≠j':=by
        intro x hx e
        rw [hl] at hnd
        simp only [List.map_append,List.map_cons,List.append_assoc] at hnd
        rw [List.nodup_append] at hnd
        exact hnd.2.2 _ (List.mem_map.2 ⟨x,hx,rfl⟩) _ (.head _) e
       have hbef:∀ x∈l1,∀ o,ops[x.1]?=some o→waits o j'=false:=by
        intro x hx o ho
        rw [hl] at htop
        simp only [List.map_append,List.map_cons,List.append_assoc] at htop
        rw [List.pairwise_append] at htop
        exact htop.2.2 _ (List.mem_map.2 ⟨x,hx,rfl⟩) _ (.head _) o ho
       rw [hl] at hseq
       obtain ⟨v,hok,hrest⟩:=seqB_pick hs hj l2 l1 a (fun x hx o ho=>apB hj hr hjB x.1 (inB (by rw [hl];simp [hx])) (fun e=>hjnd x hx e.symm) o ho (hbef x hx o ho)) hseq
       have hM0:Loc w0 w M0:=by
        have:∀ (D:Mem),Loc w0 w (D ++ M0)→Loc w0 w M0:=by
         intro D
         induction D with
         | nil=>exact id
         | cons e D ih=>exact fun h=>ih h.pop
        exact this _ hloc
       exact hok.wpOp hj hM0 fun w' hb=>go l1 l2 j' p hl hr _ w' (hloc.keep hb) hrest
      ·obtain ⟨⟨j',z,t,ob⟩,hx,rfl⟩:=List.mem_map.1 hm
       obtain ⟨hx1,hx2⟩:=List.mem_filter.1 hx
       have hob:ob=none:=by simpa using hx2
       subst hob
       obtain ⟨l1,l2,hl⟩:=List.append_of_mem hx1
       obtain ⟨hop,hg,hrun⟩:=hAl _ hx1 oj hj
       have hjA:j'∈B ++ A:=List.mem_append_right _ (pA hm)
       have hpe:pend lA=pend l1 ++ j' :: pend l2:=by rw [hl,pend_append];simp [pend]
       have hpe':pend (l1 ++ (j',z,t,some w.heap.size) :: l2)=pend l1 ++ pend l2:=by rw [pend_append];simp [pend]
       have hmap:(l1 ++ (j',z,t,some w.heap.size) :: l2).map (·.1)=lA.map (·.1):=by rw [hl];simp
       have hsub:(lB.map (·.1) ++ pend (l1 ++ (j',z,t,some w.heap.size) :: l2) ++ T).Sublist (lB.map (·.1) ++ pend lA ++ T):=by
        rw [hpe,hpe']
        refine (List.Sublist.append_left ?_ _).append_right _
        exact (List.sublist_cons_self _ _).append_left _
       unfold wpOp
       simp only [hj,Region.wanted,hg,if_true]
       refine .inl ?_
       unfold Oper.wp execOp
       simp only [hop,Sem.run_bind,hrun,Result.andThen_ok]
       show wpAny P .any ops Q fuel _ (a.put oj.dst _) _
       have hiff:∀ i,i∈lB.map (·.1) ++ pend (l1 ++ (j',z,t,some w.heap.size) :: l2) ++ T↔i∈lB.map (·.1) ++ pend lA ++ T∧i≠j':=fun i=>by
        rw [hpe] at hnd ⊢
        rw [hpe']
        simp only [List.mem_append,List.mem_cons,List.append_assoc] at hnd ⊢
        rw [List.nodup_append,List.nodup_append] at hnd
        obtain ⟨_,⟨_,n2,n3⟩,n4⟩:=hnd
        rw [List.cons_append,List.nodup_cons] at n2
        constructor
        ·intro h
         refine ⟨by rcases h with h | h | h | h <;> simp [h],?_⟩
         rintro rfl
         rcases h with h | h | h | h
         ·exact n4 _ h _ (by simp) rfl
         ·exact n3 _ h _ (.head _) rfl
         ·exact n2.1 (by simp [h])
         ·exact n2.1 (by simp [h])
        ·rintro ⟨h,hne⟩
         rcases h with h | h | (h | h) | h
         ·exact .inl h
         ·exact .inr (.inl h)
         ·exact absurd h hne
         ·exact .inr (.inr (.inl h))
         ·exact .inr (.inr (.inr h))
       refine ih lB (l1 ++ (j',z,t,some w.heap.size) :: l2) _ _ _ ?_ (by simpa using hsz) (set_iff hL (inA hm) hiff) (htop.sublist hsub) (hnd.sublist hsub) hB (by rw [hmap];exact hA) (by rw [hmap];exact hAn) ?_ ?_ (closed _ j' hr hiff) ?_ ?_ ?_
       ·rw [hpe] at hf;rw [hpe'];simp only [List.length_append,List.length_cons] at hf ⊢; omega
       ·intro x hx o ho
        simp only [List.mem_append,List.mem_cons] at hx
        rcases hx with h | h | h
        ·exact hAl x (by rw [hl];simp [h]) o ho
        ·subst h;exact hAl (j',z,t,none) hx1 o ho
        ·exact hAl x (by rw [hl];simp [h]) o ho
       ·intro t' ht o ho
        refine (hTw t' ht o ho).imp (fun h i hi=>h i ?_) id
        rw [hpe'] at hi
        rw [hpe]
        simp only [List.mem_append,List.mem_cons] at hi ⊢
        rcases hi with h | h | h
        ·exact .inl h
        ·exact .inr (.inl h)
        ·exact .inr (.inr (.inr h))
       ·have key:∀ x∈l1 ++ (j',z,t,some w.heap.size) :: l2,∃ y∈lA,y.1=x.1:=by
         intro x hx
         simp only [List.mem_append,List.mem_cons] at hx
         rcases hx with h | h | h
         ·exact ⟨x,by rw [hl];simp [h],rfl⟩
         ·subst h;exact ⟨_,hx1,rfl⟩
         ·exact ⟨x,by rw [hl];simp [h],rfl⟩
        intro x hx y hy hne
        obtain ⟨x',hx',ex⟩:=key x hx
        obtain ⟨y',hy',ey⟩:=key y hy
        rw [← ex,← ey] at hne ⊢
        exact hAd x' hx' y' hy' hne
       ·refine (hloc.alloc z t).perm ?_
        rw [hl,doneM_append,doneM_append]
        show ((w.heap.size,z,t) :: (doneM l1 ++ doneM l2 ++ M0)).Perm (doneM l1 ++ (w.heap.size,z,t) :: doneM l2 ++ M0)
        rw [List.append_assoc,List.append_assoc]
        exact List.perm_middle.symm
       ·refine seqB_put hs (R:=fun a'=>seqA ops lA a' [] R) (fun a' h=>?_) lB a (fun x hx o ho=>?_) hseq
        ·rw [hl] at h
         refine seqA_pick hj _ l2 l1 a' [] (fun x hx o ho d hd=>?_) h
         have hxl:x∈lA:=by rw [hl];simp [hx]
         refine hAd x hxl _ hx1 ?_ o oj ho hj d hd
         intro e
         rw [hl] at hAn
         simp only [List.map_append,List.map_cons] at hAn
         rw [List.nodup_append] at hAn
         exact hAn.2.2 _ (List.mem_map.2 ⟨x,hx,rfl⟩) _ (.head _) e
        ·have hne:j'≠x.1:=by
          intro e
          rw [List.append_assoc,List.nodup_append] at hnd
          exact hnd.2.2 _ (List.mem_map.2 ⟨x,hx,rfl⟩) _ (List.mem_append_left _ hm) e.symm
         have hw:waits o j'=false:=by
          rw [List.append_assoc,List.pairwise_append] at htop
          exact htop.2.2 _ (List.mem_map.2 ⟨x,hx,rfl⟩) _ (List.mem_append_left _ hm) o ho
         obtain ⟨b1,b2,b3⟩:=Oper.apart_spec (apB hj hr hjA x.1 (inB hx) hne o ho hw)
         refine ⟨b1,fun d hd e=>?_⟩
         exact b2 d e hd
     ·exfalso
      have rout:∀ {i:Nat},Reach ops j i→i ∉ lB.map (·.1) ++ pend lA ++ T:=fun r=>by
       cases r with
       | one ho h=>rw [hj] at ho;cases ho;exact unlisted hL hr hj h
       | step ho h r=>rw [hj] at ho;cases ho;exact r.out hcl (unlisted hL hr hj h)
      rcases hTw j hm oj hj with h | ⟨t',ht',h⟩
      ·have hpl:pend lA=[]:=by
        refine List.eq_nil_iff_forall_not_mem.2 fun i hi=>?_
        exact rout (h i (List.mem_append_right _ hi)) (inA hi)
       cases hlB:lB with
       | nil=>exact hfin ⟨hlB,hpl⟩
       | cons x rest =>
        obtain ⟨i,p⟩:=x
        have hxm:(i,p)∈lB:=by rw [hlB];exact .head _
        cases p with
        | true=>exact hp ⟨[],i,rest,by rw [hlB];rfl,rdy (x:=i) (rest:=rest.map (·.1) ++ pend lA ++ T) (by rw [hlB];rfl)⟩
        | false=>exact rout (h i (List.mem_append_left _ (List.mem_map.2 ⟨_,List.mem_filter.2 ⟨hxm,rfl⟩,rfl⟩))) (inB hxm)
      ·exact unlisted hL hr hj h (List.mem_append_right _ ht')
abbrev ASpec:=List (Nat×Array Value×TypeId)
def okA (ops:Array Oper):ASpec→Prop
 | []=>True
 | (i,z,t) :: l=>(∃ o,ops[i]?=some o∧o.op= .alloc t∧o.guard=none)∧RowZ t z∧okA ops l
theorem okA_of:∀ (l:ASpec),okA ops l→∀ x∈l,(∃ o,ops[x.1]?=some o∧o.op= .alloc x.2.2∧o.guard=none)∧RowZ x.2.2 x.2.1
 | [],_,x,hx=>by cases hx
 | (i,z,t) :: l,⟨h1,h2,h3⟩,x,hx=>by
  cases hx with
  | head=>exact ⟨h1,h2⟩
  | tail _ hx=>exact okA_of l h3 x hx
def seqN (ops:Array Oper):ASpec→Act→Mem→(Mem→Act→Prop)→Prop
 | [],a,D,R=>R D a
 | (i,z,t) :: l,a,D,R=>∃ o,ops[i]?=some o∧∀ b:Nat,seqN ops l (a.put o.dst (.pointer (some ⟨b,0,none⟩))) ((b,z,t) :: D) R
theorem seqA_of_seqN {R:Mem→Act→Prop}:∀ (l:ASpec) (a:Act) (D:Mem),seqN ops l a D R→seqA ops (l.map fun x=>(x.1,x.2.1,x.2.2,none)) a D R
 | [],_,_,h=>h
 | (i,z,t) :: l,a,D,⟨o,ho,h⟩=>fun o' ho' b=>by
  rw [ho] at ho'
  cases ho'
  exact seqA_of_seqN l _ _ (h b)
end
theorem pend_new:∀ A:ASpec,pend (A.map fun x=>(x.1,x.2.1,x.2.2,(none:Option Nat)))=A.map (·.1)
 | []=>rfl
 | x :: A=>congrArg (x.1 :: ·) (pend_new A)
theorem doneM_new:∀ A:ASpec,doneM (A.map fun x=>(x.1,x.2.1,x.2.2,(none:Option Nat)))=[]
 | []=>rfl
 | _ :: A=>doneM_new A
def seqO (P:Program) (ops:Array Oper) (S:World→Prop):List (Oper×Bool)→Act→(Act→Prop)→Prop
 | [],a,R=>R a
 | (o,p) :: l,a,R=>∃ v,okB P ops S p o v a∧seqO P ops S l (a.put o.dst v) R
theorem seqB_of_seqO {P:Program} {ops:Array Oper} {S:World→Prop} {R:Act→Prop}:∀ (B:List (Nat×Bool)) (a:Act),(∀ x∈B,x.1<ops.size)→seqO P ops S (B.filterMap fun x=>(ops[x.1]?).map fun o=>(o,x.2)) a R→seqB P ops S B a R
 | [],_,_,h=>h
 | (i,p) :: B,a,hx,h=>by
  have hlt:=hx (i,p) (.head _)
  have ho:ops[i]?=some (ops[i]'hlt):=Array.getElem?_eq_getElem hlt
  rw [List.filterMap_cons,ho] at h
  obtain ⟨v,h1,h2⟩:=h
  exact ⟨_,v,ho,h1,seqB_of_seqO B _ (fun x hm=>hx x (.tail _ hm)) h2⟩
def seqM:List (Oper×Array Value×TypeId)→Act→Mem→(Mem→Act→Prop)→Prop
 | [],a,D,R=>R D a
 | (o,z,t) :: l,a,D,R=>∀ b:Nat,seqM l (a.put o.dst (.pointer (some ⟨b,0,none⟩))) ((b,z,t) :: D) R
theorem seqN_of_seqM {ops:Array Oper} {R:Mem→Act→Prop}:∀ (A:ASpec) (a:Act) (D:Mem),(∀ x∈A,x.1<ops.size)→seqM (A.filterMap fun x=>(ops[x.1]?).map fun o=>(o,x.2)) a D R→seqN ops A a D R
 | [],_,_,_,h=>h
 | (i,z,t) :: A,a,D,hx,h=>by
  have hlt:=hx (i,z,t) (.head _)
  have ho:ops[i]?=some (ops[i]'hlt):=Array.getElem?_eq_getElem hlt
  rw [List.filterMap_cons,ho] at h
  exact ⟨_,ho,fun b=>seqN_of_seqM A _ _ (fun x hm=>hx x (.tail _ hm)) (h b)⟩
theorem decide_all {n:Nat} {p:Nat→Bool} (h:(List.range n).all p=true) {i:Nat} (hi:i<n):p i=true:=List.all_eq_true.1 h i (List.mem_range.2 hi)
theorem wp_region_free {ops:Array Oper} {Q:Exit→Act→World→Prop} {id:Nat} {a:Act} {w0 w:World} {M0:Mem} (B:List (Nat×Bool)) (A:ASpec) (T:List Nat)
 (hm:Tryz.prog.follows .mixedOrders=true) (hc:freeB ops B (A.map (·.1)) T=true) (hA:okA ops A) (hL:Loc w0 w M0)
 (h:seqO Tryz.prog ops (fun w=>Loc w0 w M0) (B.filterMap fun x=>(ops[x.1]?).map fun o=>(o,x.2)) a fun a'=>seqM (A.filterMap fun x=>(ops[x.1]?).map fun o=>(o,x.2)) a' [] fun D a=>∀ w,Loc w0 w (D ++ M0)→wpList Tryz.prog ops (NoPanic Q) (T.filterMap (ops[·]?)) a w) :
 (Code.region id ops true).wp Tryz.prog Q a w:=by
 refine wp_region_noPanic (wp_region_any hm ?_)
 unfold freeB at hc
 simp only [Bool.and_eq_true] at hc
 obtain ⟨⟨⟨⟨⟨⟨⟨⟨⟨c1,c2⟩,cn⟩,c3⟩,c4⟩,c5⟩,c6⟩,ca⟩,c7⟩,c8⟩:=hc
 have cn':=of_decide_eq_true cn
 have c5':=of_decide_eq_true c5
 have getD_of:∀ {i:Nat} {o:Oper},ops[i]?=some o→(ops[i]?).getD default=o:=fun h=>by rw [h];rfl
 have hlt:∀ {i:Nat} {o:Oper},ops[i]?=some o→i<ops.size:=fun h=>(Array.getElem?_eq_some_iff.1 h).1
 have hpend:=pend_new A
 have hdone:=doneM_new A
 have hmapA:(A.map fun x=>(x.1,x.2.1,x.2.2,(none:Option Nat))).map (·.1)=A.map (·.1):=by rw [List.map_map];rfl
 have hcnt:ops.size=B.length+(pend (A.map fun x=>(x.1,x.2.1,x.2.2,(none:Option Nat)))).length+T.length:=by
  have h1:(List.range ops.size).Perm (B.map (·.1) ++ A.map (·.1) ++ T):=by
   refine (List.perm_ext_iff_of_nodup List.nodup_range cn').2 fun i=>⟨fun hi=>?_,fun hi=>?_⟩
   ·have:=decide_all c3 (List.mem_range.1 hi)
    simpa using this
   ·exact List.mem_range.2 (of_decide_eq_true (List.all_eq_true.1 c2 i hi))
  have:=h1.length_eq
  rw [List.length_range] at this
  rw [this,hpend]
  simp only [List.length_append,List.length_map]
 have hL0:∀ i,(Array.replicate ops.size false).getD i true=false↔i∈B.map (·.1) ++ A.map (·.1) ++ T:=fun i=>by
  constructor
  ·intro hi
   have hi':i<ops.size:=by
    rcases Nat.lt_or_ge i ops.size with h' | h'
    ·exact h'
    ·simp [Array.getElem?_eq_none (xs:=Array.replicate ops.size false) (by simpa using h')] at hi
   have:=decide_all c3 hi'
   simpa using this
  ·intro hi
   have hi':i<ops.size:=of_decide_eq_true (List.all_eq_true.1 c2 i hi)
   simp [hi']
 refine free_all (w0:=w0) (M0:=M0) c1 (fun _ _ _ _ _ h=>h) ?_ ?_ (B.map (·.1)) (A.map (·.1)) T ?_ (Array.ofFn (n:=ops.size) fun i=> !T.contains i.1) (by simp) ?_ c8 _ (fun D a h=>h) ops.size B
  (A.map fun x=>(x.1,x.2.1,x.2.2,none)) _ a _ hcnt (by simp) (by rw [hpend];exact hL0) ?_ (by rw [hpend];exact cn') (fun _ h=>h) (fun i h=>by rwa [hmapA] at h) (by rw [hmapA];exact (List.nodup_append.1 (List.nodup_append.1 cn').1).2.1) ?_ ?_ ?_ ?_ ?_ ?_
 ·intro i o ho e he
  have:=Array.all_eq_true_iff_forall_mem.1 (decide_all c4 (hlt ho)) e (by rw [getD_of ho];exact he)
  simp only [Bool.and_eq_true] at this
  exact of_decide_eq_true this.1
 ·intro i o ho
  cases hw:waits o i with
  | false=>rfl
  | true =>
   unfold waits at hw
   rw [Array.any_eq_true'] at hw
   obtain ⟨e,he,hb⟩:=hw
   have:=Array.all_eq_true_iff_forall_mem.1 (decide_all c4 (hlt ho)) e (by rw [getD_of ho];exact he)
   simp only [Bool.and_eq_true,Bool.not_eq_true'] at this
   rw [Bool.and_eq_true] at hb
   rw [hb.1,hb.2] at this
   exact absurd this.2 (by decide)
 ·intro i hi j hj hne o o' ho ho'
  have:=List.all_eq_true.1 (List.all_eq_true.1 c6 i hi) j hj
  rw [getD_of ho,getD_of ho'] at this
  simp only [Bool.or_eq_true,beq_iff_eq] at this
  rcases this with ((h | h) | h) | h
  ·exact absurd h hne
  ·exact .inl h
  ·exact .inr (.inl h)
  ·exact .inr (.inr h)
 ·intro i
  by_cases hi:i<ops.size
  ·simp [hi]
  ·have:i ∉ T:=fun h=>hi (of_decide_eq_true (List.all_eq_true.1 c2 i (List.mem_append_right _ h)))
   simp [hi,this]
 ·rw [hpend]
  exact c5'.imp fun h o ho=>by rw [← getD_of ho];exact h
 ·intro x hx o ho
  obtain ⟨y,hy,rfl⟩:=List.mem_map.1 hx
  obtain ⟨⟨o',ho',h1,h2⟩,h3⟩:=okA_of A hA y hy
  rw [ho] at ho'
  cases ho'
  exact ⟨h1,h2,fun w v=>run_alloc_z h3.zero w v⟩
 ·intro t ht o ho
  have:=List.all_eq_true.1 c7 t ht
  rw [getD_of ho,Bool.or_eq_true] at this
  rcases this with h | h
  ·exact .inl fun i hi=>reach_of _ _ _ (List.all_eq_true.1 h i (by rw [hpend] at hi;exact hi))
  ·obtain ⟨t',ht',hw⟩:=List.any_eq_true.1 h
   exact .inr ⟨t',ht',hw⟩
 ·intro i o ho hi
  exact absurd (by have:=decide_all c3 (hlt ho);rw [hpend];simpa using this) hi
 ·intro x hx y hy hne o o' ho ho'
  obtain ⟨x',hx',rfl⟩:=List.mem_map.1 hx
  obtain ⟨y',hy',rfl⟩:=List.mem_map.1 hy
  have:=List.all_eq_true.1 (List.all_eq_true.1 ca x'.1 (List.mem_map.2 ⟨x',hx',rfl⟩)) y'.1 (List.mem_map.2 ⟨y',hy',rfl⟩)
  rw [getD_of ho,getD_of ho'] at this
  simp only [Bool.or_eq_true,beq_iff_eq] at this
  rcases this with h | h
  ·exact absurd h hne
  ·exact (Oper.apart_spec h).2.1
 ·rw [hdone];exact hL.drew
 ·have hin:∀ i,i∈B.map (·.1) ++ A.map (·.1) ++ T→i<ops.size:=fun i h=>of_decide_eq_true (List.all_eq_true.1 c2 i h)
  refine seqB_mono (fun a' h=>seqA_of_seqN A a' [] (seqN_of_seqM A a' [] (fun x hx=>hin _ ?_) h)) B a (seqB_of_seqO B a (fun x hx=>hin _ ?_) h)
  ·exact List.mem_append_left _ (List.mem_append_right _ (List.mem_map.2 ⟨x,hx,rfl⟩))
  ·exact List.mem_append_left _ (List.mem_append_left _ (List.mem_map.2 ⟨x,hx,rfl⟩))
section
variable {ops:Array Oper} {S:World→Prop} {l:List (Oper×Bool)} {o:Oper} {a:Act} {R:Act→Prop}
theorem seqO_nil (h:R a):seqO Tryz.prog ops S [] a R:=h
theorem seqO_pure {v:Value} (hg:o.guard=none) (hv:∀ w,(execOp a.eval o).run Tryz.prog w= .ok (.value v) w) (h:seqO Tryz.prog ops S l (a.put o.dst v) R):seqO Tryz.prog ops S ((o,true) :: l) a R :=
 ⟨v,.inl ⟨by simp [Region.wanted,hg],hv⟩,h⟩
theorem seqO_keep {v:Value} (hg:o.guard=none) (hv:∀ w,S w→(execOp a.eval o).run Tryz.prog w= .ok (.value v) w) (h:seqO Tryz.prog ops S l (a.put o.dst v) R):seqO Tryz.prog ops S ((o,false) :: l) a R :=
 ⟨v,⟨by simp [Region.wanted,hg],fun w hS=> .inl (hv w hS)⟩,h⟩
theorem seqO_call {v:Value} {f:FuncId} {args:Array Value} (hg:o.guard=none) (he:∀ w,(execOp a.eval o).run Tryz.prog w= .ok (.enter f args) w)
 (hc:∀ w,S w→Calls Tryz.prog f args w fun e w'=>e= .returned v∧Below w.heap.size w w') (h:seqO Tryz.prog ops S l (a.put o.dst v) R):seqO Tryz.prog ops S ((o,false) :: l) a R :=
 ⟨v,⟨by simp [Region.wanted,hg],fun w hS=> .inr ⟨f,args,he w,hc w hS⟩⟩,h⟩
theorem seqM_nil {D:Mem} {R:Mem→Act→Prop} (h:R D a):seqM [] a D R:=h
theorem seqM_cons {z:Array Value} {t:TypeId} {l:List (Oper×Array Value×TypeId)} {D:Mem} {R:Mem→Act→Prop} (h:∀ b:Nat,seqM l (a.put o.dst (.pointer (some ⟨b,0,none⟩))) ((b,z,t) :: D) R):seqM ((o,z,t) :: l) a D R:=h
theorem calls_quiet {f:FuncId} {args:Array Value} {w:World} {v:Value} (h:Calls Tryz.prog f args w fun e w'=>e= .returned v∧w=w'):Calls Tryz.prog f args w fun e w'=>e= .returned v∧Below w.heap.size w w' :=
 h.mono fun e w' ⟨h1,h2⟩=>⟨h1,h2 ▸ Below.refl _ _⟩
end
end Go.Proofs.YtoifhhljfaoejaaGreatDoor
