/-
  Lemmas of the law, part 26: the walks of the functions that it calls and the plain facts about them. No condition beyond those written.
-/
import Derived.Test.YtoifhhljfaoejaaGreatDoorPkAM
import Derived.Test.YtoifhhljfaoejaaGreatDoorPkAU
import Derived.Test.YtoifhhljfaoejaaGreatDoorPkAA
import Derived.Test.YtoifhhljfaoejaaGreatDoorPkAV
import Derived.Test.YtoifhhljfaoejaaGreatDoorPkAY
import Derived.Test.YtoifhhljfaoejaaGreatDoorRows
import Derived.WalkKit
import Derived.Lib.Hide
import Derived.WalkSpells
import Derived.WalkLawsBesides
import Derived.Test.YtoifhhljfaoejaaGreatDoorPkAT
namespace Go.Proofs.YtoifhhljfaoejaaGreatDoor
open Go.RowKit Go.Shelf
set_option linter.unusedVariables false
set_option linter.unusedSectionVars false
theorem wp_region_mix {P:Program} {ops:Array Oper} {Q:Exit→Act→World→Prop} {S:World→Prop} {id:Nat} {a:Act} {w:World} (n:Nat) (hm:P.follows .mixedOrders=true) (hn:ops.size=n) (hS:S w.drew)
 (h:S w.drew→wpAnyH P .any ops (NoPanic Q) S n (Array.replicate n false) a w.drew):(Code.region id ops true).wp P Q a w:=by
 subst hn
 exact wp_region_noPanic (wp_region_held_drew hm hS h)
section
variable {ops:Array Oper} {o:Oper} {a:Act} {w0 w:World} {M M' M1:Mem} {Q:Exit→Act→World→Prop} {K:Act→World→Prop}
theorem yL (hg:o.guard=none) {t:TypeId} {x:Operand} (ho:o.op= .load t x) {b k:Nat} (hx:a.eval x= .pointer (some ⟨b,k,none⟩)) {r s:Array Value} {u:TypeId} {n:Nat} [ht:RowTy t n] [hm:At M b r u] [hp:Part r u k t s] [hr:Row1 s n] :
 YieldsIf Tryz.prog ops (fun w=>Loc w0 w M) o (.agg s) a:=by
 obtain ⟨d,h1,h2⟩:=ht.und
 have:=yieldsIf_load_mid (P:=Tryz.prog) (ops:=ops) (S:=fun w=>Loc w0 w M) (op:=o) (a:=a) (by simp [Region.wanted,hg]) t x ho b k hx s.toList d (fun w h=>rangeAt_of_row (h.get hm.mem) fun j v hv=>hp.part j v hv) h1 h2 (by rw [ht.size,Array.length_toList,hr.size])
 simpa only [Array.toArray_toList] using this
theorem yI (hg:o.guard=none) {t:TypeId} {x:Operand} (ho:o.op= .load t x) {b k:Nat} (hx:a.eval x= .pointer (some ⟨b,k,none⟩)) {r:Array Value} {u:TypeId} {v:Value} [ht:ScTy t] [hm:At M b r u] [hc:Cell r k v] :
 YieldsIf Tryz.prog ops (fun w=>Loc w0 w M) o v a:= .inl ⟨by simp [Region.wanted,hg],fun w hS=>by
 unfold execOp
 have:=run_load_sc (t:=t) (w:=w) (b:=b) (k:=k) (v:=v) (by rw [cell_of_row w b k _ _ _ (hS.get hm.mem)];exact hc.cell)
 simp only [ho,hx,Instr.loadAt,Instr.sureAddr,Sem.run_bind,Sem.run_pure,Result.andThen_ok,this]⟩
theorem yW (hg:o.guard=none) {t:TypeId} {x:Operand} (ho:o.op= .load t x) {b k:Nat} (hx:a.eval x= .pointer (some ⟨b,k,none⟩)) {v:Value} [ht:ScTy t] [hc:Was w0 b k v] :
 YieldsIf Tryz.prog ops (fun w=>Loc w0 w M) o v a:= .inl ⟨by simp [Region.wanted,hg],fun w hS=>by
 unfold execOp
 have:=run_load_sc (t:=t) (w:=w) (b:=b) (k:=k) (v:=v) (hS.was hc)
 simp only [ho,hx,Instr.loadAt,Instr.sureAddr,Sem.run_bind,Sem.run_pure,Result.andThen_ok,this]⟩
theorem eA (hL:Loc w0 w M) {t:TypeId} (ho:o.op= .alloc t) {r:Array Value} [hz:RowZ t r]
 (h:∀ b w',Loc w0 w' ((b,r,t) :: M)→K (a.put o.dst (.pointer (some ⟨b,0,none⟩))) w'):o.wp Tryz.prog a w K Q:=by
 unfold Oper.wp execOp
 simp only [ho,Sem.run_bind,run_alloc_z hz.zero,Result.andThen_ok]
 exact h _ _ (hL.alloc r t)
theorem eCall {f:FuncId} {xs:Array Operand} {ts:Array TypeId} (ho:o.op= .call { callee:= .value (.func f),args:=xs,argTypes:=ts }) [he:Ent f] {args:Array Value} (hx:xs.map a.eval=args)
 (hc:Calls Tryz.prog f args w fun e w'=>∃ v,e= .returned v∧K (a.put o.dst v) w'):o.wp Tryz.prog a w K Q:=by
 unfold Oper.wp
 rw [run_fn ho rfl w,hx,Oper.upon_enter]
 refine hc.mono fun e w'' hh=>?_
 obtain ⟨v,rfl,h⟩:=hh
 exact h
theorem eC (hL:Loc w0 w M) {f:FuncId} {xs:Array Operand} {ts:Array TypeId} (ho:o.op= .call { callee:= .value (.func f),args:=xs,argTypes:=ts }) [he:Ent f] {args:Array Value} (hx:xs.map a.eval=args) {v:Value} [hf:FnC f args v]
 (h:∀ w',Loc w0 w' M→K (a.put o.dst v) w'):o.wp Tryz.prog a w K Q :=
 eCall ho hx ((hf.calls w).mono fun e w' hh=>⟨v,hh.1,h w' (hL.keep hh.2)⟩)
theorem eG (hL:Loc w0 w M) {f:FuncId} {xs:Array Operand} {ts:Array TypeId} (ho:o.op= .call { callee:= .value (.func f),args:=xs,argTypes:=ts }) [he:Ent f] {args:Array Value} (hx:xs.map a.eval=args) [hG:Glob w0] {v:Value} [hf:FnG f args v]
 (h:∀ w',Loc w0 w' M→K (a.put o.dst v) w'):o.wp Tryz.prog a w K Q :=
 eCall ho hx ((hf.calls w (hL.glob hG)).mono fun e w' hh=>⟨v,hh.1,h w' (hL.keep hh.2)⟩)
theorem eBS1i (hL:Loc w0 w M) {t e:TypeId} {x:Operand} (ho:o.op= .buildSlice t 1 #[(0,x)]) [he:Elt t e] {d:IntKind} {n:Int} (hx:a.eval x= .int d n)
 (h:∀ b w',Loc w0 w' ((b, #[.int d n],e) :: M)→K (a.put o.dst (.slice (some ⟨b,0,none⟩) 1 1)) w'):o.wp Tryz.prog a w K Q:=by
 obtain ⟨i,z,hi,hz,hs1,hb,hzs⟩:=he.info
 refine wp_buildSlice t e 1 #[(0,x)] ho #[.int d n] i z he.und hi hz (by rw [hs1];decide) (by rw [hs1];decide) ?_ (h _ _ (hL.alloc #[.int d n] e))
 rw [hs1]
 have e:(Array.map (fun (y:Nat×Operand)=>(y.1,a.eval y.2)) #[(0,x)]).toList=[(0,Value.int d n)]:=by simp [hx]
 rw [e]
 have e1:Array.range 1= #[0]:=rfl
 simp [Instr.fill,Value.cells,e1]
theorem eBS1s (hL:Loc w0 w M) {t e:TypeId} {x:Operand} (ho:o.op= .buildSlice t 1 #[(0,x)]) [he:Elt t e] {p:Option Addr} {n c:Nat} (hx:a.eval x= .slice p n c)
 (h:∀ b w',Loc w0 w' ((b, #[.slice p n c],e) :: M)→K (a.put o.dst (.slice (some ⟨b,0,none⟩) 1 1)) w'):o.wp Tryz.prog a w K Q:=by
 obtain ⟨i,z,hi,hz,hs1,hb,hzs⟩:=he.info
 refine wp_buildSlice t e 1 #[(0,x)] ho #[.slice p n c] i z he.und hi hz (by rw [hs1];decide) (by rw [hs1];decide) ?_ (h _ _ (hL.alloc #[.slice p n c] e))
 rw [hs1]
 have e:(Array.map (fun (y:Nat×Operand)=>(y.1,a.eval y.2)) #[(0,x)]).toList=[(0,Value.slice p n c)]:=by simp [hx]
 rw [e]
 have e1:Array.range 1= #[0]:=rfl
 simp [Instr.fill,Value.cells,e1]
theorem eBS2s (hL:Loc w0 w M) {t e:TypeId} {x y:Operand} (ho:o.op= .buildSlice t 2 #[(0,x),(1,y)]) [he:Elt t e] {p q:Option Addr} {n c n' c':Nat} (hx:a.eval x= .slice p n c) (hy:a.eval y= .slice q n' c')
 (h:∀ b w',Loc w0 w' ((b, #[.slice p n c,.slice q n' c'],e) :: M)→K (a.put o.dst (.slice (some ⟨b,0,none⟩) 2 2)) w'):o.wp Tryz.prog a w K Q:=by
 obtain ⟨i,z,hi,hz,hs1,hb,hzs⟩:=he.info
 refine wp_buildSlice t e 2 #[(0,x),(1,y)] ho #[.slice p n c,.slice q n' c'] i z he.und hi hz (by rw [hs1];decide) (by rw [hs1];decide) ?_ (h _ _ (hL.alloc #[.slice p n c,.slice q n' c'] e))
 rw [hs1]
 have e:(Array.map (fun (y:Nat×Operand)=>(y.1,a.eval y.2)) #[(0,x),(1,y)]).toList=[(0,Value.slice p n c),(1,Value.slice q n' c')]:=by simp [hx,hy]
 rw [e]
 have e1:Array.range 2= #[0,1]:=rfl
 simp [Instr.fill,Value.cells,e1]
theorem eBS3s (hL:Loc w0 w M) {t e:TypeId} {x y z':Operand} (ho:o.op= .buildSlice t 3 #[(0,x),(1,y),(2,z')]) [he:Elt t e] {p q r:Option Addr} {n c n' c' n2 c2:Nat} (hx:a.eval x= .slice p n c) (hy:a.eval y= .slice q n' c') (hz':a.eval z'= .slice r n2 c2)
 (h:∀ b w',Loc w0 w' ((b, #[.slice p n c,.slice q n' c',.slice r n2 c2],e) :: M)→K (a.put o.dst (.slice (some ⟨b,0,none⟩) 3 3)) w'):o.wp Tryz.prog a w K Q:=by
 obtain ⟨i,z,hi,hz,hs1,hb,hzs⟩:=he.info
 refine wp_buildSlice t e 3 #[(0,x),(1,y),(2,z')] ho #[.slice p n c,.slice q n' c',.slice r n2 c2] i z he.und hi hz (by rw [hs1];decide) (by rw [hs1];decide) ?_ (h _ _ (hL.alloc #[.slice p n c,.slice q n' c',.slice r n2 c2] e))
 rw [hs1]
 have e:(Array.map (fun (y:Nat×Operand)=>(y.1,a.eval y.2)) #[(0,x),(1,y),(2,z')]).toList=[(0,Value.slice p n c),(1,Value.slice q n' c'),(2,Value.slice r n2 c2)]:=by simp [hx,hy,hz']
 rw [e]
 have e1:Array.range 3= #[0,1,2]:=rfl
 simp [Instr.fill,Value.cells,e1]
theorem eS (hL:Loc w0 w M) {t:TypeId} {x y:Operand} (ho:o.op= .store t x y) {b:Nat} (hx:a.eval x= .pointer (some ⟨b,0,none⟩)) {r:Array Value} (hy:a.eval y= .agg r) {n:Nat} [hr:Row1 r n] [ht:RowTy t n]
 {old:Array Value} [hm:At M b old t] [hs:Row1 old n] [hu:Ups M b r M'] (h:∀ w',Loc w0 w' M'→K (a.put o.dst undef) w'):o.wp Tryz.prog a w K Q:=by
 have hrun:(storeVar t ⟨b,0,none⟩ (.agg r)).run Tryz.prog w= .ok () (w.setRow b r) :=
  run_storeVar_row w b t t old r (hL.get hm.mem) (by rw [ht.size,hr.size]) (by rw [hs.size,hr.size]) hr.one
 unfold Oper.wp execOp
 simp only [ho,hx,hy,Instr.storeAt,Instr.sureAddr,Sem.run_bind,Sem.run_pure,Result.andThen_ok,hrun]
 exact h _ (hL.setRow hu.upd)
theorem eV (hL:Loc w0 w M) {x:Operand} (ho:o.op= .assign x) (h:∀ w',Loc w0 w' M→K (a.put o.dst (a.eval x)) w'):o.wp Tryz.prog a w K Q:=by
 unfold Oper.wp execOp
 simp only [ho,Sem.run_pure]
 exact h w hL
theorem eCopy (hL:Loc w0 w M) {d s:Operand} {t e:TypeId} (ho:o.op= .call { callee:= .builtin .copy,args:= #[d,s],argTypes:= #[t,t] }) [he:Elt t e]
 {g off n c:Nat} (hd:a.eval d= .slice (some ⟨g,off,none⟩) n c) {cur:Array Value} {u:TypeId} [hm:At M g cur u] {p:Option Addr} {k cc:Nat} (hs:a.eval s= .slice p k cc) {ys:List Value} [hy:See w0 M (.slice p k cc) ys] (hn:ys.length≤n) (h0:0<ys.length)
 {cur':Array Value} [hp:Spl cur off ys cur'] [hu:Ups M g cur' M']
 (h:∀ w',Loc w0 w' M'→K (a.put o.dst (.int .i64 ys.length)) w'):o.wp Tryz.prog a w K Q:=by
 obtain ⟨h1,ad,cc',e1,hnn,hpp⟩:=hy.see w hL
 obtain ⟨b,o2,rfl,hb,hcell⟩:=hpp h0
 obtain ⟨i,z,hi,hz,hs1,hbb,hzs⟩:=he.info
 cases e1
 have hrun:=run_copy_row (P:=Tryz.prog) w t t o.type e g off n c ⟨b,o2,none⟩ ys.length cc cur u ys he.und (by rw [hi];simp [hs1]) (hL.get hm.mem) (Nat.min_eq_left hn).symm (fun j v hj=>by
  have hjl:j<ys.length:=by
   rcases Nat.lt_or_ge j ys.length with h | h
   ·exact h
   ·rw [List.getElem?_eq_none h] at hj;cases hj
  rw [Addr.add_mid,hcell j hjl,← hj,List.getElem?_eq_getElem hjl]) hp.fit h1
 rw [show (cur.toList.take off ++ ys ++ cur.toList.drop (off+ys.length)).toArray=cur' from by rw [List.append_assoc];exact hp.spl] at hrun
 unfold Oper.wp
 simp only [execOp,ho,resolve,invoke,builtin,hd,hs,hrun,Result.andThen_ok,Sem.run_bind,Sem.run_pure,List.map_toArray,List.map_cons,List.map_nil]
 exact h _ (hL.setRow hu.upd)
theorem eAppBN (hL:Loc w0 w M) {s x:Operand} (ho:o.op= .call { callee:= .builtin .append,args:= #[s,x],argTypes:= #[29,29] })
 (hs:a.eval s= .slice none 0 0) {p:Option Addr} {k cc:Nat} (hx:a.eval x= .slice p k cc) {ys:List (BitVec 8)} [hy:See w0 M (.slice p k cc) (encB ys)] (h0:0<k) (hsz:k≤100000000000)
 (h:∀ g' cap' cur' w',OwnR cur' k cap' (encB ys)→Loc w0 w' ((g',cur',5) :: M)→K (a.put o.dst (.slice (some ⟨g',0,none⟩) k cap')) w'):o.wp Tryz.prog a w K Q:=by
 obtain rfl:=hy.len hL
 obtain ⟨g',cap',cur',w',hrun,h1,h2,h3,h4⟩:=run_append_new (t:=29) (ty:=o.type) (hy.see w hL) h0 hsz
 unfold Oper.wp execOp
 simp only [ho,resolve,invoke,builtin,Sem.run_bind,Sem.run_pure,Result.andThen_ok,List.map_toArray,List.map_cons,List.map_nil,hs,hx,hrun]
 exact h g' cap' cur' w' h1 (hL.fresh h2 h4 h3)
theorem eAppB (hL:Loc w0 w M) {s x:Operand} (ho:o.op= .call { callee:= .builtin .append,args:= #[s,x],argTypes:= #[29,29] })
 {g n cap:Nat} (hs:a.eval s= .slice (some ⟨g,0,none⟩) n cap) {cur:Array Value} [hm:At M g cur 5] {xs:List (BitVec 8)} [hr:OwnR cur n cap (encB xs)] {F:Nat→Array Value→Mem} [hf:Reps M g F]
 {p:Option Addr} {k cc:Nat} (hx:a.eval x= .slice p k cc) {ys:List (BitVec 8)} [hy:See w0 M (.slice p k cc) (encB ys)] (hsz:n+k≤100000000000)
 (h:∀ g' cap' cur' w',OwnR cur' (n+k) cap' (encB (xs ++ ys))→Loc w0 w' (F g' cur')→K (a.put o.dst (.slice (some ⟨g',0,none⟩) (n+k:Nat) cap')) w'):o.wp Tryz.prog a w K Q:=by
 obtain rfl:=hy.len hL
 obtain ⟨g',cap',cur',w',hrun,h1,h2,h3,h4⟩:=run_append_two (t:=29) (ty:=o.type) hr (hL.get hm.mem) (hy.see w hL) hsz
 rw [← encB_append] at h1
 unfold Oper.wp execOp
 simp only [ho,resolve,invoke,builtin,Sem.run_bind,Sem.run_pure,Result.andThen_ok,List.map_toArray,List.map_cons,List.map_nil,hs,hx,hrun]
 exact h g' cap' cur' w' h1 (hL.reps hm.mem hf h2 h3 h4)
theorem eC0 (hL:Loc w0 w M) {f:FuncId} {ts:Array TypeId} (ho:o.op= .call { callee:= .value (.func f),args:= #[],argTypes:=ts }) [he:Ent f] {v:Value} [hf:FnC f #[] v] (h:∀ w',Loc w0 w' M→K (a.put o.dst v) w'):o.wp Tryz.prog a w K Q:=eC (args:= #[]) hL ho (by simp) h
theorem eC1 (hL:Loc w0 w M) {f:FuncId} {x:Operand} {ts:Array TypeId} (ho:o.op= .call { callee:= .value (.func f),args:= #[x],argTypes:=ts }) {r:Array Value} (hx:a.eval x= .agg r) [he:Ent f] {v:Value} [hf:FnC f #[.agg r] v] (h:∀ w',Loc w0 w' M→K (a.put o.dst v) w'):o.wp Tryz.prog a w K Q:=eC (args:= #[.agg r]) hL ho (by simp [hx]) h
theorem eC2 (hL:Loc w0 w M) {f:FuncId} {x y:Operand} {ts:Array TypeId} (ho:o.op= .call { callee:= .value (.func f),args:= #[x,y],argTypes:=ts }) {r s:Array Value} (hx:a.eval x= .agg r) (hy:a.eval y= .agg s) [he:Ent f] {v:Value} [hf:FnC f #[.agg r,.agg s] v] (h:∀ w',Loc w0 w' M→K (a.put o.dst v) w'):o.wp Tryz.prog a w K Q:=eC (args:= #[.agg r,.agg s]) hL ho (by simp [hx,hy]) h
theorem eG0 (hL:Loc w0 w M) {f:FuncId} {ts:Array TypeId} (ho:o.op= .call { callee:= .value (.func f),args:= #[],argTypes:=ts }) [he:Ent f] [hG:Glob w0] {v:Value} [hf:FnG f #[] v] (h:∀ w',Loc w0 w' M→K (a.put o.dst v) w'):o.wp Tryz.prog a w K Q:=eG (args:= #[]) hL ho (by simp) h
theorem eG1 (hL:Loc w0 w M) {f:FuncId} {x:Operand} {ts:Array TypeId} (ho:o.op= .call { callee:= .value (.func f),args:= #[x],argTypes:=ts }) {r:Array Value} (hx:a.eval x= .agg r) [he:Ent f] [hG:Glob w0] {v:Value} [hf:FnG f #[.agg r] v] (h:∀ w',Loc w0 w' M→K (a.put o.dst v) w'):o.wp Tryz.prog a w K Q:=eG (args:= #[.agg r]) hL ho (by simp [hx]) h
theorem eG2 (hL:Loc w0 w M) {f:FuncId} {x y:Operand} {ts:Array TypeId} (ho:o.op= .call { callee:= .value (.func f),args:= #[x,y],argTypes:=ts }) {r s:Array Value} (hx:a.eval x= .agg r) (hy:a.eval y= .agg s) [he:Ent f] [hG:Glob w0] {v:Value} [hf:FnG f #[.agg r,.agg s] v] (h:∀ w',Loc w0 w' M→K (a.put o.dst v) w'):o.wp Tryz.prog a w K Q:=eG (args:= #[.agg r,.agg s]) hL ho (by simp [hx,hy]) h
end
theorem share {R G:Prop} (h1:R→G) (h2:R):G:=h1 h2
class Rem (M:Mem) (b:Nat) (M':outParam Mem):Prop where
 sub:M'.Sublist M
instance iMix1 (M:Mem) (b:Nat) (r:Array Value) (t:TypeId):Rem ((b,r,t) :: M) b M:=⟨List.sublist_cons_self _ _⟩
instance iMix2 (e:Nat×Array Value×TypeId) (M M':Mem) (b:Nat) [h:Rem M b M']:Rem (e :: M) b (e :: M'):=⟨h.sub.cons_cons e⟩
theorem Loc.rem (b:Nat) {w0 w:World} {M M':Mem} (h:Loc w0 w M) [hr:Rem M b M']:Loc w0 w M' :=
 ⟨h.bel,fun b r t hm=>h.ok b r t (hr.sub.subset hm),h.nd.sublist (hr.sub.map _)⟩
end Go.Proofs.YtoifhhljfaoejaaGreatDoor
namespace Go.Proofs.YtoifhhljfaoejaaGreatDoor
open Go Go.RowKit
set_option linter.unusedVariables false
set_option linter.unusedSimpArgs false
instance iSgW1:ScTy 29:=⟨fun w=>by kernel_rfl,by kernel_rfl⟩
theorem info_sl':(Tryz.prog.info? 29).map (fun i=>(i.zero,i.size,i.bytes))=some (some (.slice none 0 0),1,24):=by kernel_rfl
instance eltS:Elt 30 29:=elt_of Tryz.underlying30 info_sl' (by omega) rfl
theorem flat_take_le' {α:Type}:∀ (l:List (List α)) (k:Nat) (h:k<l.length),(l.take k).flatten.length+l[k].length≤l.flatten.length
 | [],k,h=>absurd h (by simp)
 | x :: l,0,_=>by simp
 | x :: l,k+1,h=>by
  have:=flat_take_le' l k (by simpa using h)
  simp only [List.take_succ_cons,List.flatten_cons,List.length_append,List.getElem_cons_succ]
  omega
theorem take_flat {l:List (List (BitVec 8))} {k:Nat} (h:k<l.length):(l.take (k+1)).flatten=(l.take k).flatten ++ l[k]:=by
 rw [List.take_succ_eq_append_getElem h,List.flatten_append,List.flatten_cons,List.flatten_nil,List.append_nil]
set_option maxRecDepth 100000 in
set_option maxHeartbeats 1000000 in
theorem joinL_any (v:Value) (l:List (List (BitVec 8))) (w:World) (hv:BRows w v l) (hpos:∃ x r,l=x :: r∧0<x.length) (hl:l.length≤1000000) (hm:l.flatten.length≤1000000000) :
 Calls Tryz.prog 185 #[v] w fun e w'=>Fresh w l.flatten e w':=by
 have hL:=Loc.nil w
 obtain ⟨a,c,rfl,_,hv⟩:=hv
 have HV:=Lib.hid hv
 have HPOS:=Lib.hid hpos
 clear hv
 go_enter Tryz.func185,Tryz.ntmps185
 go_wp2_with (first | (refine aL4S2C9p ?_;clear hL;intro w1 hL) | (refine aX1A1p ?_;clear hL;intro b w1 hL))
 go_loopw [3,4] (fun v kk wr=>∃ k:Nat,k≤l.length∧kk= .int .i64 k∧((k=0∧v= .slice none 0 0∧Loc w wr [])∨(0<k∧∃ (g cap:Nat) (cur:Array Value),v= .slice (some ⟨g,0,none⟩) (l.take k).flatten.length cap∧OwnR cur (l.take k).flatten.length cap (encB (l.take k).flatten)∧Loc w wr [(g,cur,5)]))) (fun _ kk _=>l.length - (intOf kk).toNat)
 case atStart=>exact ⟨0,by omega,rfl,.inl ⟨rfl,rfl,hL⟩⟩
 case round =>
  clear hL
  obtain ⟨k,hk,rfl,hcase⟩:=hrel
  by_cases hlt:k<l.length
  ·obtain ⟨b,off,ha,hbl,hcells⟩:=HV.out (by omega)
   obtain ⟨vi,hvi,hbr⟩:=hcells k hlt
   have hk0:(0:Int)≤(k:Int):=by omega
   have hk1:(k:Int)<(l.length:Int):=by omega
   rw [ha]
   haveI g1:Was w b (off+k) vi:=⟨hvi,hbl⟩
   haveI g2:Arg w vi (encB l[k]):=⟨hbr.vrow⟩
   have HT:=Lib.hid (take_flat hlt)
   have hln:=flat_take_le' l k hlt
   have hz:k=0→0<l[k].length:=fun e=>by
    subst e
    obtain ⟨x,r,rfl,h⟩:=HPOS.out
    exact h
   obtain ⟨a2,c2,e2,hn2,hp2⟩:=hbr
   subst e2
   clear hcells hvi hn2 hp2
   generalize l[k]=m at *
   rcases hcase with ⟨rfl,rfl,hL⟩ | ⟨hkp,g,cap,cur,rfl,hr,hL⟩
   ·have hmp:=hz rfl
    have HE:=Lib.hid (show (l.take (0+1)).flatten=m from HT.out)
    go_wp2_with (first | ((with_reducible refine gC 16 ?_);(refine lAppBN hL rfl rfl rfl rfl hmp (by first | omega | (simp;omega) | simp) fun g16 cap16 cur16 w1 hr16 hL1=>?_);clear hL;have hL:=hL1;clear hL1;refine p4 ?_) | (refine aL4S2C9p ?_;clear hL;intro w1 hL) | (refine aX1A1p ?_;clear hL;intro b w1 hL))
    go_roundw
    case rel=>exact ⟨0+1,by omega,by go_num,.inr ⟨by omega,g16,cap16,cur16,by rw [HE.out],by rw [HE.out];exact hr16,hL⟩⟩
    case measure=>simp [intOf];omega
   ·clear hz
    generalize hpre:(l.take k).flatten=pre at *
    clear hpre
    go_wp2_with (first | ((with_reducible refine gC 16 ?_);(refine lAppB hL rfl rfl rfl rfl (by first | omega | (simp;omega) | simp) fun g16 cap16 cur16 w1 hr16 hL1=>?_);(try dsimp only at hL1);clear hL;have hL:=hL1;clear hL1;refine p4 ?_) | (refine aL4S2C9p ?_;clear hL;intro w1 hL) | (refine aX1A1p ?_;clear hL;intro b w1 hL))
    go_roundw
    case rel=>exact ⟨k+1,by omega,by go_num,.inr ⟨by omega,g16,cap16,cur16,by rw [HT.out,List.length_append],by rw [HT.out,List.length_append];exact hr16,hL⟩⟩
    case measure=>simp [intOf];omega
  ·obtain rfl:k=l.length:=by omega
   rcases hcase with ⟨h,_,_⟩ | ⟨hkp,g,cap,cur,rfl,hr,hL⟩
   ·obtain ⟨x,r,rfl,_⟩:=HPOS.out;cases h
   ·rw [List.take_length] at hr ⊢
    clear HPOS HV
    go_wp2_with (first | (refine aL4S2C9p ?_;clear hL;intro w1 hL) | (refine aX1A1p ?_;clear hL;intro b w1 hL))
    go_ret
    exact hL.back rfl
instance r64' (f:Nat→BitVec 8):Row1 (rowB 64 f) 64:=⟨row_size _ _,by simp [rowB,row,Value.oneCell']⟩
set_option maxRecDepth 100000 in
set_option maxHeartbeats 1000000 in
theorem wide_any (v:Value) (l:List (List (BitVec 8))) (w:World) [hG:Glob w] (hv:BRows w v l) (hpos:∃ x r,l=x :: r∧0<x.length) (hl:l.length≤1000000) (hm:l.flatten.length≤1000000000) :
 Calls Tryz.prog 124 #[v] w fun e w'=>e= .returned (.agg (rowB 32 (byteN (wideN l.flatten))))∧Below w.heap.size w w':=by
 have hL:=Loc.nil w
 have HV:=Lib.hid hv
 have HJ:=Lib.hid (fun w1 (hb:Below w.heap.size w w1)=>joinL_any v l w1 (hv.below hb) hpos hl hm)
 have h0:0<l.flatten.length:=by
  obtain ⟨x,r,rfl,h⟩:=hpos
  rw [List.flatten_cons,List.length_append];omega
 clear hpos hl
 generalize l.flatten=m at *
 go_enter Tryz.func124,Tryz.ntmps124
 go_wp2_with (first | ((with_reducible refine gS 2 ?_);refine aBp ?_;clear hL;intro b2 w1 hL) | (go_at_call 185;go_loud (refine (HJ.out _ hL.bel).mono ?_);rintro e w1 ⟨g5,cap5,cur5,rfl,hr5,hg5,hc5,hb5⟩;have hL1:=hL.fresh hb5 hg5 hc5;clear hb5 hg5 hc5;clear hL;have hL:=hL1;clear hL1;refine p4 ?_) | (go_at_call 126;go_loud (refine ((haveI:=hL.glob hG;Shb.refShb_any _ m _ (See.bytes hL) h0 hm)).mono ?_);rintro e w1 ⟨rfl,hb1⟩;have hL1:=hL.keep hb1;clear hb1;clear hL;have hL:=hL1;clear hL1;refine p4 ?_) | (go_at_call 186;go_loud (refine ((haveI:=hL.glob hG;R3.refRed_any (Shb.sha m) 64 64 _ _ (by omega) (by omega) fun i hi=>R3.was_loc hL (List.Mem.head _) (row_get _ hi))).mono ?_);rintro e w1 ⟨rfl,hb1⟩;have hL1:=hL.keep hb1;clear hb1;clear hL;have hL:=hL1;clear hL1;refine p4 ?_) | (refine aL4S2C9p ?_;clear hL;intro w1 hL) | (refine aX1A1p ?_;clear hL;intro b w1 hL))
 exact bodyPost_ret (results_loc rfl hL rfl) rfl ⟨rfl,hL.bel⟩
instance iSgW3:Ent 124:=Ent.of Tryz.func124 (by kernel_rfl) rfl
end Go.Proofs.YtoifhhljfaoejaaGreatDoor
namespace Go.Proofs.YtoifhhljfaoejaaGreatDoor
open Go.RowKit
theorem rot_val (x:BitVec 32) (n m:Nat) (h:m=32 - n):bits .or .u32 (U x*((2 ^ n:Nat):Int) % 4294967296) (U x / ((2 ^ m:Nat):Int))=U (rotl x n):=by
 subst h;rw [U_shl,U_shr,U_or];rfl
theorem ror_val (x:BitVec 32) (n m:Nat) (h:m=32 - n):bits .or .u32 (U x / ((2 ^ m:Nat):Int)) (U x*((2 ^ n:Nat):Int) % 4294967296)=U (rotl x n):=by
 subst h;rw [U_shl,U_shr,U_or,BitVec.or_comm];rfl
theorem rot7 (x:BitVec 32) (w:World):Calls Tryz.prog 314 #[.int .u32 (U x),.int .i64 (-7)] w fun e w'=>e= .returned (.int .u32 (U (rotl x 25)))∧w=w':=by
 have hm:bits BinOp.and IntKind.u64 (IntKind.u64.wrap (-7)) 31=25:=by decide
 have hb:=U_bd x
 obtain ⟨h0,h1⟩:=hb
 have hv:=rot_val x 25 7 rfl
 have HV:=Lib.hid hv
 clear hv
 go_enter Tryz.func314,Tryz.ntmps314
 go_wp2
 go_ret
 exact ⟨congrArg (fun z=>Ending.returned (.int .u32 z)) HV.out,rfl⟩
theorem ror7 (x:BitVec 32) (w:World):Calls Tryz.prog 72 #[.int .u32 (U x),.int .u64 7] w fun e w'=>e= .returned (.int .u32 (U (rotl x 25)))∧w=w':=by
 have hb:=U_bd x
 obtain ⟨h0,h1⟩:=hb
 have hv:=ror_val x 25 7 rfl
 have HV:=Lib.hid hv
 clear hv
 go_enter Tryz.func72,Tryz.ntmps72
 go_wp2
 go_ret
 exact ⟨congrArg (fun z=>Ending.returned (.int .u32 z)) HV.out,rfl⟩
theorem rot18 (x:BitVec 32) (w:World):Calls Tryz.prog 314 #[.int .u32 (U x),.int .i64 (-18)] w fun e w'=>e= .returned (.int .u32 (U (rotl x 14)))∧w=w':=by
 have hm:bits BinOp.and IntKind.u64 (IntKind.u64.wrap (-18)) 31=14:=by decide
 have hb:=U_bd x
 obtain ⟨h0,h1⟩:=hb
 have hv:=rot_val x 14 18 rfl
 have HV:=Lib.hid hv
 clear hv
 go_enter Tryz.func314,Tryz.ntmps314
 go_wp2
 go_ret
 exact ⟨congrArg (fun z=>Ending.returned (.int .u32 z)) HV.out,rfl⟩
theorem ror18 (x:BitVec 32) (w:World):Calls Tryz.prog 72 #[.int .u32 (U x),.int .u64 18] w fun e w'=>e= .returned (.int .u32 (U (rotl x 14)))∧w=w':=by
 have hb:=U_bd x
 obtain ⟨h0,h1⟩:=hb
 have hv:=ror_val x 14 18 rfl
 have HV:=Lib.hid hv
 clear hv
 go_enter Tryz.func72,Tryz.ntmps72
 go_wp2
 go_ret
 exact ⟨congrArg (fun z=>Ending.returned (.int .u32 z)) HV.out,rfl⟩
theorem rot17 (x:BitVec 32) (w:World):Calls Tryz.prog 314 #[.int .u32 (U x),.int .i64 (-17)] w fun e w'=>e= .returned (.int .u32 (U (rotl x 15)))∧w=w':=by
 have hm:bits BinOp.and IntKind.u64 (IntKind.u64.wrap (-17)) 31=15:=by decide
 have hb:=U_bd x
 obtain ⟨h0,h1⟩:=hb
 have hv:=rot_val x 15 17 rfl
 have HV:=Lib.hid hv
 clear hv
 go_enter Tryz.func314,Tryz.ntmps314
 go_wp2
 go_ret
 exact ⟨congrArg (fun z=>Ending.returned (.int .u32 z)) HV.out,rfl⟩
theorem ror17 (x:BitVec 32) (w:World):Calls Tryz.prog 72 #[.int .u32 (U x),.int .u64 17] w fun e w'=>e= .returned (.int .u32 (U (rotl x 15)))∧w=w':=by
 have hb:=U_bd x
 obtain ⟨h0,h1⟩:=hb
 have hv:=ror_val x 15 17 rfl
 have HV:=Lib.hid hv
 clear hv
 go_enter Tryz.func72,Tryz.ntmps72
 go_wp2
 go_ret
 exact ⟨congrArg (fun z=>Ending.returned (.int .u32 z)) HV.out,rfl⟩
theorem rot19 (x:BitVec 32) (w:World):Calls Tryz.prog 314 #[.int .u32 (U x),.int .i64 (-19)] w fun e w'=>e= .returned (.int .u32 (U (rotl x 13)))∧w=w':=by
 have hm:bits BinOp.and IntKind.u64 (IntKind.u64.wrap (-19)) 31=13:=by decide
 have hb:=U_bd x
 obtain ⟨h0,h1⟩:=hb
 have hv:=rot_val x 13 19 rfl
 have HV:=Lib.hid hv
 clear hv
 go_enter Tryz.func314,Tryz.ntmps314
 go_wp2
 go_ret
 exact ⟨congrArg (fun z=>Ending.returned (.int .u32 z)) HV.out,rfl⟩
theorem ror19 (x:BitVec 32) (w:World):Calls Tryz.prog 72 #[.int .u32 (U x),.int .u64 19] w fun e w'=>e= .returned (.int .u32 (U (rotl x 13)))∧w=w':=by
 have hb:=U_bd x
 obtain ⟨h0,h1⟩:=hb
 have hv:=ror_val x 13 19 rfl
 have HV:=Lib.hid hv
 clear hv
 go_enter Tryz.func72,Tryz.ntmps72
 go_wp2
 go_ret
 exact ⟨congrArg (fun z=>Ending.returned (.int .u32 z)) HV.out,rfl⟩
theorem rot6 (x:BitVec 32) (w:World):Calls Tryz.prog 314 #[.int .u32 (U x),.int .i64 (-6)] w fun e w'=>e= .returned (.int .u32 (U (rotl x 26)))∧w=w':=by
 have hm:bits BinOp.and IntKind.u64 (IntKind.u64.wrap (-6)) 31=26:=by decide
 have hb:=U_bd x
 obtain ⟨h0,h1⟩:=hb
 have hv:=rot_val x 26 6 rfl
 have HV:=Lib.hid hv
 clear hv
 go_enter Tryz.func314,Tryz.ntmps314
 go_wp2
 go_ret
 exact ⟨congrArg (fun z=>Ending.returned (.int .u32 z)) HV.out,rfl⟩
theorem ror6 (x:BitVec 32) (w:World):Calls Tryz.prog 72 #[.int .u32 (U x),.int .u64 6] w fun e w'=>e= .returned (.int .u32 (U (rotl x 26)))∧w=w':=by
 have hb:=U_bd x
 obtain ⟨h0,h1⟩:=hb
 have hv:=ror_val x 26 6 rfl
 have HV:=Lib.hid hv
 clear hv
 go_enter Tryz.func72,Tryz.ntmps72
 go_wp2
 go_ret
 exact ⟨congrArg (fun z=>Ending.returned (.int .u32 z)) HV.out,rfl⟩
theorem rot11 (x:BitVec 32) (w:World):Calls Tryz.prog 314 #[.int .u32 (U x),.int .i64 (-11)] w fun e w'=>e= .returned (.int .u32 (U (rotl x 21)))∧w=w':=by
 have hm:bits BinOp.and IntKind.u64 (IntKind.u64.wrap (-11)) 31=21:=by decide
 have hb:=U_bd x
 obtain ⟨h0,h1⟩:=hb
 have hv:=rot_val x 21 11 rfl
 have HV:=Lib.hid hv
 clear hv
 go_enter Tryz.func314,Tryz.ntmps314
 go_wp2
 go_ret
 exact ⟨congrArg (fun z=>Ending.returned (.int .u32 z)) HV.out,rfl⟩
theorem ror11 (x:BitVec 32) (w:World):Calls Tryz.prog 72 #[.int .u32 (U x),.int .u64 11] w fun e w'=>e= .returned (.int .u32 (U (rotl x 21)))∧w=w':=by
 have hb:=U_bd x
 obtain ⟨h0,h1⟩:=hb
 have hv:=ror_val x 21 11 rfl
 have HV:=Lib.hid hv
 clear hv
 go_enter Tryz.func72,Tryz.ntmps72
 go_wp2
 go_ret
 exact ⟨congrArg (fun z=>Ending.returned (.int .u32 z)) HV.out,rfl⟩
theorem rot25 (x:BitVec 32) (w:World):Calls Tryz.prog 314 #[.int .u32 (U x),.int .i64 (-25)] w fun e w'=>e= .returned (.int .u32 (U (rotl x 7)))∧w=w':=by
 have hm:bits BinOp.and IntKind.u64 (IntKind.u64.wrap (-25)) 31=7:=by decide
 have hb:=U_bd x
 obtain ⟨h0,h1⟩:=hb
 have hv:=rot_val x 7 25 rfl
 have HV:=Lib.hid hv
 clear hv
 go_enter Tryz.func314,Tryz.ntmps314
 go_wp2
 go_ret
 exact ⟨congrArg (fun z=>Ending.returned (.int .u32 z)) HV.out,rfl⟩
theorem ror25 (x:BitVec 32) (w:World):Calls Tryz.prog 72 #[.int .u32 (U x),.int .u64 25] w fun e w'=>e= .returned (.int .u32 (U (rotl x 7)))∧w=w':=by
 have hb:=U_bd x
 obtain ⟨h0,h1⟩:=hb
 have hv:=ror_val x 7 25 rfl
 have HV:=Lib.hid hv
 clear hv
 go_enter Tryz.func72,Tryz.ntmps72
 go_wp2
 go_ret
 exact ⟨congrArg (fun z=>Ending.returned (.int .u32 z)) HV.out,rfl⟩
theorem rot2 (x:BitVec 32) (w:World):Calls Tryz.prog 314 #[.int .u32 (U x),.int .i64 (-2)] w fun e w'=>e= .returned (.int .u32 (U (rotl x 30)))∧w=w':=by
 have hm:bits BinOp.and IntKind.u64 (IntKind.u64.wrap (-2)) 31=30:=by decide
 have hb:=U_bd x
 obtain ⟨h0,h1⟩:=hb
 have hv:=rot_val x 30 2 rfl
 have HV:=Lib.hid hv
 clear hv
 go_enter Tryz.func314,Tryz.ntmps314
 go_wp2
 go_ret
 exact ⟨congrArg (fun z=>Ending.returned (.int .u32 z)) HV.out,rfl⟩
theorem ror2 (x:BitVec 32) (w:World):Calls Tryz.prog 72 #[.int .u32 (U x),.int .u64 2] w fun e w'=>e= .returned (.int .u32 (U (rotl x 30)))∧w=w':=by
 have hb:=U_bd x
 obtain ⟨h0,h1⟩:=hb
 have hv:=ror_val x 30 2 rfl
 have HV:=Lib.hid hv
 clear hv
 go_enter Tryz.func72,Tryz.ntmps72
 go_wp2
 go_ret
 exact ⟨congrArg (fun z=>Ending.returned (.int .u32 z)) HV.out,rfl⟩
theorem rot13 (x:BitVec 32) (w:World):Calls Tryz.prog 314 #[.int .u32 (U x),.int .i64 (-13)] w fun e w'=>e= .returned (.int .u32 (U (rotl x 19)))∧w=w':=by
 have hm:bits BinOp.and IntKind.u64 (IntKind.u64.wrap (-13)) 31=19:=by decide
 have hb:=U_bd x
 obtain ⟨h0,h1⟩:=hb
 have hv:=rot_val x 19 13 rfl
 have HV:=Lib.hid hv
 clear hv
 go_enter Tryz.func314,Tryz.ntmps314
 go_wp2
 go_ret
 exact ⟨congrArg (fun z=>Ending.returned (.int .u32 z)) HV.out,rfl⟩
theorem ror13 (x:BitVec 32) (w:World):Calls Tryz.prog 72 #[.int .u32 (U x),.int .u64 13] w fun e w'=>e= .returned (.int .u32 (U (rotl x 19)))∧w=w':=by
 have hb:=U_bd x
 obtain ⟨h0,h1⟩:=hb
 have hv:=ror_val x 19 13 rfl
 have HV:=Lib.hid hv
 clear hv
 go_enter Tryz.func72,Tryz.ntmps72
 go_wp2
 go_ret
 exact ⟨congrArg (fun z=>Ending.returned (.int .u32 z)) HV.out,rfl⟩
theorem rot22 (x:BitVec 32) (w:World):Calls Tryz.prog 314 #[.int .u32 (U x),.int .i64 (-22)] w fun e w'=>e= .returned (.int .u32 (U (rotl x 10)))∧w=w':=by
 have hm:bits BinOp.and IntKind.u64 (IntKind.u64.wrap (-22)) 31=10:=by decide
 have hb:=U_bd x
 obtain ⟨h0,h1⟩:=hb
 have hv:=rot_val x 10 22 rfl
 have HV:=Lib.hid hv
 clear hv
 go_enter Tryz.func314,Tryz.ntmps314
 go_wp2
 go_ret
 exact ⟨congrArg (fun z=>Ending.returned (.int .u32 z)) HV.out,rfl⟩
theorem ror22 (x:BitVec 32) (w:World):Calls Tryz.prog 72 #[.int .u32 (U x),.int .u64 22] w fun e w'=>e= .returned (.int .u32 (U (rotl x 10)))∧w=w':=by
 have hb:=U_bd x
 obtain ⟨h0,h1⟩:=hb
 have hv:=ror_val x 10 22 rfl
 have HV:=Lib.hid hv
 clear hv
 go_enter Tryz.func72,Tryz.ntmps72
 go_wp2
 go_ret
 exact ⟨congrArg (fun z=>Ending.returned (.int .u32 z)) HV.out,rfl⟩
end Go.Proofs.YtoifhhljfaoejaaGreatDoor
