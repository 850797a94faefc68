/-
  Lemmas of the law, part 13: the walks of the functions that it calls and the plain facts about them. No condition beyond those written.
-/
import Derived.Laws.CopyOwn
import Derived.Test.YtoifhhljfaoejaaGreatDoorPkAL
import Derived.Test.YtoifhhljfaoejaaGreatDoorPkAD
import Derived.WalkKit
import Derived.Lib.Hide
import Derived.WalkSpells
import Derived.WalkLawsBesides
import Derived.Deep.QuietTactic
import Derived.BigQuiet
import Derived.StillTailTactics
import Derived.Great.Ranges
namespace Go.Proofs.YtoifhhljfaoejaaGreatDoor
open Go.RowKit Go.Shelf
set_option linter.unusedVariables false
set_option linter.unusedSectionVars false
theorem cells_one {v:Value} (h:v.oneCell'=true):v.cells= #[v]:=by cases v <;> first | rfl | cases h
instance segByte (x:BitVec 8):Seg #[.int .u8 (B8 x)] 0 1 (encB [x]):=⟨rfl,encB_one' _,fun i hi=>by
 have:i=0:=by simpa [encB] using hi
 subst this
 rfl⟩
section
variable {ops:Array Oper} {rest:List Oper} {o:Oper} {a:Act} {w0 w:World} {M M':Mem} {Q:Exit→Act→World→Prop}
theorem lBS1 (hL:Loc w0 w M) (hg:o.guard=none) {t e:TypeId} {x:Operand} (ho:o.op= .buildSlice t 1 #[(0,x)]) [he:Elt t e] {v:Value} (hx:a.eval x=v) (h1:v.oneCell'=true)
 (h:∀ b w',Loc w0 w' ((b, #[v],e) :: M)→wpList Tryz.prog ops Q rest (a.put o.dst (.slice (some ⟨b,0,none⟩) 1 1)) w'):wpList Tryz.prog ops Q (o :: rest) a w :=
 wpList_plain hg fun K hK=>by
  obtain ⟨i,z,hi,hz,hs1,hb,hzs⟩:=he.info
  refine wp_buildSlice t e 1 #[(0,x)] ho #[v] i z he.und hi hz (by rw [hs1];decide) (by rw [hs1];decide) ?_ (hK _ _ (h _ _ (hL.alloc #[v] e)))
  rw [hs1]
  have e:(Array.map (fun (y:Nat×Operand)=>(y.1,a.eval y.2)) #[(0,x)]).toList=[(0,v)]:=by simp [hx]
  rw [e]
  have e1:Array.range 1= #[0]:=rfl
  simp [Instr.fill,cells_one h1,e1]
theorem lBS1i (hL:Loc w0 w M) (hg:o.guard=none) {t e:TypeId} {x:Operand} (ho:o.op= .buildSlice t 1 #[(0,x)]) [he:Elt t e] {d:IntKind} {n:Int} (hx:a.eval x= .int d n)
 (h:∀ b w',Loc w0 w' ((b, #[.int d n],e) :: M)→wpList Tryz.prog ops Q rest (a.put o.dst (.slice (some ⟨b,0,none⟩) 1 1)) w'):wpList Tryz.prog ops Q (o :: rest) a w:=lBS1 hL hg ho hx rfl h
theorem lBS1s (hL:Loc w0 w M) (hg:o.guard=none) {t e:TypeId} {x:Operand} (ho:o.op= .buildSlice t 1 #[(0,x)]) [he:Elt t e] {p:Option Addr} {n c:Nat} (hx:a.eval x= .slice p n c)
 (h:∀ b w',Loc w0 w' ((b, #[.slice p n c],e) :: M)→wpList Tryz.prog ops Q rest (a.put o.dst (.slice (some ⟨b,0,none⟩) 1 1)) w'):wpList Tryz.prog ops Q (o :: rest) a w:=lBS1 hL hg ho hx rfl h
theorem lBS2 (hL:Loc w0 w M) (hg:o.guard=none) {t e:TypeId} {x y:Operand} (ho:o.op= .buildSlice t 2 #[(0,x),(1,y)]) [he:Elt t e] {v u:Value} (hx:a.eval x=v) (hy:a.eval y=u) (h1:v.oneCell'=true) (h2:u.oneCell'=true)
 (h:∀ b w',Loc w0 w' ((b, #[v,u],e) :: M)→wpList Tryz.prog ops Q rest (a.put o.dst (.slice (some ⟨b,0,none⟩) 2 2)) w'):wpList Tryz.prog ops Q (o :: rest) a w :=
 wpList_plain hg fun K hK=>by
  obtain ⟨i,z,hi,hz,hs1,hb,hzs⟩:=he.info
  refine wp_buildSlice t e 2 #[(0,x),(1,y)] ho #[v,u] i z he.und hi hz (by rw [hs1];decide) (by rw [hs1];decide) ?_ (hK _ _ (h _ _ (hL.alloc #[v,u] e)))
  rw [hs1]
  have e:(Array.map (fun (y:Nat×Operand)=>(y.1,a.eval y.2)) #[(0,x),(1,y)]).toList=[(0,v),(1,u)]:=by simp [hx,hy]
  rw [e]
  have e1:Array.range 2= #[0,1]:=rfl
  simp [Instr.fill,cells_one h1,cells_one h2,e1]
theorem lBS3 (hL:Loc w0 w M) (hg:o.guard=none) {t e:TypeId} {x y z':Operand} (ho:o.op= .buildSlice t 3 #[(0,x),(1,y),(2,z')]) [he:Elt t e] {v u s:Value} (hx:a.eval x=v) (hy:a.eval y=u) (hz':a.eval z'=s) (h1:v.oneCell'=true) (h2:u.oneCell'=true) (h3:s.oneCell'=true)
 (h:∀ b w',Loc w0 w' ((b, #[v,u,s],e) :: M)→wpList Tryz.prog ops Q rest (a.put o.dst (.slice (some ⟨b,0,none⟩) 3 3)) w'):wpList Tryz.prog ops Q (o :: rest) a w :=
 wpList_plain hg fun K hK=>by
  obtain ⟨i,z,hi,hz,hs1,hb,hzs⟩:=he.info
  refine wp_buildSlice t e 3 #[(0,x),(1,y),(2,z')] ho #[v,u,s] i z he.und hi hz (by rw [hs1];decide) (by rw [hs1];decide) ?_ (hK _ _ (h _ _ (hL.alloc #[v,u,s] e)))
  rw [hs1]
  have e:(Array.map (fun (y:Nat×Operand)=>(y.1,a.eval y.2)) #[(0,x),(1,y),(2,z')]).toList=[(0,v),(1,u),(2,s)]:=by simp [hx,hy,hz']
  rw [e]
  have e1:Array.range 3= #[0,1,2]:=rfl
  simp [Instr.fill,cells_one h1,cells_one h2,cells_one h3,e1]
theorem lBS2s (hL:Loc w0 w M) (hg:o.guard=none) {t e:TypeId} {x y:Operand} (ho:o.op= .buildSlice t 2 #[(0,x),(1,y)]) [he:Elt t e] {p q:Option Addr} {n c n' c':Nat} (hx:a.eval x= .slice p n c) (hy:a.eval y= .slice q n' c')
 (h:∀ b w',Loc w0 w' ((b, #[.slice p n c,.slice q n' c'],e) :: M)→wpList Tryz.prog ops Q rest (a.put o.dst (.slice (some ⟨b,0,none⟩) 2 2)) w'):wpList Tryz.prog ops Q (o :: rest) a w:=lBS2 hL hg ho hx hy rfl rfl h
theorem lBS3s (hL:Loc w0 w M) (hg:o.guard=none) {t e:TypeId} {x y z':Operand} (ho:o.op= .buildSlice t 3 #[(0,x),(1,y),(2,z')]) [he:Elt t e] {p q r:Option Addr} {n c n' c' n2 c2:Nat} (hx:a.eval x= .slice p n c) (hy:a.eval y= .slice q n' c') (hz':a.eval z'= .slice r n2 c2)
 (h:∀ b w',Loc w0 w' ((b, #[.slice p n c,.slice q n' c',.slice r n2 c2],e) :: M)→wpList Tryz.prog ops Q rest (a.put o.dst (.slice (some ⟨b,0,none⟩) 3 3)) w'):wpList Tryz.prog ops Q (o :: rest) a w:=lBS3 hL hg ho hx hy hz' rfl rfl rfl h
end
class Spl (cur:Array Value) (off:Nat) (ys:List Value) (cur':outParam (Array Value)):Prop where
 fit:off+ys.length≤cur.size
 spl:(cur.toList.take off ++ (ys ++ cur.toList.drop (off+ys.length))).toArray=cur'
theorem splB {n off m:Nat} (f g h:Nat→BitVec 8) (hm:off+m≤n) (e:∀ i,i<n→(if off≤i∧i<off+m then g (i - off) else f i)=h i):Spl (rowB n f) off (encB (listB m g)) (rowB n h) where
 fit:=by rw [encB_length,listB_length,rowB_size];exact hm
 spl:=by
  rw [encB_length,listB_length]
  apply Array.ext_getElem?
  intro i
  have hlen:(rowB n f).toList.length=n:=by simp [rowB_size]
  rcases Nat.lt_or_ge i n with hi | hi
  ·rw [show (rowB n h)[i]?=some (.int .u8 (B8 (h i))) from row_get _ hi,← e i hi]
   rw [List.getElem?_toArray]
   by_cases h1:i<off
   ·rw [if_neg (by omega),List.getElem?_append_left (by rw [List.length_take,hlen];omega),List.getElem?_take_of_lt h1,Array.getElem?_toList]
    exact row_get _ hi
   ·rw [List.getElem?_append_right (by rw [List.length_take,hlen];omega),List.length_take,hlen,Nat.min_eq_left (by omega)]
    by_cases h2:i<off+m
    ·rw [if_pos ⟨by omega,h2⟩,List.getElem?_append_left (by rw [encB_length,listB_length];omega)]
     simp [encB,listB,show i - off<m by omega]
    ·rw [if_neg (by omega),List.getElem?_append_right (by rw [encB_length,listB_length];omega),encB_length,listB_length,List.getElem?_drop,Array.getElem?_toList]
     rw [show off+m+(i - off - m)=i by omega]
     exact row_get _ hi
  ·rw [show (rowB n h)[i]?=none from Array.getElem?_eq_none (by rw [rowB_size];exact hi)]
   refine Array.getElem?_eq_none ?_
   simp only [List.size_toArray,List.length_append,List.length_take,List.length_drop,hlen,encB_length,listB_length]
   omega
section
variable {ops:Array Oper} {rest:List Oper} {o:Oper} {a:Act} {w0 w:World} {M M':Mem} {Q:Exit→Act→World→Prop}
theorem lCopy (hL:Loc w0 w M) (hg:o.guard=none) {d s:Operand} {t e:TypeId} (ho:o.op= .call { callee:= .builtin .copy,args:= #[d,s],argTypes:= #[t,t] }) [he:Elt t e]
 {g off n c:Nat} (hd:a.eval d= .slice (some ⟨g,off,none⟩) n c) {cur:Array Value} {u:TypeId} [hm:At M g cur u] {p:Option Addr} {k cc:Nat} (hs:a.eval s= .slice p k cc) {ys:List Value} [hy:See w0 M (.slice p k cc) ys] (hn:ys.length≤n) (h0:0<ys.length)
 {cur':Array Value} [hp:Spl cur off ys cur'] [hu:Ups M g cur' M']
 (h:∀ w',Loc w0 w' M'→wpList Tryz.prog ops Q rest (a.put o.dst (.int .i64 ys.length)) w'):wpList Tryz.prog ops Q (o :: rest) a w:=by
 obtain ⟨h1,ad,cc',e1,hnn,hpp⟩:=hy.see w hL
 obtain ⟨b,o2,rfl,hb,hcell⟩:=hpp h0
 obtain ⟨i,z,hi,hz,hs1,hbb,hzs⟩:=he.info
 cases e1
 refine wpList_copy_own hg d s t t ho e he.und (by rw [hi];simp [hs1]) g off n c ⟨b,o2,none⟩ ys.length cc hd hs cur u (hL.get hm.mem) ys (Nat.min_eq_left hn).symm (fun j v hj=>?_) hp.fit h1 ?_
 ·have hjl:j<ys.length:=by
   rcases Nat.lt_or_ge j ys.length with h | h
   ·exact h
   ·rw [List.getElem?_eq_none h] at hj;cases hj
  rw [Addr.add_mid,hcell j hjl,← hj,List.getElem?_eq_getElem hjl]
 ·rw [hp.spl]
  exact h _ (hL.setRow hu.upd)
end
def Fresh (w:World) (l:List (BitVec 8)) (e:Ending) (w':World):Prop :=
 ∃ g cap cur,e= .returned (.slice (some ⟨g,0,none⟩) l.length cap)∧OwnR cur l.length cap (encB l)∧w.heap.size≤g∧w'.heap[g]?=some (.cells cur 5 (0,0))∧Below w.heap.size w w'
theorem Loc.back {w w':World} {M:Mem} {g cap:Nat} {cur:Array Value} {l:List (BitVec 8)} {v:Value} (hL:Loc w w' M) [hm:At M g cur 5] (hv:v= .slice (some ⟨g,0,none⟩) l.length cap) [hr:OwnR cur l.length cap (encB l)]:Fresh w l (.returned v) w' :=
 ⟨g,cap,cur,by rw [hv],hr,hL.ge hm.mem,hL.get hm.mem,hL.bel⟩
end Go.Proofs.YtoifhhljfaoejaaGreatDoor
namespace Go.Proofs.YtoifhhljfaoejaaGreatDoor.Shb
open Go.Proofs.YtoifhhljfaoejaaGreatDoor
def rotl (x:BitVec 64) (n:Nat):BitVec 64:=x <<< n ||| x >>> (64 - n)
def wide (x:BitVec 8):BitVec 64:=x.setWidth 64
def sig0 (x:BitVec 64):BitVec 64:=rotl x 63 ^^^ rotl x 56 ^^^ x >>> 7
def sig1 (x:BitVec 64):BitVec 64:=rotl x 45 ^^^ rotl x 3 ^^^ x >>> 6
def Sig1 (x:BitVec 64):BitVec 64:=rotl x 50 ^^^ rotl x 46 ^^^ rotl x 23
def Sig0 (x:BitVec 64):BitVec 64:=rotl x 36 ^^^ rotl x 30 ^^^ rotl x 25
open Go.RowKit
theorem Q_xor (a b:BitVec 64):bits .xor .u64 (Q a) (Q b)=Q (a ^^^ b):=by
 unfold Q;rw [bits_xor_u64_nat _ _ a.isLt b.isLt,BitVec.toNat_xor]
theorem Q_and (a b:BitVec 64):bits .and .u64 (Q a) (Q b)=Q (a &&& b):=by
 unfold Q;rw [bits_and_u64_nat _ _ a.isLt b.isLt,BitVec.toNat_and]
theorem Q_or (a b:BitVec 64):bits .or .u64 (Q a) (Q b)=Q (a ||| b):=by
 unfold Q;rw [bits_or_u64_nat _ _ a.isLt b.isLt,BitVec.toNat_or]
theorem Q_not (a:BitVec 64):bits .xor .u64 (if IntKind.u64.signed=true then -1 else IntKind.u64.max) (Q a)=Q (~~~a):=by
 have e:(if IntKind.u64.signed=true then (-1:Int) else IntKind.u64.max)=Q (BitVec.allOnes 64):=by decide
 rw [e,Q_xor,BitVec.allOnes_xor]
theorem Q_shr (a:BitVec 64) (n:Nat):Q a / ((2 ^ n:Nat):Int)=Q (a >>> n):=by
 unfold Q;rw [BitVec.toNat_ushiftRight,Nat.shiftRight_eq_div_pow];norm_cast
theorem Q_shl (a:BitVec 64) (n:Nat):Q a*((2 ^ n:Nat):Int) % 18446744073709551616=Q (a <<< n):=by
 unfold Q;rw [BitVec.toNat_shiftLeft,Nat.shiftLeft_eq,Int.natCast_emod,Int.natCast_mul];rfl
theorem B8_wideQ (y:BitVec 8):B8 y=Q (y.setWidth 64):=by
 unfold B8 Q;rw [BitVec.toNat_setWidth];have:=y.isLt;omega
theorem Q_shr7 (x:BitVec 64):Q x / (128:Int)=Q (x >>> 7):=Q_shr x 7
theorem Q_shr6 (x:BitVec 64):Q x / (64:Int)=Q (x >>> 6):=Q_shr x 6
theorem Q_shl8 (x:BitVec 64):Q x*(256:Int) % (18446744073709551616:Int)=Q (x <<< 8):=Q_shl x 8
theorem rot_val (x:BitVec 64) (n m:Nat) (h:m=64 - n):bits .or .u64 (Q x*((2 ^ n:Nat):Int) % 18446744073709551616) (Q x / ((2 ^ m:Nat):Int))=Q (rotl x n):=by
 subst h;rw [Q_shl,Q_shr,Q_or];rfl
theorem ror_val (x:BitVec 64) (n m:Nat) (h:m=64 - n):bits .or .u64 (Q x / ((2 ^ m:Nat):Int)) (Q x*((2 ^ n:Nat):Int) % 18446744073709551616)=Q (rotl x n):=by
 subst h;rw [Q_shl,Q_shr,Q_or,BitVec.or_comm];rfl
theorem sig0_val (x:BitVec 64):bits .xor .u64 (bits .xor .u64 (Q (rotl x 63)) (Q (rotl x 56))) (Q x / (128:Int))=Q (sig0 x):=by
 rw [Q_shr7,Q_xor,Q_xor];rfl
theorem sig1_val (x:BitVec 64):bits .xor .u64 (bits .xor .u64 (Q (rotl x 45)) (Q (rotl x 3))) (Q x / (64:Int))=Q (sig1 x):=by
 rw [Q_shr6,Q_xor,Q_xor];rfl
def K512 (i:Nat):BitVec 64:=BitVec.ofNat 64 ([4794697086780616226,8158064640168781261,13096744586834688815,16840607885511220156,4131703408338449720,6480981068601479193,10538285296894168987,12329834152419229976,15566598209576043074,1334009975649890238,2608012711638119052,6128411473006802146,8268148722764581231,9286055187155687089,11230858885718282805,13951009754708518548,16472876342353939154,17275323862435702243,1135362057144423861,2597628984639134821,3308224258029322869,5365058923640841347,6679025012923562964,8573033837759648693,10970295158949994411,12119686244451234320,12683024718118986047,13788192230050041572,14330467153632333762,15395433587784984357,489312712824947311,1452737877330783856,2861767655752347644,3322285676063803686,5560940570517711597,5996557281743188959,7280758554555802590,8532644243296465576,9350256976987008742,10552545826968843579,11727347734174303076,12113106623233404929,14000437183269869457,14369950271660146224,15101387698204529176,15463397548674623760,17586052441742319658,1182934255886127544,1847814050463011016,2177327727835720531,2830643537854262169,3796741975233480872,4115178125766777443,5681478168544905931,6601373596472566643,7507060721942968483,8399075790359081724,8693463985226723168,9568029438360202098,10144078919501101548,10430055236837252648,11840083180663258601,13761210420658862357,14299343276471374635,14566680578165727644,15097957966210449927,16922976911328602910,17689382322260857208,500013540394364858,748580250866718886,1242879168328830382,1977374033974150939,2944078676154940804,3659926193048069267,4368137639120453308,4836135668995329356,5532061633213252278,6448918945643986474,6902733635092675308,7801388544844847127].getD i 0)
def H512 (i:Nat):BitVec 64:=BitVec.ofNat 64 ([7640891576956012808,13503953896175478587,4354685564936845355,11912009170470909681,5840696475078001361,11170449401992604703,2270897969802886507,6620516959819538809].getD i 0)
def sch1 (b:Nat→BitVec 8):Nat→Nat→BitVec 64
 | 0=>fun _=>0
 | k+1=>upd (sch1 b k) (k / 8) (sch1 b k (k / 8) <<< 8 ||| wide (b k))
def schStep (f:Nat→BitVec 64) (k:Nat):BitVec 64:=sig1 (f (k - 2))+f (k - 7)+sig0 (f (k - 15))+f (k - 16)
def sch2 (W:Nat→BitVec 64):Nat→Nat→BitVec 64
 | 0=>W
 | k+1=>if k<16 then W else upd (sch2 W k) k (schStep (sch2 W k) k)
def sched (b:Nat→BitVec 8):Nat→BitVec 64:=sch2 (sch1 b 128) 80
theorem sch2_low (W:Nat→BitVec 64):∀ k,k≤16→sch2 W k=W
 | 0,_=>rfl
 | k+1,h=>by unfold sch2;rw [if_pos (by omega)]
theorem sch2_step (W:Nat→BitVec 64) {k:Nat} (h:16≤k):sch2 W (k+1)=upd (sch2 W k) k (schStep (sch2 W k) k):=by
 rw [sch2,if_neg (by omega)]
def rndX (K W:Nat→BitVec 64) (t:Nat) (v:Nat→BitVec 64):BitVec 64:=v 7+Sig1 (v 4)+(v 4 &&& v 5 ^^^ ~~~(v 4) &&& v 6)+K t+W t
def rndY (v:Nat→BitVec 64):BitVec 64:=Sig0 (v 0)+(v 0 &&& v 1 ^^^ v 0 &&& v 2 ^^^ v 1 &&& v 2)
def rnd (K W:Nat→BitVec 64) (t:Nat) (v:Nat→BitVec 64):Nat→BitVec 64
 | 0=>rndX K W t v+rndY v
 | 1=>v 0
 | 2=>v 1
 | 3=>v 2
 | 4=>v 3+rndX K W t v
 | 5=>v 4
 | 6=>v 5
 | 7=>v 6
 | _=>0
def rnds (K W:Nat→BitVec 64) (h:Nat→BitVec 64):Nat→Nat→BitVec 64
 | 0=>h
 | t+1=>rnd K W t (rnds K W h t)
def block (K:Nat→BitVec 64) (h:Nat→BitVec 64) (b:Nat→BitVec 8):Nat→BitVec 64:=fun i=>h i+rnds K (sched b) h 80 i
end Go.Proofs.YtoifhhljfaoejaaGreatDoor.Shb
namespace Go.Proofs.YtoifhhljfaoejaaGreatDoor.Shb
open Go.Proofs.YtoifhhljfaoejaaGreatDoor Go.RowKit
theorem rot1 (x:BitVec 64) (w:World):Calls Tryz.prog 321 #[.int .u64 (Q x),.int .i64 (-1)] w fun e w'=>e= .returned (.int .u64 (Q (rotl x 63)))∧w=w':=by
 have hm:bits BinOp.and IntKind.u64 (IntKind.u64.wrap (-1)) 63=63:=by decide
 obtain ⟨h0,h1⟩:=Q_bd x
 have HV:=Lib.hid (rot_val x 63 1 rfl)
 go_enter Tryz.func321,Tryz.ntmps321
 go_wp2
 go_ret
 exact ⟨congrArg (fun z=>Ending.returned (.int .u64 z)) HV.out,rfl⟩
theorem rot8 (x:BitVec 64) (w:World):Calls Tryz.prog 321 #[.int .u64 (Q x),.int .i64 (-8)] w fun e w'=>e= .returned (.int .u64 (Q (rotl x 56)))∧w=w':=by
 have hm:bits BinOp.and IntKind.u64 (IntKind.u64.wrap (-8)) 63=56:=by decide
 obtain ⟨h0,h1⟩:=Q_bd x
 have HV:=Lib.hid (rot_val x 56 8 rfl)
 go_enter Tryz.func321,Tryz.ntmps321
 go_wp2
 go_ret
 exact ⟨congrArg (fun z=>Ending.returned (.int .u64 z)) HV.out,rfl⟩
theorem rot19 (x:BitVec 64) (w:World):Calls Tryz.prog 321 #[.int .u64 (Q x),.int .i64 (-19)] w fun e w'=>e= .returned (.int .u64 (Q (rotl x 45)))∧w=w':=by
 have hm:bits BinOp.and IntKind.u64 (IntKind.u64.wrap (-19)) 63=45:=by decide
 obtain ⟨h0,h1⟩:=Q_bd x
 have HV:=Lib.hid (rot_val x 45 19 rfl)
 go_enter Tryz.func321,Tryz.ntmps321
 go_wp2
 go_ret
 exact ⟨congrArg (fun z=>Ending.returned (.int .u64 z)) HV.out,rfl⟩
theorem rot61 (x:BitVec 64) (w:World):Calls Tryz.prog 321 #[.int .u64 (Q x),.int .i64 (-61)] w fun e w'=>e= .returned (.int .u64 (Q (rotl x 3)))∧w=w':=by
 have hm:bits BinOp.and IntKind.u64 (IntKind.u64.wrap (-61)) 63=3:=by decide
 obtain ⟨h0,h1⟩:=Q_bd x
 have HV:=Lib.hid (rot_val x 3 61 rfl)
 go_enter Tryz.func321,Tryz.ntmps321
 go_wp2
 go_ret
 exact ⟨congrArg (fun z=>Ending.returned (.int .u64 z)) HV.out,rfl⟩
theorem rot14 (x:BitVec 64) (w:World):Calls Tryz.prog 321 #[.int .u64 (Q x),.int .i64 (-14)] w fun e w'=>e= .returned (.int .u64 (Q (rotl x 50)))∧w=w':=by
 have hm:bits BinOp.and IntKind.u64 (IntKind.u64.wrap (-14)) 63=50:=by decide
 obtain ⟨h0,h1⟩:=Q_bd x
 have HV:=Lib.hid (rot_val x 50 14 rfl)
 go_enter Tryz.func321,Tryz.ntmps321
 go_wp2
 go_ret
 exact ⟨congrArg (fun z=>Ending.returned (.int .u64 z)) HV.out,rfl⟩
theorem rot18 (x:BitVec 64) (w:World):Calls Tryz.prog 321 #[.int .u64 (Q x),.int .i64 (-18)] w fun e w'=>e= .returned (.int .u64 (Q (rotl x 46)))∧w=w':=by
 have hm:bits BinOp.and IntKind.u64 (IntKind.u64.wrap (-18)) 63=46:=by decide
 obtain ⟨h0,h1⟩:=Q_bd x
 have HV:=Lib.hid (rot_val x 46 18 rfl)
 go_enter Tryz.func321,Tryz.ntmps321
 go_wp2
 go_ret
 exact ⟨congrArg (fun z=>Ending.returned (.int .u64 z)) HV.out,rfl⟩
theorem rot41 (x:BitVec 64) (w:World):Calls Tryz.prog 321 #[.int .u64 (Q x),.int .i64 (-41)] w fun e w'=>e= .returned (.int .u64 (Q (rotl x 23)))∧w=w':=by
 have hm:bits BinOp.and IntKind.u64 (IntKind.u64.wrap (-41)) 63=23:=by decide
 obtain ⟨h0,h1⟩:=Q_bd x
 have HV:=Lib.hid (rot_val x 23 41 rfl)
 go_enter Tryz.func321,Tryz.ntmps321
 go_wp2
 go_ret
 exact ⟨congrArg (fun z=>Ending.returned (.int .u64 z)) HV.out,rfl⟩
theorem rot28 (x:BitVec 64) (w:World):Calls Tryz.prog 321 #[.int .u64 (Q x),.int .i64 (-28)] w fun e w'=>e= .returned (.int .u64 (Q (rotl x 36)))∧w=w':=by
 have hm:bits BinOp.and IntKind.u64 (IntKind.u64.wrap (-28)) 63=36:=by decide
 obtain ⟨h0,h1⟩:=Q_bd x
 have HV:=Lib.hid (rot_val x 36 28 rfl)
 go_enter Tryz.func321,Tryz.ntmps321
 go_wp2
 go_ret
 exact ⟨congrArg (fun z=>Ending.returned (.int .u64 z)) HV.out,rfl⟩
theorem rot34 (x:BitVec 64) (w:World):Calls Tryz.prog 321 #[.int .u64 (Q x),.int .i64 (-34)] w fun e w'=>e= .returned (.int .u64 (Q (rotl x 30)))∧w=w':=by
 have hm:bits BinOp.and IntKind.u64 (IntKind.u64.wrap (-34)) 63=30:=by decide
 obtain ⟨h0,h1⟩:=Q_bd x
 have HV:=Lib.hid (rot_val x 30 34 rfl)
 go_enter Tryz.func321,Tryz.ntmps321
 go_wp2
 go_ret
 exact ⟨congrArg (fun z=>Ending.returned (.int .u64 z)) HV.out,rfl⟩
theorem rot39 (x:BitVec 64) (w:World):Calls Tryz.prog 321 #[.int .u64 (Q x),.int .i64 (-39)] w fun e w'=>e= .returned (.int .u64 (Q (rotl x 25)))∧w=w':=by
 have hm:bits BinOp.and IntKind.u64 (IntKind.u64.wrap (-39)) 63=25:=by decide
 obtain ⟨h0,h1⟩:=Q_bd x
 have HV:=Lib.hid (rot_val x 25 39 rfl)
 go_enter Tryz.func321,Tryz.ntmps321
 go_wp2
 go_ret
 exact ⟨congrArg (fun z=>Ending.returned (.int .u64 z)) HV.out,rfl⟩
end Go.Proofs.YtoifhhljfaoejaaGreatDoor.Shb
namespace Go.Proofs.YtoifhhljfaoejaaGreatDoor.Shb
open Go.Proofs.YtoifhhljfaoejaaGreatDoor Go.RowKit
def rowQ (n:Nat) (f:Nat→BitVec 64):Array Value:=row n fun i=> .int .u64 (Q (f i))
theorem rowQ_size (n:Nat) (f:Nat→BitVec 64):(rowQ n f).size=n:=row_size _ _
theorem rowQ_oneCell (n:Nat) (f:Nat→BitVec 64):(rowQ n f).all (·.oneCell')=true:=by simp [rowQ,row,Value.oneCell']
theorem info80:(Tryz.prog.info? 262).map (fun i=>(i.zero,i.size))=some (some (.agg (row 80 fun _=> .int .u64 0)),80):=by kernel_rfl
theorem size80:(Tryz.prog.info? 262).map (·.size)=some 80:=by kernel_rfl
def stF (h:Nat→BitVec 64) (b:Nat→BitVec 8) (n:Nat) (L:BitVec 64):Nat→Value:=fun j =>
 if j<8 then .int .u64 (Q (h j)) else if j<88 then .int .u64 (Q (K512 (j - 8))) else if j<216 then .int .u8 (B8 (b (j - 88))) else if j=216 then .int .i64 n else .int .u64 (Q L)
def stRow (h:Nat→BitVec 64) (b:Nat→BitVec 8) (n:Nat) (L:BitVec 64):Array Value:=row 218 (stF h b n L)
theorem words_row (n:Nat) (f:Nat→BitVec 64):(((List.range n).map fun i=>Q (f i)).map (Value.int .u64)).toArray=rowQ n f:=by
 simp [rowQ,row]
set_option maxRecDepth 100000 in
set_option maxHeartbeats 400000 in
theorem consts_any (w:World):Calls Tryz.prog 317 #[] w fun e w'=>e= .returned (.agg (rowQ 80 K512))∧Below w.heap.size w w':=by
 have HN:=Lib.hid (show (Tryz.prog.info? 262).map (·.size)=some (rowQ 80 K512).size by rw [size80,rowQ_size])
 have HW:=Lib.hid (words_row 80 K512)
 go_enter Tryz.func317,Tryz.ntmps317
 go_wp2_with (first | (with_reducible refine wpList_alloc_row rfl 262 rfl 80 _ info80 ?_) | (refine wpList_buildFlatArrTo rfl 262 227 80 _ rfl .u64 ((List.range 80).map fun i=>Q (K512 i)) _ rfl Tryz.underlying262 (by kernel_rfl) (by kernel_rfl) (by kernel_rfl) ?_;rw [HW.out]) | (with_reducible refine wpList_store_rowTo rfl 262 _ _ rfl rfl w.heap.size (rowQ 80 K512) rfl rfl 262 _ (heap_alloc_new _ _) HN.out (by rw [row_size,rowQ_size]) (rowQ_oneCell _ _) ?_))
 refine bodyPost_ret (results_cell_row rfl _ _ w.heap.size 262 (rowQ 80 K512) (0,0) _ rfl (heap_setRow_at (heap_alloc_new _ _)) Tryz.underlying262 rfl HN.out) rfl ?_
 exact ⟨rfl,below_setRow ((Below.refl _ _).alloc (Nat.le_refl _) _) (Nat.le_refl _) _⟩
set_option maxRecDepth 100000 in
set_option maxHeartbeats 400000 in
theorem begin_any (w:World):Calls Tryz.prog 303 #[] w fun e w'=>∃ sb,e= .returned (.pointer (some ⟨sb,0,none⟩))∧w.heap.size≤sb∧w'.heap[sb]?=some (.cells (stRow H512 (fun _=>0) 0 0) 353 (0,0))∧Below w.heap.size w w':=by
 have HW:=Lib.hid (words_row 8 H512)
 go_enter Tryz.func303,Tryz.ntmps303
 go_wp2_with (first | (refine wpList_buildFlatArrTo rfl 261 227 8 _ rfl .u64 ((List.range 8).map fun i=>Q (H512 i)) _ rfl Tryz.underlying261 (by kernel_rfl) (by kernel_rfl) (by kernel_rfl) ?_;rw [HW.out]) | (go_at_call 317;refine (consts_any _).mono ?_;rintro e w1 ⟨rfl,hb⟩) | (refine wpList_buildTo rfl 353 _ rfl _ rfl (stRow H512 (fun _=>0) 0 0) (by kernel_rfl) ?_) | (refine Great.wpList_boxTo rfl 353 _ rfl _ rfl _ rfl (stRow H512 (fun _=>0) 0 0) rfl ?_))
 go_ret
 exact ⟨w1.heap.size,rfl,hb.size,heap_alloc_new _ _,hb.alloc hb.size _⟩
end Go.Proofs.YtoifhhljfaoejaaGreatDoor.Shb
