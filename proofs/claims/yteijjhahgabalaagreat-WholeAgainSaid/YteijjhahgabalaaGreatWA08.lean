/- A region that draws its order, walked by a schedule: what only computes or reads cells that nobody writes is taken first, in rows; the calls come one at a time. An operation whose guard is false is passed over. -/
import Derived.Deep.Quiet
import Derived.Deep.QuietTactic
import Derived.BigQuiet
import Derived.OrdersHeld
import Derived.Deep.RegionHeld3
import Derived.Test.YteijjhahgabalaaGreatWA02
set_option maxRecDepth 100000
set_option maxHeartbeats 8000000
set_option linter.all false
namespace Go.Proofs.YteijjhahgabalaaGreat
structure HW (S:World→Prop) where
 w:World
 h:S w
abbrev CF (S:World→Prop):World→Prop:=fun w=>∃z:HW S,w=z.w
theorem BC {S:World→Prop} {w:World} (h:S w):CF S w:=⟨⟨w,h⟩,rfl⟩
def wI:Op→Bool
 | .move _| .assign _| .pick .. | .build .. | .load .. | .binOp .. | .unOp .. | .convert .. | .slice .. | .fieldAddr .. | .field .. | .indexAddr .. | .index .. | .extract .. | .makeFunc .. | .nilCheck _=>true
 | .call {callee:=.builtin .len, ..}| .call {callee:=.builtin .cap, ..}| .call {callee:=.builtin .min, ..}| .call {callee:=.builtin .max, ..}=>true
 |_=>false
def kX (P:Program) (w:World) (s:Sem Next):Prop:=∀n w',s.run P w= .ok n w'→∃v,n= .value v
section
variable{P:Program} {w w':World}
theorem fO {v:Value}:kX P w (Pure.pure (Next.value v)):=fun n w' h=>by
 simp only[Sem.run_pure,Result.ok.injEq] at h;exact⟨v,h.1.symm⟩
theorem oU {α:Type} {s:Sem α} {g:α→Value}:kX P w (s >>=fun x=>Pure.pure (Next.value (g x))):=fun n w' h=>by
 simp only[Sem.run_bind] at h;cases hs:s.run P w with
 |ok x w1=>rw[hs] at h;simp only[Result.andThen_ok,Sem.run_pure,Result.ok.injEq] at h;exact⟨_,h.1.symm⟩
 |halt x w1=>rw[hs] at h;cases h
theorem ma {α:Type} {s:Sem α} {g:α→Sem Next} (h:∀a w',kX P w' (g a)):kX P w (s >>=g):=fun n w' e=>by
 simp only[Sem.run_bind] at e;cases hs:s.run P w with
 |ok x w1=>rw[hs] at e;exact h x w1 n w' e
 |halt x w1=>rw[hs] at e;cases e
theorem iy {x:Sem Next} (h:∀n w',x.run P w≠ .ok n w'):kX P w x:=fun n w' e=>absurd e (h n w')
theorem vJ {o:Oper} {ev:Operand→Value} (h:wI o.op=true):kX P w (execOp ev o):=by
 unfold execOp;cases hop:o.op
 case call c=>
  obtain⟨callee,args,tys⟩:=c;rw[hop] at h;cases callee with
  |builtin b=>cases b<;>first|(simp only[wI,Bool.false_eq_true] at h;done)|(show kX P w (_ >>=fun x=>Pure.pure (Next.value _));exact oU)
  |_=>simp only[wI,Bool.false_eq_true] at h
 case nilCheck x=>
  show kX P w (match ev x with
   | .pointer none| .nilIface| .nilFunc=>_
   | .func (.method name) first captured=>_
   |x=>_)
  split
  ·exact iy fun n w'=>by simp[runtimePanic]
  ·exact iy fun n w'=>by simp[runtimePanic]
  ·exact iy fun n w'=>by simp[runtimePanic]
  ·split
   ·exact iy fun n w'=>by simp[runtimePanic]
   ·refine ma fun p w1=>ma fun b w2=>?_;dsimp only
    split
    ·exact ma fun _ _=>fO
    ·exact fO
   ·exact fO
  ·exact fO
 all_goals
  simp only[hop,wI,Bool.false_eq_true] at h;try first|exact fO|exact oU
theorem Au {o:Oper} {a:Act} {v:Value} {C:World→Prop} (h:wI o.op=true) (hq:o.quietAt P a C w v):(execOp a.eval o).run P w= .ok (.value v) w:=by
 have h1:=vJ (P:=P) (w:=w) (ev:=a.eval) h;unfold Oper.quietAt at hq;unfold kX at h1;generalize(execOp a.eval o).run P w=r at*;cases r with
 |ok n w'=>
  obtain⟨u,rfl⟩:=h1 n w' rfl;simp only[Oper.quietUpon] at hq;rw[hq.1,hq.2]
 |halt x w'=>simp only[Oper.quietUpon] at hq
end
def pick:List Oper→Nat→Option Oper
 | [],_=>none
 |o::_,0=>some o
 |_::l,n+1=>pick l n
theorem uw:∀{l:List Oper} {i:Nat} {o:Oper},pick l i=some o→l[i]? =some o
 | [],_,_,h=>by cases h
 |_::_,0,_,h=>by simpa[pick] using h
 |_::_,n+1,_,h=>by simpa using uw (i:=n) h
theorem oE {ops:Array Oper} {i:Nat} {o:Oper} (h:pick ops.toList i=some o):ops[i]? =some o:=by rw[←Array.getElem?_toList];exact uw h
inductive pB (ops:Array Oper):List Nat→List Oper→Prop
 |nil:pB ops [] []
 |cons {i:Nat} {is:List Nat} {o:Oper} {l:List Oper}:pick ops.toList i=some o→pB ops is l→pB ops (i::is) (o::l)
def C4:List Nat→Array Bool→Array Bool
 | [],listed=>listed
 |i::is,listed=>C4 is (listed.setIfInBounds i true)
def yN (md:Region.Mode) (ops:Array Oper):List Nat→Array Bool→Bool
 | [],_=>true
 |i::is,listed=>(Region.ready md ops listed).contains i&&Region.free md ops listed i&&(match ops[i]? with|some o=>wI o.op|none=>false)&&yN md ops is (listed.setIfInBounds i true)
section
variable{P:Program} {ops:Array Oper} {Q:Exit→Act→World→Prop} {md:Region.Mode} {S:World→Prop}
theorem yb {is:List Nat} {l:List Oper} (hp:pB ops is l) (hs:Region.noSelect ops=true) (hQ:∀d v c a w,Q (.panic c) (Act.put a (some d) v) w→Q (.panic c) a w) {fuel:Nat}:
 ∀{listed:Array Bool} {a:Act} {w:World},yN md ops is listed=true→S w→wpQuiet P ops (CF S) (fun a'=>wpAnyH P md ops Q S fuel (C4 is listed) a' w) l a→wpAnyH P md ops Q S (fuel+is.length) listed a w:=by
 induction hp with
 |nil=>intro listed a w _ _ h;exact h
 | @cons i is o l hi _ ih=>
  intro listed a w hB hS h;have hi:=oE hi;have hQ':∀v c a w,Q (.panic c) (Act.put a o.dst v) w→Q (.panic c) a w:=fun v c a w h=>by
   cases hd:o.dst with
   |none=>rw[hd] at h;exact h
   |some d=>rw[hd] at h;exact hQ d v c a w h
  simp only[yN,hi,Bool.and_eq_true] at hB;obtain⟨⟨⟨hr,hf⟩,ht⟩,hB⟩:=hB;rw[List.length_cons,←Nat.add_assoc];unfold wpQuiet at h;by_cases hw:Region.wanted o (yielded ops a.tmps)=true
  ·rw[if_pos hw] at h;obtain⟨v,h1,h2⟩:=h;exact wpAnyH_take hi hs hf hr (fun c a w=>hQ' _ c a w) (.inl ⟨hw,fun w hw=>Au ht (h1 w (BC hw))⟩) hS (ih hB hS h2)
  ·rw[if_neg hw] at h;exact wpAnyH_take hi hs hf hr (fun c a w=>hQ' _ c a w) (.inr ⟨by simpa using hw,rfl⟩) hS (ih hB hS h)
def ff (Q:Exit→Act→World→Prop) (K:Act→World→Prop):Exit→Act→World→Prop:=fun e a w=>(e= .normal→K a w)∧(e≠ .normal→Q e a w)
theorem af {K:Act→World→Prop} {a:Act} {w:World} (h:K a w):ff Q K .normal a w:=⟨fun _=>h,fun h=>absurd rfl h⟩
theorem xd {i:Nat} {o:Oper} {fuel:Nat} {listed:Array Bool} {a:Act} {w:World} (hi:pick ops.toList i=some o) (hr:Region.ready md ops listed=[i])
 (h:wpList P ops (ff Q (fun a' w'=>S w'∧wpAnyH P md ops Q S fuel (listed.setIfInBounds i true) a' w')) [o] a w):wpAnyH P md ops Q S (fuel+1) listed a w:=by
 refine wpAnyH_all hr aS fun j hj=>?_;obtain rfl:j=i:=by simpa using hj
 have hi:=oE hi;unfold wpOp;simp only[hi];simp only[wpList] at h;have key:∀a' w',ff Q (fun a' w'=>S w'∧wpAnyH P md ops Q S fuel (listed.setIfInBounds j true) a' w') .normal a' w'→S w'∧wpAnyH P md ops Q S fuel (listed.setIfInBounds j true) a' w':=fun _ _ h=>h.1 rfl
 split
 ·rename_i hw
  rw[if_pos hw] at h;rcases h with h|⟨h1,a1,w1,h2⟩
  ·left;unfold Oper.wp at*;generalize(execOp a.eval o).run P w=r at*;cases r with
   |ok n w'=>
    cases n<;>simp only[Oper.upon] at h⊢
    case value u=>exact key _ _ h
    case skip=>exact key _ _ h
    case defer d=>exact key _ _ h
    case enter f args=>
     refine Calls.mono h fun e w'' he=>?_;cases e with
     |returned u=>exact key _ _ he
     |panicked c=>exact he.2 aS
     |outgrown=>obtain⟨a1,w1,h2⟩:=he;exact⟨a1,w1,h2.2 aS⟩
    case row row args=>exact Rows.mono h fun u w'' he=>key _ _ he
   |halt x w'=>
    cases x<;>simp only[Oper.upon] at h⊢
    case panic u=>exact h.2 aS
  ·exact .inr ⟨h1,a1,w1,h2.2 aS⟩
 ·rename_i hw
  rw[if_neg hw] at h;exact key _ _ h
theorem bv {id:Nat} {a:Act} {w:World} {l:List Oper} (S:World→Prop) (hm:P.follows .mixedOrders=true) (h:wpAnyH P .any l.toArray Q S l.length (Array.replicate l.length false) a w.drew):(Code.region id l.toArray true).wp P Q a w:=
 wp_region_held hm (by simpa using h)
theorem rB {is:List Nat} {l:List Oper} (hp:pB ops is l) (hs:Region.noSelect ops=true) (hQ:∀d v c a w,Q (.panic c) (Act.put a (some d) v) w→Q (.panic c) a w) {n fuel:Nat} (hn:n=fuel+is.length)
 {listed:Array Bool} {a:Act} {w:World} (hB:yN md ops is listed=true) (hS:S w) (h:∀K:Act→Prop,(∀a',wpAnyH P md ops Q S fuel (C4 is listed) a' w→K a')→wpQuiet P ops (CF S) K l a):wpAnyH P md ops Q S n listed a w:=by
 subst hn;exact yb hp hs hQ hB hS (h _ fun _ h=>h)
theorem zC {listed:Array Bool} {a:Act} {w:World} (hr:Region.ready md ops listed=[]) (h:Q .normal a w) {fuel:Nat}:wpAnyH P md ops Q S fuel listed a w:=wpAnyH_done hr h fuel
end
def pN (ops:List Oper):List Nat→Option (List Oper)
 | []=>some []
 |i::is=>match pick ops i with|some o=>(match pN ops is with|some l=>some (o::l)|none=>none)|none=>none
theorem rr {ops:Array Oper}:∀{is:List Nat} {l:List Oper},pN ops.toList is=some l→pB ops is l
 | [],l,h=>by simp only[pN,Option.some.injEq] at h;subst h;exact .nil
 |i::is,l,h=>by
  simp only[pN] at h;cases h1:pick ops.toList i with
  |none=>rw[h1] at h;cases h
  |some o=>
   rw[h1] at h;cases h2:pN ops.toList is with
   |none=>rw[h2] at h;cases h
   |some m=>rw[h2] at h;simp only[Option.some.injEq] at h;subst h;exact .cons h1 (rr h2)
section
variable{P:Program} {ops:Array Oper} {Q:Exit→Act→World→Prop} {md:Region.Mode} {S:World→Prop}
theorem aR {fuel:Nat} (is:List Nat) {l:List Oper} {n:Nat} {listed:Array Bool} {a:Act} {w:World} (hp:pN ops.toList is=some l) (hS:S w) (h:∀K:Act→Prop,(∀a',wpAnyH P md ops Q S fuel (C4 is listed) a' w→K a')→wpQuiet P ops (CF S) K l a)
 (hn:n=fuel+is.length:=by rfl) (hs:Region.noSelect ops=true:=by kernel_rfl) (hB:yN md ops is listed=true:=by kernel_rfl) (hQ:∀d v c a w,Q (.panic c) (Act.put a (some d) v) w→Q (.panic c) a w:=by exact fun _ _ _ _ _ h=>h):wpAnyH P md ops Q S n listed a w:=rB (rr hp) hs hQ hn hB hS h
theorem aL (i:Nat) {o:Oper} {fuel:Nat} {listed:Array Bool} {a:Act} {w:World} (hi:pick ops.toList i=some o) (h:wpList P ops (ff Q (fun a' w'=>S w'∧wpAnyH P md ops Q S fuel (listed.setIfInBounds i true) a' w')) [o] a w) (hr:Region.ready md ops listed=[i]:=by kernel_rfl):wpAnyH P md ops Q S (fuel+1) listed a w:=xd hi hr h
theorem aN {listed:Array Bool} {a:Act} {w:World} {fuel:Nat} (h:Q .normal a w) (hr:Region.ready md ops listed=[]:=by kernel_rfl):wpAnyH P md ops Q S fuel listed a w:=zC hr h
theorem aG {id:Nat} {a:Act} {w:World} {l:List Oper} (S:World→Prop) (h:wpAnyH P .any l.toArray Q S l.length (Array.replicate l.length false) a w.drew) (hm:P.follows .mixedOrders=true:=by kernel_rfl):(Code.region id l.toArray true).wp P Q a w:=bv S hm h
end
theorem aW (L:List Nat) (W:World):Nonempty (HW (fun wx=>ae L W wx)):=⟨⟨W,ae.refl _ _⟩⟩
end Go.Proofs.YteijjhahgabalaaGreat
