/- The proof of the statement WholeFresh: for every input the law returns true, and its arguments read behind the call as they did; no condition. -/
import Derived.Test.YteijjhahgabalaaGreatRows
import Derived.Test.YteijjhahgabalaaGreatWF34
set_option maxRecDepth 100000
set_option maxHeartbeats 8000000
set_option linter.all false
namespace Go.Proofs.YteijjhahgabalaaGreat.wholeFresh
open Go.ChangeShapes Go.WideShapes Go.ChangeAt Go.RowKit
theorem own:ownKnob Tryz.prog.godebug=none:=by kernel_rfl
theorem laidOut:laidOutB Tryz.prog=true:=by kernel_rfl
theorem lifted (os:Os) (started:os.Started) (H:Type) (enc:TypeId×Value→H):
 ReturnsInHanded {} Tryz.checked os 3 .any (Rows.wholeFreshSpec.pre6 enc Tryz.prog Tryz.f3 Rows.wholeFreshRow.domain false) (Rows.wholeFreshSpec.post enc Tryz.prog Tryz.f3 false true false false):=by
 refine returnsInHanded_of_change (C:=Tryz.checked) own started aK Tryz.func3
  (ChangeSpec.witness6 (enc:=enc) (C:=Tryz.checked) false ⟨#[],#[.agg #[.slice none 0 0,.slice none 0 0],.agg #[.int .u8 0,.int .u8 0,.int .u8 0,.int .u8 0],.agg #[.slice none 0 0,.slice none 0 0]],[]⟩ 8 aK aK aK aK) ?_
 intro W base args ds gs before hval0 hW hcnd _
 have hval:∀(j:Nat) t v,Tryz.f3.params[j]? =some t→args[j]? =some v→Value.okWide Tryz.prog W .any base t v:=hval0
 have hW':=hW
 obtain⟨p,q,hA0,hV,rfl,hfz,hnd⟩:=hW
 have hA:DataW.TrodAll enc Tryz.prog W 0 (fun _=>true) true Tryz.f3.params.toList args.toList ds p:=hA0
 rw[Tryz.params3] at hA hval
 obtain⟨v0,vs0,d0,ds0,p0,q0,hargs,rfl,rfl,h0,r0⟩:=trodAll_cons hA
 obtain⟨v1,vs1,d1,ds1,p1,q1,rfl,rfl,rfl,h1,r1⟩:=trodAll_cons r0
 obtain⟨v2,vs2,d2,ds2,p2,q2,rfl,rfl,rfl,h2,r2⟩:=trodAll_cons r1
 obtain⟨rfl,rfl,rfl⟩:=trodAll_nil r2
 obtain rfl:args=#[v0,v1,v2]:=by cases args;simp_all
 obtain⟨rfl,rfl⟩:=trodVars_none hV
 have k0:=h0
 have lt0:∀x∈p0,x.block<W.heap.size:=by obtain⟨m,hm⟩:=k0;exact DataW.trod_lt m _ _ _ hm
 obtain⟨zs0,row0⟩:=open_topo Tryz.underlying24 Tryz.underlying22 Tryz.underlying22 Tryz.underlying3 Tryz.underlying3 aK aK aK rfl rfl aK aK (hval 0 24 v0 rfl rfl) h0
 have k1:=h1
 have lt1:∀x∈p1,x.block<W.heap.size:=by obtain⟨m,hm⟩:=k1;exact DataW.trod_lt m _ _ _ hm
 obtain⟨zs1,hl1,rfl,wf1⟩:=open_int_array Tryz.underlying25 Tryz.underlying5 aK aK (hval 1 25 v1 rfl rfl) h1
 obtain⟨x1_0,x1_1,x1_2,x1_3,rfl⟩:=list_four hl1
 have k2:=h2
 have lt2:∀x∈p2,x.block<W.heap.size:=by obtain⟨m,hm⟩:=k2;exact DataW.trod_lt m _ _ _ hm
 obtain⟨zs2,row2⟩:=open_script Tryz.underlying29 Tryz.underlying26 Tryz.underlying38 aK aK Tryz.underlying3 Tryz.underlying3 Tryz.underlying27 Tryz.underlying5 aK aK rfl rfl aK aK (hval 2 29 v2 rfl rfl) h2
 clear hA0 hval0
 refine(wholeFresh_walk v0 zs0 x1_0 x1_1 x1_2 x1_3 v2 zs2 W row0 (u8_of_wf (wf1 x1_0 aS)) (u8_of_wf (wf1 x1_1 aS)) (u8_of_wf (wf1 x1_2 aS)) (u8_of_wf (wf1 x1_3 aS)) row2).mono fun e W' ⟨he,bel⟩=>?_
 subst he
 exact⟨_,rfl,_,_,_,[],_,[],hW',trodAll_mk1 (shut_bool Tryz.underlying4 _),(trodAll_cons_mk (Below.trod laidOut aK (of_decide_eq_true aK) k0 bel lt0) (trodAll_cons_mk (Below.trod laidOut aK (of_decide_eq_true aK) k1 bel lt1) (trodAll_cons_mk (Below.trod laidOut aK (of_decide_eq_true aK) k2 bel lt2) trodAll_mk0))),rfl,bel.frame _,fun h=>by cases h⟩
theorem over:Rows.wholeFreshRow.holds Tryz.pinned (OpenSpec.ofChange Rows.wholeFreshSpec):=
 OpenClaim.holds_of_wide 3 Tryz.f3 rfl rfl rfl rfl rfl rfl rfl ⟨rfl,rfl,rfl,rfl,rfl⟩ rfl rfl rfl rfl rfl aK Tryz.func3 aK
  (of_decide_eq_true aK) (by unfold Func.isWrapper;first|(rw[if_pos (by decide+kernel)];kernel_rfl)|(rw[if_neg (by decide+kernel)];exact⟨rfl,rfl⟩))
  (fun os started H enc _=>lifted os started H enc)
theorem proved:Rows.WholeFreshSaid:=over
end Go.Proofs.YteijjhahgabalaaGreat.wholeFresh
