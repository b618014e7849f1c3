/- The contracts of sync.Once, for a table that is found when it is asked for first. -/
import Derived.Defers
import Derived.RegionCalls
import Derived.Laws.LoneSync
import Derived.Laws.Pointers
import Derived.RegionTactic
import Derived.Test.YteijjhahgabalaaGreatWA06
set_option maxRecDepth 100000
set_option maxHeartbeats 8000000
set_option linter.all false
namespace Go.Proofs.YteijjhahgabalaaGreat
open Go.RowKit
open Tryz
theorem kH (w:World):(callFunc 122 #[]).run prog w= .ok (.value (.tuple #[])) w:=run_call_mark0 func122 aK aK aK .disable aK w
theorem mx (w:World):(callFunc 124 #[]).run prog w= .ok (.value (.tuple #[])) w:=run_call_mark0 func124 aK aK aK .enable aK w
theorem qO (a:Addr) (w:World):(callFunc 125 #[.pointer (some a)]).run prog w= .ok (.value (.tuple #[])) w:=run_call_marked func125 aK aK aK .acquire aK a w
theorem qL (a:Addr) (w:World):(callFunc 127 #[.pointer (some a)]).run prog w= .ok (.value (.tuple #[])) w:=run_call_marked func127 aK aK aK .releaseMerge aK a w
theorem nZ (a:Addr) (x:Value) (u:FrameMode) (w:World) (hc:w.cell? a=some x) (hz:w.frozen? a=false):
 CallsD prog 117 #[.pointer (some a),true] u w fun e u' w'=>u'=u∧(e= .returned (.tuple #[])∧w'=w.drew.setCell a (.int .u32 1)):=by
 have hc':w.drew.cell? a=some x:=by go_simp
 have hz':w.drew.frozen? a=false:=by go_simp
 have hst:=run_call_store (P:=prog) func120 aK aK aK aK (k:=.u32) (y:=1) hc' hz'
 go_enter_d func117,ntmps117
 go_wp2
 go_region_calls
 all_goals(go_end0;exact⟨rfl,rfl⟩)
theorem mR (a:Addr) (u:FrameMode) (w:World) (hc:w.cell? a=some (.int .i32 1)) (hz:w.frozen? a=false):
 CallsD prog 116 #[.pointer (some a)] u w fun e u' w'=>u'=u∧(e= .returned (.tuple #[])∧w'=w.setCell a (.int .i32 0)):=by
 have hd:=kH;have he:=mx;have hr:=qL;have hadd:=run_call_add (P:=prog) func128 aK aK aK .i32 aK (y:= -1) (s:=0) hc hz (by simp[go_sem];rfl);have hcv:=run_convert_to_unsafe (P:=prog) (src:=279) (dst:=283) underlying279 underlying283 aK hc
 go_enter_d func116,ntmps116
 go_wp2;go_end0;go_wp2;go_end0;exact⟨rfl,rfl⟩
theorem vY (a:Addr) (w:World) (hc:w.cell? a=some (.int .i32 0)) (hz:w.frozen? a=false):
 Calls prog 115 #[.pointer (some a)] w fun e w'=>e= .returned (.tuple #[])∧w'=w.setCell a (.int .i32 1):=by
 have hd:=kH;have he:=mx;have ha:=qO;have hcas:=run_call_cas_hit (P:=prog) func123 aK aK aK .i32 aK (y:=1) hc hz;have hc':(w.setCell a (.int .i32 1)).cell? a=some (.int .i32 1):=World.cell?_setCell_same w a _ hc;have hcv:=run_convert_to_unsafe (P:=prog) (src:=279) (dst:=283) underlying279 underlying283 aK hc';go_enter func115,ntmps115;go_wp2;first|go_end0|(simp only[Exit.inBlock,Exit.then];refine bodyPost_ret (results_none rfl _ _ _) rfl ?_)|refine bodyPost_ret (results_none rfl _ _ _) rfl ?_
 go_wp2;go_end0;exact⟨rfl,rfl⟩
theorem wF (tb:Nat) (Q:World→Prop) (w:World) (h0:w.cell? (tb,2)=some (.int .u32 0)) (h1:w.cell? (tb,3)=some (.int .i32 0)) (f1:w.frozen? ⟨tb,3,none⟩=false)
 (hfind:Calls prog 110 #[some tb] (w.setCell (tb,3) (.int .i32 1)) fun e w'=>e= .returned (.tuple #[])∧(w'.cell? (tb,2)=some (.int .u32 0)∧w'.cell? (tb,3)=some (.int .i32 1)∧w'.frozen? ⟨tb,2,none⟩=false∧w'.frozen? ⟨tb,3,none⟩=false)∧Q w'):
 Calls prog 112 #[.pointer (some ⟨tb,2,none⟩),.func (.func 110) #[some tb] #[]] w fun e w'=>e= .returned (.tuple #[])∧∃w2,Q w2∧w'=(w2.drew.setCell (tb,2) (.int .u32 1)).setCell (tb,3) (.int .i32 0):=by
 have hl:=run_call_load (P:=prog) func114 aK aK aK .u32 aK (w:=w.setCell (tb,3) (.int .i32 1)) (a:=⟨tb,2,none⟩) (x:=0) ((World.cell?_setCell_other _ ⟨tb,3,none⟩ ⟨tb,2,none⟩ _ aS).trans h0);have hnot:= @aX prog;have HFD:=aH hfind;clear hfind
 go_enter_defers func112,ntmps112
 go_wp2_with(go_at_call 115;refine(vY ⟨tb,3,none⟩ _ (by go_simp) (by go_simp)).mono ?_;rintro e w' ⟨rfl,rfl⟩)
 go_wp2_with(first|(go_at_call 111;go_in)|(go_at_call 110;refine HFD.o.mono ?_;rintro e w2 ⟨rfl,hk,hQ⟩;have HK:=aH hk;have HQ:=aH hQ;clear hk hQ))
 first|go_end0|skip
 obtain⟨k0,k1,z0,z1⟩:=HK.o;refine leaves_cons (f:=117) (args:=#[.pointer (some ⟨tb,2,none⟩),true]) aS (by simp[go_sem]) ?_;refine(nZ ⟨tb,2,none⟩ (.int .u32 0) .returning _ k0 z0).mono ?_;rintro e u' w'' ⟨rfl,rfl,rfl⟩;refine leaves_cons (f:=116) (args:=#[.pointer (some ⟨tb,3,none⟩)]) (by simp[settle]) (by simp[go_sem]) ?_;refine(mR ⟨tb,3,none⟩ _ _ ?_ (by simp[z1])).mono ?_
 ·exact(World.cell?_setCell_other _ ⟨tb,2,none⟩ ⟨tb,3,none⟩ _ aS).trans k1
 rintro e u' w'' ⟨rfl,rfl,rfl⟩;have HQ2:=HQ.o;simp[Leaves,settle,results,results112];exact⟨w2,HQ2,rfl⟩
theorem sD (tb:Nat) (Q:World→Prop) (w:World) (h0:w.cell? (tb,2)=some (.int .u32 0)) (h1:w.cell? (tb,3)=some (.int .i32 0)) (f1:w.frozen? ⟨tb,3,none⟩=false)
 (hfind:Calls prog 110 #[some tb] (w.setCell (tb,3) (.int .i32 1)) fun e w'=>e= .returned (.tuple #[])∧(w'.cell? (tb,2)=some (.int .u32 0)∧w'.cell? (tb,3)=some (.int .i32 1)∧w'.frozen? ⟨tb,2,none⟩=false∧w'.frozen? ⟨tb,3,none⟩=false)∧Q w'):
 Calls prog 109 #[.pointer (some ⟨tb,2,none⟩),.func (.func 110) #[some tb] #[]] w fun e w'=>e= .returned (.tuple #[])∧∃w2,Q w2∧w'=(w2.drew.setCell (tb,2) (.int .u32 1)).setCell (tb,3) (.int .i32 0):=by
 have hl:=run_call_load (P:=prog) func114 aK aK aK .u32 aK h0;have hnot:= @aX prog;have HS:=aH (wF tb Q w h0 h1 f1 hfind);clear hfind;go_enter func109,ntmps109;go_wp2_with(first|(go_at_call 112;refine HS.o.mono ?_;rintro e w' ⟨rfl,hQ⟩;have HQ:=aH hQ;clear hQ)|(go_at_call 111;go_in))
 go_end0;exact⟨rfl,HQ.o⟩
theorem vu (a:Addr) (fv:Value) (w:World) (h0:w.cell? a=some (.int .u32 1)):
 Calls prog 109 #[.pointer (some a),fv] w fun e w'=>e= .returned (.tuple #[])∧w=w':=by
 have hl:=run_call_load (P:=prog) func114 aK aK aK .u32 aK h0;have hnot:= @aX prog;go_enter func109,ntmps109;go_wp2;go_end0;exact⟨rfl,rfl⟩
end Go.Proofs.YteijjhahgabalaaGreat
