/- The contracts of sync.Once, for a table that is found when it is asked for first. -/
import Derived.Defers
import Derived.RegionCalls
import Derived.Laws.LoneSync
import Derived.Laws.Pointers
import Derived.RegionTactic
import Derived.Test.YteijjhahgabalaaGreatWF06
set_option maxRecDepth 100000
set_option maxHeartbeats 8000000
set_option linter.all false
namespace Go.Proofs.YteijjhahgabalaaGreat
open Go.RowKit
open Tryz
theorem n9(w:World):(callFunc 122 #[]).run prog w= .ok (.value (.tuple #[])) w:=run_call_mark0 func122 aK aK aK .disable aK w
theorem pT(w:World):(callFunc 124 #[]).run prog w= .ok (.value (.tuple #[])) w:=run_call_mark0 func124 aK aK aK .enable aK w
theorem uL(a:Addr)(w:World):(callFunc 125 #[.pointer (some a)]).run prog w= .ok (.value (.tuple #[])) w:=run_call_marked func125 aK aK aK .acquire aK a w
theorem uM(a:Addr)(w:World):(callFunc 127 #[.pointer (some a)]).run prog w= .ok (.value (.tuple #[])) w:=run_call_marked func127 aK aK aK .releaseMerge aK a w
theorem sB(a:Addr)(x:Value)(u:FrameMode)(w:World)(g:w.cell? a=some x)(h:w.frozen? a=false):
 CallsD prog 117 #[.pointer (some a),true] u w λe f w'=>f=u/\(e= .returned (.tuple #[])/\w'=w.drew.setCell a (.int .u32 1)):=by
 have b:w.drew.cell? a=some x:=by go_simp
 have c:w.drew.frozen? a=false:=by go_simp
 have d:=run_call_store (P:=prog) func120 aK aK aK aK (k:=.u32) (y:=1) b c
 go_enter_d func117,ntmps117
 go_wp2
 go_region_calls
 all_goals(go_end0;exact⟨rfl,rfl⟩)
theorem qi(a:Addr)(u:FrameMode)(w:World)(c:w.cell? a=some (.int .i32 1))(f:w.frozen? a=false):
 CallsD prog 116 #[.pointer (some a)] u w λe g w'=>g=u/\(e= .returned (.tuple #[])/\w'=w.setCell a (.int .i32 0)):=by
 have hd:=n9;have h:=pT;have i:=uM;have b:=run_call_add (P:=prog) func128 aK aK aK .i32 aK (y:= -1) (s:=0) c f (by simp[go_sem];rfl);have d:=run_convert_to_unsafe (P:=prog) (src:=279) (dst:=283) underlying279 underlying283 aK c
 go_enter_d func116,ntmps116
 go_wp2;go_end0;go_wp2;go_end0;exact⟨rfl,rfl⟩
theorem Be(a:Addr)(w:World)(c:w.cell? a=some (.int .i32 0))(g:w.frozen? a=false):
 Calls prog 115 #[.pointer (some a)] w λe w'=>e= .returned (.tuple #[])/\w'=w.setCell a (.int .i32 1):=by
 have hd:=n9;have h:=pT;have ha:=uL;have d:=run_call_cas_hit (P:=prog) func123 aK aK aK .i32 aK (y:=1) c g;have b:(w.setCell a (.int .i32 1)).cell? a=some (.int .i32 1):=World.cell?_setCell_same w a _ c;have f:=run_convert_to_unsafe (P:=prog) (src:=279) (dst:=283) underlying279 underlying283 aK b;go_enter func115,ntmps115;go_wp2;first|go_end0|(simp only[Exit.inBlock,Exit.then];refine eO (Ao rfl _ _ _) rfl ?_)|refine eO (Ao rfl _ _ _) rfl ?_
 go_wp2;go_end0;exact⟨rfl,rfl⟩
theorem Bl(tb:Nat)(Q:World->Prop)(w:World)(l:w.cell? (tb,2)=some (.int .u32 0))(h1:w.cell? (tb,3)=some (.int .i32 0))(f1:w.frozen? ⟨tb,3,none⟩=false)
 (b:Calls prog 110 #[some tb] (w.setCell (tb,3) (.int .i32 1)) λe w'=>e= .returned (.tuple #[])/\(w'.cell? (tb,2)=some (.int .u32 0)/\w'.cell? (tb,3)=some (.int .i32 1)/\w'.frozen? ⟨tb,2,none⟩=false/\w'.frozen? ⟨tb,3,none⟩=false)/\Q w'):
 Calls prog 112 #[.pointer (some ⟨tb,2,none⟩),.func (.func 110) #[some tb] #[]] w λe w'=>e= .returned (.tuple #[])/\∃w2,Q w2/\w'=(w2.drew.setCell (tb,2) (.int .u32 1)).setCell (tb,3) (.int .i32 0):=by
 have hl:=Al (P:=prog) func114 aK aK aK .u32 aK (w:=w.setCell (tb,3) (.int .i32 1)) (a:=⟨tb,2,none⟩) (x:=0) ((World.cell?_setCell_other _ ⟨tb,3,none⟩ ⟨tb,2,none⟩ _ aS).trans l);have i:= @aX prog;have c:=aH b;clear b
 go_enter_defers func112,ntmps112
 go_wp2_with(go_at_call 115;refine(Be ⟨tb,3,none⟩ _ (by go_simp) (by go_simp)).mono ?_;rintro e w' ⟨rfl,rfl⟩)
 go_wp2_with(first|(go_at_call 111;go_in)|(go_at_call 110;refine c.o.mono ?_;rintro e w2 ⟨rfl,h,hQ⟩;have j:=aH h;have k:=aH hQ;clear h hQ))
 first|go_end0|skip
 obtain⟨m,k1,o,p⟩:=j.o;refine leaves_cons (f:=117) (args:=#[.pointer (some ⟨tb,2,none⟩),true]) aS (by simp[go_sem]) ?_;refine(sB ⟨tb,2,none⟩ (.int .u32 0) .returning _ m o).mono ?_;rintro e n g ⟨rfl,rfl,rfl⟩;refine leaves_cons (f:=116) (args:=#[.pointer (some ⟨tb,3,none⟩)]) (by simp[settle]) (by simp[go_sem]) ?_;refine(qi ⟨tb,3,none⟩ _ _ ?_ (by simp[p])).mono ?_
 ·exact(World.cell?_setCell_other _ ⟨tb,2,none⟩ ⟨tb,3,none⟩ _ aS).trans k1
 rintro e n g ⟨rfl,rfl,rfl⟩;have d:=k.o;simp[Leaves,settle,results,results112];exact⟨w2,d,rfl⟩
theorem yB(tb:Nat)(Q:World->Prop)(w:World)(b:w.cell? (tb,2)=some (.int .u32 0))(h1:w.cell? (tb,3)=some (.int .i32 0))(f1:w.frozen? ⟨tb,3,none⟩=false)
 (a:Calls prog 110 #[some tb] (w.setCell (tb,3) (.int .i32 1)) λe w'=>e= .returned (.tuple #[])/\(w'.cell? (tb,2)=some (.int .u32 0)/\w'.cell? (tb,3)=some (.int .i32 1)/\w'.frozen? ⟨tb,2,none⟩=false/\w'.frozen? ⟨tb,3,none⟩=false)/\Q w'):
 Calls prog 109 #[.pointer (some ⟨tb,2,none⟩),.func (.func 110) #[some tb] #[]] w λe w'=>e= .returned (.tuple #[])/\∃w2,Q w2/\w'=(w2.drew.setCell (tb,2) (.int .u32 1)).setCell (tb,3) (.int .i32 0):=by
 have hl:=Al (P:=prog) func114 aK aK aK .u32 aK b;have c:= @aX prog;have f:=aH (Bl tb Q w b h1 f1 a);clear a;go_enter func109,ntmps109;go_wp2_with(first|(go_at_call 112;refine f.o.mono ?_;rintro e w' ⟨rfl,hQ⟩;have d:=aH hQ;clear hQ)|(go_at_call 111;go_in))
 go_end0;exact⟨rfl,d.o⟩
theorem Bk(a:Addr)(c:Value)(w:World)(d:w.cell? a=some (.int .u32 1)):
 Calls prog 109 #[.pointer (some a),c] w λe w'=>e= .returned (.tuple #[])/\w=w':=by
 have hl:=Al (P:=prog) func114 aK aK aK .u32 aK d;have b:= @aX prog;go_enter func109,ntmps109;go_wp2;go_end0;exact⟨rfl,rfl⟩
end Go.Proofs.YteijjhahgabalaaGreat
