/- The contracts of package field and of its reference: each function computes plain arithmetic of its word, and writes nothing. -/
import Derived.Test.YteijjhahgabalaaGreatProg
import Derived.WalkKit
import Derived.WalkSpells
import Derived.Deep.QuietTactic
import Derived.BigQuiet
import Derived.Test.YteijjhahgabalaaGreatWA01
import Derived.Test.YteijjhahgabalaaGreatWA04
set_option maxRecDepth 100000
set_option maxHeartbeats 8000000
set_option linter.all false
namespace Go.Proofs.YteijjhahgabalaaGreat
open Go.RowKit
open Tryz
def iM (x:Int):Int:=x%65536
def zX (x:Int):Int:=x%9223372036854775808/65536
def Jk (x:Int):Int:=if x<0 then 1 else 0
def uP (x v:Int):Int:=x - x%65536+v%65536
def Ai (x v:Int):Int:=x/9223372036854775808*9223372036854775808+v%140737488355328*65536+x%65536
def lh (v:Int):Bool:=decide (0≤v∧v<65536)
def lO (v:Int):Bool:=decide (0≤v∧v<140737488355328)
theorem Jh (w:World):Calls prog 279 #[.int .i64 0] w fun e w'=>e= .returned (.tuple #[.int .i64 0,.int .i64 16])∧w=w':=by
 go_enter func279,ntmps279;go_wp2;go_ret2;exact⟨rfl,rfl⟩
theorem G4 (w:World):Calls prog 279 #[.int .i64 1] w fun e w'=>e= .returned (.tuple #[.int .i64 16,.int .i64 47])∧w=w':=by
 go_enter func279,ntmps279;go_wp2;go_ret2;exact⟨rfl,rfl⟩
theorem J7 (w:World):Calls prog 279 #[.int .i64 2] w fun e w'=>e= .returned (.tuple #[.int .i64 63,.int .i64 1])∧w=w':=by
 go_enter func279,ntmps279;go_wp2;go_ret2;exact⟨rfl,rfl⟩
theorem Ja (x:Int) (w:World):Calls prog 278 #[.int .i64 x,.int .i64 0] w fun e w'=>e= .returned (.int .i64 (iM x))∧∃n,w'=w.drewN n:=by
 go_enter func278,ntmps278;go_wp2_with(go_at_call 279;refine(Jh _).mono ?_;rintro e w' ⟨rfl,rfl⟩)
 go_quiet (fail)
 go_wp2;go_ret;exact⟨cP (Fld.get_index x),_,rfl⟩
theorem GA (x:Int) (w:World):Calls prog 278 #[.int .i64 x,.int .i64 1] w fun e w'=>e= .returned (.int .i64 (zX x))∧∃n,w'=w.drewN n:=by
 go_enter func278,ntmps278;go_wp2_with(go_at_call 279;refine(G4 _).mono ?_;rintro e w' ⟨rfl,rfl⟩)
 go_quiet (fail)
 go_wp2;go_ret;exact⟨cP (Fld.get_number x),_,rfl⟩
theorem JE (x:Int) (hx:fP x) (w:World):Calls prog 278 #[.int .i64 x,.int .i64 2] w fun e w'=>e= .returned (.int .i64 (Jk x))∧∃n,w'=w.drewN n:=by
 go_enter func278,ntmps278;go_wp2_with(go_at_call 279;refine(J7 _).mono ?_;rintro e w' ⟨rfl,rfl⟩)
 go_quiet (fail)
 go_wp2;go_ret;exact⟨cP (Fld.get_mark x hx.1 hx.2),_,rfl⟩
theorem Ij (x v:Int) (hx:fP x) (w:World):Calls prog 277 #[.int .i64 x,.int .i64 0,.int .i64 v] w fun e w'=>e= .returned (.int .i64 (uP x v))∧w=w':=by
 go_enter func277,ntmps277;go_wp2_with(go_at_call 279;refine(Jh _).mono ?_;rintro e w' ⟨rfl,rfl⟩)
 go_ret;exact⟨cP (Fld.set_index x v hx.1 hx.2),rfl⟩
theorem Gv (x v:Int) (hx:fP x) (w:World):Calls prog 277 #[.int .i64 x,.int .i64 1,.int .i64 v] w fun e w'=>e= .returned (.int .i64 (Ai x v))∧w=w':=by
 go_enter func277,ntmps277;go_wp2_with(go_at_call 279;refine(G4 _).mono ?_;rintro e w' ⟨rfl,rfl⟩)
 go_ret;exact⟨cP (Fld.set_number x v hx.1 hx.2),rfl⟩
theorem Ae (v:Int) (w:World):Calls prog 276 #[.int .i64 0,.int .i64 v] w fun e w'=>e= .returned (.bool (lh v))∧∃n,w'=w.drewN n:=by
 go_enter func276,ntmps276;go_wp2_with fail;refine(Ij _ _ (by unfold fP;omega) _).mono ?_;rintro e w' ⟨rfl,rfl⟩;go_wp2_with fail;refine(Ja _ _).mono ?_;rintro e w' ⟨rfl,n,rfl⟩;go_wp2;go_ret;refine⟨bH ?_,_,rfl⟩;unfold lh iM uP;rw[Bool.eq_iff_iff];simp;omega
theorem Df (v:Int) (w:World):Calls prog 276 #[.int .i64 1,.int .i64 v] w fun e w'=>e= .returned (.bool (lO v))∧∃n,w'=w.drewN n:=by
 go_enter func276,ntmps276;go_wp2_with fail;refine(Gv _ _ (by unfold fP;omega) _).mono ?_;rintro e w' ⟨rfl,rfl⟩;go_wp2_with fail;refine(GA _ _).mono ?_;rintro e w' ⟨rfl,n,rfl⟩;go_wp2;go_ret;refine⟨bH ?_,_,rfl⟩;unfold lO zX Ai;rw[Bool.eq_iff_iff];simp;omega
theorem lG (x:Int) (w:World):Calls prog 272 #[.int .i64 x] w fun e w'=>e= .returned (.int .i64 (iM x))∧∃n,w'=w.drewN n:=by
 go_enter func272,ntmps272;go_wp2_with fail;refine(Ja _ _).mono ?_;rintro e w' ⟨rfl,n,rfl⟩;go_wp2;go_ret;exact⟨rfl,_,rfl⟩
theorem sE (x:Int) (w:World):Calls prog 274 #[.int .i64 x] w fun e w'=>e= .returned (.int .i64 (zX x))∧∃n,w'=w.drewN n:=by
 go_enter func274,ntmps274;go_wp2_with fail;refine(GA _ _).mono ?_;rintro e w' ⟨rfl,n,rfl⟩;go_wp2;go_ret;exact⟨rfl,_,rfl⟩
def mX (x:Int):Bool:=decide (x<0)
theorem jZ (x:Int) (hx:fP x) (w:World):Calls prog 273 #[.int .i64 x] w fun e w'=>e= .returned (.bool (mX x))∧∃n,w'=w.drewN n:=by
 go_enter func273,ntmps273;go_wp2_with fail;refine(JE _ hx _).mono ?_;rintro e w' ⟨rfl,n,rfl⟩;go_wp2;go_ret;refine⟨bH ?_,_,rfl⟩;unfold mX Jk;rw[Bool.eq_iff_iff];simp
def fE (i n:Int):Bool:=decide (0≤i∧i<65536∧0≤n∧n<140737488355328)
def oo (i n:Int):Int:=if fE i n then n*65536+i else 0
def qB (i n:Int):Int:=if fE i n then 0 else 1
theorem zf (i n:Int) (w:World):Calls prog 271 #[.int .i64 i,.int .i64 n] w fun e w'=>e= .returned (.tuple #[.int .i64 (oo i n),.int .i64 (qB i n)])∧∃n,w'=w.drewN n:=by
 by_cases h1:0≤i∧i<65536
 ·have f1:lh i=true:=by unfold lh;simpa using h1
  by_cases h2:0≤n∧n<140737488355328
  ·have f2:lO n=true:=by unfold lO;simpa using h2
   go_enter func271,ntmps271;go_wp2_with fail;refine(Ae _ _).mono ?_;rintro e w' ⟨rfl,k,rfl⟩;go_wp2_with fail;refine(Df _ _).mono ?_;rintro e w' ⟨rfl,k',rfl⟩;go_wp2_with fail;refine(Ij _ _ (by unfold fP;omega) _).mono ?_;rintro e w' ⟨rfl,rfl⟩;go_wp2_with fail;refine(Gv _ _ (by unfold fP uP;omega) _).mono ?_;rintro e w' ⟨rfl,rfl⟩;go_wp2;go_ret2;have hok:fE i n=true:=by unfold fE;simp;omega
   refine⟨oJ ?_ ?_,_,rfl⟩
   ·unfold oo Ai uP;rw[hok];simp;omega
   ·unfold qB;rw[hok];rfl
  ·have f2:lO n=false:=by unfold lO;simpa using h2
   go_enter func271,ntmps271;go_wp2_with fail;refine(Ae _ _).mono ?_;rintro e w' ⟨rfl,k,rfl⟩;go_wp2_with fail;refine(Df _ _).mono ?_;rintro e w' ⟨rfl,k',rfl⟩;go_wp2;go_ret2;have hok:fE i n=false:=by unfold fE;simp;omega
   refine⟨oJ ?_ ?_,_,rfl⟩
   ·unfold oo;rw[hok];rfl
   ·unfold qB;rw[hok];rfl
 ·have f1:lh i=false:=by unfold lh;simpa using h1
  go_enter func271,ntmps271;go_wp2_with fail;refine(Ae _ _).mono ?_;rintro e w' ⟨rfl,k,rfl⟩;go_wp2;go_ret2;have hok:fE i n=false:=by unfold fE;simp;omega
  refine⟨oJ ?_ ?_,_,rfl⟩
  ·unfold oo;rw[hok];rfl
  ·unfold qB;rw[hok];rfl
end Go.Proofs.YteijjhahgabalaaGreat
