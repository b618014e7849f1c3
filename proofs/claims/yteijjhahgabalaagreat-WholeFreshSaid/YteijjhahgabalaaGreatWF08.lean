/- The contracts of package field and of its reference: each function computes plain arithmetic of its word, and writes nothing. -/
import Derived.Test.YteijjhahgabalaaGreatProg
import Derived.WalkKit
import Derived.WalkSpells
import Derived.Deep.QuietTactic
import Derived.BigQuiet
import Derived.Test.YteijjhahgabalaaGreatWF05
import Derived.Test.YteijjhahgabalaaGreatWF03
set_option maxRecDepth 100000
set_option maxHeartbeats 8000000
set_option linter.all false
namespace Go.Proofs.YteijjhahgabalaaGreat
open Go.RowKit
open Tryz
def jS(x:Int):Int:=x%65536
def yb(x:Int):Int:=x%9223372036854775808/65536
def Nn(x:Int):Int:=if x<0 then 1 else 0
def zj(x v:Int):Int:=x - x%65536+v%65536
def Dc(x v:Int):Int:=x/9223372036854775808*9223372036854775808+v%140737488355328*65536+x%65536
def o4(v:Int):Bool:=decide (0<=v/\v<65536)
def o5(v:Int):Bool:=decide (0<=v/\v<140737488355328)
theorem NY(w:World):Calls prog 279 #[.int .i64 0] w λe w'=>e= .returned (.tuple #[.int .i64 0,.int .i64 16])/\w=w':=by
 go_enter func279,ntmps279;go_wp2;go_ret2;exact⟨rfl,rfl⟩
theorem NZ(w:World):Calls prog 279 #[.int .i64 1] w λe w'=>e= .returned (.tuple #[.int .i64 16,.int .i64 47])/\w=w':=by
 go_enter func279,ntmps279;go_wp2;go_ret2;exact⟨rfl,rfl⟩
theorem Qu(w:World):Calls prog 279 #[.int .i64 2] w λe w'=>e= .returned (.tuple #[.int .i64 63,.int .i64 1])/\w=w':=by
 go_enter func279,ntmps279;go_wp2;go_ret2;exact⟨rfl,rfl⟩
theorem Nr(x:Int)(w:World):Calls prog 278 #[.int .i64 x,.int .i64 0] w λe w'=>e= .returned (.int .i64 (jS x))/\∃n,w'=w.drewN n:=by
 go_enter func278,ntmps278;go_wp2_with(go_at_call 279;refine(NY _).mono ?_;rintro e w' ⟨rfl,rfl⟩)
 go_quiet (fail)
 go_wp2;go_ret;exact⟨eW (Fld.get_index x),_,rfl⟩
theorem Ns(x:Int)(w:World):Calls prog 278 #[.int .i64 x,.int .i64 1] w λe w'=>e= .returned (.int .i64 (yb x))/\∃n,w'=w.drewN n:=by
 go_enter func278,ntmps278;go_wp2_with(go_at_call 279;refine(NZ _).mono ?_;rintro e w' ⟨rfl,rfl⟩)
 go_quiet (fail)
 go_wp2;go_ret;exact⟨eW (Fld.get_number x),_,rfl⟩
theorem P9(x:Int)(a:jp x)(w:World):Calls prog 278 #[.int .i64 x,.int .i64 2] w λe w'=>e= .returned (.int .i64 (Nn x))/\∃n,w'=w.drewN n:=by
 go_enter func278,ntmps278;go_wp2_with(go_at_call 279;refine(Qu _).mono ?_;rintro e w' ⟨rfl,rfl⟩)
 go_quiet (fail)
 go_wp2;go_ret;exact⟨eW (Fld.get_mark x a.1 a.2),_,rfl⟩
theorem OM(x v:Int)(a:jp x)(w:World):Calls prog 277 #[.int .i64 x,.int .i64 0,.int .i64 v] w λe w'=>e= .returned (.int .i64 (zj x v))/\w=w':=by
 go_enter func277,ntmps277;go_wp2_with(go_at_call 279;refine(NY _).mono ?_;rintro e w' ⟨rfl,rfl⟩)
 go_ret;exact⟨eW (Fld.set_index x v a.1 a.2),rfl⟩
theorem ON(x v:Int)(a:jp x)(w:World):Calls prog 277 #[.int .i64 x,.int .i64 1,.int .i64 v] w λe w'=>e= .returned (.int .i64 (Dc x v))/\w=w':=by
 go_enter func277,ntmps277;go_wp2_with(go_at_call 279;refine(NZ _).mono ?_;rintro e w' ⟨rfl,rfl⟩)
 go_ret;exact⟨eW (Fld.set_number x v a.1 a.2),rfl⟩
theorem Df(v:Int)(w:World):Calls prog 276 #[.int .i64 0,.int .i64 v] w λe w'=>e= .returned (.bool (o4 v))/\∃n,w'=w.drewN n:=by
 go_enter func276,ntmps276;go_wp2_with fail;refine(OM _ _ (by unfold jp;omega) _).mono ?_;rintro e w' ⟨rfl,rfl⟩;go_wp2_with fail;refine(Nr _ _).mono ?_;rintro e w' ⟨rfl,n,rfl⟩;go_wp2;go_ret;refine⟨l9 ?_,_,rfl⟩;unfold o4 jS zj;rw[Bool.eq_iff_iff];simp;omega
theorem Jo(v:Int)(w:World):Calls prog 276 #[.int .i64 1,.int .i64 v] w λe w'=>e= .returned (.bool (o5 v))/\∃n,w'=w.drewN n:=by
 go_enter func276,ntmps276;go_wp2_with fail;refine(ON _ _ (by unfold jp;omega) _).mono ?_;rintro e w' ⟨rfl,rfl⟩;go_wp2_with fail;refine(Ns _ _).mono ?_;rintro e w' ⟨rfl,n,rfl⟩;go_wp2;go_ret;refine⟨l9 ?_,_,rfl⟩;unfold o5 yb Dc;rw[Bool.eq_iff_iff];simp;omega
theorem oG(x:Int)(w:World):Calls prog 272 #[.int .i64 x] w λe w'=>e= .returned (.int .i64 (jS x))/\∃n,w'=w.drewN n:=by
 go_enter func272,ntmps272;go_wp2_with fail;refine(Nr _ _).mono ?_;rintro e w' ⟨rfl,n,rfl⟩;go_wp2;go_ret;exact⟨rfl,_,rfl⟩
theorem xI(x:Int)(w:World):Calls prog 274 #[.int .i64 x] w λe w'=>e= .returned (.int .i64 (yb x))/\∃n,w'=w.drewN n:=by
 go_enter func274,ntmps274;go_wp2_with fail;refine(Ns _ _).mono ?_;rintro e w' ⟨rfl,n,rfl⟩;go_wp2;go_ret;exact⟨rfl,_,rfl⟩
def nQ(x:Int):Bool:=decide (x<0)
theorem mV(x:Int)(a:jp x)(w:World):Calls prog 273 #[.int .i64 x] w λe w'=>e= .returned (.bool (nQ x))/\∃n,w'=w.drewN n:=by
 go_enter func273,ntmps273;go_wp2_with fail;refine(P9 _ a _).mono ?_;rintro e w' ⟨rfl,n,rfl⟩;go_wp2;go_ret;refine⟨l9 ?_,_,rfl⟩;unfold nQ Nn;rw[Bool.eq_iff_iff];simp
def gY(i n:Int):Bool:=decide (0<=i/\i<65536/\0<=n/\n<140737488355328)
def pO(i n:Int):Int:=if gY i n then n*65536+i else 0
def uk(i n:Int):Int:=if gY i n then 0 else 1
theorem Cc(i n:Int)(w:World):Calls prog 271 #[.int .i64 i,.int .i64 n] w λe w'=>e= .returned (.tuple #[.int .i64 (pO i n),.int .i64 (uk i n)])/\∃n,w'=w.drewN n:=by
 by_cases h1:0<=i/\i<65536
 ·have f1:o4 i=true:=by unfold o4;simpa using h1
  by_cases h2:0<=n/\n<140737488355328
  ·have f2:o5 n=true:=by unfold o5;simpa using h2
   go_enter func271,ntmps271;go_wp2_with fail;refine(Df _ _).mono ?_;rintro e w' ⟨rfl,k,rfl⟩;go_wp2_with fail;refine(Jo _ _).mono ?_;rintro e w' ⟨rfl,b,rfl⟩;go_wp2_with fail;refine(OM _ _ (by unfold jp;omega) _).mono ?_;rintro e w' ⟨rfl,rfl⟩;go_wp2_with fail;refine(ON _ _ (by unfold jp zj;omega) _).mono ?_;rintro e w' ⟨rfl,rfl⟩;go_wp2;go_ret2;have a:gY i n=true:=by unfold gY;simp;omega
   refine⟨sg ?_ ?_,_,rfl⟩
   ·unfold pO Dc zj;rw[a];simp;omega
   ·unfold uk;rw[a];rfl
  ·have f2:o5 n=false:=by unfold o5;simpa using h2
   go_enter func271,ntmps271;go_wp2_with fail;refine(Df _ _).mono ?_;rintro e w' ⟨rfl,k,rfl⟩;go_wp2_with fail;refine(Jo _ _).mono ?_;rintro e w' ⟨rfl,b,rfl⟩;go_wp2;go_ret2;have a:gY i n=false:=by unfold gY;simp;omega
   refine⟨sg ?_ ?_,_,rfl⟩
   ·unfold pO;rw[a];rfl
   ·unfold uk;rw[a];rfl
 ·have f1:o4 i=false:=by unfold o4;simpa using h1
  go_enter func271,ntmps271;go_wp2_with fail;refine(Df _ _).mono ?_;rintro e w' ⟨rfl,k,rfl⟩;go_wp2;go_ret2;have a:gY i n=false:=by unfold gY;simp;omega
  refine⟨sg ?_ ?_,_,rfl⟩
  ·unfold pO;rw[a];rfl
  ·unfold uk;rw[a];rfl
end Go.Proofs.YteijjhahgabalaaGreat
