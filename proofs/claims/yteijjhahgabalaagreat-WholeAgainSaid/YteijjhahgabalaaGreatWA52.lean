/- A world of any of the thirteen kinds; the law that a script is all that counts. -/
import Derived.Test.YteijjhahgabalaaGreatWA38
import Derived.Test.YteijjhahgabalaaGreatWA35
import Derived.Test.YteijjhahgabalaaGreatWA32
import Derived.Test.YteijjhahgabalaaGreatWA48
import Derived.Test.YteijjhahgabalaaGreatWA33
import Derived.Test.YteijjhahgabalaaGreatWA51
import Derived.Test.YteijjhahgabalaaGreatWA45
import Derived.Test.YteijjhahgabalaaGreatWA37
set_option maxRecDepth 100000
set_option maxHeartbeats 8000000
set_option linter.all false
namespace Go.Proofs.YteijjhahgabalaaGreat
open Go.RowKit
open Tryz
theorem xM {P T:List Int} (hT:du P T) (x0 x1 x2 x3:Int):∃(p:LP) (s0:p.σ),fR P T (kM x0 x1 x2 x3) p s0:=by
 have hg:1≤1+x0%5∧1+x0%5≤5:=by omega
 have hl:1≤1+x1%5∧1+x1%5≤5:=by omega
 have hp:1≤1+x2/4%4∧1+x2/4%4≤32:=by omega
 have hb:0≤x2%4∧x2%4≤1000:=by omega
 have hk:1≤1+x3%13∧1+x3%13≤13:=by omega
 unfold kM;generalize 1+x0%5=g at*;generalize 1+x1%5=l at*;generalize 1+x2/4%4=par at*;generalize x2%4=bud at*;generalize 1+x3%13=k at*;by_cases h5:k≤5
 ·exact⟨_,_,mo hT ⟨hk.1,h5⟩ hp⟩
 have hc:k=6∨k=7∨k=8∨k=9∨k=10∨k=11∨k=12∨k=13:=by omega
 clear hk h5;rcases hc with rfl|rfl|rfl|rfl|rfl|rfl|rfl|rfl
 ·exact⟨_,_,Kk hT hg hl hp hb⟩
 ·exact⟨_,_,ms hT hb⟩
 ·exact⟨_,_,mt hT hb⟩
 ·exact⟨_,_,oQ hT hb⟩
 ·exact⟨_,_,jK hT hb⟩
 ·exact⟨_,_,jL hT hg hl hp hb⟩
 ·exact⟨_,_,jS hT hg hl hp hb⟩
 ·exact⟨_,_,jV hT hg hl hp hb⟩
theorem pT {x:Int} (h:U8 x):0≤x∧x<256:=by unfold U8 at h;omega
theorem wholeAgain_walk (v0:Value) (PT:List Int×List Int) (x0 x1 x2 x3:Int) (v2:Value) (c:List (Int×Int)×Int) (w:World) (h0:xt w v0 PT) (y0:U8 x0) (y1:U8 x1) (y2:U8 x2) (y3:U8 x3) (h2:pm w v2 c):
 Calls prog 5 #[v0,.agg #[.int .u8 x0,.int .u8 x1,.int .u8 x2,.int .u8 x3],v2] w fun e w'=>e= .returned true∧Below w.heap.size w w':=by
 obtain⟨a,b,rfl,ha,hb⟩:=h0;obtain⟨l,rfl,hl,hc⟩:=h2;exact cE (fun h=>xM h.1 x0 x1 x2 x3) ha hb (pT y0) (pT y1) (pT y2) (pT y3) hc hl fW
end Go.Proofs.YteijjhahgabalaaGreat
