/- The contracts of malthus: Ask, Leave, a step of any number, and what the law does with a lock. -/
import Derived.Test.YteijjhahgabalaaGreatWA22
set_option maxRecDepth 100000
set_option maxHeartbeats 8000000
set_option linter.all false
namespace Go.Proofs.YteijjhahgabalaaGreat
open Go.RowKit
open Tryz
section
variable{w w':World} {lb sb bb ab wb tail first n:Nat} {bud:Int} {A:AR} {B:BK} {d:Int} {S:Nat→Nat→Int} {m:MS}
theorem BD (h:bG w lb sb bb ab wb tail first n bud A B d S) (i fr tz:Int) (hno:¬(aZ n i=true∧S i.toNat 0=fr)):Calls prog 309 #[some lb,i,fr,tz] w fun e w'=>e= .returned false∧w=w':=by
 have HT:=aH (ik h);by_cases hneg:i<0
 ·have d1:decide (i<0)=true:=by simpa using hneg
  clear h hno;go_enter func309,ntmps309;go_wp2;go_ret;exact⟨rfl,rfl⟩
 have d1:decide (i<0)=false:=by simpa using hneg
 by_cases hbig:(n:Int)≤i
 ·have d2:decide ((n:Int)≤i)=true:=by simpa using hbig
  clear h hno;go_enter func309,ntmps309;go_wp2_with fail;refine HT.o.mono ?_;rintro e w' ⟨rfl,rfl⟩;go_wp2;go_ret;exact⟨rfl,rfl⟩
 obtain⟨j,rfl⟩:∃j:Nat,i=j:=⟨i.toNat,by omega⟩
 have hj:j<n:=by omega
 have d2:decide ((n:Int)≤j)=false:=by simp;omega
 have d3:decide (n≤j)=false:=by simp;omega
 have l1:(j:Int)<n:=by omega
 have c0:=h.p0 hj;have c5:=h.box.cell (i:=5) rfl;have hn:=h.n32;have hne:¬S j 0=fr:=fun e=>hno ⟨by unfold aZ;simp;omega,by simpa using e⟩;have d4:(S j 0 !=fr)=true:=by simpa using hne
 have d5:(S j 0==fr)=false:=by simpa using hne
 clear h hno hne hneg hbig;generalize S j 0=p at*;go_enter func309,ntmps309;go_wp2_with fail;refine HT.o.mono ?_;rintro e w' ⟨rfl,rfl⟩;go_wp2;go_ret;exact⟨rfl,rfl⟩
theorem zO (h:bG w lb sb bb ab wb tail first n bud A B d S) {j:Nat} (hj:j<n) (fr tz:Int) (h0:S j 0=fr):Calls prog 309 #[some lb,j,fr,tz] w fun e w'=>e= .returned true∧
 bG w' lb sb bb ab wb tail first n bud A B d (ac S j 0 tz)∧ae [sb] w w':=by
 have HT:=aH (ik h);have d1:decide ((j:Int)<0)=false:=by simp
 have d2:decide ((n:Int)≤j)=false:=by simp;omega
 have d3:decide (n≤j)=false:=by simp;omega
 have l1:(j:Int)<n:=by omega
 have c0:w.cell? (sb,j*4)=some (.int .i64 fr):=by rw[←h0];exact h.p0 hj
 have c5:=h.box.cell (i:=5) rfl;have hz:=h.row.frozen;have hn:=h.n32;have HM:=aH (h.put j (t:=0) aO tz);clear h h0 hj;go_enter func309,ntmps309;go_wp2_with fail;refine HT.o.mono ?_;rintro e w' ⟨rfl,rfl⟩;go_wp2;go_ret;exact⟨rfl,HM.o,(ae.refl [sb] w).set ⟨sb,j*4,none⟩ (.int .i64 tz) (.inl aS)⟩
def gv (n:Nat) (m:MS) (i fr:Int):Bool:=aZ n i&&(m.S i.toNat 0==fr)
def nu (n:Nat) (m:MS) (i fr tz:Int):MS:=if gv n m i fr then{m with S:=ac m.S i.toNat 0 tz} else m
theorem rI (h:dX w lb sb bb ab wb tail first n bud m) (i fr tz:Int):Calls prog 309 #[some lb,i,fr,tz] w fun e w'=>e= .returned (.bool (gv n m i fr))∧
 dX w' lb sb bb ab wb tail first n bud (nu n m i fr tz)∧ae [sb] w w':=by
 by_cases hb:aZ n i=true∧m.S i.toNat 0=fr
 ·have hok:gv n m i fr=true:=by unfold gv;rw[hb.1,hb.2];simp
  have hi':0≤i∧i<(n:Int):=by have:=hb.1;unfold aZ at this;simpa using this
  obtain⟨j,rfl⟩:=Int.eq_ofNat_of_zero_le hi'.1;have hm:nu n m j fr tz={m with S:=ac m.S j 0 tz}:=by unfold nu;rw[if_pos hok];rfl
  rw[hok,hm];exact zO h aO fr tz (by simpa using hb.2)
 ·have hok:gv n m i fr=false:=by unfold gv;simp;exact fun e=>by simpa using fun g=>hb ⟨e,g⟩
  have hm:nu n m i fr tz=m:=by unfold nu;rw[hok];rfl
  rw[hok,hm];exact(BD h i fr tz hb).mono fun e w' ⟨h1,h2⟩=>by subst h2;exact⟨h1,h,aF⟩
theorem Aj (h:dX w lb sb bb ab wb tail first n bud m) (i:Int):Calls prog 304 #[some lb,i] w fun e w'=>e= .returned (.bool (gv n m i 0))∧
 dX w' lb sb bb ab wb tail first n bud (nu n m i 0 1)∧ae [sb] w w':=by
 have HB:=aH (rI h i 0 1);clear h;go_enter func304,ntmps304;go_wp2_with fail;refine HB.o.mono ?_;rintro e w' ⟨rfl,hM⟩;have HM:=aH hM;clear hM;go_wp2;go_ret;exact⟨rfl,HM.o⟩
theorem tQ (h:dX w lb sb bb ab wb tail first n bud m) (i:Int):Calls prog 305 #[some lb,i] w fun e w'=>e= .returned (.bool (gv n m i 10))∧
 dX w' lb sb bb ab wb tail first n bud (nu n m i 10 11)∧ae [sb] w w':=by
 have HB:=aH (rI h i 10 11);clear h;go_enter func305,ntmps305;go_wp2_with fail;refine HB.o.mono ?_;rintro e w' ⟨rfl,hM⟩;have HM:=aH hM;clear hM;go_wp2;go_ret;exact⟨rfl,HM.o⟩
def lQ (tail first n:Nat) (bud:Int) (m:MS) (i:Int):MS:=if aZ n i then mStep tail first n bud m i.toNat else m
def nc (tail first n:Nat) (bud:Int) (m:MS) (i:Int):Bool:=if aZ n i then qr tail first n bud m i.toNat else false
theorem vU (h:dX w lb sb bb ab wb tail first n bud m) (i:Int) (hp:∀j,j<n→fD (m.S j 0)):Calls prog 307 #[some lb,i] w fun e w'=>e= .returned (.bool (nc tail first n bud m i))∧
 dX w' lb sb bb ab wb tail first n bud (lQ tail first n bud m i)∧ae [lb,sb,bb,ab,wb] w w':=by
 by_cases hb:aZ n i=true
 ·have hi':0≤i∧i<(n:Int):=by unfold aZ at hb;simpa using hb
  obtain⟨j,rfl⟩:=Int.eq_ofNat_of_zero_le hi'.1;have h1:lQ tail first n bud m j=mStep tail first n bud m j:=if_pos hb;have h2:nc tail first n bud m j=qr tail first n bud m j:=if_pos hb;rw[h1,h2];exact yG h aO (hp _ aO)
 ·have h1:lQ tail first n bud m i=m:=if_neg hb;have h2:nc tail first n bud m i=false:=if_neg hb;rw[h1,h2];exact(zn h i (.inl (by simpa using hb))).mono fun e w' ⟨h1,h2⟩=>⟨h1,h.frm h2 aS,h2.mono aS⟩
end
end Go.Proofs.YteijjhahgabalaaGreat
