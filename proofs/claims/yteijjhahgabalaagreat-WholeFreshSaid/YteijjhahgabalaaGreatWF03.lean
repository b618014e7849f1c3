/- Plain facts on the bits of a 64-bit word: what masks and shifts give, as arithmetic; no condition. -/
import Derived.WalkKit
set_option maxRecDepth 100000
set_option maxHeartbeats 8000000
set_option linter.all false
namespace Go.Proofs.YteijjhahgabalaaGreat
open Go.RowKit
namespace Fld
theorem MA(a:Int):(BitVec.ofInt 64 a)=BitVec.ofNat 64 (a%18446744073709551616).toNat:=by
 apply BitVec.eq_of_toNat_eq;simp only[BitVec.toNat_ofInt,BitVec.toNat_ofNat];have b:(0:Int)<=a%18446744073709551616:=Int.emod_nonneg _ (by decide);have h1:a%18446744073709551616<18446744073709551616:=Int.emod_lt_of_pos _ (by decide);have:((2:Nat) ^ 64:Nat)=18446744073709551616:=by decide
 rw[this];have h2:(a%18446744073709551616).toNat<18446744073709551616:=by omega
 rw[Nat.mod_eq_of_lt h2];rfl
theorem ED(at_ len:Nat)(h:at_+len<=64)(a b:Nat)(ha:a<2 ^ 64):
 ((BitVec.ofNat 64 a&&& ~~~ BitVec.ofNat 64 ((2 ^ len - 1)*2 ^ at_))|||(BitVec.ofNat 64 b&&& BitVec.ofNat 64 ((2 ^ len - 1)*2 ^ at_))).toNat
  =2 ^ at_*(2 ^ len*(a/2 ^ (at_+len))+(b/2 ^ at_)%2 ^ len)+a%2 ^ at_:=by
 apply Nat.eq_of_testBit_eq;intro i;have d:a%2 ^ at_<2 ^ at_:=Nat.mod_lt _ (Nat.two_pow_pos _);have e:(b/2 ^ at_)%2 ^ len<2 ^ len:=Nat.mod_lt _ (Nat.two_pow_pos _);rw[Nat.testBit_two_pow_mul_add _ d,Nat.testBit_two_pow_mul_add _ e];rw[BitVec.testBit_toNat];by_cases hi:i<64
 ·simp only[BitVec.getLsbD_or,BitVec.getLsbD_and,BitVec.getLsbD_not,BitVec.getLsbD_ofNat,hi,decide_true,Bool.true_and,Nat.testBit_mul_two_pow,Nat.testBit_two_pow_sub_one,Nat.testBit_mod_two_pow,Nat.testBit_div_two_pow];by_cases h1:i<at_
  ·have:¬at_<=i:=by omega
   simp[h1,this]
  ·have h2:at_<=i:=by omega
   by_cases h3:i - at_<len
   ·have c:i - at_+at_=i:=by omega
    simp[h1,h2,h3,c]
   ·have c:i - at_ - len+(at_+len)=i:=by omega
    simp[h1,h2,h3,c]
 ·rw[BitVec.getLsbD_of_ge _ _ (by omega)];have g1:¬i<at_:=by omega
  have g2:¬i - at_<len:=by omega
  simp only[g1,g2,if_false,Nat.testBit_div_two_pow]
  symm
  apply Nat.testBit_lt_two_pow
  calc a<2 ^ 64:=ha
   _<=_:=Nat.pow_le_pow_right (by decide) (by omega)
theorem oy(n:Nat)(h:n<18446744073709551616):IntKind.u64.wrap (n:Int)=n:=IntWalk.u64_in _ (by omega)
theorem qX(at_ len:Nat)(h:at_+len<=64)(a b:Nat)(ha:a<2 ^ 64)(m:Int)(hm:m=(((2 ^ len - 1)*2 ^ at_:Nat):Int)):
 bits .or .u64 (bits .andNot .u64 (a:Int) m) (bits .and .u64 (b:Int) m)
  =((2 ^ at_*(2 ^ len*(a/2 ^ (at_+len))+(b/2 ^ at_)%2 ^ len)+a%2 ^ at_:Nat):Int):=by
 subst hm;have e:∀n:Nat,BitVec.ofInt IntKind.u64.bits (n:Int)=BitVec.ofNat 64 n:=λn=>by
  show BitVec.ofInt 64 (n:Int)=_;exact BitVec.ofInt_natCast 64 n
 have r:∀x:BitVec 64,IntKind.u64.wrap (x.toNat:Int)=x.toNat:=λx=>oy _ x.isLt;rw[<-ED at_ len h a b ha];have k1:bits .andNot .u64 (a:Int) (((2 ^ len - 1)*2 ^ at_:Nat):Int)=(((BitVec.ofNat 64 a&&& ~~~ BitVec.ofNat 64 ((2 ^ len - 1)*2 ^ at_))).toNat:Int):=by
  unfold bits;simp only[e];exact r _
 have k2:bits .and .u64 (b:Int) (((2 ^ len - 1)*2 ^ at_:Nat):Int)=(((BitVec.ofNat 64 b&&& BitVec.ofNat 64 ((2 ^ len - 1)*2 ^ at_))).toNat:Int):=by
  unfold bits;simp only[e];exact r _
 rw[k1,k2];unfold bits;simp only[e];rw[BitVec.ofNat_toNat,BitVec.ofNat_toNat,BitVec.setWidth_eq,BitVec.setWidth_eq];exact r _
theorem oJ(len:Nat)(h:len<=64)(a:Nat)(ha:a<2 ^ 64)(m:Int)(hm:m=((2 ^ len - 1:Nat):Int)):
 bits .and .u64 (a:Int) m=((a%2 ^ len:Nat):Int):=by
 subst hm;have e:∀n:Nat,BitVec.ofInt IntKind.u64.bits (n:Int)=BitVec.ofNat 64 n:=λn=>by
  show BitVec.ofInt 64 (n:Int)=_;exact BitVec.ofInt_natCast 64 n
 have r:∀x:BitVec 64,IntKind.u64.wrap (x.toNat:Int)=x.toNat:=λx=>oy _ x.isLt;unfold bits;simp only[e];refine(r _).trans ?_;congr 1;show(BitVec.ofNat 64 a&&& BitVec.ofNat 64 (2 ^ len - 1)).toNat=_;simp only[BitVec.toNat_and,BitVec.toNat_ofNat];have h2:2 ^ len - 1<2 ^ 64:=by
  have:2 ^ len<=2 ^ 64:=Nat.pow_le_pow_right (by decide) h;have:0<2 ^ len:=Nat.two_pow_pos _;omega
 rw[Nat.mod_eq_of_lt ha,Nat.mod_eq_of_lt h2,Nat.and_two_pow_sub_one_eq_mod]
theorem iu(x:Int):IntKind.u64.wrap x=(((x%18446744073709551616).toNat:Nat):Int):=by
 rw[IntKind.wrap_u64];omega
theorem Bf(x:Int):(x%18446744073709551616).toNat<2 ^ 64:=by
 have:(2:Nat) ^ 64=18446744073709551616:=by decide
 omega
theorem get_index(x:Int):wrap64 (bits .and .u64 (IntKind.u64.wrap x) 65535)=x%65536:=by
 rw[iu,oJ 16 (by decide) _ (Bf x) _ (by decide)];have:(2:Nat) ^ 16=65536:=by decide
 rw[this];unfold wrap64;omega
theorem get_number(x:Int):wrap64 (bits .and .u64 (IntKind.u64.wrap x/65536) 140737488355327)=x%9223372036854775808/65536:=by
 rw[iu];have e:(((x%18446744073709551616).toNat:Nat):Int)/65536=(((x%18446744073709551616).toNat/65536:Nat):Int):=by omega
 have l:(x%18446744073709551616).toNat/65536<2 ^ 64:=by
  have:=Bf x;have:(2:Nat) ^ 64=18446744073709551616:=by decide
  omega
 rw[e,oJ 47 (by decide) _ l _ (by decide)];have:(2:Nat) ^ 47=140737488355328:=by decide
 rw[this];unfold wrap64;omega
theorem get_mark(x:Int)(h1: -9223372036854775808<=x)(h2:x<=9223372036854775807):wrap64 (bits .and .u64 (IntKind.u64.wrap x/9223372036854775808) 1)=if x<0 then 1 else 0:=by
 rw[iu];have e:(((x%18446744073709551616).toNat:Nat):Int)/9223372036854775808=(((x%18446744073709551616).toNat/9223372036854775808:Nat):Int):=by omega
 have l:(x%18446744073709551616).toNat/9223372036854775808<2 ^ 64:=by
  have:=Bf x;have:(2:Nat) ^ 64=18446744073709551616:=by decide
  omega
 rw[e,oJ 1 (by decide) _ l _ (by decide)];have:(2:Nat) ^ 1=2:=by decide
 rw[this];unfold wrap64;split<;>omega
theorem set_index(x v:Int)(h1: -9223372036854775808<=x)(h2:x<=9223372036854775807):
 wrap64 (bits .or .u64 (bits .andNot .u64 (IntKind.u64.wrap x) 65535) (bits .and .u64 (IntKind.u64.wrap (IntKind.u64.wrap v)) 65535))=x - x%65536+v%65536:=by
 rw[iu x,iu (IntKind.u64.wrap v),iu v,qX 0 16 (by decide) _ _ (Bf x) _ (by decide)];have a0:(2:Nat) ^ 0=1:=by decide
 have a1:(2:Nat) ^ 16=65536:=by decide
 rw[a0,a1];unfold wrap64;omega
theorem set_number(x v:Int)(h1: -9223372036854775808<=x)(h2:x<=9223372036854775807):
 wrap64 (bits .or .u64 (bits .andNot .u64 (IntKind.u64.wrap x) 9223372036854710272) (bits .and .u64 (IntKind.u64.wrap (IntKind.u64.wrap v*65536)) 9223372036854710272))=
  x/9223372036854775808*9223372036854775808+v%140737488355328*65536+x%65536:=by
 rw[iu x,iu (IntKind.u64.wrap v*65536),iu v,qX 16 47 (by decide) _ _ (Bf x) _ (by decide)];have a0:(2:Nat) ^ 16=65536:=by decide
 have a1:(2:Nat) ^ 47=140737488355328:=by decide
 have a2:(2:Nat) ^ (16+47)=9223372036854775808:=by decide
 rw[a0,a1,a2];have k1:(((((v%18446744073709551616).toNat:Nat):Int)*65536)%18446744073709551616).toNat/65536%140737488355328=(v%140737488355328).toNat:=by omega
 rw[k1];have k2:(x%18446744073709551616).toNat%65536=(x%65536).toNat:=by omega
 rw[k2];have k3:(((x%18446744073709551616).toNat/9223372036854775808:Nat):Int)= - (x/9223372036854775808):=by omega
 have k4:x/9223372036854775808=0\/x/9223372036854775808= -1:=by omega
 generalize(x%18446744073709551616).toNat/9223372036854775808=q at k3⊢;have k5:0<=v%140737488355328/\v%140737488355328<140737488355328:=by omega
 have a:0<=x%65536/\x%65536<65536:=by omega
 generalize v%140737488355328=s at k5⊢;generalize x%65536=t at a⊢;generalize x/9223372036854775808=z at k3 k4⊢;unfold wrap64;omega
theorem OO(x v:Int)(h1: -9223372036854775808<=x)(h2:x<=9223372036854775807):
 wrap64 (bits .or .u64 (bits .andNot .u64 (IntKind.u64.wrap x) 9223372036854775808) (bits .and .u64 (IntKind.u64.wrap (IntKind.u64.wrap v*9223372036854775808)) 9223372036854775808))=
  x%9223372036854775808 - v%2*9223372036854775808:=by
 rw[iu x,iu (IntKind.u64.wrap v*9223372036854775808),iu v,qX 63 1 (by decide) _ _ (Bf x) _ (by decide)];have a0:(2:Nat) ^ 63=9223372036854775808:=by decide
 have a1:(2:Nat) ^ 1=2:=by decide
 have a2:(2:Nat) ^ (63+1)=18446744073709551616:=by decide
 rw[a0,a1,a2];have k1:(((((v%18446744073709551616).toNat:Nat):Int)*9223372036854775808)%18446744073709551616).toNat/9223372036854775808%2=(v%2).toNat:=by omega
 rw[k1];have k2:(x%18446744073709551616).toNat%9223372036854775808=(x%9223372036854775808).toNat:=by omega
 rw[k2];have k3:(x%18446744073709551616).toNat/18446744073709551616=0:=by omega
 rw[k3];have k5:0<=v%2/\v%2<2:=by omega
 have a:0<=x%9223372036854775808/\x%9223372036854775808<9223372036854775808:=by omega
 generalize v%2=s at k5⊢;generalize x%9223372036854775808=t at a⊢;unfold wrap64;omega
end Fld
end Go.Proofs.YteijjhahgabalaaGreat
