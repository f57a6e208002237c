/-
  Plain: the greatest common divisor, by taking off twos.
-/
import Derived.Lib.TrailingZeros
namespace Go.Gk
def od (x:Nat):Nat:=x/2^Lib.ctz 64 x
theorem zgh {x:Nat} (h0:0<x) (h:x<18446744073709551616):Lib.ctz 64 x<64∧x=2^Lib.ctz 64 x*od x∧od x%2=1:=by
 obtain⟨m,hm,hk⟩:=Lib.ctzFrom_spec 64 x h0 h;have e:Lib.ctz 64 x=Lib.ctzFrom 64 x:=by unfold Lib.ctz;rw[if_neg (by omega)]
 unfold od;rw[e];generalize Lib.ctzFrom 64 x=k at *;have hd:x/2^k=2*m+1:=by rw[hm];exact Nat.mul_div_cancel_left _ (Nat.two_pow_pos k)
 rw[hd];exact⟨hk,hm,by omega⟩
theorem zol {a:Nat} (ha:a%2=1) (m:Nat):∀k,Nat.gcd a (2^k*m)=Nat.gcd a m:=by
 have hc:Nat.Coprime a 2:=by
  unfold Nat.Coprime;rw[Nat.gcd_comm,Nat.gcd_rec,ha];exact Nat.gcd_one_left 2
 intro k;exact Nat.Coprime.gcd_mul_left_cancel_right m (Nat.Coprime.pow_right k hc).symm
theorem od_le {x:Nat}:od x≤x:=Nat.div_le_self _ _
theorem zqe {a b:Nat} (ha:a%2=1) (hb:0<b) (h64:b<18446744073709551616):
 (od b<a→Nat.gcd (od b) (a-od b)=Nat.gcd a b∧od b%2=1∧od b+(a-od b)<a+b)∧(a≤od b→Nat.gcd a (od b-a)=Nat.gcd a b∧a+(od b-a)<a+b):=by
 obtain⟨_,h1,h2⟩:=zgh hb h64
 have hg:Nat.gcd a b=Nat.gcd a (od b):=by
  have:=zol ha (od b) (Lib.ctz 64 b);rw[←h1]at this;exact this
 have hle:=od_le (x:=b);rw[hg];refine⟨fun h=>⟨?_,h2,by omega⟩,fun h=>⟨?_,by omega⟩⟩
 ·rw[Nat.gcd_comm,Nat.gcd_comm a]
  obtain⟨d,rfl⟩:∃d,a=od b+d:=⟨a-od b,by omega⟩
  simp[Nat.gcd_comm]
 ·generalize od b=c at *
  obtain⟨d,rfl⟩:∃d,c=a+d:=⟨c-a,by omega⟩
  simp
theorem zxu {a b:Nat} (ha:0<a) (hb:0<b) (a64:a<18446744073709551616) (b64:b<18446744073709551616):
 Nat.gcd (od a) b*2^min (Lib.ctz 64 a) (Lib.ctz 64 b)=Nat.gcd a b:=by
 obtain⟨_,h1,h2⟩:=zgh ha a64;obtain⟨_,h3,h4⟩:=zgh hb b64
 have hg:Nat.gcd (od a) b=Nat.gcd (od a) (od b):=by
  have:=zol h2 (od b) (Lib.ctz 64 b);rw[←h3]at this;exact this
 rw[hg];generalize Lib.ctz 64 a=i at *;generalize Lib.ctz 64 b=j at *;generalize od a=x at *;generalize od b=y at *;rw[h1,h3];rcases Nat.le_total i j with h|h
 ·rw[Nat.min_eq_left h]
  obtain⟨d,rfl⟩:∃d,j=i+d:=⟨j-i,by omega⟩
  rw[Nat.pow_add,Nat.mul_assoc,Nat.gcd_mul_left,zol h2,Nat.mul_comm]
 ·rw[Nat.min_eq_right h]
  obtain⟨d,rfl⟩:∃d,i=j+d:=⟨i-j,by omega⟩
  rw[Nat.pow_add,Nat.mul_assoc,Nat.gcd_mul_left,Nat.gcd_comm,Nat.gcd_comm (2^d*x),zol h4,Nat.mul_comm]
