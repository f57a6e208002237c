/-
  Plain: a number of two words by one word, digit by digit of 32 bits, as Knuth has it. No program in sight.
-/
import Derived.Test.YtoegobjnjljegaaGreatDoorShelf
import Derived.Test.YtoegobjnjljegaaGreatDoorZ4
import Derived.Laws.Bits64b
set_option maxRecDepth 100000
set_option maxHeartbeats 6400000
namespace Go.Gk
structure KGuess (v1 v0 u d q r:Nat):Prop where
 eq:q*v1+r=u
 le:(u*4294967296+d)/(v1*4294967296+v0)≤q
 lt:r<4294967296
section
variable {v1 v0 u d q r:Nat}
theorem k_mul (v1 v0 q:Nat):q*(v1*4294967296+v0)=q*v1*4294967296+q*v0:=by
 rw[Nat.mul_add,Nat.mul_assoc]
theorem z1q (h1:2147483648≤v1) (hv1:v1<4294967296) (hd:d<4294967296):KGuess v1 v0 u d (u/v1) (u-u/v1*v1):=by
 have hp:0<v1:=by omega
 have hm:=Nat.div_add_mod u v1;have hl:=Nat.mod_lt u hp;rw[Nat.mul_comm]at hm;refine⟨by omega,?_,by omega⟩;refine Nat.le_trans (Nat.div_le_div_left (c:=v1*4294967296) (Nat.le_add_right _ _) (by omega)) ?_;rw[Nat.mul_comm v1,←Nat.div_div_eq_div_mul];have:(u*4294967296+d)/4294967296=u:=by omega
 rw[this];exact Nat.le_refl _
theorem z3f (hu:u<v1*4294967296+v0) (hd:d<4294967296) (h:KGuess v1 v0 u d q r) (hc:4294967296≤q∨4294967296*r+d<q*v0):(u*4294967296+d)/(v1*4294967296+v0)<q:=by
 rw[Nat.div_lt_iff_lt_mul (by omega)];rcases hc with hc|hc
 ·have h1:u*4294967296+d<4294967296*(v1*4294967296+v0):=by omega
  exact Nat.lt_of_lt_of_le h1 (Nat.mul_le_mul_right _ hc)
 ·rw[k_mul];have he:=h.eq;generalize q*v1=a at *;generalize q*v0=c at *;omega
theorem z3g (h1:1≤q) (h:q*v1+r=u):(q-1)*v1+(r+v1)=u:=by
 have:q*v1=(q-1)*v1+v1:=by
  conv=>lhs;rw[show q=q-1+1 by omega,Nat.add_mul,Nat.one_mul]
 omega
theorem z3h (hu:u<v1*4294967296+v0) (h:KGuess v1 v0 u d q r) (h1:q*v0≤4294967296*r+d):q=(u*4294967296+d)/(v1*4294967296+v0):=by
 refine Nat.le_antisymm ?_ h.le;rw[Nat.le_div_iff_mul_le (by omega),k_mul];have he:=h.eq;generalize q*v1=a at *;generalize q*v0=c at *;omega
theorem zzp (hv0:v0<4294967296) (hu:u<v1*4294967296+v0) (heq:q*v1+r=u) (hle:(u*4294967296+d)/(v1*4294967296+v0)≤q) (hr:4294967296≤r):q=(u*4294967296+d)/(v1*4294967296+v0):=by
 have hq:q≤4294967296:=by
  rcases Nat.lt_or_ge 4294967296 q with h|h
  ·have h2:4294967297*v1≤q*v1:=Nat.mul_le_mul_right _ h;omega
  ·exact h
 refine Nat.le_antisymm ?_ hle;rw[Nat.le_div_iff_mul_le (by omega),k_mul];have h3:q*v0≤4294967296*v0:=Nat.mul_le_mul_right _ hq;generalize q*v1=a at *;generalize q*v0=c at *;omega
theorem zy7 (hu:u<v1*4294967296+v0) (hd:d<4294967296):(u*4294967296+d)/(v1*4294967296+v0)<4294967296:=by
 rw[Nat.div_lt_iff_lt_mul (by omega)];omega
end
theorem z0j {U V d1 d0 q1 r1 N:Nat} (hV:0<V) (h1:V*q1+r1=U*4294967296+d1) (hN:N=U*18446744073709551616+(d1*4294967296+d0)):N/V=q1*4294967296+(r1*4294967296+d0)/V∧N%V=(r1*4294967296+d0)%V:=by
 have e:N=V*(q1*4294967296)+(r1*4294967296+d0):=by
  have e3:V*(q1*4294967296)=V*q1*4294967296:=(Nat.mul_assoc _ _ _).symm
  obtain⟨a,ha⟩:∃a,V*q1=a:=⟨_,rfl⟩
  rw[ha]at h1 e3;omega
 rw[e];exact⟨Nat.mul_add_div hV _ _,Nat.mul_add_mod _ _ _⟩
theorem z5m (N y s:Nat):(N*2^s)/(y*2^s)=N/y∧(N*2^s)% (y*2^s)=N%y*2^s:=
 ⟨Nat.mul_div_mul_right _ _ (Nat.two_pow_pos s),Nat.mul_mod_mul_right _ _ _⟩
theorem z2w {lo s:Nat} (hs:s≤64):lo*2^s=lo/2^(64-s)*18446744073709551616+lo*2^s%18446744073709551616:=by
 have h:=Nat.div_add_mod (lo*2^s) 18446744073709551616
 have e:lo*2^s/18446744073709551616=lo/2^(64-s):=by
  have e2:(18446744073709551616:Nat)=2^(64-s)*2^s:=by rw[←Nat.pow_add,show 64-s+s=64 by omega]
  rw[e2,Nat.mul_div_mul_right _ _ (Nat.two_pow_pos s)]
 rw[e]at h;omega
open Go.RowKit Go.Lib
section
variable {P:Program} {ops:Array Oper} {rest:List Oper} {o:Oper} {a:Act} {Q:Exit→Act→World→Prop} {w:World}
theorem zyj (hw:Region.wanted o (yielded ops a.tmps)=true) (x:Value) (hr:(execOp a.eval o).run P w=.ok (.value x) w) (h:wpList P ops Q rest (a.put o.dst x) w):wpList P ops Q (o::rest) a w:=
 wpList_step fun K hK=>by
  rw[if_pos hw];unfold Oper.wp;rw[hr];exact hK _ _ h
end
theorem zzk {a:Nat} (ha:a<18446744073709551616):IntKind.u64.wrap (a:Int)=(a:Int):=by rw[IntKind.wrap_u64];omega
theorem wany64 (a:Nat):IntKind.u64.wrap (a:Int)=((a%18446744073709551616:Nat):Int):=by rw[IntKind.wrap_u64];omega
theorem z3i {a:Nat} (ha:a<18446744073709551616):bits .and .u64 (a:Int) 4294967295=((a%4294967296:Nat):Int):=by
 have h:=bits_and_u64_nat a 4294967295 ha (by omega);have e:a&&&4294967295=a%4294967296:=Nat.and_two_pow_sub_one_eq_mod a 32;rw[e]at h;exact h
theorem z1e:∀(f x:Nat),x<2^f→x≠0→1≤Lib.bitLenAux f x∧Lib.bitLenAux f x≤f∧2^(Lib.bitLenAux f x-1)≤x∧x<2^Lib.bitLenAux f x
 |0,x,h,h0=>by have:x<1:=h;omega
 |f+1,x,h,h0=>by
  rw[Lib.bitLenAux,if_neg h0];by_cases h2:x/2=0
  ·have hx:x=1:=by omega
   subst hx;have e:Lib.bitLenAux f (1/2)=0:=by cases f<;>simp[Lib.bitLenAux]
   rw[e];simp
  ·obtain⟨a1,a2,a3,a4⟩:=z1e f (x/2) (by rw[Nat.pow_succ]at h;omega) h2;refine⟨by omega,by omega,?_,?_⟩
   ·have e:1+Lib.bitLenAux f (x/2)-1=(Lib.bitLenAux f (x/2)-1)+1:=by omega
    rw[e,Nat.pow_succ];omega
   ·rw[Nat.add_comm,Nat.pow_succ];omega
theorem norm_bd {y:Nat} (h0:y≠0) (h:y<18446744073709551616):∃s:Nat,s<64∧64-(Lib.bitLen y:Int)=(s:Int)∧9223372036854775808≤y*2^s∧y*2^s<18446744073709551616:=by
 obtain⟨a1,a2,a3,a4⟩:=z1e 64 y h h0;refine⟨64-Lib.bitLen y,?_,?_,?_,?_⟩
 ·show 64-Lib.bitLenAux 64 y<64;omega
 ·show 64-(Lib.bitLenAux 64 y:Int)=_;show _=((64-Lib.bitLenAux 64 y:Nat):Int);omega
 ·show 9223372036854775808≤y*2^(64-Lib.bitLenAux 64 y);have e:(9223372036854775808:Nat)=2^(Lib.bitLenAux 64 y-1)*2^(64-Lib.bitLenAux 64 y):=by rw[←Nat.pow_add,show Lib.bitLenAux 64 y-1+(64-Lib.bitLenAux 64 y)=63 by omega]
  rw[e];exact Nat.mul_le_mul_right _ a3
 ·show y*2^(64-Lib.bitLenAux 64 y)<18446744073709551616;have e:(18446744073709551616:Nat)=2^Lib.bitLenAux 64 y*2^(64-Lib.bitLenAux 64 y):=by rw[←Nat.pow_add,show Lib.bitLenAux 64 y+(64-Lib.bitLenAux 64 y)=64 by omega]
  rw[e];exact Nat.mul_lt_mul_of_pos_right a4 (Nat.two_pow_pos _)
theorem zyu {u d q V:Nat} (hr:q=(u*4294967296+d)/V) (hV:V<18446744073709551616) (h0:0<V):IntKind.u64.wrap (IntKind.u64.wrap (IntKind.u64.wrap ((u:Int)*4294967296)+(d:Int))-IntKind.u64.wrap ((q:Int)*(V:Int)))=(((u*4294967296+d)%V:Nat):Int):=by
 have h1:=Nat.div_add_mod (u*4294967296+d) V;have h2:=Nat.mod_lt (u*4294967296+d) h0;rw[←hr]at h1;have e:(q:Int)*(V:Int)=((V*q:Nat):Int):=by rw[Nat.mul_comm,Int.natCast_mul]
 rw[e]
 obtain⟨a,ha⟩:∃a,V*q=a:=⟨_,rfl⟩
 obtain⟨r,hr2⟩:∃r,(u*4294967296+d)%V=r:=⟨_,rfl⟩
 rw[ha,hr2]at h1;rw[hr2]at h2⊢;rw[ha];simp only[IntKind.wrap_u64];omega
theorem zzt {u v1:Nat} (hu:u<18446744073709551616):IntKind.u64.wrap ((u:Int).tdiv (v1:Int))=((u/v1:Nat):Int):=by
 have e:(u:Int).tdiv (v1:Int)=((u/v1:Nat):Int):=(Int.ofNat_tdiv u v1).symm;rw[e];exact zzk (Nat.lt_of_le_of_lt (Nat.div_le_self _ _) hu)
theorem zzh {u v1:Nat} (hu:u<18446744073709551616):IntKind.u64.wrap ((u:Int)/(v1:Int))=((u/v1:Nat):Int):=by
 rw[←Int.natCast_ediv];exact zzk (Nat.lt_of_le_of_lt (Nat.div_le_self _ _) hu)
theorem z0a {u v1:Nat} (hu:u<18446744073709551616):IntKind.u64.wrap ((u:Int)-IntKind.u64.wrap (((u/v1:Nat):Int)*(v1:Int)))=((u-u/v1*v1:Nat):Int):=by
 have h1:=Nat.div_mul_le_self u v1;have e:((u/v1:Nat):Int)*(v1:Int)=((u/v1*v1:Nat):Int):=by rw[Int.natCast_mul]
 rw[e]
 obtain⟨a,ha⟩:∃a,u/v1*v1=a:=⟨_,rfl⟩
 rw[ha]at h1⊢;simp only[IntKind.wrap_u64];omega
end Go.Gk
namespace Go.Proofs.YtoegobjnjljegaaGreatDoor
open Go.RowKit Go.Gk
theorem z18 (hi lo y:Nat) (hy:hi<y) (hl:lo<18446744073709551616) (hy64:y<18446744073709551616) (w:World):
 Calls Tryz.prog 360 #[.int .u64 (hi:Int),.int .u64 (lo:Int),.int .u64 (y:Int)] w fun e w'=>e=.returned (.tuple #[.int .u64 (((hi*18446744073709551616+lo)/y:Nat):Int),.int .u64 (((hi*18446744073709551616+lo)%y:Nat):Int)])∧Tf w w':=by
 have hy0:¬((y:Int)=0):=by omega
 have hyh:¬((y:Int)≤(hi:Int)):=by omega
 by_cases h0:hi=0
 ·subst h0
  have hq:IntKind.u64.wrap ((lo:Int)/(y:Int))=((lo/y:Nat):Int):=by
   rw[←Int.natCast_ediv];exact zzk (Nat.lt_of_le_of_lt (Nat.div_le_self _ _) hl)
  have hr:(lo:Int)% (y:Int)=((lo%y:Nat):Int):=(Int.natCast_emod lo y).symm;rw[Nat.zero_mul,Nat.zero_add];go_enter Tryz.func360,Tryz.ntmps360;go_wp2_with fail;refine zai (fun _=>False) [] 7 [] [] ?_ ?_
  ·exact trivial
  intro bef _;iterate 7 (refine zbt ?_;(try simp only[zaw]))
  refine za6 ?_;intro w1 hrr hp9 hap;have t1:=(Tch.drew (fun _=>False) w).trans hrr;clear hap hp9 hrr;go_wp2;go_ret2
  exact⟨rfl,t1⟩
 ·have h0':¬((hi:Int)=0):=by omega
  have HLZ:=Lib.hid (Tryz.bits_LeadingZeros64 (y:Int) w (by omega) (by omega));rw[Int.toNat_natCast]at HLZ;obtain⟨s,hs64,hs,hV63,hV64⟩:=norm_bd (y:=y) (by omega) hy64;rw[hs]at HLZ;have hs0:=znn s;have hs65:(s:Int)<64:=by omega
  have hp2:((2^s:Nat):Int)=(2:Int)^s:=by simp
  have hVw:IntKind.u64.wrap ((y:Int)*2^s)=((y*2^s:Nat):Int):=by rw[←hp2,←Int.natCast_mul];exact zzk hV64
  have hH64:hi*2^s<18446744073709551616:=Nat.lt_of_le_of_lt (Nat.mul_le_mul_right _ (Nat.le_of_lt hy)) hV64;have hHw:IntKind.u64.wrap ((hi:Int)*2^s)=((hi*2^s:Nat):Int):=by rw[←hp2,←Int.natCast_mul];exact zzk hH64
  have hLw:IntKind.u64.wrap ((lo:Int)*2^s)=((lo*2^s%18446744073709551616:Nat):Int):=by rw[←hp2,←Int.natCast_mul];exact wany64 _
  have hsw:=z2w (lo:=lo) (s:=s) (by omega)
  have hlt2:lo/2^(64-s)<2^s:=by
   rw[Nat.div_lt_iff_lt_mul (Nat.two_pow_pos _),←Nat.pow_add,show s+(64-s)=64 by omega];exact hl
  have hl2i:(lo:Int)/2^(64-s)=((lo/2^(64-s):Nat):Int):=by
   rw[Int.natCast_ediv];simp
  have hOr:bits .or .u64 ((hi*2^s:Nat):Int) ((lo/2^(64-s):Nat):Int)=((hi*2^s+lo/2^(64-s):Nat):Int):=by
   have h9:=bits_or_u64_nat (hi*2^s) (lo/2^(64-s)) hH64 (Nat.lt_of_le_of_lt (Nat.div_le_self _ _) hl);rw[h9];congr 1;rw[Nat.mul_comm hi];exact(Nat.two_pow_add_eq_or_of_lt hlt2 hi).symm
  have hU:hi*2^s+lo/2^(64-s)<y*2^s:=by
   have h9:(hi+1)*2^s≤y*2^s:=Nat.mul_le_mul_right _ hy;rw[Nat.add_mul,Nat.one_mul]at h9;omega
  have hsd:=z5m (hi*18446744073709551616+lo) y s
  obtain⟨QQ,hQQ⟩:∃QQ,(hi*18446744073709551616+lo)/y=QQ:=⟨_,rfl⟩
  obtain⟨RR,hRR⟩:∃RR,(hi*18446744073709551616+lo)%y=RR:=⟨_,rfl⟩
  rw[hQQ,hRR]at hsd⊢;have HQ:=Lib.hid hsd;clear hsd hQQ hRR
  have hN:(hi*18446744073709551616+lo)*2^s=(hi*2^s+lo/2^(64-s))*18446744073709551616+lo*2^s%18446744073709551616:=by
   have e1:hi*18446744073709551616*2^s=hi*2^s*18446744073709551616:=by rw[Nat.mul_assoc,Nat.mul_comm 18446744073709551616,←Nat.mul_assoc]
   rw[Nat.add_mul,e1,hsw,Nat.add_mul];omega
  rw[hN]at HQ;have hDlt:=Nat.mod_lt (lo*2^s) (show 0<18446744073709551616 by decide);have h2s:0<2^s:=Nat.two_pow_pos s
  have hP2:=Lib.hid (show∀x:Nat,((x*2^s:Nat):Int)/2^s=(x:Int)from fun x=>by
   rw[←hp2,←Int.natCast_ediv,Nat.mul_div_cancel _ h2s])
  clear hN hsw hlt2 hp2 hs h2s
  obtain⟨H,hHe⟩:∃H,hi*2^s=H:=⟨_,rfl⟩
  obtain⟨L1,hL1e⟩:∃L1,lo/2^(64-s)=L1:=⟨_,rfl⟩
  rw[hHe]at hHw hOr hU HQ hH64;rw[hL1e]at hOr hl2i hU HQ;clear hHe hL1e
  obtain⟨V,hVe⟩:∃V,y*2^s=V:=⟨_,rfl⟩
  obtain⟨U,hUe⟩:∃U,H+L1=U:=⟨_,rfl⟩
  obtain⟨D,hDe⟩:∃D,lo*2^s%18446744073709551616=D:=⟨_,rfl⟩
  rw[hVe]at hV63 hV64 hVw hU HQ;rw[hUe]at hOr hU HQ;rw[hDe]at hLw HQ hDlt;have HNQ:=Lib.hid (show QQ=(U*18446744073709551616+D)/V from HQ.out.1.symm);have HNR:=Lib.hid (show(U*18446744073709551616+D)%V=RR*2^s from HQ.out.2);have hA0:bits .and .u64 (V:Int) 4294967295=((V%4294967296:Nat):Int):=z3i hV64;have hA1:bits .and .u64 (D:Int) 4294967295=((D%4294967296:Nat):Int):=z3i hDlt;have hB0:(V:Int)/4294967296=((V/4294967296:Nat):Int):=by omega
  have hB1:(D:Int)/4294967296=((D/4294967296:Nat):Int):=by omega
  have hVs:V=V/4294967296*4294967296+V%4294967296:=by omega
  have hDs:D=D/4294967296*4294967296+D%4294967296:=by omega
  have b1:2147483648≤V/4294967296:=by omega
  have b2:V/4294967296<4294967296:=by omega
  have b3:V%4294967296<4294967296:=by omega
  have b4:D/4294967296<4294967296:=by omega
  have b5:D%4294967296<4294967296:=by omega
  obtain⟨v1,hv1⟩:∃v1,V/4294967296=v1:=⟨_,rfl⟩
  obtain⟨v0,hv0⟩:∃v0,V%4294967296=v0:=⟨_,rfl⟩
  obtain⟨d1,hd1⟩:∃d1,D/4294967296=d1:=⟨_,rfl⟩
  obtain⟨d0,hd0⟩:∃d0,D%4294967296=d0:=⟨_,rfl⟩
  rw[hv1]at hB0 hVs b1 b2;rw[hv0]at hA0 hVs b3;rw[hd1]at hB1 hDs b4;rw[hd0]at hA1 hDs b5;have hU64:U<18446744073709551616:=by omega
  have HVS:=Lib.hid hVs;have HDS:=Lib.hid hDs;have HU:=Lib.hid hU;have g1:IntKind.u64.wrap ((U:Int).tdiv (v1:Int))=((U/v1:Nat):Int):=zzt hU64;have g3:IntKind.u64.wrap ((U:Int)/(v1:Int))=((U/v1:Nat):Int):=zzh hU64;have g2:IntKind.u64.wrap ((U:Int)-IntKind.u64.wrap (((U/v1:Nat):Int)*(v1:Int)))=((U-U/v1*v1:Nat):Int):=z0a hU64;have hv1n:¬((v1:Int)=0):=by omega
  have HK1:=Lib.hid (z1q (v0:=v0) (u:=U) b1 b2 b4);have HB:=Lib.hid (And.intro b1 (And.intro b2 (And.intro b3 (And.intro b4 b5))));have HV64:=Lib.hid hV64;clear HQ hVe hUe hDe hv1 hv0 hd1 hd0 hV63 hVs hDs hU hH64 hU64 hDlt hV64 b1 b2 b3 b4 b5
  obtain⟨q0,hq0⟩:∃q0,U/v1=q0:=⟨_,rfl⟩
  obtain⟨r0,hr0⟩:∃r0,U-q0*v1=r0:=⟨_,rfl⟩
  rw[hq0,hr0]at HK1 g2;rw[hq0]at g1 g3;clear hq0 hr0;go_enter Tryz.func360,Tryz.ntmps360;go_wp2_with fail;refine HLZ.out.mono ?_;rintro _ w ⟨rfl,rfl⟩;clear HLZ;go_wp2;clear g1 g2 g3 hVw hHw hLw hl2i hOr hA0 hA1 hB0 hB1;have HT:=Lib.hid (Tch.refl (fun _=>False) w);go_loopw [15,16] (fun q r wr=>∃qn rn:Nat,q=.int .u64 (qn:Int)∧r=.int .u64 (rn:Int)∧KGuess v1 v0 U d1 qn rn∧w=wr) (fun q _ _=>(intOf q).toNat)
  case atStart=>exact⟨_,_,rfl,rfl,HK1.out,rfl⟩
  case round=>
   obtain⟨qn,rn,rfl,rfl,hg,rfl⟩:=hrel;have HG:=Lib.hid hg;have hrB:=hg.lt;have hrr:(rn:Int)<4294967296:=by omega
   have hr0:=znn rn;have hq9:=znn qn;have hqB:qn*v1≤U:=by have:=hg.eq;omega
   have hcc:=HB.out
   have hq64:qn<18446744073709551616:=by
    rcases Nat.lt_or_ge qn 18446744073709551616 with h|h
    ·exact h
    ·have h2:18446744073709551616*v1≤qn*v1:=Nat.mul_le_mul_right _ h;have:=HU.out;have:=HVS.out;have:=HV64.out;omega
   have w1:IntKind.u64.wrap ((qn:Int)-1)=(if 1≤qn then((qn-1:Nat):Int)else 18446744073709551615):=by
    split<;>(simp only[IntKind.wrap_u64];omega)
   have w2:IntKind.u64.wrap ((rn:Int)+(v1:Int))=((rn+v1:Nat):Int):=by simp only[IntKind.wrap_u64];omega
   obtain⟨xx,hxx⟩:∃xx,4294967296*rn+d1=xx:=⟨_,rfl⟩
   have HXX:=Lib.hid hxx
   obtain⟨rr,hrr9⟩:∃rr,4294967296*rn=rr:=⟨_,rfl⟩
   have hbm:IntKind.u64.wrap (4294967296*(rn:Int))=(rr:Int):=by simp only[IntKind.wrap_u64];omega
   have w4:IntKind.u64.wrap ((rr:Int)+(d1:Int))=(xx:Int):=by simp only[IntKind.wrap_u64];omega
   clear hg hcc hqB hxx hrr9
   have MORE:(4294967296≤qn∨xx<qn*v0)→1≤qn∧(U*4294967296+d1)/(v1*4294967296+v0)≤qn-1∧(qn-1)*v1+(rn+v1)=U:=fun hc=>by
    have hm:=z3f (HVS.out▸HU.out) (by have:=HB.out;omega) HG.out (by rw[HXX.out];exact hc);have h1:1≤qn:=Nat.lt_of_le_of_lt (Nat.zero_le _) hm;exact⟨h1,Nat.le_sub_one_of_lt hm,z3g h1 HG.out.eq⟩
   by_cases hbig:4294967296≤qn
   ·obtain⟨m1,m2,m3⟩:=MORE (.inl hbig);have hbi:(4294967296:Int)≤(qn:Int):=by omega
    rw[if_pos m1]at w1;have M2:=Lib.hid m2;have M3:=Lib.hid m3;clear MORE hbig w4 m2 m3 HXX hbm
    obtain⟨nn,hnn⟩:∃nn,rn+v1=nn:=⟨_,rfl⟩
    obtain⟨mm,hmm⟩:∃mm,qn-1=mm:=⟨_,rfl⟩
    rw[hnn]at w2 M3;rw[hmm]at w1 M2 M3;have hmq:(mm:Int)<(qn:Int):=by omega
    by_cases hnb:4294967296≤nn
    ·have hnbi:(4294967296:Int)≤(nn:Int):=by omega
     have hex:=Lib.hid (zzp (HB.out.2.2.1) (HVS.out▸HU.out) M3.out M2.out hnb);clear hnb
     obtain⟨Q1,hQ1⟩:∃Q1,Q1=mm:=⟨_,rfl⟩
     have HX1:=Lib.hid (show Q1=(U*4294967296+d1)/V by rw[hQ1,HVS.out];exact hex.out);have hV0:0<V:=by have:=HB.out;have:=HVS.out;omega
     have f1:IntKind.u64.wrap (IntKind.u64.wrap (IntKind.u64.wrap ((U:Int)*4294967296)+(d1:Int))-IntKind.u64.wrap ((mm:Int)*(V:Int)))=(((U*4294967296+d1)%V:Nat):Int):=zyu (hQ1▸HX1.out) HV64.out hV0;have HRV:=Lib.hid (Nat.mod_lt (U*4294967296+d1) hV0);have HD1:=Lib.hid (z0j (N:=U*18446744073709551616+D) hV0 (Nat.div_add_mod (U*4294967296+d1) V) (by rw[←HDS.out]));have HQS:=Lib.hid (show Q1<4294967296 by rw[HX1.out,HVS.out];exact zy7 (HVS.out▸HU.out) (by have:=HB.out;omega));rw[←HX1.out]at HD1;clear hex
     obtain⟨R1,hR1⟩:∃R1,(U*4294967296+d1)%V=R1:=⟨_,rfl⟩
     rw[hR1]at f1 HRV HD1;clear hR1;have hR64:R1<18446744073709551616:=by have:=HRV.out;have:=HV64.out;omega
     have g1:IntKind.u64.wrap ((R1:Int).tdiv (v1:Int))=((R1/v1:Nat):Int):=zzt hR64;have g3:IntKind.u64.wrap ((R1:Int)/(v1:Int))=((R1/v1:Nat):Int):=zzh hR64;have g2:IntKind.u64.wrap ((R1:Int)-IntKind.u64.wrap (((R1/v1:Nat):Int)*(v1:Int)))=((R1-R1/v1*v1:Nat):Int):=z0a hR64;have HK2:=Lib.hid (z1q (v0:=v0) (u:=R1) (d:=d0) HB.out.1 HB.out.2.1 HB.out.2.2.2.2);have HU2:=Lib.hid (show R1<V from HRV.out);subst hQ1;have F1:=Lib.hid f1
     obtain⟨q2,hq2⟩:∃q2,R1/v1=q2:=⟨_,rfl⟩
     obtain⟨r2,hr2⟩:∃r2,R1-q2*v1=r2:=⟨_,rfl⟩
     rw[hq2,hr2]at HK2 g2;rw[hq2]at g1 g3;clear hq2 hr2 hR64 hV0;go_wp2;clear g1 g2 g3 f1;go_loopw [18,16] (fun q r wr=>∃qn rn:Nat,q=.int .u64 (qn:Int)∧r=.int .u64 (rn:Int)∧KGuess v1 v0 R1 d0 qn rn∧w=wr) (fun q _ _=>(intOf q).toNat)
     case atStart=>exact⟨_,_,rfl,rfl,HK2.out,rfl⟩
     case round=>
      obtain⟨qn,rn,rfl,rfl,hg,rfl⟩:=hrel;have HG:=Lib.hid hg;have hrB:=hg.lt;have hrr:(rn:Int)<4294967296:=by omega
      have hr0:=znn rn;have hq9:=znn qn;have hqB:qn*v1≤R1:=by have:=hg.eq;omega
      have hcc:=HB.out
      have hq64:qn<18446744073709551616:=by
       rcases Nat.lt_or_ge qn 18446744073709551616 with h|h
       ·exact h
       ·have h2:18446744073709551616*v1≤qn*v1:=Nat.mul_le_mul_right _ h;have:=HU2.out;have:=HVS.out;have:=HV64.out;omega
      have w1:IntKind.u64.wrap ((qn:Int)-1)=(if 1≤qn then((qn-1:Nat):Int)else 18446744073709551615):=by
       split<;>(simp only[IntKind.wrap_u64];omega)
      have w2:IntKind.u64.wrap ((rn:Int)+(v1:Int))=((rn+v1:Nat):Int):=by simp only[IntKind.wrap_u64];omega
      obtain⟨xx,hxx⟩:∃xx,4294967296*rn+d0=xx:=⟨_,rfl⟩
      have HXX:=Lib.hid hxx
      obtain⟨rr,hrr9⟩:∃rr,4294967296*rn=rr:=⟨_,rfl⟩
      have hbm:IntKind.u64.wrap (4294967296*(rn:Int))=(rr:Int):=by simp only[IntKind.wrap_u64];omega
      have w4:IntKind.u64.wrap ((rr:Int)+(d0:Int))=(xx:Int):=by simp only[IntKind.wrap_u64];omega
      clear hg hcc hqB hxx hrr9
      have MORE:(4294967296≤qn∨xx<qn*v0)→1≤qn∧(R1*4294967296+d0)/(v1*4294967296+v0)≤qn-1∧(qn-1)*v1+(rn+v1)=R1:=fun hc=>by
       have hm:=z3f (HVS.out▸HU2.out) (by have:=HB.out;omega) HG.out (by rw[HXX.out];exact hc);have h1:1≤qn:=Nat.lt_of_le_of_lt (Nat.zero_le _) hm;exact⟨h1,Nat.le_sub_one_of_lt hm,z3g h1 HG.out.eq⟩
      by_cases hbig:4294967296≤qn
      ·obtain⟨m1,m2,m3⟩:=MORE (.inl hbig);have hbi:(4294967296:Int)≤(qn:Int):=by omega
       rw[if_pos m1]at w1;have M2:=Lib.hid m2;have M3:=Lib.hid m3;clear MORE hbig w4 m2 m3 HXX hbm
       obtain⟨nn,hnn⟩:∃nn,rn+v1=nn:=⟨_,rfl⟩
       obtain⟨mm,hmm⟩:∃mm,qn-1=mm:=⟨_,rfl⟩
       rw[hnn]at w2 M3;rw[hmm]at w1 M2 M3;have hmq:(mm:Int)<(qn:Int):=by omega
       by_cases hnb:4294967296≤nn
       ·have hnbi:(4294967296:Int)≤(nn:Int):=by omega
        have hex:=Lib.hid (zzp (HB.out.2.2.1) (HVS.out▸HU2.out) M3.out M2.out hnb);clear hnb;have HX2:=Lib.hid (show mm=(R1*4294967296+d0)/V by rw[HVS.out];exact hex.out);have hV0:0<V:=by have:=HB.out;have:=HVS.out;omega
        have f2:IntKind.u64.wrap (IntKind.u64.wrap (IntKind.u64.wrap ((R1:Int)*4294967296)+(d0:Int))-IntKind.u64.wrap ((mm:Int)*(V:Int)))=(((R1*4294967296+d0)%V:Nat):Int):=zyu HX2.out HV64.out hV0;have hQS2:mm<4294967296:=by rw[HX2.out,HVS.out];exact zy7 (HVS.out▸HU2.out) (by have:=HB.out;omega)
        have hQ9:=HQS.out;have f3:IntKind.u64.wrap (IntKind.u64.wrap ((Q1:Int)*4294967296)+(mm:Int))=((Q1*4294967296+mm:Nat):Int):=by simp only[IntKind.wrap_u64];omega
        have hfq:Q1*4294967296+mm=QQ:=by rw[HNQ.out,HD1.out.1,←HX2.out]
        have hfr:(R1*4294967296+d0)%V=RR*2^s:=by rw[←HNR.out,HD1.out.2]
        rw[hfq]at f3;rw[hfr]at f2;have f4:=hP2.out RR;have f5:(Q1:Int)*4294967296+(mm:Int)=(QQ:Int):=by omega
        have f6:IntKind.u64.wrap (QQ:Int)=(QQ:Int):=zzk (by omega);clear hfq hfr hex hQS2 hQ9 hV0
        obtain⟨XX,hXX⟩:∃XX,RR*2^s=XX:=⟨_,rfl⟩
        rw[hXX]at f2 f4;clear hXX;go_wp2;go_ret2
        exact⟨rfl,Tch.refl _ _⟩
       ·have hnbi:¬((4294967296:Int)≤(nn:Int)):=by omega
        go_wp2;go_roundw
        case rel=>exact⟨mm,nn,rfl,rfl,⟨M3.out,M2.out,by omega⟩,by trivial⟩
        case measure=>simp[intOf];omega
      ·have hbi:¬((4294967296:Int)≤(qn:Int)):=by omega
       have hpq:qn*v0<18446744073709551616:=by
        have h3:qn*v0≤4294967296*v0:=Nat.mul_le_mul_right _ (by omega);have:=HB.out;omega
       have w3:IntKind.u64.wrap ((qn:Int)*(v0:Int))=((qn*v0:Nat):Int):=by rw[←Int.natCast_mul];exact zzk hpq
       by_cases hc:xx<qn*v0
       ·obtain⟨m1,m2,m3⟩:=MORE (.inr hc);rw[if_pos m1]at w1;have M2:=Lib.hid m2;have M3:=Lib.hid m3;have hci:(xx:Int)<((qn*v0:Nat):Int):=Int.ofNat_lt.2 hc;generalize qn*v0=pp at *;clear MORE m2 m3 hc hpq HXX;iterate 13 go_step
        refine zyj (by rfl) (.int .u64 (qn:Int)) (by rfl) ?_;simp only[zaw];refine zyj (by rfl) (.int .u64 (v0:Int)) (by rfl) ?_;simp only[zaw];refine zyj (by rfl) (.int .u64 (pp:Int)) (by rw[←w3];rfl) ?_;simp only[zaw];refine zyj (by rfl) (.int .u64 (rn:Int)) (by rfl) ?_;simp only[zaw];refine zyj (by rfl) (.int .u64 (rr:Int)) (by rw[←hbm];rfl) ?_;simp only[zaw];refine zyj (by rfl) (.int .u64 (d0:Int)) (by rfl) ?_;simp only[zaw];refine zyj (by rfl) (.int .u64 (xx:Int)) (by rw[←w4];rfl) ?_;simp only[zaw];refine zyj (by rfl) (.bool true) (by rw[show true=decide ((xx:Int)<(pp:Int))from by simpa using hci];rfl) ?_;simp only[zaw];clear w3 w4 hbm
        obtain⟨nn,hnn⟩:∃nn,rn+v1=nn:=⟨_,rfl⟩
        obtain⟨mm,hmm⟩:∃mm,qn-1=mm:=⟨_,rfl⟩
        rw[hnn]at w2 M3;rw[hmm]at w1 M2 M3;have hmq:(mm:Int)<(qn:Int):=by omega
        by_cases hnb:4294967296≤nn
        ·have hnbi:(4294967296:Int)≤(nn:Int):=by omega
         have hex:=Lib.hid (zzp (HB.out.2.2.1) (HVS.out▸HU2.out) M3.out M2.out hnb);clear hnb;have HX2:=Lib.hid (show mm=(R1*4294967296+d0)/V by rw[HVS.out];exact hex.out);have hV0:0<V:=by have:=HB.out;have:=HVS.out;omega
         have f2:IntKind.u64.wrap (IntKind.u64.wrap (IntKind.u64.wrap ((R1:Int)*4294967296)+(d0:Int))-IntKind.u64.wrap ((mm:Int)*(V:Int)))=(((R1*4294967296+d0)%V:Nat):Int):=zyu HX2.out HV64.out hV0;have hQS2:mm<4294967296:=by rw[HX2.out,HVS.out];exact zy7 (HVS.out▸HU2.out) (by have:=HB.out;omega)
         have hQ9:=HQS.out;have f3:IntKind.u64.wrap (IntKind.u64.wrap ((Q1:Int)*4294967296)+(mm:Int))=((Q1*4294967296+mm:Nat):Int):=by simp only[IntKind.wrap_u64];omega
         have hfq:Q1*4294967296+mm=QQ:=by rw[HNQ.out,HD1.out.1,←HX2.out]
         have hfr:(R1*4294967296+d0)%V=RR*2^s:=by rw[←HNR.out,HD1.out.2]
         rw[hfq]at f3;rw[hfr]at f2;have f4:=hP2.out RR;have f5:(Q1:Int)*4294967296+(mm:Int)=(QQ:Int):=by omega
         have f6:IntKind.u64.wrap (QQ:Int)=(QQ:Int):=zzk (by omega);clear hfq hfr hex hQS2 hQ9 hV0
         obtain⟨XX,hXX⟩:∃XX,RR*2^s=XX:=⟨_,rfl⟩
         rw[hXX]at f2 f4;clear hXX;go_wp2;go_ret2
         exact⟨rfl,Tch.refl _ _⟩
        ·have hnbi:¬((4294967296:Int)≤(nn:Int)):=by omega
         go_wp2;go_roundw
         case rel=>exact⟨mm,nn,rfl,rfl,⟨M3.out,M2.out,by omega⟩,by trivial⟩
         case measure=>simp[intOf];omega
       ·have hex:=Lib.hid (z3h (HVS.out▸HU2.out) HG.out (by rw[HXX.out];omega));have hci:¬((xx:Int)<((qn*v0:Nat):Int)):=by rw[Int.ofNat_lt];exact hc
        generalize qn*v0=pp at *;clear MORE hc hpq w1 w2 hq64 HXX;iterate 13 go_step
        refine zyj (by rfl) (.int .u64 (qn:Int)) (by rfl) ?_;simp only[zaw];refine zyj (by rfl) (.int .u64 (v0:Int)) (by rfl) ?_;simp only[zaw];refine zyj (by rfl) (.int .u64 (pp:Int)) (by rw[←w3];rfl) ?_;simp only[zaw];refine zyj (by rfl) (.int .u64 (rn:Int)) (by rfl) ?_;simp only[zaw];refine zyj (by rfl) (.int .u64 (rr:Int)) (by rw[←hbm];rfl) ?_;simp only[zaw];refine zyj (by rfl) (.int .u64 (d0:Int)) (by rfl) ?_;simp only[zaw];refine zyj (by rfl) (.int .u64 (xx:Int)) (by rw[←w4];rfl) ?_;simp only[zaw];refine zyj (by rfl) (.bool false) (by rw[show false=decide ((xx:Int)<(pp:Int))from by simpa using hci];rfl) ?_;simp only[zaw];clear w3 w4 hbm;have HX2:=Lib.hid (show qn=(R1*4294967296+d0)/V by rw[HVS.out];exact hex.out);have hV0:0<V:=by have:=HB.out;have:=HVS.out;omega
        have f2:IntKind.u64.wrap (IntKind.u64.wrap (IntKind.u64.wrap ((R1:Int)*4294967296)+(d0:Int))-IntKind.u64.wrap ((qn:Int)*(V:Int)))=(((R1*4294967296+d0)%V:Nat):Int):=zyu HX2.out HV64.out hV0;have hQS2:qn<4294967296:=by rw[HX2.out,HVS.out];exact zy7 (HVS.out▸HU2.out) (by have:=HB.out;omega)
        have hQ9:=HQS.out;have f3:IntKind.u64.wrap (IntKind.u64.wrap ((Q1:Int)*4294967296)+(qn:Int))=((Q1*4294967296+qn:Nat):Int):=by simp only[IntKind.wrap_u64];omega
        have hfq:Q1*4294967296+qn=QQ:=by rw[HNQ.out,HD1.out.1,←HX2.out]
        have hfr:(R1*4294967296+d0)%V=RR*2^s:=by rw[←HNR.out,HD1.out.2]
        rw[hfq]at f3;rw[hfr]at f2;have f4:=hP2.out RR;have f5:(Q1:Int)*4294967296+(qn:Int)=(QQ:Int):=by omega
        have f6:IntKind.u64.wrap (QQ:Int)=(QQ:Int):=zzk (by omega);clear hfq hfr hex hQS2 hQ9 hV0
        obtain⟨XX,hXX⟩:∃XX,RR*2^s=XX:=⟨_,rfl⟩
        rw[hXX]at f2 f4;clear hXX;go_wp2;go_ret2
        exact⟨rfl,Tch.refl _ _⟩
    ·have hnbi:¬((4294967296:Int)≤(nn:Int)):=by omega
     go_wp2;go_roundw
     case rel=>exact⟨mm,nn,rfl,rfl,⟨M3.out,M2.out,by omega⟩,by trivial⟩
     case measure=>simp[intOf];omega
   ·have hbi:¬((4294967296:Int)≤(qn:Int)):=by omega
    have hpq:qn*v0<18446744073709551616:=by
     have h3:qn*v0≤4294967296*v0:=Nat.mul_le_mul_right _ (by omega);have:=HB.out;omega
    have w3:IntKind.u64.wrap ((qn:Int)*(v0:Int))=((qn*v0:Nat):Int):=by rw[←Int.natCast_mul];exact zzk hpq
    by_cases hc:xx<qn*v0
    ·obtain⟨m1,m2,m3⟩:=MORE (.inr hc);rw[if_pos m1]at w1;have M2:=Lib.hid m2;have M3:=Lib.hid m3;have hci:(xx:Int)<((qn*v0:Nat):Int):=Int.ofNat_lt.2 hc;generalize qn*v0=pp at *;clear MORE m2 m3 hc hpq HXX;iterate 13 go_step
     refine zyj (by rfl) (.int .u64 (qn:Int)) (by rfl) ?_;simp only[zaw];refine zyj (by rfl) (.int .u64 (v0:Int)) (by rfl) ?_;simp only[zaw];refine zyj (by rfl) (.int .u64 (pp:Int)) (by rw[←w3];rfl) ?_;simp only[zaw];refine zyj (by rfl) (.int .u64 (rn:Int)) (by rfl) ?_;simp only[zaw];refine zyj (by rfl) (.int .u64 (rr:Int)) (by rw[←hbm];rfl) ?_;simp only[zaw];refine zyj (by rfl) (.int .u64 (d1:Int)) (by rfl) ?_;simp only[zaw];refine zyj (by rfl) (.int .u64 (xx:Int)) (by rw[←w4];rfl) ?_;simp only[zaw];refine zyj (by rfl) (.bool true) (by rw[show true=decide ((xx:Int)<(pp:Int))from by simpa using hci];rfl) ?_;simp only[zaw];clear w3 w4 hbm
     obtain⟨nn,hnn⟩:∃nn,rn+v1=nn:=⟨_,rfl⟩
     obtain⟨mm,hmm⟩:∃mm,qn-1=mm:=⟨_,rfl⟩
     rw[hnn]at w2 M3;rw[hmm]at w1 M2 M3;have hmq:(mm:Int)<(qn:Int):=by omega
     by_cases hnb:4294967296≤nn
     ·have hnbi:(4294967296:Int)≤(nn:Int):=by omega
      have hex:=Lib.hid (zzp (HB.out.2.2.1) (HVS.out▸HU.out) M3.out M2.out hnb);clear hnb
      obtain⟨Q1,hQ1⟩:∃Q1,Q1=mm:=⟨_,rfl⟩
      have HX1:=Lib.hid (show Q1=(U*4294967296+d1)/V by rw[hQ1,HVS.out];exact hex.out);have hV0:0<V:=by have:=HB.out;have:=HVS.out;omega
      have f1:IntKind.u64.wrap (IntKind.u64.wrap (IntKind.u64.wrap ((U:Int)*4294967296)+(d1:Int))-IntKind.u64.wrap ((mm:Int)*(V:Int)))=(((U*4294967296+d1)%V:Nat):Int):=zyu (hQ1▸HX1.out) HV64.out hV0;have HRV:=Lib.hid (Nat.mod_lt (U*4294967296+d1) hV0);have HD1:=Lib.hid (z0j (N:=U*18446744073709551616+D) hV0 (Nat.div_add_mod (U*4294967296+d1) V) (by rw[←HDS.out]));have HQS:=Lib.hid (show Q1<4294967296 by rw[HX1.out,HVS.out];exact zy7 (HVS.out▸HU.out) (by have:=HB.out;omega));rw[←HX1.out]at HD1;clear hex
      obtain⟨R1,hR1⟩:∃R1,(U*4294967296+d1)%V=R1:=⟨_,rfl⟩
      rw[hR1]at f1 HRV HD1;clear hR1;have hR64:R1<18446744073709551616:=by have:=HRV.out;have:=HV64.out;omega
      have g1:IntKind.u64.wrap ((R1:Int).tdiv (v1:Int))=((R1/v1:Nat):Int):=zzt hR64;have g3:IntKind.u64.wrap ((R1:Int)/(v1:Int))=((R1/v1:Nat):Int):=zzh hR64;have g2:IntKind.u64.wrap ((R1:Int)-IntKind.u64.wrap (((R1/v1:Nat):Int)*(v1:Int)))=((R1-R1/v1*v1:Nat):Int):=z0a hR64;have HK2:=Lib.hid (z1q (v0:=v0) (u:=R1) (d:=d0) HB.out.1 HB.out.2.1 HB.out.2.2.2.2);have HU2:=Lib.hid (show R1<V from HRV.out);subst hQ1;have F1:=Lib.hid f1
      obtain⟨q2,hq2⟩:∃q2,R1/v1=q2:=⟨_,rfl⟩
      obtain⟨r2,hr2⟩:∃r2,R1-q2*v1=r2:=⟨_,rfl⟩
      rw[hq2,hr2]at HK2 g2;rw[hq2]at g1 g3;clear hq2 hr2 hR64 hV0;go_wp2;clear g1 g2 g3 f1;go_loopw [18,16] (fun q r wr=>∃qn rn:Nat,q=.int .u64 (qn:Int)∧r=.int .u64 (rn:Int)∧KGuess v1 v0 R1 d0 qn rn∧w=wr) (fun q _ _=>(intOf q).toNat)
      case atStart=>exact⟨_,_,rfl,rfl,HK2.out,rfl⟩
      case round=>
       obtain⟨qn,rn,rfl,rfl,hg,rfl⟩:=hrel;have HG:=Lib.hid hg;have hrB:=hg.lt;have hrr:(rn:Int)<4294967296:=by omega
       have hr0:=znn rn;have hq9:=znn qn;have hqB:qn*v1≤R1:=by have:=hg.eq;omega
       have hcc:=HB.out
       have hq64:qn<18446744073709551616:=by
        rcases Nat.lt_or_ge qn 18446744073709551616 with h|h
        ·exact h
        ·have h2:18446744073709551616*v1≤qn*v1:=Nat.mul_le_mul_right _ h;have:=HU2.out;have:=HVS.out;have:=HV64.out;omega
       have w1:IntKind.u64.wrap ((qn:Int)-1)=(if 1≤qn then((qn-1:Nat):Int)else 18446744073709551615):=by
        split<;>(simp only[IntKind.wrap_u64];omega)
       have w2:IntKind.u64.wrap ((rn:Int)+(v1:Int))=((rn+v1:Nat):Int):=by simp only[IntKind.wrap_u64];omega
       obtain⟨xx,hxx⟩:∃xx,4294967296*rn+d0=xx:=⟨_,rfl⟩
       have HXX:=Lib.hid hxx
       obtain⟨rr,hrr9⟩:∃rr,4294967296*rn=rr:=⟨_,rfl⟩
       have hbm:IntKind.u64.wrap (4294967296*(rn:Int))=(rr:Int):=by simp only[IntKind.wrap_u64];omega
       have w4:IntKind.u64.wrap ((rr:Int)+(d0:Int))=(xx:Int):=by simp only[IntKind.wrap_u64];omega
       clear hg hcc hqB hxx hrr9
       have MORE:(4294967296≤qn∨xx<qn*v0)→1≤qn∧(R1*4294967296+d0)/(v1*4294967296+v0)≤qn-1∧(qn-1)*v1+(rn+v1)=R1:=fun hc=>by
        have hm:=z3f (HVS.out▸HU2.out) (by have:=HB.out;omega) HG.out (by rw[HXX.out];exact hc);have h1:1≤qn:=Nat.lt_of_le_of_lt (Nat.zero_le _) hm;exact⟨h1,Nat.le_sub_one_of_lt hm,z3g h1 HG.out.eq⟩
       by_cases hbig:4294967296≤qn
       ·obtain⟨m1,m2,m3⟩:=MORE (.inl hbig);have hbi:(4294967296:Int)≤(qn:Int):=by omega
        rw[if_pos m1]at w1;have M2:=Lib.hid m2;have M3:=Lib.hid m3;clear MORE hbig w4 m2 m3 HXX hbm
        obtain⟨nn,hnn⟩:∃nn,rn+v1=nn:=⟨_,rfl⟩
        obtain⟨mm,hmm⟩:∃mm,qn-1=mm:=⟨_,rfl⟩
        rw[hnn]at w2 M3;rw[hmm]at w1 M2 M3;have hmq:(mm:Int)<(qn:Int):=by omega
        by_cases hnb:4294967296≤nn
        ·have hnbi:(4294967296:Int)≤(nn:Int):=by omega
         have hex:=Lib.hid (zzp (HB.out.2.2.1) (HVS.out▸HU2.out) M3.out M2.out hnb);clear hnb;have HX2:=Lib.hid (show mm=(R1*4294967296+d0)/V by rw[HVS.out];exact hex.out);have hV0:0<V:=by have:=HB.out;have:=HVS.out;omega
         have f2:IntKind.u64.wrap (IntKind.u64.wrap (IntKind.u64.wrap ((R1:Int)*4294967296)+(d0:Int))-IntKind.u64.wrap ((mm:Int)*(V:Int)))=(((R1*4294967296+d0)%V:Nat):Int):=zyu HX2.out HV64.out hV0;have hQS2:mm<4294967296:=by rw[HX2.out,HVS.out];exact zy7 (HVS.out▸HU2.out) (by have:=HB.out;omega)
         have hQ9:=HQS.out;have f3:IntKind.u64.wrap (IntKind.u64.wrap ((Q1:Int)*4294967296)+(mm:Int))=((Q1*4294967296+mm:Nat):Int):=by simp only[IntKind.wrap_u64];omega
         have hfq:Q1*4294967296+mm=QQ:=by rw[HNQ.out,HD1.out.1,←HX2.out]
         have hfr:(R1*4294967296+d0)%V=RR*2^s:=by rw[←HNR.out,HD1.out.2]
         rw[hfq]at f3;rw[hfr]at f2;have f4:=hP2.out RR;have f5:(Q1:Int)*4294967296+(mm:Int)=(QQ:Int):=by omega
         have f6:IntKind.u64.wrap (QQ:Int)=(QQ:Int):=zzk (by omega);clear hfq hfr hex hQS2 hQ9 hV0
         obtain⟨XX,hXX⟩:∃XX,RR*2^s=XX:=⟨_,rfl⟩
         rw[hXX]at f2 f4;clear hXX;go_wp2;go_ret2
         exact⟨rfl,Tch.refl _ _⟩
        ·have hnbi:¬((4294967296:Int)≤(nn:Int)):=by omega
         go_wp2;go_roundw
         case rel=>exact⟨mm,nn,rfl,rfl,⟨M3.out,M2.out,by omega⟩,by trivial⟩
         case measure=>simp[intOf];omega
       ·have hbi:¬((4294967296:Int)≤(qn:Int)):=by omega
        have hpq:qn*v0<18446744073709551616:=by
         have h3:qn*v0≤4294967296*v0:=Nat.mul_le_mul_right _ (by omega);have:=HB.out;omega
        have w3:IntKind.u64.wrap ((qn:Int)*(v0:Int))=((qn*v0:Nat):Int):=by rw[←Int.natCast_mul];exact zzk hpq
        by_cases hc:xx<qn*v0
        ·obtain⟨m1,m2,m3⟩:=MORE (.inr hc);rw[if_pos m1]at w1;have M2:=Lib.hid m2;have M3:=Lib.hid m3;have hci:(xx:Int)<((qn*v0:Nat):Int):=Int.ofNat_lt.2 hc;generalize qn*v0=pp at *;clear MORE m2 m3 hc hpq HXX;iterate 13 go_step
         refine zyj (by rfl) (.int .u64 (qn:Int)) (by rfl) ?_;simp only[zaw];refine zyj (by rfl) (.int .u64 (v0:Int)) (by rfl) ?_;simp only[zaw];refine zyj (by rfl) (.int .u64 (pp:Int)) (by rw[←w3];rfl) ?_;simp only[zaw];refine zyj (by rfl) (.int .u64 (rn:Int)) (by rfl) ?_;simp only[zaw];refine zyj (by rfl) (.int .u64 (rr:Int)) (by rw[←hbm];rfl) ?_;simp only[zaw];refine zyj (by rfl) (.int .u64 (d0:Int)) (by rfl) ?_;simp only[zaw];refine zyj (by rfl) (.int .u64 (xx:Int)) (by rw[←w4];rfl) ?_;simp only[zaw];refine zyj (by rfl) (.bool true) (by rw[show true=decide ((xx:Int)<(pp:Int))from by simpa using hci];rfl) ?_;simp only[zaw];clear w3 w4 hbm
         obtain⟨nn,hnn⟩:∃nn,rn+v1=nn:=⟨_,rfl⟩
         obtain⟨mm,hmm⟩:∃mm,qn-1=mm:=⟨_,rfl⟩
         rw[hnn]at w2 M3;rw[hmm]at w1 M2 M3;have hmq:(mm:Int)<(qn:Int):=by omega
         by_cases hnb:4294967296≤nn
         ·have hnbi:(4294967296:Int)≤(nn:Int):=by omega
          have hex:=Lib.hid (zzp (HB.out.2.2.1) (HVS.out▸HU2.out) M3.out M2.out hnb);clear hnb;have HX2:=Lib.hid (show mm=(R1*4294967296+d0)/V by rw[HVS.out];exact hex.out);have hV0:0<V:=by have:=HB.out;have:=HVS.out;omega
          have f2:IntKind.u64.wrap (IntKind.u64.wrap (IntKind.u64.wrap ((R1:Int)*4294967296)+(d0:Int))-IntKind.u64.wrap ((mm:Int)*(V:Int)))=(((R1*4294967296+d0)%V:Nat):Int):=zyu HX2.out HV64.out hV0;have hQS2:mm<4294967296:=by rw[HX2.out,HVS.out];exact zy7 (HVS.out▸HU2.out) (by have:=HB.out;omega)
          have hQ9:=HQS.out;have f3:IntKind.u64.wrap (IntKind.u64.wrap ((Q1:Int)*4294967296)+(mm:Int))=((Q1*4294967296+mm:Nat):Int):=by simp only[IntKind.wrap_u64];omega
          have hfq:Q1*4294967296+mm=QQ:=by rw[HNQ.out,HD1.out.1,←HX2.out]
          have hfr:(R1*4294967296+d0)%V=RR*2^s:=by rw[←HNR.out,HD1.out.2]
          rw[hfq]at f3;rw[hfr]at f2;have f4:=hP2.out RR;have f5:(Q1:Int)*4294967296+(mm:Int)=(QQ:Int):=by omega
          have f6:IntKind.u64.wrap (QQ:Int)=(QQ:Int):=zzk (by omega);clear hfq hfr hex hQS2 hQ9 hV0
          obtain⟨XX,hXX⟩:∃XX,RR*2^s=XX:=⟨_,rfl⟩
          rw[hXX]at f2 f4;clear hXX;go_wp2;go_ret2
          exact⟨rfl,Tch.refl _ _⟩
         ·have hnbi:¬((4294967296:Int)≤(nn:Int)):=by omega
          go_wp2;go_roundw
          case rel=>exact⟨mm,nn,rfl,rfl,⟨M3.out,M2.out,by omega⟩,by trivial⟩
          case measure=>simp[intOf];omega
        ·have hex:=Lib.hid (z3h (HVS.out▸HU2.out) HG.out (by rw[HXX.out];omega));have hci:¬((xx:Int)<((qn*v0:Nat):Int)):=by rw[Int.ofNat_lt];exact hc
         generalize qn*v0=pp at *;clear MORE hc hpq w1 w2 hq64 HXX;iterate 13 go_step
         refine zyj (by rfl) (.int .u64 (qn:Int)) (by rfl) ?_;simp only[zaw];refine zyj (by rfl) (.int .u64 (v0:Int)) (by rfl) ?_;simp only[zaw];refine zyj (by rfl) (.int .u64 (pp:Int)) (by rw[←w3];rfl) ?_;simp only[zaw];refine zyj (by rfl) (.int .u64 (rn:Int)) (by rfl) ?_;simp only[zaw];refine zyj (by rfl) (.int .u64 (rr:Int)) (by rw[←hbm];rfl) ?_;simp only[zaw];refine zyj (by rfl) (.int .u64 (d0:Int)) (by rfl) ?_;simp only[zaw];refine zyj (by rfl) (.int .u64 (xx:Int)) (by rw[←w4];rfl) ?_;simp only[zaw];refine zyj (by rfl) (.bool false) (by rw[show false=decide ((xx:Int)<(pp:Int))from by simpa using hci];rfl) ?_;simp only[zaw];clear w3 w4 hbm;have HX2:=Lib.hid (show qn=(R1*4294967296+d0)/V by rw[HVS.out];exact hex.out);have hV0:0<V:=by have:=HB.out;have:=HVS.out;omega
         have f2:IntKind.u64.wrap (IntKind.u64.wrap (IntKind.u64.wrap ((R1:Int)*4294967296)+(d0:Int))-IntKind.u64.wrap ((qn:Int)*(V:Int)))=(((R1*4294967296+d0)%V:Nat):Int):=zyu HX2.out HV64.out hV0;have hQS2:qn<4294967296:=by rw[HX2.out,HVS.out];exact zy7 (HVS.out▸HU2.out) (by have:=HB.out;omega)
         have hQ9:=HQS.out;have f3:IntKind.u64.wrap (IntKind.u64.wrap ((Q1:Int)*4294967296)+(qn:Int))=((Q1*4294967296+qn:Nat):Int):=by simp only[IntKind.wrap_u64];omega
         have hfq:Q1*4294967296+qn=QQ:=by rw[HNQ.out,HD1.out.1,←HX2.out]
         have hfr:(R1*4294967296+d0)%V=RR*2^s:=by rw[←HNR.out,HD1.out.2]
         rw[hfq]at f3;rw[hfr]at f2;have f4:=hP2.out RR;have f5:(Q1:Int)*4294967296+(qn:Int)=(QQ:Int):=by omega
         have f6:IntKind.u64.wrap (QQ:Int)=(QQ:Int):=zzk (by omega);clear hfq hfr hex hQS2 hQ9 hV0
         obtain⟨XX,hXX⟩:∃XX,RR*2^s=XX:=⟨_,rfl⟩
         rw[hXX]at f2 f4;clear hXX;go_wp2;go_ret2
         exact⟨rfl,Tch.refl _ _⟩
     ·have hnbi:¬((4294967296:Int)≤(nn:Int)):=by omega
      go_wp2;go_roundw
      case rel=>exact⟨mm,nn,rfl,rfl,⟨M3.out,M2.out,by omega⟩,by trivial⟩
      case measure=>simp[intOf];omega
    ·have hex:=Lib.hid (z3h (HVS.out▸HU.out) HG.out (by rw[HXX.out];omega));have hci:¬((xx:Int)<((qn*v0:Nat):Int)):=by rw[Int.ofNat_lt];exact hc
     generalize qn*v0=pp at *;clear MORE hc hpq w1 w2 hq64 HXX;iterate 13 go_step
     refine zyj (by rfl) (.int .u64 (qn:Int)) (by rfl) ?_;simp only[zaw];refine zyj (by rfl) (.int .u64 (v0:Int)) (by rfl) ?_;simp only[zaw];refine zyj (by rfl) (.int .u64 (pp:Int)) (by rw[←w3];rfl) ?_;simp only[zaw];refine zyj (by rfl) (.int .u64 (rn:Int)) (by rfl) ?_;simp only[zaw];refine zyj (by rfl) (.int .u64 (rr:Int)) (by rw[←hbm];rfl) ?_;simp only[zaw];refine zyj (by rfl) (.int .u64 (d1:Int)) (by rfl) ?_;simp only[zaw];refine zyj (by rfl) (.int .u64 (xx:Int)) (by rw[←w4];rfl) ?_;simp only[zaw];refine zyj (by rfl) (.bool false) (by rw[show false=decide ((xx:Int)<(pp:Int))from by simpa using hci];rfl) ?_;simp only[zaw];clear w3 w4 hbm
     obtain⟨Q1,hQ1⟩:∃Q1,Q1=qn:=⟨_,rfl⟩
     have HX1:=Lib.hid (show Q1=(U*4294967296+d1)/V by rw[hQ1,HVS.out];exact hex.out);have hV0:0<V:=by have:=HB.out;have:=HVS.out;omega
     have f1:IntKind.u64.wrap (IntKind.u64.wrap (IntKind.u64.wrap ((U:Int)*4294967296)+(d1:Int))-IntKind.u64.wrap ((qn:Int)*(V:Int)))=(((U*4294967296+d1)%V:Nat):Int):=zyu (hQ1▸HX1.out) HV64.out hV0;have HRV:=Lib.hid (Nat.mod_lt (U*4294967296+d1) hV0);have HD1:=Lib.hid (z0j (N:=U*18446744073709551616+D) hV0 (Nat.div_add_mod (U*4294967296+d1) V) (by rw[←HDS.out]));have HQS:=Lib.hid (show Q1<4294967296 by rw[HX1.out,HVS.out];exact zy7 (HVS.out▸HU.out) (by have:=HB.out;omega));rw[←HX1.out]at HD1;clear hex
     obtain⟨R1,hR1⟩:∃R1,(U*4294967296+d1)%V=R1:=⟨_,rfl⟩
     rw[hR1]at f1 HRV HD1;clear hR1;have hR64:R1<18446744073709551616:=by have:=HRV.out;have:=HV64.out;omega
     have g1:IntKind.u64.wrap ((R1:Int).tdiv (v1:Int))=((R1/v1:Nat):Int):=zzt hR64;have g3:IntKind.u64.wrap ((R1:Int)/(v1:Int))=((R1/v1:Nat):Int):=zzh hR64;have g2:IntKind.u64.wrap ((R1:Int)-IntKind.u64.wrap (((R1/v1:Nat):Int)*(v1:Int)))=((R1-R1/v1*v1:Nat):Int):=z0a hR64;have HK2:=Lib.hid (z1q (v0:=v0) (u:=R1) (d:=d0) HB.out.1 HB.out.2.1 HB.out.2.2.2.2);have HU2:=Lib.hid (show R1<V from HRV.out);subst hQ1;have F1:=Lib.hid f1
     obtain⟨q2,hq2⟩:∃q2,R1/v1=q2:=⟨_,rfl⟩
     obtain⟨r2,hr2⟩:∃r2,R1-q2*v1=r2:=⟨_,rfl⟩
     rw[hq2,hr2]at HK2 g2;rw[hq2]at g1 g3;clear hq2 hr2 hR64 hV0;go_wp2;clear g1 g2 g3 f1;go_loopw [18,16] (fun q r wr=>∃qn rn:Nat,q=.int .u64 (qn:Int)∧r=.int .u64 (rn:Int)∧KGuess v1 v0 R1 d0 qn rn∧w=wr) (fun q _ _=>(intOf q).toNat)
     case atStart=>exact⟨_,_,rfl,rfl,HK2.out,rfl⟩
     case round=>
      obtain⟨qn,rn,rfl,rfl,hg,rfl⟩:=hrel;have HG:=Lib.hid hg;have hrB:=hg.lt;have hrr:(rn:Int)<4294967296:=by omega
      have hr0:=znn rn;have hq9:=znn qn;have hqB:qn*v1≤R1:=by have:=hg.eq;omega
      have hcc:=HB.out
      have hq64:qn<18446744073709551616:=by
       rcases Nat.lt_or_ge qn 18446744073709551616 with h|h
       ·exact h
       ·have h2:18446744073709551616*v1≤qn*v1:=Nat.mul_le_mul_right _ h;have:=HU2.out;have:=HVS.out;have:=HV64.out;omega
      have w1:IntKind.u64.wrap ((qn:Int)-1)=(if 1≤qn then((qn-1:Nat):Int)else 18446744073709551615):=by
       split<;>(simp only[IntKind.wrap_u64];omega)
      have w2:IntKind.u64.wrap ((rn:Int)+(v1:Int))=((rn+v1:Nat):Int):=by simp only[IntKind.wrap_u64];omega
      obtain⟨xx,hxx⟩:∃xx,4294967296*rn+d0=xx:=⟨_,rfl⟩
      have HXX:=Lib.hid hxx
      obtain⟨rr,hrr9⟩:∃rr,4294967296*rn=rr:=⟨_,rfl⟩
      have hbm:IntKind.u64.wrap (4294967296*(rn:Int))=(rr:Int):=by simp only[IntKind.wrap_u64];omega
      have w4:IntKind.u64.wrap ((rr:Int)+(d0:Int))=(xx:Int):=by simp only[IntKind.wrap_u64];omega
      clear hg hcc hqB hxx hrr9
      have MORE:(4294967296≤qn∨xx<qn*v0)→1≤qn∧(R1*4294967296+d0)/(v1*4294967296+v0)≤qn-1∧(qn-1)*v1+(rn+v1)=R1:=fun hc=>by
       have hm:=z3f (HVS.out▸HU2.out) (by have:=HB.out;omega) HG.out (by rw[HXX.out];exact hc);have h1:1≤qn:=Nat.lt_of_le_of_lt (Nat.zero_le _) hm;exact⟨h1,Nat.le_sub_one_of_lt hm,z3g h1 HG.out.eq⟩
      by_cases hbig:4294967296≤qn
      ·obtain⟨m1,m2,m3⟩:=MORE (.inl hbig);have hbi:(4294967296:Int)≤(qn:Int):=by omega
       rw[if_pos m1]at w1;have M2:=Lib.hid m2;have M3:=Lib.hid m3;clear MORE hbig w4 m2 m3 HXX hbm
       obtain⟨nn,hnn⟩:∃nn,rn+v1=nn:=⟨_,rfl⟩
       obtain⟨mm,hmm⟩:∃mm,qn-1=mm:=⟨_,rfl⟩
       rw[hnn]at w2 M3;rw[hmm]at w1 M2 M3;have hmq:(mm:Int)<(qn:Int):=by omega
       by_cases hnb:4294967296≤nn
       ·have hnbi:(4294967296:Int)≤(nn:Int):=by omega
        have hex:=Lib.hid (zzp (HB.out.2.2.1) (HVS.out▸HU2.out) M3.out M2.out hnb);clear hnb;have HX2:=Lib.hid (show mm=(R1*4294967296+d0)/V by rw[HVS.out];exact hex.out);have hV0:0<V:=by have:=HB.out;have:=HVS.out;omega
        have f2:IntKind.u64.wrap (IntKind.u64.wrap (IntKind.u64.wrap ((R1:Int)*4294967296)+(d0:Int))-IntKind.u64.wrap ((mm:Int)*(V:Int)))=(((R1*4294967296+d0)%V:Nat):Int):=zyu HX2.out HV64.out hV0;have hQS2:mm<4294967296:=by rw[HX2.out,HVS.out];exact zy7 (HVS.out▸HU2.out) (by have:=HB.out;omega)
        have hQ9:=HQS.out;have f3:IntKind.u64.wrap (IntKind.u64.wrap ((Q1:Int)*4294967296)+(mm:Int))=((Q1*4294967296+mm:Nat):Int):=by simp only[IntKind.wrap_u64];omega
        have hfq:Q1*4294967296+mm=QQ:=by rw[HNQ.out,HD1.out.1,←HX2.out]
        have hfr:(R1*4294967296+d0)%V=RR*2^s:=by rw[←HNR.out,HD1.out.2]
        rw[hfq]at f3;rw[hfr]at f2;have f4:=hP2.out RR;have f5:(Q1:Int)*4294967296+(mm:Int)=(QQ:Int):=by omega
        have f6:IntKind.u64.wrap (QQ:Int)=(QQ:Int):=zzk (by omega);clear hfq hfr hex hQS2 hQ9 hV0
        obtain⟨XX,hXX⟩:∃XX,RR*2^s=XX:=⟨_,rfl⟩
        rw[hXX]at f2 f4;clear hXX;go_wp2;go_ret2
        exact⟨rfl,Tch.refl _ _⟩
       ·have hnbi:¬((4294967296:Int)≤(nn:Int)):=by omega
        go_wp2;go_roundw
        case rel=>exact⟨mm,nn,rfl,rfl,⟨M3.out,M2.out,by omega⟩,by trivial⟩
        case measure=>simp[intOf];omega
      ·have hbi:¬((4294967296:Int)≤(qn:Int)):=by omega
       have hpq:qn*v0<18446744073709551616:=by
        have h3:qn*v0≤4294967296*v0:=Nat.mul_le_mul_right _ (by omega);have:=HB.out;omega
       have w3:IntKind.u64.wrap ((qn:Int)*(v0:Int))=((qn*v0:Nat):Int):=by rw[←Int.natCast_mul];exact zzk hpq
       by_cases hc:xx<qn*v0
       ·obtain⟨m1,m2,m3⟩:=MORE (.inr hc);rw[if_pos m1]at w1;have M2:=Lib.hid m2;have M3:=Lib.hid m3;have hci:(xx:Int)<((qn*v0:Nat):Int):=Int.ofNat_lt.2 hc;generalize qn*v0=pp at *;clear MORE m2 m3 hc hpq HXX;iterate 13 go_step
        refine zyj (by rfl) (.int .u64 (qn:Int)) (by rfl) ?_;simp only[zaw];refine zyj (by rfl) (.int .u64 (v0:Int)) (by rfl) ?_;simp only[zaw];refine zyj (by rfl) (.int .u64 (pp:Int)) (by rw[←w3];rfl) ?_;simp only[zaw];refine zyj (by rfl) (.int .u64 (rn:Int)) (by rfl) ?_;simp only[zaw];refine zyj (by rfl) (.int .u64 (rr:Int)) (by rw[←hbm];rfl) ?_;simp only[zaw];refine zyj (by rfl) (.int .u64 (d0:Int)) (by rfl) ?_;simp only[zaw];refine zyj (by rfl) (.int .u64 (xx:Int)) (by rw[←w4];rfl) ?_;simp only[zaw];refine zyj (by rfl) (.bool true) (by rw[show true=decide ((xx:Int)<(pp:Int))from by simpa using hci];rfl) ?_;simp only[zaw];clear w3 w4 hbm
        obtain⟨nn,hnn⟩:∃nn,rn+v1=nn:=⟨_,rfl⟩
        obtain⟨mm,hmm⟩:∃mm,qn-1=mm:=⟨_,rfl⟩
        rw[hnn]at w2 M3;rw[hmm]at w1 M2 M3;have hmq:(mm:Int)<(qn:Int):=by omega
        by_cases hnb:4294967296≤nn
        ·have hnbi:(4294967296:Int)≤(nn:Int):=by omega
         have hex:=Lib.hid (zzp (HB.out.2.2.1) (HVS.out▸HU2.out) M3.out M2.out hnb);clear hnb;have HX2:=Lib.hid (show mm=(R1*4294967296+d0)/V by rw[HVS.out];exact hex.out);have hV0:0<V:=by have:=HB.out;have:=HVS.out;omega
         have f2:IntKind.u64.wrap (IntKind.u64.wrap (IntKind.u64.wrap ((R1:Int)*4294967296)+(d0:Int))-IntKind.u64.wrap ((mm:Int)*(V:Int)))=(((R1*4294967296+d0)%V:Nat):Int):=zyu HX2.out HV64.out hV0;have hQS2:mm<4294967296:=by rw[HX2.out,HVS.out];exact zy7 (HVS.out▸HU2.out) (by have:=HB.out;omega)
         have hQ9:=HQS.out;have f3:IntKind.u64.wrap (IntKind.u64.wrap ((Q1:Int)*4294967296)+(mm:Int))=((Q1*4294967296+mm:Nat):Int):=by simp only[IntKind.wrap_u64];omega
         have hfq:Q1*4294967296+mm=QQ:=by rw[HNQ.out,HD1.out.1,←HX2.out]
         have hfr:(R1*4294967296+d0)%V=RR*2^s:=by rw[←HNR.out,HD1.out.2]
         rw[hfq]at f3;rw[hfr]at f2;have f4:=hP2.out RR;have f5:(Q1:Int)*4294967296+(mm:Int)=(QQ:Int):=by omega
         have f6:IntKind.u64.wrap (QQ:Int)=(QQ:Int):=zzk (by omega);clear hfq hfr hex hQS2 hQ9 hV0
         obtain⟨XX,hXX⟩:∃XX,RR*2^s=XX:=⟨_,rfl⟩
         rw[hXX]at f2 f4;clear hXX;go_wp2;go_ret2
         exact⟨rfl,Tch.refl _ _⟩
        ·have hnbi:¬((4294967296:Int)≤(nn:Int)):=by omega
         go_wp2;go_roundw
         case rel=>exact⟨mm,nn,rfl,rfl,⟨M3.out,M2.out,by omega⟩,by trivial⟩
         case measure=>simp[intOf];omega
       ·have hex:=Lib.hid (z3h (HVS.out▸HU2.out) HG.out (by rw[HXX.out];omega));have hci:¬((xx:Int)<((qn*v0:Nat):Int)):=by rw[Int.ofNat_lt];exact hc
        generalize qn*v0=pp at *;clear MORE hc hpq w1 w2 hq64 HXX;iterate 13 go_step
        refine zyj (by rfl) (.int .u64 (qn:Int)) (by rfl) ?_;simp only[zaw];refine zyj (by rfl) (.int .u64 (v0:Int)) (by rfl) ?_;simp only[zaw];refine zyj (by rfl) (.int .u64 (pp:Int)) (by rw[←w3];rfl) ?_;simp only[zaw];refine zyj (by rfl) (.int .u64 (rn:Int)) (by rfl) ?_;simp only[zaw];refine zyj (by rfl) (.int .u64 (rr:Int)) (by rw[←hbm];rfl) ?_;simp only[zaw];refine zyj (by rfl) (.int .u64 (d0:Int)) (by rfl) ?_;simp only[zaw];refine zyj (by rfl) (.int .u64 (xx:Int)) (by rw[←w4];rfl) ?_;simp only[zaw];refine zyj (by rfl) (.bool false) (by rw[show false=decide ((xx:Int)<(pp:Int))from by simpa using hci];rfl) ?_;simp only[zaw];clear w3 w4 hbm;have HX2:=Lib.hid (show qn=(R1*4294967296+d0)/V by rw[HVS.out];exact hex.out);have hV0:0<V:=by have:=HB.out;have:=HVS.out;omega
        have f2:IntKind.u64.wrap (IntKind.u64.wrap (IntKind.u64.wrap ((R1:Int)*4294967296)+(d0:Int))-IntKind.u64.wrap ((qn:Int)*(V:Int)))=(((R1*4294967296+d0)%V:Nat):Int):=zyu HX2.out HV64.out hV0;have hQS2:qn<4294967296:=by rw[HX2.out,HVS.out];exact zy7 (HVS.out▸HU2.out) (by have:=HB.out;omega)
        have hQ9:=HQS.out;have f3:IntKind.u64.wrap (IntKind.u64.wrap ((Q1:Int)*4294967296)+(qn:Int))=((Q1*4294967296+qn:Nat):Int):=by simp only[IntKind.wrap_u64];omega
        have hfq:Q1*4294967296+qn=QQ:=by rw[HNQ.out,HD1.out.1,←HX2.out]
        have hfr:(R1*4294967296+d0)%V=RR*2^s:=by rw[←HNR.out,HD1.out.2]
        rw[hfq]at f3;rw[hfr]at f2;have f4:=hP2.out RR;have f5:(Q1:Int)*4294967296+(qn:Int)=(QQ:Int):=by omega
        have f6:IntKind.u64.wrap (QQ:Int)=(QQ:Int):=zzk (by omega);clear hfq hfr hex hQS2 hQ9 hV0
        obtain⟨XX,hXX⟩:∃XX,RR*2^s=XX:=⟨_,rfl⟩
        rw[hXX]at f2 f4;clear hXX;go_wp2;go_ret2
        exact⟨rfl,Tch.refl _ _⟩
