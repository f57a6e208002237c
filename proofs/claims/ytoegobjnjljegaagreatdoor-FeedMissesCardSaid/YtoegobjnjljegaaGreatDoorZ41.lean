/-
  Numbers of 128 bits, and quotients.
-/
import Derived.Laws.Bits64b
import Derived.Test.YtoegobjnjljegaaGreatDoorZ20
import Derived.Test.YtoegobjnjljegaaGreatDoorZ55
set_option maxRecDepth 100000
set_option maxHeartbeats 3200000
namespace Go.Proofs.YtoegobjnjljegaaGreatDoor
open Go.RowKit Go.Gk
def wwV (x:Int):Value:=.agg #[iV (x/18446744073709551616),.int .u64 (x%18446744073709551616)]
def nwV (n:Nat):Value:=.agg #[.int .u64 ((n/18446744073709551616:Nat):Int),.int .u64 ((n%18446744073709551616:Nat):Int)]
theorem zxx (n:Int) (h: -9223372036854775808≤n∧n≤9223372036854775807) (w:World):
 Calls Tryz.prog 308 #[iV n] w fun e w'=>e=.returned (.int .u64 (n.natAbs:Int))∧w=w':=by
 obtain⟨h1,h2⟩:=h
 obtain⟨m,hm⟩:∃m:Nat,n.natAbs=m:=⟨_,rfl⟩
 rw[hm];by_cases hn:n<0
 ·have e1:IntKind.u64.wrap (-IntKind.u64.wrap n)=(m:Int):=by simp only[IntKind.wrap_u64];omega
  clear hm;go_enter Tryz.func308,Tryz.ntmps308;go_wp2;go_ret;exact⟨rfl,rfl⟩
 ·have e1:IntKind.u64.wrap n=(m:Int):=by simp only[IntKind.wrap_u64];omega
  have e2:n=(m:Int):=by omega
  clear hm;subst e2;go_enter Tryz.func308,Tryz.ntmps308;go_wp2;go_ret;exact⟨rfl,rfl⟩
theorem ztk (x y:Int) (w:World):
 Calls Tryz.prog 309 #[.agg #[iV x,.int .u64 y]] w fun e w'=>e=.returned (.agg #[iV x,.int .u64 y])∧Tf w w':=by
 go_enter Tryz.func309,Tryz.ntmps309;go_wp2;refine zfe (Blk.new2 w _ 370 _) ?_;exact⟨rfl,(Tch.alloc _ _ _).trans (Tch.alloc _ _ _)⟩
theorem z5h (n:Int) (h: -9223372036854775808≤n∧n≤9223372036854775807) (w:World):
 Calls Tryz.prog 306 #[iV n] w fun e w'=>e=.returned (wwV n)∧Tf w w':=by
 obtain⟨h1,h2⟩:=h;unfold wwV;have e1:n/9223372036854775808=n/18446744073709551616:=by omega
 have e2:IntKind.u64.wrap n=n%18446744073709551616:=by simp only[IntKind.wrap_u64]
 generalize n/18446744073709551616=a at *;generalize n%18446744073709551616=b at *;go_enter Tryz.func306,Tryz.ntmps306;go_wp2;refine zfe (Blk.new w 331 _) ?_;exact⟨rfl,Tch.alloc _ _ _⟩
theorem zxy (x one:Int) (h1:0≤one) (h2:one≤1):∃L B H C:Int,(∀w,(callFunc 291 #[.int .u64 0,.int .u64 (x%18446744073709551616),.int .u64 one]).run Tryz.prog w=.ok (.value (.tuple #[.int .u64 L,.int .u64 B])) w)∧
 (∀w,(callFunc 291 #[.int .u64 0,.int .u64 (x/18446744073709551616%18446744073709551616),.int .u64 B]).run Tryz.prog w=.ok (.value (.tuple #[.int .u64 H,.int .u64 C])) w)∧
 L=(-x-one)%18446744073709551616∧H=(-x-one)/18446744073709551616%18446744073709551616:=by
 refine⟨_,_,_,_,fun w=>sub64 0 (x%18446744073709551616) one (by decide) (by omega) (by omega) h1 h2 w,fun w=>sub64 0 (x/18446744073709551616%18446744073709551616) _ (by decide) (by omega) (by omega) (by unfold bor;split<;>decide) (by unfold bor;split<;>decide) w,by omega,?_⟩;unfold bor;split<;>omega
theorem zxz (x:Int) (h1: -85070591730234615865843651857942052864≤x) (h2:x≤85070591730234615865843651857942052864) (w:World):
 Calls Tryz.prog 310 #[wwV x] w fun e w'=>e=.returned (wwV (-x))∧Tf w w':=by
 obtain⟨L,B,H,C,s1,s2,hL,hH⟩:=zxy x 0 (by decide) (by decide);have ea:IntKind.u64.wrap (x/18446744073709551616)=x/18446744073709551616%18446744073709551616:=by simp only[IntKind.wrap_u64]
 have eh:IntKind.i64.wrap H= -x/18446744073709551616:=by rw[hH];simp only[IntKind.wrap_i64];omega
 have el:L= -x%18446744073709551616:=by rw[hL];simp
 unfold wwV;rw[←el,←eh];have EH:=Lib.hid eh;clear hL hH el eh;generalize -x/18446744073709551616=nh at *;generalize x/18446744073709551616%18446744073709551616=a' at *;generalize x/18446744073709551616=a at *;generalize x%18446744073709551616=b at *
 obtain⟨hh,hhe⟩:∃hh,IntKind.i64.wrap H=hh:=⟨_,rfl⟩
 rw[hhe];go_enter Tryz.func310,Tryz.ntmps310;go_wp2_with (first|simp only[s1]|simp only[s2]);refine zfe (Blk.new2 w _ 370 _) ?_;exact⟨rfl,(Tch.alloc _ _ _).trans (Tch.alloc _ _ _)⟩
theorem sszw_any (x:Int) (h1: -85070591730234615865843651857942052864≤x) (h2:x≤85070591730234615865843651857942052864) (w:World):
 Calls Tryz.prog 354 #[wwV x] w fun e w'=>e=.returned (nwV x.natAbs)∧Tf w w':=by
 obtain⟨m,hm⟩:∃m:Nat,x.natAbs=m:=⟨_,rfl⟩
 rw[hm];unfold wwV nwV;by_cases hx:0≤x
 ·have e1:IntKind.u64.wrap (x/18446744073709551616)=((m/18446744073709551616:Nat):Int):=by simp only[IntKind.wrap_u64];omega
  have e2:x%18446744073709551616=((m%18446744073709551616:Nat):Int):=by omega
  have e3:0≤x/18446744073709551616:=by omega
  rw[e2];generalize m/18446744073709551616=c at *;generalize m%18446744073709551616=d at *;generalize x/18446744073709551616=a at *;clear e2 hm hx h1 h2;go_enter Tryz.func354,Tryz.ntmps354;go_wp2;refine zfe (Blk.new2 w _ 302 _) ?_;exact⟨rfl,(Tch.alloc _ _ _).trans (Tch.alloc _ _ _)⟩
 ·obtain⟨L,B,H,C,s1,s2,hL,hH⟩:=zxy x 0 (by decide) (by decide);have ea:IntKind.u64.wrap (x/18446744073709551616)=x/18446744073709551616%18446744073709551616:=by simp only[IntKind.wrap_u64]
  have e1:H=((m/18446744073709551616:Nat):Int):=by rw[hH];omega
  have e2:L=((m%18446744073709551616:Nat):Int):=by rw[hL];omega
  have e3:¬0≤x/18446744073709551616:=by omega
  rw[←e1,←e2];clear e1 e2 hL hH hm hx h1 h2;generalize x/18446744073709551616%18446744073709551616=a' at *;generalize x/18446744073709551616=a at *;generalize x%18446744073709551616=b at *;go_enter Tryz.func354,Tryz.ntmps354;go_wp2_with (first|simp only[s1]|simp only[s2]);refine zfe (Blk.new2 w _ 302 _) ?_;exact⟨rfl,(Tch.alloc _ _ _).trans (Tch.alloc _ _ _)⟩
theorem z5i (n:Nat) (left:Bool) (hn:n≤85070591730234615865843651857942052864) (w:World):
 Calls Tryz.prog 355 #[nwV n,.bool left] w fun e w'=>e=.returned (wwV (-(n:Int)-(if left then 1 else 0)))∧Tf w w':=by
 obtain⟨one,hone⟩:∃one:Int,(if left then 1 else 0)=one:=⟨_,rfl⟩
 have h1:0≤one:=by rw[←hone];split<;>decide
 have h2:one≤1:=by rw[←hone];split<;>decide
 obtain⟨L,B,H,C,s1,s2,hL,hH⟩:=zxy (n:Int) one h1 h2;rw[hone];have ea:((n/18446744073709551616:Nat):Int)=(n:Int)/18446744073709551616%18446744073709551616:=by omega
 have eb:((n%18446744073709551616:Nat):Int)=(n:Int)%18446744073709551616:=by omega
 have eh:IntKind.i64.wrap H=(-(n:Int)-one)/18446744073709551616:=by rw[hH];simp only[IntKind.wrap_i64];omega
 unfold wwV nwV;rw[←hL,←eh,ea,eb];clear hL hH ea eb eh h1 h2 hn;generalize(n:Int)/18446744073709551616%18446744073709551616=a' at *;generalize(n:Int)%18446744073709551616=b at *
 obtain⟨hh,hhe⟩:∃hh,IntKind.i64.wrap H=hh:=⟨_,rfl⟩
 rw[hhe]
 cases left
 ·obtain rfl:one=0:=by rw[←hone];rfl
  clear hone;go_enter Tryz.func355,Tryz.ntmps355;go_wp2_with (first|simp only[s1]|simp only[s2]);refine zfe (Blk.new2 w _ 331 _) ?_;exact⟨rfl,(Tch.alloc _ _ _).trans (Tch.alloc _ _ _)⟩
 ·obtain rfl:one=1:=by rw[←hone];rfl
  clear hone;go_enter Tryz.func355,Tryz.ntmps355;go_wp2_with (first|simp only[s1]|simp only[s2]);refine zfe (Blk.new2 w _ 331 _) ?_;exact⟨rfl,(Tch.alloc _ _ _).trans (Tch.alloc _ _ _)⟩
open Go.RowKit Go.Gk
theorem z5j {n:Nat}:wwV (n:Int)=.agg #[iV ((n/18446744073709551616:Nat):Int),.int .u64 ((n%18446744073709551616:Nat):Int)]:=by
 unfold wwV;rw[Int.natCast_ediv,Int.natCast_emod];rfl
theorem ztl (a b:Int) (ha: -9223372036854775808≤a∧a≤9223372036854775807) (hb: -9223372036854775808≤b∧b≤9223372036854775807) (w:World):
 Calls Tryz.prog 270 #[iV a,iV b] w fun e w'=>e=.returned (wwV (a*b))∧Tf w w':=by
 have tA:=tal w (.cells #[iV 0,.int .u64 0] 331);have bA:=Blk.new w 331 #[iV 0,.int .u64 0];have hm:(a*b).natAbs=a.natAbs*b.natAbs:=Int.natAbs_mul a b;have ha1:a.natAbs≤9223372036854775808:=by omega
 have hb1:b.natAbs≤9223372036854775808:=by omega
 have hP:a.natAbs*b.natAbs≤85070591730234615865843651857942052864:=Nat.mul_le_mul ha1 hb1
 have hsg:a*b=if(decide (a<0) !=decide (b<0))then -((a.natAbs*b.natAbs:Nat):Int)else((a.natAbs*b.natAbs:Nat):Int):=by
  rw[←hm];by_cases h1:a<0<;>by_cases h2:b<0
  ·have h3:0≤a*b:=Int.mul_nonneg_of_nonpos_of_nonpos (Int.le_of_lt h1) (Int.le_of_lt h2);simp[h1,h2];omega
  ·have h3:a*b≤0:=Int.mul_nonpos_of_nonpos_of_nonneg (Int.le_of_lt h1) (by omega);simp[h1,h2];omega
  ·have h3:a*b≤0:=Int.mul_nonpos_of_nonneg_of_nonpos (by omega) (Int.le_of_lt h2);simp[h1,h2];omega
  ·have h3:0≤a*b:=Int.mul_nonneg (by omega) (by omega);simp[h1,h2];omega
 have HS1:=Lib.hid (fun w'=>zxx a ha w');have HS2:=Lib.hid (fun w'=>zxx b hb w');have HM:=Lib.hid (fun w'=>Tryz.bits_Mul64 a.natAbs b.natAbs (by omega) (by omega) w');generalize a.natAbs=am at *;generalize b.natAbs=bm at *;generalize am*bm=P at *;have e1:IntKind.i64.wrap ((P/18446744073709551616:Nat):Int)=((P/18446744073709551616:Nat):Int):=by simp only[IntKind.wrap_i64];omega
 have HWN:=Lib.hid (z5j (n:=P));have HFL:=Lib.hid (fun w'=>zxz (P:Int) (by omega) (by omega) w');rw[HWN.out]at HFL;generalize P/18446744073709551616=p1 at *;generalize P%18446744073709551616=p0 at *;have HSG:=Lib.hid hsg;clear hm ha1 hb1 hP hsg ha hb
 obtain⟨R,hR⟩:∃R,wwV (a*b)=R:=⟨_,rfl⟩
 rw[hR];have HR:=Lib.hid hR;clear hR;go_enter Tryz.func270,Tryz.ntmps270;go_wp2_with fail;refine(HS1.out _).mono ?_;rintro _ _ ⟨rfl,rfl⟩;go_wp2_with fail;refine(HS2.out _).mono ?_;rintro _ _ ⟨rfl,rfl⟩;go_wp2_with fail;refine(HM.out _).mono ?_;rintro _ w1 ⟨rfl,hw1⟩;subst hw1;clear HS1 HS2 HM;by_cases h1:a<0
 ·have g1:decide (a<0)=true:=decide_eq_true h1;by_cases h2:b<0
  ·have g2:decide (b<0)=true:=decide_eq_true h2;have HX:=Lib.hid (show R=.agg #[iV (p1:Int),.int .u64 (p0:Int)] by rw[←HR.out,HSG.out,←HWN.out];simp[h1,h2]);clear h1 h2;generalize w.alloc (.cells #[iV 0,.int .u64 0] 331)=W at *;generalize hz:w.heap.size=z at *;have HZ:=Lib.hid hz;clear hz;go_wp2_with fail;refine(ztk _ _ _).mono ?_;rintro _ w2 ⟨rfl,t2⟩;have b2:=bA.keep t2 id;have tt:=Lib.hid (tA.trans t2);clear HFL bA t2 tA;go_wp2_with (refine stH z #[iV (p1:Int),.int .u64 (p0:Int)] b2 ?_);intro w9 HBF HTF;clear b2;go_wp2;(try simp only[exS]);refine zfe HBF.out ?_;exact⟨by rw[HX.out],tt.out.trans' (F':=fun g=>g=z) HTF.out (fun i hi=>.inr (by have hi:i=z:=hi;have:=HZ.out;omega))⟩
  ·have g2:decide (b<0)=false:=decide_eq_false h2;have HX:=Lib.hid (show R=wwV (-(P:Int)) by rw[←HR.out,HSG.out];simp[h1,h2]);clear h1 h2;generalize w.alloc (.cells #[iV 0,.int .u64 0] 331)=W at *;generalize hz:w.heap.size=z at *;have HZ:=Lib.hid hz;clear hz;go_wp2_with fail;refine(HFL.out _).mono ?_;rintro _ w2 ⟨rfl,t2⟩;have b2:=bA.keep t2 id;have tt:=Lib.hid (tA.trans t2);clear HFL bA t2 tA;unfold wwV at HX⊢;go_wp2_with (refine stH z #[iV (-(P:Int)/18446744073709551616),.int .u64 (-(P:Int)%18446744073709551616)] b2 ?_);intro w9 HBF HTF;clear b2;go_wp2;(try simp only[exS]);refine zfe HBF.out ?_;exact⟨by rw[HX.out],tt.out.trans' (F':=fun g=>g=z) HTF.out (fun i hi=>.inr (by have hi:i=z:=hi;have:=HZ.out;omega))⟩
 ·have g1:decide (a<0)=false:=decide_eq_false h1;by_cases h2:b<0
  ·have g2:decide (b<0)=true:=decide_eq_true h2;have HX:=Lib.hid (show R=wwV (-(P:Int)) by rw[←HR.out,HSG.out];simp[h1,h2]);clear h1 h2;generalize w.alloc (.cells #[iV 0,.int .u64 0] 331)=W at *;generalize hz:w.heap.size=z at *;have HZ:=Lib.hid hz;clear hz;go_wp2_with fail;refine(HFL.out _).mono ?_;rintro _ w2 ⟨rfl,t2⟩;have b2:=bA.keep t2 id;have tt:=Lib.hid (tA.trans t2);clear HFL bA t2 tA;unfold wwV at HX⊢;go_wp2_with (refine stH z #[iV (-(P:Int)/18446744073709551616),.int .u64 (-(P:Int)%18446744073709551616)] b2 ?_);intro w9 HBF HTF;clear b2;go_wp2;(try simp only[exS]);refine zfe HBF.out ?_;exact⟨by rw[HX.out],tt.out.trans' (F':=fun g=>g=z) HTF.out (fun i hi=>.inr (by have hi:i=z:=hi;have:=HZ.out;omega))⟩
  ·have g2:decide (b<0)=false:=decide_eq_false h2;have HX:=Lib.hid (show R=.agg #[iV (p1:Int),.int .u64 (p0:Int)] by rw[←HR.out,HSG.out,←HWN.out];simp[h1,h2]);clear h1 h2;generalize w.alloc (.cells #[iV 0,.int .u64 0] 331)=W at *;generalize hz:w.heap.size=z at *;have HZ:=Lib.hid hz;clear hz;go_wp2_with fail;refine(ztk _ _ _).mono ?_;rintro _ w2 ⟨rfl,t2⟩;have b2:=bA.keep t2 id;have tt:=Lib.hid (tA.trans t2);clear HFL bA t2 tA;go_wp2_with (refine stH z #[iV (p1:Int),.int .u64 (p0:Int)] b2 ?_);intro w9 HBF HTF;clear b2;go_wp2;(try simp only[exS]);refine zfe HBF.out ?_;exact⟨by rw[HX.out],tt.out.trans' (F':=fun g=>g=z) HTF.out (fun i hi=>.inr (by have hi:i=z:=hi;have:=HZ.out;omega))⟩
theorem eqWide (a0 a1 b0 b1:Int) (w:World):(Op.equalIn 10000 331 (.agg #[iV a0,.int .u64 a1]) (.agg #[iV b0,.int .u64 b1])).run Tryz.prog w=.ok (a0==b0&&a1==b1) w:=by
 have u_int:=Tryz.underlying2;have a_int:=Tryz.isAgg2;have z_int:=Tryz.sizeOf2;have u_u:=Tryz.underlying242;have a_u:=Tryz.isAgg242;have z_u:=Tryz.sizeOf242;have hS:Tryz.prog.underlying 331=some (.struct (Tryz.prog.fieldsOf 331)):=by kernel_rfl
 have hp:Tryz.prog.stoodInHeld 331=false:=by kernel_rfl
 rw[show(10000:Nat)=9999+1 from rfl,run_equalIn_agg w 9999 331 _ _ hS hp];simp only[Program.fieldsOf,Tryz.underlying331];go_simp
 by_cases h0:a0=b0<;>by_cases h1:a1=b1<;>simp[h0,h1]
theorem zsd (a0 a1 b0 b1:Int) (w:World):(binOp .eql 331 (.agg #[iV a0,.int .u64 a1]) (.agg #[iV b0,.int .u64 b1])).run Tryz.prog w=.ok (.bool (a0==b0&&a1==b1)) w:=by
 rw[run_eql_struct,eqWide];rfl
theorem ztm (x:Int) (w:World):
 Calls Tryz.prog 269 #[wwV x] w fun e w'=>e=.returned (.tuple #[iV (zda x).1,iV (zda x).2])∧Tf w w':=by
 obtain⟨n,hn⟩:∃n,IntKind.i64.wrap (x%18446744073709551616)=n:=⟨_,rfl⟩
 have hn64: -9223372036854775808≤n∧n≤9223372036854775807:=by rw[←hn,IntKind.wrap_i64];omega
 have hnm:n%18446744073709551616=x%18446744073709551616:=by rw[←hn,IntKind.wrap_i64];omega
 have tw:=tal w (.cells #[iV (x/18446744073709551616),.int .u64 (x%18446744073709551616)] 331);have bb:=Blk.new w 331 #[iV (x/18446744073709551616),.int .u64 (x%18446744073709551616)];have HO:=Lib.hid (fun w'=>z5h n hn64 w')
 have hcmp:∀w':World,(binOp .eql 331 (wwV n) (.agg #[iV (x/18446744073709551616),.int .u64 (x%18446744073709551616)])).run Tryz.prog w'=.ok (.bool (decide (n=x))) w':=fun w'=>by
  unfold wwV;rw[zsd]
  have e:(n/18446744073709551616==x/18446744073709551616&&n%18446744073709551616==x%18446744073709551616)=decide (n=x):=by
   rw[Bool.eq_iff_iff];simp only[Bool.and_eq_true,beq_iff_eq,decide_eq_true_eq];omega
  rw[e]
 have HT:=Lib.hid (show zda x=if n=x then(n,0)else(0,10) by
  unfold zda;by_cases h:n=x
  ·rw[if_pos h,if_pos (h▸hn64),h]
  ·rw[if_neg h,if_neg (fun h9=>h (by rw[←hn,IntKind.wrap_i64];omega))])
 unfold wwV at hcmp HO⊢;generalize n/18446744073709551616=na at *;generalize n%18446744073709551616=nb at *;generalize x/18446744073709551616=a at *;generalize x%18446744073709551616=b at *;rw[HT.out];clear hn64 hnm HT;have y0:=zad (F:=fun _=>False) (show(w.alloc (.cells #[iV a,.int .u64 b] 331)).cell? ⟨w.heap.size,0,none⟩=some (iV a)from bb.cell 0) id;have y1:=zad (F:=fun _=>False) (show(w.alloc (.cells #[iV a,.int .u64 b] 331)).cell? ⟨w.heap.size,1,none⟩=some (.int .u64 b)from bb.cell 1) id;go_enter Tryz.func269,Tryz.ntmps269;go_wp2_with fail;refine zai (fun _=>False) [] 3 [(1,.inl (.agg #[iV na,.int .u64 nb]))] [] ?_ ?_
 ·exact trivial
 intro bef _;(refine zbt ?_;(try simp only[zaw]));refine zb3 (.agg #[iV na,.int .u64 nb]) (by rfl) (by rfl) (fun w2 hr hf=>?_) ?_
 ·refine zaa (d:=9) rfl (by simp) (fun K hK=>?_);go_step;refine(HO.out w2).mono ?_;rintro _ w3 ⟨rfl,t3⟩;exact hK _ _ ⟨⟨rfl,t3⟩,zaf⟩
 simp only[zaw];(refine zbt ?_;(try simp only[zaw]));refine za6 ?_;intro w2 hr hp9 hap;have t2:=Lib.hid (tw.trans ((Tch.drew (fun _=>False) _).trans hr));clear hap hp9 hr y0 y1 bb tw HO;by_cases h:n=x
 ·have HF:=Lib.hid h;have hcmp2:∀w':World,(binOp .eql 331 (.agg #[iV na,.int .u64 nb]) (.agg #[iV a,.int .u64 b])).run Tryz.prog w'=.ok (.bool true) w':=fun w'=>by rw[hcmp w',decide_eq_true h]
  clear hcmp h;go_wp2;go_ret2
  exact⟨rfl,t2.out⟩
 ·have HF:=Lib.hid h;have hcmp2:∀w':World,(binOp .eql 331 (.agg #[iV na,.int .u64 nb]) (.agg #[iV a,.int .u64 b])).run Tryz.prog w'=.ok (.bool false) w':=fun w'=>by rw[hcmp w',decide_eq_false h]
  clear hcmp h;go_wp2;go_ret2
  exact⟨rfl,t2.out⟩
