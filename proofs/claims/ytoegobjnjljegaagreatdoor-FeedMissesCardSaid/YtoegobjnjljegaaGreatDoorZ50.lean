/-
  Quotients of 128 bits, to the nearest.
-/
import Derived.Test.YtoegobjnjljegaaGreatDoorZ40
import Derived.Test.YtoegobjnjljegaaGreatDoorZ69
import Derived.Test.YtoegobjnjljegaaGreatDoorZ37
set_option maxRecDepth 100000
set_option maxHeartbeats 3200000
namespace Go.Proofs.YtoegobjnjljegaaGreatDoor
open Go.RowKit Go.Gk
theorem z3e {N q1 q0:Nat} (h:N=q1*18446744073709551616+q0) (hs:q0<18446744073709551616):N/18446744073709551616=q1∧N%18446744073709551616=q0:=by omega
theorem z5k (n d:Nat) (hn:n<340282366920938463463374607431768211456) (hd0:0<d) (hd:d<18446744073709551616) (w:World):
 Calls Tryz.prog 353 #[nwV n,.int .u64 (d:Int)] w fun e w'=>e=.returned (.tuple #[nwV (n/d),.int .u64 ((n%d:Nat):Int)])∧Tf w w':=by
 have HD1:=Lib.hid (fun w'=>z18 0 (n/18446744073709551616) d hd0 (by omega) hd w');have HD2:=Lib.hid (fun w'=>z18 (n/18446744073709551616%d) (n%18446744073709551616) d (Nat.mod_lt _ hd0) (by omega) hd w');simp only[Nat.zero_mul,Nat.zero_add,Int.natCast_zero]at HD1;have hdm:=Nat.div_add_mod (n/18446744073709551616) d;have hml:=Nat.mod_lt (n/18446744073709551616) hd0
 have hN:n=d*(n/18446744073709551616/d*18446744073709551616)+(n/18446744073709551616%d*18446744073709551616+n%18446744073709551616):=by
  have h9:=Nat.div_add_mod n 18446744073709551616;rw[←Nat.mul_assoc];generalize n/18446744073709551616=c at *;generalize d*(c/d)=g at *;omega
 have hq:n/d=n/18446744073709551616/d*18446744073709551616+(n/18446744073709551616%d*18446744073709551616+n%18446744073709551616)/d:=by
  conv=>lhs;rw[hN]
  exact Nat.mul_add_div hd0 _ _
 have hr:n%d=(n/18446744073709551616%d*18446744073709551616+n%18446744073709551616)%d:=by
  conv=>lhs;rw[hN]
  exact Nat.mul_add_mod _ _ _
 have hs:(n/18446744073709551616%d*18446744073709551616+n%18446744073709551616)/d<18446744073709551616:=by
  rw[Nat.div_lt_iff_lt_mul hd0];generalize n/18446744073709551616%d=c at *;omega
 have hN64:n/18446744073709551616/d<18446744073709551616:=Nat.lt_of_le_of_lt (Nat.div_le_self _ _) (by omega)
 obtain⟨q0,hq0⟩:∃q0,(n/18446744073709551616%d*18446744073709551616+n%18446744073709551616)/d=q0:=⟨_,rfl⟩
 obtain⟨r0,hr0⟩:∃r0,(n/18446744073709551616%d*18446744073709551616+n%18446744073709551616)%d=r0:=⟨_,rfl⟩
 obtain⟨q1,hq1⟩:∃q1,n/18446744073709551616/d=q1:=⟨_,rfl⟩
 obtain⟨r1,hr1⟩:∃r1,n/18446744073709551616%d=r1:=⟨_,rfl⟩
 rw[hq0]at hq hs;rw[hr0]at hr;rw[hq1]at hq hN64;have hw1:n/d/18446744073709551616=q1:=(z3e hq hs).1;have hw0:n/d%18446744073709551616=q0:=(z3e hq hs).2;unfold nwV;rw[hw1,hw0,hr];have HE1:=Lib.hid (fun w'=>(HD1.out w'));rw[hq1,hr1]at HE1;have HE2:=Lib.hid (fun w'=>(HD2.out w'));rw[hq0,hr0,hr1]at HE2;clear HD1 HD2 hN hq hr hs hN64 hw1 hw0 hdm hml hq0 hr0 hq1 hr1;generalize n/18446744073709551616=n1 at *;generalize n%18446744073709551616=n0 at *;clear hn;have tA:=tal w (.cells #[.int .u64 (n1:Int),.int .u64 (n0:Int)] 302);have bA:=Blk.new w 302 #[.int .u64 (n1:Int),.int .u64 (n0:Int)];have tB:=tal (w.alloc (.cells #[.int .u64 (n1:Int),.int .u64 (n0:Int)] 302)) (.cells #[.int .u64 0,.int .u64 0] 302);have bB:=Blk.new (w.alloc (.cells #[.int .u64 (n1:Int),.int .u64 (n0:Int)] 302)) 302 #[.int .u64 0,.int .u64 0];go_enter Tryz.func353,Tryz.ntmps353;go_wp2;refine wp_scope_jumps 0 (fun a' w'=>∃(u9 u10 u11 u12 u13 u14 u15 u16 u17 u18 u19 u20 u21 u22 u23 u24 u25:Value),a'={tmps:= #[.agg #[.int .u64 (n1:Int),.int .u64 (n0:Int)],.int .u64 (d:Int),.pointer (some ⟨w.heap.size,0,none⟩),undef,.pointer (some ⟨w.heap.size+1,0,none⟩),.int .u64 0,.pointer (some ⟨w.heap.size+2,0,none⟩),.int .u64 (r1:Int),iV 1,u9,u10,u11,u12,u13,u14,u15,u16,u17,u18,u19,u20,u21,u22,u23,u24,u25],defers:=[]}∧Blk w' w.heap.size 302 #[.int .u64 (n1:Int),.int .u64 (n0:Int)]∧Blk w' (w.heap.size+1) 302 #[.int .u64 0,.int .u64 0]∧Blk w' (w.heap.size+2) 302 #[.int .u64 (q1:Int),.int .u64 0]∧Tf w w') (fun a' _=>2-(intOf (a'.tmps.getD 8 undef)).toNat) rfl ?_ ?_
 ·have tC:=tal ((w.alloc (.cells #[.int .u64 (n1:Int),.int .u64 (n0:Int)] 302)).alloc (.cells #[.int .u64 0,.int .u64 0] 302)) (.cells #[.int .u64 0,.int .u64 0] 302);have bC:=Blk.new ((w.alloc (.cells #[.int .u64 (n1:Int),.int .u64 (n0:Int)] 302)).alloc (.cells #[.int .u64 0,.int .u64 0] 302)) 302 #[.int .u64 0,.int .u64 0];have hs1:(w.alloc (.cells #[.int .u64 (n1:Int),.int .u64 (n0:Int)] 302)).heap.size=w.heap.size+1:=by simp
  have hs2:((w.alloc (.cells #[.int .u64 (n1:Int),.int .u64 (n0:Int)] 302)).alloc (.cells #[.int .u64 0,.int .u64 0] 302)).heap.size=w.heap.size+2:=by simp
  rw[hs1]at bB;rw[hs2]at bC;have bA3:=(bA.keep tB id).keep tC id;have bB3:=bB.keep tC id;have T3:=Lib.hid ((tA.trans tB).trans tC);have x0:=bA3.at0;clear tA tB tC bA bB hs1 hs2;go_wp2;go_step3
  go_wp2_with fail;refine(HE1.out _).mono ?_;rintro _ w3 ⟨rfl,t3⟩;have bA4:=bA3.keep t3 id;have bB4:=bB3.keep t3 id;have bC4:=bC.keep t3 id;have T4:=Lib.hid (T3.out.trans t3);clear bA3 bB3 bC t3 x0;go_wp2_with (refine zab rfl _ _ _ rfl (w.heap.size+2) 0 (.int .u64 (q1:Int)) (by rfl) (by rfl) rfl (by rfl) bC4 (by simp) ?_;refine Hid.out ?_);refine Lib.hid ?_;intro w5 bC5 ts;(try simp only[List.setIfInBounds_toArray,List.set_cons_zero]at bC5);have bA5:=bA4.keep ts (by omega);have bB5:=bB4.keep ts (by omega);have T5:=T4.out.trans' ts (fun i hi=>.inr (by have hi:i=w.heap.size+2:=hi;omega));clear bA4 bB4 bC4 ts;go_wp2;go_step3
  exact⟨rfl,_,_,_,_,_,_,_,_,_,_,_,_,_,_,_,_,_,rfl,bA5,bB5,bC5,T5⟩
 ·rintro a' w3 ⟨u9,u10,u11,u12,u13,u14,u15,u16,u17,u18,u19,u20,u21,u22,u23,u24,u25,rfl,bA3,bB3,bC3,T3⟩;have x1:=bA3.at1;clear tA tB bA bB;go_wp2_with fail;refine(HE2.out _).mono ?_;rintro _ w4 ⟨rfl,t4⟩;have bB4:=bB3.keep t4 id;have bC4:=bC3.keep t4 id;have T4:=Lib.hid (T3.trans t4);clear bA3 bB3 bC3 t4 x1 T3;go_wp2_with (refine zab rfl _ _ _ rfl (w.heap.size+2) 1 (.int .u64 (q0:Int)) (by rfl) (by rfl) rfl (by rfl) bC4 (by simp) ?_;refine Hid.out ?_);refine Lib.hid ?_;intro w5 bC5 ts;(try simp only[List.setIfInBounds_toArray,List.set_cons_succ,List.set_cons_zero]at bC5);have bB5:=bB4.keep ts (by omega);have T5:=Lib.hid (T4.out.trans' ts (fun i hi=>.inr (by have hi:i=w.heap.size+2:=hi;omega)));obtain⟨z0,z1⟩:=bC5.f2;clear bB4 bC4 ts;go_wp2_with (refine stH (w.heap.size+1) #[.int .u64 (q1:Int),.int .u64 (q0:Int)] bB5 ?_);intro w9 HBF HTF;clear bB5 bC5 z0 z1;go_wp2;(try simp only[Exit.jump]);(try simp only[exS]);refine zbi HBF.out ?_;exact⟨rfl,T5.out.trans' (F':=fun g=>g=w.heap.size+1) HTF.out (fun i hi=>.inr (by have hi:i=w.heap.size+1:=hi;omega))⟩
open Go.RowKit Go.Gk
theorem zy6 {P:Program} {fn:Func} {p u v:Tmp} {ty:TypeId} (h:fn.results= #[.cell p ty,.tmp u,.tmp v]) (tmps:Array Value) (w:World) (g:Nat) (t:TypeId) (cs:Array Value) (fr:Nat×Nat) (d:TypeDesc)
 (hp:tmps.getD p undef=.pointer (some ⟨g,0,none⟩)) (hg:w.heap[g]?=some (.cells cs t fr))
 (hu:P.underlying ty=some d) (hd:(match d with | .struct _| .array _ _=>true|_=>false)=true) (hi:(P.info? ty).map (·.size)=some cs.size):
 (results fn tmps).run P w=.ok (.tuple #[.agg cs,tmps.getD u undef,tmps.getD v undef]) w:=by
 have e:(results fn tmps).run P w=((asAddr (tmps.getD p undef)).run P w).andThen fun a w₁=>((loadVar ty a).run P w₁).andThen fun v0 w₂=>.ok (.tuple #[v0,tmps.getD u undef,tmps.getD v undef]) w₂:=by
  simp only[results,h];simp[Sem.run_bind,Result.andThen]
 rw[e,hp];simp[asAddr,run_loadVar_row w g t ty cs fr d hg hu hd hi,Result.andThen]
theorem quo_any (x:Int) (d:Nat) (h1: -85070591730234615865843651857942052864≤x) (h2:x≤85070591730234615865843651857942052864) (hd0:0<d) (hd:d≤4611686018427387904) (w:World):
 Calls Tryz.prog 337 #[wwV x,iV (d:Int)] w fun e w'=>e=.returned (.tuple #[wwV (x/(d:Int)),iV (x% (d:Int)),iV 0])∧Tf w w':=by
 obtain⟨m,hm⟩:∃m:Nat,x.natAbs=m:=⟨_,rfl⟩
 have HS:=Lib.hid (fun w'=>sszw_any x h1 h2 w');rw[hm]at HS;have hm1:m≤85070591730234615865843651857942052864:=by omega
 have HW:=Lib.hid (fun w'=>z5k m d (by omega) hd0 (by omega) w');have hdu:IntKind.u64.wrap (d:Int)=(d:Int):=by simp only[IntKind.wrap_u64];omega
 have hml:=Nat.mod_lt m hd0;have hdm:=Nat.div_add_mod m d;have hqm:m/d≤85070591730234615865843651857942052864:=Nat.le_trans (Nat.div_le_self _ _) hm1;have hun:∀q r:Int,r+(d:Int)*q=x→0≤r→r<(d:Int)→x/(d:Int)=q∧x% (d:Int)=r:=fun q r e a b=>(Int.ediv_emod_unique (by omega)).2 ⟨e,a,b⟩
 have hdmi:(d:Int)*((m/d:Nat):Int)+((m%d:Nat):Int)=(m:Int):=by rw[←Int.natCast_mul,←Int.natCast_add,hdm]
 have HB:=Lib.hid (fun left w'=>z5i (m/d) left hqm w');have HN:=Lib.hid (z5j (n:=m/d))
 have i1:IntKind.i64.wrap ((m/d/18446744073709551616:Nat):Int)=((m/d/18446744073709551616:Nat):Int):=by
  have hz9:=hqm;generalize m/d=c at hz9⊢;simp only[IntKind.wrap_i64];omega
 have i2:IntKind.i64.wrap ((m%d:Nat):Int)=((m%d:Nat):Int):=by simp only[IntKind.wrap_i64];omega
 obtain⟨QV,hQV⟩:∃QV,x/(d:Int)=QV:=⟨_,rfl⟩
 obtain⟨RV,hRV⟩:∃RV,x% (d:Int)=RV:=⟨_,rfl⟩
 rw[hQV,hRV]at hun⊢
 have hsign:(0≤x∧QV=((m/d:Nat):Int)∧RV=((m%d:Nat):Int))∨(x<0∧m%d=0∧QV= -((m/d:Nat):Int)∧RV=0)∨(x<0∧m%d≠0∧QV= -((m/d:Nat):Int)-1∧RV=(d:Int)-((m%d:Nat):Int)):=by
  by_cases hx:0≤x
  ·obtain⟨a,b⟩:=hun ((m/d:Nat):Int) ((m%d:Nat):Int) (by omega) (by omega) (by omega);exact .inl ⟨hx,a,b⟩
  ·by_cases hz:m%d=0
   ·rw[hz]at hdmi;obtain⟨a,b⟩:=hun (-((m/d:Nat):Int)) 0 (by rw[Int.mul_neg];omega) (by omega) (by omega);exact .inr (.inl ⟨by omega,hz,a,b⟩)
   ·obtain⟨a,b⟩:=hun (-((m/d:Nat):Int)-1) ((d:Int)-((m%d:Nat):Int)) (by rw[Int.mul_sub,Int.mul_neg,Int.mul_one];omega) (by omega) (by omega);exact .inr (.inr ⟨by omega,hz,a,b⟩)
 have tA:=tal w (.cells #[iV (x/18446744073709551616),.int .u64 (x%18446744073709551616)] 331)
 have bA:=(Blk.new w 331 #[iV (x/18446744073709551616),.int .u64 (x%18446744073709551616)])
 have tB:=tal (w.alloc (.cells #[iV (x/18446744073709551616),.int .u64 (x%18446744073709551616)] 331)) (.cells #[iV 0,.int .u64 0] 331);have bB:=Blk.new2 w (.cells #[iV (x/18446744073709551616),.int .u64 (x%18446744073709551616)] 331) 331 #[iV 0,.int .u64 0];have bA2:=bA.keep tB id;have tt:=tA.trans tB;have x0:=bA2.cell 0;have x1:=bA2.cell 1;simp only[List.getElem?_toArray,List.getElem?_cons_zero,List.getElem?_cons_succ]at x0 x1;have hdi:¬((d:Int)<1):=by omega
 unfold wwV at HS⊢;have hsx:0≤x↔0≤x/18446744073709551616:=by omega
 generalize x/18446744073709551616=xa at *;generalize x%18446744073709551616=xb at *;clear hun hQV hRV hdm hdmi hqm hm1 hm h1 h2 tA tB bA;generalize hqd:m/d=qd at *;generalize hrd:m%d=rd at *;clear hqd hrd;have hrd0:=znn rd;unfold nwV at HW HB;have hB0:=HB;go_enter Tryz.func337,Tryz.ntmps337;go_wp2_with fail;generalize(w.alloc (.cells #[iV xa,.int .u64 xb] 331)).alloc (.cells #[iV 0,.int .u64 0] 331)=W at *;generalize hz:w.heap.size=z at *;have HZ:=Lib.hid hz;clear hz;refine(HS.out _).mono ?_;rintro _ w1 ⟨rfl,t1⟩;have bA3:=bA2.keep t1 id;have bB3:=bB.keep t1 id;have T1:=Lib.hid (tt.trans t1);clear HS x0 x1 bA2 bB tt t1;unfold nwV;go_wp2_with fail;refine(HW.out _).mono ?_;rintro _ w2 ⟨rfl,t2⟩;have bA4:=bA3.keep t2 id;have bB4:=bB3.keep t2 id;have T2:=Lib.hid (T1.out.trans t2);clear HW bA3 bB3 t2 T1;have tP:=tal w2 (.cells #[.int .u64 ((qd/18446744073709551616:Nat):Int),.int .u64 ((qd%18446744073709551616:Nat):Int)] 302);have bP:=Blk.new w2 302 #[.int .u64 ((qd/18446744073709551616:Nat):Int),.int .u64 ((qd%18446744073709551616:Nat):Int)];have bA5:=bA4.keep tP id;have bB5:=bB4.keep tP id;have T5:=Lib.hid (T2.out.trans tP);generalize qd/18446744073709551616=qa at *;generalize qd%18446744073709551616=qb at *;have x0:=bA5.at0;obtain⟨p0,p1⟩:=bP.f2;clear bA4 bB4 bA5 bP tP T2
 rcases hsign with⟨hx,hq,hr⟩|⟨hx,hz,hq,hr⟩|⟨hx,hz,hq,hr⟩
 ·have hxa:0≤xa:=hsx.1 hx;have HX:=Lib.hid (show wwV QV=.agg #[iV (qa:Int),.int .u64 (qb:Int)] by rw[hq,HN.out]);have HR:=Lib.hid hr;unfold wwV at HX;clear hx hq hr hsx HB hB0 HN;go_wp2_with (refine stH (z+1) #[iV (qa:Int),.int .u64 (qb:Int)] bB5 ?_);intro w9 HBF HTF;clear bB5 x0 p0 p1;go_wp2;(try simp only[Exit.inBlock,Exit.then]);(try rw[Exit.noGoto_ret]);refine bodyPost_ret (zy6 (P:=Tryz.prog) rfl _ _ (z+1) 331 _ (0,0) _ rfl HBF.out Tryz.underlying331 rfl (by kernel_rfl)) rfl ?_;exact⟨by rw[HX.out,HR.out]<;>rfl,T5.out.trans' (F':=fun g=>g=z+1) HTF.out (fun i hi=>.inr (by have hi:i=z+1:=hi;have:=HZ.out;omega))⟩
 ·have hxa:¬0≤xa:=fun h=>absurd (hsx.2 h) (by omega)
  have HX:=Lib.hid (show wwV QV=wwV (-(qd:Int)-(if false=true then 1 else 0)) by rw[hq];first|rfl|(congr 1;simp));have HR:=Lib.hid hr;have HB1:=Lib.hid (fun w'=>HB.out false w')
  obtain⟨YV,hYV⟩:∃YV:Int,-(qd:Int)-(if false=true then 1 else 0)=YV:=⟨_,rfl⟩
  rw[hYV]at HB1 HX;clear hYV;have hz9:(rd:Int)=0:=by omega
  clear hx hq hr hsx HB hB0 HN hz;unfold wwV at HB1 HX;generalize YV/18446744073709551616=ya at *;generalize YV%18446744073709551616=yb at *;go_wp2_with fail;refine(HB1.out _).mono ?_;rintro _ w3 ⟨rfl,t3⟩;have b6:=bB5.keep t3 id;have T6:=Lib.hid (T5.out.trans t3);clear HB1 t3 bB5;go_wp2_with (refine stH (z+1) #[iV ya,.int .u64 yb] b6 ?_);intro w9 HBF HTF;clear b6 x0 p0 p1;go_wp2;(try simp only[Exit.inBlock,Exit.then]);(try rw[Exit.noGoto_ret]);refine bodyPost_ret (zy6 (P:=Tryz.prog) rfl _ _ (z+1) 331 _ (0,0) _ rfl HBF.out Tryz.underlying331 rfl (by kernel_rfl)) rfl ?_;exact⟨by rw[HX.out,HR.out]<;>rfl,T6.out.trans' (F':=fun g=>g=z+1) HTF.out (fun i hi=>.inr (by have hi:i=z+1:=hi;have:=HZ.out;omega))⟩
 ·have hxa:¬0≤xa:=fun h=>absurd (hsx.2 h) (by omega)
  have HX:=Lib.hid (show wwV QV=wwV (-(qd:Int)-(if true=true then 1 else 0)) by rw[hq];first|rfl|(congr 1;simp));have HR:=Lib.hid hr;have HB1:=Lib.hid (fun w'=>HB.out true w')
  obtain⟨YV,hYV⟩:∃YV:Int,-(qd:Int)-(if true=true then 1 else 0)=YV:=⟨_,rfl⟩
  rw[hYV]at HB1 HX;clear hYV;have hz9:¬((rd:Int)=0):=by omega
  have hz8:wrap64 ((d:Int)-(rd:Int))=(d:Int)-(rd:Int):=by unfold wrap64;omega
  clear hx hq hr hsx HB hB0 HN hz;unfold wwV at HB1 HX;generalize YV/18446744073709551616=ya at *;generalize YV%18446744073709551616=yb at *;go_wp2_with fail;refine(HB1.out _).mono ?_;rintro _ w3 ⟨rfl,t3⟩;have b6:=bB5.keep t3 id;have T6:=Lib.hid (T5.out.trans t3);clear HB1 t3 bB5;go_wp2_with (refine stH (z+1) #[iV ya,.int .u64 yb] b6 ?_);intro w9 HBF HTF;clear b6 x0 p0 p1;go_wp2;(try simp only[Exit.inBlock,Exit.then]);(try rw[Exit.noGoto_ret]);refine bodyPost_ret (zy6 (P:=Tryz.prog) rfl _ _ (z+1) 331 _ (0,0) _ rfl HBF.out Tryz.underlying331 rfl (by kernel_rfl)) rfl ?_;exact⟨by rw[HX.out,HR.out]<;>rfl,T6.out.trans' (F':=fun g=>g=z+1) HTF.out (fun i hi=>.inr (by have hi:i=z+1:=hi;have:=HZ.out;omega))⟩
open Go.RowKit Go.Gk
theorem z38 (x:Int) (h1: -85070591730234615865843651857942052865≤x) (h2:x≤85070591730234615865843651857942052864) (w:World):
 Calls Tryz.prog 339 #[wwV x,wwV 1] w fun e w'=>e=.returned (.tuple #[wwV (x+1),iV 0])∧Tf w w':=by
 have s1:=fun w'=>z4h (x%18446744073709551616) 1 (by omega) (by decide) w'
 have hc0:0≤(x%18446744073709551616+1)/18446744073709551616:=by omega
 have hc1:(x%18446744073709551616+1)/18446744073709551616≤1:=by omega
 have s2:=fun w'=>add64 (x/18446744073709551616%18446744073709551616) 0 ((x%18446744073709551616+1)/18446744073709551616) (by omega) (by decide) hc0 hc1 w'
 have e1:(x%18446744073709551616+1)%18446744073709551616=(x+1)%18446744073709551616:=by omega
 have ea:IntKind.u64.wrap (x/18446744073709551616)=x/18446744073709551616%18446744073709551616:=by simp only[IntKind.wrap_u64]
 obtain⟨H,hH⟩:∃H,(x/18446744073709551616%18446744073709551616+0+(x%18446744073709551616+1)/18446744073709551616)%18446744073709551616=H:=⟨_,rfl⟩
 obtain⟨C2,hC2⟩:∃C2,(x/18446744073709551616%18446744073709551616+0+(x%18446744073709551616+1)/18446744073709551616)/18446744073709551616=C2:=⟨_,rfl⟩
 have eh:IntKind.i64.wrap H=(x+1)/18446744073709551616:=by rw[←hH];simp only[IntKind.wrap_i64];omega
 have hsg:0≤x/18446744073709551616→0≤(x+1)/18446744073709551616:=by omega
 rw[hH,hC2]at s2;rw[e1]at s1;have ew:wwV 1=.agg #[iV 0,.int .u64 1]:=rfl;rw[ew];unfold wwV;clear hH hC2 e1 hc0 hc1 h1 h2 ew;generalize(x+1)/18446744073709551616=ya at *;generalize(x+1)%18446744073709551616=yb at *;generalize(x%18446744073709551616+1)/18446744073709551616=cc at *;generalize x/18446744073709551616%18446744073709551616=a' at *;generalize x/18446744073709551616=a at *;generalize x%18446744073709551616=b at *;by_cases ha:a<0
 ·have g1:decide (a<0)=true:=decide_eq_true ha;clear hsg ha;go_enter Tryz.func339,Tryz.ntmps339;go_wp2_with (first|simp only[s1]|simp only[s2])
  have hb:Blk (((w.alloc (.cells #[iV a,.int .u64 b] 331)).alloc (.cells #[iV 0,.int .u64 1] 331)).alloc (.cells #[iV ya,.int .u64 yb] 331)) (w.heap.size+1+1) 331 #[iV ya,.int .u64 yb]:=by
   simpa using Blk.new ((w.alloc (.cells #[iV a,.int .u64 b] 331)).alloc (.cells #[iV 0,.int .u64 1] 331)) 331 #[iV ya,.int .u64 yb]
  refine zbi hb ?_;exact⟨rfl,((Tch.alloc _ _ _).trans (Tch.alloc _ _ _)).trans (Tch.alloc _ _ _)⟩
 ·have g1:decide (a<0)=false:=decide_eq_false ha;have g2:decide (ya<0)=false:=decide_eq_false (by have:=hsg (by omega);omega);clear hsg ha;go_enter Tryz.func339,Tryz.ntmps339;go_wp2_with (first|simp only[s1]|simp only[s2])
  have hb:Blk (((w.alloc (.cells #[iV a,.int .u64 b] 331)).alloc (.cells #[iV 0,.int .u64 1] 331)).alloc (.cells #[iV ya,.int .u64 yb] 331)) (w.heap.size+1+1) 331 #[iV ya,.int .u64 yb]:=by
   simpa using Blk.new ((w.alloc (.cells #[iV a,.int .u64 b] 331)).alloc (.cells #[iV 0,.int .u64 1] 331)) 331 #[iV ya,.int .u64 yb]
  refine zbi hb ?_;exact⟨rfl,((Tch.alloc _ _ _).trans (Tch.alloc _ _ _)).trans (Tch.alloc _ _ _)⟩
theorem z4a {w:World} {zr zd zq:Nat} {r d qb:Int} (hr:w.cell? ⟨zr,0,none⟩=some (iV r)) (hd:w.cell? ⟨zd,0,none⟩=some (iV d)) (hq:w.cell? ⟨zq,1,none⟩=some (.int .u64 qb)) (hqb:0≤qb∧qb<18446744073709551616) (h0:0≤r) (h1:r<d) (h2:d≤4611686018427387904):
 Calls Tryz.prog 338 #[.pointer (some ⟨zr,0,none⟩),.pointer (some ⟨zd,0,none⟩),.pointer (some ⟨zq,0,none⟩)] w fun e w'=>e=.returned (.bool (decide (2*r>d∨(2*r=d∧qb%2=1))))∧w=w':=by
 have e1:wrap64 (d-r)=d-r:=by unfold wrap64;omega
 obtain⟨n,rfl⟩:∃n:Nat,qb=(n:Int):=⟨qb.toNat,by omega⟩
 have e2:bits .and .u64 (n:Int) 1=((n%2:Nat):Int):=by
  have h:=bits_and_u64_nat n 1 (by omega) (by decide);rw[Nat.and_one_is_mod]at h;exact h
 have e3:((n%2:Nat):Int)=(n:Int)%2:=by omega
 obtain⟨dr,hdr⟩:∃dr,d-r=dr:=⟨_,rfl⟩
 rw[hdr]at e1;by_cases c1:dr<r
 ·have HT:=Lib.hid (show decide (2*r>d∨(2*r=d∧(n:Int)%2=1))=true from decide_eq_true (.inl (by omega)));rw[HT.out];clear h0 h1 h2;go_enter Tryz.func338,Tryz.ntmps338;go_wp2;go_ret;exact⟨rfl,rfl⟩
 ·by_cases c2:r=dr
  ·obtain⟨p2,hp2⟩:∃p2,n%2=p2:=⟨_,rfl⟩
   rw[hp2]at e2
   have HT:=Lib.hid (show decide (2*r>d∨(2*r=d∧(n:Int)%2=1))=((p2:Int)==1) by
    rw[Bool.eq_iff_iff];simp only[decide_eq_true_eq,beq_iff_eq]
    omega)
   rw[HT.out];have c2':(r==dr)=true:=by simpa using c2
   have c1':decide (dr<r)=false:=decide_eq_false c1;clear h0 h1 h2 c2 c1 hp2 e3 HT;go_enter Tryz.func338,Tryz.ntmps338;go_wp2;go_ret;exact⟨rfl,rfl⟩
  ·have HT:=Lib.hid (show decide (2*r>d∨(2*r=d∧(n:Int)%2=1))=false from decide_eq_false (by omega));rw[HT.out];have c2':(r==dr)=false:=by simpa using c2
   have c1':decide (dr<r)=false:=decide_eq_false c1;clear h0 h1 h2 c2 c1;go_enter Tryz.func338,Tryz.ntmps338;go_wp2;go_ret;exact⟨rfl,rfl⟩
theorem even_any (x:Int) (d:Nat) (h1: -85070591730234615865843651857942052864≤x) (h2:x≤85070591730234615865843651857942052864) (hd0:0<d) (hd:d≤4611686018427387904) (w:World):
 Calls Tryz.prog 323 #[wwV x,iV (d:Int)] w fun e w'=>e=.returned (.tuple #[iV (zda (zze x (d:Int))).1,iV (zda (zze x (d:Int))).2])∧Tf w w':=by
 have HQ:=Lib.hid (fun w'=>quo_any x d h1 h2 hd0 hd w');have hr0:0≤x% (d:Int):=Int.emod_nonneg _ (by omega);have hr1:x% (d:Int)<(d:Int):=Int.emod_lt_of_pos _ (by omega)
 have hq1: -85070591730234615865843651857942052865≤x/(d:Int)∧x/(d:Int)≤85070591730234615865843651857942052864:=by
  refine⟨Int.le_trans (by decide) (Int.le_ediv_of_mul_le (a:= -85070591730234615865843651857942052864) (by omega) (by omega)),?_⟩;rcases Int.le_total 0 x with h|h
  ·exact Int.le_trans (Int.ediv_le_self _ h) h2
  ·have h9:x/(d:Int)≤0:=Int.ediv_nonpos_of_nonpos_of_neg h (by omega);omega
 have HEV:=Lib.hid (show zze x (d:Int)=if 2*(x% (d:Int))>(d:Int)∨(2*(x% (d:Int))=(d:Int)∧(x/(d:Int)%18446744073709551616)%2=1)then x/(d:Int)+1 else x/(d:Int) by
  unfold zze;have e:(x/(d:Int)%18446744073709551616)%2=x/(d:Int)%2:=by omega
  rw[e])
 have HAO:=Lib.hid (fun w'=>z38 (x/(d:Int)) hq1.1 hq1.2 w');have HI1:=Lib.hid (fun w'=>ztm (x/(d:Int)+1) w');have HI0:=Lib.hid (fun w'=>ztm (x/(d:Int)) w');generalize zze x (d:Int)=EV at *;generalize x% (d:Int)=r at *;have hqb:0≤x/(d:Int)%18446744073709551616∧x/(d:Int)%18446744073709551616<18446744073709551616:=by omega
 generalize hQ:x/(d:Int)=Q at *;have tA:=tal w (.cells #[iV (x/18446744073709551616),.int .u64 (x%18446744073709551616)] 331);have bA:=Blk.new w 331 #[iV (x/18446744073709551616),.int .u64 (x%18446744073709551616)];have tB:=tal (w.alloc (.cells #[iV (x/18446744073709551616),.int .u64 (x%18446744073709551616)] 331)) (.cells #[iV (d:Int)] 3);have bB:=Blk.new2 w (.cells #[iV (x/18446744073709551616),.int .u64 (x%18446744073709551616)] 331) 3 #[iV (d:Int)];have bA2:=bA.keep tB id;have tt:=tA.trans tB;unfold wwV at HQ HAO HI1 HI0⊢;have hdd:(d:Int)≤4611686018427387904:=by omega
 clear tA tB bA hQ hq1;generalize x/18446744073709551616=xa at *;generalize x%18446744073709551616=xb at *;generalize(Q+1)/18446744073709551616=ya at *;generalize(Q+1)%18446744073709551616=yb at *;generalize Q/18446744073709551616=qa at *;generalize Q%18446744073709551616=qb at *;have x0:=bA2.cell 0;have x1:=bA2.cell 1;have x2:=bB.cell 0;simp only[List.getElem?_toArray,List.getElem?_cons_zero,List.getElem?_cons_succ]at x0 x1 x2;go_enter Tryz.func323,Tryz.ntmps323;go_wp2_with fail;generalize(w.alloc (.cells #[iV xa,.int .u64 xb] 331)).alloc _=W at *;generalize hz:w.heap.size=z at *;have HZ:=Lib.hid hz;clear hz;refine(HQ.out _).mono ?_;rintro _ w1 ⟨rfl,t1⟩;have bB3:=bB.keep t1 id;have T1:=tt.trans t1;have hz1:z+2≤w1.heap.size+2:=by have:=T1.size;have:=HZ.out;omega
 have tC:=tal w1 (.cells #[iV qa,.int .u64 qb] 331);have bC:=Blk.new w1 331 #[iV qa,.int .u64 qb];have tD:=tal (w1.alloc (.cells #[iV qa,.int .u64 qb] 331)) (.cells #[iV r] 3);have bD:=Blk.new2 w1 (.cells #[iV qa,.int .u64 qb] 331) 3 #[iV r];have bC4:=bC.keep tD id;have bB4:=(bB3.keep tC id).keep tD id;have T4:=Lib.hid ((T1.trans tC).trans tD);have HZ4:=Lib.hid (show z≤w1.heap.size by have:=T1.size;have:=HZ.out;omega);have HU:=Lib.hid (z4a (bD.cell 0) (bB4.cell 0) (bC4.cell 1) hqb hr0 hr1 hdd);clear HQ x0 x1 x2 bA2 bB bB3 tt t1 T1 tC tD bC bB4 bD hz1 hqb hr0 hr1 hdd;go_wp2_with fail;generalize(w1.alloc (.cells #[iV qa,.int .u64 qb] 331)).alloc _=W4 at *;generalize w1.heap.size=z2 at *;refine HU.out.mono ?_;rintro _ _ ⟨rfl,rfl⟩;clear HU;by_cases hc:2*r>(d:Int)∨(2*r=(d:Int)∧qb%2=1)
 ·have HX:=Lib.hid (show EV=Q+1 by rw[HEV.out,if_pos hc]);rw[decide_eq_true hc]
  obtain⟨J,hJ⟩:∃J:Nat→World→Prop,J=fun s w'=>Blk w' z2 331 (if s=2 then #[iV ya,.int .u64 yb]else #[iV qa,.int .u64 qb]):=⟨_,rfl⟩
  have HJ:=Lib.hid hJ;clear hJ hc HEV HI0;go_wp2_with fail;refine zcv (fun g=>g=z2) [] 7 [(0,.inl (.agg #[iV qa,.int .u64 qb])),(1,.inl (.agg #[iV 0,.int .u64 1])),(2,.inl (.tuple #[.agg #[iV ya,.int .u64 yb],iV 0])),(6,.inr fun _ _=>True)] [(0,0),(6,1)] 2 J (by kernel_rfl) rfl (by kernel_rfl) (by kernel_rfl) rfl (fun d _ _ _ _ h=>by cases d<;>exact h) ?_ ?_ (fun s w1 w2 ht hj=>?_) ?_
  ·exact⟨fun _ _ _ _ _=>trivial,trivial⟩
  ·rw[HJ.out];exact bC4.keep (Tch.drew (fun _=>False) _) id
  ·rw[HJ.out]at hj⊢;exact hj.keep ht id
  intro bef ops hbef hops;clear hbef;subst hops;simp only[List.take_succ_cons,List.take_zero,List.drop_succ_cons,List.drop_zero];refine z4v (.agg #[iV qa,.int .u64 qb]) 0 (by rfl) (by rfl) (by rfl) (fun w5 hr hj hf=>?_) ?_
  ·rw[HJ.out]at hj;have hj0:Blk w5 z2 331 #[iV qa,.int .u64 qb]:=hj;obtain⟨x0,x1⟩:=hj0.f2;refine zaa (d:=24) rfl (by simp) (fun K hK=>?_);go_step;refine hK _ _ ⟨rfl,Tch.refl _ _,?_⟩;rw[HJ.out];exact hj0
  simp only[zaw];refine z4u (.agg #[iV 0,.int .u64 1]) (by rfl) (by rfl) (by rfl) (fun w5 hr hf=>?_) ?_
  ·refine zaa (d:=25) rfl (by simp) (fun K hK=>?_);go_step;refine(z5h 1 (by decide) _).mono ?_;rintro _ w6 ⟨rfl,t6⟩;exact hK _ _ ⟨rfl,t6⟩
  simp only[zaw];refine z4u (.tuple #[.agg #[iV ya,.int .u64 yb],iV 0]) (by rfl) (by rfl) (by rfl) (fun w5 hr hf=>?_) ?_
  ·refine zaa (d:=26) rfl (by simp) (fun K hK=>?_);go_step;refine(HAO.out _).mono ?_;rintro _ w6 ⟨rfl,t6⟩;exact hK _ _ ⟨rfl,t6⟩
  simp only[zaw];iterate 3 (refine zib (by rfl) (by rfl) (by rfl) (by rfl) (fun K hK=>?_);go_big_quiet_op;(first|refine hK _ ?_|refine⟨_,fun _=>rfl,hK _ ?_⟩);clear hK K;(try simp only[zaw]))
  refine z7u 1 (by rfl) (by rfl) (by rfl) (fun w5 hr hj hf=>?_) (fun _=>?_)
  ·rw[HJ.out]at hj;have hj0:Blk w5 z2 331 #[iV qa,.int .u64 qb]:=hj;obtain⟨x0,x1⟩:=hj0.f2;have f0:=hj0.frozen 0;have f1:=hj0.frozen 1;have hs:=(hj0.set_ 0 (iV ya)).set_ 1 (.int .u64 yb);simp only[List.setIfInBounds_toArray,List.set_cons_succ,List.set_cons_zero]at hs;have ht:=Tch.two w5 z2 (iV ya) (.int .u64 yb);refine ziz (fun K hK=>?_);go_step;refine hK _ ⟨ht,?_⟩;rw[HJ.out];exact hs
  simp only[Act.put];refine zxa ?_;intro w5 hr hj hp9;rw[HJ.out]at hj;have hj0:Blk w5 z2 331 #[iV ya,.int .u64 yb]:=hj;have T5:=Lib.hid (T4.out.trans' ((Tch.drew (fun g=>g=z2) W4).trans hr) (fun i hi=>.inr (by have hi:i=z2:=hi;have:=HZ.out;have:=HZ4.out;omega)));obtain⟨x0,x1⟩:=hj0.f2;clear hj hj0 hp9 hr bC4 T4 HAO HJ;go_wp2_with fail;refine(HI1.out _).mono ?_;rintro _ w6 ⟨rfl,t6⟩;have TE:=Lib.hid (T5.out.trans t6);clear t6 T5 x0 x1 HI1;go_wp2;go_ret2
  rw[HX.out];exact⟨rfl,TE.out⟩
 ·have HX:=Lib.hid (show EV=Q by rw[HEV.out,if_neg hc]);rw[decide_eq_false hc];obtain⟨x0,x1⟩:=bC4.f2;clear hc HEV HAO HI1 bC4;go_wp2_with fail;refine(HI0.out _).mono ?_;rintro _ w5 ⟨rfl,t5⟩;have TE:=Lib.hid (T4.out.trans t5);clear t5 T4 x0 x1 HI0;go_wp2;go_ret2
  rw[HX.out];exact⟨rfl,TE.out⟩
open Go.RowKit Go.Gk
theorem z4b (x num:Int) (den:Nat) (hx: -9223372036854775808≤x∧x≤9223372036854775807) (hn:1≤num∧num≤1000000000000) (hd0:0<den) (hd:den≤1000000000000) (w:World):
 Calls Tryz.prog 292 #[iV x,iV num,iV (den:Int)] w fun e w'=>e=.returned (.tuple #[iV (zda (zze (x*num) (den:Int))).1,iV (zda (zze (x*num) (den:Int))).2])∧Tf w w':=by
 have HM:=Lib.hid (fun w'=>ztl x num hx (by omega) w')
 have hb: -9223372036854775808000000000000≤x*num∧x*num≤9223372036854775808000000000000:=by
  rcases Int.le_total 0 x with h|h
  ·have h1:x*num≤x*1000000000000:=Int.mul_le_mul_of_nonneg_left hn.2 h;have h2:0≤x*num:=Int.mul_nonneg h (by omega);omega
  ·have h1:x*1000000000000≤x*num:=Int.mul_le_mul_of_nonpos_left h hn.2;have h2:x*num≤0:=Int.mul_nonpos_of_nonpos_of_nonneg h (by omega);omega
 have HE:=Lib.hid (fun w'=>even_any (x*num) den (by omega) (by omega) hd0 (by omega) w');generalize x*num=P at *;generalize zze P (den:Int)=EV at *;clear hb hx hn hd0 hd;unfold wwV at HM HE;go_enter Tryz.func292,Tryz.ntmps292;go_wp2_with fail;refine(HM.out _).mono ?_;rintro _ w1 ⟨rfl,t1⟩;go_wp2_with fail;refine(HE.out _).mono ?_;rintro _ w2 ⟨rfl,t2⟩;clear HM HE;have TT:=Lib.hid (t1.trans t2);clear t1 t2;go_wp2;go_ret2
 exact⟨rfl,TT.out⟩
theorem z5l (x:Int) (r:Int×Int) (hx: -9223372036854775808≤x∧x≤9223372036854775807) (w:World):
 Calls Tryz.prog 238 #[iV x,.agg #[iV r.1,iV r.2]] w fun e w'=>e=.returned (.tuple #[iV (zyy x r).1,iV (zyy x r).2])∧Tf w w':=by
 obtain⟨r1,r2⟩:=r;have tA:=tal w (.cells #[iV r1,iV r2] 44);have bA:=Blk.new w 44 #[iV r1,iV r2];have HC:=Lib.hid (fun w'=>zhm r1 r2 w');have HAP:=Lib.hid (show zyy x (r1,r2)=if zb7 (r1,r2)=true then zda (zze (x*r1) r2)else(0,11)from rfl)
 have HSC:=Lib.hid (fun(h:zb7 (r1,r2)=true) w'=>show Calls Tryz.prog 292 #[iV x,iV r1,iV r2] w' fun e w''=>e=.returned (.tuple #[iV (zda (zze (x*r1) r2)).1,iV (zda (zze (x*r1) r2)).2])∧Tf w' w'' from by
  unfold zb7 at h;simp only[Bool.and_eq_true,decide_eq_true_eq]at h
  obtain⟨d,rfl⟩:∃d:Nat,r2=(d:Int):=⟨r2.toNat,by omega⟩
  exact z4b x r1 d hx (by omega) (by omega) (by omega) w')
 generalize zyy x (r1,r2)=AV at *;generalize zda (zze (x*r1) r2)=TV at *;obtain⟨T1,T2⟩:=TV;obtain⟨x0,x1⟩:=bA.f2;simp only;clear hx
 cases hok:zb7 (r1,r2)
 ·rw[hok]at HC;have HX:=Lib.hid (show AV=(0,11) by rw[HAP.out,hok];rfl);clear HAP HSC hok;simp only[Bool.false_eq_true,if_false]at HC;go_enter Tryz.func238,Tryz.ntmps238;go_wp2_with fail;refine(HC.out _).mono ?_;rintro _ w1 ⟨rfl,t1⟩;have TE:=Lib.hid (tA.trans t1);clear x0 x1 bA tA t1 HC;go_wp2;go_ret2
  rw[HX.out];exact⟨rfl,TE.out⟩
 ·rw[hok]at HC;have HX:=Lib.hid (show AV=(T1,T2) by rw[HAP.out,hok];rfl);have HS:=Lib.hid (HSC.out hok);clear HAP HSC hok;simp only[if_true]at HC;go_enter Tryz.func238,Tryz.ntmps238;go_wp2_with fail;refine(HC.out _).mono ?_;rintro _ w1 ⟨rfl,t1⟩;have b2:=bA.keep t1 id;have TE:=Lib.hid (tA.trans t1);have z0:=b2.cell 0;have z1:=b2.cell 1;simp only[List.getElem?_toArray,List.getElem?_cons_zero,List.getElem?_cons_succ]at z0 z1;clear x0 x1 bA tA t1 HC b2;go_wp2_with fail;refine(HS.out _).mono ?_;rintro _ w2 ⟨rfl,t2⟩;have TF:=Lib.hid (TE.out.trans t2);clear HS z0 z1 TE t2;go_wp2;go_ret2
  rw[HX.out];exact⟨rfl,TF.out⟩
theorem z4c (x:Int) (r:Int×Int):(if(zyy x r).2≠0 then(0,(zyy x r).2)else((zyy x r).1,0))=zyy x r:=by
 unfold zyy;split
 ·exact z1f _
 ·simp
theorem z4d (v:Vl) (r:Int×Int) (has:Bool) (hv:zz0 v) (w:World):
 Calls Tryz.prog 168 #[vlV v,.agg #[iV r.1,iV r.2],.bool has] w fun e w'=>e=.returned (vlV (zyn v r has))∧Tf w w':=by
 obtain⟨v1,v2⟩:=v;obtain⟨r1,r2⟩:=r;unfold vlV;simp only;by_cases h2:v2=0
 rotate_left
 ·have HF:zyn (v1,v2) (r1,r2) has=(0,v2):=by unfold zyn;rw[if_pos h2]
  rw[HF];have g1:(v2 !=0)=true:=by simpa using h2
  clear h2 HF hv
  have hb:Blk (((w.alloc (.cells #[iV v1,iV v2] 41)).alloc (.cells #[iV r1,iV r2] 44)).alloc (.cells #[iV 0,iV v2] 41)) (w.heap.size+1+1) 41 #[iV 0,iV v2]:=by
   simpa using Blk.new ((w.alloc (.cells #[iV v1,iV v2] 41)).alloc (.cells #[iV r1,iV r2] 44)) 41 #[iV 0,iV v2]
  go_enter Tryz.func168,Tryz.ntmps168;go_wp2;(try simp only[exS]);refine zfe hb ?_;exact⟨rfl,((Tch.alloc _ _ _).trans (Tch.alloc _ _ _)).trans (Tch.alloc _ _ _)⟩
 subst h2;by_cases h1:v1=0
 ·have HF:zyn (v1,0) (r1,r2) has=(0,0):=by unfold zyn;rw[if_neg (by simp),if_pos h1]
  rw[HF];subst h1;clear HF hv
  have hb:Blk (((w.alloc (.cells #[iV 0,iV 0] 41)).alloc (.cells #[iV r1,iV r2] 44)).alloc (.cells #[iV 0,iV 0] 41)) (w.heap.size+1+1) 41 #[iV 0,iV 0]:=by
   simpa using Blk.new ((w.alloc (.cells #[iV 0,iV 0] 41)).alloc (.cells #[iV r1,iV r2] 44)) 41 #[iV 0,iV 0]
  go_enter Tryz.func168,Tryz.ntmps168;go_wp2;(try simp only[exS]);refine zfe hb ?_;exact⟨rfl,((Tch.alloc _ _ _).trans (Tch.alloc _ _ _)).trans (Tch.alloc _ _ _)⟩
 have g1:(v1==0)=false:=by simpa using h1
 cases has
 ·have HF:zyn (v1,0) (r1,r2) false=(0,40):=by unfold zyn;rw[if_neg (by simp),if_neg h1,if_neg (by decide)]
  rw[HF];clear HF hv h1
  have hb:Blk (((w.alloc (.cells #[iV v1,iV 0] 41)).alloc (.cells #[iV r1,iV r2] 44)).alloc (.cells #[iV 0,iV 40] 41)) (w.heap.size+1+1) 41 #[iV 0,iV 40]:=by
   simpa using Blk.new ((w.alloc (.cells #[iV v1,iV 0] 41)).alloc (.cells #[iV r1,iV r2] 44)) 41 #[iV 0,iV 40]
  go_enter Tryz.func168,Tryz.ntmps168;go_wp2;(try simp only[exS]);refine zfe hb ?_;exact⟨rfl,((Tch.alloc _ _ _).trans (Tch.alloc _ _ _)).trans (Tch.alloc _ _ _)⟩
 have HF:zyn (v1,0) (r1,r2) true=zyy v1 (r1,r2):=by unfold zyn;rw[if_neg (by simp),if_neg h1,if_pos rfl]
 rw[HF];have HA:=Lib.hid (fun w'=>z5l v1 (r1,r2) hv w');have HT:=Lib.hid (fun w'=>z19 (zyy v1 (r1,r2)).1 (zyy v1 (r1,r2)).2 w');rw[z4c]at HT;generalize zyy v1 (r1,r2)=AV at *;obtain⟨A1,A2⟩:=AV;simp only at HA HT⊢;unfold vlV at HT;simp only at HT;have tA:=tal w (.cells #[iV v1,iV 0] 41);have bA:=Blk.new w 41 #[iV v1,iV 0];have tB:=tal (w.alloc (.cells #[iV v1,iV 0] 41)) (.cells #[iV r1,iV r2] 44);have bB:=Blk.new2 w (.cells #[iV v1,iV 0] 41) 44 #[iV r1,iV r2];have tC:=tal ((w.alloc (.cells #[iV v1,iV 0] 41)).alloc (.cells #[iV r1,iV r2] 44)) (.cells #[iV 0,iV 0] 41)
 have bC:Blk (((w.alloc (.cells #[iV v1,iV 0] 41)).alloc (.cells #[iV r1,iV r2] 44)).alloc (.cells #[iV 0,iV 0] 41)) (w.heap.size+1+1) 41 #[iV 0,iV 0]:=by
  simpa using Blk.new ((w.alloc (.cells #[iV v1,iV 0] 41)).alloc (.cells #[iV r1,iV r2] 44)) 41 #[iV 0,iV 0]
 have bA3:=(bA.keep tB id).keep tC id;have bB3:=bB.keep tC id;have T3:=Lib.hid ((tA.trans tB).trans tC);have x0:=bA3.cell 0;have x1:=bA3.cell 1;have y0:=bB3.cell 0;have y1:=bB3.cell 1;simp only[List.getElem?_toArray,List.getElem?_cons_zero,List.getElem?_cons_succ]at x0 x1 y0 y1;clear tA tB tC bA bB HF hv h1 bA3 bB3;go_enter Tryz.func168,Tryz.ntmps168;go_wp2_with fail;generalize((w.alloc (.cells #[iV v1,iV 0] 41)).alloc (.cells #[iV r1,iV r2] 44)).alloc _=W at *;generalize hz:w.heap.size=z at *;have HZ:=Lib.hid hz;clear hz;refine(HA.out _).mono ?_;rintro _ w1 ⟨rfl,t1⟩;have b2:=bC.keep t1 id;have T4:=Lib.hid (T3.out.trans t1);clear HA x0 x1 y0 y1 bC t1 T3;go_wp2_with fail;refine(HT.out _).mono ?_;rintro _ w2 ⟨rfl,t2⟩;have b3:=b2.keep t2 id;have T5:=Lib.hid (T4.out.trans t2);clear HT b2 t2 T4;go_wp2_with (refine stH (z+1+1) #[iV A1,iV A2] b3 ?_);intro w9 HBF HTF;clear b3;go_wp2;(try simp only[exS]);refine zfe HBF.out ?_;exact⟨rfl,T5.out.trans' (F':=fun g=>g=z+1+1) HTF.out (fun i hi=>.inr (by have hi:i=z+1+1:=hi;have:=HZ.out;omega))⟩
theorem z5u (s:Rt6) (rt:Bool) (r:Int×Int) (hs:Bool):z5n s rt r hs:=by
 intro v hv w;obtain⟨s1,s2,s3,s4,s5,s6⟩:=s;have HS:=Lib.hid (fun w'=>z4d v r hs hv w');generalize zyn v r hs=SV at *;obtain⟨v1,v2⟩:=v;obtain⟨r1,r2⟩:=r;obtain⟨S1,S2⟩:=SV;unfold vlV at HS⊢;simp only at HS⊢;have tA:=tal w (.cells #[iV s1,iV s2,iV s3,iV s4,iV s5,iV s6,.bool rt,iV r1,iV r2,.bool hs] 46);have bA:=Blk.new w 46 #[iV s1,iV s2,iV s3,iV s4,iV s5,iV s6,.bool rt,iV r1,iV r2,.bool hs];have tB:=tal (w.alloc (.cells #[iV s1,iV s2,iV s3,iV s4,iV s5,iV s6,.bool rt,iV r1,iV r2,.bool hs] 46)) (.cells #[iV v1,iV v2] 41);have bB:=Blk.new2 w (.cells #[iV s1,iV s2,iV s3,iV s4,iV s5,iV s6,.bool rt,iV r1,iV r2,.bool hs] 46) 41 #[iV v1,iV v2];have tC:=tal ((w.alloc (.cells #[iV s1,iV s2,iV s3,iV s4,iV s5,iV s6,.bool rt,iV r1,iV r2,.bool hs] 46)).alloc (.cells #[iV v1,iV v2] 41)) (.cells #[iV 0,iV 0] 41)
 have bC:Blk (((w.alloc (.cells #[iV s1,iV s2,iV s3,iV s4,iV s5,iV s6,.bool rt,iV r1,iV r2,.bool hs] 46)).alloc (.cells #[iV v1,iV v2] 41)).alloc (.cells #[iV 0,iV 0] 41)) (w.heap.size+1+1) 41 #[iV 0,iV 0]:=by
  simpa using Blk.new ((w.alloc (.cells #[iV s1,iV s2,iV s3,iV s4,iV s5,iV s6,.bool rt,iV r1,iV r2,.bool hs] 46)).alloc (.cells #[iV v1,iV v2] 41)) 41 #[iV 0,iV 0]
 have bA3:=(bA.keep tB id).keep tC id;have bB3:=bB.keep tC id;have T3:=Lib.hid ((tA.trans tB).trans tC);have x0:=bB3.cell 0;have x1:=bB3.cell 1;have y7:=bA3.cell 7;have y8:=bA3.cell 8;have y9:=bA3.cell 9;simp only[List.getElem?_toArray,List.getElem?_cons_zero,List.getElem?_cons_succ]at x0 x1 y7 y8 y9;clear tA tB tC bA bB bA3 bB3 hv;go_enter Tryz.func186,Tryz.ntmps186;go_wp2_with fail;generalize((w.alloc (.cells #[iV s1,iV s2,iV s3,iV s4,iV s5,iV s6,.bool rt,iV r1,iV r2,.bool hs] 46)).alloc (.cells #[iV v1,iV v2] 41)).alloc _=W at *;generalize hz:w.heap.size=z at *;have HZ:=Lib.hid hz;clear hz;refine(HS.out _).mono ?_;rintro _ w1 ⟨rfl,t1⟩;have b3:=bC.keep t1 id;have T5:=Lib.hid (T3.out.trans t1);clear HS x0 x1 y7 y8 y9 bC t1 T3;go_wp2_with (refine stH (z+1+1) #[iV S1,iV S2] b3 ?_);intro w9 HBF HTF;clear b3;go_wp2;(try simp only[exS]);refine zfe HBF.out ?_;exact⟨rfl,T5.out.trans' (F':=fun g=>g=z+1+1) HTF.out (fun i hi=>.inr (by have hi:i=z+1+1:=hi;have:=HZ.out;omega))⟩
