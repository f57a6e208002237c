/-
  The document's whole numbers: as numbers of 64 bits.
-/
import Derived.Test.YtoegobjnjljegaaGreatDoorZ6
import Derived.Laws.Externs
set_option maxRecDepth 100000
set_option maxHeartbeats 400000
namespace Go.Gk
end Go.Gk
namespace Go.Proofs.YtoegobjnjljegaaGreatDoor
open Go.RowKit Go.Gk
open Go.RowKit Go.Gk
def asInt (x:Int):Value:=if -9223372036854775808≤x∧x≤9223372036854775807 then .tuple #[iV x,.bool true]else .tuple #[iV 0,.bool false]
open Go.RowKit Go.Gk
def zex (x:Int):Value:=if -9223372036854775808≤x∧x≤9223372036854775807 then .tuple #[iV x,iV 0]else .tuple #[iV 0,iV 10]
theorem zdu (x:Int):∃n c:Int,zex x=.tuple #[iV n,iV c]:=by
 unfold zex;split<;>exact⟨_,_,rfl⟩
open Go.RowKit Go.Gk
theorem zv1 (x y c:Nat) (hc:c≤1) (w:World):(callFunc 290 #[.int .u64 x,.int .u64 y,.int .u64 c]).run Tryz.prog w=
 .ok (.value (Extern.MathBitsCarry.pair ((x+y+c)%Extern.MathBitsCarry.m64) ((x+y+c)/Extern.MathBitsCarry.m64))) w:=by
 obtain rfl|rfl:c=0∨c=1:=by omega
 ·kernel_rfl
 ·kernel_rfl
theorem zv2 (x y c:Nat) (hc:c≤1) (w:World):(callFunc 291 #[.int .u64 x,.int .u64 y,.int .u64 c]).run Tryz.prog w=
 .ok (.value (Extern.MathBitsCarry.pair ((x+Extern.MathBitsCarry.m64-y-c)%Extern.MathBitsCarry.m64) (if x<y+c then 1 else 0))) w:=by
 obtain rfl|rfl:c=0∨c=1:=by omega
 ·kernel_rfl
 ·kernel_rfl
theorem add64 (x y c:Int) (hx:0≤x) (hy:0≤y) (hc0:0≤c) (hc:c≤1) (w:World):(callFunc 290 #[.int .u64 x,.int .u64 y,.int .u64 c]).run Tryz.prog w=
 .ok (.value (.tuple #[.int .u64 ((x+y+c)%18446744073709551616),.int .u64 ((x+y+c)/18446744073709551616)])) w:=by
 obtain⟨x,rfl⟩:=Int.eq_ofNat_of_zero_le hx;obtain⟨y,rfl⟩:=Int.eq_ofNat_of_zero_le hy;obtain⟨c,rfl⟩:=Int.eq_ofNat_of_zero_le hc0;refine(zv1 x y c (by omega) w).trans ?_;unfold Extern.MathBitsCarry.pair Extern.MathBitsCarry.m64;congr 5<;>simp
def bor (x y:Int):Int:=if x<y then 1 else 0
theorem sub64 (x y b:Int) (hx:0≤x) (hy:0≤y) (hy':y<18446744073709551616) (hb0:0≤b) (hb:b≤1) (w:World):(callFunc 291 #[.int .u64 x,.int .u64 y,.int .u64 b]).run Tryz.prog w=
 .ok (.value (.tuple #[.int .u64 ((x-y-b)%18446744073709551616),.int .u64 (bor x (y+b))])) w:=by
 obtain⟨x,rfl⟩:=Int.eq_ofNat_of_zero_le hx;obtain⟨y,rfl⟩:=Int.eq_ofNat_of_zero_le hy;obtain⟨b,rfl⟩:=Int.eq_ofNat_of_zero_le hb0;have e1:(((x+18446744073709551616-y-b)%18446744073709551616:Nat):Int)=((x:Int)-y-b)%18446744073709551616:=by omega
 have e2:((if x<y+b then 1 else 0:Nat):Int)=if(x:Int)<y+b then 1 else 0:=by split<;>split<;>omega
 unfold bor;rw[←e1,←e2];exact zv2 x y b (by omega) w
theorem z4h (x y:Int) (hx:0≤x) (hy:0≤y) (w:World):(callFunc 290 #[.int .u64 x,.int .u64 y,.int .u64 0]).run Tryz.prog w=
 .ok (.value (.tuple #[.int .u64 ((x+y)%18446744073709551616),.int .u64 ((x+y)/18446744073709551616)])) w:=by
 simpa using add64 x y 0 hx hy (Int.le_refl 0) (by decide) w
theorem sub64_0 (x y:Int) (hx:0≤x) (hy:0≤y) (hy':y<18446744073709551616) (w:World):(callFunc 291 #[.int .u64 x,.int .u64 y,.int .u64 0]).run Tryz.prog w=
 .ok (.value (.tuple #[.int .u64 ((x-y)%18446744073709551616),.int .u64 (bor x y)])) w:=by
 simpa using sub64 x y 0 hx hy hy' (Int.le_refl 0) (by decide) w
def wd (x:Int):Value:=.agg #[.int .u64 (x/18446744073709551616%18446744073709551616),.int .u64 (x%18446744073709551616)]
theorem zv3 (x y:Int) (w:World):
 Calls Tryz.prog 234 #[wd x,wd y] w fun e w'=>e=.returned (wd (x+y))∧Tf w w':=by
 unfold wd;have a1:0≤x/18446744073709551616%18446744073709551616:=by omega
 have b1:0≤x%18446744073709551616:=by omega
 have c1:0≤y/18446744073709551616%18446744073709551616:=by omega
 have d1:0≤y%18446744073709551616:=by omega
 have k0:0≤(x%18446744073709551616+y%18446744073709551616)/18446744073709551616:=by omega
 have k1:(x%18446744073709551616+y%18446744073709551616)/18446744073709551616≤1:=by omega
 have e1:(x/18446744073709551616%18446744073709551616+y/18446744073709551616%18446744073709551616+(x%18446744073709551616+y%18446744073709551616)/18446744073709551616)%18446744073709551616=(x+y)/18446744073709551616%18446744073709551616:=by omega
 have e2:(x%18446744073709551616+y%18446744073709551616)%18446744073709551616=(x+y)%18446744073709551616:=by omega
 have E1:=Hid.out (p:=Hid _) e1;have E2:=Hid.out (p:=Hid _) e2;clear e1 e2;generalize x/18446744073709551616%18446744073709551616=a at *;generalize x%18446744073709551616=b at *;generalize y/18446744073709551616%18446744073709551616=c at *;generalize y%18446744073709551616=d at *;rw[←E1.out,←E2.out];go_enter Tryz.func234,Tryz.ntmps234;go_wp2_with (first|simp only[z4h b d b1 d1]|simp only[add64 a c _ a1 c1 k0 k1]);simp[bodyPost,results,Tryz.results234,go_sem];exact((Tch.alloc _ _ _).trans (Tch.alloc _ _ _)).trans (Tch.alloc _ _ _)
theorem zv4 (x y:Int) (w:World):
 Calls Tryz.prog 236 #[wd x,wd y] w fun e w'=>e=.returned (wd (x-y))∧Tf w w':=by
 unfold wd;have a1:0≤x/18446744073709551616%18446744073709551616:=by omega
 have b1:0≤x%18446744073709551616:=by omega
 have c1:0≤y/18446744073709551616%18446744073709551616:=by omega
 have d1:0≤y%18446744073709551616:=by omega
 have c2:y/18446744073709551616%18446744073709551616<18446744073709551616:=by omega
 have d2:y%18446744073709551616<18446744073709551616:=by omega
 have k0:0≤bor (x%18446744073709551616) (y%18446744073709551616):=by unfold bor;split<;>decide
 have k1:bor (x%18446744073709551616) (y%18446744073709551616)≤1:=by unfold bor;split<;>decide
 have e1:(x/18446744073709551616%18446744073709551616-y/18446744073709551616%18446744073709551616-bor (x%18446744073709551616) (y%18446744073709551616))%18446744073709551616=(x-y)/18446744073709551616%18446744073709551616:=by unfold bor;split<;>omega
 have e2:(x%18446744073709551616-y%18446744073709551616)%18446744073709551616=(x-y)%18446744073709551616:=by omega
 have E1:=Hid.out (p:=Hid _) e1;have E2:=Hid.out (p:=Hid _) e2;clear e1 e2;generalize x/18446744073709551616%18446744073709551616=a at *;generalize x%18446744073709551616=b at *;generalize y/18446744073709551616%18446744073709551616=c at *;generalize y%18446744073709551616=d at *;rw[←E1.out,←E2.out];go_enter Tryz.func236,Tryz.ntmps236;go_wp2_with (first|simp only[sub64_0 b d b1 d1 d2]|simp only[sub64 a c _ a1 c1 c2 k0 k1]);simp[bodyPost,results,Tryz.results236,go_sem];exact((Tch.alloc _ _ _).trans (Tch.alloc _ _ _)).trans (Tch.alloc _ _ _)
theorem zkw {x:Int} (h1: -9223372036854775808≤x) (h2:x≤9223372036854775807) (w:World):
 Calls Tryz.prog 232 #[iV x] w fun e w'=>e=.returned (wd x)∧Tf w w':=by
 unfold wd;by_cases h:x<0
 ·have e1:x/18446744073709551616%18446744073709551616=18446744073709551615:=by omega
  rw[e1];clear e1;go_enter Tryz.func232,Tryz.ntmps232;go_wp2;simp[bodyPost,results,Tryz.results232,go_sem];exact⟨rfl,Tch.alloc _ _ _⟩
 ·have e1:x/18446744073709551616%18446744073709551616=0:=by omega
  rw[e1];clear e1;go_enter Tryz.func232,Tryz.ntmps232;go_wp2;simp[bodyPost,results,Tryz.results232,go_sem];exact⟨by omega,Tch.alloc _ _ _⟩
open Go.RowKit Go.Gk
theorem zv5 (a b c d:Int) (w:World):(Op.equalIn 10000 303 (.agg #[.int .u64 a,.int .u64 b]) (.agg #[.int .u64 c,.int .u64 d])).run Tryz.prog w=.ok (a==c&&b==d) w:=by
 have u3:=Tryz.underlying242;have a3:=Tryz.isAgg242;have z3:=Tryz.sizeOf242;rw[show(10000:Nat)=9999+1 from rfl,Op.equalIn];simp only[Sem.run_bind,run_underlying Tryz.underlying303,Result.andThen_ok];simp only[Std.Legacy.Range.forIn_eq_forIn_range',Std.Legacy.Range.size,Nat.sub_zero,Nat.add_sub_cancel,Nat.div_one,List.range'_succ,List.range'_zero,List.forIn_cons,List.forIn_nil];go_simp
 by_cases h1:a=c<;>by_cases h2:b=d<;>simp[h1,h2]
theorem wint_in {x:Int} (h1: -9223372036854775808≤x) (h2:x≤9223372036854775807) (w:World):
 Calls Tryz.prog 237 #[wd x] w fun e w'=>e=.returned (.tuple #[iV x,iV 0])∧Tf w w':=by
 have hW:=fun(w':World)=>zkw h1 h2 w'
 have e1:IntKind.i64.wrap (x%18446744073709551616)=x:=by simp[IntKind.wrap,IntKind.bits,IntKind.signed];omega
 unfold wd at hW⊢;generalize hb:x%18446744073709551616=b at *;generalize ha:x/18446744073709551616%18446744073709551616=a at *;have hw0:=Blk.new w 303 #[.int .u64 a,.int .u64 b];have tw:=tal w (.cells #[.int .u64 a,.int .u64 b] 303);go_enter Tryz.func237,Tryz.ntmps237;go_wp2_with fail;have HE:=Hid.out (p:=Hid _) e1;have HA:=Hid.out (p:=Hid _) ha;have HB:=Hid.out (p:=Hid _) hb;have HW:=Hid.out (p:=Hid _) hW;clear e1 ha hb hW;generalize w.alloc (.cells #[.int .u64 a,.int .u64 b] 303)=W at *;generalize hz:w.heap.size=z at *;clear hz;obtain⟨c0,c1⟩:=hw0.w2;refine za4 (fun _=>False) [] 3 [(1,.inl (.agg #[.int .u64 a,.int .u64 b]))] [] (by kernel_rfl) rfl (by kernel_rfl) rfl (fun d _ _ _ _ h=>by cases d<;>exact h) ?_ ?_
 ·exact trivial
 intro bef ops hbef hops;clear hbef;subst hops;simp only[List.take_succ_cons,List.take_zero,List.drop_succ_cons,List.drop_zero];iterate 1 (refine zgv (by rfl) (by rfl) (by rfl) (by rfl) (fun K hK=>?_);go_big_quiet_op;(first|refine hK _ ?_|refine⟨_,fun _=>rfl,hK _ ?_⟩);clear hK K)
 refine zb3 (.agg #[.int .u64 a,.int .u64 b]) (by rfl) (by rfl) (fun w1 hr hf=>?_) ?_
 ·refine zaa (d:=9) rfl (by simp) (fun K hK=>?_);go_step;refine(HW.out w1).mono ?_;rintro e w2 ⟨rfl,t2⟩;exact hK _ _ ⟨⟨rfl,t2⟩,zaf⟩
 simp only[Act.put,List.setIfInBounds_toArray,List.set_cons_succ,List.set_cons_zero];iterate 1 (refine zgv (by rfl) (by rfl) (by rfl) (by rfl) (fun K hK=>?_);go_big_quiet_op;(first|refine hK _ ?_|refine⟨_,fun _=>rfl,hK _ ?_⟩);clear hK K)
 refine za6 ?_;intro w1 hr hp hap;have t1:=tw.trans ((Tch.drew _ W).trans hr);clear hap hp c0 c1 hr HW;have hq:=zv5 a b a b;simp only[beq_self_eq_true,Bool.and_self]at hq;go_wp2;go_ret2
 exact⟨rfl,t1⟩
theorem wint_out {x:Int} (h1: -170141183460469231731687303715884105728≤x) (h2:x<170141183460469231731687303715884105728) (h:¬(-9223372036854775808≤x∧x≤9223372036854775807)) (w:World):
 Calls Tryz.prog 237 #[wd x] w fun e w'=>e=.returned (.tuple #[iV 0,iV 10])∧Tf w w':=by
 obtain⟨n,hn,hn1,hn2⟩:∃n,IntKind.i64.wrap (x%18446744073709551616)=n∧ -9223372036854775808≤n∧n≤9223372036854775807:=⟨_,rfl,by simp[IntKind.wrap,IntKind.bits,IntKind.signed];omega,by simp[IntKind.wrap,IntKind.bits,IntKind.signed];omega⟩
 have hW:=fun(w':World)=>zkw hn1 hn2 w'
 have e1:=hn;have hne:n/18446744073709551616%18446744073709551616≠x/18446744073709551616%18446744073709551616:=by simp[IntKind.wrap,IntKind.bits,IntKind.signed]at hn;omega
 have hq:((n/18446744073709551616%18446744073709551616)==(x/18446744073709551616%18446744073709551616))=false:=by simpa using hne
 unfold wd at hW⊢;clear hn hne;generalize n/18446744073709551616%18446744073709551616=a' at *;generalize n%18446744073709551616=b' at *;generalize hb:x%18446744073709551616=b at *;generalize ha:x/18446744073709551616%18446744073709551616=a at *;have hw0:=Blk.new w 303 #[.int .u64 a,.int .u64 b];have tw:=tal w (.cells #[.int .u64 a,.int .u64 b] 303);go_enter Tryz.func237,Tryz.ntmps237;go_wp2_with fail;have HE:=Hid.out (p:=Hid _) e1;have HA:=Hid.out (p:=Hid _) ha;have HB:=Hid.out (p:=Hid _) hb;have HW:=Hid.out (p:=Hid _) hW;clear e1 ha hb hW;generalize w.alloc (.cells #[.int .u64 a,.int .u64 b] 303)=W at *;generalize hz:w.heap.size=z at *;clear hz;obtain⟨c0,c1⟩:=hw0.w2;refine za4 (fun _=>False) [] 3 [(1,.inl (.agg #[.int .u64 a',.int .u64 b']))] [] (by kernel_rfl) rfl (by kernel_rfl) rfl (fun d _ _ _ _ h=>by cases d<;>exact h) ?_ ?_
 ·exact trivial
 intro bef ops hbef hops;clear hbef;subst hops;simp only[List.take_succ_cons,List.take_zero,List.drop_succ_cons,List.drop_zero];iterate 1 (refine zgv (by rfl) (by rfl) (by rfl) (by rfl) (fun K hK=>?_);go_big_quiet_op;(first|refine hK _ ?_|refine⟨_,fun _=>rfl,hK _ ?_⟩);clear hK K)
 refine zb3 (.agg #[.int .u64 a',.int .u64 b']) (by rfl) (by rfl) (fun w1 hr hf=>?_) ?_
 ·refine zaa (d:=9) rfl (by simp) (fun K hK=>?_);go_step;refine(HW.out w1).mono ?_;rintro e w2 ⟨rfl,t2⟩;exact hK _ _ ⟨⟨rfl,t2⟩,zaf⟩
 simp only[Act.put,List.setIfInBounds_toArray,List.set_cons_succ,List.set_cons_zero];iterate 1 (refine zgv (by rfl) (by rfl) (by rfl) (by rfl) (fun K hK=>?_);go_big_quiet_op;(first|refine hK _ ?_|refine⟨_,fun _=>rfl,hK _ ?_⟩);clear hK K)
 refine za6 ?_;intro w1 hr hp hap;have t1:=tw.trans ((Tch.drew _ W).trans hr);clear hap hp c0 c1 hr HW;have hr:=zv5 a' b' a b;rw[hq,Bool.false_and]at hr;go_wp2;go_ret2
 exact⟨rfl,t1⟩
theorem wint_any {x:Int} (h1: -170141183460469231731687303715884105728≤x) (h2:x<170141183460469231731687303715884105728) (w:World):
 Calls Tryz.prog 237 #[wd x] w fun e w'=>e=.returned (zex x)∧Tf w w':=by
 unfold zex;split
 ·rename_i h;exact wint_in h.1 h.2 w
 ·rename_i h;exact wint_out h1 h2 h w
open Go.RowKit Go.Gk
def zd7 (x:Int):Array Value:= #[.int .u64 (x/18446744073709551616%18446744073709551616),.int .u64 (x%18446744073709551616)]
theorem up_any (x y:Int) {w:World} {s:Nat} (hs:Blk w s 303 (zd7 y)):
 Calls Tryz.prog 233 #[wd x,.pointer (some ⟨s,0,none⟩)] w fun e w'=>e=.returned (wd (y+x))∧Tf w w':=by
 have hP:=fun w'=>zv3 y x w'
 unfold wd at hP⊢;unfold zd7 at hs;generalize x/18446744073709551616%18446744073709551616=a at *;generalize x%18446744073709551616=b at *;generalize y/18446744073709551616%18446744073709551616=c at *;generalize y%18446744073709551616=d at *;generalize(y+x)/18446744073709551616%18446744073709551616=e at *;generalize(y+x)%18446744073709551616=f at *;have hs1:=(hs.alloc (.cells #[.int .u64 a,.int .u64 b] 303)).alloc (.cells #[.int .u64 0,.int .u64 0] 303);have tw:Tf w ((w.alloc (.cells #[.int .u64 a,.int .u64 b] 303)).alloc (.cells #[.int .u64 0,.int .u64 0] 303)):=(Tch.alloc _ _ _).trans (Tch.alloc _ _ _);have hb2:=Blk.new2 w (.cells #[.int .u64 a,.int .u64 b] 303) 303 #[.int .u64 0,.int .u64 0];have hb1:=(Blk.new w 303 #[.int .u64 a,.int .u64 b]).alloc (.cells #[.int .u64 0,.int .u64 0] 303);have HP:=Hid.out (p:=Hid _) hP;clear hP;have n0:w.heap.size≠s:=Nat.ne_of_gt hs.lt;have cs0:=show World.cell? _ ⟨s,0,none⟩=some (.int .u64 c)from hs1.cell 0
 have cs1:=show World.cell? _ ⟨s,1,none⟩=some (.int .u64 d)from hs1.cell 1
 have cp0:=show World.cell? _ ⟨w.heap.size,0,none⟩=some (.int .u64 a)from hb1.cell 0
 have cp1:=show World.cell? _ ⟨w.heap.size,1,none⟩=some (.int .u64 b)from hb1.cell 1
 go_enter Tryz.func233,Tryz.ntmps233;go_wp2_with fail;refine(HP.out _).mono ?_;rintro e1 w2 ⟨rfl,t2⟩;have hb3:=hb2.keep t2 id;have r0:=hb3.frozen 0;have r1:=hb3.frozen 1;obtain⟨r2,r3⟩:=hb3.f2;have tt:=tw.trans t2;have t3:=Tch.two w2 (w.heap.size+1) (.int .u64 e) (.int .u64 f);have hbF:=(hb3.set_ 0 (.int .u64 e)).set_ 1 (.int .u64 f);simp only[List.setIfInBounds_toArray,List.set_cons_succ,List.set_cons_zero]at hbF;go_wp2;(try simp only[exS]);refine zfe hbF ?_;exact⟨rfl,tt.trans' t3 (fun g e=>.inr (by omega))⟩
theorem down_any (x y:Int) {w:World} {s:Nat} (hs:Blk w s 303 (zd7 y)):
 Calls Tryz.prog 235 #[wd x,.pointer (some ⟨s,0,none⟩)] w fun e w'=>e=.returned (wd (y-x))∧Tf w w':=by
 have hP:=fun w'=>zv4 y x w'
 unfold wd at hP⊢;unfold zd7 at hs;generalize x/18446744073709551616%18446744073709551616=a at *;generalize x%18446744073709551616=b at *;generalize y/18446744073709551616%18446744073709551616=c at *;generalize y%18446744073709551616=d at *;generalize(y-x)/18446744073709551616%18446744073709551616=e at *;generalize(y-x)%18446744073709551616=f at *;have hs1:=(hs.alloc (.cells #[.int .u64 a,.int .u64 b] 303)).alloc (.cells #[.int .u64 0,.int .u64 0] 303);have tw:Tf w ((w.alloc (.cells #[.int .u64 a,.int .u64 b] 303)).alloc (.cells #[.int .u64 0,.int .u64 0] 303)):=(Tch.alloc _ _ _).trans (Tch.alloc _ _ _);have hb2:=Blk.new2 w (.cells #[.int .u64 a,.int .u64 b] 303) 303 #[.int .u64 0,.int .u64 0];have hb1:=(Blk.new w 303 #[.int .u64 a,.int .u64 b]).alloc (.cells #[.int .u64 0,.int .u64 0] 303);have HP:=Hid.out (p:=Hid _) hP;clear hP;have n0:w.heap.size≠s:=Nat.ne_of_gt hs.lt;have cs0:=show World.cell? _ ⟨s,0,none⟩=some (.int .u64 c)from hs1.cell 0
 have cs1:=show World.cell? _ ⟨s,1,none⟩=some (.int .u64 d)from hs1.cell 1
 have cp0:=show World.cell? _ ⟨w.heap.size,0,none⟩=some (.int .u64 a)from hb1.cell 0
 have cp1:=show World.cell? _ ⟨w.heap.size,1,none⟩=some (.int .u64 b)from hb1.cell 1
 go_enter Tryz.func235,Tryz.ntmps235;go_wp2_with fail;refine(HP.out _).mono ?_;rintro e1 w2 ⟨rfl,t2⟩;have hb3:=hb2.keep t2 id;have r0:=hb3.frozen 0;have r1:=hb3.frozen 1;obtain⟨r2,r3⟩:=hb3.f2;have tt:=tw.trans t2;have t3:=Tch.two w2 (w.heap.size+1) (.int .u64 e) (.int .u64 f);have hbF:=(hb3.set_ 0 (.int .u64 e)).set_ 1 (.int .u64 f);simp only[List.setIfInBounds_toArray,List.set_cons_succ,List.set_cons_zero]at hbF;go_wp2;(try simp only[exS]);refine zfe hbF ?_;exact⟨rfl,tt.trans' t3 (fun g e=>.inr (by omega))⟩
