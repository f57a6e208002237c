/-
  The laws' own: the same recipes, few books.
-/
import Derived.Test.YtnjhfcopphpkpaaGreatDoorZ13
import Derived.Laws.Cover3
set_option maxRecDepth 100000
set_option maxHeartbeats 3200000
namespace Go.Gk
open Go.RowKit
def few24 (l:List Ent):Bool:=decide (l.length≤30)&&l.all fun x=>decide (x.lines.length≤60)
def few26 (b:Bks):Bool:=decide (b.ents.length≤50)&&decide (b.accs.length≤65)&&decide (b.stakes.length≤20)&&decide (b.rates.length≤60)&&decide (b.locks.length≤60)&&few24 b.entries
theorem few26_few {b:Bks} (h:few26 b=true):BksFew b:=by
 unfold few26 few24 at h;simp only[Bool.and_eq_true,decide_eq_true_eq,List.all_eq_true]at h;obtain⟨⟨⟨⟨⟨h1,h2⟩,h3⟩,h4⟩,h5⟩,h6,h7⟩:=h;exact⟨h1,h2,h3,h4,h5,h6,h7⟩
theorem few24_map (us:List (Ent×Value)):few24 (us.map (·.1))=(decide (us.length≤30)&&us.all fun p=>decide (p.1.lines.length≤60)):=by
 unfold few24;rw[List.length_map,List.all_map];rfl
end Go.Gk
namespace Go.Proofs.YtnjhfcopphpkpaaGreatDoor
open Go.RowKit Go.Gk
theorem refsame_any {w:World} {u v:Value} {l:List Rt6} (hk:RowsOf int6 6 (fun _=>True) w u l) (hl:RowsOf int6 6 (fun _=>True) w v l):
 Calls Tryz.prog 31 #[u,v] w fun x w'=>x=.returned (.bool true)∧Tf w w':=by
 have hk0:=hk;have hl0:=hl;obtain⟨A,c,rfl,hc1,hc2⟩:=hk.form;obtain⟨A',c',rfl,hc1',hc2'⟩:=hl.form;clear hk hl;go_enter Tryz.func31,Tryz.ntmps31;go_wp2_with fail;go_loopw [5] (fun i wr=>∃j:Nat,j≤l.length∧i=.int .i64 j∧Tf w wr) (fun i _=>l.length-(intOf i).toNat)
 case atStart=>exact⟨0,Nat.zero_le _,rfl,Tch.refl _ _⟩
 case round=>
  obtain⟨j,hj,rfl,ht⟩:=hrel;by_cases hlt:j<l.length
  ·have hlt':(j:Int)<(l.length:Int):=by omega
   have hj0:=znn j;obtain⟨g,o,rfl⟩:=hk0.head (by omega);obtain⟨g',o',rfl⟩:=hl0.head (by omega);obtain⟨q0,q1,q2,q3,q4,q5⟩:=Row.six (hk0.keep ht) (fun _=>rfl) hlt rfl;obtain⟨r0,r1,r2,r3,r4,r5⟩:=Row.six (hl0.keep ht) (fun _=>rfl) hlt rfl;clear hk0 hl0;generalize l[j]=x at *;obtain⟨x1,x2,x3,x4,x5,x6⟩:=x;simp only at q0 q1 q2 q3 q4 q5 r0 r1 r2 r3 r4 r5;have hcmp:∀w':World,(binOp .neq 31 (.agg #[.int .i64 x1,.int .i64 x2,.int .i64 x3,.int .i64 x4,.int .i64 x5,.int .i64 x6]) (.agg #[.int .i64 x1,.int .i64 x2,.int .i64 x3,.int .i64 x4,.int .i64 x5,.int .i64 x6])).run Tryz.prog w'=.ok (.bool false) w':=fun w'=>by rw[run_ne_Cell];simp
   go_wp2_with fail;go_quiet (fail)
   rename_i nq
   have t4:Tf wr (wr.drewN nq):=Tch.drewN _ _ _;have ht:=ht.trans t4;clear q0 q1 q2 q3 q4 q5 r0 r1 r2 r3 r4 r5;generalize wr.drewN nq=w4 at *;go_wp2;go_roundw
   case rel=>exact⟨j+1,by omega,by go_num,ht⟩
   case measure=>simp[intOf];omega
  ·obtain rfl:l.length=j:=by omega
   go_wp2;go_ret;exact⟨rfl,ht⟩
theorem few24_any {w:World} {v:Value} {us:List (Ent×Value)} (hu:EntsIs w v us):
 Calls Tryz.prog 28 #[v] w fun x w'=>x=.returned (.bool (few24 (us.map (·.1))))∧w=w':=by
 rw[few24_map];obtain⟨A,c,rfl,hc1,hc2⟩:=hu.row.form
 obtain⟨m,hm⟩:∃m,(decide (us.length≤30)&&us.all fun p=>decide (p.1.lines.length≤60))=m:=⟨_,rfl⟩
 rw[hm];have HM:=Lib.hid hm;clear hm;go_enter Tryz.func28,Tryz.ntmps28;by_cases hn:us.length≤30
 rotate_left
 ·obtain rfl:m=false:=by rw[←HM.out];simp[hn]
  have hn':¬(us.length:Int)≤30:=by omega
  have hn2:(30:Int)<(us.length:Int):=by omega
  clear HM hn;go_wp2;go_ret;exact⟨rfl,rfl⟩
 have hn':(us.length:Int)≤30:=by omega
 have hn2:¬(30:Int)<(us.length:Int):=by omega
 go_wp2_with fail;go_loopw [3] (fun i wr=>∃j:Nat,j≤us.length∧i=.int .i64 j∧w=wr∧(us.take j).all (fun p=>decide (p.1.lines.length≤60))=true) (fun i _=>us.length-(intOf i).toNat)
 case atStart=>exact⟨0,Nat.zero_le _,rfl,rfl,rfl⟩
 case round=>
  obtain⟨j,hj,rfl,rfl,hx⟩:=hrel;have HX:=Lib.hid hx;clear hx;by_cases hlt:j<us.length
  ·have hlt':(j:Int)<(us.length:Int):=by omega
   have hj0:=znn j;obtain⟨g,o,rfl⟩:=hu.row.head (by omega);obtain⟨q0,q1,q2⟩:=Row.three hu.row entC_len hlt rfl;have hL:=hu.lines us[j] (List.getElem_mem _);have HS:=Lib.hid (all_take_succ (p:=fun p:Ent×Value=>decide (p.1.lines.length≤60)) hlt);have HN:=Lib.hid (fun h=>all_no (p:=fun p:Ent×Value=>decide (p.1.lines.length≤60)) hlt h);clear hu;generalize us[j]=x at *;obtain⟨⟨yp,yr,yl⟩,yv⟩:=x;simp only at q0 q1 q2 hL HS HN;obtain⟨A',c',rfl,_,_⟩:=hL.form;by_cases h60:yl.length≤60
   ·have h1:(yl.length:Int)≤60:=by omega
    have h2:¬(60:Int)<(yl.length:Int):=by omega
    have HS:=Lib.hid (show(us.take (j+1)).all (fun p=>decide (p.1.lines.length≤60))=true by rw[HS.out,HX.out];simp[h60]);go_wp2;go_roundw
    case rel=>exact⟨j+1,by omega,by go_num,by trivial,HS.out⟩
    case measure=>simp[intOf];omega
   ·have h1:¬(yl.length:Int)≤60:=by omega
    have h2:(60:Int)<(yl.length:Int):=by omega
    obtain rfl:m=false:=by rw[←HM.out,HN.out (by simp[h60])];simp
    clear HM;go_wp2;go_ret;exact⟨rfl,rfl⟩
  ·obtain rfl:us.length=j:=by omega
   rw[List.take_length]at HX;obtain rfl:m=true:=by rw[←HM.out,HX.out];simp[hn]
   clear HM HX;go_wp2;go_ret;exact⟨rfl,rfl⟩
theorem few26_any {w:World} {e a s r l n:Value} {b:Bks} {us:List (Ent×Value)} (h:BksAt w e a s r l n b us):
 Calls Tryz.prog 6 #[.agg #[e,a,s,r,l,n]] w fun x w'=>x=.returned (.bool (few26 b))∧Tf w w':=by
 have tw:=tal w (.cells #[e,a,s,r,l,n] 29);have HF:=Lib.hid (few24_any (h.keep tw).ent);have hM:=h.map;rw[hM]at HF
 obtain⟨m,hm⟩:∃m,few26 b=m:=⟨_,rfl⟩
 rw[hm];unfold few26 at hm;generalize few24 b.entries=k at *;have HM:=Lib.hid hm;obtain⟨Ae,ce,rfl,_,_⟩:=h.ents.form;obtain⟨Aa,ca,rfl,_,_⟩:=h.accs.form;obtain⟨As,cs,rfl,_,_⟩:=h.stakes.form;obtain⟨Ar,cr,rfl,_,_⟩:=h.rates.form;obtain⟨Al,cl,rfl,_,_⟩:=h.locks.form;obtain⟨An,cn,rfl,_,_⟩:=h.ent.row.form;clear h hm hM;generalize b.ents.length=n1 at *;generalize b.accs.length=n2 at *;generalize b.stakes.length=n3 at *;generalize b.rates.length=n4 at *;generalize b.locks.length=n5 at *;go_enter Tryz.func6,Tryz.ntmps6;by_cases h0:n1≤50
 rotate_left
 ·obtain rfl:m=false:=by rw[←HM.out];simp[h0]
  have g0:¬(n1:Int)≤50:=by omega
  clear HM HF h0;go_wp2;go_ret;exact⟨rfl,tw⟩
 have g0:(n1:Int)≤50:=by omega
 by_cases h1:n2≤65
 rotate_left
 ·obtain rfl:m=false:=by rw[←HM.out];simp[h1]
  have g1:¬(n2:Int)≤65:=by omega
  clear HM HF h1;go_wp2;go_ret;exact⟨rfl,tw⟩
 have g1:(n2:Int)≤65:=by omega
 by_cases h2:n3≤20
 rotate_left
 ·obtain rfl:m=false:=by rw[←HM.out];simp[h2]
  have g2:¬(n3:Int)≤20:=by omega
  clear HM HF h2;go_wp2;go_ret;exact⟨rfl,tw⟩
 have g2:(n3:Int)≤20:=by omega
 by_cases h3:n4≤60
 rotate_left
 ·obtain rfl:m=false:=by rw[←HM.out];simp[h3]
  have g3:¬(n4:Int)≤60:=by omega
  clear HM HF h3;go_wp2;go_ret;exact⟨rfl,tw⟩
 have g3:(n4:Int)≤60:=by omega
 by_cases h4:n5≤60
 rotate_left
 ·obtain rfl:m=false:=by rw[←HM.out];simp[h4]
  have g4:¬(n5:Int)≤60:=by omega
  clear HM HF h4;go_wp2;go_ret;exact⟨rfl,tw⟩
 have g4:(n5:Int)≤60:=by omega
 obtain rfl:m=k:=by rw[←HM.out];simp[h0,h1,h2,h3,h4]
 clear HM h0 h1 h2 h3 h4;go_wp2_with fail;refine HF.out.mono ?_;rintro _ _ ⟨rfl,rfl⟩;clear HF;go_wp2;go_ret;exact⟨rfl,tw⟩
open Go.RowKit Go.Gk
theorem eqSpot (a b:Spot) (w:World):(Op.equalIn 10000 247 (spotV a) (spotV b)).run Tryz.prog w=.ok (decide (a=b)) w:=by
 obtain⟨a0,a1,a2⟩:=a;obtain⟨b0,b1,b2⟩:=b;unfold spotV;have u_int:=Tryz.underlying3;have a_int:=Tryz.isAgg3;have z_int:=Tryz.sizeOf3;have hS:Tryz.prog.underlying 247=some (.struct (Tryz.prog.fieldsOf 247)):=by kernel_rfl
 have hp:Tryz.prog.stoodInHeld 247=false:=by kernel_rfl
 rw[show(10000:Nat)=9999+1 from rfl,run_equalIn_agg w 9999 247 _ _ hS hp];simp only[Program.fieldsOf,Tryz.underlying247];go_simp
 by_cases h0:a0=b0<;>by_cases h1:a1=b1<;>by_cases h2:a2=b2<;>simp[h0,h1,h2]
theorem spotKey:KeyLaw Tryz.prog 247 spotV where
 eq:=fun a b w=>by
  unfold Op.equal;exact eqSpot a b w
 check:=fun e a w=>by
  obtain⟨a0,a1,a2⟩:=a;have u_int:=Tryz.underlying3;have a_int:=Tryz.isAgg3;have z_int:=Tryz.sizeOf3
  have hci:∀(n:Nat) (v:Int) (w:World),(Instr.checkKey e (n+1) 3 (.int .i64 v)).run Tryz.prog w=.ok () w:=fun n v w=>by
   rw[Instr.checkKey];simp only[Sem.run_bind,run_underlying u_int,Result.andThen_ok];rfl
  have hc9:∀(v:Int) (w:World),(Instr.checkKey e 9999 3 (.int .i64 v)).run Tryz.prog w=.ok () w:=fun v w=>hci 9998 v w
  rw[show(10000:Nat)=9999+1 from rfl,Instr.checkKey];simp only[spotV,Sem.run_bind,run_underlying Tryz.underlying247,Result.andThen_ok];rw[←Array.forIn_toList];simp only[List.forIn_cons,List.forIn_nil];go_simp
 bits:=fun a=>by simp[spotV,Instr.sameBits]
 desc:=⟨_,Tryz.underlying247,fun a b=>rfl⟩
theorem tallyRows:RowTy Tryz.prog 248 250 (.agg #[.int .i64 0,.int .i64 0,.int .i64 0]) 3 24:=⟨Tryz.underlying248,by kernel_rfl,rfl,by decide⟩
theorem zeroRows (w:World):(zeroValue 248).run Tryz.prog w=.ok (.slice none 0 0) w:=Tryz.zeroValue248 w
theorem one_int3 (l:List Rw3):∀u∈l.flatMap int3,u.oneCell'=true:=fun u hu=>by
 obtain⟨x,_,hx⟩:=List.mem_flatMap.1 hu;simp[int3]at hx;rcases hx with rfl|rfl|rfl<;>rfl
abbrev Tly (w:World) (B t mr mp:Nat) (ps:List Pst) (n:Int):Prop:=TallyIs 175 250 3 w B t mr mp ps n
theorem tlymade_any {w:World} {B t mr mp:Nat} {ps:List Pst} {n:Int} (h:Tly w B t mr mp ps n):
 Calls Tryz.prog 252 #[.pointer (some ⟨t,0,none⟩)] w fun e w'=>e=.returned (.bool true)∧w=w':=by
 have q0:=h.blk.at0;have hmn:∀w,(binOp .neq 172 (.map (some mr)) (.map none)).run Tryz.prog w=.ok (.bool true) w:=fun w=>run_neq_map_nil w _ _ _ _ Tryz.underlying172
 go_enter Tryz.func252,Tryz.ntmps252;go_wp2;go_ret;exact⟨rfl,rfl⟩
theorem tlythose_any {w:World} {B t mr mp:Nat} {ps:List Pst} {n:Int} (h:Tly w B t mr mp ps n) (hn:ps.length≤10000) (s:Spot) (q:Int):
 Calls Tryz.prog 200 #[.pointer (some ⟨t,0,none⟩),spotV s,.int .i64 q] w fun e w'=>∃u,e=.returned u∧Outs int3 3 250 w w' u ((rowsAt ps s).filter fun r=>q==0||r.2.1==q):=by
 obtain⟨a0,a1,a2⟩:=s;have tw:=tal w (.cells #[.int .i64 a0,.int .i64 a1,.int .i64 a2] 247);have h1:=h.keep tw (fun _ _ h=>h.elim);have hM:=tlymade_any h1;have hb:=Blk.new w 247 #[.int .i64 a0,.int .i64 a1,.int .i64 a2];obtain⟨R,M,ow,m1,m2,f1,f2,o1,o2⟩:=h1.ex;have hown:=f1.at (a0,a1,a2);obtain⟨A,c,hv,hc1,hc2,_⟩:=own_form hown;rw[hv]at hown;have hlen:=rowsAt_len ps (a0,a1,a2);have hrow:=Row.own (P:=fun _=>True) hown (fun _ _=>trivial);have HV:=Lib.hid hv;have hb1:=h1.blk;clear hv f1 f2 o1 o2 m2 h1 h hown;generalize rowsAt ps (a0,a1,a2)=l at *
 obtain⟨F,hF⟩:∃F:Rw3→Bool,(fun r:Rw3=>q==0||r.2.1==q)=F:=⟨_,rfl⟩
 rw[hF];have HF:=Lib.hid (fun x y m:Int=>show F (x,y,m)=(q==0||y==q) by rw[←hF]);clear hF;unfold spotV;go_enter Tryz.func200,Tryz.ntmps200;go_wp2_with fail;generalize w.alloc (.cells #[.int .i64 a0,.int .i64 a1,.int .i64 a2] 247)=W at *;generalize w.heap.size=z at *;refine hM.mono ?_;rintro _ _ ⟨rfl,rfl⟩;have c0:=within_cell (F:=fun _=>False) hb.at0 id;have c1:=within_cell (F:=fun _=>False) hb.at1 id;have c2:=within_cell (F:=fun _=>False) hb.at2 id;have t0:=within_cell (F:=fun _=>False) hb1.at0 id;clear hM hb1;go_wp2_with fail;refine wp_touch (fun _=>False) [] 8 [(5,.inl (.slice A l.length c))] [] ?_ ?_
 ·exact trivial
 intro bef _;iterate 5 (refine t_dq ?_;(try simp only[putS]))
 refine t_fix (.slice A l.length c) (by rfl) (by rfl) (fun w1 hr hf=>?_) ?_
 ·refine yields_look _ _ _ rfl spotKey Tryz.underlying172 (zeroRows w1) (k:=(a0,a1,a2)) (by rfl) (by rfl) (m1.is.keep ((Tch.drew _ W).trans hr) id) ?_;exact⟨⟨HV.out,Tch.refl _ _⟩,newAt_no⟩
 simp only[putS];iterate 2 (refine t_dq ?_;(try simp only[putS]))
 refine t_nil ?_;intro w1 hr hp1 hap;have t1:=(Tch.drew _ W).trans hr;have tt:=tw.trans t1;have hrow:=hrow.keep t1;clear hap hp1 c0 c1 c2 t0 hr HV m1 t1;go_wp2_with fail;go_loopw [7,20] (fun out i wr=>∃(j:Nat) (xs:List Rw3),j≤l.length∧i=.int .i64 j∧(l.take j).filter F=xs∧Outs int3 3 250 w1 wr out xs) (fun _ i _=>l.length-(intOf i).toNat)
 case atStart=>exact⟨0,[],Nat.zero_le _,rfl,rfl,Outs.start _ _ _ (Tch.refl _ _)⟩
 case round=>
  obtain⟨j,xs,hj,rfl,hx,hO⟩:=hrel;obtain⟨O,co,rfl,ho1,ho2⟩:=hO.form;have hxl:xs.length≤j:=by rw[←hx];exact Nat.le_trans (List.length_filter_le _ _) (by rw[List.length_take];omega)
  have HX:=Lib.hid hx;clear hx;by_cases hlt:j<l.length
  ·have hlt':(j:Int)<(l.length:Int):=by omega
   have hj0:=znn j;obtain⟨g,o,rfl⟩:=hrow.head (by omega);obtain⟨q0,q1,q2⟩:=Row.three (hrow.keep hO.tch) int3_len hlt rfl
   have HS:=Lib.hid (show(l.take (j+1)).filter F=xs++(if F l[j]then[l[j]]else[]) by
    rw[List.take_succ_eq_append_getElem hlt,List.filter_append,HX.out];congr 1
    by_cases hh:F l[j]=true<;>simp[hh])
   generalize l[j]=s at *;obtain⟨x,y,m⟩:=s;simp only at q0 q1 q2 HS;have hO:=hO.keep (Tch.alloc _ wr (.cells #[.int .i64 x,.int .i64 y,.int .i64 m] 250))
   cases hb1:(q==0)
   ·cases hb2:(y==q)
    ·have HS:=Lib.hid (show(l.take (j+1)).filter F=xs by rw[HS.out,HF.out,hb1,hb2];simp);go_wp2;go_roundw
     case rel=>exact⟨j+1,xs,by omega,by go_num,HS.out,hO⟩
     case measure=>simp[intOf];omega
    ·have HS:=Lib.hid (show(l.take (j+1)).filter F=xs++[(x,y,m)] by rw[HS.out,HF.out,hb1,hb2];simp);go_wp2_with (at_builtin;refine apd tallyRows (hO.own.alloc _) (Go.Gk.Src.one (news:=int3 (x,y,m)) rfl (fun m9 u9 hu9=>by rw[(Blk.new2 wr (.cells #[.int .i64 x,.int .i64 y,.int .i64 m] 250) 250 #[.int .i64 x,.int .i64 y,.int .i64 m]).cell m9];simpa[int3]using hu9)) (by simpa using one_int3 [(x,y,m)]) ?_;intro v2 w2 ho2 hg2 hl2;have hO2:=hO.step (x:=(x,y,m)) (Tch.alloc _ _ _) ho2 hg2 hl2;obtain⟨O2,co2,rfl,_,_⟩:=own_form ho2);go_roundw
     case rel=>exact⟨j+1,_,by omega,by go_num,HS.out,hO2⟩
     case measure=>simp[intOf];omega
   ·have HS:=Lib.hid (show(l.take (j+1)).filter F=xs++[(x,y,m)] by rw[HS.out,HF.out,hb1];simp);go_wp2_with (at_builtin;refine apd tallyRows (hO.own.alloc _) (Go.Gk.Src.one (news:=int3 (x,y,m)) rfl (fun m9 u9 hu9=>by rw[(Blk.new2 wr (.cells #[.int .i64 x,.int .i64 y,.int .i64 m] 250) 250 #[.int .i64 x,.int .i64 y,.int .i64 m]).cell m9];simpa[int3]using hu9)) (by simpa using one_int3 [(x,y,m)]) ?_;intro v2 w2 ho2 hg2 hl2;have hO2:=hO.step (x:=(x,y,m)) (Tch.alloc _ _ _) ho2 hg2 hl2;obtain⟨O2,co2,rfl,_,_⟩:=own_form ho2);go_roundw
    case rel=>exact⟨j+1,_,by omega,by go_num,HS.out,hO2⟩
    case measure=>simp[intOf];omega
  ·obtain rfl:l.length=j:=by omega
   rw[List.take_length]at HX;have e:=HX.out;subst e;go_wp2;go_ret;exact⟨_,rfl,hO.base tt⟩
theorem told2_eq (x:Int):asTold x=.tuple #[.int .i64 (told2 x).1,.int .i64 (told2 x).2]:=by
 unfold asTold told2;split<;>rfl
theorem tlytotal_any {w:World} {B t mr mp:Nat} {ps:List Pst} {n:Int} (h:Tly w B t mr mp ps n) (hn:ps.length≤10000) (h64:∀p∈ps,I64 p.2.2.2.2) (e a p q:Int):
 Calls Tryz.prog 234 #[.pointer (some ⟨t,0,none⟩),.int .i64 e,.int .i64 a,.int .i64 p,.int .i64 q] w fun x w'=>x=.returned (.tuple #[.int .i64 (told2 (amtsAt ps (e,a,p) q).sum).1,.int .i64 (told2 (amtsAt ps (e,a,p) q).sum).2])∧Tf w w':=by
 have hM:=tlymade_any h;have hT:=Lib.hid (tlythose_any h hn (e,a,p) q);have HA:=Lib.hid (amts_rows ps (e,a,p) q);have HL:=Lib.hid (Nat.le_trans (List.length_filter_le (fun r:Rw3=>q==0||r.2.1==q) _) (rowsAt_len ps (e,a,p)));generalize(rowsAt ps (e,a,p)).filter (fun r=>q==0||r.2.1==q)=l at *;have hl:=HL.out
 have HI:=Lib.hid (show I64s (amtsAt ps (e,a,p) q)from fun x hx=>by
  unfold amtsAt at hx;obtain⟨y,hy,rfl⟩:=List.mem_map.1 hx
  exact h64 y (List.mem_filter.1 hy).1)
 rw[←told2_eq,←HA.out];obtain⟨n1,n2,eq⟩:=asTold_form (l.map (·.2.2)).sum;rw[eq];have HEQ:=Lib.hid eq;clear eq h;unfold spotV at hT;go_enter Tryz.func234,Tryz.ntmps234;go_wp2_with fail;refine hM.mono ?_;rintro _ _ ⟨rfl,rfl⟩;clear hM;go_wp2_with fail;refine hT.out.mono ?_;rintro _ w1 ⟨u,rfl,hU⟩;clear hT;obtain⟨U,cu,rfl,hu1,hu2⟩:=hU.form;go_wp2_with fail;go_loopw [12,26] (fun out i wr=>∃(j:Nat) (xs:List Int),j≤l.length∧i=.int .i64 j∧(l.take j).map (·.2.2)=xs∧Outs int1 1 3 w1 wr out xs) (fun _ i _=>l.length-(intOf i).toNat)
 case atStart=>exact⟨0,[],Nat.zero_le _,rfl,rfl,Outs.start _ _ _ (Tch.refl _ _)⟩
 case round=>
  obtain⟨j,xs,hj,rfl,hx,hO⟩:=hrel;obtain⟨O,co,rfl,ho1,ho2⟩:=hO.form;have hxl:xs.length≤j:=by rw[←hx,List.length_map,List.length_take];omega
  have HX:=Lib.hid hx;clear hx;by_cases hlt:j<l.length
  ·have hlt':(j:Int)<(l.length:Int):=by omega
   have hj0:=znn j;obtain⟨g,o,rfl⟩:=hU.row.head (by omega);obtain⟨q0,q1,q2⟩:=Row.three (hU.row.keep hO.tch) int3_len hlt rfl;have HS:=Lib.hid (show(l.take (j+1)).map (·.2.2)=xs++[l[j].2.2] by rw[List.take_succ_eq_append_getElem hlt,List.map_append,HX.out];rfl);generalize l[j]=s at *;obtain⟨x,y,m⟩:=s;simp only at q0 q1 q2 HS;have hO:=hO.keep (Tch.alloc _ wr (.cells #[.int .i64 x,.int .i64 y,.int .i64 m] 250));go_wp2_with ((at_builtin;refine apd rowInts (hO.own.alloc _) (Go.Gk.Src.one (news:=[.int .i64 (m)]) rfl (fun m9 u9 hu9=>by rw[(Blk.new2 (wr) (.cells #[.int .i64 x,.int .i64 y,.int .i64 m] 250) 3 #[.int .i64 (m)]).cell m9];simpa using hu9)) (by simp;rfl) ?_;intro v2 w2 ho2 hg2 hl2;have hO2:=hO.step (x:=m) (Tch.alloc _ _ _) ho2 hg2 hl2;obtain⟨O2,co2,rfl,_,_⟩:=own_form ho2));go_roundw
   case rel=>exact⟨j+1,_,by omega,by go_num,HS.out,hO2⟩
   case measure=>simp[intOf];omega
  ·obtain rfl:l.length=j:=by omega
   rw[List.take_length]at HX;have HC:=numsum_any hO.row (by rw[←HX.out,HA.out];exact HI.out) (by omega);have HT:xs.sum=(l.map (·.2.2)).sum:=by rw[←HX.out]
   rw[HT,HEQ.out]at HC;clear HT;have HC:=Lib.hid HC;have tt:=hU.tch.trans hO.tch;clear HX;go_wp2_with fail;refine HC.out.mono ?_;rintro _ w2 ⟨rfl,t2⟩;clear HC;go_wp2;go_ret2
   exact⟨rfl,tt.trans t2⟩
end Go.Proofs.YtnjhfcopphpkpaaGreatDoor
namespace Go.Gk
open Go.RowKit
def seenL (tp e a s r l n lv:Value) (fs:List Value):List Value:=[tp,e,a,s,r,l,n,lv]++fs
structure ViewAt (TV TS TF T eR eI:TypeId) (w:World) (bv bi B t mr mp:Nat) (e a s r l n lv:Value) (fs:List Value) (b:Bks) (us:List (Ent×Value)):Prop where
 view:Blk w bv TV #[.pointer (some ⟨bi,0,none⟩)]
 seen:Blk w bi TS (seenL (.pointer (some ⟨t,0,none⟩)) e a s r l n lv fs).toArray
 tally:TallyIs T eR eI w B t mr mp (posts b.entries) b.entries.length
 bks:BksAt w e a s r l n b us
 leaves:RowsOf int1 1 (fun _=>True) w lv (accLeaves b.accs)
 len:fs.length=24
 forests:∀p:Nat,p<24→∃g:Nat,fs[p]?=some (.pointer (some ⟨g,0,none⟩))∧Blk w g TF (holdsCells b.stakes b.ents.length p b.ents.length).toArray
theorem ViewAt.keep {TV TS TF T eR eI:TypeId} {w w':World} {bv bi B t mr mp:Nat} {e a s r l n lv:Value} {fs:List Value} {b:Bks} {us:List (Ent×Value)} (h:ViewAt TV TS TF T eR eI w bv bi B t mr mp e a s r l n lv fs b us) (tc:Tf w w'):ViewAt TV TS TF T eR eI w' bv bi B t mr mp e a s r l n lv fs b us:=
 ⟨h.view.keep tc id,h.seen.keep tc id,h.tally.keep tc (fun _ _ h=>h.elim),h.bks.keep tc,h.leaves.keep tc,h.len,fun p hp=>let⟨g,h1,h2⟩:=h.forests p hp;⟨g,h1,h2.keep tc id⟩⟩
structure ViewFar (k:Nat) (w:World) (bv bi B t mr mp:Nat) (e a s r l n lv:Value) (fs:List Value) (b:Bks):Prop where
 blk:k≤bv∧k≤bi∧k≤t∧k≤mr∧k≤mp
 forests:∀(p g:Nat),fs[p]?=some (.pointer (some ⟨g,0,none⟩))→k≤g
 leaves:RowsOf int1 1 (fun g=>k≤g) w lv (accLeaves b.accs)
 books:BooksIs (fun g=>k≤g) w (.agg #[e,a,s,r,l,n]) b
theorem ViewFar.keep {k:Nat} {w w':World} {bv bi B t mr mp:Nat} {e a s r l n lv:Value} {fs:List Value} {b:Bks} (h:ViewFar k w bv bi B t mr mp e a s r l n lv fs b) {F:Nat→Prop} (tc:Tch F w w') (hF:∀g,F g→g<k):ViewFar k w' bv bi B t mr mp e a s r l n lv fs b:=
 ⟨h.blk,h.forests,h.leaves.keepTo tc (fun g _ hg=>⟨fun hf=>by have:=hF g hf;omega,hg⟩),h.books.keepTo tc (fun g _ hg=>⟨fun hf=>by have:=hF g hf;omega,hg⟩)⟩
theorem ViewFar.view {TV TS TF T eR eI:TypeId} {k:Nat} {w w':World} {bv bi B t mr mp:Nat} {e a s r l n lv:Value} {fs:List Value} {b:Bks} {us:List (Ent×Value)} (h:ViewFar k w bv bi B t mr mp e a s r l n lv fs b) (hv:ViewAt TV TS TF T eR eI w bv bi B t mr mp e a s r l n lv fs b us) {F:Nat→Prop} (tc:Tch F w w') (hF:∀g,F g→g<k):∃us',ViewAt TV TS TF T eR eI w' bv bi B t mr mp e a s r l n lv fs b us':=by
 obtain⟨k1,k2,k3,k4,k5⟩:=h.blk;have hlt:=hv.tally.lt;have hf:=h.keep tc hF;obtain⟨e1,a1,s1,r1,l1,n1,us',e0,hb⟩:=(hf.books.keepTo (B':=fun _=>True) (Tch.refl (fun _=>False) _) (fun _ _ _=>⟨id,trivial⟩)).at;injection e0 with e0;injection e0 with e0;simp only[List.cons.injEq,and_true]at e0;obtain⟨rfl,rfl,rfl,rfl,rfl,rfl⟩:=e0;refine⟨us',hv.view.keep tc (fun hf=>by have:=hF _ hf;omega),hv.seen.keep tc (fun hf=>by have:=hF _ hf;omega),hv.tally.keep tc (fun g _ hf=>by have:=hF _ hf;omega),hb,hf.leaves.weak (fun _ _=>trivial),hv.len,fun p hp=>?_⟩;obtain⟨g,h1,h2⟩:=hv.forests p hp;have:=h.forests p g h1;exact⟨g,h1,h2.keep tc (fun hf=>by have:=hF _ hf;omega)⟩
end Go.Gk
namespace Go.Proofs.YtnjhfcopphpkpaaGreatDoor
open Go.RowKit Go.Gk
abbrev Vw (w:World) (bv bi B t mr mp:Nat) (e a s r l n lv:Value) (fs:List Value) (b:Bks) (us:List (Ent×Value)):Prop:=ViewAt 97 92 190 175 250 3 w bv bi B t mr mp e a s r l n lv fs b us
section
variable {w:World} {bv bi B t mr mp:Nat} {e a s r l n lv:Value} {fs:List Value} {b:Bks} {us:List (Ent×Value)}
theorem vwmade_any (h:Vw w bv bi B t mr mp e a s r l n lv fs b us):
 Calls Tryz.prog 49 #[.pointer (some ⟨bv,0,none⟩)] w fun x w'=>x=.returned (.bool true)∧w=w':=by
 have q0:=h.view.at0;go_enter Tryz.func49,Tryz.ntmps49;go_wp2;go_ret;exact⟨rfl,rfl⟩
theorem vwmay_any (h:Vw w bv bi B t mr mp e a s r l n lv fs b us) (c:Rt6):
 Calls Tryz.prog 16 #[.pointer (some ⟨bv,0,none⟩),cellV c] w fun x w'=>x=.returned (.int .i64 (cellIn c b.ents.length b.accs.length))∧Tf w w':=by
 have HC:=Lib.hid (fun w'=>cellin_any c b.ents.length b.accs.length w');obtain⟨c1,c2,c3,c4,c5,c6⟩:=c;unfold cellV at HC⊢;simp only at HC⊢;generalize cellIn (c1,c2,c3,c4,c5,c6) b.ents.length b.accs.length=R at *;obtain⟨Ae,ce,rfl,_,_⟩:=h.bks.ents.form;obtain⟨Aa,ca,rfl,_,_⟩:=h.bks.accs.form;have tw:=tal w (.cells #[.int .i64 c1,.int .i64 c2,.int .i64 c3,.int .i64 c4,.int .i64 c5,.int .i64 c6] 31);have hb:=Blk.new w 31 #[.int .i64 c1,.int .i64 c2,.int .i64 c3,.int .i64 c4,.int .i64 c5,.int .i64 c6];have h1:=h.keep tw;have HM:=Lib.hid (vwmade_any h1);go_enter Tryz.func16,Tryz.ntmps16;go_wp2_with fail;generalize w.alloc (.cells #[.int .i64 c1,.int .i64 c2,.int .i64 c3,.int .i64 c4,.int .i64 c5,.int .i64 c6] 31)=W at *;generalize w.heap.size=z at *;refine HM.out.mono ?_;rintro _ _ ⟨rfl,rfl⟩;clear HM;have y0:=within_cell (F:=fun _=>False) hb.at0 id;have y1:=within_cell (F:=fun _=>False) hb.at1 id;have y2:=within_cell (F:=fun _=>False) hb.at2 id;have y3:=within_cell (F:=fun _=>False) hb.at3 id;have y4:=within_cell (F:=fun _=>False) hb.at4 id;have y5:=within_cell (F:=fun _=>False) hb.at5 id;have v0:=within_cell (F:=fun _=>False) h1.view.at0 id;have v1:=within_cell (F:=fun _=>False) h1.seen.at1 id;have v2:=within_cell (F:=fun _=>False) h1.seen.at2 id;go_wp2_with fail;refine wp_touch (fun _=>False) [] 19 [] [] ?_ ?_
 ·exact trivial
 intro bef _;iterate 19 (refine t_dq ?_;(try simp only[putS]))
 refine t_nil ?_;intro w1 hr hp1 hap;have t1:=(Tch.drew _ W).trans hr;clear hap hp1 hr y0 y1 y2 y3 y4 y5 v0 v1 v2;go_wp2_with fail;refine(HC.out w1).mono ?_;rintro _ w2 ⟨rfl,t2⟩;go_wp2;go_ret;exact⟨rfl,tw.trans (t1.trans t2)⟩
theorem vwleaf_any (h:Vw w bv bi B t mr mp e a s r l n lv fs b us) (hn:(accLeaves b.accs).length≤1000) (x:Int):
 Calls Tryz.prog 19 #[.pointer (some ⟨bv,0,none⟩),.int .i64 x] w (RetB ((accLeaves b.accs).contains x) w):=by
 have HC:=Lib.hid (contains_any h.leaves (by omega) x);have hM:=vwmade_any h;obtain⟨A,c,rfl,_,_⟩:=h.leaves.form;have v0:=h.view.at0;have v7:=h.seen.at7;generalize(accLeaves b.accs).contains x=R at *;generalize accLeaves b.accs=L at *;go_enter Tryz.func19,Tryz.ntmps19;go_wp2_with fail;refine hM.mono ?_;rintro _ _ ⟨rfl,rfl⟩;clear hM;go_wp2_with fail;refine HC.out.mono ?_;rintro _ w1 ⟨rfl,t1⟩;go_wp2;go_ret;exact⟨rfl,t1⟩
theorem vwtotal_any (h:Vw w bv bi B t mr mp e a s r l n lv fs b us) (hn:(posts b.entries).length≤10000) (h64:∀p∈posts b.entries,I64 p.2.2.2.2) (xe xa xp xq:Int):
 Calls Tryz.prog 172 #[.pointer (some ⟨bv,0,none⟩),.int .i64 xe,.int .i64 xa,.int .i64 xp,.int .i64 xq] w fun x w'=>x=.returned (.tuple #[.int .i64 (told2 (amtsAt (posts b.entries) (xe,xa,xp) xq).sum).1,.int .i64 (told2 (amtsAt (posts b.entries) (xe,xa,xp) xq).sum).2])∧Tf w w':=by
 have HC:=Lib.hid (tlytotal_any h.tally hn h64 xe xa xp xq);generalize told2 (amtsAt (posts b.entries) (xe,xa,xp) xq).sum=R at *;obtain⟨R1,R2⟩:=R;have hM:=vwmade_any h;have v0:=h.view.at0;have v7:=h.seen.at0;simp only at HC⊢;go_enter Tryz.func172,Tryz.ntmps172;go_wp2_with fail;refine hM.mono ?_;rintro _ _ ⟨rfl,rfl⟩;clear hM;go_wp2_with fail;refine HC.out.mono ?_;rintro _ w1 ⟨rfl,t1⟩;go_wp2;go_ret2
 exact⟨rfl,t1⟩
end
open Go.RowKit Go.Gk
theorem emoney_any (n:Int) (w:World):
 Calls Tryz.prog 152 #[.int .i64 n] w fun e w'=>e=.returned (.bool (Gk.money n))∧w=w':=by
 unfold Gk.money;by_cases h:1≤n
 ·rw[decide_eq_true h,Bool.true_and];go_enter Tryz.func152,Tryz.ntmps152;go_wp2;go_ret;exact⟨rfl,rfl⟩
 ·rw[decide_eq_false h,Bool.false_and];go_enter Tryz.func152,Tryz.ntmps152;go_wp2;go_ret;exact⟨rfl,rfl⟩
theorem ewrong_any (n:Int) (w:World):
 Calls Tryz.prog 151 #[.int .i64 n] w fun e w'=>e=.returned (.bool (!Gk.money n))∧w=w':=by
 have h:=emoney_any n w;generalize Gk.money n=b at *;go_enter Tryz.func151,Tryz.ntmps151;go_wp2_with fail;refine h.mono ?_;rintro _ _ ⟨rfl,rfl⟩
 cases b
 ·(go_wp2;go_ret;exact⟨rfl,rfl⟩)
 ·(go_wp2;go_ret;exact⟨rfl,rfl⟩)
theorem idxint_any {w:World} {v:Value} {l:List Int} (hl:RowsOf int1 1 (fun _=>True) w v l) (hn:l.length≤100000) (p:Int→Bool) (g:Nat) (lb:Array Value) (eg:∀args w,(callFunc g args).run Tryz.prog w=.ok (.enter g args) w)
 (hp:∀x w',Tf w w'→Calls Tryz.prog g (#[.int .i64 x]++lb) w' (RetB (p x) w')):
 Calls Tryz.prog 153 #[v,.func (.func g) #[] lb] w (RetIdx (l.any p) w):=by
 obtain⟨A,c,rfl,hc1,hc2⟩:=hl.form;have HP:=Lib.hid hp;clear hp;go_enter Tryz.func153,Tryz.ntmps153;go_wp2_with fail;go_loopw [8] (fun i wr=>∃j:Nat,j≤l.length∧i=.int .i64 j∧(l.take j).any p=false∧Tf w wr) (fun i _=>l.length-(intOf i).toNat)
 case atStart=>exact⟨0,Nat.zero_le _,rfl,rfl,Tch.refl _ _⟩
 case round=>
  obtain⟨j,hj,rfl,h2,ht⟩:=hrel;have H2:=Lib.hid h2;clear h2;by_cases hlt:j<l.length
  ·obtain⟨g',o,rfl⟩:=hl.head (by omega);have q:=Row.elem int1_len (hl.keep ht) hlt (j:=0) (by decide) (u:=.int .i64 l[j]) rfl;have q:wr.cell? ⟨g',o+j,none⟩=some (.int .i64 l[j]):=by simpa using q
   have hs:=any_take_succ (p:=p) hlt;have hy:=fun h=>any_yes (p:=p) hlt h
   have HC:=Lib.hid (HP.out l[j] wr ht);have HS:=Lib.hid hs;have HY:=Lib.hid hy;clear hs hy;generalize l[j]=x at *;have hlt':(j:Int)<(l.length:Int):=by omega
   have hj0:=znn j;go_wp2_with fail;refine HC.out.mono ?_;rintro _ w2 ⟨rfl,t2⟩;clear HC
   cases hb:p x
   ·rw[hb]at HS;clear hb HY;go_wp2;go_roundw
    case rel=>exact⟨j+1,by omega,by go_num,by rw[HS.out,H2.out];rfl,ht.trans t2⟩
    case measure=>simp[intOf];omega
   ·have hy:=HY.out hb;clear hb HY;go_wp2;go_ret;exact⟨j,rfl,by omega,by omega,by rw[hy];simp,ht.trans t2⟩
  ·obtain rfl:l.length=j:=by omega
   rw[List.take_length]at H2;go_wp2;go_ret;exact⟨-1,rfl,by omega,by omega,by rw[H2.out];rfl,ht⟩
theorem entcheck_any {w:World} {v:Value} {l:List Int} (hl:RowsOf int1 1 (fun _=>True) w v l) (hn:l.length≤100000):
 Calls Tryz.prog 77 #[v] w (RetAt (entsOK l) w):=by
 have hi:=idxint_any hl hn (fun c=>!Gk.money c) 151 #[] (enters_of Tryz.func151 (by kernel_rfl) rfl) (fun x w' t=>(ewrong_any x w').mono (by rintro _ _ ⟨rfl,rfl⟩;exact⟨rfl,Tch.refl _ _⟩));have hb:(l.any fun c=>!Gk.money c)=!l.all Gk.money:=by rw[List.not_all_eq_any_not]
 rw[hb]at hi;unfold entsOK;generalize l.all Gk.money=b at *;clear hb;obtain⟨A,c,rfl,hc1,hc2⟩:=hl.form;have HI:=Lib.hid hi;clear hi;by_cases hle:l.length≤40
 ·rw[decide_eq_true hle,Bool.true_and];have hle':(l.length:Int)≤40:=by omega
  go_enter Tryz.func77,Tryz.ntmps77;go_wp2_with fail;refine HI.out.mono ?_;rintro _ w1 ⟨i,rfl,h1,h2,h3,t⟩;clear HI
  cases b
  ·have h0:0≤i:=by simpa using h3
   clear h3;go_wp2;go_ret2
   exact⟨_,23,rfl,rfl,t⟩
  ·have h0:i<0:=by simpa using h3
   clear h3;go_wp2;go_ret2
   exact⟨_,0,rfl,rfl,t⟩
 ·rw[decide_eq_false hle,Bool.false_and];have hle':40<(l.length:Int):=by omega
  go_enter Tryz.func77,Tryz.ntmps77;go_wp2;go_ret2
  exact⟨_,3,rfl,rfl,Tch.refl _ _⟩
