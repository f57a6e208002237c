/-
  Accounts' children; the recipe of an account that is no leaf.
-/
import Derived.Test.YtnjhfcopphpkpaaGreatDoorZ76
import Derived.Test.YtnjhfcopphpkpaaGreatDoorZ21
set_option maxRecDepth 100000
set_option maxHeartbeats 6400000
namespace Go.Proofs.YtnjhfcopphpkpaaGreatDoor
open Go.RowKit Go.Gk Go.Gk.V33 Go.Gk.V37
theorem kid37_any {w:World} {v:Value} {l:List Acc} (hl:RowsOf acc4 4 (fun _=>True) w v l) (hn:l.length≤100000) (x a:Int) (h1:1≤x) (h2:x≤(l.length:Int)) {bl ba:Nat} (hv:w.cell? ⟨bl,0,none⟩=some v) (ha:w.cell? ⟨ba,0,none⟩=some (.int .i64 a)):
 Calls Tryz.prog 126 #[.int .i64 x,.pointer (some ⟨bl,0,none⟩),.pointer (some ⟨ba,0,none⟩)] w (RetB (accUp l x==a) w):=by
 obtain⟨k,rfl⟩:∃k:Nat,x=(k:Int)+1:=⟨(x-1).toNat,by omega⟩
 have hk:k<l.length:=by omega
 have hup:accUp l ((k:Int)+1)=l[k].1:=by
  unfold accUp;rw[show(((k:Int)+1)-1).toNat=k by omega,List.getElem?_eq_getElem hk];rfl
 rw[hup];obtain⟨A,c,rfl,_,_⟩:=hl.form;obtain⟨g,o,rfl⟩:=hl.head (by omega);obtain⟨p0,p1,p2,p3⟩:=Row.four hl acc4_len hk rfl;have hw:wrap64 ((k:Int)+1-1)=(k:Int):=by unfold wrap64;omega
 have hkl:(k:Int)<(l.length:Int):=by omega
 have hk0:=znn k;generalize l[k]=y at *;obtain⟨y1,y2,y3,y4⟩:=y;simp only at p0 p1 p2 p3⊢;have X0:=within_cell (F:=fun _=>False) hv id;have X1:=within_cell (F:=fun _=>False) ha id;have X2:=within_cell (F:=fun _=>False) p0 id;clear hl hup p1 p2 p3;go_enter Tryz.func126,Tryz.ntmps126;go_wp2_with fail;refine wp_touch (fun _=>False) [] 7 [] [] ?_ ?_
 ·exact trivial
 intro bef _;iterate 7 (refine t_dq ?_;(try simp only[putS]))
 refine t_nil ?_;intro w2 hr hp hap;have t2:=(Tch.drew (fun _=>False) w).trans hr;clear hap hp hr X0 X1 X2;go_wp2;go_ret;exact⟨rfl,t2⟩
theorem acckids_any {w:World} {v:Value} {l:List Acc} (hl:RowsOf acc4 4 (fun _=>True) w v l) (hn:l.length≤100000) (a:Int):
 Calls Tryz.prog 54 #[v,.int .i64 a] w fun e w'=>∃u,e=.returned u∧OutI w w' u (if accIs l a=true then kidsA l a else[]):=by
 have ta:=tal w (.cells #[.int .i64 a] 3);have tb:=tal (w.alloc (.cells #[.int .i64 a] 3)) (.cells #[v] 184);have tw:=ta.trans tb;have bA:=(Blk.new w 3 #[.int .i64 a]).keep tb id;have bT:=Blk.new2 w (.cells #[.int .i64 a] 3) 184 #[v];have hl1:=hl.keep tw;have HI:=Lib.hid (accis_any hl1 a);obtain⟨A,c,rfl,hc1,hc2⟩:=hl.form
 obtain⟨R,hR⟩:∃R,(if accIs l a=true then kidsA l a else[])=R:=⟨_,rfl⟩
 rw[hR];have HR:=Lib.hid hR;clear ta tb hl hR;go_enter Tryz.func54,Tryz.ntmps54;go_wp2_with fail;generalize(w.alloc (.cells #[.int .i64 a] 3)).alloc _=W at *;generalize w.heap.size=z at *;refine HI.out.mono ?_;rintro _ _ ⟨rfl,rfl⟩;clear HI;by_cases hi:accIs l a=true
 rotate_left
 ·have hi2:accIs l a=false:=by simpa using hi
  obtain rfl:([]:List Int)=R:=by rw[←HR.out,if_neg hi]
  rw[hi2];clear HR bA bT hi hi2;go_wp2;go_ret;exact⟨_,rfl,Outs.start _ _ _ tw⟩
 obtain rfl:kidsA l a=R:=by rw[←HR.out,if_pos hi]
 rw[hi];have t0:=bT.at0;have HC:=Lib.hid (accthose_any hl1 hn (fun x=>accUp l x==a) 126 #[] #[.pointer (some ⟨z+1,0,none⟩),.pointer (some ⟨z,0,none⟩)] (enters_of Tryz.func126 (by kernel_rfl) rfl) (fun x w' h1 h2 t=>kid37_any (hl1.keep t) hn x a h1 h2 ((bT.keep t id).cell 0) ((bA.keep t id).cell 0)));clear HR hi;go_wp2_with fail;refine HC.out.mono ?_;rintro _ w1 ⟨u,rfl,hO⟩;clear HC;obtain⟨O,co,rfl,ho1,ho2⟩:=hO.form;go_wp2;go_ret;exact⟨_,rfl,hO.base tw⟩
section
variable {w:World} {bv bi B t mr mp:Nat} {e a s r l n lv:Value} {fs:List Value} {b:Bks} {us:List (Ent×Value)}
theorem vwkids_any (h:Vw w bv bi B t mr mp e a s r l n lv fs b us) (hn:b.accs.length≤100000) (x:Int):
 Calls Tryz.prog 18 #[.pointer (some ⟨bv,0,none⟩),.int .i64 x] w fun y w'=>∃u,y=.returned u∧OutI w w' u (if accIs b.accs x=true then kidsA b.accs x else[]):=by
 have ta:=tal w (.cells #[.pointer (some ⟨bv,0,none⟩)] 34);have bV:=Blk.new w 34 #[.pointer (some ⟨bv,0,none⟩)];have h1:=h.keep ta;have hM:=Lib.hid (vwmade_any h1);have HK:=Lib.hid (acckids_any h1.bks.accs hn x);generalize(if accIs b.accs x=true then kidsA b.accs x else[])=R at *;obtain⟨Aa,ca,rfl,_,_⟩:=h.bks.accs.form;have b0:=bV.at0;have v0:=h1.view.at0;have v2:=h1.seen.at2;clear h h1 bV;go_enter Tryz.func18,Tryz.ntmps18;go_wp2_with fail;generalize w.alloc _=W at *;generalize w.heap.size=z at *;refine hM.out.mono ?_;rintro _ _ ⟨rfl,rfl⟩;clear hM
 have HC:Calls Tryz.prog 53 #[.int .i64 x,.pointer (some ⟨z,0,none⟩)] W fun y w'=>∃u,y=.returned u∧OutI W w' u R:=by
  go_enter Tryz.func53,Tryz.ntmps53;go_wp2_with fail;refine HK.out.mono ?_;rintro _ w1 ⟨u,rfl,hO⟩;obtain⟨O,co,rfl,_,_⟩:=hO.form;go_wp2;go_ret;exact⟨_,rfl,hO⟩
 have HC2:=Lib.hid HC;clear HK HC v0 v2 b0;go_wp2_with fail;refine HC2.out.mono ?_;rintro _ w1 ⟨u,rfl,hO⟩;obtain⟨O,co,rfl,_,_⟩:=hO.form;clear HC2;go_wp2;go_ret;exact⟨_,rfl,hO.base ta⟩
end
open Go.RowKit Go.Gk Go.Gk.V33 Go.Gk.V37
section
variable {w:World} {bv bi B t mr mp:Nat} {e a s r l n lv:Value} {fs:List Value} {b:Bks} {us:List (Ent×Value)}
theorem rolled_any (h:Vw w bv bi B t mr mp e a s r l n lv fs b us) (hac:b.accs.length≤1000) (c1 c2 c3 c4 c5 c6:Int):
 Calls Tryz.prog 37 #[.pointer (some ⟨bv,0,none⟩),.agg #[.int .i64 c1,.int .i64 c2,.int .i64 c3,.int .i64 c4,.int .i64 c5,.int .i64 c6]] w fun x w'=>∃(xs:List Rt6) (O:Option Addr) (co:Nat),xs=(if accIs b.accs c3=true then kidsA b.accs c3 else[]).map (childC (c1,c2,c3,c4,c5,c6))∧x=.returned (.agg #[.int .i64 0,.int .i64 0,.slice O xs.length co,.slice none 0 0,.int .i64 0,.int .i64 0,.int .i64 0,.int .i64 0,.int .i64 0,.int .i64 0,.bool false,.int .i64 0,.int .i64 0,.bool false])∧RowsOf int6 6 (fun g=>w.heap.size≤g) w' (.slice O xs.length co) xs∧Tf w w':=by
 have ta:=tal w (.cells #[.int .i64 c1,.int .i64 c2,.int .i64 c3,.int .i64 c4,.int .i64 c5,.int .i64 c6] 31);have tb:=tal (w.alloc (.cells #[.int .i64 c1,.int .i64 c2,.int .i64 c3,.int .i64 c4,.int .i64 c5,.int .i64 c6] 31)) (.cells #[.int .i64 0,.int .i64 0,.slice none 0 0,.slice none 0 0,.int .i64 0,.int .i64 0,.int .i64 0,.int .i64 0,.int .i64 0,.int .i64 0,.bool false,.int .i64 0,.int .i64 0,.bool false] 46);have tc:=tal ((w.alloc (.cells #[.int .i64 c1,.int .i64 c2,.int .i64 c3,.int .i64 c4,.int .i64 c5,.int .i64 c6] 31)).alloc (.cells #[.int .i64 0,.int .i64 0,.slice none 0 0,.slice none 0 0,.int .i64 0,.int .i64 0,.int .i64 0,.int .i64 0,.int .i64 0,.int .i64 0,.bool false,.int .i64 0,.int .i64 0,.bool false] 46)) (.cells #[.int .i64 0,.int .i64 0,.slice none 0 0,.slice none 0 0,.int .i64 0,.int .i64 0,.int .i64 0,.int .i64 0,.int .i64 0,.int .i64 0,.bool false,.int .i64 0,.int .i64 0,.bool false] 46);have tw:=(ta.trans tb).trans tc;have bC:=((Blk.new w 31 #[.int .i64 c1,.int .i64 c2,.int .i64 c3,.int .i64 c4,.int .i64 c5,.int .i64 c6]).keep tb id).keep tc id;have bO:=(Blk.new2 w (.cells #[.int .i64 c1,.int .i64 c2,.int .i64 c3,.int .i64 c4,.int .i64 c5,.int .i64 c6] 31) 46 #[.int .i64 0,.int .i64 0,.slice none 0 0,.slice none 0 0,.int .i64 0,.int .i64 0,.int .i64 0,.int .i64 0,.int .i64 0,.int .i64 0,.bool false,.int .i64 0,.int .i64 0,.bool false]).keep tc id;have bR:Blk (((w.alloc (.cells #[.int .i64 c1,.int .i64 c2,.int .i64 c3,.int .i64 c4,.int .i64 c5,.int .i64 c6] 31)).alloc (.cells #[.int .i64 0,.int .i64 0,.slice none 0 0,.slice none 0 0,.int .i64 0,.int .i64 0,.int .i64 0,.int .i64 0,.int .i64 0,.int .i64 0,.bool false,.int .i64 0,.int .i64 0,.bool false] 46)).alloc (.cells #[.int .i64 0,.int .i64 0,.slice none 0 0,.slice none 0 0,.int .i64 0,.int .i64 0,.int .i64 0,.int .i64 0,.int .i64 0,.int .i64 0,.bool false,.int .i64 0,.int .i64 0,.bool false] 46)) (w.heap.size+1+1) 46 #[.int .i64 0,.int .i64 0,.slice none 0 0,.slice none 0 0,.int .i64 0,.int .i64 0,.int .i64 0,.int .i64 0,.int .i64 0,.int .i64 0,.bool false,.int .i64 0,.int .i64 0,.bool false]:=by simpa using Blk.new ((w.alloc (.cells #[.int .i64 c1,.int .i64 c2,.int .i64 c3,.int .i64 c4,.int .i64 c5,.int .i64 c6] 31)).alloc (.cells #[.int .i64 0,.int .i64 0,.slice none 0 0,.slice none 0 0,.int .i64 0,.int .i64 0,.int .i64 0,.int .i64 0,.int .i64 0,.int .i64 0,.bool false,.int .i64 0,.int .i64 0,.bool false] 46)) 46 #[.int .i64 0,.int .i64 0,.slice none 0 0,.slice none 0 0,.int .i64 0,.int .i64 0,.int .i64 0,.int .i64 0,.int .i64 0,.int .i64 0,.bool false,.int .i64 0,.int .i64 0,.bool false]
 have hLN:(if accIs b.accs c3=true then kidsA b.accs c3 else[]).length≤1000:=by
  split
  ·exact Nat.le_trans (kids_len _ _) hac
  ·exact Nat.zero_le _
 have HVL:=Lib.hid (vwkids_any (h.keep tw) (by omega) c3);have hcc:=bC.at2;clear ta tb tc h;generalize(if accIs b.accs c3=true then kidsA b.accs c3 else[])=L at *;go_enter Tryz.func37,Tryz.ntmps37;go_wp2_with fail;generalize((w.alloc (.cells #[.int .i64 c1,.int .i64 c2,.int .i64 c3,.int .i64 c4,.int .i64 c5,.int .i64 c6] 31)).alloc (.cells #[.int .i64 0,.int .i64 0,.slice none 0 0,.slice none 0 0,.int .i64 0,.int .i64 0,.int .i64 0,.int .i64 0,.int .i64 0,.int .i64 0,.bool false,.int .i64 0,.int .i64 0,.bool false] 46)).alloc _=W at *;generalize hzw:w.heap.size=z at *;have HZW:=Lib.hid hzw;clear hzw;refine HVL.out.mono ?_;rintro _ w1 ⟨u,rfl,hO⟩;have bC1:=bC.keep hO.tch id;have bO1:=bO.keep hO.tch id;have bR1:=bR.keep hO.tch id;have T1:=tw.trans hO.tch;have hl:=hO.row;have HUU:=Lib.hid (fun g (hg:u.ownBlock=some g)=>(hO.own.lt g hg).1);obtain⟨U,cu,rfl,hu1,hu2⟩:=hO.form;have hzz:z+3≤w1.heap.size:=by have:=bR1.lt;omega
 have hln:(L.length:Int)≤1000:=by omega
 have HLB:=Lib.hid hl;have hzb:z+2<W.heap.size:=bR.lt;have HROW:=Lib.hid (fun wr (ht:Tch (fun g=>g=z+1+1) w1 wr)=>Row.keepTo (P':=fun _=>True) (Row.own hO.own (P:=fun g=>W.heap.size≤g) (fun g hg=>(hO.own.lt g hg).1)) ht (fun g _ hg=>⟨fun e=>by have e:g=z+1+1:=e;omega,trivial⟩));clear HVL hcc bC bO bR tw hO hl HUU HLB;go_wp2_with fail;go_loopw [14] (fun i wr=>∃(j:Nat) (xs:List Rt6) (O:Option Addr) (co:Nat),j≤L.length∧i=.int .i64 j∧(L.take j).map (childC (c1,c2,c3,c4,c5,c6))=xs∧Blk wr (z+1+1) 46 #[.int .i64 0,.int .i64 0,.slice O xs.length co,.slice none 0 0,.int .i64 0,.int .i64 0,.int .i64 0,.int .i64 0,.int .i64 0,.int .i64 0,.bool false,.int .i64 0,.int .i64 0,.bool false]∧wr.ownsRow w1.heap.size 31 6 (.slice O xs.length co) xs.length (xs.flatMap int6)∧Tch (fun g=>g=z+1+1) w1 wr) (fun i _=>L.length-(intOf i).toNat)
 case atStart=>exact⟨0,[],none,0,Nat.zero_le _,rfl,rfl,bR1,World.ownsRow_nil _ _ _ _,Tch.refl _ _⟩
 case round=>
  obtain⟨j,xs,O,co,hj,rfl,hxs,hR,hown,ht⟩:=hrel;have HXS:=Lib.hid hxs
  have hxl:xs.length≤j:=by
   rw[←hxs];rw[List.length_map,List.length_take];omega
  clear hxs;by_cases hlt:j<L.length
  ·have hlt':(j:Int)<(L.length:Int):=by omega
   have hj0:=znn j;have hl9:=HROW.out wr ht;obtain⟨g,o9,rfl⟩:=hl9.head (by omega);have q0:=Row.one hl9 int1_len hlt rfl
   have HP2:=Lib.hid (show(L.take (j+1)).map (childC (c1,c2,c3,c4,c5,c6))=xs++[(c1,c2,L[j],c4,c5,c6)] by
    rw[←HXS.out,List.take_succ_eq_append_getElem hlt,List.map_append]
    rfl)
   generalize L[j]=x at *;clear HXS hl9;have bCr:=bC1.keep ht (by omega);have tD:=tal wr (.cells #[.int .i64 c1,.int .i64 c2,.int .i64 x,.int .i64 c4,.int .i64 c5,.int .i64 c6] 31);have tE:=tal (wr.alloc (.cells #[.int .i64 c1,.int .i64 c2,.int .i64 x,.int .i64 c4,.int .i64 c5,.int .i64 c6] 31)) (.cells #[.int .i64 c1,.int .i64 c2,.int .i64 x,.int .i64 c4,.int .i64 c5,.int .i64 c6] 31);have tDE:=tD.trans tE;have hR2:=hR.keep tDE id;have hown2:=tDE.own hown (fun _ _=>id);have HSZ:=ht.size;have HBE:=Lib.hid (fun m9=>(Blk.new2 wr (.cells #[.int .i64 c1,.int .i64 c2,.int .i64 x,.int .i64 c4,.int .i64 c5,.int .i64 c6] 31) 31 #[.int .i64 c1,.int .i64 c2,.int .i64 x,.int .i64 c4,.int .i64 c5,.int .i64 c6]).cell m9);have m2:=(hR.keep tD id).at2;have HLT:=Lib.hid (fun g hg=>hown.lt g hg);have hlen5:xs.length≤1000:=by omega
   obtain⟨y0,y1,y2,y3,y4,y5⟩:=bCr.f6;clear hown hR bCr tD tE;go_wp2_with (at_builtin;refine Hid.out ?_);refine Lib.hid ?_;refine apd rowCells hown2 (Go.Gk.Src.one (news:=int6 (c1,c2,x,c4,c5,c6)) rfl (fun m9 u9 hu9=>by rw[HBE.out m9];simpa[int6]using hu9)) (one6 _) ?_;intro v2 w2 ho2 hg2 hl2;obtain⟨O2,co2,rfl,_,_⟩:=own_form ho2;have tg:Tch (fun g=>w1.heap.size≤g) _ w2:=Tch.grown hg2 fun k9 hk9=>.inl (HLT.out k9 hk9).1
   have hR3:=hR2.keep tg (by omega);have t2:=ht.trans (Exn.touch tDE);have t3:=t2.trans' tg (fun i hi=>.inr hi)
   have hob:∀g,(Value.slice O2 (xs.length+1) co2).ownBlock=some g→w1.heap.size≤g:=fun g hg=>by
    rcases hl2 g hg with h9|h9
    ·exact(HLT.out g h9).1
    ·have:=tDE.size;omega
   clear hR2 hown2 tDE tg hg2 hl2 ht t2 HBE;go_wp2_with (refine wpList_store_cell rfl _ _ _ rfl (z+1+1) 2 (.slice O2 (xs.length+1) co2) (by rfl) (by rfl) rfl (by rfl) hR3 (by simp) ?_;refine Hid.out ?_);refine Lib.hid ?_;intro w4 hR4 ts4;(try simp only[List.setIfInBounds_toArray,List.set_cons_succ,List.set_cons_zero]at hR4);have hown4:=ts4.own (own_up ho2 hob) (fun g hg he=>by have he:g=z+1+1:=he;have:=hob g hg;omega);have t4:=t3.trans ts4;clear hR3 ho2 hob ts4 t3 HLT;go_wp2;go_roundw
   case rel=>exact⟨j+1,xs++[(c1,c2,x,c4,c5,c6)],O2,co2,by omega,by go_num,HP2.out,by simpa using hR4,by simpa[int6]using hown4,t4⟩
   case measure=>simp[intOf]<;>omega
  ·obtain rfl:j=L.length:=by omega
   have hxs:=HXS.out;rw[List.take_length]at hxs;have hlt':¬(L.length:Int)<(L.length:Int):=by omega
   have bO2:=bO1.keep ht (by omega);obtain⟨r0,r1,r2,r3,r4,r5,r6,r7,r8,r9,r10,r11,r12,r13⟩:=hR.f14;have T2:=T1.trans' ht (fun i hi=>.inr (by have hi:i=z+1+1:=hi;have:=HZW.out;omega));have HROWS:=Lib.hid (fun w' (t9:Tch (fun g=>g=z+1) wr w')=>Row.keepTo (P':=fun g=>w.heap.size≤g) (Row.own hown (P:=fun g=>w1.heap.size≤g) (fun g hg=>(hown.lt g hg).1)) t9 (fun g _ hg=>⟨fun e=>by have e:g=z+1:=e;omega,by have:=HZW.out;omega⟩));have HXL:=Lib.hid hxs;clear hxs HXS hR hown hlt ht HROW bC1 bO1 bR1 T1;go_wp2_with (refine stH (z+1) #[.int .i64 0,.int .i64 0,.slice O xs.length co,.slice none 0 0,.int .i64 0,.int .i64 0,.int .i64 0,.int .i64 0,.int .i64 0,.int .i64 0,.bool false,.int .i64 0,.int .i64 0,.bool false] bO2 ?_);intro w9 HBF HTF;clear bO2 r0 r1 r2 r3 r4 r5 r6 r7 r8 r9 r10 r11 r12 r13;go_wp2;(try simp only[Exit.inBlock,Exit.then]);(try rw[Exit.noGoto_ret]);refine retR HBF.out ?_;refine⟨xs,O,co,HXL.out.symm,rfl,HROWS.out w9 HTF.out,T2.trans' (F':=fun g=>g=z+1) HTF.out (fun i hi=>.inr (by have hi:i=z+1:=hi;have:=HZW.out;omega))⟩
