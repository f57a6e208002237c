/-
  The probe of layer 37. (Printed by gen_yw.py.)
-/
import Derived.Test.YtnjhfcopphpkpaaGreatDoorZ22
import Derived.Test.YtnjhfcopphpkpaaGreatDoorZ77
set_option maxRecDepth 100000
set_option maxHeartbeats 25600000
namespace Go.Gk.V37
open Go.Gk.V33
def zfr:Bks:={zao with accs:=zao.accs++[(0,1,false,false),(6,1,false,false),(6,1,false,false)]}
theorem zwn:zba zfr=true:=by decide+kernel
theorem roll_e1:zfg zfr (7,2,6,0,1,0)=(⟨(0,0),[(7,2,7,0,1,0),(7,2,8,0,1,0)],[],(0,0,0,0,0,0),false,(0,0),false⟩,0):=by decide+kernel
theorem roll_e2:zfg zfr (7,2,4,0,1,0)=(⟨(0,0),[(3,2,4,0,1,0),(6,2,4,0,1,0)],[],(0,0,0,0,0,0),false,(0,0),false⟩,0):=by decide+kernel
theorem roll_e3:zfg zfr (7,2,9,0,1,0)=(⟨(0,0),[],[],(0,0,0,0,0,0),false,(0,0),false⟩,21):=by decide+kernel
theorem roll_i1:zoh zfr (1,2,5,0,0,0)=[1]:=by decide+kernel
theorem roll_i2:zoh zfr (2,2,5,0,0,0)=[]:=by decide+kernel
theorem roll_few:BksFew zfr:=⟨by decide,by decide,by decide,by decide,by decide,by decide,by decide⟩
end Go.Gk.V37
namespace Go.Proofs.YtnjhfcopphpkpaaGreatDoor
open Go.RowKit Go.Gk Go.Gk.V33 Go.Gk.V37
theorem zwo:Bks64 zfr:=by
 obtain⟨h1,h2,h3,h4,h5,h6⟩:=zrk;refine⟨h1,fun x hx=>?_,h3,h4,h5,h6⟩;rcases List.mem_append.1 hx with hx|hx
 ·exact h2 x hx
 ·simp only[List.mem_cons,List.not_mem_nil,or_false]at hx;rcases hx with rfl|rfl|rfl<;>exact⟨⟨by decide,by decide⟩,by decide,by decide⟩
theorem zfy:RuleFacts zfr:=⟨by decide,by decide,ztj zwo,by decide,by decide,by decide,zwn⟩
theorem ze1 (r a:Int) (w:World):
 Calls Tryz.prog 30 #[.int .i64 r,.int .i64 a] w fun x w'=>x=.returned (.agg #[.int .i64 r,.int .i64 2,.int .i64 a,.int .i64 0,.int .i64 1,.int .i64 0])∧Tf w w':=by
 go_enter Tryz.func30,Tryz.ntmps30;go_wp2;refine zfe (Blk.new w 31 _) ?_;exact⟨rfl,tal _ _⟩
theorem zrj (w:World) (hT:Tab64 3 w):
 Calls Tryz.prog 7 #[] w fun x w'=>x=.returned (.bool true)∧Tf w w':=by
 have HTB:=Lib.hid (fun w' (t9:Tf w w')=>hT.keep t9);clear hT;go_enter Tryz.func7,Tryz.ntmps7;go_wp2_with fail;refine(zwr w).mono ?_;rintro _ w1 ⟨e,a,s,r,l,n,us,rfl,hB,t1,hown,hkeep⟩;obtain⟨Ae,ce,rfl,_,_⟩:=hB.ents.form;obtain⟨Aa,ca,rfl,_,_⟩:=hB.accs.form;obtain⟨As,cs,rfl,_,_⟩:=hB.stakes.form;obtain⟨Ar,cr,rfl,_,_⟩:=hB.rates.form;obtain⟨Al,cl,rfl,_,_⟩:=hB.locks.form;obtain⟨An,cn,rfl,_,_⟩:=hB.ent.row.form;have HK:=Lib.hid hkeep;have HB:=Lib.hid hB;have tz:=tal w1 (.cells #[.slice Ae zao.ents.length ce,.slice Aa zao.accs.length ca,.slice As zao.stakes.length cs,.slice Ar zao.rates.length cr,.slice Al zao.locks.length cl,.slice An us.length cn] 29);have bz:=Blk.new w1 29 #[.slice Ae zao.ents.length ce,.slice Aa zao.accs.length ca,.slice As zao.stakes.length cs,.slice Ar zao.rates.length cr,.slice Al zao.locks.length cl,.slice An us.length cn];have T2:=t1.trans tz;have own2:=tz.own hown (fun _ _ h=>h)
 have hlt:=fun g hg=>(hown.lt g hg)
 have hsz:(w1.alloc (.cells #[.slice Ae zao.ents.length ce,.slice Aa zao.accs.length ca,.slice As zao.stakes.length cs,.slice Ar zao.rates.length cr,.slice Al zao.locks.length cl,.slice An us.length cn] 29)).heap.size=w1.heap.size+1:=by simp
 have k1:=bz.at1;clear hkeep hB hown;go_wp2_with (at_builtin;refine Hid.out ?_);generalize w1.alloc (.cells #[.slice Ae zao.ents.length ce,.slice Aa zao.accs.length ca,.slice As zao.stakes.length cs,.slice Ar zao.rates.length cr,.slice Al zao.locks.length cl,.slice An us.length cn] 29)=w2 at *;generalize hzw:w1.heap.size=z at *;have HZW:=Lib.hid hzw;clear hzw;refine Lib.hid ?_;have bA:=Blk.new w2 81 #[.int .i64 0,.int .i64 1,.bool false,.bool false,.int .i64 6,.int .i64 1,.bool false,.bool false,.int .i64 6,.int .i64 1,.bool false,.bool false];rw[hsz]at bA;have ta:=tal w2 (.cells #[.int .i64 0,.int .i64 1,.bool false,.bool false,.int .i64 6,.int .i64 1,.bool false,.bool false,.int .i64 6,.int .i64 1,.bool false,.bool false] 81);have hsA:=(Row.blk (B:=fun _=>True) (n:=3) (size:=4) bA trivial rfl (by decide)).src;refine apd zia (ta.own own2 (fun _ _ h=>h)) hsA (by decide) ?_ (h63:=by decide) (hbytes:=by decide);intro v3 w3 ho3 hg3 hl3;obtain⟨O3,k3,rfl,_,_⟩:=zac ho3;have tg:Tch (fun g=>(Value.slice Aa zao.accs.length ca).ownBlock=some g) _ w3:=Tch.grown hg3 fun k9 hk9=>.inl hk9
 have z3:=(bz.keep ta id).keep tg (fun h=>by have:=hlt _ h;omega);have T3:=(T2.trans ta).trans' tg (fun i hi=>.inr (hlt i hi).1)
 have HNZ:=Lib.hid (fun g (hg:(Value.slice O3 (zao.accs.length+3) k3).ownBlock=some g)=>show g≠z from by
  rcases hl3 g hg with h9|h9
  ·have:=hlt g h9;omega
  ·have:=bz.lt;have:=ta.size;omega)
 have k1b:=z3.at1;clear hlt hg3 hl3 bA hsA own2 bz k1;go_wp2_with (refine zab rfl _ _ _ rfl (z) 1 (.slice O3 (zao.accs.length+3) k3) (by rfl) (by rfl) rfl (by rfl) z3 (by simp) ?_;refine Hid.out ?_);refine Lib.hid ?_;intro w4 z4 ts;(try simp only[List.setIfInBounds_toArray,List.set_cons_succ,List.set_cons_zero]at z4);have own4:=ts.own ho3 (fun g hg he=>HNZ.out g hg he);have tt:=T3.trans' ts (fun i hi=>.inr (by have hi:i=z:=hi;have:=t1.size;have:=HZW.out;omega));have TT:Tch (fun g=>(Value.slice Aa zao.accs.length ca).ownBlock=some g) w1 w4:=(((tz.trans ta).mono (fun _ _ h=>h.elim)).trans tg).trans' ts (fun i hi=>.inr (by have hi:i=z:=hi;have:=HZW.out;omega));obtain⟨j1,j2,j3,j4,j5⟩:=HK.out w4 TT
 have hBr:BksAt w4 _ (.slice O3 (zao.accs.length+3) k3) _ _ _ _ zfr us:=⟨j1,Row.own own4 (fun _ _=>trivial),j2,j3,j4,j5,HB.out.map⟩
 obtain⟨g0,g1,g2,g3,g4,g5⟩:=z4.f6;clear z3 ho3 HNZ ts T2 T3 t1 tz ta tg TT own4 HK HB j1 j2 j3 j4 j5 k1b;go_wp2_with fail;refine(zwu hBr roll_few zwo).mono ?_;rintro _ w5 ⟨hsee,t5⟩;have tt:=tt.trans t5;clear hBr z4 g0 g1 g2 g3 g4 g5 t5
 rcases hsee with⟨h,_⟩|⟨_,bv,bi,B,t,mr,mp,e,a,s,r,l,n,lv,fs,us,rfl,hV⟩
 ·rw[zwn]at h;cases h
 go_wp2_with fail;refine(ze1 7 6 w5).mono ?_;rintro _ v1 ⟨rfl,t1⟩;have hV:=hV.keep t1;go_wp2_with fail;refine(zga hV zfy (HTB.out _ (tt.trans t1)) 7 2 6 0 1 0).mono ?_;rintro _ u1 ⟨q1,rfl,h1,t2⟩;rw[roll_e1]at h1⊢;obtain⟨pt,mt,rfl,hpt,hmt⟩:=h1;obtain⟨P1,c1,rfl,_,_⟩:=hpt.form;obtain⟨M1,d1,rfl,_,_⟩:=hmt.form;have hp1:=Lib.hid hpt;unfold rcpV;simp only[List.length_nil,List.length_cons,Nat.zero_add,Nat.reduceAdd]at hp1⊢;have ta:=tal u1 (.cells #[.int .i64 0,.int .i64 0,.slice P1 2 c1,.slice M1 0 d1,.int .i64 0,.int .i64 0,.int .i64 0,.int .i64 0,.int .i64 0,.int .i64 0,.bool false,.int .i64 0,.int .i64 0,.bool false] 46);have x1:=Blk.new u1 46 #[.int .i64 0,.int .i64 0,.slice P1 2 c1,.slice M1 0 d1,.int .i64 0,.int .i64 0,.int .i64 0,.int .i64 0,.int .i64 0,.int .i64 0,.bool false,.int .i64 0,.int .i64 0,.bool false];have t4:=t1.trans (t2.trans ta);have hV:=hV.keep (t2.trans ta);have tt:=tt.trans t4;have hp1:=Lib.hid (hp1.out.keep ta);clear hpt hmt ta t1 t2 t4;go_wp2_with fail;generalize u1.alloc _=W1 at *;generalize u1.heap.size=y1 at *;go_wp2_with fail;refine(ze1 7 4 W1).mono ?_;rintro _ v2 ⟨rfl,t1⟩;have hV:=hV.keep t1;go_wp2_with fail;refine(zga hV zfy (HTB.out _ (tt.trans t1)) 7 2 4 0 1 0).mono ?_;rintro _ u2 ⟨q2,rfl,h1,t2⟩;rw[roll_e2]at h1⊢;obtain⟨pt,mt,rfl,hpt,hmt⟩:=h1;obtain⟨P2,c2,rfl,_,_⟩:=hpt.form;obtain⟨M2,d2,rfl,_,_⟩:=hmt.form;have hp2:=Lib.hid hpt;unfold rcpV;simp only[List.length_nil,List.length_cons,Nat.zero_add,Nat.reduceAdd]at hp2⊢;have ta:=tal u2 (.cells #[.int .i64 0,.int .i64 0,.slice P2 2 c2,.slice M2 0 d2,.int .i64 0,.int .i64 0,.int .i64 0,.int .i64 0,.int .i64 0,.int .i64 0,.bool false,.int .i64 0,.int .i64 0,.bool false] 46);have x2:=Blk.new u2 46 #[.int .i64 0,.int .i64 0,.slice P2 2 c2,.slice M2 0 d2,.int .i64 0,.int .i64 0,.int .i64 0,.int .i64 0,.int .i64 0,.int .i64 0,.bool false,.int .i64 0,.int .i64 0,.bool false];have t4:=t1.trans (t2.trans ta);have hV:=hV.keep (t2.trans ta);have tt:=tt.trans t4;have hp2:=Lib.hid (hp2.out.keep ta);have x1:=x1.keep t4 id;have hp1:=Lib.hid (hp1.out.keep t4);clear hpt hmt ta t1 t2 t4;go_wp2_with fail;generalize u2.alloc _=W2 at *;generalize u2.heap.size=y2 at *;go_wp2_with fail;refine(ze1 7 9 W2).mono ?_;rintro _ v3 ⟨rfl,t1⟩;have hV:=hV.keep t1;go_wp2_with fail;refine(zga hV zfy (HTB.out _ (tt.trans t1)) 7 2 9 0 1 0).mono ?_;rintro _ u3 ⟨q3,rfl,h1,t2⟩;rw[roll_e3]at h1⊢;obtain⟨pt,mt,rfl,hpt,hmt⟩:=h1;obtain⟨P3,c3,rfl,_,_⟩:=hpt.form;obtain⟨M3,d3,rfl,_,_⟩:=hmt.form;have hp3:=Lib.hid hpt;unfold rcpV;simp only[List.length_nil]at hp3⊢;have ta:=tal u3 (.cells #[.int .i64 0,.int .i64 0,.slice P3 0 c3,.slice M3 0 d3,.int .i64 0,.int .i64 0,.int .i64 0,.int .i64 0,.int .i64 0,.int .i64 0,.bool false,.int .i64 0,.int .i64 0,.bool false] 46);have x3:=Blk.new u3 46 #[.int .i64 0,.int .i64 0,.slice P3 0 c3,.slice M3 0 d3,.int .i64 0,.int .i64 0,.int .i64 0,.int .i64 0,.int .i64 0,.int .i64 0,.bool false,.int .i64 0,.int .i64 0,.bool false];have t4:=t1.trans (t2.trans ta);have hV:=hV.keep (t2.trans ta);have tt:=tt.trans t4;have hp3:=Lib.hid (hp3.out.keep ta);have x1:=x1.keep t4 id;have hp1:=Lib.hid (hp1.out.keep t4);have x2:=x2.keep t4 id;have hp2:=Lib.hid (hp2.out.keep t4);clear hpt hmt ta t1 t2 t4;go_wp2_with fail;generalize u3.alloc _=W3 at *;generalize u3.heap.size=y3 at *;have m1:=wc0 x1.at2;have m2:=wc0 x2.at2;have HS1:=Lib.hid (fun(w':World) (t:Tf W3 w') (g:Nat) (hb:Blk w' g 31 #[.int .i64 7,.int .i64 2,.int .i64 7,.int .i64 0,.int .i64 1,.int .i64 0,.int .i64 7,.int .i64 2,.int .i64 8,.int .i64 0,.int .i64 1,.int .i64 0])=>zf9 (l:=[(7,2,7,0,1,0),(7,2,8,0,1,0)]) (hp1.out.keep t) (Row.blk hb trivial rfl (by decide)));have HS2:=Lib.hid (fun(w':World) (t:Tf W3 w') (g:Nat) (hb:Blk w' g 31 #[.int .i64 3,.int .i64 2,.int .i64 4,.int .i64 0,.int .i64 1,.int .i64 0,.int .i64 6,.int .i64 2,.int .i64 4,.int .i64 0,.int .i64 1,.int .i64 0])=>zf9 (l:=[(3,2,4,0,1,0),(6,2,4,0,1,0)]) (hp2.out.keep t) (Row.blk hb trivial rfl (by decide)));(try simp only[List.length_nil,List.length_cons,Nat.zero_add,Nat.reduceAdd]at HS1 HS2);have HI:=Lib.hid (fun(w':World) (t:Tf W3 w')=>zlw (hV.keep t) zfy.hn zfy.hp);have TT:=Lib.hid tt;clear x1 x2 x3 hp1 hp2 hp3 hV tt
 obtain⟨V1,hV1⟩:∃V:Value→World→Prop,V=fun u w'=>∃g,u=.slice (some ⟨g,0,none⟩) 2 2∧Blk w' g 31 #[.int .i64 7,.int .i64 2,.int .i64 7,.int .i64 0,.int .i64 1,.int .i64 0,.int .i64 7,.int .i64 2,.int .i64 8,.int .i64 0,.int .i64 1,.int .i64 0]:=⟨_,rfl⟩
 have HV1:=Lib.hid hV1
 obtain⟨V2,hV2⟩:∃V:Value→World→Prop,V=fun u w'=>∃g,u=.slice (some ⟨g,0,none⟩) 2 2∧Blk w' g 31 #[.int .i64 3,.int .i64 2,.int .i64 4,.int .i64 0,.int .i64 1,.int .i64 0,.int .i64 6,.int .i64 2,.int .i64 4,.int .i64 0,.int .i64 1,.int .i64 0]:=⟨_,rfl⟩
 have HV2:=Lib.hid hV2
 obtain⟨V3,hV3⟩:∃V:Value→World→Prop,V=fun u w'=>zae zby 1 (fun _=>True) w' u [1]:=⟨_,rfl⟩
 have HV3:=Lib.hid hV3
 obtain⟨V4,hV4⟩:∃V:Value→World→Prop,V=fun u w'=>∃g,u=.slice (some ⟨g,0,none⟩) 1 1∧Blk w' g 3 #[.int .i64 1]:=⟨_,rfl⟩
 have HV4:=Lib.hid hV4;clear hV1 hV2 hV3 hV4;refine zai (fun _=>False) [] 40 [(6,.inl (.agg #[.int .i64 7,.int .i64 2,.int .i64 7,.int .i64 0,.int .i64 1,.int .i64 0])),(8,.inl (.agg #[.int .i64 7,.int .i64 2,.int .i64 8,.int .i64 0,.int .i64 1,.int .i64 0])),(9,.inr V1),(10,.inl (.bool true)),(20,.inl (.agg #[.int .i64 3,.int .i64 2,.int .i64 4,.int .i64 0,.int .i64 1,.int .i64 0])),(22,.inl (.agg #[.int .i64 6,.int .i64 2,.int .i64 4,.int .i64 0,.int .i64 1,.int .i64 0])),(23,.inr V2),(24,.inl (.bool true)),(33,.inr V3),(34,.inr V4),(35,.inl (.bool true))] [] ?_ ?_
 ·rw[HV1.out,HV2.out,HV3.out,HV4.out];exact⟨fun _ _ _ hr ⟨g,h1,h2⟩=>⟨g,h1,h2.keep hr id⟩,fun _ _ _ hr ⟨g,h1,h2⟩=>⟨g,h1,h2.keep hr id⟩,fun _ _ _ hr h=>h.keep hr,fun _ _ _ hr ⟨g,h1,h2⟩=>⟨g,h1,h2.keep hr id⟩,trivial⟩
 intro bef hbef;have hb1:(bef.getD 10 0).testBit 9=true:=by rw[hbef];kernel_rfl
 have hb2:(bef.getD 24 0).testBit 23=true:=by rw[hbef];kernel_rfl
 have hb3:(bef.getD 35 0).testBit 33=true:=by rw[hbef];kernel_rfl
 have hb4:(bef.getD 35 0).testBit 34=true:=by rw[hbef];kernel_rfl
 clear hbef;iterate 6 (refine zbt ?_;(try simp only[zaw]))
 refine zb3 (.agg #[.int .i64 7,.int .i64 2,.int .i64 7,.int .i64 0,.int .i64 1,.int .i64 0]) (by rfl) (by rfl) (fun w5 hr hf=>?_) ?_
 ·refine zaa (d:=58) rfl (by simp) (fun K hK=>?_);go_step;refine(ze1 7 7 w5).mono ?_;rintro _ w6 ⟨rfl,t6⟩;exact hK _ _ ⟨⟨rfl,t6⟩,zaf⟩
 simp only[zaw];(refine zbt ?_;(try simp only[zaw]));refine zb3 (.agg #[.int .i64 7,.int .i64 2,.int .i64 8,.int .i64 0,.int .i64 1,.int .i64 0]) (by rfl) (by rfl) (fun w5 hr hf=>?_) ?_
 ·refine zaa (d:=60) rfl (by simp) (fun K hK=>?_);go_step;refine(ze1 7 8 w5).mono ?_;rintro _ w6 ⟨rfl,t6⟩;exact hK _ _ ⟨⟨rfl,t6⟩,zaf⟩
 simp only[zaw];refine zaq (by rfl) (by rfl) (fun w5 hr hf=>?_) (fun a1=>?_)
 ·refine zaa (d:=61) rfl (by simp) (fun K hK=>?_);go_step;refine hK _ _ ⟨⟨?_,Tch.alloc _ _ _⟩,zaf⟩;rw[HV1.out];exact⟨_,rfl,Blk.new _ _ _⟩
 simp only[zaw];refine zb3 (.bool true) (by rfl) (by rfl) (fun w5 hr hf=>?_) ?_
 ·have hv:=hf (9,fun w'=>V1 a1 w') (by simp) hb1;simp only at hv;rw[HV1.out]at hv;obtain⟨g,rfl,hg⟩:=hv;refine zaa (d:=62) rfl (by simp) (fun K hK=>?_);go_step;refine(HS1.out w5 ((Tch.drew _ W3).trans hr) g hg).mono ?_;rintro _ w6 ⟨rfl,t6⟩;exact hK _ _ ⟨⟨rfl,t6⟩,zaf⟩
 simp only[zaw];iterate 9 (refine zbt ?_;(try simp only[zaw]))
 refine zb3 (.agg #[.int .i64 3,.int .i64 2,.int .i64 4,.int .i64 0,.int .i64 1,.int .i64 0]) (by rfl) (by rfl) (fun w5 hr hf=>?_) ?_
 ·refine zaa (d:=72) rfl (by simp) (fun K hK=>?_);go_step;refine(ze1 3 4 w5).mono ?_;rintro _ w6 ⟨rfl,t6⟩;exact hK _ _ ⟨⟨rfl,t6⟩,zaf⟩
 simp only[zaw];(refine zbt ?_;(try simp only[zaw]));refine zb3 (.agg #[.int .i64 6,.int .i64 2,.int .i64 4,.int .i64 0,.int .i64 1,.int .i64 0]) (by rfl) (by rfl) (fun w5 hr hf=>?_) ?_
 ·refine zaa (d:=74) rfl (by simp) (fun K hK=>?_);go_step;refine(ze1 6 4 w5).mono ?_;rintro _ w6 ⟨rfl,t6⟩;exact hK _ _ ⟨⟨rfl,t6⟩,zaf⟩
 simp only[zaw];refine zaq (by rfl) (by rfl) (fun w5 hr hf=>?_) (fun a2=>?_)
 ·refine zaa (d:=75) rfl (by simp) (fun K hK=>?_);go_step;refine hK _ _ ⟨⟨?_,Tch.alloc _ _ _⟩,zaf⟩;rw[HV2.out];exact⟨_,rfl,Blk.new _ _ _⟩
 simp only[zaw];refine zb3 (.bool true) (by rfl) (by rfl) (fun w5 hr hf=>?_) ?_
 ·have hv:=hf (23,fun w'=>V2 a2 w') (by simp) hb2;simp only at hv;rw[HV2.out]at hv;obtain⟨g,rfl,hg⟩:=hv;refine zaa (d:=76) rfl (by simp) (fun K hK=>?_);go_step;refine(HS2.out w5 ((Tch.drew _ W3).trans hr) g hg).mono ?_;rintro _ w6 ⟨rfl,t6⟩;exact hK _ _ ⟨⟨rfl,t6⟩,zaf⟩
 simp only[zaw];iterate 8 (refine zbt ?_;(try simp only[zaw]))
 refine zaq (by rfl) (by rfl) (fun w5 hr hf=>?_) (fun a3=>?_)
 ·refine zaa (d:=85) rfl (by simp) (fun K hK=>?_);go_step;refine(HI.out w5 ((Tch.drew _ W3).trans hr) 1 2 5 0 0 0).mono ?_;rintro _ w6 ⟨u,rfl,hO⟩;rw[roll_i1]at hO;refine hK _ _ ⟨⟨?_,hO.tch⟩,zaf⟩;rw[HV3.out];exact hO.row
 simp only[zaw];refine zaq (by rfl) (by rfl) (fun w5 hr hf=>?_) (fun a4=>?_)
 ·refine zaa (d:=86) rfl (by simp) (fun K hK=>?_);go_step;refine hK _ _ ⟨⟨?_,Tch.alloc _ _ _⟩,zaf⟩;rw[HV4.out];exact⟨_,rfl,Blk.new _ _ _⟩
 simp only[zaw];refine zb3 (.bool true) (by rfl) (by rfl) (fun w5 hr hf=>?_) ?_
 ·have hv:=hf (33,fun w'=>V3 a3 w') (by simp) hb3;have hw:=hf (34,fun w'=>V4 a4 w') (by simp) hb4;simp only at hv hw;rw[HV3.out]at hv;rw[HV4.out]at hw;obtain⟨g,rfl,hg⟩:=hw;refine zaa (d:=87) rfl (by simp) (fun K hK=>?_);go_step;refine(zkn hv (Row.blk hg trivial rfl (by decide))).mono ?_;rintro _ w6 ⟨rfl,t6⟩;exact hK _ _ ⟨⟨rfl,t6⟩,zaf⟩
 simp only[zaw];iterate 4 (refine zbt ?_;(try simp only[zaw]))
 refine za6 ?_;intro w7 hr _ _;have t7:Tf W3 w7:=(Tch.drew _ W3).trans hr;have T7:=Lib.hid (TT.out.trans t7);have HJ:=Lib.hid (HI.out w7 t7 2 2 5 0 0 0);rw[roll_i2]at HJ;clear HS1 HS2 HI HTB m1 m2 TT t7 hr;go_wp2_with fail;refine HJ.out.mono ?_;rintro _ w8 ⟨u,rfl,hO⟩;obtain⟨O,co,rfl,_,_⟩:=hO.form;have T8:=T7.out.trans hO.tch;(try simp only[List.length_nil]);clear HJ hO;go_wp2;go_ret;exact⟨rfl,T8⟩
